/-
  Contracts of functions that the claim reaches, or the logic and the plain laws that they rest on, or the row over them. (Conditions: none beyond the statement.)
-/
import Derived.Test.YtcemkpiopijbmaaCqPj
set_option linter.all false
namespace Go.Proofs.Ytcemkpiopijbmaa
open Go.RowKit Go.SL Go.HpM Go.ShM 
set_option maxHeartbeats 1000000
set_option maxRecDepth 20000
set_option linter.all false
theorem cf29 : cfn Try.prog 29 = true := by kernel_rfl
theorem cf35 : cfn Try.prog 35 = true := by kernel_rfl
theorem cf38 : cfn Try.prog 38 = true := by kernel_rfl
theorem fo86_0 : fo Try.prog 86 0 = some (0, 4) := by kernel_rfl
theorem sz86 : sz Try.prog 86 = some 4 := by kernel_rfl
theorem tk86 : tk Try.prog 86 = some (some 4) := by kernel_rfl
theorem ud71 : Try.prog.underlying 71 = some (.pointer 90) := by kernel_rfl
theorem ud83 : Try.prog.underlying 83 = some (.slice 86) := by kernel_rfl
theorem zr84 : zr Try.prog 84 = some [.slice none 0 0] := by kernel_rfl
theorem zr86 : zr Try.prog 86 = some [.bool false, .int .u8 0, .int .i64 0, .int .u32 0] := by kernel_rfl
theorem Plays_yy {X : Asn} {v : Value} {qs : List SQ} {ao : Option Addr} {cap : Nat} {one two : Int} (hS : Sv [X] v 4 eSQ qs ao cap := by assumption) (hn : qs.length ≤ 1048576 := by omega) (hone : 0 ≤ one ∧ one ≤ 1099511627776) (htwo : 0 ≤ two ∧ two ≤ 1099511627776) : Ct Try.prog 7 [.int .i64 one, .int .i64 two, v] [X] (fun _ : Unit => .bool true) (fun _ => [X]) := by
  refine Ct_body (n := 123) Try.func7 rfl rfl rfl fun F w0 Q hret hnorm hp => ?_
  change WC _ _ _ _ _ _ _ (_ :: F)
  refine WC_sr fun K1 hK1 => ?_
  refine WL_rd (Rd_assign rfl) rfl rfl rfl ?_
  refine WL_end hK1 ?_
  refine WC_sr fun K2 hK2 => ?_
  refine WL_rd (Rd_move rfl) rfl rfl rfl ?_
  refine WL_ac (Ac_call cf23 rfl (hs := kS_new (tick := one) (h0 := hone.1) (h1 := hone.2))) rfl rfl rfl ?_
  rintro _ _ ⟨⟨c1, hb1⟩, rfl, hA⟩
  simp only [List.cons_append, List.nil_append] at hA
  replace hA := hA.symm
  subst hA
  refine WL_rd (Rd_move rfl) rfl rfl rfl ?_
  refine WL_rd (Rd_ext0 rfl) rfl rfl rfl ?_
  refine WL_rd (Rd_ext1 rfl) rfl rfl rfl ?_
  refine WL_rd (Rd_assign rfl) rfl rfl rfl ?_
  refine WL_rd (Rd_assign rfl) rfl rfl rfl ?_
  refine WL_end hK2 ?_
  refine WC_sr fun K3 hK3 => ?_
  refine WL_rd (Rd_move rfl) rfl rfl rfl ?_
  refine WL_ac (Ac_call cf23 rfl (hs := kS_new (tick := two) (h0 := htwo.1) (h1 := htwo.2))) rfl rfl rfl ?_
  rintro _ _ ⟨⟨c2, hb2⟩, rfl, hA⟩
  simp only [List.cons_append, List.nil_append] at hA
  replace hA := hA.symm
  subst hA
  refine WL_rd (Rd_move rfl) rfl rfl rfl ?_
  refine WL_rd (Rd_ext0 rfl) rfl rfl rfl ?_
  refine WL_rd (Rd_ext1 rfl) rfl rfl rfl ?_
  refine WL_rd (Rd_assign rfl) rfl rfl rfl ?_
  refine WL_rd (Rd_assign rfl) rfl rfl rfl ?_
  refine WL_end hK3 ?_
  refine WC_sr fun K4 hK4 => ?_
  refine WL_rd (Rd_move rfl) rfl rfl rfl ?_
  refine WL_ac (Ac_call cf29 rfl (hs := dNew_ct (t := one) hone.1 hone.2)) rfl rfl rfl ?_
  rintro _ _ ⟨y1, rfl, hA⟩
  simp only [List.cons_append, List.nil_append] at hA
  replace hA := hA.symm
  subst hA
  refine WL_rd (Rd_move rfl) rfl rfl rfl ?_
  refine WL_rd (Rd_ext0 rfl) rfl rfl rfl ?_
  refine WL_rd (Rd_ext1 rfl) rfl rfl rfl ?_
  refine WL_rd (Rd_assign rfl) rfl rfl rfl ?_
  refine WL_rd (Rd_assign rfl) rfl rfl rfl ?_
  refine WL_end hK4 ?_
  refine WC_sr fun K5 hK5 => ?_
  refine WL_rd (Rd_move rfl) rfl rfl rfl ?_
  refine WL_ac (Ac_call cf29 rfl (hs := dNew_ct (t := two) htwo.1 htwo.2)) rfl rfl rfl ?_
  rintro _ _ ⟨y2, rfl, hA⟩
  simp only [List.cons_append, List.nil_append] at hA
  replace hA := hA.symm
  subst hA
  refine WL_rd (Rd_move rfl) rfl rfl rfl ?_
  refine WL_rd (Rd_ext0 rfl) rfl rfl rfl ?_
  refine WL_rd (Rd_ext1 rfl) rfl rfl rfl ?_
  refine WL_rd (Rd_assign rfl) rfl rfl rfl ?_
  refine WL_rd (Rd_assign rfl) rfl rfl rfl ?_
  refine WL_end hK5 ?_
  refine WC_seq fun K6 hK6 => ?_
  refine WC_sr fun K7 hK7 => ?_
  refine WL_rd (Rd_move rfl) rfl rfl rfl ?_
  refine WL_rd (Rd_move rfl) rfl rfl rfl ?_
  refine WL_rd (Rd_neqN (i := 0) (j := 0) rfl rfl) rfl rfl rfl ?_
  refine WL_rd (Rd_move rfl) rfl rfl rfl ?_
  refine WL_rd (Rd_move rfl) rfl rfl rfl ?_
  refine WL_rd (Rd_move rfl) rfl rfl rfl ?_
  refine WL_rd (Rd_neqN (i := 0) (j := 0) rfl rfl) rfl rfl rfl ?_
  refine WL_rd (Rd_pickF rfl rfl) rfl rfl rfl ?_
  refine WL_rd (Rd_move rfl) rfl rfl rfl ?_
  refine WL_rd (Rd_move rfl) rfl rfl rfl ?_
  refine WL_rd (Rd_peq rfl rfl ud55) rfl rfl rfl ?_
  refine WL_rd (Rd_move rfl) rfl rfl rfl ?_
  refine WL_rd (Rd_peq rfl rfl ud71) rfl rfl rfl ?_
  refine WL_rd (Rd_isF (Rd_bne rfl rfl ud4)) rfl rfl rfl ?_
  refine WL_rd (Rd_pickF rfl rfl) rfl rfl rfl ?_
  refine WL_rd (Rd_move rfl) rfl rfl rfl ?_
  refine WL_rd (Rd_move rfl) rfl rfl rfl ?_
  refine WL_rd (Rd_peq rfl rfl ud55) rfl rfl rfl ?_
  refine WL_rd (Rd_move rfl) rfl rfl rfl ?_
  refine WL_rd (Rd_peq rfl rfl ud71) rfl rfl rfl ?_
  refine WL_rd (Rd_isF (Rd_bne rfl rfl ud4)) rfl rfl rfl ?_
  refine WL_rd (Rd_pickF rfl rfl) rfl rfl rfl ?_
  refine WL_rd (Rd_move rfl) rfl rfl rfl ?_
  refine WL_ac (Ac_call cf10 rfl (hs := awake_ct)) rfl rfl rfl ?_
  rintro _ _ ⟨⟨⟩, rfl, hA⟩
  simp only [List.cons_append, List.nil_append] at hA
  replace hA := hA.symm
  subst hA
  refine WL_rd (Rd_not rfl) rfl rfl rfl ?_
  refine WL_rd (Rd_pickF rfl rfl) rfl rfl rfl ?_
  refine WL_end hK7 ?_
  refine WC_condF rfl ?_
  refine WC_skip ?_
  refine Ps_next hK6 ?_
  refine WC_seq fun K8 hK8 => ?_
  refine WC_sr fun K9 hK9 => ?_
  refine WL_rd (Rd_move rfl) rfl rfl rfl ?_
  refine WL_rd (Rd_peq rfl rfl ud55) rfl rfl rfl ?_
  refine WL_rd (Rd_move rfl) rfl rfl rfl ?_
  refine WL_rd (Rd_move rfl) rfl rfl rfl ?_
  refine WL_rd (Rd_peq rfl rfl ud55) rfl rfl rfl ?_
  refine WL_rd (Rd_pickF rfl rfl) rfl rfl rfl ?_
  refine WL_end hK9 ?_
  refine WC_condF rfl ?_
  refine WC_skip ?_
  refine Ps_next hK8 ?_
  refine WC_sr fun K10 hK10 => ?_
  refine WL_ac (Ac_alloc zr84) rfl rfl rfl ?_
  rintro _ _ ⟨b15, rfl, rfl⟩
  refine WL_end hK10 ?_
  refine WC_seq fun K11 hK11 => ?_
  refine WC_sr fun K12 hK12 => ?_
  refine WL_rd (Rd_move rfl) rfl rfl rfl ?_
  refine WL_rd (Rd_len_sv rfl rfl ud83) rfl rfl rfl ?_
  refine WL_rd (Rd_move rfl) rfl rfl rfl ?_
  refine WL_end hK12 ?_
  refine WC_block ?_
  refine WC_star0 (FPU kS_eD 62) ?_
  refine WC_imp (fun w h => sat_nil (e := 1) (T := 65) (f := ePU) h) ?_
  rw [show cl b15 84 [.slice none 0 0] = cl b15 84 [sl (⟨[], none, 0⟩ : KP).a (⟨[], none, 0⟩ : KP).ps.length (⟨[], none, 0⟩ : KP).cap] from rfl]
  rw [show cl c1 121 [.int .i64 one, .int .i64 (((0 : Nat)) : Int), .pointer (some ⟨hb1, 0, none⟩)] = cl c1 121 [.int .i64 (⟨[], [], 0, one, none, 0⟩ : CS).now, .int .i64 (((⟨[], [], 0, one, none, 0⟩ : CS).made : Nat) : Int), .pointer (some ⟨hb1, 0, none⟩)] from rfl, show kS_h_hpA (.func (.func 59) #[] ([] : List Value).toArray) hb1 [] 0 = kS_h_hpA (.func (.func 59) #[] ([] : List Value).toArray) hb1 (⟨[], [], 0, one, none, 0⟩ : CS).rows (⟨[], [], 0, one, none, 0⟩ : CS).made from rfl, show cl y1 90 [.int .i64 one, .int .i64 ((0 : Nat) : Int), sl none ([] : List (Nat × DW)).length 0] = cl y1 90 [.int .i64 (⟨[], [], 0, one, none, 0⟩ : CS).now, .int .i64 (((⟨[], [], 0, one, none, 0⟩ : CS).made : Nat) : Int), sl (⟨[], [], 0, one, none, 0⟩ : CS).a (⟨[], [], 0, one, none, 0⟩ : CS).L.length (⟨[], [], 0, one, none, 0⟩ : CS).cap] from rfl]
  rw [show cl c2 121 [.int .i64 two, .int .i64 (((0 : Nat)) : Int), .pointer (some ⟨hb2, 0, none⟩)] = cl c2 121 [.int .i64 (⟨[], [], 0, two, none, 0⟩ : CS).now, .int .i64 (((⟨[], [], 0, two, none, 0⟩ : CS).made : Nat) : Int), .pointer (some ⟨hb2, 0, none⟩)] from rfl, show kS_h_hpA (.func (.func 59) #[] ([] : List Value).toArray) hb2 [] 0 = kS_h_hpA (.func (.func 59) #[] ([] : List Value).toArray) hb2 (⟨[], [], 0, two, none, 0⟩ : CS).rows (⟨[], [], 0, two, none, 0⟩ : CS).made from rfl, show cl y2 90 [.int .i64 two, .int .i64 ((0 : Nat) : Int), sl none ([] : List (Nat × DW)).length 0] = cl y2 90 [.int .i64 (⟨[], [], 0, two, none, 0⟩ : CS).now, .int .i64 (((⟨[], [], 0, two, none, 0⟩ : CS).made : Nat) : Int), sl (⟨[], [], 0, two, none, 0⟩ : CS).a (⟨[], [], 0, two, none, 0⟩ : CS).L.length (⟨[], [], 0, two, none, 0⟩ : CS).cap] from rfl]
  refine WC_loopK (σ := Nat × CS × CS × KP) (fun ⟨k, s1, s2, p⟩ => [(75, .int .i64 ((k : Nat) : Int))]) (fun ⟨k, s1, s2, p⟩ => [cl c1 121 [.int .i64 s1.now, .int .i64 ((s1.made : Nat) : Int), .pointer (some ⟨hb1, 0, none⟩)], kS_h_hpA (.func (.func 59) #[] ([] : List Value).toArray) hb1 s1.rows s1.made, emp, cl y1 90 [.int .i64 s1.now, .int .i64 ((s1.made : Nat) : Int), sl s1.a s1.L.length s1.cap], arr s1.a s1.cap 3 81 eDR s1.L, cl c2 121 [.int .i64 s2.now, .int .i64 ((s2.made : Nat) : Int), .pointer (some ⟨hb2, 0, none⟩)], kS_h_hpA (.func (.func 59) #[] ([] : List Value).toArray) hb2 s2.rows s2.made, emp, cl y2 90 [.int .i64 s2.now, .int .i64 ((s2.made : Nat) : Int), sl s2.a s2.L.length s2.cap], arr s2.a s2.cap 3 81 eDR s2.L, cl b15 84 [sl p.a p.ps.length p.cap], arr p.a p.cap 1 65 ePU p.ps, star (FPU kS_eD 62) p.ps]) (fun ⟨k, s1, s2, p⟩ => k ≤ qs.length ∧ CI s1 ∧ CI s2 ∧ s1.made ≤ k ∧ s2.made ≤ k ∧ KI p k) (fun ⟨k, s1, s2, p⟩ => qs.length - k) ⟨0, (⟨[], [], 0, one, none, 0⟩ : CS), (⟨[], [], 0, two, none, 0⟩ : CS), ⟨[], none, 0⟩⟩ [7, 9, 11, 13, 15, 20, 73, 74, 91, 92, 93, 94, 95, 96, 97, 98, 99, 100, 101, 102, 103, 104, 105, 106, 107, 108, 109, 110, 111, 112, 113, 114, 115, 116, 117, 118, 119, 120, 121, 122] (by repeat (first | exact Kep.nil | apply Kep.drop rfl | apply Kep.keep rfl)) (by (try dsimp only); repeat (first | with_reducible exact Gv.nil | (with_reducible apply Gv.cons; · (repeat (first | with_reducible exact Ext.here | with_reducible apply Ext.there))))) ?_ ?_ Sub.refl ?_
  · exact ⟨Nat.zero_le _, ⟨Ck_nil, hone⟩, ⟨Ck_nil, htwo⟩, Nat.le_refl _, Nat.le_refl _, ⟨fun x h => (by cases h), Nat.le_refl _⟩⟩
  · (try dsimp only); exact (Wk.cons (by first | rfl | (simp only [List.length_append, List.length_cons, List.length_nil, List.length_replicate, Nat.zero_add]; rfl) | (simp; done)) Wk.nil)
  · rintro ⟨k, s1, s2, p⟩ ⟨hk, hI1, hI2, hm1, hm2, hK⟩ K13 hK13
    simp only [List.cons_append, List.nil_append]
    refine WC_sr fun K14 hK14 => ?_
    refine WL_rd (Rd_lssN rfl rfl) rfl rfl rfl ?_
    refine WL_end hK14 ?_
    refine WC_seq fun K15 hK15 => ?_
    refine WC_cond rfl (fun hc2 => ?_) (fun hc2 => ?_)
    · try simp only [decide_eq_true_eq, decide_eq_false_iff_not, Bool.not_eq_true', Bool.not_eq_false', Bool.not_eq_true, Bool.not_eq_false, Int.not_lt, Int.not_le, Nat.not_lt, Nat.not_le, Decidable.not_not, ne_eq] at hc2
      obtain ⟨q, hq⟩ := at_r (l := qs) (i := k) (by omega)
      refine WC_skip ?_
      refine Ps_next hK15 ?_
      refine WC_seq fun K16 hK16 => ?_
      refine WC_block ?_
      refine WC_sr fun K17 hK17 => ?_
      refine WL_rd (Rd_index_sv k rfl rfl ud83 sz86 (hA := hS) (hi := by omega)) rfl rfl rfl ?_
      refine WL_rd (Rd_loadg_sv (f := eSQ) (i := k) rfl tk86 (hA := hS) (hl := hq)) rfl rfl rfl ?_
      refine WL_ac (Ac_alloc zr86) rfl rfl rfl ?_
      rintro _ _ ⟨b17, rfl, rfl⟩
      refine WL_ac0 (Ac_store (ys := eSQ q) rfl rfl sz86 (h1 := encSQ.one q) (hr := rfl)) rfl rfl ?_
      rintro _ _ rfl
      refine WL_end hK17 ?_
      refine WC_sr fun K18 hK18 => ?_
      refine WL_rd (Rd_move rfl) rfl rfl rfl ?_
      refine WL_rd (Rd_assign rfl) rfl rfl rfl ?_
      refine WL_end hK18 ?_
      refine WC_sr fun K19 hK19 => ?_
      refine WL_rd (Rd_move rfl) rfl rfl rfl ?_
      refine WL_rd (Rd_assign rfl) rfl rfl rfl ?_
      refine WL_end hK19 ?_
      refine WC_seq fun K20 hK20 => ?_
      refine WC_sr fun K21 hK21 => ?_
      refine WL_rd (Rd_fieldAddr rfl fo86_0) rfl rfl rfl ?_
      refine WL_rd (Rd_load rfl tk4 (v := .bool q.sec)) rfl rfl rfl ?_
      refine WL_end hK21 ?_
      refine WC_cond rfl (fun hc3 => ?_) (fun hc3 => ?_)
      · try simp only [decide_eq_true_eq, decide_eq_false_iff_not, Bool.not_eq_true', Bool.not_eq_false', Bool.not_eq_true, Bool.not_eq_false, Int.not_lt, Int.not_le, Nat.not_lt, Nat.not_le, Decidable.not_not, ne_eq] at hc3
        refine WC_sr fun K22 hK22 => ?_
        refine WL_rd (Rd_move rfl) rfl rfl rfl ?_
        refine WL_rd (Rd_assign rfl) rfl rfl rfl ?_
        refine WL_end hK22 ?_
        refine WC_region ?_
        refine WL_rd (Rd_move rfl) rfl rfl rfl ?_
        refine WL_rd (Rd_assign rfl) rfl rfl rfl ?_
        refine WL_nil ?_
        refine Ps_next hK20 ?_
        refine WC_sr fun K23 hK23 => ?_
        refine WL_rd (Rd_move rfl) rfl rfl rfl ?_
        refine WL_rd (Rd_move rfl) rfl rfl rfl ?_
        refine WL_rd (Rd_loadg (vs := eSQ q) rfl tk86 (hi := rfl)) rfl rfl rfl ?_
        refine WL_ac (Ac_call cf35 rfl (hs := step_ct (c := c2) (hb := hb2) (y := y2) (k := b15) (n := k) (s := s2) (p := p) (q := q) (hI := hI2) (hK := hK))) rfl rfl rfl ?_
        rintro _ _ ⟨⟨⟨g, gp⟩, hgI, hgm, hgK⟩, rfl, hA⟩
        simp only [List.cons_append, List.nil_append] at hA
        replace hA := hA.symm
        subst hA
        dsimp only at hgI hgm hgK ⊢
        refine WL_rd (Rd_not rfl) rfl rfl rfl ?_
        refine WL_end hK23 ?_
        refine WC_condF rfl ?_
        refine WC_skip ?_
        refine Ps_next hK16 ?_
        refine WC_region ?_
        refine WL_rd (Rd_addN (j := 1) rfl rfl) rfl rfl rfl ?_
        refine WL_rd (Rd_move rfl) rfl rfl rfl ?_
        refine WL_nil ?_
        refine Ps_wk (by (try simp only [List.cons_append, List.nil_append]); repeat (first | with_reducible exact Wk.nil | refine Wk.cons (by first | rfl | (simp only [List.length_append, List.length_cons, List.length_nil, List.length_replicate, Nat.zero_add]; rfl) | (simp; done)) ?_)) (by (try simp only [List.cons_append, List.nil_append]); repeat (first | with_reducible exact Sub.refl | with_reducible exact Sub.nil | with_reducible refine Sub.cons (by repeat (first | with_reducible exact Ext.here | with_reducible apply Ext.there)) ?_ | with_reducible refine Sub.tail ?_)) (hK13 ⟨k + 1, s1, g, gp⟩ (⟨by (try dsimp only); omega, hI1, hgI, by (try dsimp only); omega, by (try dsimp only); omega, hgK⟩) (by (try dsimp only); omega))
      · try simp only [decide_eq_true_eq, decide_eq_false_iff_not, Bool.not_eq_true', Bool.not_eq_false', Bool.not_eq_true, Bool.not_eq_false, Int.not_lt, Int.not_le, Nat.not_lt, Nat.not_le, Decidable.not_not, ne_eq] at hc3
        refine WC_skip ?_
        refine Ps_next hK20 ?_
        refine WC_sr fun K24 hK24 => ?_
        refine WL_rd (Rd_move rfl) rfl rfl rfl ?_
        refine WL_rd (Rd_move rfl) rfl rfl rfl ?_
        refine WL_rd (Rd_loadg (vs := eSQ q) rfl tk86 (hi := rfl)) rfl rfl rfl ?_
        refine WL_ac (Ac_call cf35 rfl (hs := step_ct (c := c1) (hb := hb1) (y := y1) (k := b15) (n := k) (s := s1) (p := p) (q := q) (hI := hI1) (hK := hK))) rfl rfl rfl ?_
        rintro _ _ ⟨⟨⟨g, gp⟩, hgI, hgm, hgK⟩, rfl, hA⟩
        simp only [List.cons_append, List.nil_append] at hA
        replace hA := hA.symm
        subst hA
        dsimp only at hgI hgm hgK ⊢
        refine WL_rd (Rd_not rfl) rfl rfl rfl ?_
        refine WL_end hK24 ?_
        refine WC_condF rfl ?_
        refine WC_skip ?_
        refine Ps_next hK16 ?_
        refine WC_region ?_
        refine WL_rd (Rd_addN (j := 1) rfl rfl) rfl rfl rfl ?_
        refine WL_rd (Rd_move rfl) rfl rfl rfl ?_
        refine WL_nil ?_
        refine Ps_wk (by (try simp only [List.cons_append, List.nil_append]); repeat (first | with_reducible exact Wk.nil | refine Wk.cons (by first | rfl | (simp only [List.length_append, List.length_cons, List.length_nil, List.length_replicate, Nat.zero_add]; rfl) | (simp; done)) ?_)) (by (try simp only [List.cons_append, List.nil_append]); repeat (first | with_reducible exact Sub.refl | with_reducible exact Sub.nil | with_reducible refine Sub.cons (by repeat (first | with_reducible exact Ext.here | with_reducible apply Ext.there)) ?_ | with_reducible refine Sub.tail ?_)) (hK13 ⟨k + 1, g, s2, gp⟩ (⟨by (try dsimp only); omega, hgI, hI2, by (try dsimp only); omega, by (try dsimp only); omega, hgK⟩) (by (try dsimp only); omega))
    · try simp only [decide_eq_true_eq, decide_eq_false_iff_not, Bool.not_eq_true', Bool.not_eq_false', Bool.not_eq_true, Bool.not_eq_false, Int.not_lt, Int.not_le, Nat.not_lt, Nat.not_le, Decidable.not_not, ne_eq] at hc2
      refine WC_exit ?_
      refine Ps_next hK11 ?_
      refine WC_seq fun K25 hK25 => ?_
      refine WC_sr fun K26 hK26 => ?_
      refine WL_rd (Rd_assign rfl) rfl rfl rfl ?_
      refine WL_end hK26 ?_
      refine WC_block ?_
      refine WC_loopK (σ := Nat) (fun i => [(7, .pointer (some ⟨(if i = 0 then c1 else c2), 0, none⟩)), (11, .pointer (some ⟨(if i = 0 then y1 else y2), 0, none⟩)), (20, .int .i64 ((i : Nat) : Int))]) (fun i => []) (fun i => i ≤ 2) (fun i => 2 - i) (0) [9, 13, 15, 121, 122] (by repeat (first | exact Kep.nil | apply Kep.drop rfl | apply Kep.keep rfl)) (by (try dsimp only); repeat (first | with_reducible exact Gv.nil | (with_reducible apply Gv.cons; · (repeat (first | with_reducible exact Ext.here | with_reducible apply Ext.there))))) ?_ ?_ Sub.refl ?_
      · omega
      · (try dsimp only); exact (Wk.cons (by first | rfl | (simp only [List.length_append, List.length_cons, List.length_nil, List.length_replicate, Nat.zero_add]; rfl) | (simp; done)) (Wk.cons (by first | rfl | (simp only [List.length_append, List.length_cons, List.length_nil, List.length_replicate, Nat.zero_add]; rfl) | (simp; done)) (Wk.cons (by first | rfl | (simp only [List.length_append, List.length_cons, List.length_nil, List.length_replicate, Nat.zero_add]; rfl) | (simp; done)) Wk.nil)))
      · rintro i hi2 K27 hK27
        simp only [List.cons_append, List.nil_append]
        refine WC_seq fun K28 hK28 => ?_
        refine WC_sr fun K29 hK29 => ?_
        refine WL_rd (Rd_move rfl) rfl rfl rfl ?_
        refine WL_rd (Rd_lssN (j := 2) rfl rfl) rfl rfl rfl ?_
        refine WL_end hK29 ?_
        refine WC_cond rfl (fun hc5 => ?_) (fun hc5 => ?_)
        · try simp only [decide_eq_true_eq, decide_eq_false_iff_not, Bool.not_eq_true', Bool.not_eq_false', Bool.not_eq_true, Bool.not_eq_false, Int.not_lt, Int.not_le, Nat.not_lt, Nat.not_le, Decidable.not_not, ne_eq] at hc5
          rcases (show i = 0 ∨ i = 1 from by omega) with rfl | rfl
          · skip
            rw [show (if (0 : Nat) = 0 then c1 else c2) = c1 from rfl, show (if (0 : Nat) = 0 then y1 else y2) = y1 from rfl]
            refine WC_skip ?_
            refine Ps_next hK28 ?_
            refine WC_seq fun K30 hK30 => ?_
            refine WC_block ?_
            refine WC_seq fun K31 hK31 => ?_
            refine WC_seq fun K32 hK32 => ?_
            refine WC_drawA mix (fun i => ([2, 1, 2, 2, 2, 2, 2, 2, 2, 1, 2, 2, 2, 2, 2, 2, 2, 2, 2, 2, 1, 1, 2, 2] : List Nat).getD i 0) ?_
            refine WJ_takeP 0 rfl (by kernel_rfl) (Rd_move rfl) rfl rfl rfl (hp _ _) ?_
            refine WJ_takeP 2 rfl (by kernel_rfl) (Rd_move rfl) rfl rfl rfl (hp _ _) ?_
            refine WJ_takeP 3 rfl (by kernel_rfl) (Rd_nilCheck rfl) rfl rfl rfl (hp _ _) ?_
            refine WJ_takeP 4 rfl (by kernel_rfl) (Rd_fieldAddr rfl fo90_0) rfl rfl rfl (hp _ _) ?_
            refine WJ_tk 5 (Rd_load rfl tk3 (v := .int .i64 s1.now)) hp ?_ rfl (by kernel_rfl) rfl rfl rfl
            refine WJ_all (rs := [1]) (by kernel_rfl) rfl ?_
            refine WI_one ?_
            refine WI_ac rfl (Ac_call cf27 rfl (hs := kS_now (c := c1) (hb := hb1) (made := s1.made) (now := s1.now) (rows := s1.rows))) rfl rfl rfl rfl ?_
            rintro _ _ ⟨⟨⟩, rfl, hA⟩
            simp only [List.cons_append, List.nil_append] at hA
            replace hA := hA.symm
            subst hA
            refine ⟨(fun _ => (by repeat (first | with_reducible exact Sub.refl | with_reducible exact Sub.nil | with_reducible refine Sub.cons (by repeat (first | with_reducible exact Ext.here | with_reducible apply Ext.there)) ?_ | with_reducible refine Sub.tail ?_))), ?_⟩
            refine WJ_takeP 6 rfl (by kernel_rfl) (Rd_isF (Rd_neq rfl rfl)) rfl rfl rfl (hp _ _) ?_
            refine WJ_takeP 7 rfl (by kernel_rfl) (Rd_move rfl) rfl rfl rfl (hp _ _) ?_
            refine WJ_takeP 8 rfl (by kernel_rfl) (Rd_move rfl) rfl rfl rfl (hp _ _) ?_
            refine WJ_takeP 10 rfl (by kernel_rfl) (Rd_move rfl) rfl rfl rfl (hp _ _) ?_
            refine WJ_takeP 11 rfl (by kernel_rfl) (Rd_nilCheck rfl) rfl rfl rfl (hp _ _) ?_
            refine WJ_takeP 12 rfl (by kernel_rfl) (Rd_fieldAddr rfl fo90_2) rfl rfl rfl (hp _ _) ?_
            refine WJ_tk 13 (Rd_load rfl tk75 (v := sl s1.a s1.L.length s1.cap)) hp ?_ rfl (by kernel_rfl) rfl rfl rfl
            refine WJ_takeP 14 rfl (by kernel_rfl) (Rd_len rfl rfl ud75) rfl rfl rfl (hp _ _) ?_
            refine WJ_all (rs := [9]) (by kernel_rfl) rfl ?_
            refine WI_one ?_
            refine WI_ac rfl (Ac_call cf36 rfl (hs := kS_len (c := c1) (hb := hb1) (made := s1.made) (now := s1.now) (rows := s1.rows))) rfl rfl rfl rfl ?_
            rintro _ _ ⟨⟨⟩, rfl, hA⟩
            simp only [List.cons_append, List.nil_append] at hA
            replace hA := hA.symm
            subst hA
            rw [hI1.ck.len]
            refine ⟨(fun _ => (by repeat (first | with_reducible exact Sub.refl | with_reducible exact Sub.nil | with_reducible refine Sub.cons (by repeat (first | with_reducible exact Ext.here | with_reducible apply Ext.there)) ?_ | with_reducible refine Sub.tail ?_))), ?_⟩
            refine WJ_takeP 15 rfl (by kernel_rfl) (Rd_isF (Rd_neqN rfl rfl)) rfl rfl rfl (hp _ _) ?_
            refine WJ_takeP 16 rfl (by kernel_rfl) (Rd_pickF rfl rfl) rfl rfl rfl (hp _ _) ?_
            refine WJ_takeP 17 rfl (by kernel_rfl) (Rd_move rfl) rfl rfl rfl (hp _ _) ?_
            refine WJ_takeP 18 rfl (by kernel_rfl) (Rd_move rfl) rfl rfl rfl (hp _ _) ?_
            refine WJ_takeP 19 rfl (by kernel_rfl) (Rd_move rfl) rfl rfl rfl (hp _ _) ?_
            refine WJ_all (rs := [20]) (by kernel_rfl) rfl ?_
            refine WI_one ?_
            refine WI_ac rfl (Ac_call cf32 rfl (hs := dAll_ct (y := y1) (made := s1.made) (tick := s1.now) (L := s1.L) (hU := hI1.ck.up) (hlen := by have := hI1.ck.made; omega))) rfl rfl rfl rfl ?_
            rintro _ _ ⟨⟨wa, wc⟩, rfl, hA⟩
            simp only [List.cons_append, List.nil_append] at hA
            replace hA := hA.symm
            subst hA
            refine ⟨(fun _ => (by repeat (first | with_reducible exact Sub.refl | with_reducible exact Sub.nil | with_reducible refine Sub.cons (by repeat (first | with_reducible exact Ext.here | with_reducible apply Ext.there)) ?_ | with_reducible refine Sub.tail ?_))), ?_⟩
            refine WJ_fact (fun w h => arr_facts (a := wa) (cap := wc) (e := 3) (T := 81) (f := eDR) (l := (srt dlt s1.L)) (by repeat (first | with_reducible exact Has.here | with_reducible refine Has.there ?_)) h) (fun hWSf => ?_)
            have hWS : Sv [arr wa wc 3 81 eDR (srt dlt s1.L)] (sl wa (srt dlt s1.L).length wc) 3 eDR (srt dlt s1.L) (wa.map fun g => ⟨g, 0, none⟩) wc := Sv_own' encDR hWSf.1 hWSf.2
            refine WJ_all (rs := [21]) (by kernel_rfl) rfl ?_
            refine WI_one ?_
            refine WI_ac rfl (Ac_call cf37 rfl (hs := walked_ct (c := c1) (hb := hb1) (made := s1.made) (now := s1.now) (rows := s1.rows) (L := s1.L) (m := 1) (hC := hI1.ck) (hW := hWS) (hm1 := Nat.le_refl _))) rfl rfl rfl rfl ?_
            rintro _ _ ⟨⟨⟩, rfl, hA⟩
            simp only [List.cons_append, List.nil_append] at hA
            replace hA := hA.symm
            subst hA
            refine ⟨(fun _ => (by repeat (first | with_reducible exact Sub.refl | with_reducible exact Sub.nil | with_reducible refine Sub.cons (by repeat (first | with_reducible exact Ext.here | with_reducible apply Ext.there)) ?_ | with_reducible refine Sub.tail ?_))), ?_⟩
            refine WJ_takeP 22 rfl (by kernel_rfl) (Rd_not rfl) rfl rfl rfl (hp _ _) ?_
            refine WJ_takeP 23 rfl (by kernel_rfl) (Rd_pickF rfl rfl) rfl rfl rfl (hp _ _) ?_
            refine WJ_done (by kernel_rfl) ?_
            refine Ps_next hK32 ?_
            refine WC_condF rfl ?_
            refine WC_skip ?_
            refine Ps_next hK31 ?_
            refine WC_sr fun K33 hK33 => ?_
            refine WL_rd (Rd_move rfl) rfl rfl rfl ?_
            refine WL_rd (Rd_assign rfl) rfl rfl rfl ?_
            refine WL_end hK33 ?_
            refine WC_region ?_
            refine WL_rd (Rd_move rfl) rfl rfl rfl ?_
            refine WL_rd (Rd_assign rfl) rfl rfl rfl ?_
            refine WL_nil ?_
            refine Ps_next hK30 ?_
            refine WC_region ?_
            refine WL_rd (Rd_move rfl) rfl rfl rfl ?_
            refine WL_rd (Rd_addN (j := 1) rfl rfl) rfl rfl rfl ?_
            refine WL_rd (Rd_assign rfl) rfl rfl rfl ?_
            refine WL_nil ?_
            refine Ps_wk (by (try simp only [List.cons_append, List.nil_append]); repeat (first | with_reducible exact Wk.nil | refine Wk.cons (by first | rfl | (simp only [List.length_append, List.length_cons, List.length_nil, List.length_replicate, Nat.zero_add]; rfl) | (simp; done)) ?_)) (by (try simp only [List.cons_append, List.nil_append]); repeat (first | with_reducible exact Sub.refl | with_reducible exact Sub.nil | with_reducible refine Sub.cons (by repeat (first | with_reducible exact Ext.here | with_reducible apply Ext.there)) ?_ | with_reducible refine Sub.tail ?_)) (hK27 (1) (by omega) (by omega))
          · skip
            rw [show (if (1 : Nat) = 0 then c1 else c2) = c2 from rfl, show (if (1 : Nat) = 0 then y1 else y2) = y2 from rfl]
            refine WC_skip ?_
            refine Ps_next hK28 ?_
            refine WC_seq fun K34 hK34 => ?_
            refine WC_block ?_
            refine WC_seq fun K35 hK35 => ?_
            refine WC_seq fun K36 hK36 => ?_
            refine WC_drawA mix (fun i => ([2, 1, 2, 2, 2, 2, 2, 2, 2, 1, 2, 2, 2, 2, 2, 2, 2, 2, 2, 2, 1, 1, 2, 2] : List Nat).getD i 0) ?_
            refine WJ_takeP 0 rfl (by kernel_rfl) (Rd_move rfl) rfl rfl rfl (hp _ _) ?_
            refine WJ_takeP 2 rfl (by kernel_rfl) (Rd_move rfl) rfl rfl rfl (hp _ _) ?_
            refine WJ_takeP 3 rfl (by kernel_rfl) (Rd_nilCheck rfl) rfl rfl rfl (hp _ _) ?_
            refine WJ_takeP 4 rfl (by kernel_rfl) (Rd_fieldAddr rfl fo90_0) rfl rfl rfl (hp _ _) ?_
            refine WJ_tk 5 (Rd_load rfl tk3 (v := .int .i64 s2.now)) hp ?_ rfl (by kernel_rfl) rfl rfl rfl
            refine WJ_all (rs := [1]) (by kernel_rfl) rfl ?_
            refine WI_one ?_
            refine WI_ac rfl (Ac_call cf27 rfl (hs := kS_now (c := c2) (hb := hb2) (made := s2.made) (now := s2.now) (rows := s2.rows))) rfl rfl rfl rfl ?_
            rintro _ _ ⟨⟨⟩, rfl, hA⟩
            simp only [List.cons_append, List.nil_append] at hA
            replace hA := hA.symm
            subst hA
            refine ⟨(fun _ => (by repeat (first | with_reducible exact Sub.refl | with_reducible exact Sub.nil | with_reducible refine Sub.cons (by repeat (first | with_reducible exact Ext.here | with_reducible apply Ext.there)) ?_ | with_reducible refine Sub.tail ?_))), ?_⟩
            refine WJ_takeP 6 rfl (by kernel_rfl) (Rd_isF (Rd_neq rfl rfl)) rfl rfl rfl (hp _ _) ?_
            refine WJ_takeP 7 rfl (by kernel_rfl) (Rd_move rfl) rfl rfl rfl (hp _ _) ?_
            refine WJ_takeP 8 rfl (by kernel_rfl) (Rd_move rfl) rfl rfl rfl (hp _ _) ?_
            refine WJ_takeP 10 rfl (by kernel_rfl) (Rd_move rfl) rfl rfl rfl (hp _ _) ?_
            refine WJ_takeP 11 rfl (by kernel_rfl) (Rd_nilCheck rfl) rfl rfl rfl (hp _ _) ?_
            refine WJ_takeP 12 rfl (by kernel_rfl) (Rd_fieldAddr rfl fo90_2) rfl rfl rfl (hp _ _) ?_
            refine WJ_tk 13 (Rd_load rfl tk75 (v := sl s2.a s2.L.length s2.cap)) hp ?_ rfl (by kernel_rfl) rfl rfl rfl
            refine WJ_takeP 14 rfl (by kernel_rfl) (Rd_len rfl rfl ud75) rfl rfl rfl (hp _ _) ?_
            refine WJ_all (rs := [9]) (by kernel_rfl) rfl ?_
            refine WI_one ?_
            refine WI_ac rfl (Ac_call cf36 rfl (hs := kS_len (c := c2) (hb := hb2) (made := s2.made) (now := s2.now) (rows := s2.rows))) rfl rfl rfl rfl ?_
            rintro _ _ ⟨⟨⟩, rfl, hA⟩
            simp only [List.cons_append, List.nil_append] at hA
            replace hA := hA.symm
            subst hA
            rw [hI2.ck.len]
            refine ⟨(fun _ => (by repeat (first | with_reducible exact Sub.refl | with_reducible exact Sub.nil | with_reducible refine Sub.cons (by repeat (first | with_reducible exact Ext.here | with_reducible apply Ext.there)) ?_ | with_reducible refine Sub.tail ?_))), ?_⟩
            refine WJ_takeP 15 rfl (by kernel_rfl) (Rd_isF (Rd_neqN rfl rfl)) rfl rfl rfl (hp _ _) ?_
            refine WJ_takeP 16 rfl (by kernel_rfl) (Rd_pickF rfl rfl) rfl rfl rfl (hp _ _) ?_
            refine WJ_takeP 17 rfl (by kernel_rfl) (Rd_move rfl) rfl rfl rfl (hp _ _) ?_
            refine WJ_takeP 18 rfl (by kernel_rfl) (Rd_move rfl) rfl rfl rfl (hp _ _) ?_
            refine WJ_takeP 19 rfl (by kernel_rfl) (Rd_move rfl) rfl rfl rfl (hp _ _) ?_
            refine WJ_all (rs := [20]) (by kernel_rfl) rfl ?_
            refine WI_one ?_
            refine WI_ac rfl (Ac_call cf32 rfl (hs := dAll_ct (y := y2) (made := s2.made) (tick := s2.now) (L := s2.L) (hU := hI2.ck.up) (hlen := by have := hI2.ck.made; omega))) rfl rfl rfl rfl ?_
            rintro _ _ ⟨⟨wa, wc⟩, rfl, hA⟩
            simp only [List.cons_append, List.nil_append] at hA
            replace hA := hA.symm
            subst hA
            refine ⟨(fun _ => (by repeat (first | with_reducible exact Sub.refl | with_reducible exact Sub.nil | with_reducible refine Sub.cons (by repeat (first | with_reducible exact Ext.here | with_reducible apply Ext.there)) ?_ | with_reducible refine Sub.tail ?_))), ?_⟩
            refine WJ_fact (fun w h => arr_facts (a := wa) (cap := wc) (e := 3) (T := 81) (f := eDR) (l := (srt dlt s2.L)) (by repeat (first | with_reducible exact Has.here | with_reducible refine Has.there ?_)) h) (fun hWSf => ?_)
            have hWS : Sv [arr wa wc 3 81 eDR (srt dlt s2.L)] (sl wa (srt dlt s2.L).length wc) 3 eDR (srt dlt s2.L) (wa.map fun g => ⟨g, 0, none⟩) wc := Sv_own' encDR hWSf.1 hWSf.2
            refine WJ_all (rs := [21]) (by kernel_rfl) rfl ?_
            refine WI_one ?_
            refine WI_ac rfl (Ac_call cf37 rfl (hs := walked_ct (c := c2) (hb := hb2) (made := s2.made) (now := s2.now) (rows := s2.rows) (L := s2.L) (m := 1) (hC := hI2.ck) (hW := hWS) (hm1 := Nat.le_refl _))) rfl rfl rfl rfl ?_
            rintro _ _ ⟨⟨⟩, rfl, hA⟩
            simp only [List.cons_append, List.nil_append] at hA
            replace hA := hA.symm
            subst hA
            refine ⟨(fun _ => (by repeat (first | with_reducible exact Sub.refl | with_reducible exact Sub.nil | with_reducible refine Sub.cons (by repeat (first | with_reducible exact Ext.here | with_reducible apply Ext.there)) ?_ | with_reducible refine Sub.tail ?_))), ?_⟩
            refine WJ_takeP 22 rfl (by kernel_rfl) (Rd_not rfl) rfl rfl rfl (hp _ _) ?_
            refine WJ_takeP 23 rfl (by kernel_rfl) (Rd_pickF rfl rfl) rfl rfl rfl (hp _ _) ?_
            refine WJ_done (by kernel_rfl) ?_
            refine Ps_next hK36 ?_
            refine WC_condF rfl ?_
            refine WC_skip ?_
            refine Ps_next hK35 ?_
            refine WC_sr fun K37 hK37 => ?_
            refine WL_rd (Rd_move rfl) rfl rfl rfl ?_
            refine WL_rd (Rd_assign rfl) rfl rfl rfl ?_
            refine WL_end hK37 ?_
            refine WC_region ?_
            refine WL_rd (Rd_move rfl) rfl rfl rfl ?_
            refine WL_rd (Rd_assign rfl) rfl rfl rfl ?_
            refine WL_nil ?_
            refine Ps_next hK34 ?_
            refine WC_region ?_
            refine WL_rd (Rd_move rfl) rfl rfl rfl ?_
            refine WL_rd (Rd_addN (j := 1) rfl rfl) rfl rfl rfl ?_
            refine WL_rd (Rd_assign rfl) rfl rfl rfl ?_
            refine WL_nil ?_
            refine Ps_wk (by (try simp only [List.cons_append, List.nil_append]); repeat (first | with_reducible exact Wk.nil | refine Wk.cons (by first | rfl | (simp only [List.length_append, List.length_cons, List.length_nil, List.length_replicate, Nat.zero_add]; rfl) | (simp; done)) ?_)) (by (try simp only [List.cons_append, List.nil_append]); repeat (first | with_reducible exact Sub.refl | with_reducible exact Sub.nil | with_reducible refine Sub.cons (by repeat (first | with_reducible exact Ext.here | with_reducible apply Ext.there)) ?_ | with_reducible refine Sub.tail ?_)) (hK27 (2) (by omega) (by omega))
        · try simp only [decide_eq_true_eq, decide_eq_false_iff_not, Bool.not_eq_true', Bool.not_eq_false', Bool.not_eq_true, Bool.not_eq_false, Int.not_lt, Int.not_le, Nat.not_lt, Nat.not_le, Decidable.not_not, ne_eq] at hc5
          refine WC_fact (fun w h => arr_facts (a := p.a) (cap := p.cap) (e := 1) (T := 65) (f := ePU) (l := p.ps) (by repeat (first | with_reducible exact Has.here | with_reducible refine Has.there ?_)) h) (fun hkf => ?_)
          have hSk : Sv [arr p.a p.cap 1 65 ePU p.ps] (sl p.a p.ps.length p.cap) 1 ePU p.ps (p.a.map fun g => ⟨g, 0, none⟩) p.cap := Sv_own' encPU hkf.1 hkf.2
          refine WC_exit ?_
          refine Ps_next hK25 ?_
          refine WC_sr fun K38 hK38 => ?_
          refine WL_rd (Rd_load rfl tk84 (v := sl p.a p.ps.length p.cap)) rfl rfl rfl ?_
          refine WL_ac (Ac_call cf38 rfl (hs := apart_ct (X := arr p.a p.cap 1 65 ePU p.ps) (ps := p.ps) (hS := hSk) (hn := by have := hK.ln; omega) (hb := fun x h => by have := (hK.ok x h).2.2; omega))) rfl rfl rfl ?_
          rintro _ _ ⟨⟨⟩, rfl, hA⟩
          simp only [List.cons_append, List.nil_append] at hA
          replace hA := hA.symm
          subst hA
          refine WL_rd (Rd_assign rfl) rfl rfl rfl ?_
          refine WL_end hK38 ?_
          refine WC_ret ?_
          exact hret.go () (Rs1 rfl rfl)

theorem Plays_yn {X : Asn} {v : Value} {qs : List SQ} {ao : Option Addr} {cap : Nat} {one two : Int} (hS : Sv [X] v 4 eSQ qs ao cap := by assumption) (hn : qs.length ≤ 1048576 := by omega) (hone : 0 ≤ one ∧ one ≤ 1099511627776) (htwo : two < 0 ∨ 1099511627776 < two) : Ct Try.prog 7 [.int .i64 one, .int .i64 two, v] [X] (fun _ : Unit => .bool true) (fun _ => [X]) := by
  refine Ct_body (n := 123) Try.func7 rfl rfl rfl fun F w0 Q hret hnorm hp => ?_
  change WC _ _ _ _ _ _ _ (_ :: F)
  refine WC_sr fun K1 hK1 => ?_
  refine WL_rd (Rd_assign rfl) rfl rfl rfl ?_
  refine WL_end hK1 ?_
  refine WC_sr fun K2 hK2 => ?_
  refine WL_rd (Rd_move rfl) rfl rfl rfl ?_
  refine WL_ac (Ac_call cf23 rfl (hs := kS_new (tick := one) (h0 := hone.1) (h1 := hone.2))) rfl rfl rfl ?_
  rintro _ _ ⟨⟨c1, hb1⟩, rfl, hA⟩
  simp only [List.cons_append, List.nil_append] at hA
  replace hA := hA.symm
  subst hA
  refine WL_rd (Rd_move rfl) rfl rfl rfl ?_
  refine WL_rd (Rd_ext0 rfl) rfl rfl rfl ?_
  refine WL_rd (Rd_ext1 rfl) rfl rfl rfl ?_
  refine WL_rd (Rd_assign rfl) rfl rfl rfl ?_
  refine WL_rd (Rd_assign rfl) rfl rfl rfl ?_
  refine WL_end hK2 ?_
  refine WC_sr fun K3 hK3 => ?_
  refine WL_rd (Rd_move rfl) rfl rfl rfl ?_
  refine WL_ac (Ac_call cf23 rfl (hs := kS_new_bad (tick := two) (hb := htwo))) rfl rfl rfl ?_
  rintro _ _ ⟨⟨⟩, rfl, hA⟩
  simp only [List.cons_append, List.nil_append] at hA
  replace hA := hA.symm
  subst hA
  refine WL_rd (Rd_move rfl) rfl rfl rfl ?_
  refine WL_rd (Rd_ext0 rfl) rfl rfl rfl ?_
  refine WL_rd (Rd_ext1 rfl) rfl rfl rfl ?_
  refine WL_rd (Rd_assign rfl) rfl rfl rfl ?_
  refine WL_rd (Rd_assign rfl) rfl rfl rfl ?_
  refine WL_end hK3 ?_
  refine WC_sr fun K4 hK4 => ?_
  refine WL_rd (Rd_move rfl) rfl rfl rfl ?_
  refine WL_ac (Ac_call cf29 rfl (hs := dNew_ct (t := one) hone.1 hone.2)) rfl rfl rfl ?_
  rintro _ _ ⟨y1, rfl, hA⟩
  simp only [List.cons_append, List.nil_append] at hA
  replace hA := hA.symm
  subst hA
  refine WL_rd (Rd_move rfl) rfl rfl rfl ?_
  refine WL_rd (Rd_ext0 rfl) rfl rfl rfl ?_
  refine WL_rd (Rd_ext1 rfl) rfl rfl rfl ?_
  refine WL_rd (Rd_assign rfl) rfl rfl rfl ?_
  refine WL_rd (Rd_assign rfl) rfl rfl rfl ?_
  refine WL_end hK4 ?_
  refine WC_sr fun K5 hK5 => ?_
  refine WL_rd (Rd_move rfl) rfl rfl rfl ?_
  refine WL_ac (Ac_call cf29 rfl (hs := dNew_no (t := two) (h0 := htwo))) rfl rfl rfl ?_
  rintro _ _ ⟨⟨⟩, rfl, hA⟩
  simp only [List.cons_append, List.nil_append] at hA
  replace hA := hA.symm
  subst hA
  refine WL_rd (Rd_move rfl) rfl rfl rfl ?_
  refine WL_rd (Rd_ext0 rfl) rfl rfl rfl ?_
  refine WL_rd (Rd_ext1 rfl) rfl rfl rfl ?_
  refine WL_rd (Rd_assign rfl) rfl rfl rfl ?_
  refine WL_rd (Rd_assign rfl) rfl rfl rfl ?_
  refine WL_end hK5 ?_
  refine WC_seq fun K6 hK6 => ?_
  refine WC_sr fun K7 hK7 => ?_
  refine WL_rd (Rd_move rfl) rfl rfl rfl ?_
  refine WL_rd (Rd_move rfl) rfl rfl rfl ?_
  refine WL_rd (Rd_neqN (i := 0) (j := 0) rfl rfl) rfl rfl rfl ?_
  refine WL_rd (Rd_move rfl) rfl rfl rfl ?_
  refine WL_rd (Rd_move rfl) rfl rfl rfl ?_
  refine WL_rd (Rd_move rfl) rfl rfl rfl ?_
  refine WL_rd (Rd_neqN (i := 2) (j := 2) rfl rfl) rfl rfl rfl ?_
  refine WL_rd (Rd_pickF rfl rfl) rfl rfl rfl ?_
  refine WL_rd (Rd_move rfl) rfl rfl rfl ?_
  refine WL_rd (Rd_move rfl) rfl rfl rfl ?_
  refine WL_rd (Rd_peq rfl rfl ud55) rfl rfl rfl ?_
  refine WL_rd (Rd_move rfl) rfl rfl rfl ?_
  refine WL_rd (Rd_peq rfl rfl ud71) rfl rfl rfl ?_
  refine WL_rd (Rd_isF (Rd_bne rfl rfl ud4)) rfl rfl rfl ?_
  refine WL_rd (Rd_pickF rfl rfl) rfl rfl rfl ?_
  refine WL_rd (Rd_move rfl) rfl rfl rfl ?_
  refine WL_rd (Rd_move rfl) rfl rfl rfl ?_
  refine WL_rd (Rd_peq rfl rfl ud55) rfl rfl rfl ?_
  refine WL_rd (Rd_move rfl) rfl rfl rfl ?_
  refine WL_rd (Rd_peq rfl rfl ud71) rfl rfl rfl ?_
  refine WL_rd (Rd_isF (Rd_bne rfl rfl ud4)) rfl rfl rfl ?_
  refine WL_rd (Rd_pickF rfl rfl) rfl rfl rfl ?_
  refine WL_rd (Rd_move rfl) rfl rfl rfl ?_
  refine WL_ac (Ac_call cf10 rfl (hs := awake_ct)) rfl rfl rfl ?_
  rintro _ _ ⟨⟨⟩, rfl, hA⟩
  simp only [List.cons_append, List.nil_append] at hA
  replace hA := hA.symm
  subst hA
  refine WL_rd (Rd_not rfl) rfl rfl rfl ?_
  refine WL_rd (Rd_pickF rfl rfl) rfl rfl rfl ?_
  refine WL_end hK7 ?_
  refine WC_condF rfl ?_
  refine WC_skip ?_
  refine Ps_next hK6 ?_
  refine WC_seq fun K8 hK8 => ?_
  refine WC_sr fun K9 hK9 => ?_
  refine WL_rd (Rd_move rfl) rfl rfl rfl ?_
  refine WL_rd (Rd_peq rfl rfl ud55) rfl rfl rfl ?_
  refine WL_rd (Rd_move rfl) rfl rfl rfl ?_
  refine WL_rd (Rd_move rfl) rfl rfl rfl ?_
  refine WL_rd (Rd_peq rfl rfl ud55) rfl rfl rfl ?_
  refine WL_rd (Rd_pickF rfl rfl) rfl rfl rfl ?_
  refine WL_end hK9 ?_
  refine WC_condT rfl ?_
  refine WC_sr fun K10 hK10 => ?_
  refine WL_rd (Rd_assign rfl) rfl rfl rfl ?_
  refine WL_end hK10 ?_
  refine WC_ret ?_
  exact hret.go () (Rs1 rfl rfl)

theorem Plays_ny {X : Asn} {v : Value} {qs : List SQ} {ao : Option Addr} {cap : Nat} {one two : Int} (hS : Sv [X] v 4 eSQ qs ao cap := by assumption) (hn : qs.length ≤ 1048576 := by omega) (hone : one < 0 ∨ 1099511627776 < one) (htwo : 0 ≤ two ∧ two ≤ 1099511627776) : Ct Try.prog 7 [.int .i64 one, .int .i64 two, v] [X] (fun _ : Unit => .bool true) (fun _ => [X]) := by
  refine Ct_body (n := 123) Try.func7 rfl rfl rfl fun F w0 Q hret hnorm hp => ?_
  change WC _ _ _ _ _ _ _ (_ :: F)
  refine WC_sr fun K1 hK1 => ?_
  refine WL_rd (Rd_assign rfl) rfl rfl rfl ?_
  refine WL_end hK1 ?_
  refine WC_sr fun K2 hK2 => ?_
  refine WL_rd (Rd_move rfl) rfl rfl rfl ?_
  refine WL_ac (Ac_call cf23 rfl (hs := kS_new_bad (tick := one) (hb := hone))) rfl rfl rfl ?_
  rintro _ _ ⟨⟨⟩, rfl, hA⟩
  simp only [List.cons_append, List.nil_append] at hA
  replace hA := hA.symm
  subst hA
  refine WL_rd (Rd_move rfl) rfl rfl rfl ?_
  refine WL_rd (Rd_ext0 rfl) rfl rfl rfl ?_
  refine WL_rd (Rd_ext1 rfl) rfl rfl rfl ?_
  refine WL_rd (Rd_assign rfl) rfl rfl rfl ?_
  refine WL_rd (Rd_assign rfl) rfl rfl rfl ?_
  refine WL_end hK2 ?_
  refine WC_sr fun K3 hK3 => ?_
  refine WL_rd (Rd_move rfl) rfl rfl rfl ?_
  refine WL_ac (Ac_call cf23 rfl (hs := kS_new (tick := two) (h0 := htwo.1) (h1 := htwo.2))) rfl rfl rfl ?_
  rintro _ _ ⟨⟨c2, hb2⟩, rfl, hA⟩
  simp only [List.cons_append, List.nil_append] at hA
  replace hA := hA.symm
  subst hA
  refine WL_rd (Rd_move rfl) rfl rfl rfl ?_
  refine WL_rd (Rd_ext0 rfl) rfl rfl rfl ?_
  refine WL_rd (Rd_ext1 rfl) rfl rfl rfl ?_
  refine WL_rd (Rd_assign rfl) rfl rfl rfl ?_
  refine WL_rd (Rd_assign rfl) rfl rfl rfl ?_
  refine WL_end hK3 ?_
  refine WC_sr fun K4 hK4 => ?_
  refine WL_rd (Rd_move rfl) rfl rfl rfl ?_
  refine WL_ac (Ac_call cf29 rfl (hs := dNew_no (t := one) (h0 := hone))) rfl rfl rfl ?_
  rintro _ _ ⟨⟨⟩, rfl, hA⟩
  simp only [List.cons_append, List.nil_append] at hA
  replace hA := hA.symm
  subst hA
  refine WL_rd (Rd_move rfl) rfl rfl rfl ?_
  refine WL_rd (Rd_ext0 rfl) rfl rfl rfl ?_
  refine WL_rd (Rd_ext1 rfl) rfl rfl rfl ?_
  refine WL_rd (Rd_assign rfl) rfl rfl rfl ?_
  refine WL_rd (Rd_assign rfl) rfl rfl rfl ?_
  refine WL_end hK4 ?_
  refine WC_sr fun K5 hK5 => ?_
  refine WL_rd (Rd_move rfl) rfl rfl rfl ?_
  refine WL_ac (Ac_call cf29 rfl (hs := dNew_ct (t := two) htwo.1 htwo.2)) rfl rfl rfl ?_
  rintro _ _ ⟨y2, rfl, hA⟩
  simp only [List.cons_append, List.nil_append] at hA
  replace hA := hA.symm
  subst hA
  refine WL_rd (Rd_move rfl) rfl rfl rfl ?_
  refine WL_rd (Rd_ext0 rfl) rfl rfl rfl ?_
  refine WL_rd (Rd_ext1 rfl) rfl rfl rfl ?_
  refine WL_rd (Rd_assign rfl) rfl rfl rfl ?_
  refine WL_rd (Rd_assign rfl) rfl rfl rfl ?_
  refine WL_end hK5 ?_
  refine WC_seq fun K6 hK6 => ?_
  refine WC_sr fun K7 hK7 => ?_
  refine WL_rd (Rd_move rfl) rfl rfl rfl ?_
  refine WL_rd (Rd_move rfl) rfl rfl rfl ?_
  refine WL_rd (Rd_neqN (i := 2) (j := 2) rfl rfl) rfl rfl rfl ?_
  refine WL_rd (Rd_move rfl) rfl rfl rfl ?_
  refine WL_rd (Rd_move rfl) rfl rfl rfl ?_
  refine WL_rd (Rd_move rfl) rfl rfl rfl ?_
  refine WL_rd (Rd_neqN (i := 0) (j := 0) rfl rfl) rfl rfl rfl ?_
  refine WL_rd (Rd_pickF rfl rfl) rfl rfl rfl ?_
  refine WL_rd (Rd_move rfl) rfl rfl rfl ?_
  refine WL_rd (Rd_move rfl) rfl rfl rfl ?_
  refine WL_rd (Rd_peq rfl rfl ud55) rfl rfl rfl ?_
  refine WL_rd (Rd_move rfl) rfl rfl rfl ?_
  refine WL_rd (Rd_peq rfl rfl ud71) rfl rfl rfl ?_
  refine WL_rd (Rd_isF (Rd_bne rfl rfl ud4)) rfl rfl rfl ?_
  refine WL_rd (Rd_pickF rfl rfl) rfl rfl rfl ?_
  refine WL_rd (Rd_move rfl) rfl rfl rfl ?_
  refine WL_rd (Rd_move rfl) rfl rfl rfl ?_
  refine WL_rd (Rd_peq rfl rfl ud55) rfl rfl rfl ?_
  refine WL_rd (Rd_move rfl) rfl rfl rfl ?_
  refine WL_rd (Rd_peq rfl rfl ud71) rfl rfl rfl ?_
  refine WL_rd (Rd_isF (Rd_bne rfl rfl ud4)) rfl rfl rfl ?_
  refine WL_rd (Rd_pickF rfl rfl) rfl rfl rfl ?_
  refine WL_rd (Rd_move rfl) rfl rfl rfl ?_
  refine WL_ac (Ac_call cf10 rfl (hs := awake_ct)) rfl rfl rfl ?_
  rintro _ _ ⟨⟨⟩, rfl, hA⟩
  simp only [List.cons_append, List.nil_append] at hA
  replace hA := hA.symm
  subst hA
  refine WL_rd (Rd_not rfl) rfl rfl rfl ?_
  refine WL_rd (Rd_pickF rfl rfl) rfl rfl rfl ?_
  refine WL_end hK7 ?_
  refine WC_condF rfl ?_
  refine WC_skip ?_
  refine Ps_next hK6 ?_
  refine WC_seq fun K8 hK8 => ?_
  refine WC_sr fun K9 hK9 => ?_
  refine WL_rd (Rd_move rfl) rfl rfl rfl ?_
  refine WL_rd (Rd_peq rfl rfl ud55) rfl rfl rfl ?_
  refine WL_rd (Rd_move rfl) rfl rfl rfl ?_
  refine WL_skip rfl rfl rfl ?_
  refine WL_skip rfl rfl rfl ?_
  refine WL_rd (Rd_pickT rfl rfl) rfl rfl rfl ?_
  refine WL_end hK9 ?_
  refine WC_condT rfl ?_
  refine WC_sr fun K10 hK10 => ?_
  refine WL_rd (Rd_assign rfl) rfl rfl rfl ?_
  refine WL_end hK10 ?_
  refine WC_ret ?_
  exact hret.go () (Rs1 rfl rfl)

theorem Plays_nn {X : Asn} {v : Value} {qs : List SQ} {ao : Option Addr} {cap : Nat} {one two : Int} (hS : Sv [X] v 4 eSQ qs ao cap := by assumption) (hn : qs.length ≤ 1048576 := by omega) (hone : one < 0 ∨ 1099511627776 < one) (htwo : two < 0 ∨ 1099511627776 < two) : Ct Try.prog 7 [.int .i64 one, .int .i64 two, v] [X] (fun _ : Unit => .bool true) (fun _ => [X]) := by
  refine Ct_body (n := 123) Try.func7 rfl rfl rfl fun F w0 Q hret hnorm hp => ?_
  change WC _ _ _ _ _ _ _ (_ :: F)
  refine WC_sr fun K1 hK1 => ?_
  refine WL_rd (Rd_assign rfl) rfl rfl rfl ?_
  refine WL_end hK1 ?_
  refine WC_sr fun K2 hK2 => ?_
  refine WL_rd (Rd_move rfl) rfl rfl rfl ?_
  refine WL_ac (Ac_call cf23 rfl (hs := kS_new_bad (tick := one) (hb := hone))) rfl rfl rfl ?_
  rintro _ _ ⟨⟨⟩, rfl, hA⟩
  simp only [List.cons_append, List.nil_append] at hA
  replace hA := hA.symm
  subst hA
  refine WL_rd (Rd_move rfl) rfl rfl rfl ?_
  refine WL_rd (Rd_ext0 rfl) rfl rfl rfl ?_
  refine WL_rd (Rd_ext1 rfl) rfl rfl rfl ?_
  refine WL_rd (Rd_assign rfl) rfl rfl rfl ?_
  refine WL_rd (Rd_assign rfl) rfl rfl rfl ?_
  refine WL_end hK2 ?_
  refine WC_sr fun K3 hK3 => ?_
  refine WL_rd (Rd_move rfl) rfl rfl rfl ?_
  refine WL_ac (Ac_call cf23 rfl (hs := kS_new_bad (tick := two) (hb := htwo))) rfl rfl rfl ?_
  rintro _ _ ⟨⟨⟩, rfl, hA⟩
  simp only [List.cons_append, List.nil_append] at hA
  replace hA := hA.symm
  subst hA
  refine WL_rd (Rd_move rfl) rfl rfl rfl ?_
  refine WL_rd (Rd_ext0 rfl) rfl rfl rfl ?_
  refine WL_rd (Rd_ext1 rfl) rfl rfl rfl ?_
  refine WL_rd (Rd_assign rfl) rfl rfl rfl ?_
  refine WL_rd (Rd_assign rfl) rfl rfl rfl ?_
  refine WL_end hK3 ?_
  refine WC_sr fun K4 hK4 => ?_
  refine WL_rd (Rd_move rfl) rfl rfl rfl ?_
  refine WL_ac (Ac_call cf29 rfl (hs := dNew_no (t := one) (h0 := hone))) rfl rfl rfl ?_
  rintro _ _ ⟨⟨⟩, rfl, hA⟩
  simp only [List.cons_append, List.nil_append] at hA
  replace hA := hA.symm
  subst hA
  refine WL_rd (Rd_move rfl) rfl rfl rfl ?_
  refine WL_rd (Rd_ext0 rfl) rfl rfl rfl ?_
  refine WL_rd (Rd_ext1 rfl) rfl rfl rfl ?_
  refine WL_rd (Rd_assign rfl) rfl rfl rfl ?_
  refine WL_rd (Rd_assign rfl) rfl rfl rfl ?_
  refine WL_end hK4 ?_
  refine WC_sr fun K5 hK5 => ?_
  refine WL_rd (Rd_move rfl) rfl rfl rfl ?_
  refine WL_ac (Ac_call cf29 rfl (hs := dNew_no (t := two) (h0 := htwo))) rfl rfl rfl ?_
  rintro _ _ ⟨⟨⟩, rfl, hA⟩
  simp only [List.cons_append, List.nil_append] at hA
  replace hA := hA.symm
  subst hA
  refine WL_rd (Rd_move rfl) rfl rfl rfl ?_
  refine WL_rd (Rd_ext0 rfl) rfl rfl rfl ?_
  refine WL_rd (Rd_ext1 rfl) rfl rfl rfl ?_
  refine WL_rd (Rd_assign rfl) rfl rfl rfl ?_
  refine WL_rd (Rd_assign rfl) rfl rfl rfl ?_
  refine WL_end hK5 ?_
  refine WC_seq fun K6 hK6 => ?_
  refine WC_sr fun K7 hK7 => ?_
  refine WL_rd (Rd_move rfl) rfl rfl rfl ?_
  refine WL_rd (Rd_move rfl) rfl rfl rfl ?_
  refine WL_rd (Rd_neqN (i := 2) (j := 2) rfl rfl) rfl rfl rfl ?_
  refine WL_rd (Rd_move rfl) rfl rfl rfl ?_
  refine WL_rd (Rd_move rfl) rfl rfl rfl ?_
  refine WL_rd (Rd_move rfl) rfl rfl rfl ?_
  refine WL_rd (Rd_neqN (i := 2) (j := 2) rfl rfl) rfl rfl rfl ?_
  refine WL_rd (Rd_pickF rfl rfl) rfl rfl rfl ?_
  refine WL_rd (Rd_move rfl) rfl rfl rfl ?_
  refine WL_rd (Rd_move rfl) rfl rfl rfl ?_
  refine WL_rd (Rd_peq rfl rfl ud55) rfl rfl rfl ?_
  refine WL_rd (Rd_move rfl) rfl rfl rfl ?_
  refine WL_rd (Rd_peq rfl rfl ud71) rfl rfl rfl ?_
  refine WL_rd (Rd_isF (Rd_bne rfl rfl ud4)) rfl rfl rfl ?_
  refine WL_rd (Rd_pickF rfl rfl) rfl rfl rfl ?_
  refine WL_rd (Rd_move rfl) rfl rfl rfl ?_
  refine WL_rd (Rd_move rfl) rfl rfl rfl ?_
  refine WL_rd (Rd_peq rfl rfl ud55) rfl rfl rfl ?_
  refine WL_rd (Rd_move rfl) rfl rfl rfl ?_
  refine WL_rd (Rd_peq rfl rfl ud71) rfl rfl rfl ?_
  refine WL_rd (Rd_isF (Rd_bne rfl rfl ud4)) rfl rfl rfl ?_
  refine WL_rd (Rd_pickF rfl rfl) rfl rfl rfl ?_
  refine WL_rd (Rd_move rfl) rfl rfl rfl ?_
  refine WL_ac (Ac_call cf10 rfl (hs := awake_ct)) rfl rfl rfl ?_
  rintro _ _ ⟨⟨⟩, rfl, hA⟩
  simp only [List.cons_append, List.nil_append] at hA
  replace hA := hA.symm
  subst hA
  refine WL_rd (Rd_not rfl) rfl rfl rfl ?_
  refine WL_rd (Rd_pickF rfl rfl) rfl rfl rfl ?_
  refine WL_end hK7 ?_
  refine WC_condF rfl ?_
  refine WC_skip ?_
  refine Ps_next hK6 ?_
  refine WC_seq fun K8 hK8 => ?_
  refine WC_sr fun K9 hK9 => ?_
  refine WL_rd (Rd_move rfl) rfl rfl rfl ?_
  refine WL_rd (Rd_peq rfl rfl ud55) rfl rfl rfl ?_
  refine WL_rd (Rd_move rfl) rfl rfl rfl ?_
  refine WL_skip rfl rfl rfl ?_
  refine WL_skip rfl rfl rfl ?_
  refine WL_rd (Rd_pickT rfl rfl) rfl rfl rfl ?_
  refine WL_end hK9 ?_
  refine WC_condT rfl ?_
  refine WC_sr fun K10 hK10 => ?_
  refine WL_rd (Rd_assign rfl) rfl rfl rfl ?_
  refine WL_end hK10 ?_
  refine WC_ret ?_
  exact hret.go () (Rs1 rfl rfl)

theorem Plays_ct {X : Asn} {v : Value} {qs : List SQ} {ao : Option Addr} {cap : Nat} {one two : Int} (hS : Sv [X] v 4 eSQ qs ao cap := by assumption) (hn : qs.length ≤ 1048576 := by omega) : Ct Try.prog 7 [.int .i64 one, .int .i64 two, v] [X] (fun _ : Unit => .bool true) (fun _ => [X]) := by
  by_cases h1 : 0 ≤ one ∧ one ≤ 1099511627776 <;> by_cases h2 : 0 ≤ two ∧ two ≤ 1099511627776
  · exact Plays_yy hS hn h1 h2
  · exact Plays_yn hS hn h1 (by omega)
  · exact Plays_ny hS hn (by omega) h2
  · exact Plays_nn hS hn (by omega) (by omega)
end Go.Proofs.Ytcemkpiopijbmaa
