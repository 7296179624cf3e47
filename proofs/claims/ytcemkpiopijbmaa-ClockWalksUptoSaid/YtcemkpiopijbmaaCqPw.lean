/-
  Contracts of functions that the claim reaches, or the logic and the plain laws that they rest on, or the row over them. (Conditions: none beyond the statement.)
-/
import Derived.Test.YtcemkpiopijbmaaCqPj
set_option linter.all false
namespace Go.Proofs.Ytcemkpiopijbmaa
open Go.RowKit Go.SL Go.HpM Go.ShM 
set_option maxHeartbeats 1000000
set_option maxRecDepth 20000
set_option linter.all false
theorem cf29 : cfn Try.prog 29 = true := by kernel_rfl
theorem cf35 : cfn Try.prog 35 = true := by kernel_rfl
theorem cf38 : cfn Try.prog 38 = true := by kernel_rfl
theorem fo86_0 : fo Try.prog 86 0 = some (0, 4) := by kernel_rfl
theorem ikd5_3 : ikd Try.prog 5 3 = some .i64 := by kernel_rfl
theorem sz55 : sz Try.prog 55 = some 1 := by kernel_rfl
theorem sz86 : sz Try.prog 86 = some 4 := by kernel_rfl
theorem tk55 : tk Try.prog 55 = some none := by kernel_rfl
theorem tk70 : tk Try.prog 70 = some none := by kernel_rfl
theorem tk86 : tk Try.prog 86 = some (some 4) := by kernel_rfl
theorem ud71 : Try.prog.underlying 71 = some (.pointer 90) := by kernel_rfl
theorem ud83 : Try.prog.underlying 83 = some (.slice 86) := by kernel_rfl
theorem zr55 : zr Try.prog 55 = some [.pointer none] := by kernel_rfl
theorem zr75 : zr Try.prog 75 = some [.slice none 0 0] := by kernel_rfl
theorem zr84 : zr Try.prog 84 = some [.slice none 0 0] := by kernel_rfl
theorem zr86 : zr Try.prog 86 = some [.bool false, .int .u8 0, .int .i64 0, .int .u32 0] := by kernel_rfl
/-- a clock that goes on -/
structure CX where
  rows : List (Nat × (Int × Int × ByteArray))
  made : Nat
  now : Int
structure XI (s : CX) (n : Nat) : Prop where
  md : s.made ≤ n
  nw : 0 ≤ s.now ∧ s.now ≤ 1099511627776
  tk : ∀ r ∈ s.rows, 0 ≤ r.2.2.1 ∧ r.2.2.1 ≤ 1099511627776
theorem XI.up {s : CX} {n m : Nat} (h : XI s n) (hm : n ≤ m) : XI s m := ⟨Nat.le_trans h.md hm, h.nw, h.tk⟩
theorem tkM {rows : List (Nat × (Int × Int × ByteArray))} {i : Nat} (h : ∀ r ∈ rows, 0 ≤ r.2.2.1 ∧ r.2.2.1 ≤ 1099511627776) : ∀ r ∈ (takeM (pl kS_lt) () rows i).1, 0 ≤ r.2.2.1 ∧ r.2.2.1 ≤ 1099511627776 := by
  intro r hr
  cases hx : rows[i]? with
  | some x => exact h r ((takeM_perm (pl kS_lt) () hx).mem_iff.1 (List.mem_cons_of_mem _ hr))
  | none =>
    unfold takeM at hr
    have hl : rows.length ≤ i := List.getElem?_eq_none_iff.1 hx
    have hs : ∀ r ∈ (swp rows i (rows.length - 1)).take (rows.length - 1), r ∈ rows := fun r hr => (swp_perm _ _).mem_iff.1 (List.mem_of_mem_take hr)
    rw [if_neg (by omega)] at hr
    exact h r (hs r hr)
theorem XI.drop {s : CX} {n : Nat} (h : XI s n) (t : Int) : XI ⟨drR kS_lt s.rows t, s.made, s.now⟩ n := ⟨h.md, h.nw, by
  show ∀ r ∈ drR kS_lt s.rows t, _
  unfold drR
  split
  · exact h.tk
  · exact tkM h.tk⟩
theorem XI.set {s : CX} {n : Nat} (h : XI s n) (t : Int) (v : ByteArray) : XI ⟨kS_setR s.now s.rows s.made t v, kS_setN s.now s.made t, s.now⟩ (n + 1) := ⟨Nat.le_trans ck_setN (Nat.succ_le_succ h.md), h.nw, by
  show ∀ r ∈ kS_setR s.now s.rows s.made t v, _
  unfold kS_setR
  split
  · rename_i h0
    have hl := laterM_ok.1 h0
    intro r hr
    rcases List.mem_append.1 ((pushM_perm _ _ _ _ _).mem_iff.1 hr) with q | q
    · exact h.tk r q
    · rw [List.mem_singleton] at q; subst q; exact ⟨hl.1, hl.2.1⟩
  · exact h.tk⟩
theorem XI.take {s : CX} {n : Nat} (h : XI s n) : XI ⟨(takeM (pl kS_lt) () s.rows 0).1, s.made, tkN s.now s.rows⟩ n := ⟨h.md, by
  show 0 ≤ tkN s.now s.rows ∧ _
  unfold tkN
  split
  · rename_i x r e
    exact h.tk x (by rw [e]; exact List.mem_cons_self)
  · exact h.nw, tkM h.tk⟩
theorem XI_of {s : CS} (h : CI s) : XI ⟨s.rows, s.made, s.now⟩ s.made := ⟨Nat.le_refl _, h.nw, fun r hr => by
  obtain ⟨y, hy, e⟩ := List.mem_map.1 (h.ck.rl.pm.mem_iff.1 hr)
  have := h.ck.tk y hy
  rw [← e]; exact this⟩

theorem Walks_ct {X : Asn} {v v2 : Value} {ts ds : List Int} {ao ao2 : Option Addr} {cap cap2 : Nat} {more : Int} (hS : Sv [X] v 1 (eInt .u16) ts ao cap) (hn : ts.length ≤ 1048576) (ht : ∀ t ∈ ts, 0 ≤ t ∧ t < 65536) (hD : Sv [X] v2 1 (eInt .u8) ds ao2 cap2) (hd : ∀ d ∈ ds, 0 ≤ d ∧ d < 256) (hmo : 0 ≤ more ∧ more < 65536) : Ct Try.prog 6 [v, v2, .int .u16 more] [X] (fun _ : Unit => .bool true) (fun _ => [X]) := by
  refine Ct_body (n := 137) Try.func6 rfl rfl rfl fun F w0 Q hret hnorm hp => ?_
  change WC _ _ _ _ _ _ _ (_ :: F)
  refine WC_sr fun K1 hK1 => ?_
  refine WL_ac (Ac_box (xs := [v2]) rfl (by rw [hD.val]; rfl)) rfl rfl rfl ?_
  rintro _ _ ⟨b4, rfl, rfl⟩
  refine WL_ac (Ac_box (xs := [.int .u16 more]) rfl rfl) rfl rfl rfl ?_
  rintro _ _ ⟨b5, rfl, rfl⟩
  refine WL_ac (Ac_alloc zr4) rfl rfl rfl ?_
  rintro _ _ ⟨b6, rfl, rfl⟩
  refine WL_end hK1 ?_
  refine WC_sr fun K2 hK2 => ?_
  refine WL_ac (Ac_call cf23 rfl (hs := kS_new (tick := 0))) rfl rfl rfl ?_
  rintro _ _ ⟨⟨c, hb⟩, rfl, hA⟩
  simp only [List.cons_append, List.nil_append] at hA
  replace hA := hA.symm
  subst hA
  refine WL_rd (Rd_move rfl) rfl rfl rfl ?_
  refine WL_rd (Rd_ext0 rfl) rfl rfl rfl ?_
  refine WL_rd (Rd_ext1 rfl) rfl rfl rfl ?_
  refine WL_ac (Ac_alloc zr55) rfl rfl rfl ?_
  rintro _ _ ⟨b7, rfl, rfl⟩
  refine WL_ac0 (Ac_store1 rfl rfl sz55) rfl rfl ?_
  rintro _ _ rfl
  refine WL_rd (Rd_assign rfl) rfl rfl rfl ?_
  refine WL_end hK2 ?_
  refine WC_sr fun K3 hK3 => ?_
  refine WL_ac (Ac_call cf29 rfl (hs := dNew_ct (t := 0) (Int.le_refl _) (by decide))) rfl rfl rfl ?_
  rintro _ _ ⟨y1, rfl, hA⟩
  simp only [List.cons_append, List.nil_append] at hA
  replace hA := hA.symm
  subst hA
  refine WL_rd (Rd_move rfl) rfl rfl rfl ?_
  refine WL_rd (Rd_ext0 rfl) rfl rfl rfl ?_
  refine WL_rd (Rd_ext1 rfl) rfl rfl rfl ?_
  refine WL_rd (Rd_assign rfl) rfl rfl rfl ?_
  refine WL_rd (Rd_assign rfl) rfl rfl rfl ?_
  refine WL_end hK3 ?_
  refine WC_seq fun K4 hK4 => ?_
  refine WC_sr fun K5 hK5 => ?_
  refine WL_rd (Rd_load rfl tk55 (v := .pointer (some ⟨c, 0, none⟩))) rfl rfl rfl ?_
  refine WL_rd (Rd_peq rfl rfl ud55) rfl rfl rfl ?_
  refine WL_rd (Rd_move rfl) rfl rfl rfl ?_
  refine WL_rd (Rd_move rfl) rfl rfl rfl ?_
  refine WL_rd (Rd_neqN (i := 0) (j := 0) rfl rfl) rfl rfl rfl ?_
  refine WL_rd (Rd_pickF rfl rfl) rfl rfl rfl ?_
  refine WL_rd (Rd_move rfl) rfl rfl rfl ?_
  refine WL_ac (Ac_call cf10 rfl (hs := awake_ct)) rfl rfl rfl ?_
  rintro _ _ ⟨⟨⟩, rfl, hA⟩
  simp only [List.cons_append, List.nil_append] at hA
  replace hA := hA.symm
  subst hA
  refine WL_rd (Rd_not rfl) rfl rfl rfl ?_
  refine WL_rd (Rd_pickF rfl rfl) rfl rfl rfl ?_
  refine WL_end hK5 ?_
  refine WC_condF rfl ?_
  refine WC_skip ?_
  refine Ps_next hK4 ?_
  refine WC_seq fun K6 hK6 => ?_
  refine WC_sr fun K7 hK7 => ?_
  refine WL_rd (Rd_move rfl) rfl rfl rfl ?_
  refine WL_rd (Rd_len_sv rfl rfl ud23 (hA := hS)) rfl rfl rfl ?_
  refine WL_rd (Rd_move rfl) rfl rfl rfl ?_
  refine WL_end hK7 ?_
  refine WC_block ?_
  rw [show cl c 121 [.int .i64 0, .int .i64 (((0 : Nat)) : Int), .pointer (some ⟨hb, 0, none⟩)] = cl c 121 [.int .i64 (⟨[], [], 0, 0, none, 0⟩ : CS).now, .int .i64 (((⟨[], [], 0, 0, none, 0⟩ : CS).made : Nat) : Int), .pointer (some ⟨hb, 0, none⟩)] from rfl, show kS_h_hpA (.func (.func 59) #[] ([] : List Value).toArray) hb [] 0 = kS_h_hpA (.func (.func 59) #[] ([] : List Value).toArray) hb (⟨[], [], 0, 0, none, 0⟩ : CS).rows (⟨[], [], 0, 0, none, 0⟩ : CS).made from rfl, show cl y1 90 [.int .i64 0, .int .i64 ((0 : Nat) : Int), sl none ([] : List (Nat × DW)).length 0] = cl y1 90 [.int .i64 (⟨[], [], 0, 0, none, 0⟩ : CS).now, .int .i64 (((⟨[], [], 0, 0, none, 0⟩ : CS).made : Nat) : Int), sl (⟨[], [], 0, 0, none, 0⟩ : CS).a (⟨[], [], 0, 0, none, 0⟩ : CS).L.length (⟨[], [], 0, 0, none, 0⟩ : CS).cap] from rfl]
  refine WC_loopK (σ := Nat × CS) (fun ⟨k, s⟩ => [(40, .int .i64 ((k : Nat) : Int))]) (fun ⟨k, s⟩ => [cl c 121 [.int .i64 s.now, .int .i64 ((s.made : Nat) : Int), .pointer (some ⟨hb, 0, none⟩)], kS_h_hpA (.func (.func 59) #[] ([] : List Value).toArray) hb s.rows s.made, emp, cl y1 90 [.int .i64 s.now, .int .i64 ((s.made : Nat) : Int), sl s.a s.L.length s.cap], arr s.a s.cap 3 81 eDR s.L]) (fun ⟨k, s⟩ => k ≤ ts.length ∧ CI s ∧ s.now = 0 ∧ s.made = k) (fun ⟨k, s⟩ => ts.length - k) ⟨0, (⟨[], [], 0, 0, none, 0⟩ : CS)⟩ [4, 5, 6, 7, 9, 15, 16, 17, 18, 19, 38, 39, 69, 70, 71, 72, 73, 74, 75, 76, 77, 78, 79, 80, 81, 82, 83, 84, 85, 86, 87, 88, 89, 90, 91, 92, 93, 94, 95, 96, 97, 98, 99, 101, 102, 103, 104, 105, 106, 108, 110, 111, 112, 113, 114, 115, 116, 117, 118, 119, 120, 121, 122, 123, 124, 125, 126, 127, 128, 129, 130, 131, 132, 133, 134, 135, 136] (by repeat (first | exact Kep.nil | apply Kep.drop rfl | apply Kep.keep rfl)) (by (try dsimp only); repeat (first | with_reducible exact Gv.nil | (with_reducible apply Gv.cons; · (repeat (first | with_reducible exact Ext.here | with_reducible apply Ext.there))))) ?_ ?_ Sub.refl ?_
  · exact ⟨Nat.zero_le _, ⟨Ck_nil, Int.le_refl _, by decide⟩, rfl, rfl⟩
  · (try dsimp only); exact (Wk.cons (by first | rfl | (simp only [List.length_append, List.length_cons, List.length_nil, List.length_replicate, Nat.zero_add]; rfl) | (simp; done)) Wk.nil)
  · rintro ⟨k, s⟩ ⟨hk, hI, hnow, hmk⟩ K8 hK8
    simp only [List.cons_append, List.nil_append]
    refine WC_sr fun K9 hK9 => ?_
    refine WL_rd (Rd_lssN rfl rfl) rfl rfl rfl ?_
    refine WL_end hK9 ?_
    refine WC_seq fun K10 hK10 => ?_
    refine WC_cond rfl (fun hc1 => ?_) (fun hc1 => ?_)
    · try simp only [decide_eq_true_eq, decide_eq_false_iff_not, Bool.not_eq_true', Bool.not_eq_false', Bool.not_eq_true, Bool.not_eq_false, Int.not_lt, Int.not_le, Nat.not_lt, Nat.not_le, Decidable.not_not, ne_eq] at hc1
      obtain ⟨t, hk1⟩ := at_r (l := ts) (i := k) (by omega)
      have htk := ht t (List.mem_of_getElem? hk1)
      have hlen := hI.ck.len
      have hlm := hI.ck.made
      have h0 : laterM s.now t = 0 := laterM_ok.2 ⟨htk.1, by omega, by omega⟩
      refine WC_skip ?_
      refine Ps_next hK10 ?_
      refine WC_seq fun K11 hK11 => ?_
      refine WC_block ?_
      refine WC_sr fun K12 hK12 => ?_
      refine WL_rd (Rd_move rfl) rfl rfl rfl ?_
      refine WL_rd (Rd_index_sv k rfl rfl ud23 sz22 (hA := hS) (hi := by omega)) rfl rfl rfl ?_
      refine WL_rd (Rd_load_sv (f := eInt .u16) (i := k) (j := 0) rfl tk22 (hA := hS) (hl := hk1)) rfl rfl rfl ?_
      refine WL_rd (Rd_assign rfl) rfl rfl rfl ?_
      refine WL_rd (Rd_assign rfl) rfl rfl rfl ?_
      refine WL_end hK12 ?_
      refine WC_seq fun K13 hK13 => ?_
      refine WC_drawA mix (fun i => ([2, 2, 2, 2, 2, 1, 0, 2, 2, 2, 2, 2] : List Nat).getD i 0) ?_
      refine WJ_tk 0 (Rd_load rfl tk55 (v := .pointer (some ⟨c, 0, none⟩))) hp ?_ rfl (by kernel_rfl) rfl rfl rfl
      refine WJ_takeP 1 rfl (by kernel_rfl) (Rd_move rfl) rfl rfl rfl (hp _ _) ?_
      refine WJ_takeP 2 rfl (by kernel_rfl) (Rd_convZ rfl ikd22_3) rfl rfl rfl (hp _ _) ?_
      refine WJ_takeP 3 rfl (by kernel_rfl) (Rd_move rfl) rfl rfl rfl (hp _ _) ?_
      refine WJ_takeP 4 rfl (by kernel_rfl) (Rd_convNU rfl ikd3_45 (h' := uk32)) rfl rfl rfl (hp _ _) ?_
      refine WJ_all (rs := [5]) (by kernel_rfl) rfl ?_
      refine WI_one ?_
      refine WI_ac rfl (Ac_call cf30 rfl (hs := word_ct (x := BitVec.ofNat 32 k))) rfl rfl rfl rfl ?_
      rintro _ _ ⟨⟨⟩, rfl, hA⟩
      simp only [List.cons_append, List.nil_append] at hA
      replace hA := hA.symm
      subst hA
      refine ⟨(fun _ => (by repeat (first | with_reducible exact Sub.refl | with_reducible exact Sub.nil | with_reducible refine Sub.cons (by repeat (first | with_reducible exact Ext.here | with_reducible apply Ext.there)) ?_ | with_reducible refine Sub.tail ?_))), ?_⟩
      refine WJ_all (rs := [6]) (by kernel_rfl) rfl ?_
      refine WI_one ?_
      refine WI_ac rfl (Ac_call cf24 rfl (hs := kS_set (c := c) (hb := hb) (made := s.made) (now := s.now) (rows := s.rows) (tick := t) (v := wordB (BitVec.ofNat 32 k)) (h0 := h0))) rfl rfl rfl rfl ?_
      rintro _ _ ⟨⟨⟩, rfl, hA⟩
      simp only [List.cons_append, List.nil_append] at hA
      replace hA := hA.symm
      subst hA
      refine ⟨(fun h => by cases h), ?_⟩
      refine WJ_takeP 7 rfl (by kernel_rfl) (Rd_move rfl) rfl rfl rfl (hp _ _) ?_
      refine WJ_takeP 8 rfl (by kernel_rfl) (Rd_ext0 rfl) rfl rfl rfl (hp _ _) ?_
      refine WJ_takeP 9 rfl (by kernel_rfl) (Rd_ext1 rfl) rfl rfl rfl (hp _ _) ?_
      refine WJ_takeP 10 rfl (by kernel_rfl) (Rd_assign rfl) rfl rfl rfl (hp _ _) ?_
      refine WJ_takeP 11 rfl (by kernel_rfl) (Rd_assign rfl) rfl rfl rfl (hp _ _) ?_
      refine WJ_done (by kernel_rfl) ?_
      refine Ps_next hK13 ?_
      refine WC_seq fun K14 hK14 => ?_
      refine WC_sr fun K15 hK15 => ?_
      refine WL_rd (Rd_move rfl) rfl rfl rfl ?_
      refine WL_rd (Rd_move rfl) rfl rfl rfl ?_
      refine WL_rd (Rd_isF (Rd_neqN rfl rfl)) rfl rfl rfl ?_
      refine WL_rd (Rd_move rfl) rfl rfl rfl ?_
      refine WL_rd (Rd_move rfl) rfl rfl rfl ?_
      refine WL_rd (Rd_neqN (i := 0) (j := 0) rfl rfl) rfl rfl rfl ?_
      refine WL_rd (Rd_pickF rfl rfl) rfl rfl rfl ?_
      refine WL_end hK15 ?_
      refine WC_condF rfl ?_
      refine WC_skip ?_
      refine Ps_next hK14 ?_
      refine WC_region ?_
      refine WL_rd (Rd_move rfl) rfl rfl rfl ?_
      refine WL_rd (Rd_move rfl) rfl rfl rfl ?_
      refine WL_rd (Rd_convZ rfl ikd22_3) rfl rfl rfl ?_
      refine WL_rd (Rd_move rfl) rfl rfl rfl ?_
      refine WL_rd (Rd_convNU rfl ikd3_45 (h' := uk32)) rfl rfl rfl ?_
      refine WL_ac (Ac_call cf31 rfl (hs := dSet_ok (y := y1) (made := s.made) (tick := s.now) (L := s.L) (t := t) (v := BitVec.ofNat 32 k) (h0 := h0))) rfl rfl rfl ?_
      rintro _ _ ⟨⟨a1, cap1⟩, rfl, hA⟩
      simp only [List.cons_append, List.nil_append] at hA
      replace hA := hA.symm
      subst hA
      refine WL_nil ?_
      refine Ps_next hK11 ?_
      refine WC_region ?_
      refine WL_rd (Rd_addN (j := 1) rfl rfl) rfl rfl rfl ?_
      refine WL_rd (Rd_move rfl) rfl rfl rfl ?_
      refine WL_nil ?_
      refine Ps_wk (by (try simp only [List.cons_append, List.nil_append]); repeat (first | with_reducible exact Wk.nil | refine Wk.cons (by first | rfl | (simp only [List.length_append, List.length_cons, List.length_nil, List.length_replicate, Nat.zero_add]; rfl) | (simp; done)) ?_)) (by (try simp only [List.cons_append, List.nil_append]); repeat (first | with_reducible exact Sub.refl | with_reducible exact Sub.nil | with_reducible refine Sub.cons (by repeat (first | with_reducible exact Ext.here | with_reducible apply Ext.there)) ?_ | with_reducible refine Sub.tail ?_)) (hK8 ⟨k + 1, (⟨(pushM (pl kS_lt) () s.rows s.made (((s.made : Nat) : Int), t, wordB (BitVec.ofNat 32 k))).1, s.L ++ [(s.made, (t, BitVec.ofNat 32 k))], s.made + 1, s.now, a1, cap1⟩ : CS)⟩ (⟨by (try dsimp only); omega, ⟨hI.ck.set kS_lt_od ⟨htk.1, by omega⟩, hI.nw⟩, hnow, by (try dsimp only); omega⟩) (by (try dsimp only); omega))
    · try simp only [decide_eq_true_eq, decide_eq_false_iff_not, Bool.not_eq_true', Bool.not_eq_false', Bool.not_eq_true, Bool.not_eq_false, Int.not_lt, Int.not_le, Nat.not_lt, Nat.not_le, Decidable.not_not, ne_eq] at hc1
      obtain rfl : k = ts.length := by omega
      have hlen := hI.ck.len
      have hlm := hI.ck.made
      have hlmt : (s.L.map toD).length = s.L.length := List.length_map _
      refine WC_exit ?_
      refine Ps_next hK6 ?_
      refine WC_sr fun K16 hK16 => ?_
      refine WL_rd (Rd_move rfl) rfl rfl rfl ?_
      refine WL_ac (Ac_call cf32 rfl (hs := dAll_ct (y := y1) (made := s.made) (tick := s.now) (L := s.L) (hU := hI.ck.up))) rfl rfl rfl ?_
      rintro _ _ ⟨⟨wa, wc⟩, rfl, hA⟩
      simp only [List.cons_append, List.nil_append] at hA
      replace hA := hA.symm
      subst hA
      refine WL_fact (fun w h => arr_facts (a := wa) (cap := wc) (e := 3) (T := 81) (f := eDR) (l := (srt dlt s.L)) (by repeat (first | with_reducible exact Has.here | with_reducible refine Has.there ?_)) h) (fun hWSf => ?_)
      have hWS : Sv [arr wa wc 3 81 eDR (srt dlt s.L)] (sl wa (srt dlt s.L).length wc) 3 eDR (srt dlt s.L) (wa.map fun g => ⟨g, 0, none⟩) wc := Sv_own' encDR hWSf.1 hWSf.2
      have hsl : (srt dlt s.L).length = s.L.length := srt_len s.L
      refine WL_ac (Ac_alloc zr75) rfl rfl rfl ?_
      rintro _ _ ⟨b15, rfl, rfl⟩
      refine WL_ac0 (Ac_store1 rfl rfl sz75) rfl rfl ?_
      rintro _ _ rfl
      refine WL_end hK16 ?_
      refine WC_sr fun K17 hK17 => ?_
      refine WL_rd (Rd_load rfl tk55 (v := .pointer (some ⟨c, 0, none⟩))) rfl rfl rfl ?_
      refine WL_ac (Ac_call cf33 rfl (hs := kS_all (c := c) (hb := hb) (made := s.made) (now := s.now) (rows := s.rows))) rfl rfl rfl ?_
      rintro _ _ ⟨⟨cw, u, tb, ta, tc, tm⟩, rfl, hA⟩
      simp only [List.cons_append, List.nil_append] at hA
      replace hA := hA.symm
      subst hA
      refine WL_rd (Rd_assign rfl) rfl rfl rfl ?_
      refine WL_end hK17 ?_
      refine WC_seq fun K18 hK18 => ?_
      refine WC_sr fun K19 hK19 => ?_
      refine WL_rd (Rd_move rfl) rfl rfl rfl ?_
      first | refine WL_rd (Rd_feq rfl rfl Try.underlying78) rfl rfl rfl ?_ | refine WL_rd (Rd_feq0 rfl rfl Try.underlying78) rfl rfl rfl ?_
      refine WL_end hK19 ?_
      refine WC_condF rfl ?_
      refine WC_skip ?_
      refine Ps_next hK18 ?_
      refine WC_sr fun K20 hK20 => ?_
      refine WL_ac (Ac_alloc zr3) rfl rfl rfl ?_
      rintro _ _ ⟨b17, rfl, rfl⟩
      refine WL_ac0 (Ac_store1 rfl rfl sz3) rfl rfl ?_
      rintro _ _ rfl
      refine WL_end hK20 ?_
      refine WC_seq fun K21 hK21 => ?_
      refine WC_sr fun K22 hK22 => ?_
      refine WL_rd (Rd_move rfl) rfl rfl rfl ?_
      refine WL_end hK22 ?_
      refine WC_block ?_
      rw [show cl b17 3 [.int .i64 0] = cl b17 3 [.int .i64 ((0 : Nat) : Int)] from rfl]
      refine WC_rf (f := 69) (caps := [.pointer (some ⟨cw, 0, none⟩)]) rfl cf69 fun lrf_0 Drf_0 rrf_0 hstrf_0 hpdrf_0 hparf_0 hasrf_0 hbdrf_0 hfrrf_0 => ?_
      have hyrf_0 : ∀ (i : Nat) (x : Nat × (Int × Int × ByteArray)), (srt kS_lt (s.L.map toD))[i]? = some x → Yd Try.prog lrf_0 [.agg [.int .i64 x.2.1, .int .i64 x.2.2.1, .string x.2.2.2].toArray] [(fun (i : Nat) => exA (fun (x' : CX) => XI x' (s.made + i)) (fun (x' : CX) => [lp lrf_0 rrf_0, LCk cw u tb ta tc tm s.rows, cl b17 3 [.int .i64 ((i : Nat) : Int)], cl c 121 [.int .i64 x'.now, .int .i64 ((x'.made : Nat) : Int), .pointer (some ⟨hb, 0, none⟩)], kS_h_hpA (.func (.func 59) #[] ([] : List Value).toArray) hb x'.rows x'.made, emp, cl b4 70 [v2], cl b5 22 [.int .u16 more], cl b7 55 [.pointer (some ⟨c, 0, none⟩)], X, cl b15 75 [sl wa (srt dlt s.L).length wc], arr wa wc 3 81 eDR (srt dlt s.L), cl b6 4 [.bool false]])) i] (fun b : Bool => .bool b) (fun b => [bif b then (fun (i : Nat) => exA (fun (x' : CX) => XI x' (s.made + i)) (fun (x' : CX) => [lp lrf_0 rrf_0, LCk cw u tb ta tc tm s.rows, cl b17 3 [.int .i64 ((i : Nat) : Int)], cl c 121 [.int .i64 x'.now, .int .i64 ((x'.made : Nat) : Int), .pointer (some ⟨hb, 0, none⟩)], kS_h_hpA (.func (.func 59) #[] ([] : List Value).toArray) hb x'.rows x'.made, emp, cl b4 70 [v2], cl b5 22 [.int .u16 more], cl b7 55 [.pointer (some ⟨c, 0, none⟩)], X, cl b15 75 [sl wa (srt dlt s.L).length wc], arr wa wc 3 81 eDR (srt dlt s.L), cl b6 4 [.bool false]])) (i + 1) else (exA (fun _ : Unit => False) (fun _ => []))]) := by
        intro i x hix
        refine Yd_ex ?_
        rintro x' hx'
        refine Yd_of (pre := [LCk cw u tb ta tc tm s.rows, cl b17 3 [.int .i64 ((i : Nat) : Int)], cl c 121 [.int .i64 x'.now, .int .i64 ((x'.made : Nat) : Int), .pointer (some ⟨hb, 0, none⟩)], kS_h_hpA (.func (.func 59) #[] ([] : List Value).toArray) hb x'.rows x'.made, emp, cl b4 70 [v2], cl b5 22 [.int .u16 more], cl b7 55 [.pointer (some ⟨c, 0, none⟩)], X, cl b15 75 [sl wa (srt dlt s.L).length wc], arr wa wc 3 81 eDR (srt dlt s.L), cl b6 4 [.bool false]]) hstrf_0 hpdrf_0 hparf_0 hasrf_0 hbdrf_0 hfrrf_0 rfl rfl fun F w0 Q K hp hend hbeg => ?_
        change WC _ _ _ _ _ _ ((76, .agg [.int .i64 x.2.1, .int .i64 x.2.2.1, .string x.2.2.2].toArray) :: _) (_ :: _ :: _ :: _ :: _ :: _ :: _ :: _ :: _ :: _ :: _ :: _ :: _ :: F)
        dsimp only at *
        obtain ⟨y, hyi, rfl⟩ := hI.ck.all kS_lt_od kS_cm hix
        have hil := (List.getElem?_eq_some_iff.1 hyi).1
        refine WC_region ?_
        refine WL_ac (Ac_alloc zr62) rfl rfl rfl ?_
        rintro _ _ ⟨b18, rfl, rfl⟩
        refine WL_ac0 (Ac_store (ys := [.int .i64 (toD y).2.1, .int .i64 (toD y).2.2.1, .string (toD y).2.2.2]) rfl rfl sz62 (h1 := kS_encD.one (toD y).2) (hr := rfl)) rfl rfl ?_
        rintro _ _ rfl
        refine WL_nil ?_
        refine hbeg (by repeat (first | with_reducible exact Ext.here | with_reducible apply Ext.there)) ?_
        refine WC_block ?_
        refine WC_seq fun K23 hK23 => ?_
        refine WC_seq fun K24 hK24 => ?_
        refine WC_drawA mix (fun i => ([2, 2, 2, 2, 2, 2, 2, 2, 2, 2, 1, 2, 2] : List Nat).getD i 0) ?_
        refine WJ_tk 0 (Rd_load rfl tk3) hp ?_ rfl (by kernel_rfl) rfl rfl rfl
        refine WJ_tk 1 (Rd_load rfl tk75 (v := sl wa (srt dlt s.L).length wc)) hp ?_ rfl (by kernel_rfl) rfl rfl rfl
        refine WJ_takeP 2 rfl (by kernel_rfl) (Rd_len rfl rfl ud75) rfl rfl rfl (hp _ _) ?_
        refine WJ_takeP 3 rfl (by kernel_rfl) (Rd_isF (Rd_geqN rfl rfl)) rfl rfl rfl (hp _ _) ?_
        refine WJ_takeP 4 rfl (by kernel_rfl) (Rd_move rfl) rfl rfl rfl (hp _ _) ?_
        refine WJ_tk 5 (Rd_loadg (vs := [.int .i64 (toD y).2.1, .int .i64 (toD y).2.2.1, .string (toD y).2.2.2]) rfl tk62 (hi := rfl)) hp ?_ rfl (by kernel_rfl) rfl rfl rfl
        refine WJ_tk 6 (Rd_load rfl tk75 (v := sl wa (srt dlt s.L).length wc)) hp ?_ rfl (by kernel_rfl) rfl rfl rfl
        refine WJ_tk 7 (Rd_load rfl tk3) hp ?_ rfl (by kernel_rfl) rfl rfl rfl
        refine WJ_takeP 8 rfl (by kernel_rfl) (Rd_index_sv i rfl rfl ud75 sz81 (hA := hWS) (hi := by omega)) rfl rfl rfl (hp _ _) ?_
        refine WJ_tk 9 (Rd_loadg_sv (f := eDR) (i := i) rfl tk81 (hA := hWS) (hl := hyi)) hp ?_ rfl (by kernel_rfl) rfl rfl rfl
        refine WJ_all (rs := [10]) (by kernel_rfl) rfl ?_
        refine WI_one ?_
        refine WI_ac rfl (Ac_call cf34 rfl (hs := alike_ct (y := y))) rfl rfl rfl rfl ?_
        rintro _ _ ⟨⟨⟩, rfl, hA⟩
        simp only [List.cons_append, List.nil_append] at hA
        replace hA := hA.symm
        subst hA
        refine ⟨(fun _ => (by repeat (first | with_reducible exact Sub.refl | with_reducible exact Sub.nil | with_reducible refine Sub.cons (by repeat (first | with_reducible exact Ext.here | with_reducible apply Ext.there)) ?_ | with_reducible refine Sub.tail ?_))), ?_⟩
        refine WJ_takeP 11 rfl (by kernel_rfl) (Rd_not rfl) rfl rfl rfl (hp _ _) ?_
        refine WJ_takeP 12 rfl (by kernel_rfl) (Rd_pickF rfl rfl) rfl rfl rfl (hp _ _) ?_
        refine WJ_done (by kernel_rfl) ?_
        refine Ps_next hK24 ?_
        refine WC_condF rfl ?_
        refine WC_skip ?_
        refine Ps_next hK23 ?_
        refine WC_seq fun K25 hK25 => ?_
        refine WC_sr fun K26 hK26 => ?_
        refine WL_rd (Rd_load rfl tk3) rfl rfl rfl ?_
        refine WL_rd (Rd_load rfl tk70 (v := v2)) rfl rfl rfl ?_
        refine WL_rd (Rd_len_sv rfl rfl ud70 (hA := hD)) rfl rfl rfl ?_
        refine WL_rd (Rd_lssN rfl rfl) rfl rfl rfl ?_
        refine WL_end hK26 ?_
        refine WC_cond rfl (fun hc5 => ?_) (fun hc5 => ?_)
        · try simp only [decide_eq_true_eq, decide_eq_false_iff_not, Bool.not_eq_true', Bool.not_eq_false', Bool.not_eq_true, Bool.not_eq_false, Int.not_lt, Int.not_le, Nat.not_lt, Nat.not_le, Decidable.not_not, ne_eq] at hc5
          obtain ⟨dj, hdj⟩ := at_r (l := ds) (i := i) (by omega)
          have hdk := hd dj (List.mem_of_getElem? hdj)
          have hnw := hx'.nw
          have hmx := hx'.md
          have hx2 := ((hx'.drop dj).set (x'.now + more) (⟨#[109, 111, 114, 101]⟩ : ByteArray)).take
          have hmx2 := hx2.md
          dsimp only at hmx2
          refine WC_seq fun K27 hK27 => ?_
          refine WC_drawA mix (fun i => ([2, 2, 2, 2, 2, 2, 0] : List Nat).getD i 0) ?_
          refine WJ_tk 0 (Rd_load rfl tk55 (v := .pointer (some ⟨c, 0, none⟩))) hp ?_ rfl (by kernel_rfl) rfl rfl rfl
          refine WJ_all (rs := [1, 2]) (by kernel_rfl) rfl ?_
          refine WI_cons ?_ (WI_cons ?_ (by intro _ h; cases h))
          · skip
            refine WI_rd rfl (Rd_load rfl tk70 (v := v2)) rfl rfl rfl (fun h => by cases h) ?_
            refine WJ_all (rs := [2]) (by kernel_rfl) rfl ?_
            refine WI_one ?_
            refine WI_rd rfl (Rd_load rfl tk3) rfl rfl rfl (fun h => by cases h) ?_
            refine WJ_takeP 3 rfl (by kernel_rfl) (Rd_index_sv i rfl rfl ud70 sz5 (hA := hD) (hi := by omega)) rfl rfl rfl (hp _ _) ?_
            refine WJ_all (rs := [4]) (by kernel_rfl) rfl ?_
            refine WI_one ?_
            refine WI_rd rfl (Rd_load_sv (f := eInt .u8) (i := i) (j := 0) rfl tk5 (hA := hD) (hl := hdj)) rfl rfl rfl (fun h => by cases h) ?_
            refine WJ_takeP 5 rfl (by kernel_rfl) (Rd_convZ rfl ikd5_3) rfl rfl rfl (hp _ _) ?_
            refine WJ_all (rs := [6]) (by kernel_rfl) rfl ?_
            refine WI_one ?_
            refine WI_ac rfl (Ac_call cf28 rfl (hs := kS_drop_u (c := c) (hb := hb) (made := x'.made) (now := x'.now) (rows := x'.rows) (t := dj))) rfl rfl rfl rfl ?_
            rintro _ _ ⟨⟨⟩, rfl, hA⟩
            simp only [List.cons_append, List.nil_append] at hA
            replace hA := hA.symm
            subst hA
            refine ⟨(fun h => by cases h), ?_⟩
            refine WJ_done (by kernel_rfl) ?_
            refine Ps_next hK27 ?_
            refine WC_seq fun K28 hK28 => ?_
            refine WC_drawA mix (fun i => ([2, 2, 1, 2, 2, 2, 0] : List Nat).getD i 0) ?_
            refine WJ_tk 0 (Rd_load rfl tk55 (v := .pointer (some ⟨c, 0, none⟩))) hp ?_ rfl (by kernel_rfl) rfl rfl rfl
            refine WJ_all (rs := [1, 3]) (by kernel_rfl) rfl ?_
            refine WI_cons ?_ (WI_cons ?_ (by intro _ h; cases h))
            · skip
              refine WI_rd rfl (Rd_load rfl tk55 (v := .pointer (some ⟨c, 0, none⟩))) rfl rfl rfl (fun h => by cases h) ?_
              refine WJ_all (rs := [2, 3]) (by kernel_rfl) rfl ?_
              refine WI_cons ?_ (WI_cons ?_ (by intro _ h; cases h))
              · skip
                refine WI_ac rfl (Ac_call cf27 rfl (hs := kS_now (c := c) (hb := hb) (made := x'.made) (now := x'.now) (rows := (drR kS_lt x'.rows dj)))) rfl rfl rfl rfl ?_
                rintro _ _ ⟨⟨⟩, rfl, hA⟩
                simp only [List.cons_append, List.nil_append] at hA
                replace hA := hA.symm
                subst hA
                refine ⟨(fun _ => (by repeat (first | with_reducible exact Sub.refl | with_reducible exact Sub.nil | with_reducible refine Sub.cons (by repeat (first | with_reducible exact Ext.here | with_reducible apply Ext.there)) ?_ | with_reducible refine Sub.tail ?_))), ?_⟩
                refine WJ_all (rs := [3]) (by kernel_rfl) rfl ?_
                refine WI_one ?_
                refine WI_rd rfl (Rd_load rfl tk22 (v := .int .u16 more)) rfl rfl rfl (fun h => by cases h) ?_
                refine WJ_takeP 4 rfl (by kernel_rfl) (Rd_convZ rfl ikd22_3) rfl rfl rfl (hp _ _) ?_
                refine WJ_takeP 5 rfl (by kernel_rfl) (Rd_add' (r := (x'.now + more)) rfl rfl (wr64 rfl (by omega) (by omega))) rfl rfl rfl (hp _ _) ?_
                refine WJ_all (rs := [6]) (by kernel_rfl) rfl ?_
                refine WI_one ?_
                refine WI_ac rfl (Ac_call cf24 rfl (hs := kS_set_u (c := c) (hb := hb) (made := x'.made) (now := x'.now) (rows := (drR kS_lt x'.rows dj)) (tick := (x'.now + more)) (v := (⟨#[109, 111, 114, 101]⟩ : ByteArray)))) rfl rfl rfl rfl ?_
                rintro _ _ ⟨⟨⟩, rfl, hA⟩
                simp only [List.cons_append, List.nil_append] at hA
                replace hA := hA.symm
                subst hA
                refine ⟨(fun h => by cases h), ?_⟩
                refine WJ_done (by kernel_rfl) ?_
                refine Ps_next hK28 ?_
                refine WC_region ?_
                refine WL_rd (Rd_load rfl tk55 (v := .pointer (some ⟨c, 0, none⟩))) rfl rfl rfl ?_
                refine WL_ac (Ac_call cf25 rfl (hs := kS_take_u (c := c) (hb := hb) (made := (kS_setN x'.now x'.made (x'.now + more))) (now := x'.now) (rows := (kS_setR x'.now (drR kS_lt x'.rows dj) x'.made (x'.now + more) (⟨#[109, 111, 114, 101]⟩ : ByteArray))))) rfl rfl rfl ?_
                rintro _ _ ⟨⟨⟩, rfl, hA⟩
                simp only [List.cons_append, List.nil_append] at hA
                replace hA := hA.symm
                subst hA
                refine WL_nil ?_
                refine Ps_next hK25 ?_
                refine WC_region ?_
                refine WL_rd (Rd_load rfl tk3) rfl rfl rfl ?_
                refine WL_rd (Rd_addN (j := 1) rfl rfl) rfl rfl rfl ?_
                refine WL_ac0 (Ac_store1 rfl rfl sz3) rfl rfl ?_
                rintro _ _ rfl
                refine WL_nil ?_
                refine hend.nrm true rfl (by repeat (first | with_reducible exact Ext.here | with_reducible apply Ext.there)) ?_
                try simp only [List.cons_append, List.nil_append, cond_true, cond_false]
                exact imp_ex (⟨(takeM (pl kS_lt) () (kS_setR x'.now (drR kS_lt x'.rows dj) x'.made (x'.now + more) (⟨#[109, 111, 114, 101]⟩ : ByteArray)) 0).1, (kS_setN x'.now x'.made (x'.now + more)), tkN x'.now (kS_setR x'.now (drR kS_lt x'.rows dj) x'.made (x'.now + more) (⟨#[109, 111, 114, 101]⟩ : ByteArray))⟩) (hx2.up (by omega)) (by (try dsimp only); (try simp only [List.cons_append, List.nil_append]); repeat (first | with_reducible exact Sub.refl | with_reducible exact Sub.nil | with_reducible refine Sub.cons (by repeat (first | with_reducible exact Ext.here | with_reducible apply Ext.there)) ?_ | with_reducible refine Sub.tail ?_))
              · skip
                refine WI_rd rfl (Rd_load rfl tk22 (v := .int .u16 more)) rfl rfl rfl (fun h => by cases h) ?_
                refine WJ_takeP 4 rfl (by kernel_rfl) (Rd_convZ rfl ikd22_3) rfl rfl rfl (hp _ _) ?_
                refine WJ_all (rs := [2]) (by kernel_rfl) rfl ?_
                refine WI_one ?_
                refine WI_ac rfl (Ac_call cf27 rfl (hs := kS_now (c := c) (hb := hb) (made := x'.made) (now := x'.now) (rows := (drR kS_lt x'.rows dj)))) rfl rfl rfl rfl ?_
                rintro _ _ ⟨⟨⟩, rfl, hA⟩
                simp only [List.cons_append, List.nil_append] at hA
                replace hA := hA.symm
                subst hA
                refine ⟨(fun _ => (by repeat (first | with_reducible exact Sub.refl | with_reducible exact Sub.nil | with_reducible refine Sub.cons (by repeat (first | with_reducible exact Ext.here | with_reducible apply Ext.there)) ?_ | with_reducible refine Sub.tail ?_))), ?_⟩
                refine WJ_takeP 5 rfl (by kernel_rfl) (Rd_add' (r := (x'.now + more)) rfl rfl (wr64 rfl (by omega) (by omega))) rfl rfl rfl (hp _ _) ?_
                refine WJ_all (rs := [6]) (by kernel_rfl) rfl ?_
                refine WI_one ?_
                refine WI_ac rfl (Ac_call cf24 rfl (hs := kS_set_u (c := c) (hb := hb) (made := x'.made) (now := x'.now) (rows := (drR kS_lt x'.rows dj)) (tick := (x'.now + more)) (v := (⟨#[109, 111, 114, 101]⟩ : ByteArray)))) rfl rfl rfl rfl ?_
                rintro _ _ ⟨⟨⟩, rfl, hA⟩
                simp only [List.cons_append, List.nil_append] at hA
                replace hA := hA.symm
                subst hA
                refine ⟨(fun h => by cases h), ?_⟩
                refine WJ_done (by kernel_rfl) ?_
                refine Ps_next hK28 ?_
                refine WC_region ?_
                refine WL_rd (Rd_load rfl tk55 (v := .pointer (some ⟨c, 0, none⟩))) rfl rfl rfl ?_
                refine WL_ac (Ac_call cf25 rfl (hs := kS_take_u (c := c) (hb := hb) (made := (kS_setN x'.now x'.made (x'.now + more))) (now := x'.now) (rows := (kS_setR x'.now (drR kS_lt x'.rows dj) x'.made (x'.now + more) (⟨#[109, 111, 114, 101]⟩ : ByteArray))))) rfl rfl rfl ?_
                rintro _ _ ⟨⟨⟩, rfl, hA⟩
                simp only [List.cons_append, List.nil_append] at hA
                replace hA := hA.symm
                subst hA
                refine WL_nil ?_
                refine Ps_next hK25 ?_
                refine WC_region ?_
                refine WL_rd (Rd_load rfl tk3) rfl rfl rfl ?_
                refine WL_rd (Rd_addN (j := 1) rfl rfl) rfl rfl rfl ?_
                refine WL_ac0 (Ac_store1 rfl rfl sz3) rfl rfl ?_
                rintro _ _ rfl
                refine WL_nil ?_
                refine hend.nrm true rfl (by repeat (first | with_reducible exact Ext.here | with_reducible apply Ext.there)) ?_
                try simp only [List.cons_append, List.nil_append, cond_true, cond_false]
                exact imp_ex (⟨(takeM (pl kS_lt) () (kS_setR x'.now (drR kS_lt x'.rows dj) x'.made (x'.now + more) (⟨#[109, 111, 114, 101]⟩ : ByteArray)) 0).1, (kS_setN x'.now x'.made (x'.now + more)), tkN x'.now (kS_setR x'.now (drR kS_lt x'.rows dj) x'.made (x'.now + more) (⟨#[109, 111, 114, 101]⟩ : ByteArray))⟩) (hx2.up (by omega)) (by (try dsimp only); (try simp only [List.cons_append, List.nil_append]); repeat (first | with_reducible exact Sub.refl | with_reducible exact Sub.nil | with_reducible refine Sub.cons (by repeat (first | with_reducible exact Ext.here | with_reducible apply Ext.there)) ?_ | with_reducible refine Sub.tail ?_))
            · skip
              refine WI_rd rfl (Rd_load rfl tk22 (v := .int .u16 more)) rfl rfl rfl (fun h => by cases h) ?_
              refine WJ_takeP 4 rfl (by kernel_rfl) (Rd_convZ rfl ikd22_3) rfl rfl rfl (hp _ _) ?_
              refine WJ_all (rs := [1]) (by kernel_rfl) rfl ?_
              refine WI_one ?_
              refine WI_rd rfl (Rd_load rfl tk55 (v := .pointer (some ⟨c, 0, none⟩))) rfl rfl rfl (fun h => by cases h) ?_
              refine WJ_all (rs := [2]) (by kernel_rfl) rfl ?_
              refine WI_one ?_
              refine WI_ac rfl (Ac_call cf27 rfl (hs := kS_now (c := c) (hb := hb) (made := x'.made) (now := x'.now) (rows := (drR kS_lt x'.rows dj)))) rfl rfl rfl rfl ?_
              rintro _ _ ⟨⟨⟩, rfl, hA⟩
              simp only [List.cons_append, List.nil_append] at hA
              replace hA := hA.symm
              subst hA
              refine ⟨(fun _ => (by repeat (first | with_reducible exact Sub.refl | with_reducible exact Sub.nil | with_reducible refine Sub.cons (by repeat (first | with_reducible exact Ext.here | with_reducible apply Ext.there)) ?_ | with_reducible refine Sub.tail ?_))), ?_⟩
              refine WJ_takeP 5 rfl (by kernel_rfl) (Rd_add' (r := (x'.now + more)) rfl rfl (wr64 rfl (by omega) (by omega))) rfl rfl rfl (hp _ _) ?_
              refine WJ_all (rs := [6]) (by kernel_rfl) rfl ?_
              refine WI_one ?_
              refine WI_ac rfl (Ac_call cf24 rfl (hs := kS_set_u (c := c) (hb := hb) (made := x'.made) (now := x'.now) (rows := (drR kS_lt x'.rows dj)) (tick := (x'.now + more)) (v := (⟨#[109, 111, 114, 101]⟩ : ByteArray)))) rfl rfl rfl rfl ?_
              rintro _ _ ⟨⟨⟩, rfl, hA⟩
              simp only [List.cons_append, List.nil_append] at hA
              replace hA := hA.symm
              subst hA
              refine ⟨(fun h => by cases h), ?_⟩
              refine WJ_done (by kernel_rfl) ?_
              refine Ps_next hK28 ?_
              refine WC_region ?_
              refine WL_rd (Rd_load rfl tk55 (v := .pointer (some ⟨c, 0, none⟩))) rfl rfl rfl ?_
              refine WL_ac (Ac_call cf25 rfl (hs := kS_take_u (c := c) (hb := hb) (made := (kS_setN x'.now x'.made (x'.now + more))) (now := x'.now) (rows := (kS_setR x'.now (drR kS_lt x'.rows dj) x'.made (x'.now + more) (⟨#[109, 111, 114, 101]⟩ : ByteArray))))) rfl rfl rfl ?_
              rintro _ _ ⟨⟨⟩, rfl, hA⟩
              simp only [List.cons_append, List.nil_append] at hA
              replace hA := hA.symm
              subst hA
              refine WL_nil ?_
              refine Ps_next hK25 ?_
              refine WC_region ?_
              refine WL_rd (Rd_load rfl tk3) rfl rfl rfl ?_
              refine WL_rd (Rd_addN (j := 1) rfl rfl) rfl rfl rfl ?_
              refine WL_ac0 (Ac_store1 rfl rfl sz3) rfl rfl ?_
              rintro _ _ rfl
              refine WL_nil ?_
              refine hend.nrm true rfl (by repeat (first | with_reducible exact Ext.here | with_reducible apply Ext.there)) ?_
              try simp only [List.cons_append, List.nil_append, cond_true, cond_false]
              exact imp_ex (⟨(takeM (pl kS_lt) () (kS_setR x'.now (drR kS_lt x'.rows dj) x'.made (x'.now + more) (⟨#[109, 111, 114, 101]⟩ : ByteArray)) 0).1, (kS_setN x'.now x'.made (x'.now + more)), tkN x'.now (kS_setR x'.now (drR kS_lt x'.rows dj) x'.made (x'.now + more) (⟨#[109, 111, 114, 101]⟩ : ByteArray))⟩) (hx2.up (by omega)) (by (try dsimp only); (try simp only [List.cons_append, List.nil_append]); repeat (first | with_reducible exact Sub.refl | with_reducible exact Sub.nil | with_reducible refine Sub.cons (by repeat (first | with_reducible exact Ext.here | with_reducible apply Ext.there)) ?_ | with_reducible refine Sub.tail ?_))
          · skip
            refine WI_rd rfl (Rd_load rfl tk3) rfl rfl rfl (fun h => by cases h) ?_
            refine WJ_all (rs := [1]) (by kernel_rfl) rfl ?_
            refine WI_one ?_
            refine WI_rd rfl (Rd_load rfl tk70 (v := v2)) rfl rfl rfl (fun h => by cases h) ?_
            refine WJ_takeP 3 rfl (by kernel_rfl) (Rd_index_sv i rfl rfl ud70 sz5 (hA := hD) (hi := by omega)) rfl rfl rfl (hp _ _) ?_
            refine WJ_all (rs := [4]) (by kernel_rfl) rfl ?_
            refine WI_one ?_
            refine WI_rd rfl (Rd_load_sv (f := eInt .u8) (i := i) (j := 0) rfl tk5 (hA := hD) (hl := hdj)) rfl rfl rfl (fun h => by cases h) ?_
            refine WJ_takeP 5 rfl (by kernel_rfl) (Rd_convZ rfl ikd5_3) rfl rfl rfl (hp _ _) ?_
            refine WJ_all (rs := [6]) (by kernel_rfl) rfl ?_
            refine WI_one ?_
            refine WI_ac rfl (Ac_call cf28 rfl (hs := kS_drop_u (c := c) (hb := hb) (made := x'.made) (now := x'.now) (rows := x'.rows) (t := dj))) rfl rfl rfl rfl ?_
            rintro _ _ ⟨⟨⟩, rfl, hA⟩
            simp only [List.cons_append, List.nil_append] at hA
            replace hA := hA.symm
            subst hA
            refine ⟨(fun h => by cases h), ?_⟩
            refine WJ_done (by kernel_rfl) ?_
            refine Ps_next hK27 ?_
            refine WC_seq fun K29 hK29 => ?_
            refine WC_drawA mix (fun i => ([2, 2, 1, 2, 2, 2, 0] : List Nat).getD i 0) ?_
            refine WJ_tk 0 (Rd_load rfl tk55 (v := .pointer (some ⟨c, 0, none⟩))) hp ?_ rfl (by kernel_rfl) rfl rfl rfl
            refine WJ_all (rs := [1, 3]) (by kernel_rfl) rfl ?_
            refine WI_cons ?_ (WI_cons ?_ (by intro _ h; cases h))
            · skip
              refine WI_rd rfl (Rd_load rfl tk55 (v := .pointer (some ⟨c, 0, none⟩))) rfl rfl rfl (fun h => by cases h) ?_
              refine WJ_all (rs := [2, 3]) (by kernel_rfl) rfl ?_
              refine WI_cons ?_ (WI_cons ?_ (by intro _ h; cases h))
              · skip
                refine WI_ac rfl (Ac_call cf27 rfl (hs := kS_now (c := c) (hb := hb) (made := x'.made) (now := x'.now) (rows := (drR kS_lt x'.rows dj)))) rfl rfl rfl rfl ?_
                rintro _ _ ⟨⟨⟩, rfl, hA⟩
                simp only [List.cons_append, List.nil_append] at hA
                replace hA := hA.symm
                subst hA
                refine ⟨(fun _ => (by repeat (first | with_reducible exact Sub.refl | with_reducible exact Sub.nil | with_reducible refine Sub.cons (by repeat (first | with_reducible exact Ext.here | with_reducible apply Ext.there)) ?_ | with_reducible refine Sub.tail ?_))), ?_⟩
                refine WJ_all (rs := [3]) (by kernel_rfl) rfl ?_
                refine WI_one ?_
                refine WI_rd rfl (Rd_load rfl tk22 (v := .int .u16 more)) rfl rfl rfl (fun h => by cases h) ?_
                refine WJ_takeP 4 rfl (by kernel_rfl) (Rd_convZ rfl ikd22_3) rfl rfl rfl (hp _ _) ?_
                refine WJ_takeP 5 rfl (by kernel_rfl) (Rd_add' (r := (x'.now + more)) rfl rfl (wr64 rfl (by omega) (by omega))) rfl rfl rfl (hp _ _) ?_
                refine WJ_all (rs := [6]) (by kernel_rfl) rfl ?_
                refine WI_one ?_
                refine WI_ac rfl (Ac_call cf24 rfl (hs := kS_set_u (c := c) (hb := hb) (made := x'.made) (now := x'.now) (rows := (drR kS_lt x'.rows dj)) (tick := (x'.now + more)) (v := (⟨#[109, 111, 114, 101]⟩ : ByteArray)))) rfl rfl rfl rfl ?_
                rintro _ _ ⟨⟨⟩, rfl, hA⟩
                simp only [List.cons_append, List.nil_append] at hA
                replace hA := hA.symm
                subst hA
                refine ⟨(fun h => by cases h), ?_⟩
                refine WJ_done (by kernel_rfl) ?_
                refine Ps_next hK29 ?_
                refine WC_region ?_
                refine WL_rd (Rd_load rfl tk55 (v := .pointer (some ⟨c, 0, none⟩))) rfl rfl rfl ?_
                refine WL_ac (Ac_call cf25 rfl (hs := kS_take_u (c := c) (hb := hb) (made := (kS_setN x'.now x'.made (x'.now + more))) (now := x'.now) (rows := (kS_setR x'.now (drR kS_lt x'.rows dj) x'.made (x'.now + more) (⟨#[109, 111, 114, 101]⟩ : ByteArray))))) rfl rfl rfl ?_
                rintro _ _ ⟨⟨⟩, rfl, hA⟩
                simp only [List.cons_append, List.nil_append] at hA
                replace hA := hA.symm
                subst hA
                refine WL_nil ?_
                refine Ps_next hK25 ?_
                refine WC_region ?_
                refine WL_rd (Rd_load rfl tk3) rfl rfl rfl ?_
                refine WL_rd (Rd_addN (j := 1) rfl rfl) rfl rfl rfl ?_
                refine WL_ac0 (Ac_store1 rfl rfl sz3) rfl rfl ?_
                rintro _ _ rfl
                refine WL_nil ?_
                refine hend.nrm true rfl (by repeat (first | with_reducible exact Ext.here | with_reducible apply Ext.there)) ?_
                try simp only [List.cons_append, List.nil_append, cond_true, cond_false]
                exact imp_ex (⟨(takeM (pl kS_lt) () (kS_setR x'.now (drR kS_lt x'.rows dj) x'.made (x'.now + more) (⟨#[109, 111, 114, 101]⟩ : ByteArray)) 0).1, (kS_setN x'.now x'.made (x'.now + more)), tkN x'.now (kS_setR x'.now (drR kS_lt x'.rows dj) x'.made (x'.now + more) (⟨#[109, 111, 114, 101]⟩ : ByteArray))⟩) (hx2.up (by omega)) (by (try dsimp only); (try simp only [List.cons_append, List.nil_append]); repeat (first | with_reducible exact Sub.refl | with_reducible exact Sub.nil | with_reducible refine Sub.cons (by repeat (first | with_reducible exact Ext.here | with_reducible apply Ext.there)) ?_ | with_reducible refine Sub.tail ?_))
              · skip
                refine WI_rd rfl (Rd_load rfl tk22 (v := .int .u16 more)) rfl rfl rfl (fun h => by cases h) ?_
                refine WJ_takeP 4 rfl (by kernel_rfl) (Rd_convZ rfl ikd22_3) rfl rfl rfl (hp _ _) ?_
                refine WJ_all (rs := [2]) (by kernel_rfl) rfl ?_
                refine WI_one ?_
                refine WI_ac rfl (Ac_call cf27 rfl (hs := kS_now (c := c) (hb := hb) (made := x'.made) (now := x'.now) (rows := (drR kS_lt x'.rows dj)))) rfl rfl rfl rfl ?_
                rintro _ _ ⟨⟨⟩, rfl, hA⟩
                simp only [List.cons_append, List.nil_append] at hA
                replace hA := hA.symm
                subst hA
                refine ⟨(fun _ => (by repeat (first | with_reducible exact Sub.refl | with_reducible exact Sub.nil | with_reducible refine Sub.cons (by repeat (first | with_reducible exact Ext.here | with_reducible apply Ext.there)) ?_ | with_reducible refine Sub.tail ?_))), ?_⟩
                refine WJ_takeP 5 rfl (by kernel_rfl) (Rd_add' (r := (x'.now + more)) rfl rfl (wr64 rfl (by omega) (by omega))) rfl rfl rfl (hp _ _) ?_
                refine WJ_all (rs := [6]) (by kernel_rfl) rfl ?_
                refine WI_one ?_
                refine WI_ac rfl (Ac_call cf24 rfl (hs := kS_set_u (c := c) (hb := hb) (made := x'.made) (now := x'.now) (rows := (drR kS_lt x'.rows dj)) (tick := (x'.now + more)) (v := (⟨#[109, 111, 114, 101]⟩ : ByteArray)))) rfl rfl rfl rfl ?_
                rintro _ _ ⟨⟨⟩, rfl, hA⟩
                simp only [List.cons_append, List.nil_append] at hA
                replace hA := hA.symm
                subst hA
                refine ⟨(fun h => by cases h), ?_⟩
                refine WJ_done (by kernel_rfl) ?_
                refine Ps_next hK29 ?_
                refine WC_region ?_
                refine WL_rd (Rd_load rfl tk55 (v := .pointer (some ⟨c, 0, none⟩))) rfl rfl rfl ?_
                refine WL_ac (Ac_call cf25 rfl (hs := kS_take_u (c := c) (hb := hb) (made := (kS_setN x'.now x'.made (x'.now + more))) (now := x'.now) (rows := (kS_setR x'.now (drR kS_lt x'.rows dj) x'.made (x'.now + more) (⟨#[109, 111, 114, 101]⟩ : ByteArray))))) rfl rfl rfl ?_
                rintro _ _ ⟨⟨⟩, rfl, hA⟩
                simp only [List.cons_append, List.nil_append] at hA
                replace hA := hA.symm
                subst hA
                refine WL_nil ?_
                refine Ps_next hK25 ?_
                refine WC_region ?_
                refine WL_rd (Rd_load rfl tk3) rfl rfl rfl ?_
                refine WL_rd (Rd_addN (j := 1) rfl rfl) rfl rfl rfl ?_
                refine WL_ac0 (Ac_store1 rfl rfl sz3) rfl rfl ?_
                rintro _ _ rfl
                refine WL_nil ?_
                refine hend.nrm true rfl (by repeat (first | with_reducible exact Ext.here | with_reducible apply Ext.there)) ?_
                try simp only [List.cons_append, List.nil_append, cond_true, cond_false]
                exact imp_ex (⟨(takeM (pl kS_lt) () (kS_setR x'.now (drR kS_lt x'.rows dj) x'.made (x'.now + more) (⟨#[109, 111, 114, 101]⟩ : ByteArray)) 0).1, (kS_setN x'.now x'.made (x'.now + more)), tkN x'.now (kS_setR x'.now (drR kS_lt x'.rows dj) x'.made (x'.now + more) (⟨#[109, 111, 114, 101]⟩ : ByteArray))⟩) (hx2.up (by omega)) (by (try dsimp only); (try simp only [List.cons_append, List.nil_append]); repeat (first | with_reducible exact Sub.refl | with_reducible exact Sub.nil | with_reducible refine Sub.cons (by repeat (first | with_reducible exact Ext.here | with_reducible apply Ext.there)) ?_ | with_reducible refine Sub.tail ?_))
            · skip
              refine WI_rd rfl (Rd_load rfl tk22 (v := .int .u16 more)) rfl rfl rfl (fun h => by cases h) ?_
              refine WJ_takeP 4 rfl (by kernel_rfl) (Rd_convZ rfl ikd22_3) rfl rfl rfl (hp _ _) ?_
              refine WJ_all (rs := [1]) (by kernel_rfl) rfl ?_
              refine WI_one ?_
              refine WI_rd rfl (Rd_load rfl tk55 (v := .pointer (some ⟨c, 0, none⟩))) rfl rfl rfl (fun h => by cases h) ?_
              refine WJ_all (rs := [2]) (by kernel_rfl) rfl ?_
              refine WI_one ?_
              refine WI_ac rfl (Ac_call cf27 rfl (hs := kS_now (c := c) (hb := hb) (made := x'.made) (now := x'.now) (rows := (drR kS_lt x'.rows dj)))) rfl rfl rfl rfl ?_
              rintro _ _ ⟨⟨⟩, rfl, hA⟩
              simp only [List.cons_append, List.nil_append] at hA
              replace hA := hA.symm
              subst hA
              refine ⟨(fun _ => (by repeat (first | with_reducible exact Sub.refl | with_reducible exact Sub.nil | with_reducible refine Sub.cons (by repeat (first | with_reducible exact Ext.here | with_reducible apply Ext.there)) ?_ | with_reducible refine Sub.tail ?_))), ?_⟩
              refine WJ_takeP 5 rfl (by kernel_rfl) (Rd_add' (r := (x'.now + more)) rfl rfl (wr64 rfl (by omega) (by omega))) rfl rfl rfl (hp _ _) ?_
              refine WJ_all (rs := [6]) (by kernel_rfl) rfl ?_
              refine WI_one ?_
              refine WI_ac rfl (Ac_call cf24 rfl (hs := kS_set_u (c := c) (hb := hb) (made := x'.made) (now := x'.now) (rows := (drR kS_lt x'.rows dj)) (tick := (x'.now + more)) (v := (⟨#[109, 111, 114, 101]⟩ : ByteArray)))) rfl rfl rfl rfl ?_
              rintro _ _ ⟨⟨⟩, rfl, hA⟩
              simp only [List.cons_append, List.nil_append] at hA
              replace hA := hA.symm
              subst hA
              refine ⟨(fun h => by cases h), ?_⟩
              refine WJ_done (by kernel_rfl) ?_
              refine Ps_next hK29 ?_
              refine WC_region ?_
              refine WL_rd (Rd_load rfl tk55 (v := .pointer (some ⟨c, 0, none⟩))) rfl rfl rfl ?_
              refine WL_ac (Ac_call cf25 rfl (hs := kS_take_u (c := c) (hb := hb) (made := (kS_setN x'.now x'.made (x'.now + more))) (now := x'.now) (rows := (kS_setR x'.now (drR kS_lt x'.rows dj) x'.made (x'.now + more) (⟨#[109, 111, 114, 101]⟩ : ByteArray))))) rfl rfl rfl ?_
              rintro _ _ ⟨⟨⟩, rfl, hA⟩
              simp only [List.cons_append, List.nil_append] at hA
              replace hA := hA.symm
              subst hA
              refine WL_nil ?_
              refine Ps_next hK25 ?_
              refine WC_region ?_
              refine WL_rd (Rd_load rfl tk3) rfl rfl rfl ?_
              refine WL_rd (Rd_addN (j := 1) rfl rfl) rfl rfl rfl ?_
              refine WL_ac0 (Ac_store1 rfl rfl sz3) rfl rfl ?_
              rintro _ _ rfl
              refine WL_nil ?_
              refine hend.nrm true rfl (by repeat (first | with_reducible exact Ext.here | with_reducible apply Ext.there)) ?_
              try simp only [List.cons_append, List.nil_append, cond_true, cond_false]
              exact imp_ex (⟨(takeM (pl kS_lt) () (kS_setR x'.now (drR kS_lt x'.rows dj) x'.made (x'.now + more) (⟨#[109, 111, 114, 101]⟩ : ByteArray)) 0).1, (kS_setN x'.now x'.made (x'.now + more)), tkN x'.now (kS_setR x'.now (drR kS_lt x'.rows dj) x'.made (x'.now + more) (⟨#[109, 111, 114, 101]⟩ : ByteArray))⟩) (hx2.up (by omega)) (by (try dsimp only); (try simp only [List.cons_append, List.nil_append]); repeat (first | with_reducible exact Sub.refl | with_reducible exact Sub.nil | with_reducible refine Sub.cons (by repeat (first | with_reducible exact Ext.here | with_reducible apply Ext.there)) ?_ | with_reducible refine Sub.tail ?_))
        · try simp only [decide_eq_true_eq, decide_eq_false_iff_not, Bool.not_eq_true', Bool.not_eq_false', Bool.not_eq_true, Bool.not_eq_false, Int.not_lt, Int.not_le, Nat.not_lt, Nat.not_le, Decidable.not_not, ne_eq] at hc5
          refine WC_skip ?_
          refine Ps_next hK25 ?_
          refine WC_region ?_
          refine WL_rd (Rd_load rfl tk3) rfl rfl rfl ?_
          refine WL_rd (Rd_addN (j := 1) rfl rfl) rfl rfl rfl ?_
          refine WL_ac0 (Ac_store1 rfl rfl sz3) rfl rfl ?_
          rintro _ _ rfl
          refine WL_nil ?_
          refine hend.nrm true rfl (by repeat (first | with_reducible exact Ext.here | with_reducible apply Ext.there)) ?_
          try simp only [List.cons_append, List.nil_append, cond_true, cond_false]
          exact imp_ex (x') (hx'.up (by omega)) (by (try dsimp only); (try simp only [List.cons_append, List.nil_append]); repeat (first | with_reducible exact Sub.refl | with_reducible exact Sub.nil | with_reducible refine Sub.cons (by repeat (first | with_reducible exact Ext.here | with_reducible apply Ext.there)) ?_ | with_reducible refine Sub.tail ?_))
      refine ⟨_, _, _, _, _, kS_it (cw := cw) (u := u) (tb := tb) (tc := tc) (tm := tm) (ta := ta) (rows := s.rows) (L := s.L.map toD) (X := (fun (i : Nat) => exA (fun (x' : CX) => XI x' (s.made + i)) (fun (x' : CX) => [lp lrf_0 rrf_0, LCk cw u tb ta tc tm s.rows, cl b17 3 [.int .i64 ((i : Nat) : Int)], cl c 121 [.int .i64 x'.now, .int .i64 ((x'.made : Nat) : Int), .pointer (some ⟨hb, 0, none⟩)], kS_h_hpA (.func (.func 59) #[] ([] : List Value).toArray) hb x'.rows x'.made, emp, cl b4 70 [v2], cl b5 22 [.int .u16 more], cl b7 55 [.pointer (some ⟨c, 0, none⟩)], X, cl b15 75 [sl wa (srt dlt s.L).length wc], arr wa wc 3 81 eDR (srt dlt s.L), cl b6 4 [.bool false]]))) (JJ := (exA (fun _ : Unit => False) (fun _ => []))) (l := lrf_0) hI.ck.rl.pm hI.ck.rl.up hI.ck.rl.hp hI.ck.rl.gd.1 (by omega) (fun i R w => exA_lend1) hyrf_0, imp_rf (Y := []) ((⟨s.rows, s.made, s.now⟩)) (XI_of hI) (by repeat (first | with_reducible exact Gv.nil | (with_reducible apply Gv.cons; · (repeat (first | with_reducible exact Ext.here | with_reducible apply Ext.there))))) (by (try dsimp only); repeat (first | with_reducible exact Gv.nil | (with_reducible apply Gv.cons; · (repeat (first | with_reducible exact Ext.here | with_reducible apply Ext.there))))), ?_⟩
      · rintro (_ | _)
        · simp only [List.cons_append, List.nil_append, cond_true, cond_false]
          refine RfEnd_ex ?_
          exact fun _ h => h.elim
        · simp only [List.cons_append, List.nil_append, cond_true, cond_false]
          refine RfEnd_ex ?_
          rintro x' hx'
          simp only [List.cons_append, List.nil_append]
          rw [hlmt]
          refine RfEnd_nrm hstrf_0 hpdrf_0 ?_
          refine Ps_next hK21 ?_
          refine WC_seq fun K30 hK30 => ?_
          refine WC_sr fun K31 hK31 => ?_
          refine WL_rd (Rd_load rfl tk3) rfl rfl rfl ?_
          refine WL_rd (Rd_load rfl tk75 (v := sl wa (srt dlt s.L).length wc)) rfl rfl rfl ?_
          refine WL_rd (Rd_len rfl rfl ud75) rfl rfl rfl ?_
          refine WL_rd (Rd_isF (Rd_neqN rfl rfl)) rfl rfl rfl ?_
          refine WL_end hK31 ?_
          refine WC_condF rfl ?_
          refine WC_skip ?_
          refine Ps_next hK30 ?_
          refine WC_sr fun K32 hK32 => ?_
          refine WL_ac0 (Ac_store1 rfl rfl sz3) rfl rfl ?_
          rintro _ _ rfl
          refine WL_end hK32 ?_
          refine WC_seq fun K33 hK33 => ?_
          refine WC_sr fun K34 hK34 => ?_
          refine WL_rd (Rd_move rfl) rfl rfl rfl ?_
          refine WL_end hK34 ?_
          refine WC_block ?_
          rw [show cl b17 3 [.int .i64 0] = cl b17 3 [.int .i64 ((0 : Nat) : Int)] from rfl]
          refine WC_rf (f := 69) (caps := [.pointer (some ⟨cw, 0, none⟩)]) rfl cf69 fun lrf_1 Drf_1 rrf_1 hstrf_1 hpdrf_1 hparf_1 hasrf_1 hbdrf_1 hfrrf_1 => ?_
          have hyrf_1 : ∀ (i : Nat) (x : Nat × (Int × Int × ByteArray)), (srt kS_lt (s.L.map toD))[i]? = some x → Yd Try.prog lrf_1 [.agg [.int .i64 x.2.1, .int .i64 x.2.2.1, .string x.2.2.2].toArray] [(fun (i : Nat) => exA (fun (_u : Unit) => True) (fun (_u : Unit) => [lp lrf_1 rrf_1, LCk cw u tb ta tc tm s.rows, cl b17 3 [.int .i64 ((i : Nat) : Int)], cl b15 75 [sl wa (srt dlt s.L).length wc], arr wa wc 3 81 eDR (srt dlt s.L), cl b6 4 [.bool false]])) i] (fun b : Bool => .bool b) (fun b => [bif b then (fun (i : Nat) => exA (fun (_u : Unit) => True) (fun (_u : Unit) => [lp lrf_1 rrf_1, LCk cw u tb ta tc tm s.rows, cl b17 3 [.int .i64 ((i : Nat) : Int)], cl b15 75 [sl wa (srt dlt s.L).length wc], arr wa wc 3 81 eDR (srt dlt s.L), cl b6 4 [.bool false]])) (i + 1) else (exA (fun _ : Unit => False) (fun _ => []))]) := by
            intro i x hix
            refine Yd_ex ?_
            rintro _u hφ
            refine Yd_of (pre := [LCk cw u tb ta tc tm s.rows, cl b17 3 [.int .i64 ((i : Nat) : Int)], cl b15 75 [sl wa (srt dlt s.L).length wc], arr wa wc 3 81 eDR (srt dlt s.L), cl b6 4 [.bool false]]) hstrf_1 hpdrf_1 hparf_1 hasrf_1 hbdrf_1 hfrrf_1 rfl rfl fun F w0 Q K hp hend hbeg => ?_
            change WC _ _ _ _ _ _ ((117, .agg [.int .i64 x.2.1, .int .i64 x.2.2.1, .string x.2.2.2].toArray) :: _) (_ :: _ :: _ :: _ :: _ :: _ :: F)
            dsimp only at *
            obtain ⟨y, hyi, rfl⟩ := hI.ck.all kS_lt_od kS_cm hix
            have hil := (List.getElem?_eq_some_iff.1 hyi).1
            refine WC_region ?_
            refine WL_ac (Ac_alloc zr62) rfl rfl rfl ?_
            rintro _ _ ⟨b19, rfl, rfl⟩
            refine WL_ac0 (Ac_store (ys := [.int .i64 (toD y).2.1, .int .i64 (toD y).2.2.1, .string (toD y).2.2.2]) rfl rfl sz62 (h1 := kS_encD.one (toD y).2) (hr := rfl)) rfl rfl ?_
            rintro _ _ rfl
            refine WL_nil ?_
            refine hbeg (by repeat (first | with_reducible exact Ext.here | with_reducible apply Ext.there)) ?_
            refine WC_block ?_
            refine WC_seq fun K35 hK35 => ?_
            refine WC_seq fun K36 hK36 => ?_
            refine WC_drawA mix (fun i => ([2, 2, 2, 2, 2, 2, 2, 2, 2, 2, 1, 2, 2] : List Nat).getD i 0) ?_
            refine WJ_tk 0 (Rd_load rfl tk3) hp ?_ rfl (by kernel_rfl) rfl rfl rfl
            refine WJ_tk 1 (Rd_load rfl tk75 (v := sl wa (srt dlt s.L).length wc)) hp ?_ rfl (by kernel_rfl) rfl rfl rfl
            refine WJ_takeP 2 rfl (by kernel_rfl) (Rd_len rfl rfl ud75) rfl rfl rfl (hp _ _) ?_
            refine WJ_takeP 3 rfl (by kernel_rfl) (Rd_isF (Rd_geqN rfl rfl)) rfl rfl rfl (hp _ _) ?_
            refine WJ_takeP 4 rfl (by kernel_rfl) (Rd_move rfl) rfl rfl rfl (hp _ _) ?_
            refine WJ_tk 5 (Rd_loadg (vs := [.int .i64 (toD y).2.1, .int .i64 (toD y).2.2.1, .string (toD y).2.2.2]) rfl tk62 (hi := rfl)) hp ?_ rfl (by kernel_rfl) rfl rfl rfl
            refine WJ_tk 6 (Rd_load rfl tk75 (v := sl wa (srt dlt s.L).length wc)) hp ?_ rfl (by kernel_rfl) rfl rfl rfl
            refine WJ_tk 7 (Rd_load rfl tk3) hp ?_ rfl (by kernel_rfl) rfl rfl rfl
            refine WJ_takeP 8 rfl (by kernel_rfl) (Rd_index_sv i rfl rfl ud75 sz81 (hA := hWS) (hi := by omega)) rfl rfl rfl (hp _ _) ?_
            refine WJ_tk 9 (Rd_loadg_sv (f := eDR) (i := i) rfl tk81 (hA := hWS) (hl := hyi)) hp ?_ rfl (by kernel_rfl) rfl rfl rfl
            refine WJ_all (rs := [10]) (by kernel_rfl) rfl ?_
            refine WI_one ?_
            refine WI_ac rfl (Ac_call cf34 rfl (hs := alike_ct (y := y))) rfl rfl rfl rfl ?_
            rintro _ _ ⟨⟨⟩, rfl, hA⟩
            simp only [List.cons_append, List.nil_append] at hA
            replace hA := hA.symm
            subst hA
            refine ⟨(fun _ => (by repeat (first | with_reducible exact Sub.refl | with_reducible exact Sub.nil | with_reducible refine Sub.cons (by repeat (first | with_reducible exact Ext.here | with_reducible apply Ext.there)) ?_ | with_reducible refine Sub.tail ?_))), ?_⟩
            refine WJ_takeP 11 rfl (by kernel_rfl) (Rd_not rfl) rfl rfl rfl (hp _ _) ?_
            refine WJ_takeP 12 rfl (by kernel_rfl) (Rd_pickF rfl rfl) rfl rfl rfl (hp _ _) ?_
            refine WJ_done (by kernel_rfl) ?_
            refine Ps_next hK36 ?_
            refine WC_condF rfl ?_
            refine WC_skip ?_
            refine Ps_next hK35 ?_
            refine WC_region ?_
            refine WL_rd (Rd_load rfl tk3) rfl rfl rfl ?_
            refine WL_rd (Rd_addN (j := 1) rfl rfl) rfl rfl rfl ?_
            refine WL_ac0 (Ac_store1 rfl rfl sz3) rfl rfl ?_
            rintro _ _ rfl
            refine WL_nil ?_
            refine hend.nrm true rfl (by repeat (first | with_reducible exact Ext.here | with_reducible apply Ext.there)) ?_
            try simp only [List.cons_append, List.nil_append, cond_true, cond_false]
            exact imp_ex (()) (trivial) (by (try dsimp only); (try simp only [List.cons_append, List.nil_append]); repeat (first | with_reducible exact Sub.refl | with_reducible exact Sub.nil | with_reducible refine Sub.cons (by repeat (first | with_reducible exact Ext.here | with_reducible apply Ext.there)) ?_ | with_reducible refine Sub.tail ?_))
          refine ⟨_, _, _, _, _, kS_it (cw := cw) (u := u) (tb := tb) (tc := tc) (tm := tm) (ta := ta) (rows := s.rows) (L := s.L.map toD) (X := (fun (i : Nat) => exA (fun (_u : Unit) => True) (fun (_u : Unit) => [lp lrf_1 rrf_1, LCk cw u tb ta tc tm s.rows, cl b17 3 [.int .i64 ((i : Nat) : Int)], cl b15 75 [sl wa (srt dlt s.L).length wc], arr wa wc 3 81 eDR (srt dlt s.L), cl b6 4 [.bool false]]))) (JJ := (exA (fun _ : Unit => False) (fun _ => []))) (l := lrf_1) hI.ck.rl.pm hI.ck.rl.up hI.ck.rl.hp hI.ck.rl.gd.1 (by omega) (fun i R w => exA_lend1) hyrf_1, imp_rf (Y := []) ((())) (trivial) (by repeat (first | with_reducible exact Gv.nil | (with_reducible apply Gv.cons; · (repeat (first | with_reducible exact Ext.here | with_reducible apply Ext.there))))) (by (try dsimp only); repeat (first | with_reducible exact Gv.nil | (with_reducible apply Gv.cons; · (repeat (first | with_reducible exact Ext.here | with_reducible apply Ext.there))))), ?_⟩
          · rintro (_ | _)
            · simp only [List.cons_append, List.nil_append, cond_true, cond_false]
              refine RfEnd_ex ?_
              exact fun _ h => h.elim
            · simp only [List.cons_append, List.nil_append, cond_true, cond_false]
              refine RfEnd_ex ?_
              rintro _u hφ
              simp only [List.cons_append, List.nil_append]
              rw [hlmt]
              refine RfEnd_nrm hstrf_1 hpdrf_1 ?_
              refine Ps_next hK33 ?_
              refine WC_sr fun K37 hK37 => ?_
              refine WL_rd (Rd_load rfl tk3) rfl rfl rfl ?_
              refine WL_rd (Rd_load rfl tk75 (v := sl wa (srt dlt s.L).length wc)) rfl rfl rfl ?_
              refine WL_rd (Rd_len rfl rfl ud75) rfl rfl rfl ?_
              refine WL_rd (Rd_isT (Rd_eqlN rfl rfl)) rfl rfl rfl ?_
              refine WL_ac0 (Ac_store1 rfl rfl sz4) rfl rfl ?_
              rintro _ _ rfl
              refine WL_end hK37 ?_
              refine WC_ret ?_
              refine hret.goDD () ?_
              exact Rs1cs rfl rfl tk4
end Go.Proofs.Ytcemkpiopijbmaa
