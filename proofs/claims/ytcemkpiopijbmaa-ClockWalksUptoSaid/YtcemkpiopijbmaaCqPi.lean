/-
  Contracts of functions that the claim reaches, or the logic and the plain laws that they rest on, or the row over them. (Conditions: none beyond the statement.)
-/
import Derived.Test.YtcemkpiopijbmaaCqPh
set_option linter.all false
namespace Go.Proofs.Ytcemkpiopijbmaa
open Go.RowKit Go.SL Go.HpM Go.ShM 
set_option maxHeartbeats 1000000
set_option maxRecDepth 20000
set_option linter.all false
theorem cf31 : cfn Try.prog 31 = true := by kernel_rfl
theorem cf32 : cfn Try.prog 32 = true := by kernel_rfl
theorem cf37 : cfn Try.prog 37 = true := by kernel_rfl
theorem cf70 : cfn Try.prog 70 = true := by kernel_rfl
theorem cf71 : cfn Try.prog 71 = true := by kernel_rfl
theorem cf72 : cfn Try.prog 72 = true := by kernel_rfl
theorem el65 : el Try.prog 65 = some (1, 24) := by kernel_rfl
theorem fo86_1 : fo Try.prog 86 1 = some (1, 5) := by kernel_rfl
theorem fo86_2 : fo Try.prog 86 2 = some (2, 3) := by kernel_rfl
theorem fo86_3 : fo Try.prog 86 3 = some (3, 45) := by kernel_rfl
theorem ikd45_3 : ikd Try.prog 45 3 = some .i64 := by kernel_rfl
theorem sz65 : sz Try.prog 65 = some 1 := by kernel_rfl
theorem sz84 : sz Try.prog 84 = some 1 := by kernel_rfl
theorem tk5 : tk Try.prog 5 = some none := by kernel_rfl
theorem tk84 : tk Try.prog 84 = some none := by kernel_rfl
theorem ud4 : Try.prog.underlying 4 = some (.bool) := by kernel_rfl
theorem ud84 : Try.prog.underlying 84 = some (.slice 65) := by kernel_rfl
theorem zr65 : zr Try.prog 65 = some [.slice none 0 0] := by kernel_rfl
theorem step_ct {c hb y k n : Nat} {s : CS} {p : KP} {q : SQ} (hI : CI s) (hK : KI p n) (hm : s.made ≤ 50000000 := by omega) (hn : n ≤ 50000000 := by omega) : Ct Try.prog 35 [.pointer (some ⟨c, 0, none⟩), .pointer (some ⟨y, 0, none⟩), .agg (eSQ q).toArray, .pointer (some ⟨k, 0, none⟩)] [cl c 121 [.int .i64 s.now, .int .i64 ((s.made : Nat) : Int), .pointer (some ⟨hb, 0, none⟩)], kS_h_hpA (.func (.func 59) #[] ([] : List Value).toArray) hb s.rows s.made, emp, cl y 90 [.int .i64 s.now, .int .i64 ((s.made : Nat) : Int), sl s.a s.L.length s.cap], arr s.a s.cap 3 81 eDR s.L, cl k 84 [sl p.a p.ps.length p.cap], arr p.a p.cap 1 65 ePU p.ps, star (FPU kS_eD 62) p.ps] (fun g : {g : CS × KP // CI g.1 ∧ g.1.made ≤ s.made + 1 ∧ KI g.2 (n + 1)} => .bool true) (fun g => [cl c 121 [.int .i64 g.1.1.now, .int .i64 ((g.1.1.made : Nat) : Int), .pointer (some ⟨hb, 0, none⟩)], kS_h_hpA (.func (.func 59) #[] ([] : List Value).toArray) hb g.1.1.rows g.1.1.made, emp, cl y 90 [.int .i64 g.1.1.now, .int .i64 ((g.1.1.made : Nat) : Int), sl g.1.1.a g.1.1.L.length g.1.1.cap], arr g.1.1.a g.1.1.cap 3 81 eDR g.1.1.L, cl k 84 [sl g.1.2.a g.1.2.ps.length g.1.2.cap], arr g.1.2.a g.1.2.cap 1 65 ePU g.1.2.ps, star (FPU kS_eD 62) g.1.2.ps]) := by
  refine Ct_body (n := 221) Try.func35 rfl rfl rfl fun F w0 Q hret hnorm hp => ?_
  change WC _ _ _ _ _ _ _ (_ :: _ :: _ :: _ :: _ :: _ :: _ :: _ :: F)
  have hlr := hI.ck.len
  have hlm := hI.ck.made
  have hnw := hI.nw
  have hdl := duO_len (now := s.now) (t := q.tick) (L := s.L)
  have hpn := hK.ln
  refine WC_sr fun K1 hK1 => ?_
  refine WL_ac (Ac_box (xs := eSQ q) rfl rfl) rfl rfl rfl ?_
  rintro _ _ ⟨b6, rfl, rfl⟩
  refine WL_rd (Rd_assign rfl) rfl rfl rfl ?_
  refine WL_end hK1 ?_
  refine WC_seq fun K2 hK2 => ?_
  refine WC_sr fun K3 hK3 => ?_
  refine WL_rd (Rd_fieldAddr rfl fo86_1) rfl rfl rfl ?_
  refine WL_rd (Rd_load rfl tk5 (v := .int .u8 ((q.d.toNat : Nat) : Int))) rfl rfl rfl ?_
  refine WL_rd (Rd_rem' (j := 6) (r := ((q.d.toNat % 6 : Nat) : Int)) rfl rfl (by decide) rfl) rfl rfl rfl ?_
  refine WL_end hK3 ?_
  refine WC_block ?_
  refine WC_sr fun K4 hK4 => ?_
  refine WL_rd (Rd_eqlN (j := 0) rfl rfl) rfl rfl rfl ?_
  refine WL_rd (Rd_assign rfl) rfl rfl rfl ?_
  refine WL_end hK4 ?_
  refine WC_cond rfl (fun hc0 => ?_) (fun hc0 => ?_)
  · try simp only [decide_eq_true_eq, decide_eq_false_iff_not, Bool.not_eq_true', Bool.not_eq_false', Bool.not_eq_true, Bool.not_eq_false, Int.not_lt, Int.not_le, Nat.not_lt, Nat.not_le, Decidable.not_not, ne_eq] at hc0
    refine WC_seq fun K5 hK5 => ?_
    refine WC_drawA mix (fun i => ([2, 2, 2, 2, 2, 1, 0, 2, 2, 2, 2, 2] : List Nat).getD i 0) ?_
    refine WJ_takeP 0 rfl (by kernel_rfl) (Rd_move rfl) rfl rfl rfl (hp _ _) ?_
    refine WJ_takeP 1 rfl (by kernel_rfl) (Rd_fieldAddr rfl fo86_2) rfl rfl rfl (hp _ _) ?_
    refine WJ_tk 2 (Rd_load rfl tk3 (v := .int .i64 q.tick)) hp ?_ rfl (by kernel_rfl) rfl rfl rfl
    refine WJ_takeP 3 rfl (by kernel_rfl) (Rd_fieldAddr rfl fo86_3) rfl rfl rfl (hp _ _) ?_
    refine WJ_all (rs := [4]) (by kernel_rfl) rfl ?_
    refine WI_one ?_
    refine WI_rd rfl (Rd_load rfl tk45 (v := .int .u32 ((q.v.toNat : Nat) : Int))) rfl rfl rfl (fun h => by cases h) ?_
    refine WJ_all (rs := [5]) (by kernel_rfl) rfl ?_
    refine WI_one ?_
    refine WI_ac rfl (Ac_call cf30 rfl (hs := word_ct (x := q.v))) rfl rfl rfl rfl ?_
    rintro _ _ ⟨⟨⟩, rfl, hA⟩
    simp only [List.cons_append, List.nil_append] at hA
    replace hA := hA.symm
    subst hA
    refine ⟨(fun _ => (by repeat (first | with_reducible exact Sub.refl | with_reducible exact Sub.nil | with_reducible refine Sub.cons (by repeat (first | with_reducible exact Ext.here | with_reducible apply Ext.there)) ?_ | with_reducible refine Sub.tail ?_))), ?_⟩
    refine WJ_all (rs := [6]) (by kernel_rfl) rfl ?_
    refine WI_one ?_
    refine WI_ac rfl (Ac_call cf24 rfl (hs := kS_set_u (c := c) (hb := hb) (made := s.made) (now := s.now) (rows := s.rows) (tick := q.tick) (v := wordB q.v))) rfl rfl rfl rfl ?_
    rintro _ _ ⟨⟨⟩, rfl, hA⟩
    simp only [List.cons_append, List.nil_append] at hA
    replace hA := hA.symm
    subst hA
    refine ⟨(fun h => by cases h), ?_⟩
    refine WJ_takeP 7 rfl (by kernel_rfl) (Rd_move rfl) rfl rfl rfl (hp _ _) ?_
    refine WJ_takeP 8 rfl (by kernel_rfl) (Rd_ext0 rfl) rfl rfl rfl (hp _ _) ?_
    refine WJ_takeP 9 rfl (by kernel_rfl) (Rd_ext1 rfl) rfl rfl rfl (hp _ _) ?_
    refine WJ_takeP 10 rfl (by kernel_rfl) (Rd_assign rfl) rfl rfl rfl (hp _ _) ?_
    refine WJ_takeP 11 rfl (by kernel_rfl) (Rd_assign rfl) rfl rfl rfl (hp _ _) ?_
    refine WJ_done (by kernel_rfl) ?_
    refine Ps_next hK5 ?_
    refine WC_sr fun K6 hK6 => ?_
    refine WL_rd (Rd_move rfl) rfl rfl rfl ?_
    refine WL_rd (Rd_fieldAddr rfl fo86_2) rfl rfl rfl ?_
    refine WL_rd (Rd_load rfl tk3 (v := .int .i64 q.tick)) rfl rfl rfl ?_
    refine WL_rd (Rd_fieldAddr rfl fo86_3) rfl rfl rfl ?_
    refine WL_rd (Rd_load rfl tk45 (v := .int .u32 ((q.v.toNat : Nat) : Int))) rfl rfl rfl ?_
    refine WL_ac (Ac_call cf31 rfl (hs := dSet_ct (y := y) (made := s.made) (tick := s.now) (L := s.L) (t := q.tick) (v := q.v))) rfl rfl rfl ?_
    rintro _ _ ⟨⟨a1, cap1⟩, rfl, hA⟩
    simp only [List.cons_append, List.nil_append] at hA
    replace hA := hA.symm
    subst hA
    refine WL_rd (Rd_move rfl) rfl rfl rfl ?_
    refine WL_rd (Rd_ext0 rfl) rfl rfl rfl ?_
    refine WL_rd (Rd_ext1 rfl) rfl rfl rfl ?_
    refine WL_rd (Rd_assign rfl) rfl rfl rfl ?_
    refine WL_rd (Rd_assign rfl) rfl rfl rfl ?_
    refine WL_end hK6 ?_
    refine WC_sr fun K7 hK7 => ?_
    refine WL_rd (Rd_move rfl) rfl rfl rfl ?_
    refine WL_rd (Rd_move rfl) rfl rfl rfl ?_
    refine WL_rd (Rd_isT (Rd_eqlN rfl rfl)) rfl rfl rfl ?_
    refine WL_rd (Rd_move rfl) rfl rfl rfl ?_
    refine WL_rd (Rd_move rfl) rfl rfl rfl ?_
    refine WL_rd (Rd_move rfl) rfl rfl rfl ?_
    refine WL_rd (Rd_isT (Rd_eql rfl rfl)) rfl rfl rfl ?_
    refine WL_rd (Rd_pickT rfl rfl) rfl rfl rfl ?_
    refine WL_rd (Rd_assign rfl) rfl rfl rfl ?_
    refine WL_end hK7 ?_
    refine WC_ret ?_
    exact hret.goE ⟨(⟨kS_setR s.now s.rows s.made q.tick (wordB q.v), lsS s.now s.L s.made q.tick q.v, kS_setN s.now s.made q.tick, s.now, a1, cap1⟩, p), ⟨ck_set hI.ck, hI.nw⟩, ck_setN, hK.up (by omega)⟩ (Rs1 rfl rfl) rfl
  · try simp only [decide_eq_true_eq, decide_eq_false_iff_not, Bool.not_eq_true', Bool.not_eq_false', Bool.not_eq_true, Bool.not_eq_false, Int.not_lt, Int.not_le, Nat.not_lt, Nat.not_le, Decidable.not_not, ne_eq] at hc0
    refine WC_sr fun K8 hK8 => ?_
    refine WL_rd (Rd_eqlN (j := 1) rfl rfl) rfl rfl rfl ?_
    refine WL_rd (Rd_assign rfl) rfl rfl rfl ?_
    refine WL_end hK8 ?_
    refine WC_cond rfl (fun hc1 => ?_) (fun hc1 => ?_)
    · try simp only [decide_eq_true_eq, decide_eq_false_iff_not, Bool.not_eq_true', Bool.not_eq_false', Bool.not_eq_true, Bool.not_eq_false, Int.not_lt, Int.not_le, Nat.not_lt, Nat.not_le, Decidable.not_not, ne_eq] at hc1
      refine WC_sr fun K9 hK9 => ?_
      refine WL_rd (Rd_move rfl) rfl rfl rfl ?_
      refine WL_rd (Rd_fieldAddr rfl fo86_2) rfl rfl rfl ?_
      refine WL_rd (Rd_load rfl tk3 (v := .int .i64 q.tick)) rfl rfl rfl ?_
      refine WL_ac (Ac_call cf28 rfl (hs := kS_drop_u (c := c) (hb := hb) (made := s.made) (now := s.now) (rows := s.rows) (t := q.tick))) rfl rfl rfl ?_
      rintro _ _ ⟨⟨⟩, rfl, hA⟩
      simp only [List.cons_append, List.nil_append] at hA
      replace hA := hA.symm
      subst hA
      refine WL_rd (Rd_move rfl) rfl rfl rfl ?_
      refine WL_rd (Rd_ext0 rfl) rfl rfl rfl ?_
      refine WL_rd (Rd_ext1 rfl) rfl rfl rfl ?_
      refine WL_rd (Rd_assign rfl) rfl rfl rfl ?_
      refine WL_rd (Rd_assign rfl) rfl rfl rfl ?_
      refine WL_end hK9 ?_
      refine WC_sr fun K10 hK10 => ?_
      refine WL_rd (Rd_move rfl) rfl rfl rfl ?_
      refine WL_rd (Rd_fieldAddr rfl fo86_2) rfl rfl rfl ?_
      refine WL_rd (Rd_load rfl tk3 (v := .int .i64 q.tick)) rfl rfl rfl ?_
      refine WL_ac (Ac_call cf70 rfl (hs := dDrop_ct (y := y) (made := s.made) (tick := s.now) (L := s.L) (t := q.tick))) rfl rfl rfl ?_
      rintro _ _ ⟨⟨a1, cap1⟩, rfl, hA⟩
      simp only [List.cons_append, List.nil_append] at hA
      replace hA := hA.symm
      subst hA
      obtain ⟨he, h1, h2, h3⟩ := hI.ck.drop kS_lt_od q.tick
      rw [← he]
      refine WL_rd (Rd_move rfl) rfl rfl rfl ?_
      refine WL_rd (Rd_ext0 rfl) rfl rfl rfl ?_
      refine WL_rd (Rd_ext1 rfl) rfl rfl rfl ?_
      refine WL_rd (Rd_assign rfl) rfl rfl rfl ?_
      refine WL_rd (Rd_assign rfl) rfl rfl rfl ?_
      refine WL_end hK10 ?_
      refine WC_seq fun K11 hK11 => ?_
      refine WC_sr fun K12 hK12 => ?_
      refine WL_rd (Rd_move rfl) rfl rfl rfl ?_
      refine WL_rd (Rd_neq rfl rfl) rfl rfl rfl ?_
      refine WL_end hK12 ?_
      refine WC_cond rfl (fun hc2 => ?_) (fun hc2 => ?_)
      · try simp only [decide_eq_true_eq, decide_eq_false_iff_not, Bool.not_eq_true', Bool.not_eq_false', Bool.not_eq_true, Bool.not_eq_false, Int.not_lt, Int.not_le, Nat.not_lt, Nat.not_le, Decidable.not_not, ne_eq] at hc2
        refine WC_sr fun K13 hK13 => ?_
        refine WL_rd (Rd_move rfl) rfl rfl rfl ?_
        refine WL_rd (Rd_isT (Rd_streq rfl rfl) (by rw [h1 (by rw [← he]; exact hc2)]; exact beq_self_eq_true _)) rfl rfl rfl ?_
        refine WL_rd (Rd_move rfl) rfl rfl rfl ?_
        refine WL_rd (Rd_move rfl) rfl rfl rfl ?_
        refine WL_rd (Rd_move rfl) rfl rfl rfl ?_
        refine WL_rd (Rd_isT (Rd_eql rfl rfl)) rfl rfl rfl ?_
        refine WL_rd (Rd_pickT rfl rfl) rfl rfl rfl ?_
        refine WL_rd (Rd_assign rfl) rfl rfl rfl ?_
        refine WL_end hK13 ?_
        refine WC_ret ?_
        exact hret.goE ⟨(⟨drR kS_lt s.rows q.tick, drL s.L q.tick, s.made, s.now, a1, cap1⟩, p), ⟨h3, hI.nw⟩, by (try dsimp only); omega, hK.up (by omega)⟩ (Rs1 rfl rfl) rfl
      · try simp only [decide_eq_true_eq, decide_eq_false_iff_not, Bool.not_eq_true', Bool.not_eq_false', Bool.not_eq_true, Bool.not_eq_false, Int.not_lt, Int.not_le, Nat.not_lt, Nat.not_le, Decidable.not_not, ne_eq] at hc2
        refine WC_skip ?_
        refine Ps_next hK11 ?_
        refine WC_sr fun K14 hK14 => ?_
        refine WL_rd (Rd_move rfl) rfl rfl rfl ?_
        refine WL_rd (Rd_move rfl) rfl rfl rfl ?_
        refine WL_ac (Ac_call cf30 rfl (hs := word_ct (x := fdW s.L q.tick))) rfl rfl rfl ?_
        rintro _ _ ⟨⟨⟩, rfl, hA⟩
        simp only [List.cons_append, List.nil_append] at hA
        replace hA := hA.symm
        subst hA
        refine WL_rd (Rd_isT (Rd_streq rfl rfl) (by rw [h2 (by rw [← he]; exact hc2)]; exact beq_self_eq_true _)) rfl rfl rfl ?_
        refine WL_rd (Rd_move rfl) rfl rfl rfl ?_
        refine WL_rd (Rd_move rfl) rfl rfl rfl ?_
        refine WL_rd (Rd_move rfl) rfl rfl rfl ?_
        refine WL_rd (Rd_isT (Rd_eql rfl rfl)) rfl rfl rfl ?_
        refine WL_rd (Rd_pickT rfl rfl) rfl rfl rfl ?_
        refine WL_rd (Rd_assign rfl) rfl rfl rfl ?_
        refine WL_end hK14 ?_
        refine WC_ret ?_
        exact hret.goE ⟨(⟨drR kS_lt s.rows q.tick, drL s.L q.tick, s.made, s.now, a1, cap1⟩, p), ⟨h3, hI.nw⟩, by (try dsimp only); omega, hK.up (by omega)⟩ (Rs1 rfl rfl) rfl
    · try simp only [decide_eq_true_eq, decide_eq_false_iff_not, Bool.not_eq_true', Bool.not_eq_false', Bool.not_eq_true, Bool.not_eq_false, Int.not_lt, Int.not_le, Nat.not_lt, Nat.not_le, Decidable.not_not, ne_eq] at hc1
      refine WC_sr fun K15 hK15 => ?_
      refine WL_rd (Rd_eqlN (j := 2) rfl rfl) rfl rfl rfl ?_
      refine WL_rd (Rd_assign rfl) rfl rfl rfl ?_
      refine WL_end hK15 ?_
      refine WC_cond rfl (fun hc3 => ?_) (fun hc3 => ?_)
      · try simp only [decide_eq_true_eq, decide_eq_false_iff_not, Bool.not_eq_true', Bool.not_eq_false', Bool.not_eq_true, Bool.not_eq_false, Int.not_lt, Int.not_le, Nat.not_lt, Nat.not_le, Decidable.not_not, ne_eq] at hc3
        refine WC_sr fun K16 hK16 => ?_
        refine WL_rd (Rd_move rfl) rfl rfl rfl ?_
        refine WL_ac (Ac_call cf25 rfl (hs := kS_take_u (c := c) (hb := hb) (made := s.made) (now := s.now) (rows := s.rows))) rfl rfl rfl ?_
        rintro _ _ ⟨⟨⟩, rfl, hA⟩
        simp only [List.cons_append, List.nil_append] at hA
        replace hA := hA.symm
        subst hA
        refine WL_rd (Rd_move rfl) rfl rfl rfl ?_
        refine WL_rd (Rd_ext0 rfl) rfl rfl rfl ?_
        refine WL_rd (Rd_ext1 rfl) rfl rfl rfl ?_
        refine WL_ac (Ac_alloc zr62) rfl rfl rfl ?_
        rintro _ _ ⟨b17, rfl, rfl⟩
        refine WL_ac0 (Ac_store (ys := [.int .i64 (tpC s.rows).1, .int .i64 (tpC s.rows).2.1, .string (tpC s.rows).2.2]) rfl rfl sz62 (h1 := kS_encD.one (tpC s.rows)) (hr := rfl)) rfl rfl ?_
        rintro _ _ rfl
        refine WL_rd (Rd_assign rfl) rfl rfl rfl ?_
        refine WL_end hK16 ?_
        refine WC_sr fun K17 hK17 => ?_
        refine WL_rd (Rd_move rfl) rfl rfl rfl ?_
        refine WL_ac (Ac_call cf66 rfl (hs := dTake_ct (y := y) (made := s.made) (tick := s.now) (L := s.L))) rfl rfl rfl ?_
        rintro _ _ ⟨⟨a1, cap1⟩, rfl, hA⟩
        simp only [List.cons_append, List.nil_append] at hA
        replace hA := hA.symm
        subst hA
        obtain ⟨e1, e2, e3, e4, e5⟩ := hI.ck.take kS_lt_od kS_cm s.now
        have e6 := ck_now hI.ck hI.nw
        rw [e1, e4]
        refine WL_rd (Rd_move rfl) rfl rfl rfl ?_
        refine WL_rd (Rd_ext0 rfl) rfl rfl rfl ?_
        refine WL_rd (Rd_ext1 rfl) rfl rfl rfl ?_
        refine WL_ac (Ac_alloc zr81) rfl rfl rfl ?_
        rintro _ _ ⟨b19, rfl, rfl⟩
        refine WL_ac0 (Ac_store (ys := eDR (lsX s.L)) rfl rfl sz81 (h1 := encDR.one (lsX s.L)) (hr := rfl)) rfl rfl ?_
        rintro _ _ rfl
        refine WL_rd (Rd_assign rfl) rfl rfl rfl ?_
        refine WL_end hK17 ?_
        refine WC_seq fun K18 hK18 => ?_
        refine WC_sr fun K19 hK19 => ?_
        refine WL_rd (Rd_move rfl) rfl rfl rfl ?_
        refine WL_rd (Rd_not rfl) rfl rfl rfl ?_
        refine WL_end hK19 ?_
        refine WC_cond rfl (fun hc4 => ?_) (fun hc4 => ?_)
        · try simp only [decide_eq_true_eq, decide_eq_false_iff_not, Bool.not_eq_true', Bool.not_eq_false', Bool.not_eq_true, Bool.not_eq_false, Int.not_lt, Int.not_le, Nat.not_lt, Nat.not_le, Decidable.not_not, ne_eq] at hc4
          have hL : s.L = [] := by simpa using hc4
          have hz := e3 hL
          rw [hz]
          refine WC_sr fun K20 hK20 => ?_
          refine WL_rd (Rd_move rfl) rfl rfl rfl ?_
          refine WL_rd (Rd_not rfl) rfl rfl rfl ?_
          refine WL_rd (Rd_move rfl) rfl rfl rfl ?_
          refine WL_bool 112 rfl (fun hg21 => ?_) (fun hg21 => ?_)
          · try simp only [decide_eq_true_eq, decide_eq_false_iff_not, Bool.not_eq_true', Bool.not_eq_false', Bool.not_eq_true, Bool.not_eq_false, Int.not_lt, Int.not_le, Nat.not_lt, Nat.not_le, Decidable.not_not, ne_eq] at hg21
            refine WL_rd (Rd_loadg (vs := [.int .i64 zCV.1, .int .i64 zCV.2.1, .string zCV.2.2]) rfl tk62 (hi := rfl)) rfl rfl rfl ?_
            refine WL_rd (Rd_build pls62 rfl) rfl rfl rfl ?_
            refine WL_rd (Rd_isT (Rd_eqS rfl rfl fls62 (EqL.sc tk3 rfl rfl (Eqs_int ud3 _ _) (EqL.sc tk3 rfl rfl (Eqs_int ud3 _ _) (EqL.sc tk9 rfl rfl (Eqs_str ud9 _ _) EqL.nil))))) rfl rfl rfl ?_
            refine WL_rd (Rd_pickT rfl rfl) rfl rfl rfl ?_
            refine WL_rd (Rd_assign rfl) rfl rfl rfl ?_
            refine WL_end hK20 ?_
            refine WC_ret ?_
            exact hret.goE ⟨(⟨(takeM (pl kS_lt) () s.rows 0).1, lsL dlt s.L, s.made, tkD s.now s.L, a1, cap1⟩, p), ⟨e5, e6⟩, by (try dsimp only); omega, hK.up (by omega)⟩ (Rs1 rfl rfl) rfl
          · try simp only [decide_eq_true_eq, decide_eq_false_iff_not, Bool.not_eq_true', Bool.not_eq_false', Bool.not_eq_true, Bool.not_eq_false, Int.not_lt, Int.not_le, Nat.not_lt, Nat.not_le, Decidable.not_not, ne_eq] at hg21
            exact absurd hL hg21
        · try simp only [decide_eq_true_eq, decide_eq_false_iff_not, Bool.not_eq_true', Bool.not_eq_false', Bool.not_eq_true, Bool.not_eq_false, Int.not_lt, Int.not_le, Nat.not_lt, Nat.not_le, Decidable.not_not, ne_eq] at hc4
          have hL : ¬ s.L = [] := by simpa using hc4
          have hz := e2 hL
          rw [hz]
          refine WC_skip ?_
          refine Ps_next hK18 ?_
          refine WC_sr fun K22 hK22 => ?_
          refine WL_rd (Rd_move rfl) rfl rfl rfl ?_
          refine WL_rd (Rd_move rfl) rfl rfl rfl ?_
          refine WL_bool 118 rfl (fun hg23 => ?_) (fun hg23 => ?_)
          · try simp only [decide_eq_true_eq, decide_eq_false_iff_not, Bool.not_eq_true', Bool.not_eq_false', Bool.not_eq_true, Bool.not_eq_false, Int.not_lt, Int.not_le, Nat.not_lt, Nat.not_le, Decidable.not_not, ne_eq] at hg23
            refine WL_rd (Rd_loadg (vs := [.int .i64 (toD (lsX s.L)).2.1, .int .i64 (toD (lsX s.L)).2.2.1, .string (toD (lsX s.L)).2.2.2]) rfl tk62 (hi := rfl)) rfl rfl rfl ?_
            refine WL_rd (Rd_loadg (vs := eDR (lsX s.L)) rfl tk81 (hi := rfl)) rfl rfl rfl ?_
            refine WL_ac (Ac_call cf34 rfl (hs := alike_ct (y := lsX s.L))) rfl rfl rfl ?_
            rintro _ _ ⟨⟨⟩, rfl, hA⟩
            simp only [List.cons_append, List.nil_append] at hA
            replace hA := hA.symm
            subst hA
            refine WL_rd (Rd_pickT rfl rfl) rfl rfl rfl ?_
            refine WL_rd (Rd_assign rfl) rfl rfl rfl ?_
            refine WL_end hK22 ?_
            refine WC_ret ?_
            exact hret.goE ⟨(⟨(takeM (pl kS_lt) () s.rows 0).1, lsL dlt s.L, s.made, tkD s.now s.L, a1, cap1⟩, p), ⟨e5, e6⟩, by (try dsimp only); omega, hK.up (by omega)⟩ (Rs1 rfl rfl) rfl
          · try simp only [decide_eq_true_eq, decide_eq_false_iff_not, Bool.not_eq_true', Bool.not_eq_false', Bool.not_eq_true, Bool.not_eq_false, Int.not_lt, Int.not_le, Nat.not_lt, Nat.not_le, Decidable.not_not, ne_eq] at hg23
            exact absurd hg23 hL
      · try simp only [decide_eq_true_eq, decide_eq_false_iff_not, Bool.not_eq_true', Bool.not_eq_false', Bool.not_eq_true, Bool.not_eq_false, Int.not_lt, Int.not_le, Nat.not_lt, Nat.not_le, Decidable.not_not, ne_eq] at hc3
        refine WC_sr fun K24 hK24 => ?_
        refine WL_rd (Rd_eqlN (j := 3) rfl rfl) rfl rfl rfl ?_
        refine WL_rd (Rd_assign rfl) rfl rfl rfl ?_
        refine WL_end hK24 ?_
        refine WC_cond rfl (fun hc5 => ?_) (fun hc5 => ?_)
        · try simp only [decide_eq_true_eq, decide_eq_false_iff_not, Bool.not_eq_true', Bool.not_eq_false', Bool.not_eq_true, Bool.not_eq_false, Int.not_lt, Int.not_le, Nat.not_lt, Nat.not_le, Decidable.not_not, ne_eq] at hc5
          refine WC_sr fun K25 hK25 => ?_
          refine WL_rd (Rd_move rfl) rfl rfl rfl ?_
          refine WL_ac (Ac_call cf43 rfl (hs := kS_next_ (c := c) (hb := hb) (made := s.made) (now := s.now) (rows := s.rows))) rfl rfl rfl ?_
          rintro _ _ ⟨⟨⟩, rfl, hA⟩
          simp only [List.cons_append, List.nil_append] at hA
          replace hA := hA.symm
          subst hA
          refine WL_rd (Rd_move rfl) rfl rfl rfl ?_
          refine WL_rd (Rd_ext0 rfl) rfl rfl rfl ?_
          refine WL_rd (Rd_ext1 rfl) rfl rfl rfl ?_
          refine WL_rd (Rd_assign rfl) rfl rfl rfl ?_
          refine WL_rd (Rd_assign rfl) rfl rfl rfl ?_
          refine WL_end hK25 ?_
          refine WC_sr fun K26 hK26 => ?_
          refine WL_rd (Rd_move rfl) rfl rfl rfl ?_
          refine WL_ac (Ac_call cf71 rfl (hs := dNext_ct (y := y) (made := s.made) (tick := s.now) (L := s.L))) rfl rfl rfl ?_
          rintro _ _ ⟨⟨⟩, rfl, hA⟩
          simp only [List.cons_append, List.nil_append] at hA
          replace hA := hA.symm
          subst hA
          obtain ⟨e1, e2⟩ := ck_next hI.ck
          rw [← e1, ← e2]
          refine WL_rd (Rd_move rfl) rfl rfl rfl ?_
          refine WL_rd (Rd_ext0 rfl) rfl rfl rfl ?_
          refine WL_rd (Rd_ext1 rfl) rfl rfl rfl ?_
          refine WL_rd (Rd_assign rfl) rfl rfl rfl ?_
          refine WL_rd (Rd_assign rfl) rfl rfl rfl ?_
          refine WL_end hK26 ?_
          refine WC_seq fun K27 hK27 => ?_
          refine WC_drawA mix (fun i => ([2, 2, 2, 2, 2, 2, 2, 2, 2, 2, 1, 2, 2, 2, 2, 2, 2, 2, 2, 1, 2, 2, 2, 2, 2, 2, 2, 2] : List Nat).getD i 0) ?_
          refine WJ_takeP 0 rfl (by kernel_rfl) (Rd_move rfl) rfl rfl rfl (hp _ _) ?_
          refine WJ_takeP 1 rfl (by kernel_rfl) (Rd_move rfl) rfl rfl rfl (hp _ _) ?_
          refine WJ_takeP 2 rfl (by kernel_rfl) (Rd_isT (Rd_eql rfl rfl)) rfl rfl rfl (hp _ _) ?_
          refine WJ_takeP 3 rfl (by kernel_rfl) (Rd_move rfl) rfl rfl rfl (hp _ _) ?_
          refine WJ_takeP 4 rfl (by kernel_rfl) (Rd_move rfl) rfl rfl rfl (hp _ _) ?_
          refine WJ_takeP 5 rfl (by kernel_rfl) (Rd_move rfl) rfl rfl rfl (hp _ _) ?_
          refine WJ_takeP 6 rfl (by kernel_rfl) (Rd_isT (Rd_beq rfl rfl ud4)) rfl rfl rfl (hp _ _) ?_
          refine WJ_takeP 7 rfl (by kernel_rfl) (Rd_pickT rfl rfl) rfl rfl rfl (hp _ _) ?_
          refine WJ_takeP 8 rfl (by kernel_rfl) (Rd_move rfl) rfl rfl rfl (hp _ _) ?_
          refine WJ_takeP 9 rfl (by kernel_rfl) (Rd_move rfl) rfl rfl rfl (hp _ _) ?_
          refine WJ_takeP 11 rfl (by kernel_rfl) (Rd_move rfl) rfl rfl rfl (hp _ _) ?_
          refine WJ_takeP 12 rfl (by kernel_rfl) (Rd_nilCheck rfl) rfl rfl rfl (hp _ _) ?_
          refine WJ_takeP 13 rfl (by kernel_rfl) (Rd_fieldAddr rfl fo90_0) rfl rfl rfl (hp _ _) ?_
          refine WJ_tk 14 (Rd_load rfl tk3 (v := .int .i64 s.now)) hp ?_ rfl (by kernel_rfl) rfl rfl rfl
          refine WJ_all (rs := [10]) (by kernel_rfl) rfl ?_
          refine WI_one ?_
          refine WI_ac rfl (Ac_call cf27 rfl (hs := kS_now (c := c) (hb := hb) (made := s.made) (now := s.now) (rows := s.rows))) rfl rfl rfl rfl ?_
          rintro _ _ ⟨⟨⟩, rfl, hA⟩
          simp only [List.cons_append, List.nil_append] at hA
          replace hA := hA.symm
          subst hA
          refine ⟨(fun _ => (by repeat (first | with_reducible exact Sub.refl | with_reducible exact Sub.nil | with_reducible refine Sub.cons (by repeat (first | with_reducible exact Ext.here | with_reducible apply Ext.there)) ?_ | with_reducible refine Sub.tail ?_))), ?_⟩
          refine WJ_takeP 15 rfl (by kernel_rfl) (Rd_isT (Rd_eql rfl rfl)) rfl rfl rfl (hp _ _) ?_
          refine WJ_takeP 16 rfl (by kernel_rfl) (Rd_pickT rfl rfl) rfl rfl rfl (hp _ _) ?_
          refine WJ_takeP 17 rfl (by kernel_rfl) (Rd_move rfl) rfl rfl rfl (hp _ _) ?_
          refine WJ_takeP 18 rfl (by kernel_rfl) (Rd_move rfl) rfl rfl rfl (hp _ _) ?_
          refine WJ_takeP 20 rfl (by kernel_rfl) (Rd_move rfl) rfl rfl rfl (hp _ _) ?_
          refine WJ_takeP 21 rfl (by kernel_rfl) (Rd_nilCheck rfl) rfl rfl rfl (hp _ _) ?_
          refine WJ_takeP 22 rfl (by kernel_rfl) (Rd_fieldAddr rfl fo90_2) rfl rfl rfl (hp _ _) ?_
          refine WJ_tk 23 (Rd_load rfl tk75 (v := sl s.a s.L.length s.cap)) hp ?_ rfl (by kernel_rfl) rfl rfl rfl
          refine WJ_takeP 24 rfl (by kernel_rfl) (Rd_len rfl rfl ud75) rfl rfl rfl (hp _ _) ?_
          refine WJ_all (rs := [19]) (by kernel_rfl) rfl ?_
          refine WI_one ?_
          refine WI_ac rfl (Ac_call cf36 rfl (hs := kS_len (c := c) (hb := hb) (made := s.made) (now := s.now) (rows := s.rows))) rfl rfl rfl rfl ?_
          rintro _ _ ⟨⟨⟩, rfl, hA⟩
          simp only [List.cons_append, List.nil_append] at hA
          replace hA := hA.symm
          subst hA
          rw [hlr]
          refine ⟨(fun _ => (by repeat (first | with_reducible exact Sub.refl | with_reducible exact Sub.nil | with_reducible refine Sub.cons (by repeat (first | with_reducible exact Ext.here | with_reducible apply Ext.there)) ?_ | with_reducible refine Sub.tail ?_))), ?_⟩
          refine WJ_takeP 25 rfl (by kernel_rfl) (Rd_isT (Rd_eqlN rfl rfl)) rfl rfl rfl (hp _ _) ?_
          refine WJ_takeP 26 rfl (by kernel_rfl) (Rd_pickT rfl rfl) rfl rfl rfl (hp _ _) ?_
          refine WJ_takeP 27 rfl (by kernel_rfl) (Rd_assign rfl) rfl rfl rfl (hp _ _) ?_
          refine WJ_done (by kernel_rfl) ?_
          refine Ps_next hK27 ?_
          refine WC_ret ?_
          exact hret.goE ⟨(s, p), hI, by (try dsimp only); omega, hK.up (by omega)⟩ (Rs1 rfl rfl) rfl
        · try simp only [decide_eq_true_eq, decide_eq_false_iff_not, Bool.not_eq_true', Bool.not_eq_false', Bool.not_eq_true, Bool.not_eq_false, Int.not_lt, Int.not_le, Nat.not_lt, Nat.not_le, Decidable.not_not, ne_eq] at hc5
          refine WC_sr fun K28 hK28 => ?_
          refine WL_rd (Rd_eqlN (j := 4) rfl rfl) rfl rfl rfl ?_
          refine WL_rd (Rd_assign rfl) rfl rfl rfl ?_
          refine WL_end hK28 ?_
          refine WC_cond rfl (fun hc6 => ?_) (fun hc6 => ?_)
          · try simp only [decide_eq_true_eq, decide_eq_false_iff_not, Bool.not_eq_true', Bool.not_eq_false', Bool.not_eq_true, Bool.not_eq_false, Int.not_lt, Int.not_le, Nat.not_lt, Nat.not_le, Decidable.not_not, ne_eq] at hc6
            refine WC_sr fun K29 hK29 => ?_
            refine WL_rd (Rd_move rfl) rfl rfl rfl ?_
            refine WL_rd (Rd_fieldAddr rfl fo86_2) rfl rfl rfl ?_
            refine WL_rd (Rd_load rfl tk3 (v := .int .i64 q.tick)) rfl rfl rfl ?_
            refine WL_ac (Ac_call cf26 rfl (hs := kS_until_u (c := c) (hb := hb) (made := s.made) (now := s.now) (rows := s.rows) (t := q.tick))) rfl rfl rfl ?_
            rintro _ _ ⟨⟨a168, cap168⟩, rfl, hA⟩
            simp only [List.cons_append, List.nil_append] at hA
            replace hA := hA.symm
            subst hA
            refine WL_rd (Rd_move rfl) rfl rfl rfl ?_
            refine WL_rd (Rd_ext0 rfl) rfl rfl rfl ?_
            refine WL_rd (Rd_ext1 rfl) rfl rfl rfl ?_
            refine WL_rd (Rd_assign rfl) rfl rfl rfl ?_
            refine WL_rd (Rd_assign rfl) rfl rfl rfl ?_
            refine WL_end hK29 ?_
            refine WC_sr fun K30 hK30 => ?_
            refine WL_rd (Rd_move rfl) rfl rfl rfl ?_
            refine WL_rd (Rd_fieldAddr rfl fo86_2) rfl rfl rfl ?_
            refine WL_rd (Rd_load rfl tk3 (v := .int .i64 q.tick)) rfl rfl rfl ?_
            refine WL_ac (Ac_call cf72 rfl (hs := dUntil_ct (y := y) (made := s.made) (tick := s.now) (L := s.L) (t := q.tick))) rfl rfl rfl ?_
            rintro _ _ ⟨⟨⟨a1, cap1⟩, ⟨oa, oc⟩⟩, rfl, hA⟩
            simp only [List.cons_append, List.nil_append] at hA
            replace hA := hA.symm
            subst hA
            obtain ⟨hu1, hu2⟩ := ck_until (now := s.now) (t := q.tick) hI.ck
            have hul : (unO s.now q.tick s.rows).length = (duO s.now q.tick s.L).length := by rw [hu1, List.length_map]
            refine WL_fact (fun w h => arr_facts (a := a168) (cap := cap168) (e := 3) (T := 62) (f := kS_eD) (l := (unO s.now q.tick s.rows)) (by repeat (first | with_reducible exact Has.here | with_reducible refine Has.there ?_)) h) (fun huf => ?_)
            refine WL_rd (Rd_move rfl) rfl rfl rfl ?_
            refine WL_rd (Rd_ext0 rfl) rfl rfl rfl ?_
            refine WL_rd (Rd_ext1 rfl) rfl rfl rfl ?_
            refine WL_rd (Rd_assign rfl) rfl rfl rfl ?_
            refine WL_rd (Rd_assign rfl) rfl rfl rfl ?_
            refine WL_end hK30 ?_
            refine WC_seq fun K31 hK31 => ?_
            refine WC_sr fun K32 hK32 => ?_
            refine WL_rd (Rd_move rfl) rfl rfl rfl ?_
            refine WL_rd (Rd_move rfl) rfl rfl rfl ?_
            refine WL_rd (Rd_isF (Rd_neq rfl rfl)) rfl rfl rfl ?_
            refine WL_rd (Rd_move rfl) rfl rfl rfl ?_
            refine WL_rd (Rd_move rfl) rfl rfl rfl ?_
            refine WL_rd (Rd_len rfl rfl ud65) rfl rfl rfl ?_
            refine WL_rd (Rd_move rfl) rfl rfl rfl ?_
            refine WL_rd (Rd_len rfl rfl ud75) rfl rfl rfl ?_
            refine WL_rd (Rd_isF (Rd_neqN rfl rfl)) rfl rfl rfl ?_
            refine WL_rd (Rd_pickF rfl rfl) rfl rfl rfl ?_
            refine WL_end hK32 ?_
            refine WC_condF rfl ?_
            refine WC_skip ?_
            refine Ps_next hK31 ?_
            refine WC_seq fun K33 hK33 => ?_
            refine WC_sr fun K34 hK34 => ?_
            refine WL_rd (Rd_assign rfl) rfl rfl rfl ?_
            refine WL_end hK34 ?_
            refine WC_block ?_
            refine WC_loopK (σ := Nat) (fun i => [(29, .int .i64 ((i : Nat) : Int))]) (fun i => []) (fun i => i ≤ (duO s.now q.tick s.L).length) (fun i => (duO s.now q.tick s.L).length - i) (0) [0, 1, 3, 6, 25, 27, 204, 205, 206, 207, 208, 209, 210, 211, 212, 213, 214, 215, 216, 217, 218, 219, 220] (by repeat (first | exact Kep.nil | apply Kep.drop rfl | apply Kep.keep rfl)) (by (try dsimp only); repeat (first | with_reducible exact Gv.nil | (with_reducible apply Gv.cons; · (repeat (first | with_reducible exact Ext.here | with_reducible apply Ext.there))))) ?_ ?_ Sub.refl ?_
            · exact Nat.zero_le _
            · (try dsimp only); exact (Wk.cons (by first | rfl | (simp only [List.length_append, List.length_cons, List.length_nil, List.length_replicate, Nat.zero_add]; rfl) | (simp; done)) Wk.nil)
            · rintro i hi K35 hK35
              simp only [List.cons_append, List.nil_append]
              refine WC_seq fun K36 hK36 => ?_
              refine WC_sr fun K37 hK37 => ?_
              refine WL_rd (Rd_move rfl) rfl rfl rfl ?_
              refine WL_rd (Rd_move rfl) rfl rfl rfl ?_
              refine WL_rd (Rd_len rfl rfl ud65) rfl rfl rfl ?_
              refine WL_rd (Rd_lssN rfl rfl) rfl rfl rfl ?_
              refine WL_end hK37 ?_
              refine WC_cond rfl (fun hc8 => ?_) (fun hc8 => ?_)
              · try simp only [decide_eq_true_eq, decide_eq_false_iff_not, Bool.not_eq_true', Bool.not_eq_false', Bool.not_eq_true, Bool.not_eq_false, Int.not_lt, Int.not_le, Nat.not_lt, Nat.not_le, Decidable.not_not, ne_eq] at hc8
                obtain ⟨z, hz⟩ := at_r (l := (duO s.now q.tick s.L)) (i := i) (by omega)
                have hu : (unO s.now q.tick s.rows)[i]? = some (toD z).2 := by rw [hu1, List.getElem?_map, hz]; rfl
                refine WC_some (a := a168) (by repeat (first | with_reducible exact Has.here | with_reducible refine Has.there ?_)) (by omega) (fun ga hga _ => ?_)
                subst hga
                refine WC_some (a := oa) (by repeat (first | with_reducible exact Has.here | with_reducible refine Has.there ?_)) (by omega) (fun gb hgb _ => ?_)
                subst hgb
                refine WC_skip ?_
                refine Ps_next hK36 ?_
                refine WC_seq fun K38 hK38 => ?_
                refine WC_block ?_
                refine WC_seq fun K39 hK39 => ?_
                refine WC_drawA mix (fun i => ([2, 2, 2, 2, 2, 2, 2, 2, 1, 2] : List Nat).getD i 0) ?_
                refine WJ_takeP 0 rfl (by kernel_rfl) (Rd_move rfl) rfl rfl rfl (hp _ _) ?_
                refine WJ_takeP 1 rfl (by kernel_rfl) (Rd_move rfl) rfl rfl rfl (hp _ _) ?_
                refine WJ_takeP 2 rfl (by kernel_rfl) (Rd_index i rfl rfl ud65 sz62 (hi := by omega)) rfl rfl rfl (hp _ _) ?_
                refine WJ_tk 3 (Rd_loadg_arr (f := kS_eD) (i := i) (y := (toD z).2) rfl tk62 (hl := hu)) hp ?_ rfl (by kernel_rfl) rfl rfl rfl
                refine WJ_takeP 4 rfl (by kernel_rfl) (Rd_move rfl) rfl rfl rfl (hp _ _) ?_
                refine WJ_takeP 5 rfl (by kernel_rfl) (Rd_move rfl) rfl rfl rfl (hp _ _) ?_
                refine WJ_takeP 6 rfl (by kernel_rfl) (Rd_index i rfl rfl ud75 sz81 (hi := by omega)) rfl rfl rfl (hp _ _) ?_
                refine WJ_tk 7 (Rd_loadg_arr (f := eDR) (i := i) (y := z) rfl tk81 (hl := hz)) hp ?_ rfl (by kernel_rfl) rfl rfl rfl
                refine WJ_all (rs := [8]) (by kernel_rfl) rfl ?_
                refine WI_one ?_
                refine WI_ac rfl (Ac_call cf34 rfl (hs := alike_ct (y := z))) rfl rfl rfl rfl ?_
                rintro _ _ ⟨⟨⟩, rfl, hA⟩
                simp only [List.cons_append, List.nil_append] at hA
                replace hA := hA.symm
                subst hA
                refine ⟨(fun _ => (by repeat (first | with_reducible exact Sub.refl | with_reducible exact Sub.nil | with_reducible refine Sub.cons (by repeat (first | with_reducible exact Ext.here | with_reducible apply Ext.there)) ?_ | with_reducible refine Sub.tail ?_))), ?_⟩
                refine WJ_takeP 9 rfl (by kernel_rfl) (Rd_not rfl) rfl rfl rfl (hp _ _) ?_
                refine WJ_done (by kernel_rfl) ?_
                refine Ps_next hK39 ?_
                refine WC_condF rfl ?_
                refine WC_skip ?_
                refine Ps_next hK38 ?_
                refine WC_region ?_
                refine WL_rd (Rd_move rfl) rfl rfl rfl ?_
                refine WL_rd (Rd_addN (j := 1) rfl rfl) rfl rfl rfl ?_
                refine WL_rd (Rd_assign rfl) rfl rfl rfl ?_
                refine WL_nil ?_
                refine Ps_wk (by (try simp only [List.cons_append, List.nil_append]); repeat (first | with_reducible exact Wk.nil | refine Wk.cons (by first | rfl | (simp only [List.length_append, List.length_cons, List.length_nil, List.length_replicate, Nat.zero_add]; rfl) | (simp; done)) ?_)) (by (try simp only [List.cons_append, List.nil_append]); repeat (first | with_reducible exact Sub.refl | with_reducible exact Sub.nil | with_reducible refine Sub.cons (by repeat (first | with_reducible exact Ext.here | with_reducible apply Ext.there)) ?_ | with_reducible refine Sub.tail ?_)) (hK35 (i + 1) (by omega) (by omega))
              · try simp only [decide_eq_true_eq, decide_eq_false_iff_not, Bool.not_eq_true', Bool.not_eq_false', Bool.not_eq_true, Bool.not_eq_false, Int.not_lt, Int.not_le, Nat.not_lt, Nat.not_le, Decidable.not_not, ne_eq] at hc8
                refine WC_exit ?_
                refine Ps_next hK33 ?_
                refine WC_sr fun K40 hK40 => ?_
                refine WL_rd (Rd_move rfl) rfl rfl rfl ?_
                refine WL_rd (Rd_move rfl) rfl rfl rfl ?_
                refine WL_rd (Rd_nilCheck rfl) rfl rfl rfl ?_
                refine WL_rd (Rd_load rfl tk84 (v := sl p.a p.ps.length p.cap)) rfl rfl rfl ?_
                refine WL_rd (Rd_move rfl) rfl rfl rfl ?_
                refine WL_ac (Ac_bs1 (xs := [sl a168 (unO s.now q.tick s.rows).length cap168]) rfl ud84 zr65 sz65) rfl rfl rfl ?_
                rintro _ _ ⟨b209, rfl, rfl⟩
                refine WL_ac (Ac_append1 (f := ePU) encPU ⟨a168, cap168, (unO s.now q.tick s.rows)⟩ rfl rfl ud84 ud84 el65) rfl rfl rfl ?_
                rintro _ _ ⟨a210, cap210, rfl, rfl⟩
                rw [show p.ps.length + 1 = (p.ps ++ [(⟨a168, cap168, (unO s.now q.tick s.rows)⟩ : PU)]).length from by simp]
                rw [show arr a168 cap168 3 62 kS_eD (unO s.now q.tick s.rows) = (FPU kS_eD 62) ⟨a168, cap168, (unO s.now q.tick s.rows)⟩ from rfl]
                refine WL_snoc (FPU kS_eD 62) p.ps ⟨a168, cap168, (unO s.now q.tick s.rows)⟩ ?_
                refine WL_rd (Rd_nilCheck rfl) rfl rfl rfl ?_
                refine WL_ac0 (Ac_store1 rfl rfl sz84) rfl rfl ?_
                rintro _ _ rfl
                refine WL_end hK40 ?_
                refine WC_sr fun K41 hK41 => ?_
                refine WL_rd (Rd_assign rfl) rfl rfl rfl ?_
                refine WL_end hK41 ?_
                refine WC_ret ?_
                exact hret.goE ⟨(⟨unR s.now q.tick s.rows, duR s.now q.tick s.L, s.made, unN s.now q.tick, a1, cap1⟩, ⟨p.ps ++ [⟨a168, cap168, (unO s.now q.tick s.rows)⟩], a210, cap210⟩), ⟨hu2, unN_ok hI.nw⟩, by (try dsimp only); omega, hK.put huf.1 huf.2 (by (try dsimp only); omega)⟩ (Rs1 rfl rfl) rfl
          · try simp only [decide_eq_true_eq, decide_eq_false_iff_not, Bool.not_eq_true', Bool.not_eq_false', Bool.not_eq_true, Bool.not_eq_false, Int.not_lt, Int.not_le, Nat.not_lt, Nat.not_le, Decidable.not_not, ne_eq] at hc6
            refine WC_skip ?_
            refine Ps_next hK2 ?_
            refine WC_seq fun K42 hK42 => ?_
            refine WC_drawA mix (fun i => ([2, 2, 1, 2, 2, 2, 2, 2, 1, 2] : List Nat).getD i 0) ?_
            refine WJ_takeP 0 rfl (by kernel_rfl) (Rd_move rfl) rfl rfl rfl (hp _ _) ?_
            refine WJ_takeP 1 rfl (by kernel_rfl) (Rd_move rfl) rfl rfl rfl (hp _ _) ?_
            refine WJ_takeP 3 rfl (by kernel_rfl) (Rd_fieldAddr rfl fo86_3) rfl rfl rfl (hp _ _) ?_
            refine WJ_tk 4 (Rd_load rfl tk45 (v := .int .u32 ((q.v.toNat : Nat) : Int))) hp ?_ rfl (by kernel_rfl) rfl rfl rfl
            refine WJ_takeP 5 rfl (by kernel_rfl) (Rd_rem' (j := 8) (r := ((q.v.toNat % 8 : Nat) : Int)) rfl rfl (by decide) rfl) rfl rfl rfl (hp _ _) ?_
            refine WJ_takeP 6 rfl (by kernel_rfl) (Rd_convN rfl ikd45_3) rfl rfl rfl (hp _ _) ?_
            refine WJ_takeP 7 rfl (by kernel_rfl) (Rd_addN (j := 1) rfl rfl) rfl rfl rfl (hp _ _) ?_
            refine WJ_all (rs := [2]) (by kernel_rfl) rfl ?_
            refine WI_one ?_
            refine WI_ac rfl (Ac_call cf32 rfl (hs := dAll_ct (y := y) (made := s.made) (tick := s.now) (L := s.L) (hU := hI.ck.up))) rfl rfl rfl rfl ?_
            rintro _ _ ⟨⟨wa, wc⟩, rfl, hA⟩
            simp only [List.cons_append, List.nil_append] at hA
            replace hA := hA.symm
            subst hA
            have hsl : (srt dlt s.L).length = s.L.length := srt_len s.L
            refine ⟨(fun _ => (by repeat (first | with_reducible exact Sub.refl | with_reducible exact Sub.nil | with_reducible refine Sub.cons (by repeat (first | with_reducible exact Ext.here | with_reducible apply Ext.there)) ?_ | with_reducible refine Sub.tail ?_))), ?_⟩
            refine WJ_fact (fun w h => arr_facts (a := wa) (cap := wc) (e := 3) (T := 81) (f := eDR) (l := (srt dlt s.L)) (by repeat (first | with_reducible exact Has.here | with_reducible refine Has.there ?_)) h) (fun hWSf => ?_)
            have hWS : Sv [arr wa wc 3 81 eDR (srt dlt s.L)] (sl wa (srt dlt s.L).length wc) 3 eDR (srt dlt s.L) (wa.map fun g => ⟨g, 0, none⟩) wc := Sv_own' encDR hWSf.1 hWSf.2
            refine WJ_all (rs := [8]) (by kernel_rfl) rfl ?_
            refine WI_one ?_
            refine WI_ac rfl (Ac_call cf37 rfl (hs := walked_ct (c := c) (hb := hb) (made := s.made) (now := s.now) (rows := s.rows) (L := s.L) (m := q.v.toNat % 8 + 1) (hC := hI.ck) (hW := hWS) (hm1 := by omega))) rfl rfl rfl rfl ?_
            rintro _ _ ⟨⟨⟩, rfl, hA⟩
            simp only [List.cons_append, List.nil_append] at hA
            replace hA := hA.symm
            subst hA
            refine ⟨(fun _ => (by repeat (first | with_reducible exact Sub.refl | with_reducible exact Sub.nil | with_reducible refine Sub.cons (by repeat (first | with_reducible exact Ext.here | with_reducible apply Ext.there)) ?_ | with_reducible refine Sub.tail ?_))), ?_⟩
            refine WJ_takeP 9 rfl (by kernel_rfl) (Rd_assign rfl) rfl rfl rfl (hp _ _) ?_
            refine WJ_done (by kernel_rfl) ?_
            refine Ps_next hK42 ?_
            refine WC_ret ?_
            exact hret.goE ⟨(s, p), hI, by (try dsimp only); omega, hK.up (by omega)⟩ (Rs1 rfl rfl) rfl
end Go.Proofs.Ytcemkpiopijbmaa
