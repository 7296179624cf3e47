/-
  Contracts of functions that the claim reaches, or the logic and the plain laws that they rest on, or the row over them. (Conditions: none beyond the statement.)
-/
import Derived.Test.YtoakfknnaiapiaaZnA
set_option linter.all false
namespace Go.Proofs.Ytoakfknnaiapiaa
open Go.RowKit Go.SL 
set_option maxHeartbeats 1000000
set_option maxRecDepth 20000
set_option linter.all false
theorem cf8 : cfn Try.prog 8 = true := by kernel_rfl
theorem cf10 : cfn Try.prog 10 = true := by kernel_rfl
theorem cf11 : cfn Try.prog 11 = true := by kernel_rfl
theorem cf12 : cfn Try.prog 12 = true := by kernel_rfl
theorem cf13 : cfn Try.prog 13 = true := by kernel_rfl
theorem cf14 : cfn Try.prog 14 = true := by kernel_rfl
theorem cf15 : cfn Try.prog 15 = true := by kernel_rfl
theorem cf16 : cfn Try.prog 16 = true := by kernel_rfl
theorem cf44 : cfn Try.prog 44 = true := by kernel_rfl
theorem fo30_1 : fo Try.prog 30 1 = some (1, 24) := by kernel_rfl
theorem fo30_2 : fo Try.prog 30 2 = some (17, 3) := by kernel_rfl
theorem fo30_6 : fo Try.prog 30 6 = some (22, 28) := by kernel_rfl
theorem fo32_2 : fo Try.prog 32 2 = some (2, 3) := by kernel_rfl
theorem fo32_4 : fo Try.prog 32 4 = some (4, 30) := by kernel_rfl
theorem sz4 : sz Try.prog 4 = some 1 := by kernel_rfl
theorem sz33 : sz Try.prog 33 = some 1 := by kernel_rfl
theorem tk24 : tk Try.prog 24 = some (some 16) := by kernel_rfl
theorem tk30 : tk Try.prog 30 = some (some 23) := by kernel_rfl
theorem tk33 : tk Try.prog 33 = some none := by kernel_rfl
theorem ud41 : Try.prog.underlying 41 = some (.slice 33) := by kernel_rfl
theorem zr4 : zr Try.prog 4 = some [.bool false] := by kernel_rfl
theorem zr33 : zr Try.prog 33 = some [.pointer none] := by kernel_rfl
theorem zr40 : zr Try.prog 40 = some [.bool false, .int .i64 0, .int .i64 0, .int .i64 0, .map none] := by kernel_rfl
theorem None_ct {ac : List Value} {at_ nu : Int} {by_ : Value} (hl : ac.length = 27 := by assumption) (hone : ∀ v ∈ ac, v.oneCell' = true := by assumption) (h2 : ac[2]? = some (.int .i64 at_) := by assumption) (h21 : ac[21]? = some (.int .i64 nu) := by assumption) (h26 : ac[26]? = some by_ := by assumption) : Ct Try.prog 3 [.agg ac.toArray] [] (fun _ : Unit => .bool true) (fun _ => []) := by
  refine Ct_body (n := 101) Try.func3 rfl rfl rfl fun F w0 Q hret hnorm hp => ?_
  change WC _ _ _ _ _ _ _ (F)
  refine WC_dfrs0 ?_
  refine WC_sr fun K1 hK1 => ?_
  refine WL_ac (Ac_box (xs := ac) rfl rfl) rfl rfl rfl ?_
  rintro _ _ ⟨b1, rfl, rfl⟩
  refine WL_ac (Ac_alloc zr4) rfl rfl rfl ?_
  rintro _ _ ⟨b2, rfl, rfl⟩
  refine WL_end hK1 ?_
  refine WC_sr fun K2 hK2 => ?_
  refine WL_ac (Ac_call cf8 rfl (hs := snNew)) rfl rfl rfl ?_
  rintro _ _ ⟨⟨s, m⟩, rfl, hA⟩
  simp only [List.cons_append, List.nil_append] at hA
  replace hA := hA.symm
  subst hA
  refine WL_rd (Rd_move rfl) rfl rfl rfl ?_
  refine WL_rd (Rd_ext0 rfl) rfl rfl rfl ?_
  refine WL_rd (Rd_ext1 rfl) rfl rfl rfl ?_
  refine WL_rd (Rd_assign rfl) rfl rfl rfl ?_
  refine WL_rd (Rd_assign rfl) rfl rfl rfl ?_
  refine WL_end hK2 ?_
  refine WC_seq fun K3 hK3 => ?_
  refine WC_sr fun K4 hK4 => ?_
  refine WL_rd (Rd_move rfl) rfl rfl rfl ?_
  refine WL_rd (Rd_peq rfl rfl ud33) rfl rfl rfl ?_
  refine WL_rd (Rd_move rfl) rfl rfl rfl ?_
  refine WL_rd (Rd_move rfl) rfl rfl rfl ?_
  refine WL_rd (Rd_neqN (i := 0) (j := 0) rfl rfl) rfl rfl rfl ?_
  refine WL_rd (Rd_pickF rfl rfl) rfl rfl rfl ?_
  refine WL_rd (Rd_move rfl) rfl rfl rfl ?_
  refine WL_rd (Rd_move rfl) rfl rfl rfl ?_
  refine WL_ac (Ac_call cf9 rfl (hs := snTickY (s := s) (m := m))) rfl rfl rfl ?_
  rintro _ _ ⟨⟨⟩, rfl, hA⟩
  simp only [List.cons_append, List.nil_append] at hA
  replace hA := hA.symm
  subst hA
  refine WL_rd (Rd_neqN (i := 0) (j := 0) rfl rfl) rfl rfl rfl ?_
  refine WL_rd (Rd_pickF rfl rfl) rfl rfl rfl ?_
  refine WL_end hK4 ?_
  refine WC_condF rfl ?_
  refine WC_skip ?_
  refine Ps_next hK3 ?_
  refine WC_sr fun K5 hK5 => ?_
  refine WL_ac (Ac_alloc zr40) rfl rfl rfl ?_
  rintro _ _ ⟨c, rfl, rfl⟩
  refine WL_end hK5 ?_
  refine WC_sr fun K6 hK6 => ?_
  refine WL_ac (Ac_bsL (f := eP) (zs := [.pointer none]) (bs := [.pointer none, .pointer none]) [none, some c] encP ud41 zr33 sz33 rfl (by rw [Array.toList_map, Array.toList_range]; rfl) (by rfl) (by rfl) (by rfl) (by rfl)) rfl rfl rfl ?_
  rintro _ _ ⟨bt, rfl, rfl⟩
  refine WL_rd (Rd_assign rfl) rfl rfl rfl ?_
  refine WL_end hK6 ?_
  refine WC_seq fun K7 hK7 => ?_
  refine WC_sr fun K8 hK8 => ?_
  refine WL_rd (Rd_assign rfl) rfl rfl rfl ?_
  refine WL_end hK8 ?_
  refine WC_block ?_
  refine WC_loopKD (σ := Nat × (List Nat)) (fun ⟨i', Ds⟩ => [(7, .int .i64 ((i' : Nat) : Int))]) (fun ⟨i', Ds⟩ => [dfrs Ds]) (fun ⟨i', Ds⟩ => i' ≤ 2) (fun ⟨i', Ds⟩ => 2 - i') (fun ⟨i', Ds⟩ => Ds.map dmk) ⟨0, []⟩ [1, 2, 6, 93] (by repeat (first | exact Kep.nil | apply Kep.drop rfl | apply Kep.keep rfl)) (by (try dsimp only); repeat (first | with_reducible exact Gv.nil | (with_reducible apply Gv.cons; · (repeat (first | with_reducible exact Ext.here | with_reducible apply Ext.there))))) ?_ rfl ?_ Sub.refl ?_
  · (try dsimp only); omega
  · (try dsimp only); exact (Wk.cons (by first | rfl | (simp only [List.length_append, List.length_cons, List.length_nil, List.length_replicate, Nat.zero_add]; rfl) | (simp; done)) Wk.nil)
  · rintro ⟨i', Ds⟩ hi K9 hK9
    simp only [List.cons_append, List.nil_append]
    refine WC_seq fun K10 hK10 => ?_
    refine WC_sr fun K11 hK11 => ?_
    refine WL_rd (Rd_move rfl) rfl rfl rfl ?_
    refine WL_rd (Rd_lssN (j := 2) rfl rfl) rfl rfl rfl ?_
    refine WL_end hK11 ?_
    refine WC_cond rfl (fun hc1 => ?_) (fun hc1 => ?_)
    · try simp only [decide_eq_true_eq, decide_eq_false_iff_not, Bool.not_eq_true', Bool.not_eq_false', Bool.not_eq_true, Bool.not_eq_false, Int.not_lt, Int.not_le, Nat.not_lt, Nat.not_le, Decidable.not_not, ne_eq] at hc1
      obtain ⟨p, hpp⟩ : ∃ p, [none, some c][i']? = some p := ⟨_, List.getElem?_eq_getElem (by show i' < 2; omega)⟩
      have hpc := two_of hpp
      refine WC_skip ?_
      refine Ps_next hK10 ?_
      refine WC_seq fun K12 hK12 => ?_
      refine WC_block ?_
      refine WC_sr fun K13 hK13 => ?_
      refine WL_rd (Rd_move rfl) rfl rfl rfl ?_
      refine WL_rd (Rd_move rfl) rfl rfl rfl ?_
      refine WL_rd (Rd_index i' rfl rfl ud41 sz33 (hj := by omega)) rfl rfl rfl ?_
      refine WL_rd (Rd_load_arr (f := eP) (i := i') (j := 0) rfl tk33 (hl := hpp)) rfl rfl rfl ?_
      refine WL_rd (Rd_assign rfl) rfl rfl rfl ?_
      refine WL_end hK13 ?_
      refine WC_sr fun K14 hK14 => ?_
      refine WL_rd (Rd_move rfl) rfl rfl rfl ?_
      refine WL_rd (Rd_fieldAddr rfl fo32_2) rfl rfl rfl ?_
      refine WL_rd (Rd_load rfl tk3 (v := .int .i64 at_) (hi := h2)) rfl rfl rfl ?_
      refine WL_rd (Rd_fieldAddr rfl fo32_4) rfl rfl rfl ?_
      refine WL_rd (Rd_loadg (vs := (ac.drop 4).take 23) rfl tk30 (hl := by omega) (hi := rfl)) rfl rfl rfl ?_
      refine WL_ac (Ac_call cf10 rfl (hs := snDoP (c := c) (rq := (ac.drop 4).take 23) (h := hpc))) rfl rfl rfl ?_
      rintro _ _ ⟨⟨⟩, rfl, hA⟩
      simp only [List.cons_append, List.nil_append] at hA
      replace hA := hA.symm
      subst hA
      refine WL_rd (Rd_move rfl) rfl rfl rfl ?_
      refine WL_rd (Rd_ext0 rfl) rfl rfl rfl ?_
      refine WL_rd (Rd_ext1 rfl) rfl rfl rfl ?_
      refine WL_ac (Ac_alloc zr45) rfl rfl rfl ?_
      rintro _ _ ⟨b9, rfl, rfl⟩
      refine WL_ac0 (Ac_store (ys := [.int .u8 0, .slice none 0 0, .slice none 0 0]) rfl rfl sz45 (h1 := by simp [Value.cells, Value.oneCell']) (hr := rfl)) rfl rfl ?_
      rintro _ _ rfl
      refine WL_rd (Rd_assign rfl) rfl rfl rfl ?_
      refine WL_end hK14 ?_
      refine WC_seq fun K15 hK15 => ?_
      refine WC_sr fun K16 hK16 => ?_
      refine WL_rd (Rd_loadg (vs := [.int .u8 0, .slice none 0 0, .slice none 0 0]) rfl tk45 (hi := rfl)) rfl rfl rfl ?_
      refine WL_rd (Rd_build pls45 rfl) rfl rfl rfl ?_
      refine WL_ac (Ac_call cf11 rfl (hs := sameReply0)) rfl rfl rfl ?_
      rintro _ _ ⟨⟨⟩, rfl, hA⟩
      simp only [List.cons_append, List.nil_append] at hA
      replace hA := hA.symm
      subst hA
      refine WL_rd (Rd_not rfl) rfl rfl rfl ?_
      refine WL_rd (Rd_move rfl) rfl rfl rfl ?_
      refine WL_rd (Rd_move rfl) rfl rfl rfl ?_
      refine WL_rd (Rd_neqN (i := 1) (j := 1) rfl rfl) rfl rfl rfl ?_
      refine WL_rd (Rd_pickF rfl rfl) rfl rfl rfl ?_
      refine WL_rd (Rd_move rfl) rfl rfl rfl ?_
      refine WL_rd (Rd_move rfl) rfl rfl rfl ?_
      refine WL_rd (Rd_fieldAddr rfl fo32_2) rfl rfl rfl ?_
      refine WL_rd (Rd_load rfl tk3 (v := .int .i64 at_) (hi := h2)) rfl rfl rfl ?_
      refine WL_ac (Ac_call cf9 rfl (hs := snTickP (c := c) (h := hpc))) rfl rfl rfl ?_
      rintro _ _ ⟨⟨⟩, rfl, hA⟩
      simp only [List.cons_append, List.nil_append] at hA
      replace hA := hA.symm
      subst hA
      refine WL_rd (Rd_neqN (i := 1) (j := 1) rfl rfl) rfl rfl rfl ?_
      refine WL_rd (Rd_pickF rfl rfl) rfl rfl rfl ?_
      refine WL_rd (Rd_move rfl) rfl rfl rfl ?_
      refine WL_rd (Rd_move rfl) rfl rfl rfl ?_
      refine WL_rd (Rd_fieldAddr rfl fo32_4) rfl rfl rfl ?_
      refine WL_rd (Rd_fieldAddr rfl fo30_1) rfl rfl rfl ?_
      refine WL_rd (Rd_loadg (vs := (ac.drop 5).take 16) rfl tk24 (hl := by omega) (hi := rfl)) rfl rfl rfl ?_
      refine WL_rd (Rd_fieldAddr rfl fo32_4) rfl rfl rfl ?_
      refine WL_rd (Rd_fieldAddr rfl fo30_2) rfl rfl rfl ?_
      refine WL_rd (Rd_load rfl tk3 (v := .int .i64 nu) (hi := h21)) rfl rfl rfl ?_
      refine WL_rd (Rd_fieldAddr rfl fo32_4) rfl rfl rfl ?_
      refine WL_rd (Rd_fieldAddr rfl fo30_6) rfl rfl rfl ?_
      refine WL_rd (Rd_load rfl tk28 (v := by_) (hi := h26)) rfl rfl rfl ?_
      refine WL_ac (Ac_call cf12 rfl (hs := snSpoilP (c := c) (h := hpc))) rfl rfl rfl ?_
      rintro _ _ ⟨⟨⟩, rfl, hA⟩
      simp only [List.cons_append, List.nil_append] at hA
      replace hA := hA.symm
      subst hA
      refine WL_rd (Rd_neqN (i := 1) (j := 1) rfl rfl) rfl rfl rfl ?_
      refine WL_rd (Rd_pickF rfl rfl) rfl rfl rfl ?_
      refine WL_end hK16 ?_
      refine WC_condF rfl ?_
      refine WC_skip ?_
      refine Ps_next hK15 ?_
      refine WC_seq fun K17 hK17 => ?_
      refine WC_sr fun K18 hK18 => ?_
      refine WL_rd (Rd_move rfl) rfl rfl rfl ?_
      refine WL_ac (Ac_call cf13 rfl (hs := snUsedP (c := c) (h := hpc))) rfl rfl rfl ?_
      rintro _ _ ⟨⟨⟩, rfl, hA⟩
      simp only [List.cons_append, List.nil_append] at hA
      replace hA := hA.symm
      subst hA
      refine WL_rd (Rd_neqN (i := 0) (j := 0) rfl rfl) rfl rfl rfl ?_
      refine WL_rd (Rd_move rfl) rfl rfl rfl ?_
      refine WL_rd (Rd_move rfl) rfl rfl rfl ?_
      refine WL_ac (Ac_call cf15 rfl (hs := snStateP (c := c) (h := hpc))) rfl rfl rfl ?_
      rintro _ _ ⟨⟨⟩, rfl, hA⟩
      simp only [List.cons_append, List.nil_append] at hA
      replace hA := hA.symm
      subst hA
      refine WL_rd (Rd_build pls54 rfl) rfl rfl rfl ?_
      refine WL_ac (Ac_call cf14 rfl (hs := sameStore0)) rfl rfl rfl ?_
      rintro _ _ ⟨⟨⟩, rfl, hA⟩
      simp only [List.cons_append, List.nil_append] at hA
      replace hA := hA.symm
      subst hA
      refine WL_rd (Rd_not rfl) rfl rfl rfl ?_
      refine WL_rd (Rd_pickF rfl rfl) rfl rfl rfl ?_
      refine WL_end hK18 ?_
      refine WC_condF rfl ?_
      refine WC_skip ?_
      refine Ps_next hK17 ?_
      refine WC_sr fun K19 hK19 => ?_
      refine WL_rd (Rd_move rfl) rfl rfl rfl ?_
      refine WL_rd (Rd_fieldAddr rfl fo32_4) rfl rfl rfl ?_
      refine WL_rd (Rd_fieldAddr rfl fo30_1) rfl rfl rfl ?_
      refine WL_rd (Rd_loadg (vs := (ac.drop 5).take 16) rfl tk24 (hl := by omega) (hi := rfl)) rfl rfl rfl ?_
      refine WL_ac (Ac_call cf16 rfl (hs := snNumbersP (c := c) (h := hpc))) rfl rfl rfl ?_
      rintro _ _ ⟨⟨u1, u2⟩, rfl, hA⟩
      simp only [List.cons_append, List.nil_append] at hA
      replace hA := hA.symm
      subst hA
      refine WL_rd (Rd_assign rfl) rfl rfl rfl ?_
      refine WL_end hK19 ?_
      refine WC_seq fun K20 hK20 => ?_
      refine WC_sr fun K21 hK21 => ?_
      refine WL_rd (Rd_move rfl) rfl rfl rfl ?_
      first | refine WL_rd (Rd_feq rfl rfl Try.underlying56) rfl rfl rfl ?_ | refine WL_rd (Rd_feq0 rfl rfl Try.underlying56) rfl rfl rfl ?_
      refine WL_end hK21 ?_
      refine WC_condF rfl ?_
      refine WC_skip ?_
      refine Ps_next hK20 ?_
      refine WC_sr fun K22 hK22 => ?_
      refine WL_rd (Rd_move rfl) rfl rfl rfl ?_
      refine WL_end hK22 ?_
      refine WC_block ?_
      refine WC_rf (f := 44) (caps := [.pointer (some ⟨u1, 0, none⟩), .pointer (some ⟨u2, 0, none⟩)]) rfl cf44 fun lrf_0 Drf_0 rrf_0 hstrf_0 hpdrf_0 hparf_0 hasrf_0 hbdrf_0 hfrrf_0 => ?_
      have hyrf_0 : ∀ (_u : Unit) (q r : Int), False → Yd Try.prog lrf_0 [.int .i64 q, .int .i64 r] [(fun (_i : Unit) => exA (fun (_u : Unit) => True) (fun (_u : Unit) => [lp lrf_0 rrf_0])) ()] (fun b : Bool => .bool b) (fun b => [bif b then (fun (_i : Unit) => exA (fun (_u : Unit) => True) (fun (_u : Unit) => [lp lrf_0 rrf_0])) (()) else (exA (fun _ : Unit => False) (fun _ => []))]) := by
        intro _u q r hno
        exact hno.elim
      refine ⟨_, _, _, _, _, snNums2.frame [(fun (_i : Unit) => exA (fun (_u : Unit) => True) (fun (_u : Unit) => [lp lrf_0 rrf_0])) ()], imp_rf (Y := [_, _]) ((())) (trivial) (by repeat (first | with_reducible exact Gv.nil | (with_reducible apply Gv.cons; · (repeat (first | with_reducible exact Ext.here | with_reducible apply Ext.there))))) (by (try dsimp only); repeat (first | with_reducible exact Gv.nil | (with_reducible apply Gv.cons; · (repeat (first | with_reducible exact Ext.here | with_reducible apply Ext.there))))), ?_⟩
      · rintro ⟨⟩
        · simp only [List.cons_append, List.nil_append, cond_true, cond_false]
          refine RfEnd_ex ?_
          rintro _u hφ
          simp only [List.cons_append, List.nil_append]
          refine RfEnd_nrm hstrf_0 hpdrf_0 ?_
          refine Ps_next hK12 ?_
          refine WC_region ?_
          refine WL_rd (Rd_move rfl) rfl rfl rfl ?_
          refine WL_rd (Rd_addN (j := 1) rfl rfl) rfl rfl rfl ?_
          refine WL_rd (Rd_assign rfl) rfl rfl rfl ?_
          refine WL_nil ?_
          refine Ps_dfrs (D := Drf_0) ?_
          refine Ps_wk (by (try simp only [List.cons_append, List.nil_append]); repeat (first | with_reducible exact Wk.nil | refine Wk.cons (by first | rfl | (simp only [List.length_append, List.length_cons, List.length_nil, List.length_replicate, Nat.zero_add]; rfl) | (simp; done)) ?_)) (by (try simp only [List.cons_append, List.nil_append]); repeat (first | with_reducible exact Sub.refl | with_reducible exact Sub.nil | with_reducible refine Sub.cons (by repeat (first | with_reducible exact Ext.here | with_reducible apply Ext.there)) ?_ | with_reducible refine Sub.tail ?_)) (hK9 ⟨i' + 1, Drf_0 :: Ds⟩ (by dsimp only; omega) (by dsimp only; omega))
    · try simp only [decide_eq_true_eq, decide_eq_false_iff_not, Bool.not_eq_true', Bool.not_eq_false', Bool.not_eq_true, Bool.not_eq_false, Int.not_lt, Int.not_le, Nat.not_lt, Nat.not_le, Decidable.not_not, ne_eq] at hc1
      refine WC_exit ?_
      refine Ps_next hK7 ?_
      refine WC_sr fun K23 hK23 => ?_
      refine WL_ac0 (Ac_store1 rfl rfl sz4) rfl rfl ?_
      rintro _ _ rfl
      refine WL_end hK23 ?_
      refine WC_ret ?_
      refine hret.goSE () ?_ rfl
      exact Rs1cs rfl rfl tk4
end Go.Proofs.Ytoakfknnaiapiaa
