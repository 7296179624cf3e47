/-
  Contracts of functions that the claim reaches, or the logic and the plain laws that they rest on, or the row over them. (Conditions: none beyond the statement.)
-/
import Derived.Test.YtcemkpiopijbmaaCqNilM
set_option linter.all false
namespace Go.Proofs.Ytcemkpiopijbmaa
open Go.RowKit Go.SL Go.HpM
set_option maxHeartbeats 1000000
set_option maxRecDepth 20000
set_option linter.all false
theorem cf39 : cfn Try.prog 39 = true := by kernel_rfl
theorem cf40 : cfn Try.prog 40 = true := by kernel_rfl
theorem cf75 : cfn Try.prog 75 = true := by kernel_rfl
theorem sz42 : sz Try.prog 42 = some 1 := by kernel_rfl
theorem tk42 : tk Try.prog 42 = some none := by kernel_rfl
theorem ud97 : Try.prog.underlying 97 = some (.slice 42) := by kernel_rfl
theorem zr42 : zr Try.prog 42 = some [.pointer none] := by kernel_rfl
theorem Nil_ct {x y : Int}  : Ct Try.prog 8 [.int .i64 x, .int .i64 y] [] (fun _ : Unit => .bool true) (fun _ => []) := by
  refine Ct_body (n := 106) Try.func8 rfl rfl rfl fun F w0 Q hret hnorm hp => ?_
  change WC _ _ _ _ _ _ _ (F)
  refine WC_dfrs0 ?_
  refine WC_sr fun K1 hK1 => ?_
  refine WL_ac (Ac_alloc zr4) rfl rfl rfl ?_
  rintro _ _ ⟨b4, rfl, rfl⟩
  refine WL_end hK1 ?_
  refine WC_seq fun K2 hK2 => ?_
  refine WC_sr fun K3 hK3 => ?_
  refine WL_rd (Rd_build pls96 rfl) rfl rfl rfl ?_
  refine WL_ac (Ac_box (xs := [.int .i64 0, .int .i64 0, .pointer none]) rfl rfl) rfl rfl rfl ?_
  rintro _ _ ⟨c, rfl, rfl⟩
  refine WL_ac (Ac_bsL (f := eP) (zs := [.pointer none]) (bs := [.pointer none, .pointer none]) [none, some c] encP ud97 zr42 sz42 rfl (by rw [Array.toList_map, Array.toList_range]; rfl) (by rfl) (by rfl) (by rfl) (by rfl)) rfl rfl rfl ?_
  rintro _ _ ⟨bt, rfl, rfl⟩
  refine WL_rd (Rd_len rfl rfl ud97) rfl rfl rfl ?_
  refine WL_rd (Rd_move rfl) rfl rfl rfl ?_
  refine WL_end hK3 ?_
  refine WC_block ?_
  refine WC_loopKD (σ := Nat × (List Nat)) (fun ⟨i', Ds⟩ => [(22, .int .i64 ((i' : Nat) : Int))]) (fun ⟨i', Ds⟩ => [dfrs Ds]) (fun ⟨i', Ds⟩ => i' ≤ 2) (fun ⟨i', Ds⟩ => 2 - i') (fun ⟨i', Ds⟩ => Ds.map dmk) ⟨0, []⟩ [0, 1, 4, 20, 21, 105] (by repeat (first | exact Kep.nil | apply Kep.drop rfl | apply Kep.keep rfl)) (by (try dsimp only); repeat (first | with_reducible exact Gv.nil | (with_reducible apply Gv.cons; · (repeat (first | with_reducible exact Ext.here | with_reducible apply Ext.there))))) ?_ rfl ?_ Sub.refl ?_
  · (try dsimp only); omega
  · (try dsimp only); exact (Wk.cons (by first | rfl | (simp only [List.length_append, List.length_cons, List.length_nil, List.length_replicate, Nat.zero_add]; rfl) | (simp; done)) Wk.nil)
  · rintro ⟨i', Ds⟩ hi K4 hK4
    simp only [List.cons_append, List.nil_append]
    refine WC_sr fun K5 hK5 => ?_
    refine WL_rd (Rd_lssN rfl rfl) rfl rfl rfl ?_
    refine WL_end hK5 ?_
    refine WC_seq fun K6 hK6 => ?_
    refine WC_cond rfl (fun hc0 => ?_) (fun hc0 => ?_)
    · try simp only [decide_eq_true_eq, decide_eq_false_iff_not, Bool.not_eq_true', Bool.not_eq_false', Bool.not_eq_true, Bool.not_eq_false, Int.not_lt, Int.not_le, Nat.not_lt, Nat.not_le, Decidable.not_not, ne_eq] at hc0
      obtain ⟨p, hpp⟩ : ∃ p, [none, some c][i']? = some p := ⟨_, List.getElem?_eq_getElem (by show i' < 2; omega)⟩
      have hpc := two_of hpp
      refine WC_skip ?_
      refine Ps_next hK6 ?_
      refine WC_seq fun K7 hK7 => ?_
      refine WC_block ?_
      refine WC_sr fun K8 hK8 => ?_
      refine WL_rd (Rd_index i' rfl rfl ud97 sz42 (hj := by omega)) rfl rfl rfl ?_
      refine WL_rd (Rd_load_arr rfl tk42 (j := 0)) rfl rfl rfl ?_
      refine WL_rd (Rd_assign rfl) rfl rfl rfl ?_
      refine WL_end hK8 ?_
      refine WC_sr fun K9 hK9 => ?_
      refine WL_rd (Rd_move rfl) rfl rfl rfl ?_
      refine WL_rd (Rd_move rfl) rfl rfl rfl ?_
      refine WL_ac (Ac_call cf17 rfl (hs := cnSetP (c := c) (h := hpc))) rfl rfl rfl ?_
      rintro _ _ ⟨⟨⟩, rfl, hA⟩
      simp only [List.cons_append, List.nil_append] at hA
      replace hA := hA.symm
      subst hA
      refine WL_rd (Rd_move rfl) rfl rfl rfl ?_
      refine WL_rd (Rd_ext0 rfl) rfl rfl rfl ?_
      refine WL_rd (Rd_ext1 rfl) rfl rfl rfl ?_
      refine WL_rd (Rd_assign rfl) rfl rfl rfl ?_
      refine WL_rd (Rd_assign rfl) rfl rfl rfl ?_
      refine WL_end hK9 ?_
      refine WC_sr fun K10 hK10 => ?_
      refine WL_rd (Rd_move rfl) rfl rfl rfl ?_
      refine WL_rd (Rd_move rfl) rfl rfl rfl ?_
      refine WL_ac (Ac_call cf39 rfl (hs := cnDropP (c := c) (h := hpc))) rfl rfl rfl ?_
      rintro _ _ ⟨⟨⟩, rfl, hA⟩
      simp only [List.cons_append, List.nil_append] at hA
      replace hA := hA.symm
      subst hA
      refine WL_rd (Rd_move rfl) rfl rfl rfl ?_
      refine WL_rd (Rd_ext0 rfl) rfl rfl rfl ?_
      refine WL_rd (Rd_ext1 rfl) rfl rfl rfl ?_
      refine WL_rd (Rd_assign rfl) rfl rfl rfl ?_
      refine WL_rd (Rd_assign rfl) rfl rfl rfl ?_
      refine WL_end hK10 ?_
      refine WC_sr fun K11 hK11 => ?_
      refine WL_rd (Rd_move rfl) rfl rfl rfl ?_
      refine WL_ac (Ac_call cf20 rfl (hs := cnNextP (c := c) (h := hpc))) rfl rfl rfl ?_
      rintro _ _ ⟨⟨⟩, rfl, hA⟩
      simp only [List.cons_append, List.nil_append] at hA
      replace hA := hA.symm
      subst hA
      refine WL_rd (Rd_move rfl) rfl rfl rfl ?_
      refine WL_rd (Rd_ext0 rfl) rfl rfl rfl ?_
      refine WL_rd (Rd_ext1 rfl) rfl rfl rfl ?_
      refine WL_rd (Rd_assign rfl) rfl rfl rfl ?_
      refine WL_rd (Rd_assign rfl) rfl rfl rfl ?_
      refine WL_end hK11 ?_
      refine WC_sr fun K12 hK12 => ?_
      refine WL_rd (Rd_move rfl) rfl rfl rfl ?_
      refine WL_ac (Ac_call cf21 rfl (hs := cnTakeP (c := c) (h := hpc))) rfl rfl rfl ?_
      rintro _ _ ⟨⟨⟩, rfl, hA⟩
      simp only [List.cons_append, List.nil_append] at hA
      replace hA := hA.symm
      subst hA
      refine WL_rd (Rd_move rfl) rfl rfl rfl ?_
      refine WL_rd (Rd_ext0 rfl) rfl rfl rfl ?_
      refine WL_rd (Rd_ext1 rfl) rfl rfl rfl ?_
      refine WL_ac (Ac_alloc zr51) rfl rfl rfl ?_
      rintro _ _ ⟨b13, rfl, rfl⟩
      refine WL_ac0 (Ac_store rfl rfl sz51 (h1 := by simp [Value.cells, Value.oneCell', kS_h_itf])) rfl rfl ?_
      rintro _ _ rfl
      refine WL_rd (Rd_assign rfl) rfl rfl rfl ?_
      refine WL_end hK12 ?_
      refine WC_sr fun K13 hK13 => ?_
      refine WL_rd (Rd_move rfl) rfl rfl rfl ?_
      refine WL_rd (Rd_move rfl) rfl rfl rfl ?_
      refine WL_ac (Ac_call cf18 rfl (hs := cnUntilP (c := c) (h := hpc))) rfl rfl rfl ?_
      rintro _ _ ⟨⟨a51, cap51⟩, rfl, hA⟩
      simp only [List.cons_append, List.nil_append] at hA
      replace hA := hA.symm
      subst hA
      refine WL_rd (Rd_move rfl) rfl rfl rfl ?_
      refine WL_rd (Rd_ext0 rfl) rfl rfl rfl ?_
      refine WL_rd (Rd_ext1 rfl) rfl rfl rfl ?_
      refine WL_rd (Rd_assign rfl) rfl rfl rfl ?_
      refine WL_rd (Rd_assign rfl) rfl rfl rfl ?_
      refine WL_end hK13 ?_
      refine WC_seq fun K14 hK14 => ?_
      refine WC_sr fun K15 hK15 => ?_
      refine WL_rd (Rd_move rfl) rfl rfl rfl ?_
      refine WL_rd (Rd_neqN (i := 1) (j := 1) rfl rfl) rfl rfl rfl ?_
      refine WL_rd (Rd_move rfl) rfl rfl rfl ?_
      refine WL_rd (Rd_move rfl) rfl rfl rfl ?_
      refine WL_rd (Rd_neqN (i := 1) (j := 1) rfl rfl) rfl rfl rfl ?_
      refine WL_rd (Rd_pickF rfl rfl) rfl rfl rfl ?_
      refine WL_rd (Rd_move rfl) rfl rfl rfl ?_
      refine WL_rd (Rd_move rfl) rfl rfl rfl ?_
      refine WL_rd (Rd_neqN (i := 1) (j := 1) rfl rfl) rfl rfl rfl ?_
      refine WL_rd (Rd_pickF rfl rfl) rfl rfl rfl ?_
      refine WL_rd (Rd_move rfl) rfl rfl rfl ?_
      refine WL_rd (Rd_move rfl) rfl rfl rfl ?_
      refine WL_rd (Rd_neqN (i := 0) (j := 0) rfl rfl) rfl rfl rfl ?_
      refine WL_rd (Rd_pickF rfl rfl) rfl rfl rfl ?_
      refine WL_rd (Rd_move rfl) rfl rfl rfl ?_
      refine WL_rd (Rd_move rfl) rfl rfl rfl ?_
      refine WL_rd (Rd_neqN (i := 0) (j := 0) rfl rfl) rfl rfl rfl ?_
      refine WL_rd (Rd_pickF rfl rfl) rfl rfl rfl ?_
      refine WL_rd (Rd_move rfl) rfl rfl rfl ?_
      refine WL_rd (Rd_move rfl) rfl rfl rfl ?_
      refine WL_rd (Rd_pickF rfl rfl) rfl rfl rfl ?_
      refine WL_rd (Rd_move rfl) rfl rfl rfl ?_
      refine WL_rd (Rd_move rfl) rfl rfl rfl ?_
      refine WL_rd (Rd_pickF rfl rfl) rfl rfl rfl ?_
      refine WL_rd (Rd_move rfl) rfl rfl rfl ?_
      refine WL_rd (Rd_loadg rfl tk51) rfl rfl rfl ?_
      refine WL_rd (Rd_build pls51 rfl) rfl rfl rfl ?_
      refine WL_rd (Rd_isF (Rd_neS rfl rfl fls51 (EqL.sc tk3 rfl rfl (Eqs_int ud3 _ _) (EqL.sc tk3 rfl rfl (Eqs_int ud3 _ _) (EqL.sc tk45 rfl rfl (Eqs_int ud45 _ _) EqL.nil))))) rfl rfl rfl ?_
      refine WL_rd (Rd_pickF rfl rfl) rfl rfl rfl ?_
      refine WL_rd (Rd_move rfl) rfl rfl rfl ?_
      refine WL_rd (Rd_move rfl) rfl rfl rfl ?_
      refine WL_rd (Rd_len rfl rfl ud47) rfl rfl rfl ?_
      refine WL_rd (Rd_isF (Rd_neqN (j := 0) rfl rfl)) rfl rfl rfl ?_
      refine WL_rd (Rd_pickF rfl rfl) rfl rfl rfl ?_
      refine WL_rd (Rd_move rfl) rfl rfl rfl ?_
      refine WL_rd (Rd_move rfl) rfl rfl rfl ?_
      refine WL_ac (Ac_call cf19 rfl (hs := cnNowP (c := c) (h := hpc))) rfl rfl rfl ?_
      rintro _ _ ⟨⟨⟩, rfl, hA⟩
      simp only [List.cons_append, List.nil_append] at hA
      replace hA := hA.symm
      subst hA
      refine WL_rd (Rd_neqN (i := 0) (j := 0) rfl rfl) rfl rfl rfl ?_
      refine WL_rd (Rd_pickF rfl rfl) rfl rfl rfl ?_
      refine WL_rd (Rd_move rfl) rfl rfl rfl ?_
      refine WL_rd (Rd_move rfl) rfl rfl rfl ?_
      refine WL_ac (Ac_call cf22 rfl (hs := cnLenP (c := c) (h := hpc))) rfl rfl rfl ?_
      rintro _ _ ⟨⟨⟩, rfl, hA⟩
      simp only [List.cons_append, List.nil_append] at hA
      replace hA := hA.symm
      subst hA
      refine WL_rd (Rd_neqN (i := 0) (j := 0) rfl rfl) rfl rfl rfl ?_
      refine WL_rd (Rd_pickF rfl rfl) rfl rfl rfl ?_
      refine WL_end hK15 ?_
      refine WC_condF rfl ?_
      refine WC_skip ?_
      refine Ps_next hK14 ?_
      refine WC_sr fun K16 hK16 => ?_
      refine WL_rd (Rd_move rfl) rfl rfl rfl ?_
      refine WL_ac (Ac_call cf40 rfl (hs := cnAllP (c := c) (h := hpc))) rfl rfl rfl ?_
      rintro _ _ ⟨⟨⟩, rfl, hA⟩
      simp only [List.cons_append, List.nil_append] at hA
      replace hA := hA.symm
      subst hA
      refine WL_rd (Rd_assign rfl) rfl rfl rfl ?_
      refine WL_end hK16 ?_
      refine WC_seq fun K17 hK17 => ?_
      refine WC_sr fun K18 hK18 => ?_
      refine WL_rd (Rd_move rfl) rfl rfl rfl ?_
      first | refine WL_rd (Rd_feq rfl rfl Try.underlying101) rfl rfl rfl ?_ | refine WL_rd (Rd_feq0 rfl rfl Try.underlying101) rfl rfl rfl ?_
      refine WL_end hK18 ?_
      refine WC_condF rfl ?_
      refine WC_skip ?_
      refine Ps_next hK17 ?_
      refine WC_sr fun K19 hK19 => ?_
      refine WL_rd (Rd_move rfl) rfl rfl rfl ?_
      refine WL_end hK19 ?_
      refine WC_block ?_
      refine WC_rf (f := 75) (caps := []) rfl cf75 fun lrf_0 Drf_0 rrf_0 hstrf_0 hpdrf_0 hparf_0 hasrf_0 hbdrf_0 hfrrf_0 => ?_
      have hyrf_0 : ∀ (_u : Unit) (q : Value), False → Yd Try.prog lrf_0 [q] [(fun (_i : Unit) => exA (fun (_u : Unit) => True) (fun (_u : Unit) => [lp lrf_0 rrf_0])) ()] (fun b : Bool => .bool b) (fun b => [bif b then (fun (_i : Unit) => exA (fun (_u : Unit) => True) (fun (_u : Unit) => [lp lrf_0 rrf_0])) (()) else (exA (fun _ : Unit => False) (fun _ => []))]) := by
        intro _u q hno
        exact hno.elim
      refine ⟨_, _, _, _, _, cl_all1_ct.frame [(fun (_i : Unit) => exA (fun (_u : Unit) => True) (fun (_u : Unit) => [lp lrf_0 rrf_0])) ()], imp_rf (Y := []) ((())) (trivial) (by repeat (first | with_reducible exact Gv.nil | (with_reducible apply Gv.cons; · (repeat (first | with_reducible exact Ext.here | with_reducible apply Ext.there))))) (by (try dsimp only); repeat (first | with_reducible exact Gv.nil | (with_reducible apply Gv.cons; · (repeat (first | with_reducible exact Ext.here | with_reducible apply Ext.there))))), ?_⟩
      · rintro ⟨⟩
        · simp only [List.cons_append, List.nil_append, cond_true, cond_false]
          refine RfEnd_ex ?_
          rintro _u hφ
          simp only [List.cons_append, List.nil_append]
          refine RfEnd_nrm hstrf_0 hpdrf_0 ?_
          refine Ps_next hK7 ?_
          refine WC_region ?_
          refine WL_rd (Rd_addN (j := 1) rfl rfl) rfl rfl rfl ?_
          refine WL_rd (Rd_move rfl) rfl rfl rfl ?_
          refine WL_nil ?_
          refine Ps_dfrs (D := Drf_0) ?_
          refine Ps_wk (by (try simp only [List.cons_append, List.nil_append]); repeat (first | with_reducible exact Wk.nil | refine Wk.cons (by first | rfl | (simp only [List.length_append, List.length_cons, List.length_nil, List.length_replicate, Nat.zero_add]; rfl) | (simp; done)) ?_)) (by (try simp only [List.cons_append, List.nil_append]); repeat (first | with_reducible exact Sub.refl | with_reducible exact Sub.nil | with_reducible refine Sub.cons (by repeat (first | with_reducible exact Ext.here | with_reducible apply Ext.there)) ?_ | with_reducible refine Sub.tail ?_)) (hK4 ⟨i' + 1, Drf_0 :: Ds⟩ (by dsimp only; omega) (by dsimp only; omega))
    · try simp only [decide_eq_true_eq, decide_eq_false_iff_not, Bool.not_eq_true', Bool.not_eq_false', Bool.not_eq_true, Bool.not_eq_false, Int.not_lt, Int.not_le, Nat.not_lt, Nat.not_le, Decidable.not_not, ne_eq] at hc0
      refine WC_exit ?_
      refine Ps_next hK2 ?_
      refine WC_sr fun K20 hK20 => ?_
      refine WL_ac (Ac_call cf10 rfl (hs := awake_ct)) rfl rfl rfl ?_
      rintro _ _ ⟨⟨⟩, rfl, hA⟩
      simp only [List.cons_append, List.nil_append] at hA
      replace hA := hA.symm
      subst hA
      refine WL_ac0 (Ac_store1 rfl rfl sz4) rfl rfl ?_
      rintro _ _ rfl
      refine WL_end hK20 ?_
      refine WC_ret ?_
      refine hret.goSE () ?_ rfl
      exact Rs1cs rfl rfl tk4
end Go.Proofs.Ytcemkpiopijbmaa
