/-
  Contracts of functions that the claim reaches, or the logic and the plain laws that they rest on, or the row over them. (Conditions: none beyond the statement.)
-/
import Derived.Test.YthkchjcodibaeaaZqTreeC
import Derived.Test.YthkchjcodibaeaaTrLaw2
set_option linter.all false
namespace Go.Proofs.Ythkchjcodibaeaa
open Go.RowKit Go.SL Go.ShM
set_option maxHeartbeats 1000000
set_option maxRecDepth 20000
set_option linter.all false
theorem cf55 : cfn Try.prog 55 = true := by kernel_rfl
theorem cf56 : cfn Try.prog 56 = true := by kernel_rfl
theorem cf57 : cfn Try.prog 57 = true := by kernel_rfl
theorem cf58 : cfn Try.prog 58 = true := by kernel_rfl
theorem two_ct {x y : List B8} (hx : x.length = 32 := by first | with_reducible assumption | omega) (hy : y.length = 32 := by first | with_reducible assumption | omega) : Ct Try.prog 58 [aU .u8 x, aU .u8 y] [] (fun g : Option Nat × Nat => sl g.1 (tagB 6#8 [x, y]).length g.2) (fun g => [arr g.1 g.2 1 5 (eU .u8) (tagB 6#8 [x, y])]) := by
  refine Ct_body (n := 15) Try.func58 rfl rfl rfl fun F w0 Q hret hnorm hp => ?_
  change WC _ _ _ _ _ _ _ (F)
  refine WC_sr fun K1 hK1 => ?_
  refine WL_ac (Ac_boxW (k := .u8) rfl) rfl rfl rfl ?_
  rintro _ _ ⟨b2, rfl, rfl⟩
  refine WL_ac (Ac_boxW (k := .u8) rfl) rfl rfl rfl ?_
  rintro _ _ ⟨b3, rfl, rfl⟩
  refine WL_rd (Rd_assign (v := sl none 0 0) rfl) rfl rfl rfl ?_
  refine WL_end hK1 ?_
  refine WC_seq fun K2 hK2 => ?_
  refine WC_drawA mix (fun i => ([2, 2, 1, 1, 2, 2, 2, 2, 2] : List Nat).getD i 0) ?_
  refine WJ_takeP 0 rfl (by kernel_rfl) (Rd_valE (v := sl (some b2) x.length x.length) (Rd_sliceA0 rfl ud42 sz5) (by rw [hx])) rfl rfl rfl (hp _ _) ?_
  refine WJ_takeP 1 rfl (by kernel_rfl) (Rd_valE (v := sl (some b3) y.length y.length) (Rd_sliceA0 rfl ud42 sz5) (by rw [hy])) rfl rfl rfl (hp _ _) ?_
  refine WJ_all (rs := [2]) (by kernel_rfl) rfl ?_
  refine WI_one ?_
  refine WI_ac rfl (Ac_bsL (f := fP) (zs := [.slice none 0 0]) (bs := [.slice none 0 0, .slice none 0 0]) [(⟨x, some ⟨b2, 0, none⟩, x.length⟩ : Pt), (⟨y, some ⟨b3, 0, none⟩, y.length⟩ : Pt)] encP ud27 zr32 sz32 rfl (by rw [Array.toList_map, Array.toList_range]; rfl) (by rfl) (by rfl) (by rfl) (by rfl)) rfl rfl rfl rfl ?_
  rintro _ _ ⟨b10, rfl, rfl⟩
  refine ⟨(fun _ => (by repeat (first | with_reducible exact Sub.refl | with_reducible exact Sub.nil | with_reducible refine Sub.cons (by repeat (first | with_reducible exact Ext.here | with_reducible apply Ext.there)) ?_ | with_reducible refine Sub.tail ?_))), ?_⟩
  refine WJ_all (rs := [3]) (by kernel_rfl) rfl ?_
  refine WI_one ?_
  have hp0 : RdP [arr (some b2) x.length 1 42 (eU .u8 (w := 8)) x] (⟨x, some ⟨b2, 0, none⟩, x.length⟩ : Pt) := by have h := Sv_own' (a := some b2) (cap := x.length) (T := 42) (encU .u8 (w := 8)) (l := x) (by simp) (Nat.le_refl _); exact h
  have hp1 : RdP [arr (some b3) y.length 1 42 (eU .u8 (w := 8)) y] (⟨y, some ⟨b3, 0, none⟩, y.length⟩ : Pt) := by have h := Sv_own' (a := some b3) (cap := y.length) (T := 42) (encU .u8 (w := 8)) (l := y) (by simp) (Nat.le_refl _); exact h
  have hL : Sv [arr (some b10) 2 1 32 fP [(⟨x, some ⟨b2, 0, none⟩, x.length⟩ : Pt), (⟨y, some ⟨b3, 0, none⟩, y.length⟩ : Pt)]] (sl (some b10) 2 2) 1 fP [(⟨x, some ⟨b2, 0, none⟩, x.length⟩ : Pt), (⟨y, some ⟨b3, 0, none⟩, y.length⟩ : Pt)] (some ⟨b10, 0, none⟩) 2 := Sv_own' (a := some b10) (cap := 2) (T := 32) encP (l := [(⟨x, some ⟨b2, 0, none⟩, x.length⟩ : Pt), (⟨y, some ⟨b3, 0, none⟩, y.length⟩ : Pt)]) (by simp) (Nat.le_refl 2)
  have hmp : ([(⟨x, some ⟨b2, 0, none⟩, x.length⟩ : Pt), (⟨y, some ⟨b3, 0, none⟩, y.length⟩ : Pt)].map (·.l)) = [x, y] := rfl
  have hjl : (joinP [(⟨x, some ⟨b2, 0, none⟩, x.length⟩ : Pt), (⟨y, some ⟨b3, 0, none⟩, y.length⟩ : Pt)]).length = x.length + y.length := by simp [joinP]
  refine WI_ac rfl (Ac_call cf100 rfl (hs := Ct.un0 (Xs := [arr (some b10) 2 1 32 fP [(⟨x, some ⟨b2, 0, none⟩, x.length⟩ : Pt), (⟨y, some ⟨b3, 0, none⟩, y.length⟩ : Pt)], arr (some b2) x.length 1 42 (eU .u8 (w := 8)) x, arr (some b3) y.length 1 42 (eU .u8 (w := 8)) y]) (bytesR_ct (t := 6#8) (X := sep [arr (some b10) 2 1 32 fP [(⟨x, some ⟨b2, 0, none⟩, x.length⟩ : Pt), (⟨y, some ⟨b3, 0, none⟩, y.length⟩ : Pt)], arr (some b2) x.length 1 42 (eU .u8 (w := 8)) x, arr (some b3) y.length 1 42 (eU .u8 (w := 8)) y]) (ps := [(⟨x, some ⟨b2, 0, none⟩, x.length⟩ : Pt), (⟨y, some ⟨b3, 0, none⟩, y.length⟩ : Pt)]) (hS := hL.pk (by repeat (first | with_reducible exact Has.here | with_reducible refine Has.there ?_))) (hP := List.forall_mem_cons.2 ⟨hp0.pk (by repeat (first | with_reducible exact Has.here | with_reducible refine Has.there ?_)), List.forall_mem_cons.2 ⟨hp1.pk (by repeat (first | with_reducible exact Has.here | with_reducible refine Has.there ?_)), by simp⟩⟩) (hn := by rw [hjl]; omega) (hk := by show 2 ≤ _; omega)))) rfl rfl rfl rfl ?_
  rintro _ _ ⟨⟨a11, cap11⟩, rfl, hA⟩
  simp only [List.cons_append, List.nil_append] at hA
  replace hA := hA.symm
  subst hA
  rw [hmp]
  refine ⟨(fun _ => (by repeat (first | with_reducible exact Sub.refl | with_reducible exact Sub.nil | with_reducible refine Sub.cons (by repeat (first | with_reducible exact Ext.here | with_reducible apply Ext.there)) ?_ | with_reducible refine Sub.tail ?_))), ?_⟩
  refine WJ_takeP 4 rfl (by kernel_rfl) (Rd_move rfl) rfl rfl rfl (hp _ _) ?_
  refine WJ_takeP 5 rfl (by kernel_rfl) (Rd_ext0 rfl) rfl rfl rfl (hp _ _) ?_
  refine WJ_takeP 6 rfl (by kernel_rfl) (Rd_ext1 rfl) rfl rfl rfl (hp _ _) ?_
  refine WJ_takeP 7 rfl (by kernel_rfl) (Rd_assign rfl) rfl rfl rfl (hp _ _) ?_
  refine WJ_takeP 8 rfl (by kernel_rfl) (Rd_assign rfl) rfl rfl rfl (hp _ _) ?_
  refine WJ_done (by kernel_rfl) ?_
  refine Ps_next hK2 ?_
  refine WC_sr fun K3 hK3 => ?_
  refine WL_rd (Rd_move rfl) rfl rfl rfl ?_
  refine WL_rd (Rd_assign rfl) rfl rfl rfl ?_
  refine WL_end hK3 ?_
  refine WC_ret ?_
  exact hret.go (a11, cap11) (Rs1 rfl rfl)

theorem clash_ct {X : Asn} {v v' : Value} {l l' : List B8} {ao ao' : Option Addr} {cap cap' : Nat} (hS : Sv [X] v 1 (eU .u8 (w := 8)) l ao cap := by assumption) (hS' : Sv [X] v' 1 (eU .u8 (w := 8)) l' ao' cap' := by assumption) (hl : l.length ≤ 900000000000 := by omega) (hl' : l'.length ≤ 900000000000 := by omega) : Ct Try.prog 57 [v, v'] [X] (fun _ : Unit => .bool (clB l l')) (fun _ => [X]) := by
  refine Ct_body (n := 16) Try.func57 rfl rfl rfl fun F w0 Q hret hnorm hp => ?_
  change WC _ _ _ _ _ _ _ (_ :: F)
  have hd1 := dgM_len l
  have hd2 := dgM_len l'
  refine WC_sr fun K1 hK1 => ?_
  refine WL_rd (Rd_assign rfl) rfl rfl rfl ?_
  refine WL_end hK1 ?_
  refine WC_sr fun K2 hK2 => ?_
  refine WL_rd (Rd_move rfl) rfl rfl rfl ?_
  refine WL_rd (Rd_move rfl) rfl rfl rfl ?_
  refine WL_ac (Ac_call cf50 rfl (hs := same_ct (X := X) (l := l) (l' := l') (hS := hS) (hS' := hS'))) rfl rfl rfl ?_
  rintro _ _ ⟨⟨⟩, rfl, hA⟩
  simp only [List.cons_append, List.nil_append] at hA
  replace hA := hA.symm
  subst hA
  refine WL_rd (Rd_not rfl) rfl rfl rfl ?_
  refine WL_rd (Rd_move rfl) rfl rfl rfl ?_
  refine WL_bool 9 rfl (fun hg3 => ?_) (fun hg3 => ?_)
  · try simp only [decide_eq_true_eq, decide_eq_false_iff_not, Bool.not_eq_true', Bool.not_eq_false', Bool.not_eq_true, Bool.not_eq_false, Int.not_lt, Int.not_le, Nat.not_lt, Nat.not_le, Decidable.not_not, ne_eq] at hg3
    have q0 := hg3
    refine WL_rd (Rd_move rfl) rfl rfl rfl ?_
    refine WL_ac (Ac_call cf43 rfl (hs := sumR_ct (X := X) (l := l) (hS := hS))) rfl rfl rfl ?_
    rintro _ _ ⟨⟨⟩, rfl, hA⟩
    simp only [List.cons_append, List.nil_append] at hA
    replace hA := hA.symm
    subst hA
    refine WL_rd (Rd_move rfl) rfl rfl rfl ?_
    refine WL_ac (Ac_call cf43 rfl (hs := sumR_ct (X := X) (l := l') (hS := hS'))) rfl rfl rfl ?_
    rintro _ _ ⟨⟨⟩, rfl, hA⟩
    simp only [List.cons_append, List.nil_append] at hA
    replace hA := hA.symm
    subst hA
    refine WL_rd (Rd_eqW rfl rfl ais42) rfl rfl rfl ?_
    refine WL_rd (Rd_pickT rfl rfl) rfl rfl rfl ?_
    refine WL_rd (Rd_assign rfl) rfl rfl rfl ?_
    refine WL_end hK2 ?_
    refine WC_ret ?_
    exact hret.goE () (Rs1 rfl rfl) (by unfold clB; first | rw [decide_eq_true (p := ¬ l = l') (by simpa using q0), Bool.true_and] | rw [decide_eq_false (p := ¬ l = l') (by simpa using q0), Bool.false_and])
  · try simp only [decide_eq_true_eq, decide_eq_false_iff_not, Bool.not_eq_true', Bool.not_eq_false', Bool.not_eq_true, Bool.not_eq_false, Int.not_lt, Int.not_le, Nat.not_lt, Nat.not_le, Decidable.not_not, ne_eq] at hg3
    have q0 := hg3
    refine WL_skip rfl rfl rfl ?_
    refine WL_skip rfl rfl rfl ?_
    refine WL_skip rfl rfl rfl ?_
    refine WL_skip rfl rfl rfl ?_
    refine WL_skip rfl rfl rfl ?_
    refine WL_rd (Rd_pickF rfl rfl) rfl rfl rfl ?_
    refine WL_rd (Rd_assign rfl) rfl rfl rfl ?_
    refine WL_end hK2 ?_
    refine WC_ret ?_
    exact hret.goE () (Rs1 rfl rfl) (by unfold clB; first | rw [decide_eq_true (p := ¬ l = l') (by simpa using q0), Bool.true_and] | rw [decide_eq_false (p := ¬ l = l') (by simpa using q0), Bool.false_and])

theorem TreeDiffers_ct {X : Asn} {v v' : Value} {a b : List Dg} {ao ao' : Option Addr} {cap cap' : Nat} (hS : Sv [X] v 32 fD a ao cap := by assumption) (hS' : Sv [X] v' 32 fD b ao' cap' := by assumption) (hl : a.length ≤ 900000000000 := by omega) (hl' : b.length ≤ 900000000000 := by omega) : Ct Try.prog 13 [v, v'] [X] (fun _ : Unit => .bool true) (fun _ => [X]) := by
  refine Ct_body (n := 132) Try.func13 rfl rfl rfl fun F w0 Q hret hnorm hp => ?_
  change WC _ _ _ _ _ _ _ (_ :: F)
  have hA : wdE a.length = 0 → (bldM a).length = 2 * wdM a.length - 1 ∧ 1 ≤ wdM a.length ∧ wdM a.length ≤ 512 := fun h => ⟨bld_len h, by have := wdE_iff.1 h; have := wd_ok this.1 this.2; omega, by have := wdE_iff.1 h; have := wd_ok this.1 this.2; omega⟩
  have hB : wdE b.length = 0 → (bldM b).length = 2 * wdM b.length - 1 := fun h => bld_len h
  have hW : a.length = b.length → wdM a.length = wdM b.length := fun h => by rw [h]
  refine WC_sr fun K1 hK1 => ?_
  refine WL_rd (Rd_assign rfl) rfl rfl rfl ?_
  refine WL_end hK1 ?_
  refine WC_seq fun K2 hK2 => ?_
  refine WC_sr fun K3 hK3 => ?_
  refine WL_ac (Ac_call cf53 rfl (hs := trlives_ct)) rfl rfl rfl ?_
  rintro _ _ ⟨⟨⟩, rfl, hA⟩
  simp only [List.cons_append, List.nil_append] at hA
  replace hA := hA.symm
  subst hA
  refine WL_rd (Rd_not rfl) rfl rfl rfl ?_
  refine WL_end hK3 ?_
  refine WC_condF rfl ?_
  refine WC_skip ?_
  refine Ps_next hK2 ?_
  refine WC_sr fun K4 hK4 => ?_
  refine WL_rd (Rd_move rfl) rfl rfl rfl ?_
  refine WL_ac (Ac_call cf54 rfl (hs := build_ct (X := X) (ls := a) (hS := hS))) rfl rfl rfl ?_
  rintro _ _ ⟨⟨a15, cap15⟩, rfl, hA⟩
  simp only [List.cons_append, List.nil_append] at hA
  replace hA := hA.symm
  subst hA
  refine WL_rd (Rd_move rfl) rfl rfl rfl ?_
  refine WL_rd (Rd_ext0 rfl) rfl rfl rfl ?_
  refine WL_rd (Rd_ext1 rfl) rfl rfl rfl ?_
  refine WL_rd (Rd_assign rfl) rfl rfl rfl ?_
  refine WL_rd (Rd_assign rfl) rfl rfl rfl ?_
  refine WL_end hK4 ?_
  refine WC_sr fun K5 hK5 => ?_
  refine WL_rd (Rd_move rfl) rfl rfl rfl ?_
  refine WL_ac (Ac_call cf54 rfl (hs := build_ct (X := X) (ls := b) (hS := hS'))) rfl rfl rfl ?_
  rintro _ _ ⟨⟨a20, cap20⟩, rfl, hA⟩
  simp only [List.cons_append, List.nil_append] at hA
  replace hA := hA.symm
  subst hA
  refine WL_rd (Rd_move rfl) rfl rfl rfl ?_
  refine WL_rd (Rd_ext0 rfl) rfl rfl rfl ?_
  refine WL_rd (Rd_ext1 rfl) rfl rfl rfl ?_
  refine WL_rd (Rd_assign rfl) rfl rfl rfl ?_
  refine WL_rd (Rd_assign rfl) rfl rfl rfl ?_
  refine WL_end hK5 ?_
  refine WC_seq fun K6 hK6 => ?_
  refine WC_sr fun K7 hK7 => ?_
  refine WL_rd (Rd_move rfl) rfl rfl rfl ?_
  refine WL_rd (Rd_neqN (j := 0) rfl rfl) rfl rfl rfl ?_
  refine WL_rd (Rd_move rfl) rfl rfl rfl ?_
  refine WL_bool 25 rfl (fun hg8 => ?_) (fun hg8 => ?_)
  · try simp only [decide_eq_true_eq, decide_eq_false_iff_not, Bool.not_eq_true', Bool.not_eq_false', Bool.not_eq_true, Bool.not_eq_false, Int.not_lt, Int.not_le, Nat.not_lt, Nat.not_le, Decidable.not_not, ne_eq] at hg8
    refine WL_skip rfl rfl rfl ?_
    refine WL_skip rfl rfl rfl ?_
    refine WL_rd (Rd_pickT rfl rfl) rfl rfl rfl ?_
    refine WL_rd (Rd_move rfl) rfl rfl rfl ?_
    refine WL_skip rfl rfl rfl ?_
    refine WL_skip rfl rfl rfl ?_
    refine WL_skip rfl rfl rfl ?_
    refine WL_skip rfl rfl rfl ?_
    refine WL_skip rfl rfl rfl ?_
    refine WL_rd (Rd_pickT rfl rfl) rfl rfl rfl ?_
    refine WL_rd (Rd_move rfl) rfl rfl rfl ?_
    refine WL_skip rfl rfl rfl ?_
    refine WL_skip rfl rfl rfl ?_
    refine WL_skip rfl rfl rfl ?_
    refine WL_rd (Rd_pickT rfl rfl) rfl rfl rfl ?_
    refine WL_rd (Rd_move rfl) rfl rfl rfl ?_
    refine WL_skip rfl rfl rfl ?_
    refine WL_skip rfl rfl rfl ?_
    refine WL_skip rfl rfl rfl ?_
    refine WL_skip rfl rfl rfl ?_
    refine WL_skip rfl rfl rfl ?_
    refine WL_rd (Rd_pickT rfl rfl) rfl rfl rfl ?_
    refine WL_end hK7 ?_
    refine WC_condT rfl ?_
    refine WC_sr fun K9 hK9 => ?_
    refine WL_rd (Rd_move rfl) rfl rfl rfl ?_
    refine WL_rd (Rd_neqN (j := 0) rfl rfl) rfl rfl rfl ?_
    refine WL_rd (Rd_move rfl) rfl rfl rfl ?_
    refine WL_bool 50 rfl (fun hg10 => ?_) (fun hg10 => ?_)
    · try simp only [decide_eq_true_eq, decide_eq_false_iff_not, Bool.not_eq_true', Bool.not_eq_false', Bool.not_eq_true, Bool.not_eq_false, Int.not_lt, Int.not_le, Nat.not_lt, Nat.not_le, Decidable.not_not, ne_eq] at hg10
      refine WL_skip rfl rfl rfl ?_
      refine WL_skip rfl rfl rfl ?_
      refine WL_rd (Rd_pickT rfl rfl) rfl rfl rfl ?_
      refine WL_rd (Rd_move rfl) rfl rfl rfl ?_
      refine WL_skip rfl rfl rfl ?_
      refine WL_skip rfl rfl rfl ?_
      refine WL_skip rfl rfl rfl ?_
      refine WL_skip rfl rfl rfl ?_
      refine WL_skip rfl rfl rfl ?_
      refine WL_rd (Rd_pickT rfl rfl) rfl rfl rfl ?_
      refine WL_rd (Rd_assign rfl) rfl rfl rfl ?_
      refine WL_end hK9 ?_
      refine WC_ret ?_
      first | exact hret.go () (Rs1 rfl rfl) | exact hret.goE () (Rs1 rfl rfl) (by congr 1; simp; omega) | exact hret.goE () (Rs1 rfl rfl) (by rw [hsm]; simp) | (exfalso; omega)
    · try simp only [decide_eq_true_eq, decide_eq_false_iff_not, Bool.not_eq_true', Bool.not_eq_false', Bool.not_eq_true, Bool.not_eq_false, Int.not_lt, Int.not_le, Nat.not_lt, Nat.not_le, Decidable.not_not, ne_eq] at hg10
      refine WL_rd (Rd_move rfl) rfl rfl rfl ?_
      refine WL_rd (Rd_neqN (j := 0) rfl rfl) rfl rfl rfl ?_
      refine WL_rd (Rd_pickF rfl rfl) rfl rfl rfl ?_
      refine WL_rd (Rd_move rfl) rfl rfl rfl ?_
      refine WL_bool 54 rfl (fun hg11 => ?_) (fun hg11 => ?_)
      · try simp only [decide_eq_true_eq, decide_eq_false_iff_not, Bool.not_eq_true', Bool.not_eq_false', Bool.not_eq_true, Bool.not_eq_false, Int.not_lt, Int.not_le, Nat.not_lt, Nat.not_le, Decidable.not_not, ne_eq] at hg11
        refine WL_skip rfl rfl rfl ?_
        refine WL_skip rfl rfl rfl ?_
        refine WL_skip rfl rfl rfl ?_
        refine WL_skip rfl rfl rfl ?_
        refine WL_skip rfl rfl rfl ?_
        refine WL_rd (Rd_pickT rfl rfl) rfl rfl rfl ?_
        refine WL_rd (Rd_assign rfl) rfl rfl rfl ?_
        refine WL_end hK9 ?_
        refine WC_ret ?_
        first | exact hret.go () (Rs1 rfl rfl) | exact hret.goE () (Rs1 rfl rfl) (by congr 1; simp; omega) | exact hret.goE () (Rs1 rfl rfl) (by rw [hsm]; simp) | (exfalso; omega)
      · try simp only [decide_eq_true_eq, decide_eq_false_iff_not, Bool.not_eq_true', Bool.not_eq_false', Bool.not_eq_true, Bool.not_eq_false, Int.not_lt, Int.not_le, Nat.not_lt, Nat.not_le, Decidable.not_not, ne_eq] at hg11
        refine WL_rd (Rd_move rfl) rfl rfl rfl ?_
        refine WL_rd (Rd_len_sv rfl rfl ud76) rfl rfl rfl ?_
        refine WL_rd (Rd_move rfl) rfl rfl rfl ?_
        refine WL_rd (Rd_len_sv rfl rfl ud76) rfl rfl rfl ?_
        refine WL_rd (Rd_neqN rfl rfl) rfl rfl rfl ?_
        refine WL_rd (Rd_pickF rfl rfl) rfl rfl rfl ?_
        refine WL_rd (Rd_assign rfl) rfl rfl rfl ?_
        refine WL_end hK9 ?_
        refine WC_ret ?_
        first | exact hret.go () (Rs1 rfl rfl) | exact hret.goE () (Rs1 rfl rfl) (by congr 1; simp; omega) | exact hret.goE () (Rs1 rfl rfl) (by rw [hsm]; simp) | (exfalso; omega)
  · try simp only [decide_eq_true_eq, decide_eq_false_iff_not, Bool.not_eq_true', Bool.not_eq_false', Bool.not_eq_true, Bool.not_eq_false, Int.not_lt, Int.not_le, Nat.not_lt, Nat.not_le, Decidable.not_not, ne_eq] at hg8
    refine WL_rd (Rd_move rfl) rfl rfl rfl ?_
    refine WL_rd (Rd_neqN (j := 0) rfl rfl) rfl rfl rfl ?_
    refine WL_rd (Rd_pickF rfl rfl) rfl rfl rfl ?_
    refine WL_rd (Rd_move rfl) rfl rfl rfl ?_
    refine WL_bool 29 rfl (fun hg12 => ?_) (fun hg12 => ?_)
    · try simp only [decide_eq_true_eq, decide_eq_false_iff_not, Bool.not_eq_true', Bool.not_eq_false', Bool.not_eq_true, Bool.not_eq_false, Int.not_lt, Int.not_le, Nat.not_lt, Nat.not_le, Decidable.not_not, ne_eq] at hg12
      refine WL_skip rfl rfl rfl ?_
      refine WL_skip rfl rfl rfl ?_
      refine WL_skip rfl rfl rfl ?_
      refine WL_skip rfl rfl rfl ?_
      refine WL_skip rfl rfl rfl ?_
      refine WL_rd (Rd_pickT rfl rfl) rfl rfl rfl ?_
      refine WL_rd (Rd_move rfl) rfl rfl rfl ?_
      refine WL_skip rfl rfl rfl ?_
      refine WL_skip rfl rfl rfl ?_
      refine WL_skip rfl rfl rfl ?_
      refine WL_rd (Rd_pickT rfl rfl) rfl rfl rfl ?_
      refine WL_rd (Rd_move rfl) rfl rfl rfl ?_
      refine WL_skip rfl rfl rfl ?_
      refine WL_skip rfl rfl rfl ?_
      refine WL_skip rfl rfl rfl ?_
      refine WL_skip rfl rfl rfl ?_
      refine WL_skip rfl rfl rfl ?_
      refine WL_rd (Rd_pickT rfl rfl) rfl rfl rfl ?_
      refine WL_end hK7 ?_
      refine WC_condT rfl ?_
      refine WC_sr fun K13 hK13 => ?_
      refine WL_rd (Rd_move rfl) rfl rfl rfl ?_
      refine WL_rd (Rd_neqN (j := 0) rfl rfl) rfl rfl rfl ?_
      refine WL_rd (Rd_move rfl) rfl rfl rfl ?_
      refine WL_bool 50 rfl (fun hg14 => ?_) (fun hg14 => ?_)
      · try simp only [decide_eq_true_eq, decide_eq_false_iff_not, Bool.not_eq_true', Bool.not_eq_false', Bool.not_eq_true, Bool.not_eq_false, Int.not_lt, Int.not_le, Nat.not_lt, Nat.not_le, Decidable.not_not, ne_eq] at hg14
        refine WL_skip rfl rfl rfl ?_
        refine WL_skip rfl rfl rfl ?_
        refine WL_rd (Rd_pickT rfl rfl) rfl rfl rfl ?_
        refine WL_rd (Rd_move rfl) rfl rfl rfl ?_
        refine WL_skip rfl rfl rfl ?_
        refine WL_skip rfl rfl rfl ?_
        refine WL_skip rfl rfl rfl ?_
        refine WL_skip rfl rfl rfl ?_
        refine WL_skip rfl rfl rfl ?_
        refine WL_rd (Rd_pickT rfl rfl) rfl rfl rfl ?_
        refine WL_rd (Rd_assign rfl) rfl rfl rfl ?_
        refine WL_end hK13 ?_
        refine WC_ret ?_
        first | exact hret.go () (Rs1 rfl rfl) | exact hret.goE () (Rs1 rfl rfl) (by congr 1; simp; omega) | exact hret.goE () (Rs1 rfl rfl) (by rw [hsm]; simp) | (exfalso; omega)
      · try simp only [decide_eq_true_eq, decide_eq_false_iff_not, Bool.not_eq_true', Bool.not_eq_false', Bool.not_eq_true, Bool.not_eq_false, Int.not_lt, Int.not_le, Nat.not_lt, Nat.not_le, Decidable.not_not, ne_eq] at hg14
        refine WL_rd (Rd_move rfl) rfl rfl rfl ?_
        refine WL_rd (Rd_neqN (j := 0) rfl rfl) rfl rfl rfl ?_
        refine WL_rd (Rd_pickF rfl rfl) rfl rfl rfl ?_
        refine WL_rd (Rd_move rfl) rfl rfl rfl ?_
        refine WL_bool 54 rfl (fun hg15 => ?_) (fun hg15 => ?_)
        · try simp only [decide_eq_true_eq, decide_eq_false_iff_not, Bool.not_eq_true', Bool.not_eq_false', Bool.not_eq_true, Bool.not_eq_false, Int.not_lt, Int.not_le, Nat.not_lt, Nat.not_le, Decidable.not_not, ne_eq] at hg15
          refine WL_skip rfl rfl rfl ?_
          refine WL_skip rfl rfl rfl ?_
          refine WL_skip rfl rfl rfl ?_
          refine WL_skip rfl rfl rfl ?_
          refine WL_skip rfl rfl rfl ?_
          refine WL_rd (Rd_pickT rfl rfl) rfl rfl rfl ?_
          refine WL_rd (Rd_assign rfl) rfl rfl rfl ?_
          refine WL_end hK13 ?_
          refine WC_ret ?_
          first | exact hret.go () (Rs1 rfl rfl) | exact hret.goE () (Rs1 rfl rfl) (by congr 1; simp; omega) | exact hret.goE () (Rs1 rfl rfl) (by rw [hsm]; simp) | (exfalso; omega)
        · try simp only [decide_eq_true_eq, decide_eq_false_iff_not, Bool.not_eq_true', Bool.not_eq_false', Bool.not_eq_true, Bool.not_eq_false, Int.not_lt, Int.not_le, Nat.not_lt, Nat.not_le, Decidable.not_not, ne_eq] at hg15
          refine WL_rd (Rd_move rfl) rfl rfl rfl ?_
          refine WL_rd (Rd_len_sv rfl rfl ud76) rfl rfl rfl ?_
          refine WL_rd (Rd_move rfl) rfl rfl rfl ?_
          refine WL_rd (Rd_len_sv rfl rfl ud76) rfl rfl rfl ?_
          refine WL_rd (Rd_neqN rfl rfl) rfl rfl rfl ?_
          refine WL_rd (Rd_pickF rfl rfl) rfl rfl rfl ?_
          refine WL_rd (Rd_assign rfl) rfl rfl rfl ?_
          refine WL_end hK13 ?_
          refine WC_ret ?_
          first | exact hret.go () (Rs1 rfl rfl) | exact hret.goE () (Rs1 rfl rfl) (by congr 1; simp; omega) | exact hret.goE () (Rs1 rfl rfl) (by rw [hsm]; simp) | (exfalso; omega)
    · try simp only [decide_eq_true_eq, decide_eq_false_iff_not, Bool.not_eq_true', Bool.not_eq_false', Bool.not_eq_true, Bool.not_eq_false, Int.not_lt, Int.not_le, Nat.not_lt, Nat.not_le, Decidable.not_not, ne_eq] at hg12
      refine WL_rd (Rd_move rfl) rfl rfl rfl ?_
      refine WL_rd (Rd_len_sv rfl rfl ud76) rfl rfl rfl ?_
      refine WL_rd (Rd_move rfl) rfl rfl rfl ?_
      refine WL_rd (Rd_len_sv rfl rfl ud76) rfl rfl rfl ?_
      refine WL_rd (Rd_neqN rfl rfl) rfl rfl rfl ?_
      refine WL_rd (Rd_pickF rfl rfl) rfl rfl rfl ?_
      refine WL_rd (Rd_move rfl) rfl rfl rfl ?_
      refine WL_bool 36 rfl (fun hg16 => ?_) (fun hg16 => ?_)
      · try simp only [decide_eq_true_eq, decide_eq_false_iff_not, Bool.not_eq_true', Bool.not_eq_false', Bool.not_eq_true, Bool.not_eq_false, Int.not_lt, Int.not_le, Nat.not_lt, Nat.not_le, Decidable.not_not, ne_eq] at hg16
        refine WL_skip rfl rfl rfl ?_
        refine WL_skip rfl rfl rfl ?_
        refine WL_skip rfl rfl rfl ?_
        refine WL_rd (Rd_pickT rfl rfl) rfl rfl rfl ?_
        refine WL_rd (Rd_move rfl) rfl rfl rfl ?_
        refine WL_skip rfl rfl rfl ?_
        refine WL_skip rfl rfl rfl ?_
        refine WL_skip rfl rfl rfl ?_
        refine WL_skip rfl rfl rfl ?_
        refine WL_skip rfl rfl rfl ?_
        refine WL_rd (Rd_pickT rfl rfl) rfl rfl rfl ?_
        refine WL_end hK7 ?_
        refine WC_condT rfl ?_
        refine WC_sr fun K17 hK17 => ?_
        refine WL_rd (Rd_move rfl) rfl rfl rfl ?_
        refine WL_rd (Rd_neqN (j := 0) rfl rfl) rfl rfl rfl ?_
        refine WL_rd (Rd_move rfl) rfl rfl rfl ?_
        refine WL_bool 50 rfl (fun hg18 => ?_) (fun hg18 => ?_)
        · try simp only [decide_eq_true_eq, decide_eq_false_iff_not, Bool.not_eq_true', Bool.not_eq_false', Bool.not_eq_true, Bool.not_eq_false, Int.not_lt, Int.not_le, Nat.not_lt, Nat.not_le, Decidable.not_not, ne_eq] at hg18
          refine WL_skip rfl rfl rfl ?_
          refine WL_skip rfl rfl rfl ?_
          refine WL_rd (Rd_pickT rfl rfl) rfl rfl rfl ?_
          refine WL_rd (Rd_move rfl) rfl rfl rfl ?_
          refine WL_skip rfl rfl rfl ?_
          refine WL_skip rfl rfl rfl ?_
          refine WL_skip rfl rfl rfl ?_
          refine WL_skip rfl rfl rfl ?_
          refine WL_skip rfl rfl rfl ?_
          refine WL_rd (Rd_pickT rfl rfl) rfl rfl rfl ?_
          refine WL_rd (Rd_assign rfl) rfl rfl rfl ?_
          refine WL_end hK17 ?_
          refine WC_ret ?_
          first | exact hret.go () (Rs1 rfl rfl) | exact hret.goE () (Rs1 rfl rfl) (by congr 1; simp; omega) | exact hret.goE () (Rs1 rfl rfl) (by rw [hsm]; simp) | (exfalso; omega)
        · try simp only [decide_eq_true_eq, decide_eq_false_iff_not, Bool.not_eq_true', Bool.not_eq_false', Bool.not_eq_true, Bool.not_eq_false, Int.not_lt, Int.not_le, Nat.not_lt, Nat.not_le, Decidable.not_not, ne_eq] at hg18
          refine WL_rd (Rd_move rfl) rfl rfl rfl ?_
          refine WL_rd (Rd_neqN (j := 0) rfl rfl) rfl rfl rfl ?_
          refine WL_rd (Rd_pickF rfl rfl) rfl rfl rfl ?_
          refine WL_rd (Rd_move rfl) rfl rfl rfl ?_
          refine WL_bool 54 rfl (fun hg19 => ?_) (fun hg19 => ?_)
          · try simp only [decide_eq_true_eq, decide_eq_false_iff_not, Bool.not_eq_true', Bool.not_eq_false', Bool.not_eq_true, Bool.not_eq_false, Int.not_lt, Int.not_le, Nat.not_lt, Nat.not_le, Decidable.not_not, ne_eq] at hg19
            refine WL_skip rfl rfl rfl ?_
            refine WL_skip rfl rfl rfl ?_
            refine WL_skip rfl rfl rfl ?_
            refine WL_skip rfl rfl rfl ?_
            refine WL_skip rfl rfl rfl ?_
            refine WL_rd (Rd_pickT rfl rfl) rfl rfl rfl ?_
            refine WL_rd (Rd_assign rfl) rfl rfl rfl ?_
            refine WL_end hK17 ?_
            refine WC_ret ?_
            first | exact hret.go () (Rs1 rfl rfl) | exact hret.goE () (Rs1 rfl rfl) (by congr 1; simp; omega) | exact hret.goE () (Rs1 rfl rfl) (by rw [hsm]; simp) | (exfalso; omega)
          · try simp only [decide_eq_true_eq, decide_eq_false_iff_not, Bool.not_eq_true', Bool.not_eq_false', Bool.not_eq_true, Bool.not_eq_false, Int.not_lt, Int.not_le, Nat.not_lt, Nat.not_le, Decidable.not_not, ne_eq] at hg19
            refine WL_rd (Rd_move rfl) rfl rfl rfl ?_
            refine WL_rd (Rd_len_sv rfl rfl ud76) rfl rfl rfl ?_
            refine WL_rd (Rd_move rfl) rfl rfl rfl ?_
            refine WL_rd (Rd_len_sv rfl rfl ud76) rfl rfl rfl ?_
            refine WL_rd (Rd_neqN rfl rfl) rfl rfl rfl ?_
            refine WL_rd (Rd_pickF rfl rfl) rfl rfl rfl ?_
            refine WL_rd (Rd_assign rfl) rfl rfl rfl ?_
            refine WL_end hK17 ?_
            refine WC_ret ?_
            first | exact hret.go () (Rs1 rfl rfl) | exact hret.goE () (Rs1 rfl rfl) (by congr 1; simp; omega) | exact hret.goE () (Rs1 rfl rfl) (by rw [hsm]; simp) | (exfalso; omega)
      · try simp only [decide_eq_true_eq, decide_eq_false_iff_not, Bool.not_eq_true', Bool.not_eq_false', Bool.not_eq_true, Bool.not_eq_false, Int.not_lt, Int.not_le, Nat.not_lt, Nat.not_le, Decidable.not_not, ne_eq] at hg16
        refine WL_rd (Rd_move rfl) rfl rfl rfl ?_
        refine WL_rd (Rd_len rfl rfl ud76) rfl rfl rfl ?_
        refine WL_rd (Rd_eqlN (j := 0) rfl rfl) rfl rfl rfl ?_
        refine WL_rd (Rd_pickF rfl rfl) rfl rfl rfl ?_
        refine WL_rd (Rd_move rfl) rfl rfl rfl ?_
        refine WL_bool 41 rfl (fun hg20 => ?_) (fun hg20 => ?_)
        · try simp only [decide_eq_true_eq, decide_eq_false_iff_not, Bool.not_eq_true', Bool.not_eq_false', Bool.not_eq_true, Bool.not_eq_false, Int.not_lt, Int.not_le, Nat.not_lt, Nat.not_le, Decidable.not_not, ne_eq] at hg20
          refine WL_skip rfl rfl rfl ?_
          refine WL_skip rfl rfl rfl ?_
          refine WL_skip rfl rfl rfl ?_
          refine WL_skip rfl rfl rfl ?_
          refine WL_skip rfl rfl rfl ?_
          refine WL_rd (Rd_pickT rfl rfl) rfl rfl rfl ?_
          refine WL_end hK7 ?_
          refine WC_condT rfl ?_
          refine WC_sr fun K21 hK21 => ?_
          refine WL_rd (Rd_move rfl) rfl rfl rfl ?_
          refine WL_rd (Rd_neqN (j := 0) rfl rfl) rfl rfl rfl ?_
          refine WL_rd (Rd_move rfl) rfl rfl rfl ?_
          refine WL_bool 50 rfl (fun hg22 => ?_) (fun hg22 => ?_)
          · try simp only [decide_eq_true_eq, decide_eq_false_iff_not, Bool.not_eq_true', Bool.not_eq_false', Bool.not_eq_true, Bool.not_eq_false, Int.not_lt, Int.not_le, Nat.not_lt, Nat.not_le, Decidable.not_not, ne_eq] at hg22
            refine WL_skip rfl rfl rfl ?_
            refine WL_skip rfl rfl rfl ?_
            refine WL_rd (Rd_pickT rfl rfl) rfl rfl rfl ?_
            refine WL_rd (Rd_move rfl) rfl rfl rfl ?_
            refine WL_skip rfl rfl rfl ?_
            refine WL_skip rfl rfl rfl ?_
            refine WL_skip rfl rfl rfl ?_
            refine WL_skip rfl rfl rfl ?_
            refine WL_skip rfl rfl rfl ?_
            refine WL_rd (Rd_pickT rfl rfl) rfl rfl rfl ?_
            refine WL_rd (Rd_assign rfl) rfl rfl rfl ?_
            refine WL_end hK21 ?_
            refine WC_ret ?_
            first | exact hret.go () (Rs1 rfl rfl) | exact hret.goE () (Rs1 rfl rfl) (by congr 1; simp; omega) | exact hret.goE () (Rs1 rfl rfl) (by rw [hsm]; simp) | (exfalso; omega)
          · try simp only [decide_eq_true_eq, decide_eq_false_iff_not, Bool.not_eq_true', Bool.not_eq_false', Bool.not_eq_true, Bool.not_eq_false, Int.not_lt, Int.not_le, Nat.not_lt, Nat.not_le, Decidable.not_not, ne_eq] at hg22
            refine WL_rd (Rd_move rfl) rfl rfl rfl ?_
            refine WL_rd (Rd_neqN (j := 0) rfl rfl) rfl rfl rfl ?_
            refine WL_rd (Rd_pickF rfl rfl) rfl rfl rfl ?_
            refine WL_rd (Rd_move rfl) rfl rfl rfl ?_
            refine WL_bool 54 rfl (fun hg23 => ?_) (fun hg23 => ?_)
            · try simp only [decide_eq_true_eq, decide_eq_false_iff_not, Bool.not_eq_true', Bool.not_eq_false', Bool.not_eq_true, Bool.not_eq_false, Int.not_lt, Int.not_le, Nat.not_lt, Nat.not_le, Decidable.not_not, ne_eq] at hg23
              refine WL_skip rfl rfl rfl ?_
              refine WL_skip rfl rfl rfl ?_
              refine WL_skip rfl rfl rfl ?_
              refine WL_skip rfl rfl rfl ?_
              refine WL_skip rfl rfl rfl ?_
              refine WL_rd (Rd_pickT rfl rfl) rfl rfl rfl ?_
              refine WL_rd (Rd_assign rfl) rfl rfl rfl ?_
              refine WL_end hK21 ?_
              refine WC_ret ?_
              first | exact hret.go () (Rs1 rfl rfl) | exact hret.goE () (Rs1 rfl rfl) (by congr 1; simp; omega) | exact hret.goE () (Rs1 rfl rfl) (by rw [hsm]; simp) | (exfalso; omega)
            · try simp only [decide_eq_true_eq, decide_eq_false_iff_not, Bool.not_eq_true', Bool.not_eq_false', Bool.not_eq_true, Bool.not_eq_false, Int.not_lt, Int.not_le, Nat.not_lt, Nat.not_le, Decidable.not_not, ne_eq] at hg23
              refine WL_rd (Rd_move rfl) rfl rfl rfl ?_
              refine WL_rd (Rd_len_sv rfl rfl ud76) rfl rfl rfl ?_
              refine WL_rd (Rd_move rfl) rfl rfl rfl ?_
              refine WL_rd (Rd_len_sv rfl rfl ud76) rfl rfl rfl ?_
              refine WL_rd (Rd_neqN rfl rfl) rfl rfl rfl ?_
              refine WL_rd (Rd_pickF rfl rfl) rfl rfl rfl ?_
              refine WL_rd (Rd_assign rfl) rfl rfl rfl ?_
              refine WL_end hK21 ?_
              refine WC_ret ?_
              first | exact hret.go () (Rs1 rfl rfl) | exact hret.goE () (Rs1 rfl rfl) (by congr 1; simp; omega) | exact hret.goE () (Rs1 rfl rfl) (by rw [hsm]; simp) | (exfalso; omega)
        · try simp only [decide_eq_true_eq, decide_eq_false_iff_not, Bool.not_eq_true', Bool.not_eq_false', Bool.not_eq_true, Bool.not_eq_false, Int.not_lt, Int.not_le, Nat.not_lt, Nat.not_le, Decidable.not_not, ne_eq] at hg20
          refine WL_rd (Rd_move rfl) rfl rfl rfl ?_
          refine WL_rd (Rd_len rfl rfl ud76) rfl rfl rfl ?_
          refine WL_rd (Rd_move rfl) rfl rfl rfl ?_
          refine WL_rd (Rd_len rfl rfl ud76) rfl rfl rfl ?_
          refine WL_rd (Rd_neqN rfl rfl) rfl rfl rfl ?_
          refine WL_rd (Rd_pickF rfl rfl) rfl rfl rfl ?_
          refine WL_end hK7 ?_
          refine WC_cond rfl (fun hc1 => ?_) (fun hc1 => ?_)
          · try simp only [decide_eq_true_eq, decide_eq_false_iff_not, Bool.not_eq_true', Bool.not_eq_false', Bool.not_eq_true, Bool.not_eq_false, Int.not_lt, Int.not_le, Nat.not_lt, Nat.not_le, Decidable.not_not, ne_eq] at hc1
            refine WC_sr fun K24 hK24 => ?_
            refine WL_rd (Rd_move rfl) rfl rfl rfl ?_
            refine WL_rd (Rd_neqN (j := 0) rfl rfl) rfl rfl rfl ?_
            refine WL_rd (Rd_move rfl) rfl rfl rfl ?_
            refine WL_bool 50 rfl (fun hg25 => ?_) (fun hg25 => ?_)
            · try simp only [decide_eq_true_eq, decide_eq_false_iff_not, Bool.not_eq_true', Bool.not_eq_false', Bool.not_eq_true, Bool.not_eq_false, Int.not_lt, Int.not_le, Nat.not_lt, Nat.not_le, Decidable.not_not, ne_eq] at hg25
              refine WL_skip rfl rfl rfl ?_
              refine WL_skip rfl rfl rfl ?_
              refine WL_rd (Rd_pickT rfl rfl) rfl rfl rfl ?_
              refine WL_rd (Rd_move rfl) rfl rfl rfl ?_
              refine WL_skip rfl rfl rfl ?_
              refine WL_skip rfl rfl rfl ?_
              refine WL_skip rfl rfl rfl ?_
              refine WL_skip rfl rfl rfl ?_
              refine WL_skip rfl rfl rfl ?_
              refine WL_rd (Rd_pickT rfl rfl) rfl rfl rfl ?_
              refine WL_rd (Rd_assign rfl) rfl rfl rfl ?_
              refine WL_end hK24 ?_
              refine WC_ret ?_
              first | exact hret.go () (Rs1 rfl rfl) | exact hret.goE () (Rs1 rfl rfl) (by congr 1; simp; omega) | exact hret.goE () (Rs1 rfl rfl) (by rw [hsm]; simp) | (exfalso; omega)
            · try simp only [decide_eq_true_eq, decide_eq_false_iff_not, Bool.not_eq_true', Bool.not_eq_false', Bool.not_eq_true, Bool.not_eq_false, Int.not_lt, Int.not_le, Nat.not_lt, Nat.not_le, Decidable.not_not, ne_eq] at hg25
              refine WL_rd (Rd_move rfl) rfl rfl rfl ?_
              refine WL_rd (Rd_neqN (j := 0) rfl rfl) rfl rfl rfl ?_
              refine WL_rd (Rd_pickF rfl rfl) rfl rfl rfl ?_
              refine WL_rd (Rd_move rfl) rfl rfl rfl ?_
              refine WL_bool 54 rfl (fun hg26 => ?_) (fun hg26 => ?_)
              · try simp only [decide_eq_true_eq, decide_eq_false_iff_not, Bool.not_eq_true', Bool.not_eq_false', Bool.not_eq_true, Bool.not_eq_false, Int.not_lt, Int.not_le, Nat.not_lt, Nat.not_le, Decidable.not_not, ne_eq] at hg26
                refine WL_skip rfl rfl rfl ?_
                refine WL_skip rfl rfl rfl ?_
                refine WL_skip rfl rfl rfl ?_
                refine WL_skip rfl rfl rfl ?_
                refine WL_skip rfl rfl rfl ?_
                refine WL_rd (Rd_pickT rfl rfl) rfl rfl rfl ?_
                refine WL_rd (Rd_assign rfl) rfl rfl rfl ?_
                refine WL_end hK24 ?_
                refine WC_ret ?_
                first | exact hret.go () (Rs1 rfl rfl) | exact hret.goE () (Rs1 rfl rfl) (by congr 1; simp; omega) | exact hret.goE () (Rs1 rfl rfl) (by rw [hsm]; simp) | (exfalso; omega)
              · try simp only [decide_eq_true_eq, decide_eq_false_iff_not, Bool.not_eq_true', Bool.not_eq_false', Bool.not_eq_true, Bool.not_eq_false, Int.not_lt, Int.not_le, Nat.not_lt, Nat.not_le, Decidable.not_not, ne_eq] at hg26
                refine WL_rd (Rd_move rfl) rfl rfl rfl ?_
                refine WL_rd (Rd_len_sv rfl rfl ud76) rfl rfl rfl ?_
                refine WL_rd (Rd_move rfl) rfl rfl rfl ?_
                refine WL_rd (Rd_len_sv rfl rfl ud76) rfl rfl rfl ?_
                refine WL_rd (Rd_neqN rfl rfl) rfl rfl rfl ?_
                refine WL_rd (Rd_pickF rfl rfl) rfl rfl rfl ?_
                refine WL_rd (Rd_assign rfl) rfl rfl rfl ?_
                refine WL_end hK24 ?_
                refine WC_ret ?_
                first | exact hret.go () (Rs1 rfl rfl) | exact hret.goE () (Rs1 rfl rfl) (by congr 1; simp; omega) | exact hret.goE () (Rs1 rfl rfl) (by rw [hsm]; simp) | (exfalso; omega)
          · try simp only [decide_eq_true_eq, decide_eq_false_iff_not, Bool.not_eq_true', Bool.not_eq_false', Bool.not_eq_true, Bool.not_eq_false, Int.not_lt, Int.not_le, Nat.not_lt, Nat.not_le, Decidable.not_not, ne_eq] at hc1
            have ha0 : wdE a.length = 0 := by omega
            have hab : b.length = a.length := by omega
            have hla := hA ha0
            have hlb : (bldM b).length = (bldM a).length := by have := hB (by omega); have := hW hab.symm; omega
            refine WC_skip ?_
            refine Ps_next hK6 ?_
            refine WC_sr fun K27 hK27 => ?_
            refine WL_rd (Rd_move rfl) rfl rfl rfl ?_
            refine WL_rd (Rd_move rfl) rfl rfl rfl ?_
            refine WL_fact (fun w h => arr_facts (a := a15) (cap := cap15) (e := 32) (T := 42) (f := fD) (l := (bldM a)) (by repeat (first | with_reducible exact Has.here | with_reducible refine Has.there ?_)) h) (fun hSaf => ?_)
            have hSa : Sv [arr a15 cap15 32 42 fD (bldM a)] (sl a15 (bldM a).length cap15) 32 fD (bldM a) (a15.map fun g => ⟨g, 0, none⟩) cap15 := Sv_own' encD hSaf.1 hSaf.2
            refine WL_fact (fun w h => arr_facts (a := a20) (cap := cap20) (e := 32) (T := 42) (f := fD) (l := (bldM b)) (by repeat (first | with_reducible exact Has.here | with_reducible refine Has.there ?_)) h) (fun hSbf => ?_)
            have hSb : Sv [arr a20 cap20 32 42 fD (bldM b)] (sl a20 (bldM b).length cap20) 32 fD (bldM b) (a20.map fun g => ⟨g, 0, none⟩) cap20 := Sv_own' encD hSbf.1 hSbf.2
            refine WL_ac (Ac_call cf55 rfl (hs := Ct.un0 (Xs := [arr a15 cap15 32 42 fD (bldM a), arr a20 cap20 32 42 fD (bldM b)]) (differ_ct (X := sep [arr a15 cap15 32 42 fD (bldM a), arr a20 cap20 32 42 fD (bldM b)]) (a := (bldM a)) (b := (bldM b)) (hS := hSa.pk (by repeat (first | with_reducible exact Has.here | with_reducible refine Has.there ?_))) (hS' := hSb.pk (by repeat (first | with_reducible exact Has.here | with_reducible refine Has.there ?_)))))) rfl rfl rfl ?_
            rintro _ _ ⟨⟨⟩, rfl, hA⟩
            simp only [List.cons_append, List.nil_append] at hA
            replace hA := hA.symm
            subst hA
            refine WL_rd (Rd_move rfl) rfl rfl rfl ?_
            refine WL_rd (Rd_ext0 rfl) rfl rfl rfl ?_
            refine WL_rd (Rd_ext1 rfl) rfl rfl rfl ?_
            refine WL_rd (Rd_assign rfl) rfl rfl rfl ?_
            refine WL_rd (Rd_assign rfl) rfl rfl rfl ?_
            refine WL_end hK27 ?_
            refine WC_seq fun K28 hK28 => ?_
            refine WC_sr fun K29 hK29 => ?_
            refine WL_rd (Rd_move rfl) rfl rfl rfl ?_
            refine WL_rd (Rd_not rfl) rfl rfl rfl ?_
            refine WL_end hK29 ?_
            refine WC_cond rfl (fun hc2 => ?_) (fun hc2 => ?_)
            · try simp only [decide_eq_true_eq, decide_eq_false_iff_not, Bool.not_eq_true', Bool.not_eq_false', Bool.not_eq_true, Bool.not_eq_false, Int.not_lt, Int.not_le, Nat.not_lt, Nat.not_le, Decidable.not_not, ne_eq] at hc2
              have hno : difF (bldM a) (bldM b) = none := by revert hc2; cases difF (bldM a) (bldM b) <;> simp [difV]
              rw [hno]
              refine WC_some (a := a15) (by repeat (first | with_reducible exact Has.here | with_reducible refine Has.there ?_)) (by omega) (fun ga hga hcpa => ?_)
              subst hga
              refine WC_some (a := a20) (by repeat (first | with_reducible exact Has.here | with_reducible refine Has.there ?_)) (by omega) (fun gb hgb hcpb => ?_)
              subst hgb
              have hz1 := Dg_len ((bldM a).getD 0 zD)
              have hz2 := Dg_len ((bldM b).getD 0 zD)
              refine WC_seq fun K30 hK30 => ?_
              refine WC_drawA mix (fun i => ([2, 2, 2, 2, 2, 2, 2, 2, 2, 2, 2, 2, 2, 1, 2, 2, 2] : List Nat).getD i 0) ?_
              refine WJ_takeP 0 rfl (by kernel_rfl) (Rd_move rfl) rfl rfl rfl (hp _ _) ?_
              refine WJ_takeP 1 rfl (by kernel_rfl) (Rd_isT (Rd_eqlN (j := 0) rfl rfl)) rfl rfl rfl (hp _ _) ?_
              refine WJ_takeP 2 rfl (by kernel_rfl) (Rd_move rfl) rfl rfl rfl (hp _ _) ?_
              refine WJ_takeP 3 rfl (by kernel_rfl) (Rd_move rfl) rfl rfl rfl (hp _ _) ?_
              refine WJ_takeP 4 rfl (by kernel_rfl) (Rd_index 0 rfl rfl ud76 sz42) rfl rfl rfl (hp _ _) ?_
              refine WJ_tk 5 (Rd_aU (k := .u8) (l := (((bldM a)).getD (0) zD).1) (Rd_loadg_arr (i := 0) rfl tk42 (hl := at_of (by omega))) rfl) hp ?_ rfl (by kernel_rfl) rfl rfl rfl
              refine WJ_takeP 6 rfl (by kernel_rfl) (Rd_move rfl) rfl rfl rfl (hp _ _) ?_
              refine WJ_takeP 7 rfl (by kernel_rfl) (Rd_index 0 rfl rfl ud76 sz42) rfl rfl rfl (hp _ _) ?_
              refine WJ_tk 8 (Rd_aU (k := .u8) (l := (((bldM b)).getD (0) zD).1) (Rd_loadg_arr (i := 0) rfl tk42 (hl := at_of (by omega))) rfl) hp ?_ rfl (by kernel_rfl) rfl rfl rfl
              refine WJ_takeP 9 rfl (by kernel_rfl) (Rd_neW rfl rfl ais42) rfl rfl rfl (hp _ _) ?_
              refine WJ_takeP 10 rfl (by kernel_rfl) (Rd_move rfl) rfl rfl rfl (hp _ _) ?_
              refine WJ_bool 79 rfl (fun hg31 => ?_) (fun hg31 => ?_)
              · try simp only [decide_eq_true_eq, decide_eq_false_iff_not, Bool.not_eq_true', Bool.not_eq_false', Bool.not_eq_true, Bool.not_eq_false, Int.not_lt, Int.not_le, Nat.not_lt, Nat.not_le, Decidable.not_not, ne_eq] at hg31
                refine WJ_skip 11 rfl (by kernel_rfl) rfl rfl rfl (hp _ _) ?_
                refine WJ_skip 12 rfl (by kernel_rfl) rfl rfl rfl (hp _ _) ?_
                refine WJ_all (rs := [13]) (by kernel_rfl) rfl ?_
                refine WI_one ?_
                refine WI_skip rfl rfl rfl rfl (fun _ => (by repeat (first | with_reducible exact Sub.refl | with_reducible exact Sub.nil | with_reducible refine Sub.cons (by repeat (first | with_reducible exact Ext.here | with_reducible apply Ext.there)) ?_ | with_reducible refine Sub.tail ?_))) ?_
                refine WJ_takeP 14 rfl (by kernel_rfl) (Rd_pickT rfl rfl) rfl rfl rfl (hp _ _) ?_
                refine WJ_takeP 15 rfl (by kernel_rfl) (Rd_pickT rfl rfl) rfl rfl rfl (hp _ _) ?_
                refine WJ_takeP 16 rfl (by kernel_rfl) (Rd_assign rfl) rfl rfl rfl (hp _ _) ?_
                refine WJ_done (by kernel_rfl) ?_
                refine Ps_next hK30 ?_
                refine WC_ret ?_
                first | exact hret.go () (Rs1 rfl rfl) | exact hret.goE () (Rs1 rfl rfl) (by congr 1; simp; omega) | exact hret.goE () (Rs1 rfl rfl) (by rw [hsm]; simp) | (exfalso; omega)
              · try simp only [decide_eq_true_eq, decide_eq_false_iff_not, Bool.not_eq_true', Bool.not_eq_false', Bool.not_eq_true, Bool.not_eq_false, Int.not_lt, Int.not_le, Nat.not_lt, Nat.not_le, Decidable.not_not, ne_eq] at hg31
                have q9 := hg31
                have hsm := dif_same ha0 hab hno (Subtype.ext q9)
                refine WJ_takeP 11 rfl (by kernel_rfl) (Rd_move rfl) rfl rfl rfl (hp _ _) ?_
                refine WJ_takeP 12 rfl (by kernel_rfl) (Rd_move rfl) rfl rfl rfl (hp _ _) ?_
                refine WJ_all (rs := [13]) (by kernel_rfl) rfl ?_
                refine WI_one ?_
                refine WI_ac rfl (Ac_call cf56 rfl (hs := sameD_ct (X := X) (l := a) (l' := b) (hS := hS) (hS' := hS'))) rfl rfl rfl rfl ?_
                rintro _ _ ⟨⟨⟩, rfl, hA⟩
                simp only [List.cons_append, List.nil_append] at hA
                replace hA := hA.symm
                subst hA
                refine ⟨(fun _ => (by repeat (first | with_reducible exact Sub.refl | with_reducible exact Sub.nil | with_reducible refine Sub.cons (by repeat (first | with_reducible exact Ext.here | with_reducible apply Ext.there)) ?_ | with_reducible refine Sub.tail ?_))), ?_⟩
                refine WJ_takeP 14 rfl (by kernel_rfl) (Rd_pickF rfl rfl) rfl rfl rfl (hp _ _) ?_
                refine WJ_takeP 15 rfl (by kernel_rfl) (Rd_pickT rfl rfl) rfl rfl rfl (hp _ _) ?_
                refine WJ_takeP 16 rfl (by kernel_rfl) (Rd_assign rfl) rfl rfl rfl (hp _ _) ?_
                refine WJ_done (by kernel_rfl) ?_
                refine Ps_next hK30 ?_
                refine WC_ret ?_
                first | exact hret.go () (Rs1 rfl rfl) | exact hret.goE () (Rs1 rfl rfl) (by congr 1; simp; omega) | exact hret.goE () (Rs1 rfl rfl) (by rw [hsm]; simp) | (exfalso; omega)
            · try simp only [decide_eq_true_eq, decide_eq_false_iff_not, Bool.not_eq_true', Bool.not_eq_false', Bool.not_eq_true, Bool.not_eq_false, Int.not_lt, Int.not_le, Nat.not_lt, Nat.not_le, Decidable.not_not, ne_eq] at hc2
              obtain ⟨x, hso⟩ : ∃ x, difF (bldM a) (bldM b) = some x := by revert hc2; cases difF (bldM a) (bldM b) <;> simp [difV]
              rw [hso]
              obtain ⟨hcl1, hcl2, hcl3, hcl4⟩ := dif_clash ha0 hab hso
              refine WC_some (a := a15) (by repeat (first | with_reducible exact Has.here | with_reducible refine Has.there ?_)) (by omega) (fun ga hga hcpa => ?_)
              subst hga
              refine WC_some (a := a20) (by repeat (first | with_reducible exact Has.here | with_reducible refine Has.there ?_)) (by omega) (fun gb hgb hcpb => ?_)
              subst hgb
              rw [show (difV (some x)).1 = x from rfl]
              have hx1 := Dg_len ((bldM a).getD (x - 1) zD)
              have hx2 := Dg_len ((bldM b).getD (x - 1) zD)
              have ht1 := tagB_len 6#8 [((bldM a).getD (2 * x - 1) zD).1, ((bldM a).getD (2 * x) zD).1]
              have ht2 := tagB_len 6#8 [((bldM b).getD (2 * x - 1) zD).1, ((bldM b).getD (2 * x) zD).1]
              simp only [List.flatten_cons, List.flatten_nil, List.length_append, List.length_cons, List.length_nil, Dg_len] at ht1 ht2
              refine WC_skip ?_
              refine Ps_next hK28 ?_
              refine WC_seq fun K32 hK32 => ?_
              refine WC_sr fun K33 hK33 => ?_
              refine WL_rd (Rd_move rfl) rfl rfl rfl ?_
              refine WL_rd (Rd_isF (Rd_lssN (j := 1) rfl rfl)) rfl rfl rfl ?_
              refine WL_rd (Rd_move rfl) rfl rfl rfl ?_
              refine WL_rd (Rd_move rfl) rfl rfl rfl ?_
              refine WL_rd (Rd_mulN (i := 2) rfl rfl) rfl rfl rfl ?_
              refine WL_rd (Rd_move rfl) rfl rfl rfl ?_
              refine WL_rd (Rd_len rfl rfl ud76) rfl rfl rfl ?_
              refine WL_rd (Rd_isF (Rd_geqN rfl rfl) (by simp; omega)) rfl rfl rfl ?_
              refine WL_rd (Rd_pickF rfl rfl) rfl rfl rfl ?_
              refine WL_end hK33 ?_
              refine WC_condF rfl ?_
              refine WC_skip ?_
              refine Ps_next hK32 ?_
              refine WC_seq fun K34 hK34 => ?_
              refine WC_drawA mix (fun i => ([2, 2, 2, 2, 2, 2, 2, 2, 2, 2, 2, 1, 2, 2, 2, 2, 2, 2, 2, 2, 2, 2, 2, 1, 1, 2, 2, 2, 2, 2, 2, 2, 2, 2, 2, 2, 2, 2, 2] : List Nat).getD i 0) ?_
              refine WJ_takeP 0 rfl (by kernel_rfl) (Rd_move rfl) rfl rfl rfl (hp _ _) ?_
              refine WJ_takeP 1 rfl (by kernel_rfl) (Rd_move rfl) rfl rfl rfl (hp _ _) ?_
              refine WJ_takeP 2 rfl (by kernel_rfl) (Rd_mulN (i := 2) rfl rfl) rfl rfl rfl (hp _ _) ?_
              refine WJ_takeP 3 rfl (by kernel_rfl) (Rd_subN (j := 1) rfl rfl) rfl rfl rfl (hp _ _) ?_
              refine WJ_takeP 4 rfl (by kernel_rfl) (Rd_index (2 * x - 1) rfl rfl ud76 sz42 (hj := by omega)) rfl rfl rfl (hp _ _) ?_
              refine WJ_tk 5 (Rd_aU (k := .u8) (l := (((bldM a)).getD (2 * x - 1) zD).1) (Rd_loadg_arr (i := 2 * x - 1) rfl tk42 (hl := at_of (by omega))) rfl) hp ?_ rfl (by kernel_rfl) rfl rfl rfl
              refine WJ_takeP 6 rfl (by kernel_rfl) (Rd_move rfl) rfl rfl rfl (hp _ _) ?_
              refine WJ_takeP 7 rfl (by kernel_rfl) (Rd_move rfl) rfl rfl rfl (hp _ _) ?_
              refine WJ_takeP 8 rfl (by kernel_rfl) (Rd_mulN (i := 2) rfl rfl) rfl rfl rfl (hp _ _) ?_
              refine WJ_takeP 9 rfl (by kernel_rfl) (Rd_index (2 * x) rfl rfl ud76 sz42 (hj := by omega)) rfl rfl rfl (hp _ _) ?_
              refine WJ_tk 10 (Rd_aU (k := .u8) (l := (((bldM a)).getD (2 * x) zD).1) (Rd_loadg_arr (i := 2 * x) rfl tk42 (hl := at_of (by omega))) rfl) hp ?_ rfl (by kernel_rfl) rfl rfl rfl
              refine WJ_takeP 12 rfl (by kernel_rfl) (Rd_move rfl) rfl rfl rfl (hp _ _) ?_
              refine WJ_takeP 13 rfl (by kernel_rfl) (Rd_move rfl) rfl rfl rfl (hp _ _) ?_
              refine WJ_takeP 14 rfl (by kernel_rfl) (Rd_mulN (i := 2) rfl rfl) rfl rfl rfl (hp _ _) ?_
              refine WJ_takeP 15 rfl (by kernel_rfl) (Rd_subN (j := 1) rfl rfl) rfl rfl rfl (hp _ _) ?_
              refine WJ_takeP 16 rfl (by kernel_rfl) (Rd_index (2 * x - 1) rfl rfl ud76 sz42 (hj := by omega)) rfl rfl rfl (hp _ _) ?_
              refine WJ_tk 17 (Rd_aU (k := .u8) (l := (((bldM b)).getD (2 * x - 1) zD).1) (Rd_loadg_arr (i := 2 * x - 1) rfl tk42 (hl := at_of (by omega))) rfl) hp ?_ rfl (by kernel_rfl) rfl rfl rfl
              refine WJ_takeP 18 rfl (by kernel_rfl) (Rd_move rfl) rfl rfl rfl (hp _ _) ?_
              refine WJ_takeP 19 rfl (by kernel_rfl) (Rd_move rfl) rfl rfl rfl (hp _ _) ?_
              refine WJ_takeP 20 rfl (by kernel_rfl) (Rd_mulN (i := 2) rfl rfl) rfl rfl rfl (hp _ _) ?_
              refine WJ_takeP 21 rfl (by kernel_rfl) (Rd_index (2 * x) rfl rfl ud76 sz42 (hj := by omega)) rfl rfl rfl (hp _ _) ?_
              refine WJ_tk 22 (Rd_aU (k := .u8) (l := (((bldM b)).getD (2 * x) zD).1) (Rd_loadg_arr (i := 2 * x) rfl tk42 (hl := at_of (by omega))) rfl) hp ?_ rfl (by kernel_rfl) rfl rfl rfl
              refine WJ_all (rs := [11]) (by kernel_rfl) rfl ?_
              refine WI_one ?_
              refine WI_ac rfl (Ac_call cf58 rfl (hs := two_ct (x := ((bldM a).getD (2 * x - 1) zD).1) (y := ((bldM a).getD (2 * x) zD).1) (hx := Dg_len _) (hy := Dg_len _))) rfl rfl rfl rfl ?_
              rintro _ _ ⟨⟨a105, cap105⟩, rfl, hA⟩
              simp only [List.cons_append, List.nil_append] at hA
              replace hA := hA.symm
              subst hA
              refine ⟨(fun _ => (by repeat (first | with_reducible exact Sub.refl | with_reducible exact Sub.nil | with_reducible refine Sub.cons (by repeat (first | with_reducible exact Ext.here | with_reducible apply Ext.there)) ?_ | with_reducible refine Sub.tail ?_))), ?_⟩
              refine WJ_all (rs := [23]) (by kernel_rfl) rfl ?_
              refine WI_one ?_
              refine WI_ac rfl (Ac_call cf58 rfl (hs := two_ct (x := ((bldM b).getD (2 * x - 1) zD).1) (y := ((bldM b).getD (2 * x) zD).1) (hx := Dg_len _) (hy := Dg_len _))) rfl rfl rfl rfl ?_
              rintro _ _ ⟨⟨a117, cap117⟩, rfl, hA⟩
              simp only [List.cons_append, List.nil_append] at hA
              replace hA := hA.symm
              subst hA
              refine ⟨(fun _ => (by repeat (first | with_reducible exact Sub.refl | with_reducible exact Sub.nil | with_reducible refine Sub.cons (by repeat (first | with_reducible exact Ext.here | with_reducible apply Ext.there)) ?_ | with_reducible refine Sub.tail ?_))), ?_⟩
              refine WJ_all (rs := [24]) (by kernel_rfl) rfl ?_
              refine WI_one ?_
              refine WI_fact (fun w h => arr_facts (a := a105) (cap := cap105) (e := 1) (T := 5) (f := eU .u8 (w := 8)) (l := (tagB 6#8 [((bldM a).getD (2 * x - 1) zD).1, ((bldM a).getD (2 * x) zD).1])) (by repeat (first | with_reducible exact Has.here | with_reducible refine Has.there ?_)) h) (fun hSxf => ?_)
              have hSx : Sv [arr a105 cap105 1 5 (eU .u8) (tagB 6#8 [((bldM a).getD (2 * x - 1) zD).1, ((bldM a).getD (2 * x) zD).1])] (sl a105 (tagB 6#8 [((bldM a).getD (2 * x - 1) zD).1, ((bldM a).getD (2 * x) zD).1]).length cap105) 1 (eU .u8 (w := 8)) (tagB 6#8 [((bldM a).getD (2 * x - 1) zD).1, ((bldM a).getD (2 * x) zD).1]) (a105.map fun g => ⟨g, 0, none⟩) cap105 := Sv_own' (encU .u8 (w := 8)) hSxf.1 hSxf.2
              refine WI_fact (fun w h => arr_facts (a := a117) (cap := cap117) (e := 1) (T := 5) (f := eU .u8 (w := 8)) (l := (tagB 6#8 [((bldM b).getD (2 * x - 1) zD).1, ((bldM b).getD (2 * x) zD).1])) (by repeat (first | with_reducible exact Has.here | with_reducible refine Has.there ?_)) h) (fun hSyf => ?_)
              have hSy : Sv [arr a117 cap117 1 5 (eU .u8) (tagB 6#8 [((bldM b).getD (2 * x - 1) zD).1, ((bldM b).getD (2 * x) zD).1])] (sl a117 (tagB 6#8 [((bldM b).getD (2 * x - 1) zD).1, ((bldM b).getD (2 * x) zD).1]).length cap117) 1 (eU .u8 (w := 8)) (tagB 6#8 [((bldM b).getD (2 * x - 1) zD).1, ((bldM b).getD (2 * x) zD).1]) (a117.map fun g => ⟨g, 0, none⟩) cap117 := Sv_own' (encU .u8 (w := 8)) hSyf.1 hSyf.2
              refine WI_ac rfl (Ac_call cf57 rfl (hs := Ct.un0 (Xs := [arr a105 cap105 1 5 (eU .u8) (tagB 6#8 [((bldM a).getD (2 * x - 1) zD).1, ((bldM a).getD (2 * x) zD).1]), arr a117 cap117 1 5 (eU .u8) (tagB 6#8 [((bldM b).getD (2 * x - 1) zD).1, ((bldM b).getD (2 * x) zD).1])]) (clash_ct (X := sep [arr a105 cap105 1 5 (eU .u8) (tagB 6#8 [((bldM a).getD (2 * x - 1) zD).1, ((bldM a).getD (2 * x) zD).1]), arr a117 cap117 1 5 (eU .u8) (tagB 6#8 [((bldM b).getD (2 * x - 1) zD).1, ((bldM b).getD (2 * x) zD).1])]) (l := (tagB 6#8 [((bldM a).getD (2 * x - 1) zD).1, ((bldM a).getD (2 * x) zD).1])) (l' := (tagB 6#8 [((bldM b).getD (2 * x - 1) zD).1, ((bldM b).getD (2 * x) zD).1])) (hS := hSx.pk (by repeat (first | with_reducible exact Has.here | with_reducible refine Has.there ?_))) (hS' := hSy.pk (by repeat (first | with_reducible exact Has.here | with_reducible refine Has.there ?_)))))) rfl rfl rfl rfl ?_
              rintro _ _ ⟨⟨⟩, rfl, hA⟩
              simp only [List.cons_append, List.nil_append] at hA
              replace hA := hA.symm
              subst hA
              rw [hcl4]
              refine ⟨(fun _ => (by repeat (first | with_reducible exact Sub.refl | with_reducible exact Sub.nil | with_reducible refine Sub.cons (by repeat (first | with_reducible exact Ext.here | with_reducible apply Ext.there)) ?_ | with_reducible refine Sub.tail ?_))), ?_⟩
              refine WJ_takeP 25 rfl (by kernel_rfl) (Rd_move rfl) rfl rfl rfl (hp _ _) ?_
              refine WJ_takeP 26 rfl (by kernel_rfl) (Rd_move rfl) rfl rfl rfl (hp _ _) ?_
              refine WJ_takeP 27 rfl (by kernel_rfl) (Rd_move rfl) rfl rfl rfl (hp _ _) ?_
              refine WJ_takeP 28 rfl (by kernel_rfl) (Rd_subN (j := 1) rfl rfl) rfl rfl rfl (hp _ _) ?_
              refine WJ_takeP 29 rfl (by kernel_rfl) (Rd_index (x - 1) rfl rfl ud76 sz42 (hj := by omega)) rfl rfl rfl (hp _ _) ?_
              refine WJ_tk 30 (Rd_aU (k := .u8) (l := (((bldM a)).getD (x - 1) zD).1) (Rd_loadg_arr (i := x - 1) rfl tk42 (hl := at_of (by omega))) rfl) hp ?_ rfl (by kernel_rfl) rfl rfl rfl
              refine WJ_takeP 31 rfl (by kernel_rfl) (Rd_move rfl) rfl rfl rfl (hp _ _) ?_
              refine WJ_takeP 32 rfl (by kernel_rfl) (Rd_move rfl) rfl rfl rfl (hp _ _) ?_
              refine WJ_takeP 33 rfl (by kernel_rfl) (Rd_subN (j := 1) rfl rfl) rfl rfl rfl (hp _ _) ?_
              refine WJ_takeP 34 rfl (by kernel_rfl) (Rd_index (x - 1) rfl rfl ud76 sz42 (hj := by omega)) rfl rfl rfl (hp _ _) ?_
              refine WJ_tk 35 (Rd_aU (k := .u8) (l := (((bldM b)).getD (x - 1) zD).1) (Rd_loadg_arr (i := x - 1) rfl tk42 (hl := at_of (by omega))) rfl) hp ?_ rfl (by kernel_rfl) rfl rfl rfl
              refine WJ_takeP 36 rfl (by kernel_rfl) (Rd_isT (Rd_eqW rfl rfl ais42) (by rw [hcl3]; simp)) rfl rfl rfl (hp _ _) ?_
              refine WJ_takeP 37 rfl (by kernel_rfl) (Rd_pickT rfl rfl) rfl rfl rfl (hp _ _) ?_
              refine WJ_takeP 38 rfl (by kernel_rfl) (Rd_assign rfl) rfl rfl rfl (hp _ _) ?_
              refine WJ_done (by kernel_rfl) ?_
              refine Ps_next hK34 ?_
              refine WC_ret ?_
              first | exact hret.go () (Rs1 rfl rfl) | exact hret.goE () (Rs1 rfl rfl) (by congr 1; simp; omega) | exact hret.goE () (Rs1 rfl rfl) (by rw [hsm]; simp) | (exfalso; omega)
end Go.Proofs.Ythkchjcodibaeaa
