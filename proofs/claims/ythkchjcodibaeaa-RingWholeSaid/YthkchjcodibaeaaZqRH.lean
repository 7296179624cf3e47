/-
  Contracts of functions that the claim reaches, or the logic and the plain laws that they rest on, or the row over them. (Conditions: none beyond the statement.)
-/
import Derived.Test.YthkchjcodibaeaaZqR
import Derived.Test.YthkchjcodibaeaaLibR
set_option linter.all false
namespace Go.Proofs.Ythkchjcodibaeaa
open Go.RowKit Go.SL Go.ShM
set_option maxHeartbeats 1000000
set_option maxRecDepth 20000
set_option linter.all false
theorem cf160 : cfn Try.prog 160 = true := by kernel_rfl
theorem cf168 : cfn Try.prog 168 = true := by kernel_rfl
theorem lessA {l l' : List B8} {k : Nat} {x y : B8} (h : diffL (l.drop k) (l'.drop k) = diffL l l') (hx : l[k]? = some x) (hy : l'[k]? = some y) (hne : ¬ x = y) : decide (x.toNat < y.toNat) = decide (diffL l l' < 0) := by
  rw [diffL_step hx hy, if_neg hne] at h
  rw [← h]
  apply Bool.eq_iff_iff.2
  rw [decide_eq_true_iff, decide_eq_true_iff]
  omega
theorem less0 {l l' : List B8} {k : Nat} (h : diffL (l.drop k) (l'.drop k) = diffL l l') (hk : l.length ≤ k) (he : l.length = l'.length) : decide (l.length < l'.length) = decide (diffL l l' < 0) := by
  rw [diffL_end hk] at h
  rw [← h, he]
  simp
theorem less_step {l l' : List B8} {k : Nat} {x y : B8} (h : diffL (l.drop k) (l'.drop k) = diffL l l') (hx : l[k]? = some x) (hy : l'[k]? = some y) (he : x = y) : diffL (l.drop (k + 1)) (l'.drop (k + 1)) = diffL l l' := by
  rw [diffL_step hx hy, if_pos he] at h
  exact h
theorem at_B {l : List B8} {i : Nat} (h : i < l.length) : l[i]? = some (l.getD i 0#8) := by rw [List.getD_eq_getElem?_getD, List.getElem?_eq_getElem h]; rfl
theorem ahead_eq {d : Nat → Dg} {a b : Nat} (h : (d a).1 = (d b).1) : decide (a < b) = aheadM d a b := by
  have e : ltR d a b ↔ a < b := by unfold ltR; rw [h]; omega
  unfold aheadM
  exact (decide_eq_decide.2 e).symm
theorem ahead_ne {d : Nat → Dg} {a b : Nat} (h : ¬ (d a).1 = (d b).1) : decide (diffL (d a).1 (d b).1 < 0) = aheadM d a b := by
  obtain ⟨h1, h2, h3⟩ := diffL_V (d a).1 (d b).1 (by rw [Dg_len, Dg_len])
  have h4 : ¬ Vb (d a).1 = Vb (d b).1 := fun e => h (h3.1 e)
  have e : ltR d a b ↔ diffL (d a).1 (d b).1 < 0 := by unfold ltR; rw [h1]; omega
  unfold aheadM
  exact (decide_eq_decide.2 e).symm

theorem lessR_ct {X : Asn} {v v' : Value} {l l' : List B8} {ao ao' : Option Addr} {cap cap' : Nat} (hS : Sv [X] v 1 (eU .u8 (w := 8)) l ao cap := by assumption) (hS' : Sv [X] v' 1 (eU .u8 (w := 8)) l' ao' cap' := by assumption) (he : l.length = l'.length) (hl : l.length ≤ 900000000000 := by omega) : Ct Try.prog 168 [v, v'] [X] (fun _ : Unit => .bool (decide (diffL l l' < 0))) (fun _ => [X]) := by
  refine Ct_body (n := 41) Try.func168 rfl rfl rfl fun F w0 Q hret hnorm hp => ?_
  change WC _ _ _ _ _ _ _ (_ :: F)
  refine WC_sr fun K1 hK1 => ?_
  refine WL_rd (Rd_assign rfl) rfl rfl rfl ?_
  refine WL_end hK1 ?_
  refine WC_seq fun K2 hK2 => ?_
  refine WC_sr fun K3 hK3 => ?_
  refine WL_rd (Rd_assign rfl) rfl rfl rfl ?_
  refine WL_end hK3 ?_
  refine WC_block ?_
  refine WC_loopK (σ := Nat) (fun k => [(5, .int .i64 ((k : Nat) : Int))]) (fun k => []) (fun k => k ≤ l.length ∧ diffL (l.drop k) (l'.drop k) = diffL l l') (fun k => l.length - k) (0) [0, 1, 36, 37, 38, 39, 40] (by repeat (first | exact Kep.nil | apply Kep.drop rfl | apply Kep.keep rfl)) (by (try dsimp only); repeat (first | with_reducible exact Gv.nil | (with_reducible apply Gv.cons; · (repeat (first | with_reducible exact Ext.here | with_reducible apply Ext.there))))) ?_ ?_ Sub.refl ?_
  · exact ⟨Nat.zero_le _, rfl⟩
  · (try dsimp only); exact (Wk.cons (by first | rfl | (simp only [List.length_append, List.length_cons, List.length_nil, List.length_replicate, Nat.zero_add]; rfl) | (simp; done)) Wk.nil)
  · rintro k ⟨hk, hdf⟩ K4 hK4
    simp only [List.cons_append, List.nil_append]
    refine WC_seq fun K5 hK5 => ?_
    refine WC_sr fun K6 hK6 => ?_
    refine WL_rd (Rd_move rfl) rfl rfl rfl ?_
    refine WL_rd (Rd_move rfl) rfl rfl rfl ?_
    refine WL_rd (Rd_len_sv rfl rfl ud32) rfl rfl rfl ?_
    refine WL_rd (Rd_lssN rfl rfl) rfl rfl rfl ?_
    refine WL_rd (Rd_move rfl) rfl rfl rfl ?_
    refine WL_bool 10 rfl (fun hg7 => ?_) (fun hg7 => ?_)
    · try simp only [decide_eq_true_eq, decide_eq_false_iff_not, Bool.not_eq_true', Bool.not_eq_false', Bool.not_eq_true, Bool.not_eq_false, Int.not_lt, Int.not_le, Nat.not_lt, Nat.not_le, Decidable.not_not, ne_eq] at hg7
      have q0 := hg7
      refine WL_rd (Rd_move rfl) rfl rfl rfl ?_
      refine WL_rd (Rd_move rfl) rfl rfl rfl ?_
      refine WL_rd (Rd_len_sv rfl rfl ud32) rfl rfl rfl ?_
      refine WL_rd (Rd_lssN rfl rfl) rfl rfl rfl ?_
      refine WL_rd (Rd_pickT rfl rfl) rfl rfl rfl ?_
      refine WL_end hK6 ?_
      refine WC_cond rfl (fun hc0 => ?_) (fun hc0 => ?_)
      · try simp only [decide_eq_true_eq, decide_eq_false_iff_not, Bool.not_eq_true', Bool.not_eq_false', Bool.not_eq_true, Bool.not_eq_false, Int.not_lt, Int.not_le, Nat.not_lt, Nat.not_le, Decidable.not_not, ne_eq] at hc0
        refine WC_skip ?_
        refine Ps_next hK5 ?_
        refine WC_seq fun K8 hK8 => ?_
        refine WC_block ?_
        refine WC_seq fun K9 hK9 => ?_
        refine WC_drawA mix (fun i => ([2, 2, 2, 2, 2, 2, 2, 2, 2] : List Nat).getD i 0) ?_
        refine WJ_takeP 0 rfl (by kernel_rfl) (Rd_move rfl) rfl rfl rfl (hp _ _) ?_
        refine WJ_takeP 1 rfl (by kernel_rfl) (Rd_move rfl) rfl rfl rfl (hp _ _) ?_
        refine WJ_takeP 2 rfl (by kernel_rfl) (Rd_index_sv _ rfl rfl ud32 sz5) rfl rfl rfl (hp _ _) ?_
        refine WJ_tk 3 (Rd_loadU_sv rfl tk5) hp ?_ rfl (by kernel_rfl) rfl rfl rfl
        refine WJ_takeP 4 rfl (by kernel_rfl) (Rd_move rfl) rfl rfl rfl (hp _ _) ?_
        refine WJ_takeP 5 rfl (by kernel_rfl) (Rd_move rfl) rfl rfl rfl (hp _ _) ?_
        refine WJ_takeP 6 rfl (by kernel_rfl) (Rd_index_sv _ rfl rfl ud32 sz5) rfl rfl rfl (hp _ _) ?_
        refine WJ_tk 7 (Rd_loadU_sv rfl tk5) hp ?_ rfl (by kernel_rfl) rfl rfl rfl
        refine WJ_takeP 8 rfl (by kernel_rfl) (Rd_neqU rfl rfl) rfl rfl rfl (hp _ _) ?_
        refine WJ_done (by kernel_rfl) ?_
        refine Ps_next hK9 ?_
        refine WC_cond rfl (fun hc1 => ?_) (fun hc1 => ?_)
        · try simp only [decide_eq_true_eq, decide_eq_false_iff_not, Bool.not_eq_true', Bool.not_eq_false', Bool.not_eq_true, Bool.not_eq_false, Int.not_lt, Int.not_le, Nat.not_lt, Nat.not_le, Decidable.not_not, ne_eq] at hc1
          refine WC_seq fun K10 hK10 => ?_
          refine WC_drawA mix (fun i => ([2, 2, 2, 2, 2, 2, 2, 2, 2, 2] : List Nat).getD i 0) ?_
          refine WJ_takeP 0 rfl (by kernel_rfl) (Rd_move rfl) rfl rfl rfl (hp _ _) ?_
          refine WJ_takeP 1 rfl (by kernel_rfl) (Rd_move rfl) rfl rfl rfl (hp _ _) ?_
          refine WJ_takeP 2 rfl (by kernel_rfl) (Rd_index_sv _ rfl rfl ud32 sz5) rfl rfl rfl (hp _ _) ?_
          refine WJ_tk 3 (Rd_loadU_sv rfl tk5) hp ?_ rfl (by kernel_rfl) rfl rfl rfl
          refine WJ_takeP 4 rfl (by kernel_rfl) (Rd_move rfl) rfl rfl rfl (hp _ _) ?_
          refine WJ_takeP 5 rfl (by kernel_rfl) (Rd_move rfl) rfl rfl rfl (hp _ _) ?_
          refine WJ_takeP 6 rfl (by kernel_rfl) (Rd_index_sv _ rfl rfl ud32 sz5) rfl rfl rfl (hp _ _) ?_
          refine WJ_tk 7 (Rd_loadU_sv rfl tk5) hp ?_ rfl (by kernel_rfl) rfl rfl rfl
          refine WJ_takeP 8 rfl (by kernel_rfl) (Rd_lssN rfl rfl) rfl rfl rfl (hp _ _) ?_
          refine WJ_takeP 9 rfl (by kernel_rfl) (Rd_assign rfl) rfl rfl rfl (hp _ _) ?_
          refine WJ_done (by kernel_rfl) ?_
          refine Ps_next hK10 ?_
          refine WC_ret ?_
          first | exact hret.goE () (Rs1 rfl rfl) (by rw [lessA hdf (at_B (by omega)) (at_B (by omega)) hc1]) | exact hret.goE () (Rs1 rfl rfl) (by rw [less0 hdf (by omega) he])
        · try simp only [decide_eq_true_eq, decide_eq_false_iff_not, Bool.not_eq_true', Bool.not_eq_false', Bool.not_eq_true, Bool.not_eq_false, Int.not_lt, Int.not_le, Nat.not_lt, Nat.not_le, Decidable.not_not, ne_eq] at hc1
          refine WC_skip ?_
          refine Ps_next hK8 ?_
          refine WC_region ?_
          refine WL_rd (Rd_move rfl) rfl rfl rfl ?_
          refine WL_rd (Rd_addN (j := 1) rfl rfl) rfl rfl rfl ?_
          refine WL_rd (Rd_assign rfl) rfl rfl rfl ?_
          refine WL_nil ?_
          refine Ps_wk (by (try simp only [List.cons_append, List.nil_append]); repeat (first | with_reducible exact Wk.nil | refine Wk.cons (by first | rfl | (simp only [List.length_append, List.length_cons, List.length_nil, List.length_replicate, Nat.zero_add]; rfl) | (simp; done)) ?_)) (by (try simp only [List.cons_append, List.nil_append]); repeat (first | with_reducible exact Sub.refl | with_reducible exact Sub.nil | with_reducible refine Sub.cons (by repeat (first | with_reducible exact Ext.here | with_reducible apply Ext.there)) ?_ | with_reducible refine Sub.tail ?_)) (hK4 (k + 1) (⟨by omega, less_step hdf (at_B (by omega)) (at_B (by omega)) hc1⟩) (by omega))
      · try simp only [decide_eq_true_eq, decide_eq_false_iff_not, Bool.not_eq_true', Bool.not_eq_false', Bool.not_eq_true, Bool.not_eq_false, Int.not_lt, Int.not_le, Nat.not_lt, Nat.not_le, Decidable.not_not, ne_eq] at hc0
        have hke : l.length ≤ k := by omega
        refine WC_exit ?_
        refine Ps_next hK2 ?_
        refine WC_sr fun K11 hK11 => ?_
        refine WL_rd (Rd_move rfl) rfl rfl rfl ?_
        refine WL_rd (Rd_len_sv rfl rfl ud32) rfl rfl rfl ?_
        refine WL_rd (Rd_move rfl) rfl rfl rfl ?_
        refine WL_rd (Rd_len_sv rfl rfl ud32) rfl rfl rfl ?_
        refine WL_rd (Rd_lssN rfl rfl) rfl rfl rfl ?_
        refine WL_rd (Rd_assign rfl) rfl rfl rfl ?_
        refine WL_end hK11 ?_
        refine WC_ret ?_
        first | exact hret.goE () (Rs1 rfl rfl) (by rw [lessA hdf (at_B (by omega)) (at_B (by omega)) hc1]) | exact hret.goE () (Rs1 rfl rfl) (by rw [less0 hdf (by omega) he])
    · try simp only [decide_eq_true_eq, decide_eq_false_iff_not, Bool.not_eq_true', Bool.not_eq_false', Bool.not_eq_true, Bool.not_eq_false, Int.not_lt, Int.not_le, Nat.not_lt, Nat.not_le, Decidable.not_not, ne_eq] at hg7
      have q0 := hg7
      refine WL_skip rfl rfl rfl ?_
      refine WL_skip rfl rfl rfl ?_
      refine WL_skip rfl rfl rfl ?_
      refine WL_skip rfl rfl rfl ?_
      refine WL_rd (Rd_pickF rfl rfl) rfl rfl rfl ?_
      refine WL_end hK6 ?_
      refine WC_condF rfl ?_
      have hke : l.length ≤ k := by omega
      refine WC_exit ?_
      refine Ps_next hK2 ?_
      refine WC_sr fun K12 hK12 => ?_
      refine WL_rd (Rd_move rfl) rfl rfl rfl ?_
      refine WL_rd (Rd_len_sv rfl rfl ud32) rfl rfl rfl ?_
      refine WL_rd (Rd_move rfl) rfl rfl rfl ?_
      refine WL_rd (Rd_len_sv rfl rfl ud32) rfl rfl rfl ?_
      refine WL_rd (Rd_lssN rfl rfl) rfl rfl rfl ?_
      refine WL_rd (Rd_assign rfl) rfl rfl rfl ?_
      refine WL_end hK12 ?_
      refine WC_ret ?_
      first | exact hret.goE () (Rs1 rfl rfl) (by rw [lessA hdf (at_B (by omega)) (at_B (by omega)) hc1]) | exact hret.goE () (Rs1 rfl rfl) (by rw [less0 hdf (by omega) he])

theorem aheadR_ct {x : List B8} {a b : Nat} (hx : x.length = 16 := by first | with_reducible assumption | omega) : Ct Try.prog 129 [aU .u8 x, .int .i64 ((a : Nat) : Int), .int .i64 ((b : Nat) : Int)] [] (fun _ : Unit => .bool (aheadM (ringD x) a b)) (fun _ => []) := by
  refine Ct_body (n := 26) Try.func129 rfl rfl rfl fun F w0 Q hret hnorm hp => ?_
  change WC _ _ _ _ _ _ _ (F)
  have hda := Dg_len (ringD x a)
  have hdb := Dg_len (ringD x b)
  refine WC_sr fun K1 hK1 => ?_
  refine WL_ac (Ac_boxW (k := .u8) rfl) rfl rfl rfl ?_
  rintro _ _ ⟨b3, rfl, rfl⟩
  refine WL_rd (Rd_assign rfl) rfl rfl rfl ?_
  refine WL_end hK1 ?_
  refine WC_sr fun K2 hK2 => ?_
  refine WL_rd (Rd_loadW rfl tk120) rfl rfl rfl ?_
  refine WL_rd (Rd_move rfl) rfl rfl rfl ?_
  refine WL_rd (Rd_convNU rfl ikd3_24 (h' := uk32)) rfl rfl rfl ?_
  refine WL_ac (Ac_call cf160 rfl (hs := ringR_ct (x := x) (s := BitVec.ofNat 32 a))) rfl rfl rfl ?_
  rintro _ _ ⟨⟨⟩, rfl, hA⟩
  simp only [List.cons_append, List.nil_append] at hA
  replace hA := hA.symm
  subst hA
  rw [show tagD 9#8 [x, big32 (BitVec.ofNat 32 a)] = (ringD x a).1 from rfl]
  refine WL_ac (Ac_allocW (k := .u8) (w := 8) (m := 32) zr42) rfl rfl rfl ?_
  rintro _ _ ⟨b7, rfl, rfl⟩
  refine WL_ac0 (Ac_storeW rfl rfl sz42) rfl rfl ?_
  rintro _ _ rfl
  refine WL_end hK2 ?_
  refine WC_sr fun K3 hK3 => ?_
  refine WL_rd (Rd_loadW rfl tk120) rfl rfl rfl ?_
  refine WL_rd (Rd_move rfl) rfl rfl rfl ?_
  refine WL_rd (Rd_convNU rfl ikd3_24 (h' := uk32)) rfl rfl rfl ?_
  refine WL_ac (Ac_call cf160 rfl (hs := ringR_ct (x := x) (s := BitVec.ofNat 32 b))) rfl rfl rfl ?_
  rintro _ _ ⟨⟨⟩, rfl, hA⟩
  simp only [List.cons_append, List.nil_append] at hA
  replace hA := hA.symm
  subst hA
  rw [show tagD 9#8 [x, big32 (BitVec.ofNat 32 b)] = (ringD x b).1 from rfl]
  refine WL_ac (Ac_allocW (k := .u8) (w := 8) (m := 32) zr42) rfl rfl rfl ?_
  rintro _ _ ⟨b8, rfl, rfl⟩
  refine WL_ac0 (Ac_storeW rfl rfl sz42) rfl rfl ?_
  rintro _ _ rfl
  refine WL_end hK3 ?_
  refine WC_seq fun K4 hK4 => ?_
  refine WC_sr fun K5 hK5 => ?_
  refine WL_rd (Rd_loadW rfl tk42) rfl rfl rfl ?_
  refine WL_rd (Rd_loadW rfl tk42) rfl rfl rfl ?_
  refine WL_rd (Rd_eqW rfl rfl ais42) rfl rfl rfl ?_
  refine WL_end hK5 ?_
  refine WC_cond rfl (fun hc0 => ?_) (fun hc0 => ?_)
  · try simp only [decide_eq_true_eq, decide_eq_false_iff_not, Bool.not_eq_true', Bool.not_eq_false', Bool.not_eq_true, Bool.not_eq_false, Int.not_lt, Int.not_le, Nat.not_lt, Nat.not_le, Decidable.not_not, ne_eq] at hc0
    refine WC_sr fun K6 hK6 => ?_
    refine WL_rd (Rd_move rfl) rfl rfl rfl ?_
    refine WL_rd (Rd_move rfl) rfl rfl rfl ?_
    refine WL_rd (Rd_lssN rfl rfl) rfl rfl rfl ?_
    refine WL_rd (Rd_assign rfl) rfl rfl rfl ?_
    refine WL_end hK6 ?_
    refine WC_ret ?_
    first | exact hret.goE () (Rs1 rfl rfl) (by rw [ahead_eq hc0]) | exact hret.goE () (Rs1 rfl rfl) (by rw [ahead_ne hc0])
  · try simp only [decide_eq_true_eq, decide_eq_false_iff_not, Bool.not_eq_true', Bool.not_eq_false', Bool.not_eq_true, Bool.not_eq_false, Int.not_lt, Int.not_le, Nat.not_lt, Nat.not_le, Decidable.not_not, ne_eq] at hc0
    refine WC_skip ?_
    refine Ps_next hK4 ?_
    refine WC_seq fun K7 hK7 => ?_
    refine WC_drawA mix (fun i => ([2, 2, 1, 2] : List Nat).getD i 0) ?_
    refine WJ_takeP 0 rfl (by kernel_rfl) (Rd_valE (v := sl (some b7) (ringD x a).1.length 32) (Rd_sliceA0 rfl ud42 sz5) (by rw [Dg_len])) rfl rfl rfl (hp _ _) ?_
    refine WJ_takeP 1 rfl (by kernel_rfl) (Rd_valE (v := sl (some b8) (ringD x b).1.length 32) (Rd_sliceA0 rfl ud42 sz5) (by rw [Dg_len])) rfl rfl rfl (hp _ _) ?_
    refine WJ_all (rs := [2]) (by kernel_rfl) rfl ?_
    refine WI_one ?_
    have hs7 : Sv [arr (some b7) 32 1 42 (eU .u8) (ringD x a).1] (sl (some b7) (ringD x a).1.length 32) 1 (eU .u8 (w := 8)) (ringD x a).1 (some ⟨b7, 0, none⟩) 32 := Sv_own' (a := some b7) (T := 42) (encU .u8 (w := 8)) (by simp) (by rw [Dg_len]; exact Nat.le_refl _)
    have hs8 : Sv [arr (some b8) 32 1 42 (eU .u8) (ringD x b).1] (sl (some b8) (ringD x b).1.length 32) 1 (eU .u8 (w := 8)) (ringD x b).1 (some ⟨b8, 0, none⟩) 32 := Sv_own' (a := some b8) (T := 42) (encU .u8 (w := 8)) (by simp) (by rw [Dg_len]; exact Nat.le_refl _)
    refine WI_ac rfl (Ac_call cf168 rfl (hs := Ct.un0 (Xs := [arr (some b7) 32 1 42 (eU .u8) (ringD x a).1, arr (some b8) 32 1 42 (eU .u8) (ringD x b).1]) (lessR_ct (X := sep [arr (some b7) 32 1 42 (eU .u8) (ringD x a).1, arr (some b8) 32 1 42 (eU .u8) (ringD x b).1]) (l := (ringD x a).1) (l' := (ringD x b).1) (hS := hs7.pk (by repeat (first | with_reducible exact Has.here | with_reducible refine Has.there ?_))) (hS' := hs8.pk (by repeat (first | with_reducible exact Has.here | with_reducible refine Has.there ?_))) (he := by rw [Dg_len, Dg_len])))) rfl rfl rfl rfl ?_
    rintro _ _ ⟨⟨⟩, rfl, hA⟩
    simp only [List.cons_append, List.nil_append] at hA
    replace hA := hA.symm
    subst hA
    refine ⟨(fun _ => (by repeat (first | with_reducible exact Sub.refl | with_reducible exact Sub.nil | with_reducible refine Sub.cons (by repeat (first | with_reducible exact Ext.here | with_reducible apply Ext.there)) ?_ | with_reducible refine Sub.tail ?_))), ?_⟩
    refine WJ_takeP 3 rfl (by kernel_rfl) (Rd_assign rfl) rfl rfl rfl (hp _ _) ?_
    refine WJ_done (by kernel_rfl) ?_
    refine Ps_next hK7 ?_
    refine WC_ret ?_
    first | exact hret.goE () (Rs1 rfl rfl) (by rw [ahead_eq hc0]) | exact hret.goE () (Rs1 rfl rfl) (by rw [ahead_ne hc0])
end Go.Proofs.Ythkchjcodibaeaa
namespace Go.Proofs.Ythkchjcodibaeaa
open Go.RowKit Go.SL Go.ShM
set_option maxHeartbeats 1000000
set_option maxRecDepth 20000
set_option linter.all false
theorem cf72 : cfn Try.prog 72 = true := by kernel_rfl
theorem cf129 : cfn Try.prog 129 = true := by kernel_rfl
theorem rOrderN_ct {x : List B8} {n : Int} (hx : x.length = 16 := by first | with_reducible assumption | omega) (hb : n < 1 ∨ 32 < n) : Ct Try.prog 72 [aU .u8 x, .int .i64 n] [] (fun _ : Unit => .tuple #[sl none 0 0, .int .i64 2]) (fun _ => []) := by
  refine Ct_body (n := 44) Try.func72 rfl rfl rfl fun F w0 Q hret hnorm hp => ?_
  change WC _ _ _ _ _ _ _ (F)
  refine WC_sr fun K1 hK1 => ?_
  refine WL_ac (Ac_boxW (k := .u8) rfl) rfl rfl rfl ?_
  rintro _ _ ⟨b2, rfl, rfl⟩
  refine WL_rd (Rd_assign (v := sl none 0 0) rfl) rfl rfl rfl ?_
  refine WL_rd (Rd_assign rfl) rfl rfl rfl ?_
  refine WL_end hK1 ?_
  refine WC_seq fun K2 hK2 => ?_
  refine WC_sr fun K3 hK3 => ?_
  refine WL_rd (Rd_move rfl) rfl rfl rfl ?_
  refine WL_rd (Rd_lss rfl rfl) rfl rfl rfl ?_
  refine WL_rd (Rd_move rfl) rfl rfl rfl ?_
  refine WL_bool 12 rfl (fun hg4 => ?_) (fun hg4 => ?_)
  · try simp only [decide_eq_true_eq, decide_eq_false_iff_not, Bool.not_eq_true', Bool.not_eq_false', Bool.not_eq_true, Bool.not_eq_false, Int.not_lt, Int.not_le, Nat.not_lt, Nat.not_le, Decidable.not_not, ne_eq] at hg4
    refine WL_skip rfl rfl rfl ?_
    refine WL_skip rfl rfl rfl ?_
    refine WL_rd (Rd_pickT rfl rfl) rfl rfl rfl ?_
    refine WL_end hK3 ?_
    refine WC_condT rfl ?_
    refine WC_sr fun K5 hK5 => ?_
    refine WL_rd (Rd_assign (v := sl none 0 0) rfl) rfl rfl rfl ?_
    refine WL_rd (Rd_assign rfl) rfl rfl rfl ?_
    refine WL_end hK5 ?_
    refine WC_ret ?_
    exact hret.go () (Rs2 rfl rfl rfl)
  · try simp only [decide_eq_true_eq, decide_eq_false_iff_not, Bool.not_eq_true', Bool.not_eq_false', Bool.not_eq_true, Bool.not_eq_false, Int.not_lt, Int.not_le, Nat.not_lt, Nat.not_le, Decidable.not_not, ne_eq] at hg4
    refine WL_rd (Rd_move rfl) rfl rfl rfl ?_
    refine WL_rd (Rd_gtr rfl rfl) rfl rfl rfl ?_
    refine WL_rd (Rd_pickF rfl rfl) rfl rfl rfl ?_
    refine WL_end hK3 ?_
    refine WC_cond rfl (fun hc0 => ?_) (fun hc0 => ?_)
    · try simp only [decide_eq_true_eq, decide_eq_false_iff_not, Bool.not_eq_true', Bool.not_eq_false', Bool.not_eq_true, Bool.not_eq_false, Int.not_lt, Int.not_le, Nat.not_lt, Nat.not_le, Decidable.not_not, ne_eq] at hc0
      refine WC_sr fun K6 hK6 => ?_
      refine WL_rd (Rd_assign (v := sl none 0 0) rfl) rfl rfl rfl ?_
      refine WL_rd (Rd_assign rfl) rfl rfl rfl ?_
      refine WL_end hK6 ?_
      refine WC_ret ?_
      exact hret.go () (Rs2 rfl rfl rfl)
    · try simp only [decide_eq_true_eq, decide_eq_false_iff_not, Bool.not_eq_true', Bool.not_eq_false', Bool.not_eq_true, Bool.not_eq_false, Int.not_lt, Int.not_le, Nat.not_lt, Nat.not_le, Decidable.not_not, ne_eq] at hc0
      omega

theorem rOrder_ct {x : List B8} {n : Nat} (hx : x.length = 16 := by first | with_reducible assumption | omega) (h1 : 1 ≤ n := by omega) (h2 : n ≤ 32 := by omega) : Ct Try.prog 72 [aU .u8 x, .int .i64 ((n : Nat) : Int)] [] (fun g : Nat => .tuple #[sl (some g) n n, .int .i64 0]) (fun g => [arr (some g) n 1 3 eN (ordL (ringD x) n)]) := by
  refine Ct_body (n := 44) Try.func72 rfl rfl rfl fun F w0 Q hret hnorm hp => ?_
  change WC _ _ _ _ _ _ _ (F)
  refine WC_sr fun K1 hK1 => ?_
  refine WL_ac (Ac_boxW (k := .u8) rfl) rfl rfl rfl ?_
  rintro _ _ ⟨b2, rfl, rfl⟩
  refine WL_rd (Rd_assign (v := sl none 0 0) rfl) rfl rfl rfl ?_
  refine WL_rd (Rd_assign rfl) rfl rfl rfl ?_
  refine WL_end hK1 ?_
  refine WC_seq fun K2 hK2 => ?_
  refine WC_sr fun K3 hK3 => ?_
  refine WL_rd (Rd_move rfl) rfl rfl rfl ?_
  refine WL_rd (Rd_lssN (j := 1) rfl rfl) rfl rfl rfl ?_
  refine WL_rd (Rd_move rfl) rfl rfl rfl ?_
  refine WL_bool 12 rfl (fun hg4 => ?_) (fun hg4 => ?_)
  · try simp only [decide_eq_true_eq, decide_eq_false_iff_not, Bool.not_eq_true', Bool.not_eq_false', Bool.not_eq_true, Bool.not_eq_false, Int.not_lt, Int.not_le, Nat.not_lt, Nat.not_le, Decidable.not_not, ne_eq] at hg4
    refine WL_skip rfl rfl rfl ?_
    refine WL_skip rfl rfl rfl ?_
    refine WL_rd (Rd_pickT rfl rfl) rfl rfl rfl ?_
    refine WL_end hK3 ?_
    refine WC_condT rfl ?_
    omega
  · try simp only [decide_eq_true_eq, decide_eq_false_iff_not, Bool.not_eq_true', Bool.not_eq_false', Bool.not_eq_true, Bool.not_eq_false, Int.not_lt, Int.not_le, Nat.not_lt, Nat.not_le, Decidable.not_not, ne_eq] at hg4
    refine WL_rd (Rd_move rfl) rfl rfl rfl ?_
    refine WL_rd (Rd_gtrN (j := 32) rfl rfl) rfl rfl rfl ?_
    refine WL_rd (Rd_pickF rfl rfl) rfl rfl rfl ?_
    refine WL_end hK3 ?_
    refine WC_cond rfl (fun hc0 => ?_) (fun hc0 => ?_)
    · try simp only [decide_eq_true_eq, decide_eq_false_iff_not, Bool.not_eq_true', Bool.not_eq_false', Bool.not_eq_true, Bool.not_eq_false, Int.not_lt, Int.not_le, Nat.not_lt, Nat.not_le, Decidable.not_not, ne_eq] at hc0
      omega
    · try simp only [decide_eq_true_eq, decide_eq_false_iff_not, Bool.not_eq_true', Bool.not_eq_false', Bool.not_eq_true, Bool.not_eq_false, Int.not_lt, Int.not_le, Nat.not_lt, Nat.not_le, Decidable.not_not, ne_eq] at hc0
      refine WC_skip ?_
      refine Ps_next hK2 ?_
      refine WC_sr fun K5 hK5 => ?_
      refine WL_rd (Rd_move rfl) rfl rfl rfl ?_
      refine WL_ac (Ac_make (f := eN) (l := n) (c := n) encN 0 rfl rfl ud101 el3 zr3) rfl rfl rfl ?_
      rintro _ _ ⟨b17, rfl, rfl⟩
      refine WL_rd (Rd_assign rfl) rfl rfl rfl ?_
      refine WL_end hK5 ?_
      refine WC_seq fun K6 hK6 => ?_
      refine WC_sr fun K7 hK7 => ?_
      refine WL_rd (Rd_assign rfl) rfl rfl rfl ?_
      refine WL_end hK7 ?_
      refine WC_block ?_
      rw [show arr (some b17) n 1 3 eN (List.replicate n 0) = arr (some b17) n 1 3 eN (docL (ringD x) n 0) from rfl]
      refine WC_loopK (σ := Nat) (fun k => [(7, .int .i64 ((k : Nat) : Int))]) (fun k => [arr (some b17) n 1 3 eN (docL (ringD x) n k)]) (fun k => k ≤ n) (fun k => n - k) (0) [1, 2, 4, 5, 6, 43] (by repeat (first | exact Kep.nil | apply Kep.drop rfl | apply Kep.keep rfl)) (by (try dsimp only); repeat (first | with_reducible exact Gv.nil | (with_reducible apply Gv.cons; · (repeat (first | with_reducible exact Ext.here | with_reducible apply Ext.there))))) ?_ ?_ Sub.refl ?_
      · exact Nat.zero_le _
      · (try dsimp only); exact (Wk.cons (by first | rfl | (simp only [List.length_append, List.length_cons, List.length_nil, List.length_replicate, Nat.zero_add]; rfl) | (simp; done)) Wk.nil)
      · rintro k hk K8 hK8
        simp only [List.cons_append, List.nil_append]
        have hdl := docL_len (ringD x) n k
        refine WC_seq fun K9 hK9 => ?_
        refine WC_sr fun K10 hK10 => ?_
        refine WL_rd (Rd_move rfl) rfl rfl rfl ?_
        refine WL_rd (Rd_move rfl) rfl rfl rfl ?_
        refine WL_rd (Rd_lssN rfl rfl) rfl rfl rfl ?_
        refine WL_end hK10 ?_
        refine WC_cond rfl (fun hc1 => ?_) (fun hc1 => ?_)
        · try simp only [decide_eq_true_eq, decide_eq_false_iff_not, Bool.not_eq_true', Bool.not_eq_false', Bool.not_eq_true, Bool.not_eq_false, Int.not_lt, Int.not_le, Nat.not_lt, Nat.not_le, Decidable.not_not, ne_eq] at hc1
          refine WC_skip ?_
          refine Ps_next hK9 ?_
          refine WC_seq fun K11 hK11 => ?_
          refine WC_block ?_
          refine WC_sr fun K12 hK12 => ?_
          refine WL_rd (Rd_assign rfl) rfl rfl rfl ?_
          refine WL_end hK12 ?_
          refine WC_seq fun K13 hK13 => ?_
          refine WC_sr fun K14 hK14 => ?_
          refine WL_rd (Rd_assign rfl) rfl rfl rfl ?_
          refine WL_end hK14 ?_
          refine WC_block ?_
          refine WC_loopK (σ := Nat × Nat) (fun ⟨t, r⟩ => [(8, .int .i64 ((r : Nat) : Int)), (9, .int .i64 ((t : Nat) : Int))]) (fun ⟨t, r⟩ => []) (fun ⟨t, r⟩ => t ≤ n ∧ r = rkM (ringD x) k t) (fun ⟨t, r⟩ => n - t) ⟨0, 0⟩ [1, 2, 4, 5, 6, 7, 18, 19, 20, 21, 22, 39, 40, 41, 42, 43] (by repeat (first | exact Kep.nil | apply Kep.drop rfl | apply Kep.keep rfl)) (by (try dsimp only); repeat (first | with_reducible exact Gv.nil | (with_reducible apply Gv.cons; · (repeat (first | with_reducible exact Ext.here | with_reducible apply Ext.there))))) ?_ ?_ Sub.refl ?_
          · exact ⟨Nat.zero_le _, rfl⟩
          · (try dsimp only); exact (Wk.cons (by first | rfl | (simp only [List.length_append, List.length_cons, List.length_nil, List.length_replicate, Nat.zero_add]; rfl) | (simp; done)) (Wk.cons (by first | rfl | (simp only [List.length_append, List.length_cons, List.length_nil, List.length_replicate, Nat.zero_add]; rfl) | (simp; done)) Wk.nil))
          · rintro ⟨t, r⟩ ⟨ht, hr⟩ K15 hK15
            simp only [List.cons_append, List.nil_append]
            have hrl := rkM_le (ringD x) k t
            refine WC_seq fun K16 hK16 => ?_
            refine WC_sr fun K17 hK17 => ?_
            refine WL_rd (Rd_move rfl) rfl rfl rfl ?_
            refine WL_rd (Rd_move rfl) rfl rfl rfl ?_
            refine WL_rd (Rd_lssN rfl rfl) rfl rfl rfl ?_
            refine WL_end hK17 ?_
            refine WC_cond rfl (fun hc2 => ?_) (fun hc2 => ?_)
            · try simp only [decide_eq_true_eq, decide_eq_false_iff_not, Bool.not_eq_true', Bool.not_eq_false', Bool.not_eq_true, Bool.not_eq_false, Int.not_lt, Int.not_le, Nat.not_lt, Nat.not_le, Decidable.not_not, ne_eq] at hc2
              refine WC_skip ?_
              refine Ps_next hK16 ?_
              refine WC_seq fun K18 hK18 => ?_
              refine WC_block ?_
              refine WC_sr fun K19 hK19 => ?_
              refine WL_rd (Rd_move rfl) rfl rfl rfl ?_
              refine WL_rd (Rd_move rfl) rfl rfl rfl ?_
              refine WL_rd (Rd_neqN rfl rfl) rfl rfl rfl ?_
              refine WL_rd (Rd_move rfl) rfl rfl rfl ?_
              refine WL_bool 31 rfl (fun hg20 => ?_) (fun hg20 => ?_)
              · try simp only [decide_eq_true_eq, decide_eq_false_iff_not, Bool.not_eq_true', Bool.not_eq_false', Bool.not_eq_true, Bool.not_eq_false, Int.not_lt, Int.not_le, Nat.not_lt, Nat.not_le, Decidable.not_not, ne_eq] at hg20
                have q0 := hg20
                refine WL_rd (Rd_loadW rfl tk120) rfl rfl rfl ?_
                refine WL_rd (Rd_move rfl) rfl rfl rfl ?_
                refine WL_rd (Rd_move rfl) rfl rfl rfl ?_
                refine WL_ac (Ac_call cf129 rfl (hs := aheadR_ct (x := x) (a := t) (b := k))) rfl rfl rfl ?_
                rintro _ _ ⟨⟨⟩, rfl, hA⟩
                simp only [List.cons_append, List.nil_append] at hA
                replace hA := hA.symm
                subst hA
                refine WL_rd (Rd_pickT rfl rfl) rfl rfl rfl ?_
                refine WL_end hK19 ?_
                refine WC_cond rfl (fun hc3 => ?_) (fun hc3 => ?_)
                · try simp only [decide_eq_true_eq, decide_eq_false_iff_not, Bool.not_eq_true', Bool.not_eq_false', Bool.not_eq_true, Bool.not_eq_false, Int.not_lt, Int.not_le, Nat.not_lt, Nat.not_le, Decidable.not_not, ne_eq] at hc3
                  refine WC_region ?_
                  refine WL_rd (Rd_move rfl) rfl rfl rfl ?_
                  refine WL_rd (Rd_addN (j := 1) rfl rfl) rfl rfl rfl ?_
                  refine WL_rd (Rd_assign rfl) rfl rfl rfl ?_
                  refine WL_nil ?_
                  refine Ps_next hK18 ?_
                  refine WC_region ?_
                  refine WL_rd (Rd_move rfl) rfl rfl rfl ?_
                  refine WL_rd (Rd_addN (j := 1) rfl rfl) rfl rfl rfl ?_
                  refine WL_rd (Rd_assign rfl) rfl rfl rfl ?_
                  refine WL_nil ?_
                  refine Ps_wk (by (try simp only [List.cons_append, List.nil_append]); repeat (first | with_reducible exact Wk.nil | refine Wk.cons (by first | rfl | (simp only [List.length_append, List.length_cons, List.length_nil, List.length_replicate, Nat.zero_add]; rfl) | (simp; done)) ?_)) (by (try simp only [List.cons_append, List.nil_append]); repeat (first | with_reducible exact Sub.refl | with_reducible exact Sub.nil | with_reducible refine Sub.cons (by repeat (first | with_reducible exact Ext.here | with_reducible apply Ext.there)) ?_ | with_reducible refine Sub.tail ?_)) (hK15 ⟨t + 1, r + 1⟩ (⟨by (try dsimp only); omega, by (try dsimp only); rw [hr]; show _ = (if t ≠ k ∧ aheadM (ringD x) t k = true then _ else _); rw [if_pos ⟨by omega, by first | exact hc3 | simpa using hc3⟩]⟩) (by (try dsimp only); omega))
                · try simp only [decide_eq_true_eq, decide_eq_false_iff_not, Bool.not_eq_true', Bool.not_eq_false', Bool.not_eq_true, Bool.not_eq_false, Int.not_lt, Int.not_le, Nat.not_lt, Nat.not_le, Decidable.not_not, ne_eq] at hc3
                  refine WC_skip ?_
                  refine Ps_next hK18 ?_
                  refine WC_region ?_
                  refine WL_rd (Rd_move rfl) rfl rfl rfl ?_
                  refine WL_rd (Rd_addN (j := 1) rfl rfl) rfl rfl rfl ?_
                  refine WL_rd (Rd_assign rfl) rfl rfl rfl ?_
                  refine WL_nil ?_
                  refine Ps_wk (by (try simp only [List.cons_append, List.nil_append]); repeat (first | with_reducible exact Wk.nil | refine Wk.cons (by first | rfl | (simp only [List.length_append, List.length_cons, List.length_nil, List.length_replicate, Nat.zero_add]; rfl) | (simp; done)) ?_)) (by (try simp only [List.cons_append, List.nil_append]); repeat (first | with_reducible exact Sub.refl | with_reducible exact Sub.nil | with_reducible refine Sub.cons (by repeat (first | with_reducible exact Ext.here | with_reducible apply Ext.there)) ?_ | with_reducible refine Sub.tail ?_)) (hK15 ⟨t + 1, r⟩ (⟨by (try dsimp only); omega, by (try dsimp only); rw [hr]; show _ = (if t ≠ k ∧ aheadM (ringD x) t k = true then _ else _); rw [if_neg (by rintro ⟨q1, q2⟩; first | exact q1 (by omega) | (rw [q2] at hc3; revert hc3; simp))]⟩) (by (try dsimp only); omega))
              · try simp only [decide_eq_true_eq, decide_eq_false_iff_not, Bool.not_eq_true', Bool.not_eq_false', Bool.not_eq_true, Bool.not_eq_false, Int.not_lt, Int.not_le, Nat.not_lt, Nat.not_le, Decidable.not_not, ne_eq] at hg20
                have q0 := hg20
                refine WL_skip rfl rfl rfl ?_
                refine WL_skip rfl rfl rfl ?_
                refine WL_skip rfl rfl rfl ?_
                refine WL_skip rfl rfl rfl ?_
                refine WL_rd (Rd_pickF rfl rfl) rfl rfl rfl ?_
                refine WL_end hK19 ?_
                refine WC_condF rfl ?_
                refine WC_skip ?_
                refine Ps_next hK18 ?_
                refine WC_region ?_
                refine WL_rd (Rd_move rfl) rfl rfl rfl ?_
                refine WL_rd (Rd_addN (j := 1) rfl rfl) rfl rfl rfl ?_
                refine WL_rd (Rd_assign rfl) rfl rfl rfl ?_
                refine WL_nil ?_
                refine Ps_wk (by (try simp only [List.cons_append, List.nil_append]); repeat (first | with_reducible exact Wk.nil | refine Wk.cons (by first | rfl | (simp only [List.length_append, List.length_cons, List.length_nil, List.length_replicate, Nat.zero_add]; rfl) | (simp; done)) ?_)) (by (try simp only [List.cons_append, List.nil_append]); repeat (first | with_reducible exact Sub.refl | with_reducible exact Sub.nil | with_reducible refine Sub.cons (by repeat (first | with_reducible exact Ext.here | with_reducible apply Ext.there)) ?_ | with_reducible refine Sub.tail ?_)) (hK15 ⟨t + 1, r⟩ (⟨by (try dsimp only); omega, by (try dsimp only); rw [hr]; show _ = (if t ≠ k ∧ aheadM (ringD x) t k = true then _ else _); rw [if_neg (by rintro ⟨q1, q2⟩; first | exact q1 (by omega) | (rw [q2] at hc3; revert hc3; simp))]⟩) (by (try dsimp only); omega))
            · try simp only [decide_eq_true_eq, decide_eq_false_iff_not, Bool.not_eq_true', Bool.not_eq_false', Bool.not_eq_true, Bool.not_eq_false, Int.not_lt, Int.not_le, Nat.not_lt, Nat.not_le, Decidable.not_not, ne_eq] at hc2
              obtain rfl : t = n := by omega
              have hrl2 := rk_lt (d := ringD x) (show k < t by omega)
              refine WC_exit ?_
              refine Ps_next hK13 ?_
              refine WC_region ?_
              refine WL_rd (Rd_move rfl) rfl rfl rfl ?_
              refine WL_rd (Rd_move rfl) rfl rfl rfl ?_
              refine WL_rd (Rd_move rfl) rfl rfl rfl ?_
              refine WL_rd (Rd_index _ rfl rfl ud101 sz3) rfl rfl rfl ?_
              refine WL_ac0 (Ac_store_arr k rfl rfl sz3 (j := 0) (i := r) (hl := at_N (by omega))) rfl rfl ?_
              rintro _ _ rfl
              rw [show (docL (ringD x) t k).set r k = docL (ringD x) t (k + 1) from by rw [hr]; rfl]
              refine WL_nil ?_
              refine Ps_next hK11 ?_
              refine WC_region ?_
              refine WL_rd (Rd_move rfl) rfl rfl rfl ?_
              refine WL_rd (Rd_addN (j := 1) rfl rfl) rfl rfl rfl ?_
              refine WL_rd (Rd_assign rfl) rfl rfl rfl ?_
              refine WL_nil ?_
              refine Ps_wk (by (try simp only [List.cons_append, List.nil_append]); repeat (first | with_reducible exact Wk.nil | refine Wk.cons (by first | rfl | (simp only [List.length_append, List.length_cons, List.length_nil, List.length_replicate, Nat.zero_add]; rfl) | (simp; done)) ?_)) (by (try simp only [List.cons_append, List.nil_append]); repeat (first | with_reducible exact Sub.refl | with_reducible exact Sub.nil | with_reducible refine Sub.cons (by repeat (first | with_reducible exact Ext.here | with_reducible apply Ext.there)) ?_ | with_reducible refine Sub.tail ?_)) (hK8 (k + 1) (by omega) (by omega))
        · try simp only [decide_eq_true_eq, decide_eq_false_iff_not, Bool.not_eq_true', Bool.not_eq_false', Bool.not_eq_true, Bool.not_eq_false, Int.not_lt, Int.not_le, Nat.not_lt, Nat.not_le, Decidable.not_not, ne_eq] at hc1
          obtain rfl : k = n := by omega
          rw [docL_ord]
          refine WC_exit ?_
          refine Ps_next hK6 ?_
          refine WC_sr fun K21 hK21 => ?_
          refine WL_rd (Rd_move rfl) rfl rfl rfl ?_
          refine WL_rd (Rd_assign rfl) rfl rfl rfl ?_
          refine WL_rd (Rd_assign rfl) rfl rfl rfl ?_
          refine WL_end hK21 ?_
          refine WC_ret ?_
          exact hret.go b17 (Rs2 rfl rfl rfl)

theorem rRoundN_ct {x : List B8} {n f : Int} (hx : x.length = 16 := by first | with_reducible assumption | omega) (hb : n < 1 ∨ 32 < n) : Ct Try.prog 75 [aU .u8 x, .int .i64 n, .int .i64 f] [] (fun _ : Unit => .tuple #[sl none 0 0, sl none 0 0]) (fun _ => []) := by
  refine Ct_body (n := 55) Try.func75 rfl rfl rfl fun F w0 Q hret hnorm hp => ?_
  change WC _ _ _ _ _ _ _ (F)
  refine WC_sr fun K1 hK1 => ?_
  refine WL_ac (Ac_boxW (k := .u8) rfl) rfl rfl rfl ?_
  rintro _ _ ⟨b3, rfl, rfl⟩
  refine WL_rd (Rd_assign (v := sl none 0 0) rfl) rfl rfl rfl ?_
  refine WL_rd (Rd_assign (v := sl none 0 0) rfl) rfl rfl rfl ?_
  refine WL_end hK1 ?_
  refine WC_sr fun K2 hK2 => ?_
  refine WL_rd (Rd_loadW rfl tk120) rfl rfl rfl ?_
  refine WL_rd (Rd_move rfl) rfl rfl rfl ?_
  refine WL_ac (Ac_call cf72 rfl (hs := rOrderN_ct (x := x) (n := n) (hb := hb))) rfl rfl rfl ?_
  rintro _ _ ⟨⟨⟩, rfl, hA⟩
  simp only [List.cons_append, List.nil_append] at hA
  replace hA := hA.symm
  subst hA
  refine WL_rd (Rd_move rfl) rfl rfl rfl ?_
  refine WL_rd (Rd_ext0 rfl) rfl rfl rfl ?_
  refine WL_rd (Rd_ext1 rfl) rfl rfl rfl ?_
  refine WL_rd (Rd_assign rfl) rfl rfl rfl ?_
  refine WL_rd (Rd_assign rfl) rfl rfl rfl ?_
  refine WL_end hK2 ?_
  refine WC_seq fun K3 hK3 => ?_
  refine WC_sr fun K4 hK4 => ?_
  refine WL_rd (Rd_move rfl) rfl rfl rfl ?_
  refine WL_rd (Rd_neqN (i := 2) (j := 0) rfl rfl) rfl rfl rfl ?_
  refine WL_end hK4 ?_
  refine WC_condT rfl ?_
  refine WC_sr fun K5 hK5 => ?_
  refine WL_rd (Rd_assign (v := sl none 0 0) rfl) rfl rfl rfl ?_
  refine WL_rd (Rd_assign (v := sl none 0 0) rfl) rfl rfl rfl ?_
  refine WL_end hK5 ?_
  refine WC_ret ?_
  exact hret.go () (Rs2 rfl rfl rfl)

theorem rRound_ct {x : List B8} {n : Nat} {f : Int} (hx : x.length = 16 := by first | with_reducible assumption | omega) (h1 : 1 ≤ n := by omega) (h2 : n ≤ 32 := by omega) : Ct Try.prog 75 [aU .u8 x, .int .i64 ((n : Nat) : Int), .int .i64 f] [] (fun g : (Option Nat × Nat) × (Option Nat × Nat) => .tuple #[sl g.1.1 n g.1.2, sl g.2.1 n g.2.2]) (fun g => [arr g.1.1 g.1.2 1 3 eN ((List.range n).map fun i => (pickN f n + i) % n), arr g.2.1 g.2.2 1 3 eN ((List.range n).map fun i => (ordL (ringD x) n).getD ((pickN f n + i) % n) 0)]) := by
  refine Ct_body (n := 55) Try.func75 rfl rfl rfl fun F w0 Q hret hnorm hp => ?_
  change WC _ _ _ _ _ _ _ (F)
  have htm := tmod_abs f h1
  have hol := ordL_len (ringD x) n
  have hpl := pickN_lt (x := f) h1
  refine WC_sr fun K1 hK1 => ?_
  refine WL_ac (Ac_boxW (k := .u8) rfl) rfl rfl rfl ?_
  rintro _ _ ⟨b3, rfl, rfl⟩
  refine WL_rd (Rd_assign (v := sl none 0 0) rfl) rfl rfl rfl ?_
  refine WL_rd (Rd_assign (v := sl none 0 0) rfl) rfl rfl rfl ?_
  refine WL_end hK1 ?_
  refine WC_sr fun K2 hK2 => ?_
  refine WL_rd (Rd_loadW rfl tk120) rfl rfl rfl ?_
  refine WL_rd (Rd_move rfl) rfl rfl rfl ?_
  refine WL_ac (Ac_call cf72 rfl (hs := rOrder_ct (x := x) (n := n))) rfl rfl rfl ?_
  rintro _ _ ⟨og, rfl, hA⟩
  simp only [List.cons_append, List.nil_append] at hA
  replace hA := hA.symm
  subst hA
  refine WL_rd (Rd_move rfl) rfl rfl rfl ?_
  refine WL_rd (Rd_ext0 rfl) rfl rfl rfl ?_
  refine WL_rd (Rd_ext1 rfl) rfl rfl rfl ?_
  refine WL_rd (Rd_assign rfl) rfl rfl rfl ?_
  refine WL_rd (Rd_assign rfl) rfl rfl rfl ?_
  refine WL_end hK2 ?_
  refine WC_seq fun K3 hK3 => ?_
  refine WC_sr fun K4 hK4 => ?_
  refine WL_rd (Rd_move rfl) rfl rfl rfl ?_
  refine WL_rd (Rd_neqN (i := 0) (j := 0) rfl rfl) rfl rfl rfl ?_
  refine WL_end hK4 ?_
  refine WC_condF rfl ?_
  refine WC_skip ?_
  refine Ps_next hK3 ?_
  refine WC_sr fun K5 hK5 => ?_
  refine WL_rd (Rd_move rfl) rfl rfl rfl ?_
  refine WL_rd (Rd_move rfl) rfl rfl rfl ?_
  refine WL_rd (Rd_rem' rfl rfl (by omega) rfl) rfl rfl rfl ?_
  refine WL_rd (Rd_assign rfl) rfl rfl rfl ?_
  refine WL_end hK5 ?_
  refine WC_seq fun K6 hK6 => ?_
  refine WC_sr fun K7 hK7 => ?_
  refine WL_rd (Rd_move rfl) rfl rfl rfl ?_
  refine WL_rd (Rd_lss rfl rfl) rfl rfl rfl ?_
  refine WL_end hK7 ?_
  refine WC_cond rfl (fun hc1 => ?_) (fun hc1 => ?_)
  · try simp only [decide_eq_true_eq, decide_eq_false_iff_not, Bool.not_eq_true', Bool.not_eq_false', Bool.not_eq_true, Bool.not_eq_false, Int.not_lt, Int.not_le, Nat.not_lt, Nat.not_le, Decidable.not_not, ne_eq] at hc1
    refine WC_region ?_
    refine WL_rd (Rd_move rfl) rfl rfl rfl ?_
    refine WL_rd (Rd_move rfl) rfl rfl rfl ?_
    refine WL_rd (Rd_add' rfl rfl (wr64 rfl (by omega) (by omega))) rfl rfl rfl ?_
    rw [pick_neg h1 hc1]
    refine WL_rd (Rd_assign rfl) rfl rfl rfl ?_
    refine WL_nil ?_
    refine Ps_next hK6 ?_
    refine WC_sr fun K8 hK8 => ?_
    refine WL_rd (Rd_assign (v := sl none 0 0) rfl) rfl rfl rfl ?_
    refine WL_nilarr eN 1 3 ?_
    refine WL_rd (Rd_assign (v := sl none 0 0) rfl) rfl rfl rfl ?_
    refine WL_nilarr eN 1 3 ?_
    refine WL_end hK8 ?_
    refine WC_seq fun K9 hK9 => ?_
    refine WC_sr fun K10 hK10 => ?_
    refine WL_rd (Rd_assign rfl) rfl rfl rfl ?_
    refine WL_end hK10 ?_
    refine WC_block ?_
    refine WC_loopK (σ := Nat × (Option Nat) × Nat × (Option Nat) × Nat) (fun ⟨k, ra, rc, sa, sc⟩ => [(10, sl ra k rc), (11, sl sa k sc), (12, .int .i64 ((k : Nat) : Int))]) (fun ⟨k, ra, rc, sa, sc⟩ => [arr ra rc 1 3 eN ((List.range k).map fun i => (pickN f n + i) % n), arr sa sc 1 3 eN ((List.range k).map fun i => (ordL (ringD x) n).getD ((pickN f n + i) % n) 0)]) (fun ⟨k, ra, rc, sa, sc⟩ => k ≤ n) (fun ⟨k, ra, rc, sa, sc⟩ => n - k) ⟨0, none, 0, none, 0⟩ [1, 2, 6, 7, 8, 53, 54] (by repeat (first | exact Kep.nil | apply Kep.drop rfl | apply Kep.keep rfl)) (by (simp only [List.range_zero, List.map_nil]); repeat (first | with_reducible exact Gv.nil | (with_reducible apply Gv.cons; · (repeat (first | with_reducible exact Ext.here | with_reducible apply Ext.there))))) ?_ ?_ Sub.refl ?_
    · exact Nat.zero_le _
    · (try dsimp only); exact (Wk.cons (by first | rfl | (simp only [List.length_append, List.length_cons, List.length_nil, List.length_replicate, Nat.zero_add]; rfl) | (simp; done)) (Wk.cons (by first | rfl | (simp only [List.length_append, List.length_cons, List.length_nil, List.length_replicate, Nat.zero_add]; rfl) | (simp; done)) (Wk.cons (by first | rfl | (simp only [List.length_append, List.length_cons, List.length_nil, List.length_replicate, Nat.zero_add]; rfl) | (simp; done)) Wk.nil)))
    · rintro ⟨k, ra, rc, sa, sc⟩ hk K11 hK11
      simp only [List.cons_append, List.nil_append]
      refine WC_seq fun K12 hK12 => ?_
      refine WC_sr fun K13 hK13 => ?_
      refine WL_rd (Rd_move rfl) rfl rfl rfl ?_
      refine WL_rd (Rd_move rfl) rfl rfl rfl ?_
      refine WL_rd (Rd_lssN rfl rfl) rfl rfl rfl ?_
      refine WL_end hK13 ?_
      refine WC_cond rfl (fun hc2 => ?_) (fun hc2 => ?_)
      · try simp only [decide_eq_true_eq, decide_eq_false_iff_not, Bool.not_eq_true', Bool.not_eq_false', Bool.not_eq_true, Bool.not_eq_false, Int.not_lt, Int.not_le, Nat.not_lt, Nat.not_le, Decidable.not_not, ne_eq] at hc2
        have hmod : ((pickN f n + k) % n) < n := Nat.mod_lt _ (by omega)
        have hk1 : ((List.range k).map fun i => (pickN f n + i) % n).length = k := by simp
        have hk2 : ((List.range k).map fun i => (ordL (ringD x) n).getD ((pickN f n + i) % n) 0).length = k := by simp
        refine WC_skip ?_
        refine Ps_next hK12 ?_
        refine WC_seq fun K14 hK14 => ?_
        refine WC_block ?_
        refine WC_sr fun K15 hK15 => ?_
        refine WL_rd (Rd_move rfl) rfl rfl rfl ?_
        refine WL_rd (Rd_move rfl) rfl rfl rfl ?_
        refine WL_rd (Rd_move rfl) rfl rfl rfl ?_
        refine WL_rd (Rd_addN rfl rfl) rfl rfl rfl ?_
        refine WL_rd (Rd_move rfl) rfl rfl rfl ?_
        refine WL_rd (Rd_remN rfl rfl) rfl rfl rfl ?_
        refine WL_ac (Ac_bs1 rfl ud101 zr3 sz3) rfl rfl rfl ?_
        rintro _ _ ⟨b40, rfl, rfl⟩
        refine WL_ac (Ac_append1 (f := eN) encN ((pickN f n + k) % n) rfl rfl ud101 ud101 el3) rfl rfl rfl ?_
        rintro _ _ ⟨a41, cap41, rfl, rfl⟩
        rw [hk1, show ((List.range k).map fun i => (pickN f n + i) % n) ++ [((pickN f n + k) % n)] = ((List.range (k + 1)).map fun i => (pickN f n + i) % n) from by rw [List.range_succ, List.map_append]; rfl]
        refine WL_rd (Rd_assign rfl) rfl rfl rfl ?_
        refine WL_end hK15 ?_
        refine WC_region ?_
        refine WL_rd (Rd_move rfl) rfl rfl rfl ?_
        refine WL_rd (Rd_move rfl) rfl rfl rfl ?_
        refine WL_rd (Rd_move rfl) rfl rfl rfl ?_
        refine WL_rd (Rd_move rfl) rfl rfl rfl ?_
        refine WL_rd (Rd_addN rfl rfl) rfl rfl rfl ?_
        refine WL_rd (Rd_move rfl) rfl rfl rfl ?_
        refine WL_rd (Rd_remN rfl rfl) rfl rfl rfl ?_
        refine WL_rd (Rd_index ((pickN f n + k) % n) rfl rfl ud101 sz3 (hi := by omega)) rfl rfl rfl ?_
        refine WL_rd (Rd_load_arr (i := ((pickN f n + k) % n)) (j := 0) rfl tk3 (hl := at_N (by omega))) rfl rfl rfl ?_
        refine WL_ac (Ac_bs1 rfl ud101 zr3 sz3) rfl rfl rfl ?_
        rintro _ _ ⟨b51, rfl, rfl⟩
        refine WL_ac (Ac_append1 (f := eN) encN ((ordL (ringD x) n).getD ((pickN f n + k) % n) 0) rfl rfl ud101 ud101 el3) rfl rfl rfl ?_
        rintro _ _ ⟨a52, cap52, rfl, rfl⟩
        rw [hk2, show ((List.range k).map fun i => (ordL (ringD x) n).getD ((pickN f n + i) % n) 0) ++ [(ordL (ringD x) n).getD ((pickN f n + k) % n) 0] = ((List.range (k + 1)).map fun i => (ordL (ringD x) n).getD ((pickN f n + i) % n) 0) from by rw [List.range_succ, List.map_append]; rfl]
        refine WL_rd (Rd_assign rfl) rfl rfl rfl ?_
        refine WL_nil ?_
        refine Ps_next hK14 ?_
        refine WC_region ?_
        refine WL_rd (Rd_move rfl) rfl rfl rfl ?_
        refine WL_rd (Rd_addN (j := 1) rfl rfl) rfl rfl rfl ?_
        refine WL_rd (Rd_assign rfl) rfl rfl rfl ?_
        refine WL_nil ?_
        refine Ps_wk (by (try simp only [List.cons_append, List.nil_append]); repeat (first | with_reducible exact Wk.nil | refine Wk.cons (by first | rfl | (simp only [List.length_append, List.length_cons, List.length_nil, List.length_replicate, Nat.zero_add]; rfl) | (simp; done)) ?_)) (by (try simp only [List.cons_append, List.nil_append]); repeat (first | with_reducible exact Sub.refl | with_reducible exact Sub.nil | with_reducible refine Sub.cons (by repeat (first | with_reducible exact Ext.here | with_reducible apply Ext.there)) ?_ | with_reducible refine Sub.tail ?_)) (hK11 ⟨k + 1, a41, cap41, a52, cap52⟩ (by (try dsimp only); omega) (by (try dsimp only); omega))
      · try simp only [decide_eq_true_eq, decide_eq_false_iff_not, Bool.not_eq_true', Bool.not_eq_false', Bool.not_eq_true, Bool.not_eq_false, Int.not_lt, Int.not_le, Nat.not_lt, Nat.not_le, Decidable.not_not, ne_eq] at hc2
        obtain rfl : k = n := by omega
        refine WC_exit ?_
        refine Ps_next hK9 ?_
        refine WC_sr fun K16 hK16 => ?_
        refine WL_rd (Rd_move rfl) rfl rfl rfl ?_
        refine WL_rd (Rd_move rfl) rfl rfl rfl ?_
        refine WL_rd (Rd_assign rfl) rfl rfl rfl ?_
        refine WL_rd (Rd_assign rfl) rfl rfl rfl ?_
        refine WL_end hK16 ?_
        refine WC_ret ?_
        exact hret.go ((ra, rc), (sa, sc)) (Rs2 rfl rfl rfl)
  · try simp only [decide_eq_true_eq, decide_eq_false_iff_not, Bool.not_eq_true', Bool.not_eq_false', Bool.not_eq_true, Bool.not_eq_false, Int.not_lt, Int.not_le, Nat.not_lt, Nat.not_le, Decidable.not_not, ne_eq] at hc1
    rw [pick_pos h1 (by omega)]
    refine WC_skip ?_
    refine Ps_next hK6 ?_
    refine WC_sr fun K17 hK17 => ?_
    refine WL_rd (Rd_assign (v := sl none 0 0) rfl) rfl rfl rfl ?_
    refine WL_nilarr eN 1 3 ?_
    refine WL_rd (Rd_assign (v := sl none 0 0) rfl) rfl rfl rfl ?_
    refine WL_nilarr eN 1 3 ?_
    refine WL_end hK17 ?_
    refine WC_seq fun K18 hK18 => ?_
    refine WC_sr fun K19 hK19 => ?_
    refine WL_rd (Rd_assign rfl) rfl rfl rfl ?_
    refine WL_end hK19 ?_
    refine WC_block ?_
    refine WC_loopK (σ := Nat × (Option Nat) × Nat × (Option Nat) × Nat) (fun ⟨k, ra, rc, sa, sc⟩ => [(10, sl ra k rc), (11, sl sa k sc), (12, .int .i64 ((k : Nat) : Int))]) (fun ⟨k, ra, rc, sa, sc⟩ => [arr ra rc 1 3 eN ((List.range k).map fun i => (pickN f n + i) % n), arr sa sc 1 3 eN ((List.range k).map fun i => (ordL (ringD x) n).getD ((pickN f n + i) % n) 0)]) (fun ⟨k, ra, rc, sa, sc⟩ => k ≤ n) (fun ⟨k, ra, rc, sa, sc⟩ => n - k) ⟨0, none, 0, none, 0⟩ [1, 2, 6, 7, 8, 53, 54] (by repeat (first | exact Kep.nil | apply Kep.drop rfl | apply Kep.keep rfl)) (by (simp only [List.range_zero, List.map_nil]); repeat (first | with_reducible exact Gv.nil | (with_reducible apply Gv.cons; · (repeat (first | with_reducible exact Ext.here | with_reducible apply Ext.there))))) ?_ ?_ Sub.refl ?_
    · exact Nat.zero_le _
    · (try dsimp only); exact (Wk.cons (by first | rfl | (simp only [List.length_append, List.length_cons, List.length_nil, List.length_replicate, Nat.zero_add]; rfl) | (simp; done)) (Wk.cons (by first | rfl | (simp only [List.length_append, List.length_cons, List.length_nil, List.length_replicate, Nat.zero_add]; rfl) | (simp; done)) (Wk.cons (by first | rfl | (simp only [List.length_append, List.length_cons, List.length_nil, List.length_replicate, Nat.zero_add]; rfl) | (simp; done)) Wk.nil)))
    · rintro ⟨k, ra, rc, sa, sc⟩ hk K20 hK20
      simp only [List.cons_append, List.nil_append]
      refine WC_seq fun K21 hK21 => ?_
      refine WC_sr fun K22 hK22 => ?_
      refine WL_rd (Rd_move rfl) rfl rfl rfl ?_
      refine WL_rd (Rd_move rfl) rfl rfl rfl ?_
      refine WL_rd (Rd_lssN rfl rfl) rfl rfl rfl ?_
      refine WL_end hK22 ?_
      refine WC_cond rfl (fun hc2 => ?_) (fun hc2 => ?_)
      · try simp only [decide_eq_true_eq, decide_eq_false_iff_not, Bool.not_eq_true', Bool.not_eq_false', Bool.not_eq_true, Bool.not_eq_false, Int.not_lt, Int.not_le, Nat.not_lt, Nat.not_le, Decidable.not_not, ne_eq] at hc2
        have hmod : ((pickN f n + k) % n) < n := Nat.mod_lt _ (by omega)
        have hk1 : ((List.range k).map fun i => (pickN f n + i) % n).length = k := by simp
        have hk2 : ((List.range k).map fun i => (ordL (ringD x) n).getD ((pickN f n + i) % n) 0).length = k := by simp
        refine WC_skip ?_
        refine Ps_next hK21 ?_
        refine WC_seq fun K23 hK23 => ?_
        refine WC_block ?_
        refine WC_sr fun K24 hK24 => ?_
        refine WL_rd (Rd_move rfl) rfl rfl rfl ?_
        refine WL_rd (Rd_move rfl) rfl rfl rfl ?_
        refine WL_rd (Rd_move rfl) rfl rfl rfl ?_
        refine WL_rd (Rd_add' rfl rfl (wr64 rfl (by omega) (by omega))) rfl rfl rfl ?_
        refine WL_rd (Rd_move rfl) rfl rfl rfl ?_
        first | refine WL_rd (Rd_remN rfl rfl) rfl rfl rfl ?_ | refine WL_rd (Rd_rem' rfl rfl (by omega) rfl) rfl rfl rfl ?_
        refine WL_ac (Ac_bs1 rfl ud101 zr3 sz3) rfl rfl rfl ?_
        rintro _ _ ⟨b40, rfl, rfl⟩
        refine WL_ac (Ac_append1 (f := eN) encN ((pickN f n + k) % n) rfl rfl ud101 ud101 el3) rfl rfl rfl ?_
        rintro _ _ ⟨a41, cap41, rfl, rfl⟩
        rw [hk1, show ((List.range k).map fun i => (pickN f n + i) % n) ++ [((pickN f n + k) % n)] = ((List.range (k + 1)).map fun i => (pickN f n + i) % n) from by rw [List.range_succ, List.map_append]; rfl]
        refine WL_rd (Rd_assign rfl) rfl rfl rfl ?_
        refine WL_end hK24 ?_
        refine WC_region ?_
        refine WL_rd (Rd_move rfl) rfl rfl rfl ?_
        refine WL_rd (Rd_move rfl) rfl rfl rfl ?_
        refine WL_rd (Rd_move rfl) rfl rfl rfl ?_
        refine WL_rd (Rd_move rfl) rfl rfl rfl ?_
        refine WL_rd (Rd_add' rfl rfl (wr64 rfl (by omega) (by omega))) rfl rfl rfl ?_
        refine WL_rd (Rd_move rfl) rfl rfl rfl ?_
        first | refine WL_rd (Rd_remN rfl rfl) rfl rfl rfl ?_ | refine WL_rd (Rd_rem' rfl rfl (by omega) rfl) rfl rfl rfl ?_
        refine WL_rd (Rd_index ((pickN f n + k) % n) rfl rfl ud101 sz3 (hi := by omega)) rfl rfl rfl ?_
        refine WL_rd (Rd_load_arr (i := ((pickN f n + k) % n)) (j := 0) rfl tk3 (hl := at_N (by omega))) rfl rfl rfl ?_
        refine WL_ac (Ac_bs1 rfl ud101 zr3 sz3) rfl rfl rfl ?_
        rintro _ _ ⟨b51, rfl, rfl⟩
        refine WL_ac (Ac_append1 (f := eN) encN ((ordL (ringD x) n).getD ((pickN f n + k) % n) 0) rfl rfl ud101 ud101 el3) rfl rfl rfl ?_
        rintro _ _ ⟨a52, cap52, rfl, rfl⟩
        rw [hk2, show ((List.range k).map fun i => (ordL (ringD x) n).getD ((pickN f n + i) % n) 0) ++ [(ordL (ringD x) n).getD ((pickN f n + k) % n) 0] = ((List.range (k + 1)).map fun i => (ordL (ringD x) n).getD ((pickN f n + i) % n) 0) from by rw [List.range_succ, List.map_append]; rfl]
        refine WL_rd (Rd_assign rfl) rfl rfl rfl ?_
        refine WL_nil ?_
        refine Ps_next hK23 ?_
        refine WC_region ?_
        refine WL_rd (Rd_move rfl) rfl rfl rfl ?_
        refine WL_rd (Rd_addN (j := 1) rfl rfl) rfl rfl rfl ?_
        refine WL_rd (Rd_assign rfl) rfl rfl rfl ?_
        refine WL_nil ?_
        refine Ps_wk (by (try simp only [List.cons_append, List.nil_append]); repeat (first | with_reducible exact Wk.nil | refine Wk.cons (by first | rfl | (simp only [List.length_append, List.length_cons, List.length_nil, List.length_replicate, Nat.zero_add]; rfl) | (simp; done)) ?_)) (by (try simp only [List.cons_append, List.nil_append]); repeat (first | with_reducible exact Sub.refl | with_reducible exact Sub.nil | with_reducible refine Sub.cons (by repeat (first | with_reducible exact Ext.here | with_reducible apply Ext.there)) ?_ | with_reducible refine Sub.tail ?_)) (hK20 ⟨k + 1, a41, cap41, a52, cap52⟩ (by (try dsimp only); omega) (by (try dsimp only); omega))
      · try simp only [decide_eq_true_eq, decide_eq_false_iff_not, Bool.not_eq_true', Bool.not_eq_false', Bool.not_eq_true, Bool.not_eq_false, Int.not_lt, Int.not_le, Nat.not_lt, Nat.not_le, Decidable.not_not, ne_eq] at hc2
        obtain rfl : k = n := by omega
        refine WC_exit ?_
        refine Ps_next hK18 ?_
        refine WC_sr fun K25 hK25 => ?_
        refine WL_rd (Rd_move rfl) rfl rfl rfl ?_
        refine WL_rd (Rd_move rfl) rfl rfl rfl ?_
        refine WL_rd (Rd_assign rfl) rfl rfl rfl ?_
        refine WL_rd (Rd_assign rfl) rfl rfl rfl ?_
        refine WL_end hK25 ?_
        refine WC_ret ?_
        exact hret.go ((ra, rc), (sa, sc)) (Rs2 rfl rfl rfl)
end Go.Proofs.Ythkchjcodibaeaa
namespace Go.Proofs.Ythkchjcodibaeaa
open Go.RowKit Go.SL Go.ShM
set_option maxHeartbeats 1000000
set_option maxRecDepth 20000
set_option linter.all false
theorem cf75 : cfn Try.prog 75 = true := by kernel_rfl
theorem sz101 : sz Try.prog 101 = some 1 := by kernel_rfl
theorem sz129 : sz Try.prog 129 = some 1 := by kernel_rfl
theorem tk101 : tk Try.prog 101 = some none := by kernel_rfl
theorem tk129 : tk Try.prog 129 = some none := by kernel_rfl
theorem zr101 : zr Try.prog 101 = some [.slice none 0 0] := by kernel_rfl
theorem zr129 : zr Try.prog 129 = some [.nilFunc] := by kernel_rfl
theorem rk_at' {n i : Nat} {f : Int} {d : Nat → Dg} (h : i < n) : ((List.range n).map fun i => (pickN f n + i) % n)[i]? = some ((pickN f n + i) % n) := by simp [h]
theorem sv_at' {n i : Nat} {f : Int} {l : List Nat} (h : i < n) : ((List.range n).map fun i => l.getD ((pickN f n + i) % n) 0)[i]? = some (l.getD ((pickN f n + i) % n) 0) := by simp [h]

theorem RoundBad_ct {x : List B8} {n f st : Int} (hx : x.length = 16 := by first | with_reducible assumption | omega) (hb : n < 1 ∨ 32 < n) : Ct Try.prog 21 [aU .u8 x, .int .i64 n, .int .i64 f, .int .i64 st] [] (fun _ : Unit => .bool true) (fun _ => []) := by
  refine Ct_body (n := 93) Try.func21 rfl rfl rfl fun F w0 Q hret hnorm hp => ?_
  change WC _ _ _ _ _ _ _ (F)
  refine WC_dfrs0 ?_
  refine WC_sr fun K1 hK1 => ?_
  refine WL_ac (Ac_boxW (k := .u8) rfl) rfl rfl rfl ?_
  rintro _ _ ⟨b4, rfl, rfl⟩
  refine WL_ac (Ac_box rfl rfl) rfl rfl rfl ?_
  rintro _ _ ⟨b7, rfl, rfl⟩
  refine WL_ac (Ac_alloc zr4) rfl rfl rfl ?_
  rintro _ _ ⟨b8, rfl, rfl⟩
  refine WL_end hK1 ?_
  refine WC_sr fun K2 hK2 => ?_
  refine WL_rd (Rd_loadW rfl tk120) rfl rfl rfl ?_
  refine WL_rd (Rd_move rfl) rfl rfl rfl ?_
  refine WL_rd (Rd_move rfl) rfl rfl rfl ?_
  refine WL_ac (Ac_call cf75 rfl (hs := rRoundN_ct (x := x) (n := n) (f := f) (hb := hb))) rfl rfl rfl ?_
  rintro _ _ ⟨⟨⟩, rfl, hA⟩
  simp only [List.cons_append, List.nil_append] at hA
  replace hA := hA.symm
  subst hA
  refine WL_rd (Rd_move rfl) rfl rfl rfl ?_
  refine WL_rd (Rd_ext0 rfl) rfl rfl rfl ?_
  refine WL_rd (Rd_ext1 rfl) rfl rfl rfl ?_
  refine WL_ac (Ac_alloc zr101) rfl rfl rfl ?_
  rintro _ _ ⟨b9, rfl, rfl⟩
  refine WL_ac (Ac_alloc zr101) rfl rfl rfl ?_
  rintro _ _ ⟨b10, rfl, rfl⟩
  refine WL_ac0 (Ac_store1 rfl rfl sz101) rfl rfl ?_
  rintro _ _ rfl
  refine WL_ac0 (Ac_store1 rfl rfl sz101) rfl rfl ?_
  rintro _ _ rfl
  refine WL_end hK2 ?_
  refine WC_sr fun K3 hK3 => ?_
  refine WL_rd (Rd_loadW rfl tk120) rfl rfl rfl ?_
  refine WL_rd (Rd_move rfl) rfl rfl rfl ?_
  refine WL_rd (Rd_move rfl) rfl rfl rfl ?_
  refine WL_ac (Ac_call cf76 rfl (hs := rgRound_ct (x := x) (n := n) (f := f))) rfl rfl rfl ?_
  rintro _ _ ⟨⟨c1, c2, c3⟩, rfl, hA⟩
  simp only [List.cons_append, List.nil_append] at hA
  replace hA := hA.symm
  subst hA
  refine WL_ac (Ac_alloc zr129) rfl rfl rfl ?_
  rintro _ _ ⟨b11, rfl, rfl⟩
  refine WL_ac0 (Ac_store1 rfl rfl sz129) rfl rfl ?_
  rintro _ _ rfl
  refine WL_end hK3 ?_
  refine WC_seq fun K4 hK4 => ?_
  refine WC_sr fun K5 hK5 => ?_
  refine WL_rd (Rd_load rfl tk129) rfl rfl rfl ?_
  first | refine WL_rd (Rd_feq rfl rfl Try.underlying129) rfl rfl rfl ?_ | refine WL_rd (Rd_feq0 rfl rfl Try.underlying129) rfl rfl rfl ?_
  refine WL_end hK5 ?_
  refine WC_condF rfl ?_
  refine WC_skip ?_
  refine Ps_next hK4 ?_
  refine WC_seq fun K6 hK6 => ?_
  refine WC_sr fun K7 hK7 => ?_
  refine WL_ac (Ac_alloc zr3) rfl rfl rfl ?_
  rintro _ _ ⟨b12, rfl, rfl⟩
  refine WL_ac0 (Ac_store1 rfl rfl sz3) rfl rfl ?_
  rintro _ _ rfl
  refine WL_end hK7 ?_
  refine WC_block ?_
  rw [show cl b12 3 [.int .i64 0] = cl b12 3 [.int .i64 ((0 : Nat) : Int)] from rfl]
  refine WC_loopKD (σ := Nat × (List Nat) × Nat) (fun ⟨r, Ds, rb⟩ => [(12, .pointer (some ⟨rb, 0, none⟩))]) (fun ⟨r, Ds, rb⟩ => [dfrs Ds, cl rb 3 [.int .i64 ((r : Nat) : Int)]]) (fun ⟨r, Ds, rb⟩ => r ≤ 3) (fun ⟨r, Ds, rb⟩ => 3 - r) (fun ⟨r, Ds, rb⟩ => Ds.map dmk) ⟨0, [], b12⟩ [7, 8, 9, 10, 11, 36, 37, 70, 71] (by repeat (first | exact Kep.nil | apply Kep.drop rfl | apply Kep.keep rfl)) (by (try dsimp only); repeat (first | with_reducible exact Gv.nil | (with_reducible apply Gv.cons; · (repeat (first | with_reducible exact Ext.here | with_reducible apply Ext.there))))) ?_ rfl ?_ Sub.refl ?_
  · (try dsimp only); omega
  · (try dsimp only); exact (Wk.cons (by first | rfl | (simp only [List.length_append, List.length_cons, List.length_nil, List.length_replicate, Nat.zero_add]; rfl) | (simp; done)) Wk.nil)
  · rintro ⟨r, Ds, rb⟩ hr K8 hK8
    simp only [List.cons_append, List.nil_append]
    refine WC_seq fun K9 hK9 => ?_
    refine WC_sr fun K10 hK10 => ?_
    refine WL_rd (Rd_load rfl tk3) rfl rfl rfl ?_
    refine WL_rd (Rd_lssN (j := 3) rfl rfl) rfl rfl rfl ?_
    refine WL_end hK10 ?_
    refine WC_cond rfl (fun hc1 => ?_) (fun hc1 => ?_)
    · try simp only [decide_eq_true_eq, decide_eq_false_iff_not, Bool.not_eq_true', Bool.not_eq_false', Bool.not_eq_true, Bool.not_eq_false, Int.not_lt, Int.not_le, Nat.not_lt, Nat.not_le, Decidable.not_not, ne_eq] at hc1
      refine WC_skip ?_
      refine Ps_next hK9 ?_
      refine WC_seq fun K11 hK11 => ?_
      refine WC_block ?_
      refine WC_sr fun K12 hK12 => ?_
      refine WL_ac (Ac_alloc zr3) rfl rfl rfl ?_
      rintro _ _ ⟨b13, rfl, rfl⟩
      refine WL_ac0 (Ac_store1 rfl rfl sz3) rfl rfl ?_
      rintro _ _ rfl
      refine WL_end hK12 ?_
      refine WC_seq fun K13 hK13 => ?_
      refine WC_sr fun K14 hK14 => ?_
      refine WL_rd (Rd_load rfl tk129) rfl rfl rfl ?_
      refine WL_end hK14 ?_
      refine WC_block ?_
      refine WC_rf (f := 131) (caps := [.pointer (some ⟨c1, 0, none⟩), .pointer (some ⟨c2, 0, none⟩), .pointer (some ⟨c3, 0, none⟩)]) rfl cf131 fun lrf_0 Drf_0 rrf_0 hstrf_0 hpdrf_0 hparf_0 hasrf_0 hbdrf_0 hfrrf_0 => ?_
      have hyrf_0 : ∀ (_u : Unit) (p q : Int), False → Yd Try.prog lrf_0 [.int .i64 p, .int .i64 q] [(fun (_i : Unit) => exA (fun (_u : Unit) => True) (fun (_u : Unit) => [lp lrf_0 rrf_0])) ()] (fun b : Bool => .bool b) (fun b => [bif b then (fun (_i : Unit) => exA (fun (_u : Unit) => True) (fun (_u : Unit) => [lp lrf_0 rrf_0])) (()) else (exA (fun _ : Unit => False) (fun _ => []))]) := by
        intro _u p q hno
        exact hno.elim
      refine ⟨_, _, _, _, _, (rgRoundN_ct (x := x) (n := n) (f := f) (hb := hb)).frame [(fun (_i : Unit) => exA (fun (_u : Unit) => True) (fun (_u : Unit) => [lp lrf_0 rrf_0])) ()], imp_rf (Y := [_, _, _]) ((())) (trivial) (by repeat (first | with_reducible exact Gv.nil | (with_reducible apply Gv.cons; · (repeat (first | with_reducible exact Ext.here | with_reducible apply Ext.there))))) (by (try dsimp only); repeat (first | with_reducible exact Gv.nil | (with_reducible apply Gv.cons; · (repeat (first | with_reducible exact Ext.here | with_reducible apply Ext.there))))), ?_⟩
      · rintro ⟨⟩
        · simp only [List.cons_append, List.nil_append, cond_true, cond_false]
          refine RfEnd_ex ?_
          rintro _u hφ
          simp only [List.cons_append, List.nil_append]
          refine RfEnd_nrm hstrf_0 hpdrf_0 ?_
          refine Ps_next hK13 ?_
          refine WC_sr fun K15 hK15 => ?_
          refine WL_rd (Rd_load rfl tk3) rfl rfl rfl ?_
          refine WL_rd (Rd_neqN (j := 1) rfl rfl) rfl rfl rfl ?_
          refine WL_rd (Rd_move rfl) rfl rfl rfl ?_
          refine WL_bool 86 rfl (fun hg16 => ?_) (fun hg16 => ?_)
          · try simp only [decide_eq_true_eq, decide_eq_false_iff_not, Bool.not_eq_true', Bool.not_eq_false', Bool.not_eq_true, Bool.not_eq_false, Int.not_lt, Int.not_le, Nat.not_lt, Nat.not_le, Decidable.not_not, ne_eq] at hg16
            refine WL_rd (Rd_load rfl tk3) rfl rfl rfl ?_
            refine WL_rd (Rd_load rfl tk101) rfl rfl rfl ?_
            refine WL_rd (Rd_len rfl rfl ud101) rfl rfl rfl ?_
            refine WL_rd (Rd_isF (Rd_neqN rfl rfl)) rfl rfl rfl ?_
            refine WL_rd (Rd_pickT rfl rfl) rfl rfl rfl ?_
            refine WL_end hK15 ?_
            refine WC_condF rfl ?_
            refine WC_skip ?_
            refine Ps_next hK11 ?_
            refine WC_seq fun K17 hK17 => ?_
            refine WC_sr fun K18 hK18 => ?_
            refine WL_rd (Rd_load rfl tk3) rfl rfl rfl ?_
            refine WL_end hK18 ?_
            refine WC_region ?_
            refine WL_ac (Ac_alloc zr3) rfl rfl rfl ?_
            rintro _ _ ⟨b12, rfl, rfl⟩
            refine WL_ac0 (Ac_store1 rfl rfl sz3) rfl rfl ?_
            rintro _ _ rfl
            refine WL_nil ?_
            refine Ps_next hK17 ?_
            refine WC_region ?_
            refine WL_rd (Rd_load rfl tk3) rfl rfl rfl ?_
            refine WL_rd (Rd_addN (j := 1) rfl rfl) rfl rfl rfl ?_
            refine WL_ac0 (Ac_store1 rfl rfl sz3) rfl rfl ?_
            rintro _ _ rfl
            refine WL_nil ?_
            refine Ps_dfrs (D := Drf_0) ?_
            refine Ps_wk (by (try simp only [List.cons_append, List.nil_append]); repeat (first | with_reducible exact Wk.nil | refine Wk.cons (by first | rfl | (simp only [List.length_append, List.length_cons, List.length_nil, List.length_replicate, Nat.zero_add]; rfl) | (simp; done)) ?_)) (by (try simp only [List.cons_append, List.nil_append]); repeat (first | with_reducible exact Sub.refl | with_reducible exact Sub.nil | with_reducible refine Sub.cons (by repeat (first | with_reducible exact Ext.here | with_reducible apply Ext.there)) ?_ | with_reducible refine Sub.tail ?_)) (hK8 ⟨r + 1, Drf_0 :: Ds, b12⟩ (by (try dsimp only); omega) (by (try dsimp only); omega))
          · try simp only [decide_eq_true_eq, decide_eq_false_iff_not, Bool.not_eq_true', Bool.not_eq_false', Bool.not_eq_true, Bool.not_eq_false, Int.not_lt, Int.not_le, Nat.not_lt, Nat.not_le, Decidable.not_not, ne_eq] at hg16
            refine WL_skip rfl rfl rfl ?_
            refine WL_skip rfl rfl rfl ?_
            refine WL_skip rfl rfl rfl ?_
            refine WL_skip rfl rfl rfl ?_
            refine WL_rd (Rd_pickF rfl rfl) rfl rfl rfl ?_
            refine WL_end hK15 ?_
            refine WC_condF rfl ?_
            refine WC_skip ?_
            refine Ps_next hK11 ?_
            refine WC_seq fun K19 hK19 => ?_
            refine WC_sr fun K20 hK20 => ?_
            refine WL_rd (Rd_load rfl tk3) rfl rfl rfl ?_
            refine WL_end hK20 ?_
            refine WC_region ?_
            refine WL_ac (Ac_alloc zr3) rfl rfl rfl ?_
            rintro _ _ ⟨b12, rfl, rfl⟩
            refine WL_ac0 (Ac_store1 rfl rfl sz3) rfl rfl ?_
            rintro _ _ rfl
            refine WL_nil ?_
            refine Ps_next hK19 ?_
            refine WC_region ?_
            refine WL_rd (Rd_load rfl tk3) rfl rfl rfl ?_
            refine WL_rd (Rd_addN (j := 1) rfl rfl) rfl rfl rfl ?_
            refine WL_ac0 (Ac_store1 rfl rfl sz3) rfl rfl ?_
            rintro _ _ rfl
            refine WL_nil ?_
            refine Ps_dfrs (D := Drf_0) ?_
            refine Ps_wk (by (try simp only [List.cons_append, List.nil_append]); repeat (first | with_reducible exact Wk.nil | refine Wk.cons (by first | rfl | (simp only [List.length_append, List.length_cons, List.length_nil, List.length_replicate, Nat.zero_add]; rfl) | (simp; done)) ?_)) (by (try simp only [List.cons_append, List.nil_append]); repeat (first | with_reducible exact Sub.refl | with_reducible exact Sub.nil | with_reducible refine Sub.cons (by repeat (first | with_reducible exact Ext.here | with_reducible apply Ext.there)) ?_ | with_reducible refine Sub.tail ?_)) (hK8 ⟨r + 1, Drf_0 :: Ds, b12⟩ (by (try dsimp only); omega) (by (try dsimp only); omega))
    · try simp only [decide_eq_true_eq, decide_eq_false_iff_not, Bool.not_eq_true', Bool.not_eq_false', Bool.not_eq_true, Bool.not_eq_false, Int.not_lt, Int.not_le, Nat.not_lt, Nat.not_le, Decidable.not_not, ne_eq] at hc1
      refine WC_exit ?_
      refine Ps_next hK6 ?_
      refine WC_sr fun K21 hK21 => ?_
      refine WL_ac0 (Ac_store1 rfl rfl sz4) rfl rfl ?_
      rintro _ _ rfl
      refine WL_end hK21 ?_
      refine WC_ret ?_
      refine hret.goSE () ?_ rfl
      exact Rs1cs rfl rfl tk4
end Go.Proofs.Ythkchjcodibaeaa
namespace Go.Proofs.Ythkchjcodibaeaa
open Go.RowKit Go.SL Go.ShM
set_option maxHeartbeats 1000000
set_option maxRecDepth 20000
set_option linter.all false

theorem RoundOk_ct {x : List B8} {n : Nat} {f st : Int} (hx : x.length = 16 := by first | with_reducible assumption | omega) (h1 : 1 ≤ n := by omega) (h2 : n ≤ 32 := by omega) : Ct Try.prog 21 [aU .u8 x, .int .i64 ((n : Nat) : Int), .int .i64 f, .int .i64 st] [] (fun _ : Unit => .bool true) (fun _ => []) := by
  refine Ct_body (n := 93) Try.func21 rfl rfl rfl fun F w0 Q hret hnorm hp => ?_
  change WC _ _ _ _ _ _ _ (F)
  refine WC_dfrs0 ?_
  refine WC_sr fun K1 hK1 => ?_
  refine WL_ac (Ac_boxW (k := .u8) rfl) rfl rfl rfl ?_
  rintro _ _ ⟨b4, rfl, rfl⟩
  refine WL_ac (Ac_box rfl rfl) rfl rfl rfl ?_
  rintro _ _ ⟨b7, rfl, rfl⟩
  refine WL_ac (Ac_alloc zr4) rfl rfl rfl ?_
  rintro _ _ ⟨b8, rfl, rfl⟩
  refine WL_end hK1 ?_
  refine WC_sr fun K2 hK2 => ?_
  refine WL_rd (Rd_loadW rfl tk120) rfl rfl rfl ?_
  refine WL_rd (Rd_move rfl) rfl rfl rfl ?_
  refine WL_rd (Rd_move rfl) rfl rfl rfl ?_
  refine WL_ac (Ac_call cf75 rfl (hs := rRound_ct (x := x) (n := n) (f := f))) rfl rfl rfl ?_
  rintro _ _ ⟨⟨⟨ra, rc⟩, ⟨sa, sc⟩⟩, rfl, hA⟩
  simp only [List.cons_append, List.nil_append] at hA
  replace hA := hA.symm
  subst hA
  refine WL_rd (Rd_move rfl) rfl rfl rfl ?_
  refine WL_rd (Rd_ext0 rfl) rfl rfl rfl ?_
  refine WL_rd (Rd_ext1 rfl) rfl rfl rfl ?_
  refine WL_ac (Ac_alloc zr101) rfl rfl rfl ?_
  rintro _ _ ⟨b9, rfl, rfl⟩
  refine WL_ac (Ac_alloc zr101) rfl rfl rfl ?_
  rintro _ _ ⟨b10, rfl, rfl⟩
  refine WL_ac0 (Ac_store1 rfl rfl sz101) rfl rfl ?_
  rintro _ _ rfl
  refine WL_ac0 (Ac_store1 rfl rfl sz101) rfl rfl ?_
  rintro _ _ rfl
  refine WL_end hK2 ?_
  refine WC_sr fun K3 hK3 => ?_
  refine WL_rd (Rd_loadW rfl tk120) rfl rfl rfl ?_
  refine WL_rd (Rd_move rfl) rfl rfl rfl ?_
  refine WL_rd (Rd_move rfl) rfl rfl rfl ?_
  refine WL_ac (Ac_call cf76 rfl (hs := rgRound_ct (x := x) (n := (n : Int)) (f := f))) rfl rfl rfl ?_
  rintro _ _ ⟨⟨c1, c2, c3⟩, rfl, hA⟩
  simp only [List.cons_append, List.nil_append] at hA
  replace hA := hA.symm
  subst hA
  refine WL_ac (Ac_alloc zr129) rfl rfl rfl ?_
  rintro _ _ ⟨b11, rfl, rfl⟩
  refine WL_ac0 (Ac_store1 rfl rfl sz129) rfl rfl ?_
  rintro _ _ rfl
  refine WL_end hK3 ?_
  refine WC_seq fun K4 hK4 => ?_
  refine WC_sr fun K5 hK5 => ?_
  refine WL_rd (Rd_load rfl tk129) rfl rfl rfl ?_
  first | refine WL_rd (Rd_feq rfl rfl Try.underlying129) rfl rfl rfl ?_ | refine WL_rd (Rd_feq0 rfl rfl Try.underlying129) rfl rfl rfl ?_
  refine WL_end hK5 ?_
  refine WC_condF rfl ?_
  refine WC_some (a := ra) (by repeat (first | with_reducible exact Has.here | with_reducible refine Has.there ?_)) (by simp; omega) (fun ga hga _ => ?_)
  subst hga
  refine WC_some (a := sa) (by repeat (first | with_reducible exact Has.here | with_reducible refine Has.there ?_)) (by simp; omega) (fun gs hgs _ => ?_)
  subst hgs
  refine WC_skip ?_
  refine Ps_next hK4 ?_
  refine WC_seq fun K6 hK6 => ?_
  refine WC_sr fun K7 hK7 => ?_
  refine WL_ac (Ac_alloc zr3) rfl rfl rfl ?_
  rintro _ _ ⟨b12, rfl, rfl⟩
  refine WL_ac0 (Ac_store1 rfl rfl sz3) rfl rfl ?_
  rintro _ _ rfl
  refine WL_end hK7 ?_
  refine WC_block ?_
  rw [show cl b12 3 [.int .i64 0] = cl b12 3 [.int .i64 ((0 : Nat) : Int)] from rfl]
  refine WC_loopKD (σ := Nat × (List Nat) × Nat) (fun ⟨r, Ds, rb⟩ => [(12, .pointer (some ⟨rb, 0, none⟩))]) (fun ⟨r, Ds, rb⟩ => [dfrs Ds, cl rb 3 [.int .i64 ((r : Nat) : Int)]]) (fun ⟨r, Ds, rb⟩ => r ≤ 3) (fun ⟨r, Ds, rb⟩ => 3 - r) (fun ⟨r, Ds, rb⟩ => Ds.map dmk) ⟨0, [], b12⟩ [7, 8, 9, 10, 11, 36, 37, 70, 71] (by repeat (first | exact Kep.nil | apply Kep.drop rfl | apply Kep.keep rfl)) (by (try dsimp only); repeat (first | with_reducible exact Gv.nil | (with_reducible apply Gv.cons; · (repeat (first | with_reducible exact Ext.here | with_reducible apply Ext.there))))) ?_ rfl ?_ Sub.refl ?_
  · (try dsimp only); omega
  · (try dsimp only); exact (Wk.cons (by first | rfl | (simp only [List.length_append, List.length_cons, List.length_nil, List.length_replicate, Nat.zero_add]; rfl) | (simp; done)) Wk.nil)
  · rintro ⟨r, Ds, rb⟩ hr K8 hK8
    simp only [List.cons_append, List.nil_append]
    refine WC_seq fun K9 hK9 => ?_
    refine WC_sr fun K10 hK10 => ?_
    refine WL_rd (Rd_load rfl tk3) rfl rfl rfl ?_
    refine WL_rd (Rd_lssN (j := 3) rfl rfl) rfl rfl rfl ?_
    refine WL_end hK10 ?_
    refine WC_cond rfl (fun hc1 => ?_) (fun hc1 => ?_)
    · try simp only [decide_eq_true_eq, decide_eq_false_iff_not, Bool.not_eq_true', Bool.not_eq_false', Bool.not_eq_true, Bool.not_eq_false, Int.not_lt, Int.not_le, Nat.not_lt, Nat.not_le, Decidable.not_not, ne_eq] at hc1
      refine WC_skip ?_
      refine Ps_next hK9 ?_
      refine WC_seq fun K11 hK11 => ?_
      refine WC_block ?_
      refine WC_sr fun K12 hK12 => ?_
      refine WL_ac (Ac_alloc zr3) rfl rfl rfl ?_
      rintro _ _ ⟨b13, rfl, rfl⟩
      refine WL_ac0 (Ac_store1 rfl rfl sz3) rfl rfl ?_
      rintro _ _ rfl
      refine WL_end hK12 ?_
      refine WC_seq fun K13 hK13 => ?_
      refine WC_sr fun K14 hK14 => ?_
      refine WL_rd (Rd_load rfl tk129) rfl rfl rfl ?_
      refine WL_end hK14 ?_
      refine WC_block ?_
      rw [show cl b13 3 [.int .i64 0] = cl b13 3 [.int .i64 ((0 : Nat) : Int)] from rfl]
      refine WC_rf (f := 131) (caps := [.pointer (some ⟨c1, 0, none⟩), .pointer (some ⟨c2, 0, none⟩), .pointer (some ⟨c3, 0, none⟩)]) rfl cf131 fun lrf_0 Drf_0 rrf_0 hstrf_0 hpdrf_0 hparf_0 hasrf_0 hbdrf_0 hfrrf_0 => ?_
      have hyrf_0 : ∀ (i : Nat), i < n → Yd Try.prog lrf_0 [.int .i64 ((((pickN f n + i) % n) : Nat) : Int), .int .i64 ((((ordL (ringD x) n).getD ((pickN f n + i) % n) 0) : Nat) : Int)] [(fun (i : Nat) => exA (fun (_u : Unit) => True) (fun (_u : Unit) => [lp lrf_0 rrf_0, arr (some c1) x.length 1 120 (eU .u8) x, cl c2 3 [.int .i64 ((n : Nat) : Int)], cl c3 3 [.int .i64 f], cl b13 3 [.int .i64 ((i : Nat) : Int)], cl rb 3 [.int .i64 ((r : Nat) : Int)], cl b9 101 [sl (some ga) n rc], cl b10 101 [sl (some gs) n sc], arr (some ga) rc 1 3 eN ((List.range n).map fun i => (pickN f n + i) % n), arr (some gs) sc 1 3 eN ((List.range n).map fun i => (ordL (ringD x) n).getD ((pickN f n + i) % n) 0), cl b11 129 [.func (.func 131) #[] #[.pointer (some ⟨c1, 0, none⟩), .pointer (some ⟨c2, 0, none⟩), .pointer (some ⟨c3, 0, none⟩)]], cl b7 3 [.int .i64 st], cl b8 4 [.bool false]])) i] (fun b : Bool => .bool b) (fun b => [bif b then (fun (i : Nat) => exA (fun (_u : Unit) => True) (fun (_u : Unit) => [lp lrf_0 rrf_0, arr (some c1) x.length 1 120 (eU .u8) x, cl c2 3 [.int .i64 ((n : Nat) : Int)], cl c3 3 [.int .i64 f], cl b13 3 [.int .i64 ((i : Nat) : Int)], cl rb 3 [.int .i64 ((r : Nat) : Int)], cl b9 101 [sl (some ga) n rc], cl b10 101 [sl (some gs) n sc], arr (some ga) rc 1 3 eN ((List.range n).map fun i => (pickN f n + i) % n), arr (some gs) sc 1 3 eN ((List.range n).map fun i => (ordL (ringD x) n).getD ((pickN f n + i) % n) 0), cl b11 129 [.func (.func 131) #[] #[.pointer (some ⟨c1, 0, none⟩), .pointer (some ⟨c2, 0, none⟩), .pointer (some ⟨c3, 0, none⟩)]], cl b7 3 [.int .i64 st], cl b8 4 [.bool false]])) (i + 1) else (exA (fun (j' : Nat) => r = 1) (fun (j' : Nat) => [lp lrf_0 (rcD rrf_0 (.exit 2)), arr (some c1) x.length 1 120 (eU .u8) x, cl c2 3 [.int .i64 ((n : Nat) : Int)], cl c3 3 [.int .i64 f], cl b13 3 [.int .i64 ((j' : Nat) : Int)], cl rb 3 [.int .i64 ((r : Nat) : Int)], cl b9 101 [sl (some ga) n rc], cl b10 101 [sl (some gs) n sc], arr (some ga) rc 1 3 eN ((List.range n).map fun i => (pickN f n + i) % n), arr (some gs) sc 1 3 eN ((List.range n).map fun i => (ordL (ringD x) n).getD ((pickN f n + i) % n) 0), cl b11 129 [.func (.func 131) #[] #[.pointer (some ⟨c1, 0, none⟩), .pointer (some ⟨c2, 0, none⟩), .pointer (some ⟨c3, 0, none⟩)]], cl b7 3 [.int .i64 st], cl b8 4 [.bool false]]))]) := by
        intro i hin
        refine Yd_ex ?_
        rintro _u hφ
        refine Yd_of (pre := [arr (some c1) x.length 1 120 (eU .u8) x, cl c2 3 [.int .i64 ((n : Nat) : Int)], cl c3 3 [.int .i64 f], cl b13 3 [.int .i64 ((i : Nat) : Int)], cl rb 3 [.int .i64 ((r : Nat) : Int)], cl b9 101 [sl (some ga) n rc], cl b10 101 [sl (some gs) n sc], arr (some ga) rc 1 3 eN ((List.range n).map fun i => (pickN f n + i) % n), arr (some gs) sc 1 3 eN ((List.range n).map fun i => (ordL (ringD x) n).getD ((pickN f n + i) % n) 0), cl b11 129 [.func (.func 131) #[] #[.pointer (some ⟨c1, 0, none⟩), .pointer (some ⟨c2, 0, none⟩), .pointer (some ⟨c3, 0, none⟩)]], cl b7 3 [.int .i64 st], cl b8 4 [.bool false]]) hstrf_0 hpdrf_0 hparf_0 hasrf_0 hbdrf_0 hfrrf_0 rfl rfl fun F w0 Q K hp hend hbeg => ?_
        change WC _ _ _ _ _ _ ((37, .int .i64 ((((ordL (ringD x) n).getD ((pickN f n + i) % n) 0) : Nat) : Int)) :: (36, .int .i64 ((((pickN f n + i) % n) : Nat) : Int)) :: _) (_ :: _ :: _ :: _ :: _ :: _ :: _ :: _ :: _ :: _ :: _ :: _ :: _ :: F)
        dsimp only at *
        refine WC_sr fun K15 hK15 => ?_
        refine WL_rd (Rd_assign rfl) rfl rfl rfl ?_
        refine WL_end hK15 ?_
        refine WC_region ?_
        refine WL_rd (Rd_assign rfl) rfl rfl rfl ?_
        refine WL_nil ?_
        refine hbeg (by repeat (first | with_reducible exact Ext.here | with_reducible apply Ext.there)) ?_
        refine WC_block ?_
        refine WC_seq fun K16 hK16 => ?_
        refine WC_sr fun K17 hK17 => ?_
        refine WL_rd (Rd_load rfl tk3) rfl rfl rfl ?_
        refine WL_rd (Rd_load rfl tk101) rfl rfl rfl ?_
        refine WL_rd (Rd_len rfl rfl ud101) rfl rfl rfl ?_
        refine WL_rd (Rd_isF (Rd_geqN rfl rfl)) rfl rfl rfl ?_
        refine WL_rd (Rd_move rfl) rfl rfl rfl ?_
        refine WL_rd (Rd_move rfl) rfl rfl rfl ?_
        refine WL_rd (Rd_load rfl tk101) rfl rfl rfl ?_
        refine WL_rd (Rd_load rfl tk3) rfl rfl rfl ?_
        refine WL_rd (Rd_index i rfl rfl ud101 sz3 (hi := by omega)) rfl rfl rfl ?_
        refine WL_rd (Rd_load_arr (i := i) (j := 0) rfl tk3 (hl := rk_at' (d := ringD x) (by omega))) rfl rfl rfl ?_
        refine WL_rd (Rd_isF (Rd_neqN rfl rfl)) rfl rfl rfl ?_
        refine WL_rd (Rd_pickF rfl rfl) rfl rfl rfl ?_
        refine WL_rd (Rd_move rfl) rfl rfl rfl ?_
        refine WL_rd (Rd_move rfl) rfl rfl rfl ?_
        refine WL_rd (Rd_load rfl tk101) rfl rfl rfl ?_
        refine WL_rd (Rd_load rfl tk3) rfl rfl rfl ?_
        refine WL_rd (Rd_index i rfl rfl ud101 sz3 (hi := by omega)) rfl rfl rfl ?_
        refine WL_rd (Rd_load_arr (i := i) (j := 0) rfl tk3 (hl := sv_at' (by omega))) rfl rfl rfl ?_
        refine WL_rd (Rd_isF (Rd_neqN rfl rfl)) rfl rfl rfl ?_
        refine WL_rd (Rd_pickF rfl rfl) rfl rfl rfl ?_
        refine WL_end hK17 ?_
        refine WC_condF rfl ?_
        refine WC_skip ?_
        refine Ps_next hK16 ?_
        refine WC_sr fun K18 hK18 => ?_
        refine WL_rd (Rd_load rfl tk3) rfl rfl rfl ?_
        refine WL_rd (Rd_addN (j := 1) rfl rfl) rfl rfl rfl ?_
        refine WL_ac0 (Ac_store1 rfl rfl sz3) rfl rfl ?_
        rintro _ _ rfl
        refine WL_end hK18 ?_
        refine WC_seq fun K19 hK19 => ?_
        refine WC_sr fun K20 hK20 => ?_
        refine WL_rd (Rd_load rfl tk3) rfl rfl rfl ?_
        refine WL_rd (Rd_eqlN (j := 1) rfl rfl) rfl rfl rfl ?_
        refine WL_rd (Rd_move rfl) rfl rfl rfl ?_
        refine WL_bool 62 rfl (fun hg21 => ?_) (fun hg21 => ?_)
        · try simp only [decide_eq_true_eq, decide_eq_false_iff_not, Bool.not_eq_true', Bool.not_eq_false', Bool.not_eq_true, Bool.not_eq_false, Int.not_lt, Int.not_le, Nat.not_lt, Nat.not_le, Decidable.not_not, ne_eq] at hg21
          have q0 := hg21
          refine WL_rd (Rd_load rfl tk3) rfl rfl rfl ?_
          refine WL_rd (Rd_load rfl tk3) rfl rfl rfl ?_
          refine WL_rd (Rd_geq rfl rfl) rfl rfl rfl ?_
          refine WL_rd (Rd_pickT rfl rfl) rfl rfl rfl ?_
          refine WL_end hK20 ?_
          refine WC_cond rfl (fun hc3 => ?_) (fun hc3 => ?_)
          · try simp only [decide_eq_true_eq, decide_eq_false_iff_not, Bool.not_eq_true', Bool.not_eq_false', Bool.not_eq_true, Bool.not_eq_false, Int.not_lt, Int.not_le, Nat.not_lt, Nat.not_le, Decidable.not_not, ne_eq] at hc3
            refine WC_exit ?_
            refine hend.exi 2 false rfl (by repeat (first | with_reducible exact Ext.here | with_reducible apply Ext.there)) ?_
            try simp only [List.cons_append, List.nil_append, cond_true, cond_false]
            exact imp_ex (i + 1) (by omega) (by (try dsimp only); (try simp only [List.cons_append, List.nil_append]); repeat (first | with_reducible exact Sub.refl | with_reducible exact Sub.nil | with_reducible refine Sub.cons (by repeat (first | with_reducible exact Ext.here | with_reducible apply Ext.there)) ?_ | with_reducible refine Sub.tail ?_))
          · try simp only [decide_eq_true_eq, decide_eq_false_iff_not, Bool.not_eq_true', Bool.not_eq_false', Bool.not_eq_true, Bool.not_eq_false, Int.not_lt, Int.not_le, Nat.not_lt, Nat.not_le, Decidable.not_not, ne_eq] at hc3
            refine WC_skip ?_
            refine Ps_next hK19 ?_
            refine WC_sr fun K22 hK22 => ?_
            refine WL_rd (Rd_load rfl tk3) rfl rfl rfl ?_
            refine WL_rd (Rd_eqlN (j := 2) rfl rfl) rfl rfl rfl ?_
            refine WL_end hK22 ?_
            refine WC_cond rfl (fun hc4 => ?_) (fun hc4 => ?_)
            · try simp only [decide_eq_true_eq, decide_eq_false_iff_not, Bool.not_eq_true', Bool.not_eq_false', Bool.not_eq_true, Bool.not_eq_false, Int.not_lt, Int.not_le, Nat.not_lt, Nat.not_le, Decidable.not_not, ne_eq] at hc4
              refine WC_sr fun K23 hK23 => ?_
              refine WL_rd (Rd_load rfl tk129) rfl rfl rfl ?_
              refine WL_end hK23 ?_
              refine WC_block ?_
              refine WC_rfi (f := 131) (caps := [.pointer (some ⟨c1, 0, none⟩), .pointer (some ⟨c2, 0, none⟩), .pointer (some ⟨c3, 0, none⟩)]) rfl cf131 fun lrf_1 rrf_1 hstrf_1 hpdrf_1 hparf_1 hasrf_1 hbdrf_1 hfrrf_1 => ?_
              have hyrf_1 : ∀ (i2 : Nat), i2 < n → Yd Try.prog lrf_1 [.int .i64 ((((pickN f n + i2) % n) : Nat) : Int), .int .i64 ((((ordL (ringD x) n).getD ((pickN f n + i2) % n) 0) : Nat) : Int)] [(fun (i2 : Nat) => exA (fun (_u : Unit) => i2 = 0) (fun (_u : Unit) => [lp lrf_1 rrf_1, arr (some c1) x.length 1 120 (eU .u8) x, cl c2 3 [.int .i64 ((n : Nat) : Int)], cl c3 3 [.int .i64 f], cl b9 101 [sl (some ga) n rc], cl b10 101 [sl (some gs) n sc], arr (some ga) rc 1 3 eN ((List.range n).map fun i => (pickN f n + i) % n), arr (some gs) sc 1 3 eN ((List.range n).map fun i => (ordL (ringD x) n).getD ((pickN f n + i) % n) 0), cl b11 129 [.func (.func 131) #[] #[.pointer (some ⟨c1, 0, none⟩), .pointer (some ⟨c2, 0, none⟩), .pointer (some ⟨c3, 0, none⟩)]], cl b7 3 [.int .i64 st], cl b8 4 [.bool false]])) i2] (fun b : Bool => .bool b) (fun b => [bif b then (fun (i2 : Nat) => exA (fun (_u : Unit) => i2 = 0) (fun (_u : Unit) => [lp lrf_1 rrf_1, arr (some c1) x.length 1 120 (eU .u8) x, cl c2 3 [.int .i64 ((n : Nat) : Int)], cl c3 3 [.int .i64 f], cl b9 101 [sl (some ga) n rc], cl b10 101 [sl (some gs) n sc], arr (some ga) rc 1 3 eN ((List.range n).map fun i => (pickN f n + i) % n), arr (some gs) sc 1 3 eN ((List.range n).map fun i => (ordL (ringD x) n).getD ((pickN f n + i) % n) 0), cl b11 129 [.func (.func 131) #[] #[.pointer (some ⟨c1, 0, none⟩), .pointer (some ⟨c2, 0, none⟩), .pointer (some ⟨c3, 0, none⟩)]], cl b7 3 [.int .i64 st], cl b8 4 [.bool false]])) (i2 + 1) else (exA (fun (_u : Unit) => True) (fun (_u : Unit) => [lp lrf_1 (rcD rrf_1 (.exit 4)), arr (some c1) x.length 1 120 (eU .u8) x, cl c2 3 [.int .i64 ((n : Nat) : Int)], cl c3 3 [.int .i64 f], cl b9 101 [sl (some ga) n rc], cl b10 101 [sl (some gs) n sc], arr (some ga) rc 1 3 eN ((List.range n).map fun i => (pickN f n + i) % n), arr (some gs) sc 1 3 eN ((List.range n).map fun i => (ordL (ringD x) n).getD ((pickN f n + i) % n) 0), cl b11 129 [.func (.func 131) #[] #[.pointer (some ⟨c1, 0, none⟩), .pointer (some ⟨c2, 0, none⟩), .pointer (some ⟨c3, 0, none⟩)]], cl b7 3 [.int .i64 st], cl b8 4 [.bool false]]))]) := by
                intro i2 hin2
                refine Yd_ex ?_
                rintro _u hφ2
                refine Yd_of (pre := [arr (some c1) x.length 1 120 (eU .u8) x, cl c2 3 [.int .i64 ((n : Nat) : Int)], cl c3 3 [.int .i64 f], cl b9 101 [sl (some ga) n rc], cl b10 101 [sl (some gs) n sc], arr (some ga) rc 1 3 eN ((List.range n).map fun i => (pickN f n + i) % n), arr (some gs) sc 1 3 eN ((List.range n).map fun i => (ordL (ringD x) n).getD ((pickN f n + i) % n) 0), cl b11 129 [.func (.func 131) #[] #[.pointer (some ⟨c1, 0, none⟩), .pointer (some ⟨c2, 0, none⟩), .pointer (some ⟨c3, 0, none⟩)]], cl b7 3 [.int .i64 st], cl b8 4 [.bool false]]) hstrf_1 hpdrf_1 hparf_1 hasrf_1 hbdrf_1 hfrrf_1 rfl rfl fun F w0 Q K hp hend hbeg => ?_
                change WC _ _ _ _ _ _ ((71, .int .i64 ((((ordL (ringD x) n).getD ((pickN f n + i2) % n) 0) : Nat) : Int)) :: (70, .int .i64 ((((pickN f n + i2) % n) : Nat) : Int)) :: _) (_ :: _ :: _ :: _ :: _ :: _ :: _ :: _ :: _ :: _ :: _ :: F)
                dsimp only at *
                subst hφ2
                refine WC_sr fun K24 hK24 => ?_
                refine WL_rd (Rd_assign rfl) rfl rfl rfl ?_
                refine WL_end hK24 ?_
                refine WC_region ?_
                refine WL_rd (Rd_assign rfl) rfl rfl rfl ?_
                refine WL_nil ?_
                refine hbeg (by repeat (first | with_reducible exact Ext.here | with_reducible apply Ext.there)) ?_
                refine WC_block ?_
                refine WC_seq fun K25 hK25 => ?_
                refine WC_sr fun K26 hK26 => ?_
                refine WL_rd (Rd_move rfl) rfl rfl rfl ?_
                refine WL_rd (Rd_load rfl tk101) rfl rfl rfl ?_
                refine WL_rd (Rd_index 0 rfl rfl ud101 sz3 (hi := by omega)) rfl rfl rfl ?_
                refine WL_rd (Rd_load_arr (i := 0) (j := 0) rfl tk3 (hl := rk_at' (d := ringD x) (by omega))) rfl rfl rfl ?_
                refine WL_rd (Rd_isF (Rd_neqN rfl rfl)) rfl rfl rfl ?_
                refine WL_rd (Rd_move rfl) rfl rfl rfl ?_
                refine WL_rd (Rd_move rfl) rfl rfl rfl ?_
                refine WL_rd (Rd_load rfl tk101) rfl rfl rfl ?_
                refine WL_rd (Rd_index 0 rfl rfl ud101 sz3 (hi := by omega)) rfl rfl rfl ?_
                refine WL_rd (Rd_load_arr (i := 0) (j := 0) rfl tk3 (hl := sv_at' (by omega))) rfl rfl rfl ?_
                refine WL_rd (Rd_isF (Rd_neqN rfl rfl)) rfl rfl rfl ?_
                refine WL_rd (Rd_pickF rfl rfl) rfl rfl rfl ?_
                refine WL_end hK26 ?_
                refine WC_condF rfl ?_
                refine WC_skip ?_
                refine Ps_next hK25 ?_
                refine WC_exit ?_
                refine hend.exi 4 false rfl (by repeat (first | with_reducible exact Ext.here | with_reducible apply Ext.there)) ?_
                try simp only [List.cons_append, List.nil_append, cond_true, cond_false]
                exact imp_ex (()) (trivial) (by (try dsimp only); (try simp only [List.cons_append, List.nil_append]); repeat (first | with_reducible exact Sub.refl | with_reducible exact Sub.nil | with_reducible refine Sub.cons (by repeat (first | with_reducible exact Ext.here | with_reducible apply Ext.there)) ?_ | with_reducible refine Sub.tail ?_))
              refine ⟨_, _, _, _, _, rgRoundI_ct (x := x) (n := n) (f := f) (X := (fun (i2 : Nat) => exA (fun (_u : Unit) => i2 = 0) (fun (_u : Unit) => [lp lrf_1 rrf_1, arr (some c1) x.length 1 120 (eU .u8) x, cl c2 3 [.int .i64 ((n : Nat) : Int)], cl c3 3 [.int .i64 f], cl b9 101 [sl (some ga) n rc], cl b10 101 [sl (some gs) n sc], arr (some ga) rc 1 3 eN ((List.range n).map fun i => (pickN f n + i) % n), arr (some gs) sc 1 3 eN ((List.range n).map fun i => (ordL (ringD x) n).getD ((pickN f n + i) % n) 0), cl b11 129 [.func (.func 131) #[] #[.pointer (some ⟨c1, 0, none⟩), .pointer (some ⟨c2, 0, none⟩), .pointer (some ⟨c3, 0, none⟩)]], cl b7 3 [.int .i64 st], cl b8 4 [.bool false]]))) (J := (exA (fun (_u : Unit) => True) (fun (_u : Unit) => [lp lrf_1 (rcD rrf_1 (.exit 4)), arr (some c1) x.length 1 120 (eU .u8) x, cl c2 3 [.int .i64 ((n : Nat) : Int)], cl c3 3 [.int .i64 f], cl b9 101 [sl (some ga) n rc], cl b10 101 [sl (some gs) n sc], arr (some ga) rc 1 3 eN ((List.range n).map fun i => (pickN f n + i) % n), arr (some gs) sc 1 3 eN ((List.range n).map fun i => (ordL (ringD x) n).getD ((pickN f n + i) % n) 0), cl b11 129 [.func (.func 131) #[] #[.pointer (some ⟨c1, 0, none⟩), .pointer (some ⟨c2, 0, none⟩), .pointer (some ⟨c3, 0, none⟩)]], cl b7 3 [.int .i64 st], cl b8 4 [.bool false]]))) (hX := fun i R w h => exA_lend3.1 h) (hX' := fun i R w h => exA_lend3.2 h) (hy := hyrf_1), imp_rf (Y := []) ((())) (rfl) (by repeat (first | with_reducible exact Gv.nil | (with_reducible apply Gv.cons; · (repeat (first | with_reducible exact Ext.here | with_reducible apply Ext.there))))) (by (try dsimp only); repeat (first | with_reducible exact Gv.nil | (with_reducible apply Gv.cons; · (repeat (first | with_reducible exact Ext.here | with_reducible apply Ext.there))))), ?_⟩
              · rintro (_ | _)
                · skip
                  simp only [List.cons_append, List.nil_append, cond_true, cond_false]
                  refine RfEnd_ex ?_
                  rintro _u hφ
                  simp only [List.cons_append, List.nil_append]
                  refine RfEnd_jmp ?_
                  refine WC_exit ?_
                  refine hend.nrm true rfl (by repeat (first | with_reducible exact Ext.here | with_reducible apply Ext.there)) ?_
                  try simp only [List.cons_append, List.nil_append, cond_true, cond_false]
                  exact imp_ex (()) (trivial) (by (try dsimp only); (try simp only [List.cons_append, List.nil_append]); repeat (first | with_reducible exact Sub.refl | with_reducible exact Sub.nil | with_reducible refine Sub.cons (by repeat (first | with_reducible exact Ext.here | with_reducible apply Ext.there)) ?_ | with_reducible refine Sub.tail ?_))
                · simp only [List.cons_append, List.nil_append, cond_true, cond_false]
                  refine RfEnd_ex ?_
                  rintro _u hφ2
                  simp only [List.cons_append, List.nil_append]
                  exact absurd h1 (by omega)
            · try simp only [decide_eq_true_eq, decide_eq_false_iff_not, Bool.not_eq_true', Bool.not_eq_false', Bool.not_eq_true, Bool.not_eq_false, Int.not_lt, Int.not_le, Nat.not_lt, Nat.not_le, Decidable.not_not, ne_eq] at hc4
              refine WC_skip ?_
              refine hend.nrm true rfl (by repeat (first | with_reducible exact Ext.here | with_reducible apply Ext.there)) ?_
              try simp only [List.cons_append, List.nil_append, cond_true, cond_false]
              exact imp_ex (()) (trivial) (by (try dsimp only); (try simp only [List.cons_append, List.nil_append]); repeat (first | with_reducible exact Sub.refl | with_reducible exact Sub.nil | with_reducible refine Sub.cons (by repeat (first | with_reducible exact Ext.here | with_reducible apply Ext.there)) ?_ | with_reducible refine Sub.tail ?_))
        · try simp only [decide_eq_true_eq, decide_eq_false_iff_not, Bool.not_eq_true', Bool.not_eq_false', Bool.not_eq_true, Bool.not_eq_false, Int.not_lt, Int.not_le, Nat.not_lt, Nat.not_le, Decidable.not_not, ne_eq] at hg21
          have q0 := hg21
          refine WL_skip rfl rfl rfl ?_
          refine WL_skip rfl rfl rfl ?_
          refine WL_skip rfl rfl rfl ?_
          refine WL_rd (Rd_pickF rfl rfl) rfl rfl rfl ?_
          refine WL_end hK20 ?_
          refine WC_condF rfl ?_
          refine WC_skip ?_
          refine Ps_next hK19 ?_
          refine WC_sr fun K27 hK27 => ?_
          refine WL_rd (Rd_load rfl tk3) rfl rfl rfl ?_
          refine WL_rd (Rd_eqlN (j := 2) rfl rfl) rfl rfl rfl ?_
          refine WL_end hK27 ?_
          refine WC_cond rfl (fun hc4 => ?_) (fun hc4 => ?_)
          · try simp only [decide_eq_true_eq, decide_eq_false_iff_not, Bool.not_eq_true', Bool.not_eq_false', Bool.not_eq_true, Bool.not_eq_false, Int.not_lt, Int.not_le, Nat.not_lt, Nat.not_le, Decidable.not_not, ne_eq] at hc4
            refine WC_sr fun K28 hK28 => ?_
            refine WL_rd (Rd_load rfl tk129) rfl rfl rfl ?_
            refine WL_end hK28 ?_
            refine WC_block ?_
            refine WC_rfi (f := 131) (caps := [.pointer (some ⟨c1, 0, none⟩), .pointer (some ⟨c2, 0, none⟩), .pointer (some ⟨c3, 0, none⟩)]) rfl cf131 fun lrf_1 rrf_1 hstrf_1 hpdrf_1 hparf_1 hasrf_1 hbdrf_1 hfrrf_1 => ?_
            have hyrf_1 : ∀ (i2 : Nat), i2 < n → Yd Try.prog lrf_1 [.int .i64 ((((pickN f n + i2) % n) : Nat) : Int), .int .i64 ((((ordL (ringD x) n).getD ((pickN f n + i2) % n) 0) : Nat) : Int)] [(fun (i2 : Nat) => exA (fun (_u : Unit) => i2 = 0) (fun (_u : Unit) => [lp lrf_1 rrf_1, arr (some c1) x.length 1 120 (eU .u8) x, cl c2 3 [.int .i64 ((n : Nat) : Int)], cl c3 3 [.int .i64 f], cl b9 101 [sl (some ga) n rc], cl b10 101 [sl (some gs) n sc], arr (some ga) rc 1 3 eN ((List.range n).map fun i => (pickN f n + i) % n), arr (some gs) sc 1 3 eN ((List.range n).map fun i => (ordL (ringD x) n).getD ((pickN f n + i) % n) 0), cl b11 129 [.func (.func 131) #[] #[.pointer (some ⟨c1, 0, none⟩), .pointer (some ⟨c2, 0, none⟩), .pointer (some ⟨c3, 0, none⟩)]], cl b7 3 [.int .i64 st], cl b8 4 [.bool false]])) i2] (fun b : Bool => .bool b) (fun b => [bif b then (fun (i2 : Nat) => exA (fun (_u : Unit) => i2 = 0) (fun (_u : Unit) => [lp lrf_1 rrf_1, arr (some c1) x.length 1 120 (eU .u8) x, cl c2 3 [.int .i64 ((n : Nat) : Int)], cl c3 3 [.int .i64 f], cl b9 101 [sl (some ga) n rc], cl b10 101 [sl (some gs) n sc], arr (some ga) rc 1 3 eN ((List.range n).map fun i => (pickN f n + i) % n), arr (some gs) sc 1 3 eN ((List.range n).map fun i => (ordL (ringD x) n).getD ((pickN f n + i) % n) 0), cl b11 129 [.func (.func 131) #[] #[.pointer (some ⟨c1, 0, none⟩), .pointer (some ⟨c2, 0, none⟩), .pointer (some ⟨c3, 0, none⟩)]], cl b7 3 [.int .i64 st], cl b8 4 [.bool false]])) (i2 + 1) else (exA (fun (_u : Unit) => True) (fun (_u : Unit) => [lp lrf_1 (rcD rrf_1 (.exit 4)), arr (some c1) x.length 1 120 (eU .u8) x, cl c2 3 [.int .i64 ((n : Nat) : Int)], cl c3 3 [.int .i64 f], cl b9 101 [sl (some ga) n rc], cl b10 101 [sl (some gs) n sc], arr (some ga) rc 1 3 eN ((List.range n).map fun i => (pickN f n + i) % n), arr (some gs) sc 1 3 eN ((List.range n).map fun i => (ordL (ringD x) n).getD ((pickN f n + i) % n) 0), cl b11 129 [.func (.func 131) #[] #[.pointer (some ⟨c1, 0, none⟩), .pointer (some ⟨c2, 0, none⟩), .pointer (some ⟨c3, 0, none⟩)]], cl b7 3 [.int .i64 st], cl b8 4 [.bool false]]))]) := by
              intro i2 hin2
              refine Yd_ex ?_
              rintro _u hφ2
              refine Yd_of (pre := [arr (some c1) x.length 1 120 (eU .u8) x, cl c2 3 [.int .i64 ((n : Nat) : Int)], cl c3 3 [.int .i64 f], cl b9 101 [sl (some ga) n rc], cl b10 101 [sl (some gs) n sc], arr (some ga) rc 1 3 eN ((List.range n).map fun i => (pickN f n + i) % n), arr (some gs) sc 1 3 eN ((List.range n).map fun i => (ordL (ringD x) n).getD ((pickN f n + i) % n) 0), cl b11 129 [.func (.func 131) #[] #[.pointer (some ⟨c1, 0, none⟩), .pointer (some ⟨c2, 0, none⟩), .pointer (some ⟨c3, 0, none⟩)]], cl b7 3 [.int .i64 st], cl b8 4 [.bool false]]) hstrf_1 hpdrf_1 hparf_1 hasrf_1 hbdrf_1 hfrrf_1 rfl rfl fun F w0 Q K hp hend hbeg => ?_
              change WC _ _ _ _ _ _ ((71, .int .i64 ((((ordL (ringD x) n).getD ((pickN f n + i2) % n) 0) : Nat) : Int)) :: (70, .int .i64 ((((pickN f n + i2) % n) : Nat) : Int)) :: _) (_ :: _ :: _ :: _ :: _ :: _ :: _ :: _ :: _ :: _ :: _ :: F)
              dsimp only at *
              subst hφ2
              refine WC_sr fun K29 hK29 => ?_
              refine WL_rd (Rd_assign rfl) rfl rfl rfl ?_
              refine WL_end hK29 ?_
              refine WC_region ?_
              refine WL_rd (Rd_assign rfl) rfl rfl rfl ?_
              refine WL_nil ?_
              refine hbeg (by repeat (first | with_reducible exact Ext.here | with_reducible apply Ext.there)) ?_
              refine WC_block ?_
              refine WC_seq fun K30 hK30 => ?_
              refine WC_sr fun K31 hK31 => ?_
              refine WL_rd (Rd_move rfl) rfl rfl rfl ?_
              refine WL_rd (Rd_load rfl tk101) rfl rfl rfl ?_
              refine WL_rd (Rd_index 0 rfl rfl ud101 sz3 (hi := by omega)) rfl rfl rfl ?_
              refine WL_rd (Rd_load_arr (i := 0) (j := 0) rfl tk3 (hl := rk_at' (d := ringD x) (by omega))) rfl rfl rfl ?_
              refine WL_rd (Rd_isF (Rd_neqN rfl rfl)) rfl rfl rfl ?_
              refine WL_rd (Rd_move rfl) rfl rfl rfl ?_
              refine WL_rd (Rd_move rfl) rfl rfl rfl ?_
              refine WL_rd (Rd_load rfl tk101) rfl rfl rfl ?_
              refine WL_rd (Rd_index 0 rfl rfl ud101 sz3 (hi := by omega)) rfl rfl rfl ?_
              refine WL_rd (Rd_load_arr (i := 0) (j := 0) rfl tk3 (hl := sv_at' (by omega))) rfl rfl rfl ?_
              refine WL_rd (Rd_isF (Rd_neqN rfl rfl)) rfl rfl rfl ?_
              refine WL_rd (Rd_pickF rfl rfl) rfl rfl rfl ?_
              refine WL_end hK31 ?_
              refine WC_condF rfl ?_
              refine WC_skip ?_
              refine Ps_next hK30 ?_
              refine WC_exit ?_
              refine hend.exi 4 false rfl (by repeat (first | with_reducible exact Ext.here | with_reducible apply Ext.there)) ?_
              try simp only [List.cons_append, List.nil_append, cond_true, cond_false]
              exact imp_ex (()) (trivial) (by (try dsimp only); (try simp only [List.cons_append, List.nil_append]); repeat (first | with_reducible exact Sub.refl | with_reducible exact Sub.nil | with_reducible refine Sub.cons (by repeat (first | with_reducible exact Ext.here | with_reducible apply Ext.there)) ?_ | with_reducible refine Sub.tail ?_))
            refine ⟨_, _, _, _, _, rgRoundI_ct (x := x) (n := n) (f := f) (X := (fun (i2 : Nat) => exA (fun (_u : Unit) => i2 = 0) (fun (_u : Unit) => [lp lrf_1 rrf_1, arr (some c1) x.length 1 120 (eU .u8) x, cl c2 3 [.int .i64 ((n : Nat) : Int)], cl c3 3 [.int .i64 f], cl b9 101 [sl (some ga) n rc], cl b10 101 [sl (some gs) n sc], arr (some ga) rc 1 3 eN ((List.range n).map fun i => (pickN f n + i) % n), arr (some gs) sc 1 3 eN ((List.range n).map fun i => (ordL (ringD x) n).getD ((pickN f n + i) % n) 0), cl b11 129 [.func (.func 131) #[] #[.pointer (some ⟨c1, 0, none⟩), .pointer (some ⟨c2, 0, none⟩), .pointer (some ⟨c3, 0, none⟩)]], cl b7 3 [.int .i64 st], cl b8 4 [.bool false]]))) (J := (exA (fun (_u : Unit) => True) (fun (_u : Unit) => [lp lrf_1 (rcD rrf_1 (.exit 4)), arr (some c1) x.length 1 120 (eU .u8) x, cl c2 3 [.int .i64 ((n : Nat) : Int)], cl c3 3 [.int .i64 f], cl b9 101 [sl (some ga) n rc], cl b10 101 [sl (some gs) n sc], arr (some ga) rc 1 3 eN ((List.range n).map fun i => (pickN f n + i) % n), arr (some gs) sc 1 3 eN ((List.range n).map fun i => (ordL (ringD x) n).getD ((pickN f n + i) % n) 0), cl b11 129 [.func (.func 131) #[] #[.pointer (some ⟨c1, 0, none⟩), .pointer (some ⟨c2, 0, none⟩), .pointer (some ⟨c3, 0, none⟩)]], cl b7 3 [.int .i64 st], cl b8 4 [.bool false]]))) (hX := fun i R w h => exA_lend3.1 h) (hX' := fun i R w h => exA_lend3.2 h) (hy := hyrf_1), imp_rf (Y := []) ((())) (rfl) (by repeat (first | with_reducible exact Gv.nil | (with_reducible apply Gv.cons; · (repeat (first | with_reducible exact Ext.here | with_reducible apply Ext.there))))) (by (try dsimp only); repeat (first | with_reducible exact Gv.nil | (with_reducible apply Gv.cons; · (repeat (first | with_reducible exact Ext.here | with_reducible apply Ext.there))))), ?_⟩
            · rintro (_ | _)
              · skip
                simp only [List.cons_append, List.nil_append, cond_true, cond_false]
                refine RfEnd_ex ?_
                rintro _u hφ
                simp only [List.cons_append, List.nil_append]
                refine RfEnd_jmp ?_
                refine WC_exit ?_
                refine hend.nrm true rfl (by repeat (first | with_reducible exact Ext.here | with_reducible apply Ext.there)) ?_
                try simp only [List.cons_append, List.nil_append, cond_true, cond_false]
                exact imp_ex (()) (trivial) (by (try dsimp only); (try simp only [List.cons_append, List.nil_append]); repeat (first | with_reducible exact Sub.refl | with_reducible exact Sub.nil | with_reducible refine Sub.cons (by repeat (first | with_reducible exact Ext.here | with_reducible apply Ext.there)) ?_ | with_reducible refine Sub.tail ?_))
              · simp only [List.cons_append, List.nil_append, cond_true, cond_false]
                refine RfEnd_ex ?_
                rintro _u hφ2
                simp only [List.cons_append, List.nil_append]
                exact absurd h1 (by omega)
          · try simp only [decide_eq_true_eq, decide_eq_false_iff_not, Bool.not_eq_true', Bool.not_eq_false', Bool.not_eq_true, Bool.not_eq_false, Int.not_lt, Int.not_le, Nat.not_lt, Nat.not_le, Decidable.not_not, ne_eq] at hc4
            refine WC_skip ?_
            refine hend.nrm true rfl (by repeat (first | with_reducible exact Ext.here | with_reducible apply Ext.there)) ?_
            try simp only [List.cons_append, List.nil_append, cond_true, cond_false]
            exact imp_ex (()) (trivial) (by (try dsimp only); (try simp only [List.cons_append, List.nil_append]); repeat (first | with_reducible exact Sub.refl | with_reducible exact Sub.nil | with_reducible refine Sub.cons (by repeat (first | with_reducible exact Ext.here | with_reducible apply Ext.there)) ?_ | with_reducible refine Sub.tail ?_))
      refine ⟨_, _, _, _, _, rgRoundI_ct (x := x) (n := n) (f := f) (X := (fun (i : Nat) => exA (fun (_u : Unit) => True) (fun (_u : Unit) => [lp lrf_0 rrf_0, arr (some c1) x.length 1 120 (eU .u8) x, cl c2 3 [.int .i64 ((n : Nat) : Int)], cl c3 3 [.int .i64 f], cl b13 3 [.int .i64 ((i : Nat) : Int)], cl rb 3 [.int .i64 ((r : Nat) : Int)], cl b9 101 [sl (some ga) n rc], cl b10 101 [sl (some gs) n sc], arr (some ga) rc 1 3 eN ((List.range n).map fun i => (pickN f n + i) % n), arr (some gs) sc 1 3 eN ((List.range n).map fun i => (ordL (ringD x) n).getD ((pickN f n + i) % n) 0), cl b11 129 [.func (.func 131) #[] #[.pointer (some ⟨c1, 0, none⟩), .pointer (some ⟨c2, 0, none⟩), .pointer (some ⟨c3, 0, none⟩)]], cl b7 3 [.int .i64 st], cl b8 4 [.bool false]]))) (J := (exA (fun (j' : Nat) => r = 1) (fun (j' : Nat) => [lp lrf_0 (rcD rrf_0 (.exit 2)), arr (some c1) x.length 1 120 (eU .u8) x, cl c2 3 [.int .i64 ((n : Nat) : Int)], cl c3 3 [.int .i64 f], cl b13 3 [.int .i64 ((j' : Nat) : Int)], cl rb 3 [.int .i64 ((r : Nat) : Int)], cl b9 101 [sl (some ga) n rc], cl b10 101 [sl (some gs) n sc], arr (some ga) rc 1 3 eN ((List.range n).map fun i => (pickN f n + i) % n), arr (some gs) sc 1 3 eN ((List.range n).map fun i => (ordL (ringD x) n).getD ((pickN f n + i) % n) 0), cl b11 129 [.func (.func 131) #[] #[.pointer (some ⟨c1, 0, none⟩), .pointer (some ⟨c2, 0, none⟩), .pointer (some ⟨c3, 0, none⟩)]], cl b7 3 [.int .i64 st], cl b8 4 [.bool false]]))) (hX := fun i R w h => exA_lend3.1 h) (hX' := fun i R w h => exA_lend3.2 h) (hy := hyrf_0), imp_rf (Y := []) ((())) (trivial) (by repeat (first | with_reducible exact Gv.nil | (with_reducible apply Gv.cons; · (repeat (first | with_reducible exact Ext.here | with_reducible apply Ext.there))))) (by (try dsimp only); repeat (first | with_reducible exact Gv.nil | (with_reducible apply Gv.cons; · (repeat (first | with_reducible exact Ext.here | with_reducible apply Ext.there))))), ?_⟩
      · rintro (_ | _)
        · skip
          simp only [List.cons_append, List.nil_append, cond_true, cond_false]
          refine RfEnd_ex ?_
          rintro j' hJ
          simp only [List.cons_append, List.nil_append]
          refine RfEnd_jmp ?_
          refine WC_exit ?_
          refine Ps_next hK13 ?_
          refine WC_sr fun K32 hK32 => ?_
          refine WL_rd (Rd_load rfl tk3) rfl rfl rfl ?_
          refine WL_rd (Rd_neqN (j := 1) rfl rfl) rfl rfl rfl ?_
          refine WL_rd (Rd_move rfl) rfl rfl rfl ?_
          refine WL_bool 86 rfl (fun hg33 => ?_) (fun hg33 => ?_)
          · try simp only [decide_eq_true_eq, decide_eq_false_iff_not, Bool.not_eq_true', Bool.not_eq_false', Bool.not_eq_true, Bool.not_eq_false, Int.not_lt, Int.not_le, Nat.not_lt, Nat.not_le, Decidable.not_not, ne_eq] at hg33
            have q0 := hg33
            refine WL_rd (Rd_load rfl tk3) rfl rfl rfl ?_
            refine WL_rd (Rd_load rfl tk101) rfl rfl rfl ?_
            refine WL_rd (Rd_len rfl rfl ud101) rfl rfl rfl ?_
            refine WL_rd (Rd_isF (Rd_neqN rfl rfl)) rfl rfl rfl ?_
            refine WL_rd (Rd_pickT rfl rfl) rfl rfl rfl ?_
            refine WL_end hK32 ?_
            refine WC_condF rfl ?_
            refine WC_skip ?_
            refine Ps_next hK11 ?_
            refine WC_seq fun K34 hK34 => ?_
            refine WC_sr fun K35 hK35 => ?_
            refine WL_rd (Rd_load rfl tk3) rfl rfl rfl ?_
            refine WL_end hK35 ?_
            refine WC_region ?_
            refine WL_ac (Ac_alloc zr3) rfl rfl rfl ?_
            rintro _ _ ⟨b12, rfl, rfl⟩
            refine WL_ac0 (Ac_store1 rfl rfl sz3) rfl rfl ?_
            rintro _ _ rfl
            refine WL_nil ?_
            refine Ps_next hK34 ?_
            refine WC_region ?_
            refine WL_rd (Rd_load rfl tk3) rfl rfl rfl ?_
            refine WL_rd (Rd_addN (j := 1) rfl rfl) rfl rfl rfl ?_
            refine WL_ac0 (Ac_store1 rfl rfl sz3) rfl rfl ?_
            rintro _ _ rfl
            refine WL_nil ?_
            refine Ps_dfrs (D := Drf_0) ?_
            refine Ps_wk (by (try simp only [List.cons_append, List.nil_append]); repeat (first | with_reducible exact Wk.nil | refine Wk.cons (by first | rfl | (simp only [List.length_append, List.length_cons, List.length_nil, List.length_replicate, Nat.zero_add]; rfl) | (simp; done)) ?_)) (by (try simp only [List.cons_append, List.nil_append]); repeat (first | with_reducible exact Sub.refl | with_reducible exact Sub.nil | with_reducible refine Sub.cons (by repeat (first | with_reducible exact Ext.here | with_reducible apply Ext.there)) ?_ | with_reducible refine Sub.tail ?_)) (hK8 ⟨r + 1, Drf_0 :: Ds, b12⟩ (by (try dsimp only); omega) (by (try dsimp only); omega))
          · try simp only [decide_eq_true_eq, decide_eq_false_iff_not, Bool.not_eq_true', Bool.not_eq_false', Bool.not_eq_true, Bool.not_eq_false, Int.not_lt, Int.not_le, Nat.not_lt, Nat.not_le, Decidable.not_not, ne_eq] at hg33
            refine WL_skip rfl rfl rfl ?_
            refine WL_skip rfl rfl rfl ?_
            refine WL_skip rfl rfl rfl ?_
            refine WL_skip rfl rfl rfl ?_
            refine WL_rd (Rd_pickF rfl rfl) rfl rfl rfl ?_
            refine WL_end hK32 ?_
            refine WC_condF rfl ?_
            refine WC_skip ?_
            refine Ps_next hK11 ?_
            refine WC_seq fun K36 hK36 => ?_
            refine WC_sr fun K37 hK37 => ?_
            refine WL_rd (Rd_load rfl tk3) rfl rfl rfl ?_
            refine WL_end hK37 ?_
            refine WC_region ?_
            refine WL_ac (Ac_alloc zr3) rfl rfl rfl ?_
            rintro _ _ ⟨b12, rfl, rfl⟩
            refine WL_ac0 (Ac_store1 rfl rfl sz3) rfl rfl ?_
            rintro _ _ rfl
            refine WL_nil ?_
            refine Ps_next hK36 ?_
            refine WC_region ?_
            refine WL_rd (Rd_load rfl tk3) rfl rfl rfl ?_
            refine WL_rd (Rd_addN (j := 1) rfl rfl) rfl rfl rfl ?_
            refine WL_ac0 (Ac_store1 rfl rfl sz3) rfl rfl ?_
            rintro _ _ rfl
            refine WL_nil ?_
            refine Ps_dfrs (D := Drf_0) ?_
            refine Ps_wk (by (try simp only [List.cons_append, List.nil_append]); repeat (first | with_reducible exact Wk.nil | refine Wk.cons (by first | rfl | (simp only [List.length_append, List.length_cons, List.length_nil, List.length_replicate, Nat.zero_add]; rfl) | (simp; done)) ?_)) (by (try simp only [List.cons_append, List.nil_append]); repeat (first | with_reducible exact Sub.refl | with_reducible exact Sub.nil | with_reducible refine Sub.cons (by repeat (first | with_reducible exact Ext.here | with_reducible apply Ext.there)) ?_ | with_reducible refine Sub.tail ?_)) (hK8 ⟨r + 1, Drf_0 :: Ds, b12⟩ (by (try dsimp only); omega) (by (try dsimp only); omega))
        · simp only [List.cons_append, List.nil_append, cond_true, cond_false]
          refine RfEnd_ex ?_
          rintro _u hφ
          simp only [List.cons_append, List.nil_append]
          refine RfEnd_nrm hstrf_0 hpdrf_0 ?_
          refine Ps_next hK13 ?_
          refine WC_sr fun K38 hK38 => ?_
          refine WL_rd (Rd_load rfl tk3) rfl rfl rfl ?_
          refine WL_rd (Rd_neqN (j := 1) rfl rfl) rfl rfl rfl ?_
          refine WL_rd (Rd_move rfl) rfl rfl rfl ?_
          refine WL_bool 86 rfl (fun hg39 => ?_) (fun hg39 => ?_)
          · try simp only [decide_eq_true_eq, decide_eq_false_iff_not, Bool.not_eq_true', Bool.not_eq_false', Bool.not_eq_true, Bool.not_eq_false, Int.not_lt, Int.not_le, Nat.not_lt, Nat.not_le, Decidable.not_not, ne_eq] at hg39
            have q0 := hg39
            refine WL_rd (Rd_load rfl tk3) rfl rfl rfl ?_
            refine WL_rd (Rd_load rfl tk101) rfl rfl rfl ?_
            refine WL_rd (Rd_len rfl rfl ud101) rfl rfl rfl ?_
            refine WL_rd (Rd_isF (Rd_neqN rfl rfl)) rfl rfl rfl ?_
            refine WL_rd (Rd_pickT rfl rfl) rfl rfl rfl ?_
            refine WL_end hK38 ?_
            refine WC_condF rfl ?_
            refine WC_skip ?_
            refine Ps_next hK11 ?_
            refine WC_seq fun K40 hK40 => ?_
            refine WC_sr fun K41 hK41 => ?_
            refine WL_rd (Rd_load rfl tk3) rfl rfl rfl ?_
            refine WL_end hK41 ?_
            refine WC_region ?_
            refine WL_ac (Ac_alloc zr3) rfl rfl rfl ?_
            rintro _ _ ⟨b12, rfl, rfl⟩
            refine WL_ac0 (Ac_store1 rfl rfl sz3) rfl rfl ?_
            rintro _ _ rfl
            refine WL_nil ?_
            refine Ps_next hK40 ?_
            refine WC_region ?_
            refine WL_rd (Rd_load rfl tk3) rfl rfl rfl ?_
            refine WL_rd (Rd_addN (j := 1) rfl rfl) rfl rfl rfl ?_
            refine WL_ac0 (Ac_store1 rfl rfl sz3) rfl rfl ?_
            rintro _ _ rfl
            refine WL_nil ?_
            refine Ps_dfrs (D := Drf_0) ?_
            refine Ps_wk (by (try simp only [List.cons_append, List.nil_append]); repeat (first | with_reducible exact Wk.nil | refine Wk.cons (by first | rfl | (simp only [List.length_append, List.length_cons, List.length_nil, List.length_replicate, Nat.zero_add]; rfl) | (simp; done)) ?_)) (by (try simp only [List.cons_append, List.nil_append]); repeat (first | with_reducible exact Sub.refl | with_reducible exact Sub.nil | with_reducible refine Sub.cons (by repeat (first | with_reducible exact Ext.here | with_reducible apply Ext.there)) ?_ | with_reducible refine Sub.tail ?_)) (hK8 ⟨r + 1, Drf_0 :: Ds, b12⟩ (by (try dsimp only); omega) (by (try dsimp only); omega))
          · try simp only [decide_eq_true_eq, decide_eq_false_iff_not, Bool.not_eq_true', Bool.not_eq_false', Bool.not_eq_true, Bool.not_eq_false, Int.not_lt, Int.not_le, Nat.not_lt, Nat.not_le, Decidable.not_not, ne_eq] at hg39
            refine WL_skip rfl rfl rfl ?_
            refine WL_skip rfl rfl rfl ?_
            refine WL_skip rfl rfl rfl ?_
            refine WL_skip rfl rfl rfl ?_
            refine WL_rd (Rd_pickF rfl rfl) rfl rfl rfl ?_
            refine WL_end hK38 ?_
            refine WC_condF rfl ?_
            refine WC_skip ?_
            refine Ps_next hK11 ?_
            refine WC_seq fun K42 hK42 => ?_
            refine WC_sr fun K43 hK43 => ?_
            refine WL_rd (Rd_load rfl tk3) rfl rfl rfl ?_
            refine WL_end hK43 ?_
            refine WC_region ?_
            refine WL_ac (Ac_alloc zr3) rfl rfl rfl ?_
            rintro _ _ ⟨b12, rfl, rfl⟩
            refine WL_ac0 (Ac_store1 rfl rfl sz3) rfl rfl ?_
            rintro _ _ rfl
            refine WL_nil ?_
            refine Ps_next hK42 ?_
            refine WC_region ?_
            refine WL_rd (Rd_load rfl tk3) rfl rfl rfl ?_
            refine WL_rd (Rd_addN (j := 1) rfl rfl) rfl rfl rfl ?_
            refine WL_ac0 (Ac_store1 rfl rfl sz3) rfl rfl ?_
            rintro _ _ rfl
            refine WL_nil ?_
            refine Ps_dfrs (D := Drf_0) ?_
            refine Ps_wk (by (try simp only [List.cons_append, List.nil_append]); repeat (first | with_reducible exact Wk.nil | refine Wk.cons (by first | rfl | (simp only [List.length_append, List.length_cons, List.length_nil, List.length_replicate, Nat.zero_add]; rfl) | (simp; done)) ?_)) (by (try simp only [List.cons_append, List.nil_append]); repeat (first | with_reducible exact Sub.refl | with_reducible exact Sub.nil | with_reducible refine Sub.cons (by repeat (first | with_reducible exact Ext.here | with_reducible apply Ext.there)) ?_ | with_reducible refine Sub.tail ?_)) (hK8 ⟨r + 1, Drf_0 :: Ds, b12⟩ (by (try dsimp only); omega) (by (try dsimp only); omega))
    · try simp only [decide_eq_true_eq, decide_eq_false_iff_not, Bool.not_eq_true', Bool.not_eq_false', Bool.not_eq_true, Bool.not_eq_false, Int.not_lt, Int.not_le, Nat.not_lt, Nat.not_le, Decidable.not_not, ne_eq] at hc1
      refine WC_exit ?_
      refine Ps_next hK6 ?_
      refine WC_sr fun K44 hK44 => ?_
      refine WL_ac0 (Ac_store1 rfl rfl sz4) rfl rfl ?_
      rintro _ _ rfl
      refine WL_end hK44 ?_
      refine WC_ret ?_
      refine hret.goSE () ?_ rfl
      exact Rs1cs rfl rfl tk4
end Go.Proofs.Ythkchjcodibaeaa
namespace Go.Proofs.Ythkchjcodibaeaa
open Go.RowKit Go.SL Go.ShM
set_option maxHeartbeats 1000000
set_option maxRecDepth 20000
set_option linter.all false

theorem RoundAll_ct {x : List B8} {n f st : Int} (hx : x.length = 16 := by first | with_reducible assumption | omega) : Ct Try.prog 21 [aU .u8 x, .int .i64 n, .int .i64 f, .int .i64 st] [] (fun _ : Unit => .bool true) (fun _ => []) := by
  by_cases h : 1 ≤ n ∧ n ≤ 32
  · obtain ⟨m, rfl⟩ := Int.eq_ofNat_of_zero_le (show 0 ≤ n by omega)
    exact RoundOk_ct (h1 := by omega) (h2 := by omega)
  · exact RoundBad_ct (hb := by omega)
end Go.Proofs.Ythkchjcodibaeaa
