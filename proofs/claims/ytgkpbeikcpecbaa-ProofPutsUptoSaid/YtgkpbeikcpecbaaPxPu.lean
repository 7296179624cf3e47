/-
  Contracts of functions that the claim reaches, or the logic and the plain laws that they rest on, or the row over them. (Conditions: none beyond the statement.)
-/
import Derived.Test.YtgkpbeikcpecbaaPxDc
import Derived.Test.YtgkpbeikcpecbaaPxV
set_option linter.all false
namespace Go.Proofs.Ytgkpbeikcpecbaa
open Go.RowKit Go.SL Go.ShM
set_option maxHeartbeats 1000000
set_option maxRecDepth 20000
set_option linter.all false
theorem cf78 : cfn Try.prog 78 = true := by kernel_rfl
theorem cf79 : cfn Try.prog 79 = true := by kernel_rfl
theorem cf81 : cfn Try.prog 81 = true := by kernel_rfl
theorem ud129 : Try.prog.underlying 129 = some (.pointer 136) := by kernel_rfl
theorem Puts_no {n : Int} {root : Dg} {X : Asn} {v v' : Value} {la lb : List Nd} {ao ao' : Option Addr} {cap2 cap2' : Nat} (h1 : n < 1 ∨ 512 < n) (hS : Sv [X] v 33 eND la ao cap2 := by assumption) (hS' : Sv [X] v' 33 eND lb ao' cap2' := by assumption) : Ct Try.prog 20 [.int .i64 n, aU .u8 root.1, v, v'] [X] (fun _ : Unit => .bool true) (fun _ => [X]) := by
  refine Ct_body (n := 150) Try.func20 rfl rfl rfl fun F w0 Q hret hnorm hp => ?_
  change WC _ _ _ _ _ _ _ (_ :: F)
  have hrl := Dg_len root
  refine WC_sr fun K1 hK1 => ?_
  refine WL_ac (Ac_boxW (k := .u8) rfl) rfl rfl rfl ?_
  rintro _ _ ⟨b5, rfl, rfl⟩
  refine WL_rd (Rd_assign rfl) rfl rfl rfl ?_
  refine WL_end hK1 ?_
  refine WC_sr fun K2 hK2 => ?_
  refine WL_rd (Rd_move rfl) rfl rfl rfl ?_
  refine WL_rd (Rd_loadW rfl tk42) rfl rfl rfl ?_
  refine WL_ac (Ac_call cf72 rfl (hs := pNew_no (n := n) (root := root) (h1 := h1))) rfl rfl rfl ?_
  rintro _ _ ⟨⟨⟩, rfl, hA⟩
  simp only [List.cons_append, List.nil_append] at hA
  replace hA := hA.symm
  subst hA
  refine WL_rd (Rd_move rfl) rfl rfl rfl ?_
  refine WL_rd (Rd_ext0 rfl) rfl rfl rfl ?_
  refine WL_rd (Rd_ext1 rfl) rfl rfl rfl ?_
  refine WL_rd (Rd_assign rfl) rfl rfl rfl ?_
  refine WL_rd (Rd_assign rfl) rfl rfl rfl ?_
  refine WL_end hK2 ?_
  refine WC_sr fun K3 hK3 => ?_
  refine WL_rd (Rd_move rfl) rfl rfl rfl ?_
  refine WL_rd (Rd_loadW rfl tk42) rfl rfl rfl ?_
  refine WL_ac (Ac_call cf78 rfl (hs := dNew_no (n := n) (root := root) (h1 := h1))) rfl rfl rfl ?_
  rintro _ _ ⟨⟨⟩, rfl, hA⟩
  simp only [List.cons_append, List.nil_append] at hA
  replace hA := hA.symm
  subst hA
  refine WL_rd (Rd_move rfl) rfl rfl rfl ?_
  refine WL_rd (Rd_ext0 rfl) rfl rfl rfl ?_
  refine WL_rd (Rd_ext1 rfl) rfl rfl rfl ?_
  refine WL_rd (Rd_assign rfl) rfl rfl rfl ?_
  refine WL_rd (Rd_assign rfl) rfl rfl rfl ?_
  refine WL_end hK3 ?_
  refine WC_seq fun K4 hK4 => ?_
  refine WC_sr fun K5 hK5 => ?_
  refine WL_rd (Rd_move rfl) rfl rfl rfl ?_
  refine WL_rd (Rd_move rfl) rfl rfl rfl ?_
  refine WL_rd (Rd_isF (Rd_neq rfl rfl)) rfl rfl rfl ?_
  refine WL_rd (Rd_move rfl) rfl rfl rfl ?_
  refine WL_rd (Rd_move rfl) rfl rfl rfl ?_
  refine WL_rd (Rd_peq rfl rfl ud121) rfl rfl rfl ?_
  refine WL_rd (Rd_move rfl) rfl rfl rfl ?_
  refine WL_rd (Rd_peq rfl rfl ud129) rfl rfl rfl ?_
  refine WL_rd (Rd_isF (Rd_bne rfl rfl ud4)) rfl rfl rfl ?_
  refine WL_rd (Rd_pickF rfl rfl) rfl rfl rfl ?_
  refine WL_end hK5 ?_
  refine WC_condF rfl ?_
  refine WC_skip ?_
  refine Ps_next hK4 ?_
  refine WC_seq fun K6 hK6 => ?_
  refine WC_sr fun K7 hK7 => ?_
  refine WL_rd (Rd_move rfl) rfl rfl rfl ?_
  refine WL_rd (Rd_peq rfl rfl ud121) rfl rfl rfl ?_
  refine WL_end hK7 ?_
  refine WC_condT rfl ?_
  refine WC_sr fun K8 hK8 => ?_
  refine WL_ac (Ac_call cf73 rfl (hs := awake_ct)) rfl rfl rfl ?_
  rintro _ _ ⟨⟨⟩, rfl, hA⟩
  simp only [List.cons_append, List.nil_append] at hA
  replace hA := hA.symm
  subst hA
  refine WL_rd (Rd_assign rfl) rfl rfl rfl ?_
  refine WL_end hK8 ?_
  refine WC_ret ?_
  exact hret.go () (Rs1 rfl rfl) (hs := by simp only [List.cons_append, List.nil_append]; first | ((repeat (first | with_reducible exact Sub.refl | with_reducible apply Sub.cons Ext.here | with_reducible apply Sub.tail)); done) | (repeat (first | with_reducible exact Sub.refl | with_reducible exact Sub.nil | (with_reducible apply Sub.cons; · (repeat (first | with_reducible exact Ext.here | with_reducible apply Ext.there))) | with_reducible apply Sub.tail)))

theorem Puts_ok {n : Nat} {root : Dg} {X : Asn} {v v' : Value} {la lb : List Nd} {ao ao' : Option Addr} {cap2 cap2' : Nat} (h1 : 1 ≤ n) (h2 : n ≤ 512) (hS : Sv [X] v 33 eND la ao cap2 := by assumption) (hS' : Sv [X] v' 33 eND lb ao' cap2' := by assumption) (hll : la.length ≤ 900000000 := by omega) (hll' : lb.length ≤ 900000000 := by omega) : Ct Try.prog 20 [.int .i64 ((n : Nat) : Int), aU .u8 root.1, v, v'] [X] (fun _ : Unit => .bool true) (fun _ => [X]) := by
  refine Ct_body (n := 150) Try.func20 rfl rfl rfl fun F w0 Q hret hnorm hp => ?_
  change WC _ _ _ _ _ _ _ (_ :: F)
  have hwo := wd_ok h1 h2
  have hsF : SupK (wdM n) (newK n root) := SupK_new hwo.1 hwo.2.2.2.2
  have hrl := Dg_len root
  have hw1 := hwo.2.2.2.2
  have hps := put_same la hsF hw1 (by rw [newK_root]; rfl)
  have hs1 := putK_sup (l := la) hsF hw1
  have hr1 : ((putK (wdM n) (newK n root) la) 1).isSome = true := by rw [putK_le (l := la) hsF hw1 _ _ newK_root]; rfl
  refine WC_sr fun K1 hK1 => ?_
  refine WL_ac (Ac_boxW (k := .u8) rfl) rfl rfl rfl ?_
  rintro _ _ ⟨b5, rfl, rfl⟩
  refine WL_rd (Rd_assign rfl) rfl rfl rfl ?_
  refine WL_end hK1 ?_
  refine WC_sr fun K2 hK2 => ?_
  refine WL_rd (Rd_move rfl) rfl rfl rfl ?_
  refine WL_rd (Rd_loadW rfl tk42) rfl rfl rfl ?_
  refine WL_ac (Ac_call cf72 rfl (hs := pNew_ct (n := n) (root := root) (h1 := h1) (h2 := h2))) rfl rfl rfl ?_
  rintro _ _ ⟨⟨pb, m⟩, rfl, hA⟩
  simp only [List.cons_append, List.nil_append] at hA
  replace hA := hA.symm
  subst hA
  refine WL_rd (Rd_move rfl) rfl rfl rfl ?_
  refine WL_rd (Rd_ext0 rfl) rfl rfl rfl ?_
  refine WL_rd (Rd_ext1 rfl) rfl rfl rfl ?_
  refine WL_rd (Rd_assign rfl) rfl rfl rfl ?_
  refine WL_rd (Rd_assign rfl) rfl rfl rfl ?_
  refine WL_end hK2 ?_
  refine WC_sr fun K3 hK3 => ?_
  refine WL_rd (Rd_move rfl) rfl rfl rfl ?_
  refine WL_rd (Rd_loadW rfl tk42) rfl rfl rfl ?_
  refine WL_ac (Ac_call cf78 rfl (hs := dNew_ct (n := n) (root := root) (h1 := h1) (h2 := h2))) rfl rfl rfl ?_
  rintro _ _ ⟨⟨qb, gi, gd⟩, rfl, hA⟩
  simp only [List.cons_append, List.nil_append] at hA
  replace hA := hA.symm
  subst hA
  refine WL_rd (Rd_move rfl) rfl rfl rfl ?_
  refine WL_rd (Rd_ext0 rfl) rfl rfl rfl ?_
  refine WL_rd (Rd_ext1 rfl) rfl rfl rfl ?_
  refine WL_rd (Rd_assign rfl) rfl rfl rfl ?_
  refine WL_rd (Rd_assign rfl) rfl rfl rfl ?_
  refine WL_end hK3 ?_
  refine WC_seq fun K4 hK4 => ?_
  refine WC_sr fun K5 hK5 => ?_
  refine WL_rd (Rd_move rfl) rfl rfl rfl ?_
  refine WL_rd (Rd_move rfl) rfl rfl rfl ?_
  refine WL_rd (Rd_isF (Rd_neq rfl rfl)) rfl rfl rfl ?_
  refine WL_rd (Rd_move rfl) rfl rfl rfl ?_
  refine WL_rd (Rd_move rfl) rfl rfl rfl ?_
  refine WL_rd (Rd_peq rfl rfl ud121) rfl rfl rfl ?_
  refine WL_rd (Rd_move rfl) rfl rfl rfl ?_
  refine WL_rd (Rd_peq rfl rfl ud129) rfl rfl rfl ?_
  refine WL_rd (Rd_isF (Rd_bne rfl rfl ud4)) rfl rfl rfl ?_
  refine WL_rd (Rd_pickF rfl rfl) rfl rfl rfl ?_
  refine WL_end hK5 ?_
  refine WC_condF rfl ?_
  refine WC_skip ?_
  refine Ps_next hK4 ?_
  refine WC_seq fun K6 hK6 => ?_
  refine WC_sr fun K7 hK7 => ?_
  refine WL_rd (Rd_move rfl) rfl rfl rfl ?_
  refine WL_rd (Rd_peq rfl rfl ud121) rfl rfl rfl ?_
  refine WL_end hK7 ?_
  refine WC_condF rfl ?_
  refine WC_skip ?_
  refine Ps_next hK6 ?_
  refine WC_seq fun K8 hK8 => ?_
  refine WC_sr fun K9 hK9 => ?_
  refine WL_rd (Rd_move rfl) rfl rfl rfl ?_
  refine WL_rd (Rd_move rfl) rfl rfl rfl ?_
  refine WL_ac (Ac_call cf74 rfl (hs := pPut_ct (pb := pb) (m := m) (n := n) (w := (wdM n)) (Kn := (newK n root)) (X := X) (v := v) (l := la) (hS := hS) (hs := hsF) (hn1 := h1) (hw1 := hwo.2.2.2.2))) rfl rfl rfl ?_
  rintro _ _ ⟨⟨⟩, rfl, hA⟩
  simp only [List.cons_append, List.nil_append] at hA
  replace hA := hA.symm
  subst hA
  refine WL_rd (Rd_move rfl) rfl rfl rfl ?_
  refine WL_rd (Rd_move rfl) rfl rfl rfl ?_
  refine WL_ac (Ac_call cf79 rfl (hs := dPut_ct (qb := qb) (gi := gi) (ci := 2 * (wdM n)) (gd := gd) (cd := 2 * (wdM n)) (n := n) (w := (wdM n)) (Kn := (newK n root)) (X := X) (v := v) (l := la) (hS := hS) (hw1 := hw1))) rfl rfl rfl ?_
  rintro _ _ ⟨⟨gi3, ci3, gd3, cd3⟩, rfl, hA⟩
  simp only [List.cons_append, List.nil_append] at hA
  replace hA := hA.symm
  subst hA
  rw [← hps.1, ← hps.2]
  clear hps
  generalize putK (wdM n) (newK n root) la = K1 at hs1 hr1 ⊢
  generalize (putS (wdM n) (newK n root) la).1 = e1
  have hps2 := put_same lb hs1 hw1 hr1
  obtain ⟨htn1, htn2, htn3⟩ := put_turn (w := (wdM n)) (K := K1) (l := lb) (l' := lb.reverse) (fun x => List.mem_reverse.symm) hs1 hw1
  have hs2 := putK_sup (l := lb) hs1 hw1
  refine WL_rd (Rd_isF (Rd_neq rfl rfl) (by simp)) rfl rfl rfl ?_
  refine WL_end hK9 ?_
  refine WC_condF rfl ?_
  refine WC_skip ?_
  refine Ps_next hK8 ?_
  refine WC_sr fun K10 hK10 => ?_
  refine WL_rd (Rd_assign (v := sl none 0 0) rfl) rfl rfl rfl ?_
  refine WL_nilarr eND 33 133 ?_
  refine WL_end hK10 ?_
  refine WC_seq fun K11 hK11 => ?_
  refine WC_sr fun K12 hK12 => ?_
  refine WL_rd (Rd_move rfl) rfl rfl rfl ?_
  refine WL_rd (Rd_len_sv rfl rfl ud120 (hA := hS')) rfl rfl rfl ?_
  refine WL_rd (Rd_sub' (r := (((lb.length : Nat) : Int) - 1 - ((0 : Nat) : Int))) rfl rfl (wr64 (by omega) (by omega) (by omega))) rfl rfl rfl ?_
  refine WL_rd (Rd_assign rfl) rfl rfl rfl ?_
  refine WL_end hK12 ?_
  refine WC_block ?_
  rw [show sl none 0 0 = sl none (lb.reverse.take 0).length 0 from rfl, show ([] : List Nd) = (lb.reverse.take 0) from rfl]
  refine WC_loopK (σ := Nat × (Option Nat) × Nat) (fun ⟨j, a, c⟩ => [(13, sl a (lb.reverse.take j).length c), (14, .int .i64 (((lb.length : Nat) : Int) - 1 - ((j : Nat) : Int)))]) (fun ⟨j, a, c⟩ => [arr a c 33 133 eND (lb.reverse.take j)]) (fun ⟨j, a, c⟩ => j ≤ lb.length) (fun ⟨j, a, c⟩ => lb.length - j) ⟨0, none, 0⟩ [3, 8, 9, 11, 15, 16, 17, 18, 19, 20, 21, 22, 23, 24, 25, 72, 73, 74, 75, 76, 77, 78, 79, 80, 81, 82, 83, 84, 85, 86, 87, 88, 89, 90, 91, 92, 93, 94, 95, 96, 97, 98, 99, 100, 101, 102, 103, 104, 105, 106, 107, 108, 109, 110, 111, 112, 113, 114, 115, 116, 117, 118, 119, 120, 121, 122, 123, 124, 125, 126, 127, 128, 129, 130, 131, 132, 133, 134, 135, 136, 137, 138, 139, 140, 141, 142, 143, 144, 145, 146, 147, 148, 149] (by repeat (first | exact Kep.nil | apply Kep.drop rfl | apply Kep.keep rfl)) (by (try dsimp only); repeat (first | with_reducible exact Gv.nil | (with_reducible apply Gv.cons; · (repeat (first | with_reducible exact Ext.here | with_reducible apply Ext.there))))) ?_ ?_ Sub.refl ?_
  · exact Nat.zero_le _
  · (try dsimp only); exact (Wk.cons (by first | rfl | (simp only [List.length_append, List.length_cons, List.length_nil, List.length_replicate, Nat.zero_add]; rfl) | (simp; done)) (Wk.cons (by first | rfl | (simp only [List.length_append, List.length_cons, List.length_nil, List.length_replicate, Nat.zero_add]; rfl) | (simp; done)) Wk.nil))
  · rintro ⟨j, a, c⟩ hj K13 hK13
    simp only [List.cons_append, List.nil_append]
    have hjl : (lb.reverse.take j).length ≤ lb.length := by simp; omega
    refine WC_seq fun K14 hK14 => ?_
    refine WC_sr fun K15 hK15 => ?_
    refine WL_rd (Rd_move rfl) rfl rfl rfl ?_
    refine WL_rd (Rd_geq rfl rfl) rfl rfl rfl ?_
    refine WL_end hK15 ?_
    refine WC_cond rfl (fun hc3 => ?_) (fun hc3 => ?_)
    · try simp only [decide_eq_true_eq, decide_eq_false_iff_not, Bool.not_eq_true', Bool.not_eq_false', Bool.not_eq_true, Bool.not_eq_false, Int.not_lt, Int.not_le, Nat.not_lt, Nat.not_le, Decidable.not_not, ne_eq] at hc3
      obtain ⟨x, hx⟩ : ∃ x, lb[lb.length - 1 - j]? = some x := ⟨_, List.getElem?_eq_getElem (by omega)⟩
      have hxr : lb.reverse[j]? = some x := by rw [List.getElem?_reverse (by omega)]; exact hx
      refine WC_skip ?_
      refine Ps_next hK14 ?_
      refine WC_seq fun K16 hK16 => ?_
      refine WC_block ?_
      refine WC_region ?_
      refine WL_rd (Rd_move rfl) rfl rfl rfl ?_
      refine WL_rd (Rd_move rfl) rfl rfl rfl ?_
      refine WL_rd (Rd_move rfl) rfl rfl rfl ?_
      refine WL_rd (Rd_index_sv (lb.length - 1 - j) rfl rfl ud120 sz133 (hA := hS') (hj := by omega) (hi := by omega)) rfl rfl rfl ?_
      refine WL_rd (Rd_loadg_sv (f := eND) (i := lb.length - 1 - j) rfl tk133 (hA := hS') (hl := hx)) rfl rfl rfl ?_
      refine WL_ac (Ac_bs1 (xs := eND x) rfl ud120 zr133 sz133 (hl := encND.len _)) rfl rfl rfl ?_
      rintro _ _ ⟨bq0, rfl, rfl⟩
      refine WL_ac (Ac_append1 (f := eND) encND x rfl rfl ud120 ud120 el133) rfl rfl rfl ?_
      rintro _ _ ⟨a71, cap71, rfl, rfl⟩
      rw [show (lb.reverse.take j).length + 1 = ((lb.reverse.take j) ++ [x]).length from by simp, take_nx hxr]
      refine WL_rd (Rd_assign rfl) rfl rfl rfl ?_
      refine WL_nil ?_
      refine Ps_next hK16 ?_
      refine WC_region ?_
      refine WL_rd (Rd_move rfl) rfl rfl rfl ?_
      refine WL_rd (Rd_sub' (r := (((lb.length : Nat) : Int) - 1 - ((j + 1 : Nat) : Int))) rfl rfl (wr64 (by omega) (by omega) (by omega))) rfl rfl rfl ?_
      refine WL_rd (Rd_assign rfl) rfl rfl rfl ?_
      refine WL_nil ?_
      refine Ps_wk (by (try simp only [List.cons_append, List.nil_append]); repeat (first | with_reducible exact Wk.nil | refine Wk.cons (by first | rfl | (simp only [List.length_append, List.length_cons, List.length_nil, List.length_replicate, Nat.zero_add]; rfl) | (simp; done)) ?_)) (by (try simp only [List.cons_append, List.nil_append]); first | ((repeat (first | with_reducible exact Sub.refl | with_reducible apply Sub.cons Ext.here | with_reducible apply Sub.tail)); done) | (repeat (first | with_reducible exact Sub.refl | with_reducible exact Sub.nil | (with_reducible apply Sub.cons; · (repeat (first | with_reducible exact Ext.here | with_reducible apply Ext.there))) | with_reducible apply Sub.tail))) (hK13 ⟨j + 1, a71, cap71⟩ (by (try dsimp only); omega) (by (try dsimp only); omega))
    · try simp only [decide_eq_true_eq, decide_eq_false_iff_not, Bool.not_eq_true', Bool.not_eq_false', Bool.not_eq_true, Bool.not_eq_false, Int.not_lt, Int.not_le, Nat.not_lt, Nat.not_le, Decidable.not_not, ne_eq] at hc3
      obtain rfl : j = lb.length := by omega
      rw [show lb.reverse.take lb.length = lb.reverse from List.take_of_length_le (by rw [List.length_reverse]; exact Nat.le_refl _)]
      refine WC_exit ?_
      refine Ps_next hK11 ?_
      refine WC_sr fun K17 hK17 => ?_
      refine WL_rd (Rd_move rfl) rfl rfl rfl ?_
      refine WL_ac (Ac_call cf80 rfl (hs := pClone_ct (pb := pb) (m := m) (n := n) (w := (wdM n)) (Kn := K1) (hn1 := h1))) rfl rfl rfl ?_
      rintro _ _ ⟨⟨zb, mz⟩, rfl, hA⟩
      simp only [List.cons_append, List.nil_append] at hA
      replace hA := hA.symm
      subst hA
      refine WL_rd (Rd_assign rfl) rfl rfl rfl ?_
      refine WL_end hK17 ?_
      refine WC_seq fun K18 hK18 => ?_
      refine WC_sr fun K19 hK19 => ?_
      refine WL_rd (Rd_move rfl) rfl rfl rfl ?_
      refine WL_rd (Rd_peq rfl rfl ud121) rfl rfl rfl ?_
      refine WL_end hK19 ?_
      refine WC_condF rfl ?_
      refine WC_skip ?_
      refine Ps_next hK18 ?_
      refine WC_sr fun K20 hK20 => ?_
      refine WL_rd (Rd_move rfl) rfl rfl rfl ?_
      refine WL_rd (Rd_move rfl) rfl rfl rfl ?_
      refine WL_ac (Ac_call cf74 rfl (hs := pPut_ct (pb := pb) (m := m) (n := n) (w := (wdM n)) (Kn := K1) (X := X) (v := v') (l := lb) (hS := hS') (hs := hs1) (hn1 := h1) (hw1 := hwo.2.2.2.2))) rfl rfl rfl ?_
      rintro _ _ ⟨⟨⟩, rfl, hA⟩
      simp only [List.cons_append, List.nil_append] at hA
      replace hA := hA.symm
      subst hA
      refine WL_rd (Rd_assign rfl) rfl rfl rfl ?_
      refine WL_end hK20 ?_
      refine WC_sr fun K21 hK21 => ?_
      refine WL_rd (Rd_move rfl) rfl rfl rfl ?_
      refine WL_rd (Rd_move rfl) rfl rfl rfl ?_
      refine WL_fact (fun w h => arr_facts (a := a) (cap := c) (e := 33) (T := 133) (f := eND) (l := lb.reverse) (by repeat (first | with_reducible exact Has.here | with_reducible refine Has.there ?_)) h) (fun hSrf => ?_)
      have hSr : Sv [arr a c 33 133 eND lb.reverse] (sl a lb.reverse.length c) 33 eND lb.reverse (a.map fun g => ⟨g, 0, none⟩) c := Sv_own' encND hSrf.1 hSrf.2
      refine WL_ac (Ac_call cf74 rfl (hs := pPut_ct (pb := zb) (m := mz) (n := n) (w := (wdM n)) (Kn := K1) (X := arr a c 33 133 eND lb.reverse) (v := sl a lb.reverse.length c) (l := lb.reverse) (hS := hSr) (hs := hs1) (hn1 := h1) (hw1 := hw1) (hll := by rw [List.length_reverse]; exact hll'))) rfl rfl rfl ?_
      rintro _ _ ⟨⟨⟩, rfl, hA⟩
      simp only [List.cons_append, List.nil_append] at hA
      replace hA := hA.symm
      subst hA
      rw [htn3]
      refine WL_rd (Rd_assign rfl) rfl rfl rfl ?_
      refine WL_end hK21 ?_
      refine WC_sr fun K22 hK22 => ?_
      refine WL_rd (Rd_move rfl) rfl rfl rfl ?_
      refine WL_rd (Rd_move rfl) rfl rfl rfl ?_
      refine WL_ac (Ac_call cf79 rfl (hs := dPut_ct (qb := qb) (gi := gi3) (ci := ci3) (gd := gd3) (cd := cd3) (n := n) (w := (wdM n)) (Kn := K1) (X := X) (v := v') (l := lb) (hS := hS') (hw1 := hw1))) rfl rfl rfl ?_
      rintro _ _ ⟨⟨gi4, ci4, gd4, cd4⟩, rfl, hA⟩
      simp only [List.cons_append, List.nil_append] at hA
      replace hA := hA.symm
      subst hA
      rw [← hps2.1, ← hps2.2]
      clear hps2
      generalize putK (wdM n) K1 lb = K2 at hs2 htn3 ⊢
      generalize (putS (wdM n) K1 lb).1 = e2 at htn1 htn2 ⊢
      generalize (putS (wdM n) K1 lb.reverse).1 = e3 at htn1 htn2 ⊢
      refine WL_rd (Rd_assign rfl) rfl rfl rfl ?_
      refine WL_end hK22 ?_
      refine WC_seq fun K23 hK23 => ?_
      refine WC_sr fun K24 hK24 => ?_
      refine WL_rd (Rd_move rfl) rfl rfl rfl ?_
      refine WL_rd (Rd_move rfl) rfl rfl rfl ?_
      refine WL_rd (Rd_isF (Rd_neq rfl rfl) (by simp)) rfl rfl rfl ?_
      refine WL_rd (Rd_move rfl) rfl rfl rfl ?_
      refine WL_rd (Rd_move rfl) rfl rfl rfl ?_
      refine WL_rd (Rd_eql rfl rfl) rfl rfl rfl ?_
      refine WL_rd (Rd_move rfl) rfl rfl rfl ?_
      refine WL_rd (Rd_eql rfl rfl) rfl rfl rfl ?_
      refine WL_rd (Rd_isF (Rd_bne rfl rfl ud4) (by rw [show decide (e2 = 0) = decide (e3 = 0) from decide_eq_decide.2 htn1]; simp)) rfl rfl rfl ?_
      refine WL_rd (Rd_pickF rfl rfl) rfl rfl rfl ?_
      refine WL_end hK24 ?_
      refine WC_condF rfl ?_
      refine WC_skip ?_
      refine Ps_next hK23 ?_
      refine WC_seq fun K25 hK25 => ?_
      refine WC_sr fun K26 hK26 => ?_
      refine WL_rd (Rd_move rfl) rfl rfl rfl ?_
      refine WL_rd (Rd_eql rfl rfl) rfl rfl rfl ?_
      refine WL_rd (Rd_move rfl) rfl rfl rfl ?_
      refine WL_bool 97 rfl (fun hg27 => ?_) (fun hg27 => ?_)
      · try simp only [decide_eq_true_eq, decide_eq_false_iff_not, Bool.not_eq_true', Bool.not_eq_false', Bool.not_eq_true, Bool.not_eq_false, Int.not_lt, Int.not_le, Nat.not_lt, Nat.not_le, Decidable.not_not, ne_eq] at hg27
        have q6 := hg27
        refine WL_skip rfl rfl rfl ?_
        refine WL_skip rfl rfl rfl ?_
        refine WL_rd (Rd_pickT rfl rfl) rfl rfl rfl ?_
        refine WL_end hK26 ?_
        refine WC_condT rfl ?_
        refine WC_sr fun K28 hK28 => ?_
        refine WL_rd (Rd_move rfl) rfl rfl rfl ?_
        refine WL_rd (Rd_move rfl) rfl rfl rfl ?_
        refine WL_rd (Rd_isF (Rd_neq rfl rfl) (by rw [htn2 (by first | exact .inr q6 | exact .inl (by simpa using hc6))]; simp)) rfl rfl rfl ?_
        refine WL_end hK28 ?_
        refine WC_condF rfl ?_
        refine WC_skip ?_
        refine Ps_next hK25 ?_
        refine WC_seq fun K29 hK29 => ?_
        refine WC_sr fun K30 hK30 => ?_
        refine WL_rd (Rd_assign rfl) rfl rfl rfl ?_
        refine WL_end hK30 ?_
        refine WC_block ?_
        refine WC_loopK (σ := Nat) (fun t => [(19, .int .i64 ((t : Nat) : Int))]) (fun t => []) (fun t => t ≤ 2 * (wdM n) + 1) (fun t => 2 * (wdM n) + 1 - t) (0) [9, 11, 15, 149] (by repeat (first | exact Kep.nil | apply Kep.drop rfl | apply Kep.keep rfl)) (by (try dsimp only); repeat (first | with_reducible exact Gv.nil | (with_reducible apply Gv.cons; · (repeat (first | with_reducible exact Ext.here | with_reducible apply Ext.there))))) ?_ ?_ Sub.refl ?_
        · exact Nat.zero_le _
        · (try dsimp only); exact (Wk.cons (by first | rfl | (simp only [List.length_append, List.length_cons, List.length_nil, List.length_replicate, Nat.zero_add]; rfl) | (simp; done)) Wk.nil)
        · rintro t ht1 K31 hK31
          simp only [List.cons_append, List.nil_append]
          have hda := Dg_len ((K2 (((t : Nat)) : Int)).getD zD)
          refine WC_seq fun K32 hK32 => ?_
          refine WC_sr fun K33 hK33 => ?_
          refine WL_rd (Rd_move rfl) rfl rfl rfl ?_
          refine WL_rd (Rd_move rfl) rfl rfl rfl ?_
          refine WL_rd (Rd_nilCheck rfl) rfl rfl rfl ?_
          refine WL_rd (Rd_fieldAddr rfl fo136_1) rfl rfl rfl ?_
          refine WL_rd (Rd_load rfl tk3 (v := .int .i64 (((wdM n) : Nat) : Int))) rfl rfl rfl ?_
          refine WL_rd (Rd_mulN (i := 2) (j := (wdM n)) rfl rfl) rfl rfl rfl ?_
          refine WL_rd (Rd_leqN rfl rfl) rfl rfl rfl ?_
          refine WL_end hK33 ?_
          refine WC_cond rfl (fun hc8 => ?_) (fun hc8 => ?_)
          · try simp only [decide_eq_true_eq, decide_eq_false_iff_not, Bool.not_eq_true', Bool.not_eq_false', Bool.not_eq_true, Bool.not_eq_false, Int.not_lt, Int.not_le, Nat.not_lt, Nat.not_le, Decidable.not_not, ne_eq] at hc8
            refine WC_skip ?_
            refine Ps_next hK32 ?_
            refine WC_seq fun K34 hK34 => ?_
            refine WC_block ?_
            refine WC_sr fun K35 hK35 => ?_
            refine WL_rd (Rd_move rfl) rfl rfl rfl ?_
            refine WL_rd (Rd_move rfl) rfl rfl rfl ?_
            refine WL_ac (Ac_call cf76 rfl (hs := pKnown_ct (pb := pb) (m := m) (n := n) (w := (wdM n)) (Kn := K2) (i := (((t : Nat)) : Int)))) rfl rfl rfl ?_
            rintro _ _ ⟨⟨⟩, rfl, hA⟩
            simp only [List.cons_append, List.nil_append] at hA
            replace hA := hA.symm
            subst hA
            refine WL_rd (Rd_move rfl) rfl rfl rfl ?_
            refine WL_rd (Rd_ext0 rfl) rfl rfl rfl ?_
            refine WL_rd (Rd_ext1 rfl) rfl rfl rfl ?_
            refine WL_ac (Ac_allocW (k := .u8) (w := 8) (m := 32) zr42) rfl rfl rfl ?_
            rintro _ _ ⟨b20, rfl, rfl⟩
            refine WL_ac0 (Ac_storeW rfl rfl sz42) rfl rfl ?_
            rintro _ _ rfl
            refine WL_rd (Rd_assign rfl) rfl rfl rfl ?_
            refine WL_end hK35 ?_
            refine WC_sr fun K36 hK36 => ?_
            refine WL_rd (Rd_move rfl) rfl rfl rfl ?_
            refine WL_rd (Rd_move rfl) rfl rfl rfl ?_
            refine WL_ac (Ac_call cf76 rfl (hs := pKnown_ct (pb := zb) (m := mz) (n := n) (w := (wdM n)) (Kn := K2) (i := (((t : Nat)) : Int)))) rfl rfl rfl ?_
            rintro _ _ ⟨⟨⟩, rfl, hA⟩
            simp only [List.cons_append, List.nil_append] at hA
            replace hA := hA.symm
            subst hA
            refine WL_rd (Rd_move rfl) rfl rfl rfl ?_
            refine WL_rd (Rd_ext0 rfl) rfl rfl rfl ?_
            refine WL_rd (Rd_ext1 rfl) rfl rfl rfl ?_
            refine WL_ac (Ac_allocW (k := .u8) (w := 8) (m := 32) zr42) rfl rfl rfl ?_
            rintro _ _ ⟨b22, rfl, rfl⟩
            refine WL_ac0 (Ac_storeW rfl rfl sz42) rfl rfl ?_
            rintro _ _ rfl
            refine WL_rd (Rd_assign rfl) rfl rfl rfl ?_
            refine WL_end hK36 ?_
            refine WC_sr fun K37 hK37 => ?_
            refine WL_rd (Rd_move rfl) rfl rfl rfl ?_
            refine WL_rd (Rd_move rfl) rfl rfl rfl ?_
            refine WL_ac (Ac_call cf81 rfl (hs := dKnown_ct (qb := qb) (gi := gi4) (ci := ci4) (gd := gd4) (cd := cd4) (n := n) (w := (wdM n)) (Kn := K2) (i := (((t : Nat)) : Int)) (hs := hs2))) rfl rfl rfl ?_
            rintro _ _ ⟨⟨⟩, rfl, hA⟩
            simp only [List.cons_append, List.nil_append] at hA
            replace hA := hA.symm
            subst hA
            refine WL_rd (Rd_move rfl) rfl rfl rfl ?_
            refine WL_rd (Rd_ext0 rfl) rfl rfl rfl ?_
            refine WL_rd (Rd_ext1 rfl) rfl rfl rfl ?_
            refine WL_ac (Ac_allocW (k := .u8) (w := 8) (m := 32) zr42) rfl rfl rfl ?_
            rintro _ _ ⟨b24, rfl, rfl⟩
            refine WL_ac0 (Ac_storeW rfl rfl sz42) rfl rfl ?_
            rintro _ _ rfl
            refine WL_rd (Rd_assign rfl) rfl rfl rfl ?_
            refine WL_end hK37 ?_
            refine WC_sr fun K38 hK38 => ?_
            refine WL_rd (Rd_loadW rfl tk42) rfl rfl rfl ?_
            refine WL_rd (Rd_loadW rfl tk42) rfl rfl rfl ?_
            refine WL_rd (Rd_isF (Rd_neW rfl rfl ais42) (by simp)) rfl rfl rfl ?_
            refine WL_rd (Rd_move rfl) rfl rfl rfl ?_
            refine WL_rd (Rd_loadW rfl tk42) rfl rfl rfl ?_
            refine WL_rd (Rd_loadW rfl tk42) rfl rfl rfl ?_
            refine WL_rd (Rd_isF (Rd_neW rfl rfl ais42) (by simp)) rfl rfl rfl ?_
            refine WL_rd (Rd_pickF rfl rfl) rfl rfl rfl ?_
            refine WL_rd (Rd_move rfl) rfl rfl rfl ?_
            refine WL_rd (Rd_move rfl) rfl rfl rfl ?_
            refine WL_rd (Rd_move rfl) rfl rfl rfl ?_
            refine WL_rd (Rd_isF (Rd_bne rfl rfl ud4) (by simp)) rfl rfl rfl ?_
            refine WL_rd (Rd_pickF rfl rfl) rfl rfl rfl ?_
            refine WL_rd (Rd_move rfl) rfl rfl rfl ?_
            refine WL_rd (Rd_move rfl) rfl rfl rfl ?_
            refine WL_rd (Rd_move rfl) rfl rfl rfl ?_
            refine WL_rd (Rd_isF (Rd_bne rfl rfl ud4) (by simp)) rfl rfl rfl ?_
            refine WL_rd (Rd_pickF rfl rfl) rfl rfl rfl ?_
            refine WL_end hK38 ?_
            refine WC_condF rfl ?_
            refine WC_skip ?_
            refine Ps_next hK34 ?_
            refine WC_region ?_
            refine WL_rd (Rd_move rfl) rfl rfl rfl ?_
            refine WL_rd (Rd_addN (j := 1) rfl rfl) rfl rfl rfl ?_
            refine WL_rd (Rd_assign rfl) rfl rfl rfl ?_
            refine WL_nil ?_
            refine Ps_wk (by (try simp only [List.cons_append, List.nil_append]); repeat (first | with_reducible exact Wk.nil | refine Wk.cons (by first | rfl | (simp only [List.length_append, List.length_cons, List.length_nil, List.length_replicate, Nat.zero_add]; rfl) | (simp; done)) ?_)) (by (try simp only [List.cons_append, List.nil_append]); first | ((repeat (first | with_reducible exact Sub.refl | with_reducible apply Sub.cons Ext.here | with_reducible apply Sub.tail)); done) | (repeat (first | with_reducible exact Sub.refl | with_reducible exact Sub.nil | (with_reducible apply Sub.cons; · (repeat (first | with_reducible exact Ext.here | with_reducible apply Ext.there))) | with_reducible apply Sub.tail))) (hK31 (t + 1) (by omega) (by omega))
          · try simp only [decide_eq_true_eq, decide_eq_false_iff_not, Bool.not_eq_true', Bool.not_eq_false', Bool.not_eq_true, Bool.not_eq_false, Int.not_lt, Int.not_le, Nat.not_lt, Nat.not_le, Decidable.not_not, ne_eq] at hc8
            refine WC_exit ?_
            refine Ps_next hK29 ?_
            refine WC_sr fun K39 hK39 => ?_
            refine WL_ac (Ac_call cf73 rfl (hs := awake_ct)) rfl rfl rfl ?_
            rintro _ _ ⟨⟨⟩, rfl, hA⟩
            simp only [List.cons_append, List.nil_append] at hA
            replace hA := hA.symm
            subst hA
            refine WL_rd (Rd_assign rfl) rfl rfl rfl ?_
            refine WL_end hK39 ?_
            refine WC_ret ?_
            exact hret.go () (Rs1 rfl rfl) (hs := by simp only [List.cons_append, List.nil_append]; first | ((repeat (first | with_reducible exact Sub.refl | with_reducible apply Sub.cons Ext.here | with_reducible apply Sub.tail)); done) | (repeat (first | with_reducible exact Sub.refl | with_reducible exact Sub.nil | (with_reducible apply Sub.cons; · (repeat (first | with_reducible exact Ext.here | with_reducible apply Ext.there))) | with_reducible apply Sub.tail)))
      · try simp only [decide_eq_true_eq, decide_eq_false_iff_not, Bool.not_eq_true', Bool.not_eq_false', Bool.not_eq_true, Bool.not_eq_false, Int.not_lt, Int.not_le, Nat.not_lt, Nat.not_le, Decidable.not_not, ne_eq] at hg27
        have q6' := hg27
        refine WL_rd (Rd_move rfl) rfl rfl rfl ?_
        refine WL_rd (Rd_eql rfl rfl) rfl rfl rfl ?_
        refine WL_rd (Rd_pickF rfl rfl) rfl rfl rfl ?_
        refine WL_end hK26 ?_
        refine WC_cond rfl (fun hc6 => ?_) (fun hc6 => ?_)
        · try simp only [decide_eq_true_eq, decide_eq_false_iff_not, Bool.not_eq_true', Bool.not_eq_false', Bool.not_eq_true, Bool.not_eq_false, Int.not_lt, Int.not_le, Nat.not_lt, Nat.not_le, Decidable.not_not, ne_eq] at hc6
          refine WC_sr fun K40 hK40 => ?_
          refine WL_rd (Rd_move rfl) rfl rfl rfl ?_
          refine WL_rd (Rd_move rfl) rfl rfl rfl ?_
          refine WL_rd (Rd_isF (Rd_neq rfl rfl) (by rw [htn2 (by first | exact .inr q6 | exact .inl (by simpa using hc6))]; simp)) rfl rfl rfl ?_
          refine WL_end hK40 ?_
          refine WC_condF rfl ?_
          refine WC_skip ?_
          refine Ps_next hK25 ?_
          refine WC_seq fun K41 hK41 => ?_
          refine WC_sr fun K42 hK42 => ?_
          refine WL_rd (Rd_assign rfl) rfl rfl rfl ?_
          refine WL_end hK42 ?_
          refine WC_block ?_
          refine WC_loopK (σ := Nat) (fun t => [(19, .int .i64 ((t : Nat) : Int))]) (fun t => []) (fun t => t ≤ 2 * (wdM n) + 1) (fun t => 2 * (wdM n) + 1 - t) (0) [9, 11, 15, 149] (by repeat (first | exact Kep.nil | apply Kep.drop rfl | apply Kep.keep rfl)) (by (try dsimp only); repeat (first | with_reducible exact Gv.nil | (with_reducible apply Gv.cons; · (repeat (first | with_reducible exact Ext.here | with_reducible apply Ext.there))))) ?_ ?_ Sub.refl ?_
          · exact Nat.zero_le _
          · (try dsimp only); exact (Wk.cons (by first | rfl | (simp only [List.length_append, List.length_cons, List.length_nil, List.length_replicate, Nat.zero_add]; rfl) | (simp; done)) Wk.nil)
          · rintro t ht1 K43 hK43
            simp only [List.cons_append, List.nil_append]
            have hda := Dg_len ((K2 (((t : Nat)) : Int)).getD zD)
            refine WC_seq fun K44 hK44 => ?_
            refine WC_sr fun K45 hK45 => ?_
            refine WL_rd (Rd_move rfl) rfl rfl rfl ?_
            refine WL_rd (Rd_move rfl) rfl rfl rfl ?_
            refine WL_rd (Rd_nilCheck rfl) rfl rfl rfl ?_
            refine WL_rd (Rd_fieldAddr rfl fo136_1) rfl rfl rfl ?_
            refine WL_rd (Rd_load rfl tk3 (v := .int .i64 (((wdM n) : Nat) : Int))) rfl rfl rfl ?_
            refine WL_rd (Rd_mulN (i := 2) (j := (wdM n)) rfl rfl) rfl rfl rfl ?_
            refine WL_rd (Rd_leqN rfl rfl) rfl rfl rfl ?_
            refine WL_end hK45 ?_
            refine WC_cond rfl (fun hc8 => ?_) (fun hc8 => ?_)
            · try simp only [decide_eq_true_eq, decide_eq_false_iff_not, Bool.not_eq_true', Bool.not_eq_false', Bool.not_eq_true, Bool.not_eq_false, Int.not_lt, Int.not_le, Nat.not_lt, Nat.not_le, Decidable.not_not, ne_eq] at hc8
              refine WC_skip ?_
              refine Ps_next hK44 ?_
              refine WC_seq fun K46 hK46 => ?_
              refine WC_block ?_
              refine WC_sr fun K47 hK47 => ?_
              refine WL_rd (Rd_move rfl) rfl rfl rfl ?_
              refine WL_rd (Rd_move rfl) rfl rfl rfl ?_
              refine WL_ac (Ac_call cf76 rfl (hs := pKnown_ct (pb := pb) (m := m) (n := n) (w := (wdM n)) (Kn := K2) (i := (((t : Nat)) : Int)))) rfl rfl rfl ?_
              rintro _ _ ⟨⟨⟩, rfl, hA⟩
              simp only [List.cons_append, List.nil_append] at hA
              replace hA := hA.symm
              subst hA
              refine WL_rd (Rd_move rfl) rfl rfl rfl ?_
              refine WL_rd (Rd_ext0 rfl) rfl rfl rfl ?_
              refine WL_rd (Rd_ext1 rfl) rfl rfl rfl ?_
              refine WL_ac (Ac_allocW (k := .u8) (w := 8) (m := 32) zr42) rfl rfl rfl ?_
              rintro _ _ ⟨b20, rfl, rfl⟩
              refine WL_ac0 (Ac_storeW rfl rfl sz42) rfl rfl ?_
              rintro _ _ rfl
              refine WL_rd (Rd_assign rfl) rfl rfl rfl ?_
              refine WL_end hK47 ?_
              refine WC_sr fun K48 hK48 => ?_
              refine WL_rd (Rd_move rfl) rfl rfl rfl ?_
              refine WL_rd (Rd_move rfl) rfl rfl rfl ?_
              refine WL_ac (Ac_call cf76 rfl (hs := pKnown_ct (pb := zb) (m := mz) (n := n) (w := (wdM n)) (Kn := K2) (i := (((t : Nat)) : Int)))) rfl rfl rfl ?_
              rintro _ _ ⟨⟨⟩, rfl, hA⟩
              simp only [List.cons_append, List.nil_append] at hA
              replace hA := hA.symm
              subst hA
              refine WL_rd (Rd_move rfl) rfl rfl rfl ?_
              refine WL_rd (Rd_ext0 rfl) rfl rfl rfl ?_
              refine WL_rd (Rd_ext1 rfl) rfl rfl rfl ?_
              refine WL_ac (Ac_allocW (k := .u8) (w := 8) (m := 32) zr42) rfl rfl rfl ?_
              rintro _ _ ⟨b22, rfl, rfl⟩
              refine WL_ac0 (Ac_storeW rfl rfl sz42) rfl rfl ?_
              rintro _ _ rfl
              refine WL_rd (Rd_assign rfl) rfl rfl rfl ?_
              refine WL_end hK48 ?_
              refine WC_sr fun K49 hK49 => ?_
              refine WL_rd (Rd_move rfl) rfl rfl rfl ?_
              refine WL_rd (Rd_move rfl) rfl rfl rfl ?_
              refine WL_ac (Ac_call cf81 rfl (hs := dKnown_ct (qb := qb) (gi := gi4) (ci := ci4) (gd := gd4) (cd := cd4) (n := n) (w := (wdM n)) (Kn := K2) (i := (((t : Nat)) : Int)) (hs := hs2))) rfl rfl rfl ?_
              rintro _ _ ⟨⟨⟩, rfl, hA⟩
              simp only [List.cons_append, List.nil_append] at hA
              replace hA := hA.symm
              subst hA
              refine WL_rd (Rd_move rfl) rfl rfl rfl ?_
              refine WL_rd (Rd_ext0 rfl) rfl rfl rfl ?_
              refine WL_rd (Rd_ext1 rfl) rfl rfl rfl ?_
              refine WL_ac (Ac_allocW (k := .u8) (w := 8) (m := 32) zr42) rfl rfl rfl ?_
              rintro _ _ ⟨b24, rfl, rfl⟩
              refine WL_ac0 (Ac_storeW rfl rfl sz42) rfl rfl ?_
              rintro _ _ rfl
              refine WL_rd (Rd_assign rfl) rfl rfl rfl ?_
              refine WL_end hK49 ?_
              refine WC_sr fun K50 hK50 => ?_
              refine WL_rd (Rd_loadW rfl tk42) rfl rfl rfl ?_
              refine WL_rd (Rd_loadW rfl tk42) rfl rfl rfl ?_
              refine WL_rd (Rd_isF (Rd_neW rfl rfl ais42) (by simp)) rfl rfl rfl ?_
              refine WL_rd (Rd_move rfl) rfl rfl rfl ?_
              refine WL_rd (Rd_loadW rfl tk42) rfl rfl rfl ?_
              refine WL_rd (Rd_loadW rfl tk42) rfl rfl rfl ?_
              refine WL_rd (Rd_isF (Rd_neW rfl rfl ais42) (by simp)) rfl rfl rfl ?_
              refine WL_rd (Rd_pickF rfl rfl) rfl rfl rfl ?_
              refine WL_rd (Rd_move rfl) rfl rfl rfl ?_
              refine WL_rd (Rd_move rfl) rfl rfl rfl ?_
              refine WL_rd (Rd_move rfl) rfl rfl rfl ?_
              refine WL_rd (Rd_isF (Rd_bne rfl rfl ud4) (by simp)) rfl rfl rfl ?_
              refine WL_rd (Rd_pickF rfl rfl) rfl rfl rfl ?_
              refine WL_rd (Rd_move rfl) rfl rfl rfl ?_
              refine WL_rd (Rd_move rfl) rfl rfl rfl ?_
              refine WL_rd (Rd_move rfl) rfl rfl rfl ?_
              refine WL_rd (Rd_isF (Rd_bne rfl rfl ud4) (by simp)) rfl rfl rfl ?_
              refine WL_rd (Rd_pickF rfl rfl) rfl rfl rfl ?_
              refine WL_end hK50 ?_
              refine WC_condF rfl ?_
              refine WC_skip ?_
              refine Ps_next hK46 ?_
              refine WC_region ?_
              refine WL_rd (Rd_move rfl) rfl rfl rfl ?_
              refine WL_rd (Rd_addN (j := 1) rfl rfl) rfl rfl rfl ?_
              refine WL_rd (Rd_assign rfl) rfl rfl rfl ?_
              refine WL_nil ?_
              refine Ps_wk (by (try simp only [List.cons_append, List.nil_append]); repeat (first | with_reducible exact Wk.nil | refine Wk.cons (by first | rfl | (simp only [List.length_append, List.length_cons, List.length_nil, List.length_replicate, Nat.zero_add]; rfl) | (simp; done)) ?_)) (by (try simp only [List.cons_append, List.nil_append]); first | ((repeat (first | with_reducible exact Sub.refl | with_reducible apply Sub.cons Ext.here | with_reducible apply Sub.tail)); done) | (repeat (first | with_reducible exact Sub.refl | with_reducible exact Sub.nil | (with_reducible apply Sub.cons; · (repeat (first | with_reducible exact Ext.here | with_reducible apply Ext.there))) | with_reducible apply Sub.tail))) (hK43 (t + 1) (by omega) (by omega))
            · try simp only [decide_eq_true_eq, decide_eq_false_iff_not, Bool.not_eq_true', Bool.not_eq_false', Bool.not_eq_true, Bool.not_eq_false, Int.not_lt, Int.not_le, Nat.not_lt, Nat.not_le, Decidable.not_not, ne_eq] at hc8
              refine WC_exit ?_
              refine Ps_next hK41 ?_
              refine WC_sr fun K51 hK51 => ?_
              refine WL_ac (Ac_call cf73 rfl (hs := awake_ct)) rfl rfl rfl ?_
              rintro _ _ ⟨⟨⟩, rfl, hA⟩
              simp only [List.cons_append, List.nil_append] at hA
              replace hA := hA.symm
              subst hA
              refine WL_rd (Rd_assign rfl) rfl rfl rfl ?_
              refine WL_end hK51 ?_
              refine WC_ret ?_
              exact hret.go () (Rs1 rfl rfl) (hs := by simp only [List.cons_append, List.nil_append]; first | ((repeat (first | with_reducible exact Sub.refl | with_reducible apply Sub.cons Ext.here | with_reducible apply Sub.tail)); done) | (repeat (first | with_reducible exact Sub.refl | with_reducible exact Sub.nil | (with_reducible apply Sub.cons; · (repeat (first | with_reducible exact Ext.here | with_reducible apply Ext.there))) | with_reducible apply Sub.tail)))
        · try simp only [decide_eq_true_eq, decide_eq_false_iff_not, Bool.not_eq_true', Bool.not_eq_false', Bool.not_eq_true, Bool.not_eq_false, Int.not_lt, Int.not_le, Nat.not_lt, Nat.not_le, Decidable.not_not, ne_eq] at hc6
          refine WC_skip ?_
          refine Ps_next hK25 ?_
          refine WC_seq fun K52 hK52 => ?_
          refine WC_sr fun K53 hK53 => ?_
          refine WL_rd (Rd_assign rfl) rfl rfl rfl ?_
          refine WL_end hK53 ?_
          refine WC_block ?_
          refine WC_loopK (σ := Nat) (fun t => [(19, .int .i64 ((t : Nat) : Int))]) (fun t => []) (fun t => t ≤ 2 * (wdM n) + 1) (fun t => 2 * (wdM n) + 1 - t) (0) [9, 11, 15, 149] (by repeat (first | exact Kep.nil | apply Kep.drop rfl | apply Kep.keep rfl)) (by (try dsimp only); repeat (first | with_reducible exact Gv.nil | (with_reducible apply Gv.cons; · (repeat (first | with_reducible exact Ext.here | with_reducible apply Ext.there))))) ?_ ?_ Sub.refl ?_
          · exact Nat.zero_le _
          · (try dsimp only); exact (Wk.cons (by first | rfl | (simp only [List.length_append, List.length_cons, List.length_nil, List.length_replicate, Nat.zero_add]; rfl) | (simp; done)) Wk.nil)
          · rintro t ht1 K54 hK54
            simp only [List.cons_append, List.nil_append]
            have hda := Dg_len ((K2 (((t : Nat)) : Int)).getD zD)
            refine WC_seq fun K55 hK55 => ?_
            refine WC_sr fun K56 hK56 => ?_
            refine WL_rd (Rd_move rfl) rfl rfl rfl ?_
            refine WL_rd (Rd_move rfl) rfl rfl rfl ?_
            refine WL_rd (Rd_nilCheck rfl) rfl rfl rfl ?_
            refine WL_rd (Rd_fieldAddr rfl fo136_1) rfl rfl rfl ?_
            refine WL_rd (Rd_load rfl tk3 (v := .int .i64 (((wdM n) : Nat) : Int))) rfl rfl rfl ?_
            refine WL_rd (Rd_mulN (i := 2) (j := (wdM n)) rfl rfl) rfl rfl rfl ?_
            refine WL_rd (Rd_leqN rfl rfl) rfl rfl rfl ?_
            refine WL_end hK56 ?_
            refine WC_cond rfl (fun hc8 => ?_) (fun hc8 => ?_)
            · try simp only [decide_eq_true_eq, decide_eq_false_iff_not, Bool.not_eq_true', Bool.not_eq_false', Bool.not_eq_true, Bool.not_eq_false, Int.not_lt, Int.not_le, Nat.not_lt, Nat.not_le, Decidable.not_not, ne_eq] at hc8
              refine WC_skip ?_
              refine Ps_next hK55 ?_
              refine WC_seq fun K57 hK57 => ?_
              refine WC_block ?_
              refine WC_sr fun K58 hK58 => ?_
              refine WL_rd (Rd_move rfl) rfl rfl rfl ?_
              refine WL_rd (Rd_move rfl) rfl rfl rfl ?_
              refine WL_ac (Ac_call cf76 rfl (hs := pKnown_ct (pb := pb) (m := m) (n := n) (w := (wdM n)) (Kn := K2) (i := (((t : Nat)) : Int)))) rfl rfl rfl ?_
              rintro _ _ ⟨⟨⟩, rfl, hA⟩
              simp only [List.cons_append, List.nil_append] at hA
              replace hA := hA.symm
              subst hA
              refine WL_rd (Rd_move rfl) rfl rfl rfl ?_
              refine WL_rd (Rd_ext0 rfl) rfl rfl rfl ?_
              refine WL_rd (Rd_ext1 rfl) rfl rfl rfl ?_
              refine WL_ac (Ac_allocW (k := .u8) (w := 8) (m := 32) zr42) rfl rfl rfl ?_
              rintro _ _ ⟨b20, rfl, rfl⟩
              refine WL_ac0 (Ac_storeW rfl rfl sz42) rfl rfl ?_
              rintro _ _ rfl
              refine WL_rd (Rd_assign rfl) rfl rfl rfl ?_
              refine WL_end hK58 ?_
              refine WC_sr fun K59 hK59 => ?_
              refine WL_rd (Rd_move rfl) rfl rfl rfl ?_
              refine WL_rd (Rd_move rfl) rfl rfl rfl ?_
              refine WL_ac (Ac_call cf76 rfl (hs := pKnown_ct (pb := zb) (m := mz) (n := n) (w := (wdM n)) (Kn := K2) (i := (((t : Nat)) : Int)))) rfl rfl rfl ?_
              rintro _ _ ⟨⟨⟩, rfl, hA⟩
              simp only [List.cons_append, List.nil_append] at hA
              replace hA := hA.symm
              subst hA
              refine WL_rd (Rd_move rfl) rfl rfl rfl ?_
              refine WL_rd (Rd_ext0 rfl) rfl rfl rfl ?_
              refine WL_rd (Rd_ext1 rfl) rfl rfl rfl ?_
              refine WL_ac (Ac_allocW (k := .u8) (w := 8) (m := 32) zr42) rfl rfl rfl ?_
              rintro _ _ ⟨b22, rfl, rfl⟩
              refine WL_ac0 (Ac_storeW rfl rfl sz42) rfl rfl ?_
              rintro _ _ rfl
              refine WL_rd (Rd_assign rfl) rfl rfl rfl ?_
              refine WL_end hK59 ?_
              refine WC_sr fun K60 hK60 => ?_
              refine WL_rd (Rd_move rfl) rfl rfl rfl ?_
              refine WL_rd (Rd_move rfl) rfl rfl rfl ?_
              refine WL_ac (Ac_call cf81 rfl (hs := dKnown_ct (qb := qb) (gi := gi4) (ci := ci4) (gd := gd4) (cd := cd4) (n := n) (w := (wdM n)) (Kn := K2) (i := (((t : Nat)) : Int)) (hs := hs2))) rfl rfl rfl ?_
              rintro _ _ ⟨⟨⟩, rfl, hA⟩
              simp only [List.cons_append, List.nil_append] at hA
              replace hA := hA.symm
              subst hA
              refine WL_rd (Rd_move rfl) rfl rfl rfl ?_
              refine WL_rd (Rd_ext0 rfl) rfl rfl rfl ?_
              refine WL_rd (Rd_ext1 rfl) rfl rfl rfl ?_
              refine WL_ac (Ac_allocW (k := .u8) (w := 8) (m := 32) zr42) rfl rfl rfl ?_
              rintro _ _ ⟨b24, rfl, rfl⟩
              refine WL_ac0 (Ac_storeW rfl rfl sz42) rfl rfl ?_
              rintro _ _ rfl
              refine WL_rd (Rd_assign rfl) rfl rfl rfl ?_
              refine WL_end hK60 ?_
              refine WC_sr fun K61 hK61 => ?_
              refine WL_rd (Rd_loadW rfl tk42) rfl rfl rfl ?_
              refine WL_rd (Rd_loadW rfl tk42) rfl rfl rfl ?_
              refine WL_rd (Rd_isF (Rd_neW rfl rfl ais42) (by simp)) rfl rfl rfl ?_
              refine WL_rd (Rd_move rfl) rfl rfl rfl ?_
              refine WL_rd (Rd_loadW rfl tk42) rfl rfl rfl ?_
              refine WL_rd (Rd_loadW rfl tk42) rfl rfl rfl ?_
              refine WL_rd (Rd_isF (Rd_neW rfl rfl ais42) (by simp)) rfl rfl rfl ?_
              refine WL_rd (Rd_pickF rfl rfl) rfl rfl rfl ?_
              refine WL_rd (Rd_move rfl) rfl rfl rfl ?_
              refine WL_rd (Rd_move rfl) rfl rfl rfl ?_
              refine WL_rd (Rd_move rfl) rfl rfl rfl ?_
              refine WL_rd (Rd_isF (Rd_bne rfl rfl ud4) (by simp)) rfl rfl rfl ?_
              refine WL_rd (Rd_pickF rfl rfl) rfl rfl rfl ?_
              refine WL_rd (Rd_move rfl) rfl rfl rfl ?_
              refine WL_rd (Rd_move rfl) rfl rfl rfl ?_
              refine WL_rd (Rd_move rfl) rfl rfl rfl ?_
              refine WL_rd (Rd_isF (Rd_bne rfl rfl ud4) (by simp)) rfl rfl rfl ?_
              refine WL_rd (Rd_pickF rfl rfl) rfl rfl rfl ?_
              refine WL_end hK61 ?_
              refine WC_condF rfl ?_
              refine WC_skip ?_
              refine Ps_next hK57 ?_
              refine WC_region ?_
              refine WL_rd (Rd_move rfl) rfl rfl rfl ?_
              refine WL_rd (Rd_addN (j := 1) rfl rfl) rfl rfl rfl ?_
              refine WL_rd (Rd_assign rfl) rfl rfl rfl ?_
              refine WL_nil ?_
              refine Ps_wk (by (try simp only [List.cons_append, List.nil_append]); repeat (first | with_reducible exact Wk.nil | refine Wk.cons (by first | rfl | (simp only [List.length_append, List.length_cons, List.length_nil, List.length_replicate, Nat.zero_add]; rfl) | (simp; done)) ?_)) (by (try simp only [List.cons_append, List.nil_append]); first | ((repeat (first | with_reducible exact Sub.refl | with_reducible apply Sub.cons Ext.here | with_reducible apply Sub.tail)); done) | (repeat (first | with_reducible exact Sub.refl | with_reducible exact Sub.nil | (with_reducible apply Sub.cons; · (repeat (first | with_reducible exact Ext.here | with_reducible apply Ext.there))) | with_reducible apply Sub.tail))) (hK54 (t + 1) (by omega) (by omega))
            · try simp only [decide_eq_true_eq, decide_eq_false_iff_not, Bool.not_eq_true', Bool.not_eq_false', Bool.not_eq_true, Bool.not_eq_false, Int.not_lt, Int.not_le, Nat.not_lt, Nat.not_le, Decidable.not_not, ne_eq] at hc8
              refine WC_exit ?_
              refine Ps_next hK52 ?_
              refine WC_sr fun K62 hK62 => ?_
              refine WL_ac (Ac_call cf73 rfl (hs := awake_ct)) rfl rfl rfl ?_
              rintro _ _ ⟨⟨⟩, rfl, hA⟩
              simp only [List.cons_append, List.nil_append] at hA
              replace hA := hA.symm
              subst hA
              refine WL_rd (Rd_assign rfl) rfl rfl rfl ?_
              refine WL_end hK62 ?_
              refine WC_ret ?_
              exact hret.go () (Rs1 rfl rfl) (hs := by simp only [List.cons_append, List.nil_append]; first | ((repeat (first | with_reducible exact Sub.refl | with_reducible apply Sub.cons Ext.here | with_reducible apply Sub.tail)); done) | (repeat (first | with_reducible exact Sub.refl | with_reducible exact Sub.nil | (with_reducible apply Sub.cons; · (repeat (first | with_reducible exact Ext.here | with_reducible apply Ext.there))) | with_reducible apply Sub.tail)))
end Go.Proofs.Ytgkpbeikcpecbaa
