/-
  Contracts of functions that the claim reaches, or the logic and the plain laws that they rest on, or the row over them. (Conditions: none beyond the statement.)
-/
import Derived.Test.YtgkpbeikcpecbaaPxJ
import Derived.Test.YtgkpbeikcpecbaaPfM
set_option linter.all false
namespace Go.Proofs.Ytgkpbeikcpecbaa
open Go.RowKit Go.SL Go.ShM
set_option maxHeartbeats 1000000
set_option maxRecDepth 20000
set_option linter.all false

theorem Clash_no {n : Int} {root : Dg} {X : Asn} {v v' : Value} {la lb : List Nd} {ao ao' : Option Addr} {cap2 cap2' : Nat} (h1 : n < 1 ∨ 512 < n) (hS : Sv [X] v 33 eND la ao cap2 := by assumption) (hS' : Sv [X] v' 33 eND lb ao' cap2' := by assumption) : Ct Try.prog 19 [.int .i64 n, aU .u8 root.1, v, v'] [X] (fun _ : Unit => .bool true) (fun _ => [X]) := by
  refine Ct_body (n := 173) Try.func19 rfl rfl rfl fun F w0 Q hret hnorm hp => ?_
  change WC _ _ _ _ _ _ _ (_ :: F)
  have hrl := Dg_len root
  refine WC_sr fun K1 hK1 => ?_
  refine WL_ac (Ac_boxW (k := .u8) rfl) rfl rfl rfl ?_
  rintro _ _ ⟨b5, rfl, rfl⟩
  refine WL_rd (Rd_assign rfl) rfl rfl rfl ?_
  refine WL_end hK1 ?_
  refine WC_sr fun K2 hK2 => ?_
  refine WL_rd (Rd_move rfl) rfl rfl rfl ?_
  refine WL_rd (Rd_loadW rfl tk42) rfl rfl rfl ?_
  refine WL_ac (Ac_call cf72 rfl (hs := pNew_no (n := n) (root := root) (h1 := h1))) rfl rfl rfl ?_
  rintro _ _ ⟨⟨⟩, rfl, hA⟩
  simp only [List.cons_append, List.nil_append] at hA
  replace hA := hA.symm
  subst hA
  refine WL_rd (Rd_move rfl) rfl rfl rfl ?_
  refine WL_rd (Rd_ext0 rfl) rfl rfl rfl ?_
  refine WL_rd (Rd_ext1 rfl) rfl rfl rfl ?_
  refine WL_rd (Rd_assign rfl) rfl rfl rfl ?_
  refine WL_rd (Rd_assign rfl) rfl rfl rfl ?_
  refine WL_end hK2 ?_
  refine WC_sr fun K3 hK3 => ?_
  refine WL_rd (Rd_move rfl) rfl rfl rfl ?_
  refine WL_rd (Rd_loadW rfl tk42) rfl rfl rfl ?_
  refine WL_ac (Ac_call cf72 rfl (hs := pNew_no (n := n) (root := root) (h1 := h1))) rfl rfl rfl ?_
  rintro _ _ ⟨⟨⟩, rfl, hA⟩
  simp only [List.cons_append, List.nil_append] at hA
  replace hA := hA.symm
  subst hA
  refine WL_rd (Rd_move rfl) rfl rfl rfl ?_
  refine WL_rd (Rd_ext0 rfl) rfl rfl rfl ?_
  refine WL_rd (Rd_ext1 rfl) rfl rfl rfl ?_
  refine WL_rd (Rd_assign rfl) rfl rfl rfl ?_
  refine WL_rd (Rd_assign rfl) rfl rfl rfl ?_
  refine WL_end hK3 ?_
  refine WC_seq fun K4 hK4 => ?_
  refine WC_sr fun K5 hK5 => ?_
  refine WL_rd (Rd_move rfl) rfl rfl rfl ?_
  refine WL_rd (Rd_isT (Rd_neq rfl rfl)) rfl rfl rfl ?_
  refine WL_rd (Rd_move rfl) rfl rfl rfl ?_
  refine WL_skip rfl rfl rfl ?_
  refine WL_skip rfl rfl rfl ?_
  refine WL_rd (Rd_pickT rfl rfl) rfl rfl rfl ?_
  refine WL_rd (Rd_move rfl) rfl rfl rfl ?_
  refine WL_skip rfl rfl rfl ?_
  refine WL_skip rfl rfl rfl ?_
  refine WL_rd (Rd_pickT rfl rfl) rfl rfl rfl ?_
  refine WL_end hK5 ?_
  refine WC_condT rfl ?_
  refine WC_sr fun K6 hK6 => ?_
  refine WL_ac (Ac_call cf73 rfl (hs := awake_ct)) rfl rfl rfl ?_
  rintro _ _ ⟨⟨⟩, rfl, hA⟩
  simp only [List.cons_append, List.nil_append] at hA
  replace hA := hA.symm
  subst hA
  refine WL_rd (Rd_assign rfl) rfl rfl rfl ?_
  refine WL_end hK6 ?_
  refine WC_ret ?_
  exact hret.go () (Rs1 rfl rfl) (hs := by simp only [List.cons_append, List.nil_append]; first | ((repeat (first | with_reducible exact Sub.refl | with_reducible apply Sub.cons Ext.here | with_reducible apply Sub.tail)); done) | (repeat (first | with_reducible exact Sub.refl | with_reducible exact Sub.nil | (with_reducible apply Sub.cons; · (repeat (first | with_reducible exact Ext.here | with_reducible apply Ext.there))) | with_reducible apply Sub.tail)))

theorem Clash_ok {n : Nat} {root : Dg} {X : Asn} {v v' : Value} {la lb : List Nd} {ao ao' : Option Addr} {cap2 cap2' : Nat} (h1 : 1 ≤ n) (h2 : n ≤ 512) (hS : Sv [X] v 33 eND la ao cap2 := by assumption) (hS' : Sv [X] v' 33 eND lb ao' cap2' := by assumption) (hll : la.length ≤ 900000000 := by omega) (hll' : lb.length ≤ 900000000 := by omega) : Ct Try.prog 19 [.int .i64 ((n : Nat) : Int), aU .u8 root.1, v, v'] [X] (fun _ : Unit => .bool true) (fun _ => [X]) := by
  refine Ct_body (n := 173) Try.func19 rfl rfl rfl fun F w0 Q hret hnorm hp => ?_
  change WC _ _ _ _ _ _ _ (_ :: F)
  have hwo := wd_ok h1 h2
  have hsF : SupK (wdM n) (newK n root) := SupK_new hwo.1 hwo.2.2.2.2
  have hrl := Dg_len root
  have hs1 : SupK (wdM n) (putK (wdM n) (newK n root) la) := putK_sup hsF hwo.2.2.2.2
  have hs2 : SupK (wdM n) (putK (wdM n) (newK n root) lb) := putK_sup hsF hwo.2.2.2.2
  have hl1 : LeK (newK n root) (putK (wdM n) (newK n root) la) := putK_le hsF hwo.2.2.2.2
  have hl2 : LeK (newK n root) (putK (wdM n) (newK n root) lb) := putK_le hsF hwo.2.2.2.2
  have hn1 : Snd (wdM n) (newK n root) (putK (wdM n) (newK n root) la) := putK_snd hsF hwo.2.2.2.2 (LeK.refl _) (Snd_0 _ _)
  have hn2 : Snd (wdM n) (newK n root) (putK (wdM n) (newK n root) lb) := putK_snd hsF hwo.2.2.2.2 (LeK.refl _) (Snd_0 _ _)
  have hr12 : (putK (wdM n) (newK n root) la) 1 = (putK (wdM n) (newK n root) lb) 1 := by rw [hl1 _ _ newK_root, hl2 _ _ newK_root]
  refine WC_sr fun K1 hK1 => ?_
  refine WL_ac (Ac_boxW (k := .u8) rfl) rfl rfl rfl ?_
  rintro _ _ ⟨b5, rfl, rfl⟩
  refine WL_rd (Rd_assign rfl) rfl rfl rfl ?_
  refine WL_end hK1 ?_
  refine WC_sr fun K2 hK2 => ?_
  refine WL_rd (Rd_move rfl) rfl rfl rfl ?_
  refine WL_rd (Rd_loadW rfl tk42) rfl rfl rfl ?_
  refine WL_ac (Ac_call cf72 rfl (hs := pNew_ct (n := n) (root := root) (h1 := h1) (h2 := h2))) rfl rfl rfl ?_
  rintro _ _ ⟨⟨pb, m⟩, rfl, hA⟩
  simp only [List.cons_append, List.nil_append] at hA
  replace hA := hA.symm
  subst hA
  refine WL_rd (Rd_move rfl) rfl rfl rfl ?_
  refine WL_rd (Rd_ext0 rfl) rfl rfl rfl ?_
  refine WL_rd (Rd_ext1 rfl) rfl rfl rfl ?_
  refine WL_rd (Rd_assign rfl) rfl rfl rfl ?_
  refine WL_rd (Rd_assign rfl) rfl rfl rfl ?_
  refine WL_end hK2 ?_
  refine WC_sr fun K3 hK3 => ?_
  refine WL_rd (Rd_move rfl) rfl rfl rfl ?_
  refine WL_rd (Rd_loadW rfl tk42) rfl rfl rfl ?_
  refine WL_ac (Ac_call cf72 rfl (hs := pNew_ct (n := n) (root := root) (h1 := h1) (h2 := h2))) rfl rfl rfl ?_
  rintro _ _ ⟨⟨qb, mq⟩, rfl, hA⟩
  simp only [List.cons_append, List.nil_append] at hA
  replace hA := hA.symm
  subst hA
  refine WL_rd (Rd_move rfl) rfl rfl rfl ?_
  refine WL_rd (Rd_ext0 rfl) rfl rfl rfl ?_
  refine WL_rd (Rd_ext1 rfl) rfl rfl rfl ?_
  refine WL_rd (Rd_assign rfl) rfl rfl rfl ?_
  refine WL_rd (Rd_assign rfl) rfl rfl rfl ?_
  refine WL_end hK3 ?_
  refine WC_seq fun K4 hK4 => ?_
  refine WC_sr fun K5 hK5 => ?_
  refine WL_rd (Rd_move rfl) rfl rfl rfl ?_
  refine WL_rd (Rd_isF (Rd_neq rfl rfl)) rfl rfl rfl ?_
  refine WL_rd (Rd_move rfl) rfl rfl rfl ?_
  refine WL_rd (Rd_move rfl) rfl rfl rfl ?_
  refine WL_rd (Rd_peq rfl rfl ud121) rfl rfl rfl ?_
  refine WL_rd (Rd_pickF rfl rfl) rfl rfl rfl ?_
  refine WL_rd (Rd_move rfl) rfl rfl rfl ?_
  refine WL_rd (Rd_move rfl) rfl rfl rfl ?_
  refine WL_rd (Rd_peq rfl rfl ud121) rfl rfl rfl ?_
  refine WL_rd (Rd_pickF rfl rfl) rfl rfl rfl ?_
  refine WL_end hK5 ?_
  refine WC_condF rfl ?_
  refine WC_skip ?_
  refine Ps_next hK4 ?_
  refine WC_sr fun K6 hK6 => ?_
  refine WL_rd (Rd_move rfl) rfl rfl rfl ?_
  refine WL_rd (Rd_move rfl) rfl rfl rfl ?_
  refine WL_ac (Ac_call cf74 rfl (hs := pPut_ct (pb := pb) (m := m) (n := n) (w := (wdM n)) (Kn := (newK n root)) (X := X) (v := v) (l := la) (hS := hS) (hs := hsF) (hn1 := h1) (hw1 := hwo.2.2.2.2))) rfl rfl rfl ?_
  rintro _ _ ⟨⟨⟩, rfl, hA⟩
  simp only [List.cons_append, List.nil_append] at hA
  replace hA := hA.symm
  subst hA
  refine WL_end hK6 ?_
  refine WC_sr fun K7 hK7 => ?_
  refine WL_rd (Rd_move rfl) rfl rfl rfl ?_
  refine WL_rd (Rd_move rfl) rfl rfl rfl ?_
  refine WL_ac (Ac_call cf74 rfl (hs := pPut_ct (pb := qb) (m := mq) (n := n) (w := (wdM n)) (Kn := (newK n root)) (X := X) (v := v') (l := lb) (hS := hS') (hs := hsF) (hn1 := h1) (hw1 := hwo.2.2.2.2))) rfl rfl rfl ?_
  rintro _ _ ⟨⟨⟩, rfl, hA⟩
  simp only [List.cons_append, List.nil_append] at hA
  replace hA := hA.symm
  subst hA
  generalize (putK (wdM n) (newK n root) la) = KA at hs1 hl1 hn1 hr12 ⊢
  generalize (putK (wdM n) (newK n root) lb) = KB at hs2 hl2 hn2 hr12 ⊢
  generalize (newK n root) = F0 at hl1 hl2 hn1 hn2
  refine WL_end hK7 ?_
  refine WC_seq fun K8 hK8 => ?_
  refine WC_sr fun K9 hK9 => ?_
  refine WL_rd (Rd_assign rfl) rfl rfl rfl ?_
  refine WL_end hK9 ?_
  refine WC_block ?_
  refine WC_loopK (σ := Nat) (fun t => [(13, .int .i64 ((t : Nat) : Int))]) (fun t => []) (fun t => 1 ≤ t ∧ t ≤ 2 * (wdM n)) (fun t => 2 * (wdM n) - t) (1) [9, 11, 172] (by repeat (first | exact Kep.nil | apply Kep.drop rfl | apply Kep.keep rfl)) (by (try dsimp only); repeat (first | with_reducible exact Gv.nil | (with_reducible apply Gv.cons; · (repeat (first | with_reducible exact Ext.here | with_reducible apply Ext.there))))) ?_ ?_ Sub.refl ?_
  · exact ⟨Nat.le_refl _, by omega⟩
  · (try dsimp only); exact (Wk.cons (by first | rfl | (simp only [List.length_append, List.length_cons, List.length_nil, List.length_replicate, Nat.zero_add]; rfl) | (simp; done)) Wk.nil)
  · rintro t ⟨ht1, ht2⟩ K10 hK10
    simp only [List.cons_append, List.nil_append]
    have hda := Dg_len ((KA (((t : Nat)) : Int)).getD zD)
    have hdb := Dg_len ((KB (((t : Nat)) : Int)).getD zD)
    refine WC_seq fun K11 hK11 => ?_
    refine WC_sr fun K12 hK12 => ?_
    refine WL_rd (Rd_move rfl) rfl rfl rfl ?_
    refine WL_rd (Rd_move rfl) rfl rfl rfl ?_
    refine WL_ac (Ac_call cf75 rfl (hs := pWidth_ct (pb := pb) (m := m) (n := n) (w := (wdM n)) (Kn := KA))) rfl rfl rfl ?_
    rintro _ _ ⟨⟨⟩, rfl, hA⟩
    simp only [List.cons_append, List.nil_append] at hA
    replace hA := hA.symm
    subst hA
    refine WL_rd (Rd_mulN (i := 2) rfl rfl) rfl rfl rfl ?_
    refine WL_rd (Rd_lssN rfl rfl) rfl rfl rfl ?_
    refine WL_end hK12 ?_
    refine WC_cond rfl (fun hc1 => ?_) (fun hc1 => ?_)
    · try simp only [decide_eq_true_eq, decide_eq_false_iff_not, Bool.not_eq_true', Bool.not_eq_false', Bool.not_eq_true, Bool.not_eq_false, Int.not_lt, Int.not_le, Nat.not_lt, Nat.not_le, Decidable.not_not, ne_eq] at hc1
      refine WC_skip ?_
      refine Ps_next hK11 ?_
      refine WC_seq fun K13 hK13 => ?_
      refine WC_block ?_
      refine WC_sr fun K14 hK14 => ?_
      refine WL_rd (Rd_move rfl) rfl rfl rfl ?_
      refine WL_rd (Rd_move rfl) rfl rfl rfl ?_
      refine WL_ac (Ac_call cf76 rfl (hs := pKnown_ct (pb := pb) (m := m) (n := n) (w := (wdM n)) (Kn := KA) (i := (((t : Nat)) : Int)))) rfl rfl rfl ?_
      rintro _ _ ⟨⟨⟩, rfl, hA⟩
      simp only [List.cons_append, List.nil_append] at hA
      replace hA := hA.symm
      subst hA
      refine WL_rd (Rd_move rfl) rfl rfl rfl ?_
      refine WL_rd (Rd_ext0 rfl) rfl rfl rfl ?_
      refine WL_rd (Rd_ext1 rfl) rfl rfl rfl ?_
      refine WL_ac (Ac_allocW (k := .u8) (w := 8) (m := 32) zr42) rfl rfl rfl ?_
      rintro _ _ ⟨b14, rfl, rfl⟩
      refine WL_ac0 (Ac_storeW rfl rfl sz42) rfl rfl ?_
      rintro _ _ rfl
      refine WL_rd (Rd_assign rfl) rfl rfl rfl ?_
      refine WL_end hK14 ?_
      refine WC_sr fun K15 hK15 => ?_
      refine WL_rd (Rd_move rfl) rfl rfl rfl ?_
      refine WL_rd (Rd_move rfl) rfl rfl rfl ?_
      refine WL_ac (Ac_call cf76 rfl (hs := pKnown_ct (pb := qb) (m := mq) (n := n) (w := (wdM n)) (Kn := KB) (i := (((t : Nat)) : Int)))) rfl rfl rfl ?_
      rintro _ _ ⟨⟨⟩, rfl, hA⟩
      simp only [List.cons_append, List.nil_append] at hA
      replace hA := hA.symm
      subst hA
      refine WL_rd (Rd_move rfl) rfl rfl rfl ?_
      refine WL_rd (Rd_ext0 rfl) rfl rfl rfl ?_
      refine WL_rd (Rd_ext1 rfl) rfl rfl rfl ?_
      refine WL_ac (Ac_allocW (k := .u8) (w := 8) (m := 32) zr42) rfl rfl rfl ?_
      rintro _ _ ⟨b16, rfl, rfl⟩
      refine WL_ac0 (Ac_storeW rfl rfl sz42) rfl rfl ?_
      rintro _ _ rfl
      refine WL_rd (Rd_assign rfl) rfl rfl rfl ?_
      refine WL_end hK15 ?_
      refine WC_seq fun K16 hK16 => ?_
      refine WC_sr fun K17 hK17 => ?_
      refine WL_rd (Rd_move rfl) rfl rfl rfl ?_
      refine WL_rd (Rd_not rfl) rfl rfl rfl ?_
      refine WL_rd (Rd_move rfl) rfl rfl rfl ?_
      refine WL_bool 82 rfl (fun hg18 => ?_) (fun hg18 => ?_)
      · try simp only [decide_eq_true_eq, decide_eq_false_iff_not, Bool.not_eq_true', Bool.not_eq_false', Bool.not_eq_true, Bool.not_eq_false, Int.not_lt, Int.not_le, Nat.not_lt, Nat.not_le, Decidable.not_not, ne_eq] at hg18
        refine WL_skip rfl rfl rfl ?_
        refine WL_skip rfl rfl rfl ?_
        refine WL_rd (Rd_pickT rfl rfl) rfl rfl rfl ?_
        refine WL_rd (Rd_move rfl) rfl rfl rfl ?_
        refine WL_skip rfl rfl rfl ?_
        refine WL_skip rfl rfl rfl ?_
        refine WL_skip rfl rfl rfl ?_
        refine WL_rd (Rd_pickT rfl rfl) rfl rfl rfl ?_
        refine WL_end hK17 ?_
        refine WC_condT rfl ?_
        refine WC_exit ?_
        refine Ps_next hK13 ?_
        refine WC_region ?_
        refine WL_rd (Rd_move rfl) rfl rfl rfl ?_
        refine WL_rd (Rd_addN (j := 1) rfl rfl) rfl rfl rfl ?_
        refine WL_rd (Rd_assign rfl) rfl rfl rfl ?_
        refine WL_nil ?_
        refine Ps_wk (by (try simp only [List.cons_append, List.nil_append]); repeat (first | with_reducible exact Wk.nil | refine Wk.cons (by first | rfl | (simp only [List.length_append, List.length_cons, List.length_nil, List.length_replicate, Nat.zero_add]; rfl) | (simp; done)) ?_)) (by (try simp only [List.cons_append, List.nil_append]); first | ((repeat (first | with_reducible exact Sub.refl | with_reducible apply Sub.cons Ext.here | with_reducible apply Sub.tail)); done) | (repeat (first | with_reducible exact Sub.refl | with_reducible exact Sub.nil | (with_reducible apply Sub.cons; · (repeat (first | with_reducible exact Ext.here | with_reducible apply Ext.there))) | with_reducible apply Sub.tail))) (hK10 (t + 1) (⟨by omega, by omega⟩) (by omega))
      · try simp only [decide_eq_true_eq, decide_eq_false_iff_not, Bool.not_eq_true', Bool.not_eq_false', Bool.not_eq_true, Bool.not_eq_false, Int.not_lt, Int.not_le, Nat.not_lt, Nat.not_le, Decidable.not_not, ne_eq] at hg18
        have q1 := hg18
        refine WL_rd (Rd_move rfl) rfl rfl rfl ?_
        refine WL_rd (Rd_not rfl) rfl rfl rfl ?_
        refine WL_rd (Rd_pickF rfl rfl) rfl rfl rfl ?_
        refine WL_rd (Rd_move rfl) rfl rfl rfl ?_
        refine WL_bool 86 rfl (fun hg19 => ?_) (fun hg19 => ?_)
        · try simp only [decide_eq_true_eq, decide_eq_false_iff_not, Bool.not_eq_true', Bool.not_eq_false', Bool.not_eq_true, Bool.not_eq_false, Int.not_lt, Int.not_le, Nat.not_lt, Nat.not_le, Decidable.not_not, ne_eq] at hg19
          refine WL_skip rfl rfl rfl ?_
          refine WL_skip rfl rfl rfl ?_
          refine WL_skip rfl rfl rfl ?_
          refine WL_rd (Rd_pickT rfl rfl) rfl rfl rfl ?_
          refine WL_end hK17 ?_
          refine WC_condT rfl ?_
          refine WC_exit ?_
          refine Ps_next hK13 ?_
          refine WC_region ?_
          refine WL_rd (Rd_move rfl) rfl rfl rfl ?_
          refine WL_rd (Rd_addN (j := 1) rfl rfl) rfl rfl rfl ?_
          refine WL_rd (Rd_assign rfl) rfl rfl rfl ?_
          refine WL_nil ?_
          refine Ps_wk (by (try simp only [List.cons_append, List.nil_append]); repeat (first | with_reducible exact Wk.nil | refine Wk.cons (by first | rfl | (simp only [List.length_append, List.length_cons, List.length_nil, List.length_replicate, Nat.zero_add]; rfl) | (simp; done)) ?_)) (by (try simp only [List.cons_append, List.nil_append]); first | ((repeat (first | with_reducible exact Sub.refl | with_reducible apply Sub.cons Ext.here | with_reducible apply Sub.tail)); done) | (repeat (first | with_reducible exact Sub.refl | with_reducible exact Sub.nil | (with_reducible apply Sub.cons; · (repeat (first | with_reducible exact Ext.here | with_reducible apply Ext.there))) | with_reducible apply Sub.tail))) (hK10 (t + 1) (⟨by omega, by omega⟩) (by omega))
        · try simp only [decide_eq_true_eq, decide_eq_false_iff_not, Bool.not_eq_true', Bool.not_eq_false', Bool.not_eq_true, Bool.not_eq_false, Int.not_lt, Int.not_le, Nat.not_lt, Nat.not_le, Decidable.not_not, ne_eq] at hg19
          have q2 := hg19
          refine WL_rd (Rd_loadW rfl tk42) rfl rfl rfl ?_
          refine WL_rd (Rd_loadW rfl tk42) rfl rfl rfl ?_
          refine WL_rd (Rd_eqW rfl rfl ais42) rfl rfl rfl ?_
          refine WL_rd (Rd_pickF rfl rfl) rfl rfl rfl ?_
          refine WL_end hK17 ?_
          refine WC_cond rfl (fun hc2 => ?_) (fun hc2 => ?_)
          · try simp only [decide_eq_true_eq, decide_eq_false_iff_not, Bool.not_eq_true', Bool.not_eq_false', Bool.not_eq_true, Bool.not_eq_false, Int.not_lt, Int.not_le, Nat.not_lt, Nat.not_le, Decidable.not_not, ne_eq] at hc2
            refine WC_exit ?_
            refine Ps_next hK13 ?_
            refine WC_region ?_
            refine WL_rd (Rd_move rfl) rfl rfl rfl ?_
            refine WL_rd (Rd_addN (j := 1) rfl rfl) rfl rfl rfl ?_
            refine WL_rd (Rd_assign rfl) rfl rfl rfl ?_
            refine WL_nil ?_
            refine Ps_wk (by (try simp only [List.cons_append, List.nil_append]); repeat (first | with_reducible exact Wk.nil | refine Wk.cons (by first | rfl | (simp only [List.length_append, List.length_cons, List.length_nil, List.length_replicate, Nat.zero_add]; rfl) | (simp; done)) ?_)) (by (try simp only [List.cons_append, List.nil_append]); first | ((repeat (first | with_reducible exact Sub.refl | with_reducible apply Sub.cons Ext.here | with_reducible apply Sub.tail)); done) | (repeat (first | with_reducible exact Sub.refl | with_reducible exact Sub.nil | (with_reducible apply Sub.cons; · (repeat (first | with_reducible exact Ext.here | with_reducible apply Ext.there))) | with_reducible apply Sub.tail))) (hK10 (t + 1) (⟨by omega, by omega⟩) (by omega))
          · try simp only [decide_eq_true_eq, decide_eq_false_iff_not, Bool.not_eq_true', Bool.not_eq_false', Bool.not_eq_true, Bool.not_eq_false, Int.not_lt, Int.not_le, Nat.not_lt, Nat.not_le, Decidable.not_not, ne_eq] at hc2
            have hdf : ClSt KA KB t false := ⟨q1, q2, fun e => hc2 (congrArg Subtype.val e)⟩
            refine WC_skip ?_
            refine Ps_next hK16 ?_
            refine WC_sr fun K20 hK20 => ?_
            refine WL_rd (Rd_move rfl) rfl rfl rfl ?_
            refine WL_rd (Rd_assign rfl) rfl rfl rfl ?_
            refine WL_end hK20 ?_
            refine WC_sr fun K21 hK21 => ?_
            refine WL_rd (Rd_assign rfl) rfl rfl rfl ?_
            refine WL_end hK21 ?_
            refine WC_seq fun K22 hK22 => ?_
            refine WC_block ?_
            refine WC_loopK (σ := Nat × Bool) (fun ⟨up, sm⟩ => [(18, .int .i64 ((up : Nat) : Int)), (19, .bool sm)]) (fun ⟨up, sm⟩ => []) (fun ⟨up, sm⟩ => 1 ≤ up ∧ up < 2 * (wdM n) ∧ ClSt KA KB up sm) (fun ⟨up, sm⟩ => up) ⟨t, false⟩ [9, 11, 13, 14, 15, 16, 17, 24, 26, 28, 30, 61, 62, 63, 64, 65, 66, 67, 68, 69, 70, 71, 72, 73, 74, 75, 76, 77, 78, 79, 80, 81, 82, 83, 84, 85, 86, 87, 88, 89, 90, 91, 121, 122, 123, 124, 125, 126, 127, 128, 129, 130, 131, 132, 133, 134, 135, 136, 137, 138, 139, 140, 141, 142, 143, 144, 145, 146, 147, 148, 149, 150, 151, 152, 153, 154, 155, 156, 157, 158, 159, 160, 161, 162, 163, 164, 165, 166, 167, 168, 169, 170, 171, 172] (by repeat (first | exact Kep.nil | apply Kep.drop rfl | apply Kep.keep rfl)) (by (try dsimp only); repeat (first | with_reducible exact Gv.nil | (with_reducible apply Gv.cons; · (repeat (first | with_reducible exact Ext.here | with_reducible apply Ext.there))))) ?_ ?_ Sub.refl ?_
            · exact ⟨ht1, by omega, hdf⟩
            · (try dsimp only); exact (Wk.cons (by first | rfl | (simp only [List.length_append, List.length_cons, List.length_nil, List.length_replicate, Nat.zero_add]; rfl) | (simp; done)) (Wk.cons (by first | rfl | (simp only [List.length_append, List.length_cons, List.length_nil, List.length_replicate, Nat.zero_add]; rfl) | (simp; done)) Wk.nil))
            · rintro ⟨up, sm⟩ ⟨hu1, hu2, hst⟩ K23 hK23
              simp only [List.cons_append, List.nil_append]
              have hdc := Dg_len ((KA (((up / 2 : Nat)) : Int)).getD zD)
              have hdd := Dg_len ((KB (((up / 2 : Nat)) : Int)).getD zD)
              refine WC_seq fun K24 hK24 => ?_
              refine WC_sr fun K25 hK25 => ?_
              refine WL_rd (Rd_move rfl) rfl rfl rfl ?_
              refine WL_rd (Rd_gtrN (j := 1) rfl rfl) rfl rfl rfl ?_
              refine WL_rd (Rd_move rfl) rfl rfl rfl ?_
              refine WL_bool 94 rfl (fun hg26 => ?_) (fun hg26 => ?_)
              · try simp only [decide_eq_true_eq, decide_eq_false_iff_not, Bool.not_eq_true', Bool.not_eq_false', Bool.not_eq_true, Bool.not_eq_false, Int.not_lt, Int.not_le, Nat.not_lt, Nat.not_le, Decidable.not_not, ne_eq] at hg26
                have q3 := hg26
                refine WL_rd (Rd_move rfl) rfl rfl rfl ?_
                refine WL_rd (Rd_not rfl) rfl rfl rfl ?_
                refine WL_rd (Rd_pickT rfl rfl) rfl rfl rfl ?_
                refine WL_end hK25 ?_
                refine WC_cond rfl (fun hc3 => ?_) (fun hc3 => ?_)
                · try simp only [decide_eq_true_eq, decide_eq_false_iff_not, Bool.not_eq_true', Bool.not_eq_false', Bool.not_eq_true, Bool.not_eq_false, Int.not_lt, Int.not_le, Nat.not_lt, Nat.not_le, Decidable.not_not, ne_eq] at hc3
                  obtain rfl : sm = false := by simpa using hc3
                  have hdi : Dif KA KB up := hst
                  obtain ⟨mk1, mk2, _⟩ := hdi.up (by omega) hu2 hl1 hl2 hn1 hn2
                  have hup := clSt_up hdi (by omega) hu2 hl1 hl2 hn1 hn2
                  refine WC_skip ?_
                  refine Ps_next hK24 ?_
                  refine WC_block ?_
                  refine WC_sr fun K27 hK27 => ?_
                  refine WL_rd (Rd_move rfl) rfl rfl rfl ?_
                  refine WL_rd (Rd_quoN (j := 2) rfl rfl) rfl rfl rfl ?_
                  refine WL_rd (Rd_assign rfl) rfl rfl rfl ?_
                  refine WL_end hK27 ?_
                  refine WC_sr fun K28 hK28 => ?_
                  refine WL_rd (Rd_move rfl) rfl rfl rfl ?_
                  refine WL_rd (Rd_move rfl) rfl rfl rfl ?_
                  refine WL_ac (Ac_call cf76 rfl (hs := pKnown_ct (pb := pb) (m := m) (n := n) (w := (wdM n)) (Kn := KA) (i := ((((up / 2) : Nat)) : Int)))) rfl rfl rfl ?_
                  rintro _ _ ⟨⟨⟩, rfl, hA⟩
                  simp only [List.cons_append, List.nil_append] at hA
                  replace hA := hA.symm
                  subst hA
                  rw [show (KA ((((up / 2) : Nat)) : Int)).isSome = true from mk1.is.2.2.1]
                  refine WL_rd (Rd_move rfl) rfl rfl rfl ?_
                  refine WL_rd (Rd_ext0 rfl) rfl rfl rfl ?_
                  refine WL_rd (Rd_ext1 rfl) rfl rfl rfl ?_
                  refine WL_ac (Ac_allocW (k := .u8) (w := 8) (m := 32) zr42) rfl rfl rfl ?_
                  rintro _ _ ⟨b20, rfl, rfl⟩
                  refine WL_ac0 (Ac_storeW rfl rfl sz42) rfl rfl ?_
                  rintro _ _ rfl
                  refine WL_rd (Rd_assign rfl) rfl rfl rfl ?_
                  refine WL_end hK28 ?_
                  refine WC_sr fun K29 hK29 => ?_
                  refine WL_rd (Rd_move rfl) rfl rfl rfl ?_
                  refine WL_rd (Rd_move rfl) rfl rfl rfl ?_
                  refine WL_ac (Ac_call cf76 rfl (hs := pKnown_ct (pb := qb) (m := mq) (n := n) (w := (wdM n)) (Kn := KB) (i := ((((up / 2) : Nat)) : Int)))) rfl rfl rfl ?_
                  rintro _ _ ⟨⟨⟩, rfl, hA⟩
                  simp only [List.cons_append, List.nil_append] at hA
                  replace hA := hA.symm
                  subst hA
                  rw [show (KB ((((up / 2) : Nat)) : Int)).isSome = true from mk2.is.2.2.1]
                  refine WL_rd (Rd_move rfl) rfl rfl rfl ?_
                  refine WL_rd (Rd_ext0 rfl) rfl rfl rfl ?_
                  refine WL_rd (Rd_ext1 rfl) rfl rfl rfl ?_
                  refine WL_ac (Ac_allocW (k := .u8) (w := 8) (m := 32) zr42) rfl rfl rfl ?_
                  rintro _ _ ⟨b22, rfl, rfl⟩
                  refine WL_ac0 (Ac_storeW rfl rfl sz42) rfl rfl ?_
                  rintro _ _ rfl
                  refine WL_rd (Rd_assign rfl) rfl rfl rfl ?_
                  refine WL_end hK29 ?_
                  refine WC_seq fun K30 hK30 => ?_
                  refine WC_sr fun K31 hK31 => ?_
                  refine WL_rd (Rd_move rfl) rfl rfl rfl ?_
                  refine WL_rd (Rd_not rfl) rfl rfl rfl ?_
                  refine WL_rd (Rd_move rfl) rfl rfl rfl ?_
                  refine WL_rd (Rd_move rfl) rfl rfl rfl ?_
                  refine WL_rd (Rd_not rfl) rfl rfl rfl ?_
                  refine WL_rd (Rd_pickF rfl rfl) rfl rfl rfl ?_
                  refine WL_end hK31 ?_
                  refine WC_condF rfl ?_
                  refine WC_skip ?_
                  refine Ps_next hK30 ?_
                  refine WC_region ?_
                  refine WL_rd (Rd_loadW rfl tk42) rfl rfl rfl ?_
                  refine WL_rd (Rd_loadW rfl tk42) rfl rfl rfl ?_
                  refine WL_rd (Rd_eqW rfl rfl ais42) rfl rfl rfl ?_
                  refine WL_rd (Rd_assign rfl) rfl rfl rfl ?_
                  refine WL_nil ?_
                  refine Ps_wk (by (try simp only [List.cons_append, List.nil_append]); repeat (first | with_reducible exact Wk.nil | refine Wk.cons (by first | rfl | (simp only [List.length_append, List.length_cons, List.length_nil, List.length_replicate, Nat.zero_add]; rfl) | (simp; done)) ?_)) (by (try simp only [List.cons_append, List.nil_append]); first | ((repeat (first | with_reducible exact Sub.refl | with_reducible apply Sub.cons Ext.here | with_reducible apply Sub.tail)); done) | (repeat (first | with_reducible exact Sub.refl | with_reducible exact Sub.nil | (with_reducible apply Sub.cons; · (repeat (first | with_reducible exact Ext.here | with_reducible apply Ext.there))) | with_reducible apply Sub.tail))) (hK23 ⟨up / 2, _⟩ (⟨by (try dsimp only); omega, by (try dsimp only); omega, hup⟩) (by (try dsimp only); omega))
                · try simp only [decide_eq_true_eq, decide_eq_false_iff_not, Bool.not_eq_true', Bool.not_eq_false', Bool.not_eq_true, Bool.not_eq_false, Int.not_lt, Int.not_le, Nat.not_lt, Nat.not_le, Decidable.not_not, ne_eq] at hc3
                  have hsm : sm = true := by first | (simpa using hc3) | (cases sm with | true => rfl | false => have h2 := Dif.two (F := F0) (show Dif KA KB up from hst) hu1 hr12; omega)
                  subst hsm
                  obtain ⟨M1, M2, heq, hne⟩ : Meet KA KB up := hst
                  have hd11 := Dg_len ((KA (((2 * up : Nat)) : Int)).getD zD)
                  have hd12 := Dg_len ((KA (((2 * up + 1 : Nat)) : Int)).getD zD)
                  have hd21 := Dg_len ((KB (((2 * up : Nat)) : Int)).getD zD)
                  have hd22 := Dg_len ((KB (((2 * up + 1 : Nat)) : Int)).getD zD)
                  have hdu := Dg_len ((KA (((up : Nat)) : Int)).getD zD)
                  refine WC_exit ?_
                  refine Ps_next hK22 ?_
                  refine WC_sr fun K32 hK32 => ?_
                  refine WL_rd (Rd_move rfl) rfl rfl rfl ?_
                  refine WL_rd (Rd_move rfl) rfl rfl rfl ?_
                  refine WL_rd (Rd_mulN (i := 2) rfl rfl) rfl rfl rfl ?_
                  refine WL_ac (Ac_call cf76 rfl (hs := pKnown_ct (pb := pb) (m := m) (n := n) (w := (wdM n)) (Kn := KA) (i := (((2 * up : Nat)) : Int)))) rfl rfl rfl ?_
                  rintro _ _ ⟨⟨⟩, rfl, hA⟩
                  simp only [List.cons_append, List.nil_append] at hA
                  replace hA := hA.symm
                  subst hA
                  refine WL_rd (Rd_move rfl) rfl rfl rfl ?_
                  refine WL_rd (Rd_ext0 rfl) rfl rfl rfl ?_
                  refine WL_rd (Rd_ext1 rfl) rfl rfl rfl ?_
                  refine WL_ac (Ac_allocW (k := .u8) (w := 8) (m := 32) zr42) rfl rfl rfl ?_
                  rintro _ _ ⟨b24, rfl, rfl⟩
                  refine WL_ac0 (Ac_storeW rfl rfl sz42) rfl rfl ?_
                  rintro _ _ rfl
                  refine WL_rd (Rd_assign rfl) rfl rfl rfl ?_
                  refine WL_end hK32 ?_
                  refine WC_sr fun K33 hK33 => ?_
                  refine WL_rd (Rd_move rfl) rfl rfl rfl ?_
                  refine WL_rd (Rd_move rfl) rfl rfl rfl ?_
                  refine WL_rd (Rd_mulN (i := 2) rfl rfl) rfl rfl rfl ?_
                  refine WL_rd (Rd_addN (j := 1) rfl rfl) rfl rfl rfl ?_
                  refine WL_ac (Ac_call cf76 rfl (hs := pKnown_ct (pb := pb) (m := m) (n := n) (w := (wdM n)) (Kn := KA) (i := (((2 * up + 1 : Nat)) : Int)))) rfl rfl rfl ?_
                  rintro _ _ ⟨⟨⟩, rfl, hA⟩
                  simp only [List.cons_append, List.nil_append] at hA
                  replace hA := hA.symm
                  subst hA
                  refine WL_rd (Rd_move rfl) rfl rfl rfl ?_
                  refine WL_rd (Rd_ext0 rfl) rfl rfl rfl ?_
                  refine WL_rd (Rd_ext1 rfl) rfl rfl rfl ?_
                  refine WL_ac (Ac_allocW (k := .u8) (w := 8) (m := 32) zr42) rfl rfl rfl ?_
                  rintro _ _ ⟨b26, rfl, rfl⟩
                  refine WL_ac0 (Ac_storeW rfl rfl sz42) rfl rfl ?_
                  rintro _ _ rfl
                  refine WL_rd (Rd_assign rfl) rfl rfl rfl ?_
                  refine WL_end hK33 ?_
                  refine WC_sr fun K34 hK34 => ?_
                  refine WL_rd (Rd_move rfl) rfl rfl rfl ?_
                  refine WL_rd (Rd_move rfl) rfl rfl rfl ?_
                  refine WL_rd (Rd_mulN (i := 2) rfl rfl) rfl rfl rfl ?_
                  refine WL_ac (Ac_call cf76 rfl (hs := pKnown_ct (pb := qb) (m := mq) (n := n) (w := (wdM n)) (Kn := KB) (i := (((2 * up : Nat)) : Int)))) rfl rfl rfl ?_
                  rintro _ _ ⟨⟨⟩, rfl, hA⟩
                  simp only [List.cons_append, List.nil_append] at hA
                  replace hA := hA.symm
                  subst hA
                  refine WL_rd (Rd_move rfl) rfl rfl rfl ?_
                  refine WL_rd (Rd_ext0 rfl) rfl rfl rfl ?_
                  refine WL_rd (Rd_ext1 rfl) rfl rfl rfl ?_
                  refine WL_ac (Ac_allocW (k := .u8) (w := 8) (m := 32) zr42) rfl rfl rfl ?_
                  rintro _ _ ⟨b28, rfl, rfl⟩
                  refine WL_ac0 (Ac_storeW rfl rfl sz42) rfl rfl ?_
                  rintro _ _ rfl
                  refine WL_rd (Rd_assign rfl) rfl rfl rfl ?_
                  refine WL_end hK34 ?_
                  refine WC_sr fun K35 hK35 => ?_
                  refine WL_rd (Rd_move rfl) rfl rfl rfl ?_
                  refine WL_rd (Rd_move rfl) rfl rfl rfl ?_
                  refine WL_rd (Rd_mulN (i := 2) rfl rfl) rfl rfl rfl ?_
                  refine WL_rd (Rd_addN (j := 1) rfl rfl) rfl rfl rfl ?_
                  refine WL_ac (Ac_call cf76 rfl (hs := pKnown_ct (pb := qb) (m := mq) (n := n) (w := (wdM n)) (Kn := KB) (i := (((2 * up + 1 : Nat)) : Int)))) rfl rfl rfl ?_
                  rintro _ _ ⟨⟨⟩, rfl, hA⟩
                  simp only [List.cons_append, List.nil_append] at hA
                  replace hA := hA.symm
                  subst hA
                  refine WL_rd (Rd_move rfl) rfl rfl rfl ?_
                  refine WL_rd (Rd_ext0 rfl) rfl rfl rfl ?_
                  refine WL_rd (Rd_ext1 rfl) rfl rfl rfl ?_
                  refine WL_ac (Ac_allocW (k := .u8) (w := 8) (m := 32) zr42) rfl rfl rfl ?_
                  rintro _ _ ⟨b30, rfl, rfl⟩
                  refine WL_ac0 (Ac_storeW rfl rfl sz42) rfl rfl ?_
                  rintro _ _ rfl
                  refine WL_rd (Rd_assign rfl) rfl rfl rfl ?_
                  refine WL_end hK35 ?_
                  refine WC_seq fun K36 hK36 => ?_
                  refine WC_drawA mix (fun i => ([2, 2, 2, 2, 2, 2, 2, 2, 2, 2, 2, 2, 2, 2, 2, 1, 2, 2, 1, 2, 2] : List Nat).getD i 0) ?_
                  refine WJ_takeP 0 rfl (by kernel_rfl) (Rd_move rfl) rfl rfl rfl (hp _ _) ?_
                  refine WJ_takeP 1 rfl (by kernel_rfl) (Rd_not rfl) rfl rfl rfl (hp _ _) ?_
                  refine WJ_takeP 2 rfl (by kernel_rfl) (Rd_move rfl) rfl rfl rfl (hp _ _) ?_
                  refine WJ_tk 3 (Rd_loadW rfl tk42) hp ?_ rfl (by kernel_rfl) rfl rfl rfl
                  refine WJ_tk 4 (Rd_loadW rfl tk42) hp ?_ rfl (by kernel_rfl) rfl rfl rfl
                  refine WJ_takeP 5 rfl (by kernel_rfl) (Rd_eqW rfl rfl ais42) rfl rfl rfl (hp _ _) ?_
                  refine WJ_takeP 6 rfl (by kernel_rfl) (Rd_move rfl) rfl rfl rfl (hp _ _) ?_
                  refine WJ_bool 157 rfl (fun hg37 => ?_) (fun hg37 => ?_)
                  · try simp only [decide_eq_true_eq, decide_eq_false_iff_not, Bool.not_eq_true', Bool.not_eq_false', Bool.not_eq_true, Bool.not_eq_false, Int.not_lt, Int.not_le, Nat.not_lt, Nat.not_le, Decidable.not_not, ne_eq] at hg37
                    have q5 := hg37
                    refine WJ_tk 7 (Rd_loadW rfl tk42) hp ?_ rfl (by kernel_rfl) rfl rfl rfl
                    refine WJ_tk 8 (Rd_loadW rfl tk42) hp ?_ rfl (by kernel_rfl) rfl rfl rfl
                    refine WJ_takeP 9 rfl (by kernel_rfl) (Rd_eqW rfl rfl ais42) rfl rfl rfl (hp _ _) ?_
                    refine WJ_takeP 10 rfl (by kernel_rfl) (Rd_pickT rfl rfl) rfl rfl rfl (hp _ _) ?_
                    refine WJ_takeP 11 rfl (by kernel_rfl) (Rd_pickF rfl rfl) rfl rfl rfl (hp _ _) ?_
                    refine WJ_takeP 12 rfl (by kernel_rfl) (Rd_move rfl) rfl rfl rfl (hp _ _) ?_
                    refine WJ_bool 163 rfl (fun hg38 => ?_) (fun hg38 => ?_)
                    · try simp only [decide_eq_true_eq, decide_eq_false_iff_not, Bool.not_eq_true', Bool.not_eq_false', Bool.not_eq_true, Bool.not_eq_false, Int.not_lt, Int.not_le, Nat.not_lt, Nat.not_le, Decidable.not_not, ne_eq] at hg38
                      have q6 := hg38
                      refine WJ_skip 13 rfl (by kernel_rfl) rfl rfl rfl (hp _ _) ?_
                      refine WJ_skip 14 rfl (by kernel_rfl) rfl rfl rfl (hp _ _) ?_
                      refine WJ_skip 16 rfl (by kernel_rfl) rfl rfl rfl (hp _ _) ?_
                      refine WJ_skip 17 rfl (by kernel_rfl) rfl rfl rfl (hp _ _) ?_
                      refine WJ_all (rs := [15]) (by kernel_rfl) rfl ?_
                      refine WI_one ?_
                      refine WI_skip rfl rfl rfl rfl (fun _ => (by repeat (first | with_reducible exact Sub.refl | with_reducible exact Sub.nil | with_reducible refine Sub.cons (by repeat (first | with_reducible exact Ext.here | with_reducible apply Ext.there)) ?_ | with_reducible refine Sub.tail ?_))) ?_
                      refine WJ_all (rs := [18]) (by kernel_rfl) rfl ?_
                      refine WI_one ?_
                      refine WI_skip rfl rfl rfl rfl (fun _ => (by repeat (first | with_reducible exact Sub.refl | with_reducible exact Sub.nil | with_reducible refine Sub.cons (by repeat (first | with_reducible exact Ext.here | with_reducible apply Ext.there)) ?_ | with_reducible refine Sub.tail ?_))) ?_
                      refine WJ_skip 19 rfl (by kernel_rfl) rfl rfl rfl (hp _ _) ?_
                      refine WJ_takeP 20 rfl (by kernel_rfl) (Rd_pickT rfl rfl) rfl rfl rfl (hp _ _) ?_
                      refine WJ_done (by kernel_rfl) ?_
                      refine Ps_next hK36 ?_
                      refine WC_condT rfl ?_
                      first | exact absurd ⟨Subtype.ext q5, Subtype.ext q6⟩ hne | cases q6
                    · try simp only [decide_eq_true_eq, decide_eq_false_iff_not, Bool.not_eq_true', Bool.not_eq_false', Bool.not_eq_true, Bool.not_eq_false, Int.not_lt, Int.not_le, Nat.not_lt, Nat.not_le, Decidable.not_not, ne_eq] at hg38
                      have q6 := hg38
                      refine WJ_tk 13 (Rd_loadW rfl tk42) hp ?_ rfl (by kernel_rfl) rfl rfl rfl
                      refine WJ_tk 14 (Rd_loadW rfl tk42) hp ?_ rfl (by kernel_rfl) rfl rfl rfl
                      refine WJ_tk 16 (Rd_loadW rfl tk42) hp ?_ rfl (by kernel_rfl) rfl rfl rfl
                      refine WJ_tk 17 (Rd_loadW rfl tk42) hp ?_ rfl (by kernel_rfl) rfl rfl rfl
                      refine WJ_all (rs := [15]) (by kernel_rfl) rfl ?_
                      refine WI_one ?_
                      refine WI_ac rfl (Ac_call cf77 rfl (hs := nodeR_ct (x := ((KA (((2 * up : Nat)) : Int)).getD zD).1) (y := ((KA (((2 * up + 1 : Nat)) : Int)).getD zD).1) (hx := Dg_len _) (hy := Dg_len _))) rfl rfl rfl rfl ?_
                      rintro _ _ ⟨⟨⟩, rfl, hA⟩
                      simp only [List.cons_append, List.nil_append] at hA
                      replace hA := hA.symm
                      subst hA
                      rw [show tagD 6#8 [((KA (((2 * up : Nat)) : Int)).getD zD).1, ((KA (((2 * up + 1 : Nat)) : Int)).getD zD).1] = ((KA (((up : Nat)) : Int)).getD zD).1 from congrArg Subtype.val (M1.is.2.2.2)]
                      refine ⟨(fun _ => (by repeat (first | with_reducible exact Sub.refl | with_reducible exact Sub.nil | with_reducible refine Sub.cons (by repeat (first | with_reducible exact Ext.here | with_reducible apply Ext.there)) ?_ | with_reducible refine Sub.tail ?_))), ?_⟩
                      refine WJ_all (rs := [18]) (by kernel_rfl) rfl ?_
                      refine WI_one ?_
                      refine WI_ac rfl (Ac_call cf77 rfl (hs := nodeR_ct (x := ((KB (((2 * up : Nat)) : Int)).getD zD).1) (y := ((KB (((2 * up + 1 : Nat)) : Int)).getD zD).1) (hx := Dg_len _) (hy := Dg_len _))) rfl rfl rfl rfl ?_
                      rintro _ _ ⟨⟨⟩, rfl, hA⟩
                      simp only [List.cons_append, List.nil_append] at hA
                      replace hA := hA.symm
                      subst hA
                      rw [show tagD 6#8 [((KB (((2 * up : Nat)) : Int)).getD zD).1, ((KB (((2 * up + 1 : Nat)) : Int)).getD zD).1] = ((KA (((up : Nat)) : Int)).getD zD).1 from congrArg Subtype.val (M2.is.2.2.2.trans heq.symm)]
                      refine ⟨(fun _ => (by repeat (first | with_reducible exact Sub.refl | with_reducible exact Sub.nil | with_reducible refine Sub.cons (by repeat (first | with_reducible exact Ext.here | with_reducible apply Ext.there)) ?_ | with_reducible refine Sub.tail ?_))), ?_⟩
                      refine WJ_takeP 19 rfl (by kernel_rfl) (Rd_isF (Rd_neW rfl rfl ais42)) rfl rfl rfl (hp _ _) ?_
                      refine WJ_takeP 20 rfl (by kernel_rfl) (Rd_pickF rfl rfl) rfl rfl rfl (hp _ _) ?_
                      refine WJ_done (by kernel_rfl) ?_
                      refine Ps_next hK36 ?_
                      refine WC_condF rfl ?_
                      refine WC_skip ?_
                      refine Ps_next hK13 ?_
                      refine WC_region ?_
                      refine WL_rd (Rd_move rfl) rfl rfl rfl ?_
                      refine WL_rd (Rd_addN (j := 1) rfl rfl) rfl rfl rfl ?_
                      refine WL_rd (Rd_assign rfl) rfl rfl rfl ?_
                      refine WL_nil ?_
                      refine Ps_wk (by (try simp only [List.cons_append, List.nil_append]); repeat (first | with_reducible exact Wk.nil | refine Wk.cons (by first | rfl | (simp only [List.length_append, List.length_cons, List.length_nil, List.length_replicate, Nat.zero_add]; rfl) | (simp; done)) ?_)) (by (try simp only [List.cons_append, List.nil_append]); first | ((repeat (first | with_reducible exact Sub.refl | with_reducible apply Sub.cons Ext.here | with_reducible apply Sub.tail)); done) | (repeat (first | with_reducible exact Sub.refl | with_reducible exact Sub.nil | (with_reducible apply Sub.cons; · (repeat (first | with_reducible exact Ext.here | with_reducible apply Ext.there))) | with_reducible apply Sub.tail))) (hK10 (t + 1) (⟨by omega, by omega⟩) (by omega))
                  · try simp only [decide_eq_true_eq, decide_eq_false_iff_not, Bool.not_eq_true', Bool.not_eq_false', Bool.not_eq_true, Bool.not_eq_false, Int.not_lt, Int.not_le, Nat.not_lt, Nat.not_le, Decidable.not_not, ne_eq] at hg37
                    have q5 := hg37
                    refine WJ_skip 7 rfl (by kernel_rfl) rfl rfl rfl (hp _ _) ?_
                    refine WJ_skip 8 rfl (by kernel_rfl) rfl rfl rfl (hp _ _) ?_
                    refine WJ_skip 9 rfl (by kernel_rfl) rfl rfl rfl (hp _ _) ?_
                    refine WJ_takeP 10 rfl (by kernel_rfl) (Rd_pickF rfl rfl) rfl rfl rfl (hp _ _) ?_
                    refine WJ_takeP 11 rfl (by kernel_rfl) (Rd_pickF rfl rfl) rfl rfl rfl (hp _ _) ?_
                    refine WJ_takeP 12 rfl (by kernel_rfl) (Rd_move rfl) rfl rfl rfl (hp _ _) ?_
                    refine WJ_tk 13 (Rd_loadW rfl tk42) hp ?_ rfl (by kernel_rfl) rfl rfl rfl
                    refine WJ_tk 14 (Rd_loadW rfl tk42) hp ?_ rfl (by kernel_rfl) rfl rfl rfl
                    refine WJ_tk 16 (Rd_loadW rfl tk42) hp ?_ rfl (by kernel_rfl) rfl rfl rfl
                    refine WJ_tk 17 (Rd_loadW rfl tk42) hp ?_ rfl (by kernel_rfl) rfl rfl rfl
                    refine WJ_all (rs := [15]) (by kernel_rfl) rfl ?_
                    refine WI_one ?_
                    refine WI_ac rfl (Ac_call cf77 rfl (hs := nodeR_ct (x := ((KA (((2 * up : Nat)) : Int)).getD zD).1) (y := ((KA (((2 * up + 1 : Nat)) : Int)).getD zD).1) (hx := Dg_len _) (hy := Dg_len _))) rfl rfl rfl rfl ?_
                    rintro _ _ ⟨⟨⟩, rfl, hA⟩
                    simp only [List.cons_append, List.nil_append] at hA
                    replace hA := hA.symm
                    subst hA
                    rw [show tagD 6#8 [((KA (((2 * up : Nat)) : Int)).getD zD).1, ((KA (((2 * up + 1 : Nat)) : Int)).getD zD).1] = ((KA (((up : Nat)) : Int)).getD zD).1 from congrArg Subtype.val (M1.is.2.2.2)]
                    refine ⟨(fun _ => (by repeat (first | with_reducible exact Sub.refl | with_reducible exact Sub.nil | with_reducible refine Sub.cons (by repeat (first | with_reducible exact Ext.here | with_reducible apply Ext.there)) ?_ | with_reducible refine Sub.tail ?_))), ?_⟩
                    refine WJ_all (rs := [18]) (by kernel_rfl) rfl ?_
                    refine WI_one ?_
                    refine WI_ac rfl (Ac_call cf77 rfl (hs := nodeR_ct (x := ((KB (((2 * up : Nat)) : Int)).getD zD).1) (y := ((KB (((2 * up + 1 : Nat)) : Int)).getD zD).1) (hx := Dg_len _) (hy := Dg_len _))) rfl rfl rfl rfl ?_
                    rintro _ _ ⟨⟨⟩, rfl, hA⟩
                    simp only [List.cons_append, List.nil_append] at hA
                    replace hA := hA.symm
                    subst hA
                    rw [show tagD 6#8 [((KB (((2 * up : Nat)) : Int)).getD zD).1, ((KB (((2 * up + 1 : Nat)) : Int)).getD zD).1] = ((KA (((up : Nat)) : Int)).getD zD).1 from congrArg Subtype.val (M2.is.2.2.2.trans heq.symm)]
                    refine ⟨(fun _ => (by repeat (first | with_reducible exact Sub.refl | with_reducible exact Sub.nil | with_reducible refine Sub.cons (by repeat (first | with_reducible exact Ext.here | with_reducible apply Ext.there)) ?_ | with_reducible refine Sub.tail ?_))), ?_⟩
                    refine WJ_takeP 19 rfl (by kernel_rfl) (Rd_isF (Rd_neW rfl rfl ais42)) rfl rfl rfl (hp _ _) ?_
                    refine WJ_takeP 20 rfl (by kernel_rfl) (Rd_pickF rfl rfl) rfl rfl rfl (hp _ _) ?_
                    refine WJ_done (by kernel_rfl) ?_
                    refine Ps_next hK36 ?_
                    refine WC_condF rfl ?_
                    refine WC_skip ?_
                    refine Ps_next hK13 ?_
                    refine WC_region ?_
                    refine WL_rd (Rd_move rfl) rfl rfl rfl ?_
                    refine WL_rd (Rd_addN (j := 1) rfl rfl) rfl rfl rfl ?_
                    refine WL_rd (Rd_assign rfl) rfl rfl rfl ?_
                    refine WL_nil ?_
                    refine Ps_wk (by (try simp only [List.cons_append, List.nil_append]); repeat (first | with_reducible exact Wk.nil | refine Wk.cons (by first | rfl | (simp only [List.length_append, List.length_cons, List.length_nil, List.length_replicate, Nat.zero_add]; rfl) | (simp; done)) ?_)) (by (try simp only [List.cons_append, List.nil_append]); first | ((repeat (first | with_reducible exact Sub.refl | with_reducible apply Sub.cons Ext.here | with_reducible apply Sub.tail)); done) | (repeat (first | with_reducible exact Sub.refl | with_reducible exact Sub.nil | (with_reducible apply Sub.cons; · (repeat (first | with_reducible exact Ext.here | with_reducible apply Ext.there))) | with_reducible apply Sub.tail))) (hK10 (t + 1) (⟨by omega, by omega⟩) (by omega))
              · try simp only [decide_eq_true_eq, decide_eq_false_iff_not, Bool.not_eq_true', Bool.not_eq_false', Bool.not_eq_true, Bool.not_eq_false, Int.not_lt, Int.not_le, Nat.not_lt, Nat.not_le, Decidable.not_not, ne_eq] at hg26
                refine WL_skip rfl rfl rfl ?_
                refine WL_skip rfl rfl rfl ?_
                refine WL_rd (Rd_pickF rfl rfl) rfl rfl rfl ?_
                refine WL_end hK25 ?_
                refine WC_condF rfl ?_
                have hsm : sm = true := by first | (simpa using hc3) | (cases sm with | true => rfl | false => have h2 := Dif.two (F := F0) (show Dif KA KB up from hst) hu1 hr12; omega)
                subst hsm
                obtain ⟨M1, M2, heq, hne⟩ : Meet KA KB up := hst
                have hd11 := Dg_len ((KA (((2 * up : Nat)) : Int)).getD zD)
                have hd12 := Dg_len ((KA (((2 * up + 1 : Nat)) : Int)).getD zD)
                have hd21 := Dg_len ((KB (((2 * up : Nat)) : Int)).getD zD)
                have hd22 := Dg_len ((KB (((2 * up + 1 : Nat)) : Int)).getD zD)
                have hdu := Dg_len ((KA (((up : Nat)) : Int)).getD zD)
                refine WC_exit ?_
                refine Ps_next hK22 ?_
                refine WC_sr fun K39 hK39 => ?_
                refine WL_rd (Rd_move rfl) rfl rfl rfl ?_
                refine WL_rd (Rd_move rfl) rfl rfl rfl ?_
                refine WL_rd (Rd_mulN (i := 2) rfl rfl) rfl rfl rfl ?_
                refine WL_ac (Ac_call cf76 rfl (hs := pKnown_ct (pb := pb) (m := m) (n := n) (w := (wdM n)) (Kn := KA) (i := (((2 * up : Nat)) : Int)))) rfl rfl rfl ?_
                rintro _ _ ⟨⟨⟩, rfl, hA⟩
                simp only [List.cons_append, List.nil_append] at hA
                replace hA := hA.symm
                subst hA
                refine WL_rd (Rd_move rfl) rfl rfl rfl ?_
                refine WL_rd (Rd_ext0 rfl) rfl rfl rfl ?_
                refine WL_rd (Rd_ext1 rfl) rfl rfl rfl ?_
                refine WL_ac (Ac_allocW (k := .u8) (w := 8) (m := 32) zr42) rfl rfl rfl ?_
                rintro _ _ ⟨b24, rfl, rfl⟩
                refine WL_ac0 (Ac_storeW rfl rfl sz42) rfl rfl ?_
                rintro _ _ rfl
                refine WL_rd (Rd_assign rfl) rfl rfl rfl ?_
                refine WL_end hK39 ?_
                refine WC_sr fun K40 hK40 => ?_
                refine WL_rd (Rd_move rfl) rfl rfl rfl ?_
                refine WL_rd (Rd_move rfl) rfl rfl rfl ?_
                refine WL_rd (Rd_mulN (i := 2) rfl rfl) rfl rfl rfl ?_
                refine WL_rd (Rd_addN (j := 1) rfl rfl) rfl rfl rfl ?_
                refine WL_ac (Ac_call cf76 rfl (hs := pKnown_ct (pb := pb) (m := m) (n := n) (w := (wdM n)) (Kn := KA) (i := (((2 * up + 1 : Nat)) : Int)))) rfl rfl rfl ?_
                rintro _ _ ⟨⟨⟩, rfl, hA⟩
                simp only [List.cons_append, List.nil_append] at hA
                replace hA := hA.symm
                subst hA
                refine WL_rd (Rd_move rfl) rfl rfl rfl ?_
                refine WL_rd (Rd_ext0 rfl) rfl rfl rfl ?_
                refine WL_rd (Rd_ext1 rfl) rfl rfl rfl ?_
                refine WL_ac (Ac_allocW (k := .u8) (w := 8) (m := 32) zr42) rfl rfl rfl ?_
                rintro _ _ ⟨b26, rfl, rfl⟩
                refine WL_ac0 (Ac_storeW rfl rfl sz42) rfl rfl ?_
                rintro _ _ rfl
                refine WL_rd (Rd_assign rfl) rfl rfl rfl ?_
                refine WL_end hK40 ?_
                refine WC_sr fun K41 hK41 => ?_
                refine WL_rd (Rd_move rfl) rfl rfl rfl ?_
                refine WL_rd (Rd_move rfl) rfl rfl rfl ?_
                refine WL_rd (Rd_mulN (i := 2) rfl rfl) rfl rfl rfl ?_
                refine WL_ac (Ac_call cf76 rfl (hs := pKnown_ct (pb := qb) (m := mq) (n := n) (w := (wdM n)) (Kn := KB) (i := (((2 * up : Nat)) : Int)))) rfl rfl rfl ?_
                rintro _ _ ⟨⟨⟩, rfl, hA⟩
                simp only [List.cons_append, List.nil_append] at hA
                replace hA := hA.symm
                subst hA
                refine WL_rd (Rd_move rfl) rfl rfl rfl ?_
                refine WL_rd (Rd_ext0 rfl) rfl rfl rfl ?_
                refine WL_rd (Rd_ext1 rfl) rfl rfl rfl ?_
                refine WL_ac (Ac_allocW (k := .u8) (w := 8) (m := 32) zr42) rfl rfl rfl ?_
                rintro _ _ ⟨b28, rfl, rfl⟩
                refine WL_ac0 (Ac_storeW rfl rfl sz42) rfl rfl ?_
                rintro _ _ rfl
                refine WL_rd (Rd_assign rfl) rfl rfl rfl ?_
                refine WL_end hK41 ?_
                refine WC_sr fun K42 hK42 => ?_
                refine WL_rd (Rd_move rfl) rfl rfl rfl ?_
                refine WL_rd (Rd_move rfl) rfl rfl rfl ?_
                refine WL_rd (Rd_mulN (i := 2) rfl rfl) rfl rfl rfl ?_
                refine WL_rd (Rd_addN (j := 1) rfl rfl) rfl rfl rfl ?_
                refine WL_ac (Ac_call cf76 rfl (hs := pKnown_ct (pb := qb) (m := mq) (n := n) (w := (wdM n)) (Kn := KB) (i := (((2 * up + 1 : Nat)) : Int)))) rfl rfl rfl ?_
                rintro _ _ ⟨⟨⟩, rfl, hA⟩
                simp only [List.cons_append, List.nil_append] at hA
                replace hA := hA.symm
                subst hA
                refine WL_rd (Rd_move rfl) rfl rfl rfl ?_
                refine WL_rd (Rd_ext0 rfl) rfl rfl rfl ?_
                refine WL_rd (Rd_ext1 rfl) rfl rfl rfl ?_
                refine WL_ac (Ac_allocW (k := .u8) (w := 8) (m := 32) zr42) rfl rfl rfl ?_
                rintro _ _ ⟨b30, rfl, rfl⟩
                refine WL_ac0 (Ac_storeW rfl rfl sz42) rfl rfl ?_
                rintro _ _ rfl
                refine WL_rd (Rd_assign rfl) rfl rfl rfl ?_
                refine WL_end hK42 ?_
                refine WC_seq fun K43 hK43 => ?_
                refine WC_drawA mix (fun i => ([2, 2, 2, 2, 2, 2, 2, 2, 2, 2, 2, 2, 2, 2, 2, 1, 2, 2, 1, 2, 2] : List Nat).getD i 0) ?_
                refine WJ_takeP 0 rfl (by kernel_rfl) (Rd_move rfl) rfl rfl rfl (hp _ _) ?_
                refine WJ_takeP 1 rfl (by kernel_rfl) (Rd_not rfl) rfl rfl rfl (hp _ _) ?_
                refine WJ_takeP 2 rfl (by kernel_rfl) (Rd_move rfl) rfl rfl rfl (hp _ _) ?_
                refine WJ_tk 3 (Rd_loadW rfl tk42) hp ?_ rfl (by kernel_rfl) rfl rfl rfl
                refine WJ_tk 4 (Rd_loadW rfl tk42) hp ?_ rfl (by kernel_rfl) rfl rfl rfl
                refine WJ_takeP 5 rfl (by kernel_rfl) (Rd_eqW rfl rfl ais42) rfl rfl rfl (hp _ _) ?_
                refine WJ_takeP 6 rfl (by kernel_rfl) (Rd_move rfl) rfl rfl rfl (hp _ _) ?_
                refine WJ_bool 157 rfl (fun hg44 => ?_) (fun hg44 => ?_)
                · try simp only [decide_eq_true_eq, decide_eq_false_iff_not, Bool.not_eq_true', Bool.not_eq_false', Bool.not_eq_true, Bool.not_eq_false, Int.not_lt, Int.not_le, Nat.not_lt, Nat.not_le, Decidable.not_not, ne_eq] at hg44
                  have q5 := hg44
                  refine WJ_tk 7 (Rd_loadW rfl tk42) hp ?_ rfl (by kernel_rfl) rfl rfl rfl
                  refine WJ_tk 8 (Rd_loadW rfl tk42) hp ?_ rfl (by kernel_rfl) rfl rfl rfl
                  refine WJ_takeP 9 rfl (by kernel_rfl) (Rd_eqW rfl rfl ais42) rfl rfl rfl (hp _ _) ?_
                  refine WJ_takeP 10 rfl (by kernel_rfl) (Rd_pickT rfl rfl) rfl rfl rfl (hp _ _) ?_
                  refine WJ_takeP 11 rfl (by kernel_rfl) (Rd_pickF rfl rfl) rfl rfl rfl (hp _ _) ?_
                  refine WJ_takeP 12 rfl (by kernel_rfl) (Rd_move rfl) rfl rfl rfl (hp _ _) ?_
                  refine WJ_bool 163 rfl (fun hg45 => ?_) (fun hg45 => ?_)
                  · try simp only [decide_eq_true_eq, decide_eq_false_iff_not, Bool.not_eq_true', Bool.not_eq_false', Bool.not_eq_true, Bool.not_eq_false, Int.not_lt, Int.not_le, Nat.not_lt, Nat.not_le, Decidable.not_not, ne_eq] at hg45
                    have q6 := hg45
                    refine WJ_skip 13 rfl (by kernel_rfl) rfl rfl rfl (hp _ _) ?_
                    refine WJ_skip 14 rfl (by kernel_rfl) rfl rfl rfl (hp _ _) ?_
                    refine WJ_skip 16 rfl (by kernel_rfl) rfl rfl rfl (hp _ _) ?_
                    refine WJ_skip 17 rfl (by kernel_rfl) rfl rfl rfl (hp _ _) ?_
                    refine WJ_all (rs := [15]) (by kernel_rfl) rfl ?_
                    refine WI_one ?_
                    refine WI_skip rfl rfl rfl rfl (fun _ => (by repeat (first | with_reducible exact Sub.refl | with_reducible exact Sub.nil | with_reducible refine Sub.cons (by repeat (first | with_reducible exact Ext.here | with_reducible apply Ext.there)) ?_ | with_reducible refine Sub.tail ?_))) ?_
                    refine WJ_all (rs := [18]) (by kernel_rfl) rfl ?_
                    refine WI_one ?_
                    refine WI_skip rfl rfl rfl rfl (fun _ => (by repeat (first | with_reducible exact Sub.refl | with_reducible exact Sub.nil | with_reducible refine Sub.cons (by repeat (first | with_reducible exact Ext.here | with_reducible apply Ext.there)) ?_ | with_reducible refine Sub.tail ?_))) ?_
                    refine WJ_skip 19 rfl (by kernel_rfl) rfl rfl rfl (hp _ _) ?_
                    refine WJ_takeP 20 rfl (by kernel_rfl) (Rd_pickT rfl rfl) rfl rfl rfl (hp _ _) ?_
                    refine WJ_done (by kernel_rfl) ?_
                    refine Ps_next hK43 ?_
                    refine WC_condT rfl ?_
                    first | exact absurd ⟨Subtype.ext q5, Subtype.ext q6⟩ hne | cases q6
                  · try simp only [decide_eq_true_eq, decide_eq_false_iff_not, Bool.not_eq_true', Bool.not_eq_false', Bool.not_eq_true, Bool.not_eq_false, Int.not_lt, Int.not_le, Nat.not_lt, Nat.not_le, Decidable.not_not, ne_eq] at hg45
                    have q6 := hg45
                    refine WJ_tk 13 (Rd_loadW rfl tk42) hp ?_ rfl (by kernel_rfl) rfl rfl rfl
                    refine WJ_tk 14 (Rd_loadW rfl tk42) hp ?_ rfl (by kernel_rfl) rfl rfl rfl
                    refine WJ_tk 16 (Rd_loadW rfl tk42) hp ?_ rfl (by kernel_rfl) rfl rfl rfl
                    refine WJ_tk 17 (Rd_loadW rfl tk42) hp ?_ rfl (by kernel_rfl) rfl rfl rfl
                    refine WJ_all (rs := [15]) (by kernel_rfl) rfl ?_
                    refine WI_one ?_
                    refine WI_ac rfl (Ac_call cf77 rfl (hs := nodeR_ct (x := ((KA (((2 * up : Nat)) : Int)).getD zD).1) (y := ((KA (((2 * up + 1 : Nat)) : Int)).getD zD).1) (hx := Dg_len _) (hy := Dg_len _))) rfl rfl rfl rfl ?_
                    rintro _ _ ⟨⟨⟩, rfl, hA⟩
                    simp only [List.cons_append, List.nil_append] at hA
                    replace hA := hA.symm
                    subst hA
                    rw [show tagD 6#8 [((KA (((2 * up : Nat)) : Int)).getD zD).1, ((KA (((2 * up + 1 : Nat)) : Int)).getD zD).1] = ((KA (((up : Nat)) : Int)).getD zD).1 from congrArg Subtype.val (M1.is.2.2.2)]
                    refine ⟨(fun _ => (by repeat (first | with_reducible exact Sub.refl | with_reducible exact Sub.nil | with_reducible refine Sub.cons (by repeat (first | with_reducible exact Ext.here | with_reducible apply Ext.there)) ?_ | with_reducible refine Sub.tail ?_))), ?_⟩
                    refine WJ_all (rs := [18]) (by kernel_rfl) rfl ?_
                    refine WI_one ?_
                    refine WI_ac rfl (Ac_call cf77 rfl (hs := nodeR_ct (x := ((KB (((2 * up : Nat)) : Int)).getD zD).1) (y := ((KB (((2 * up + 1 : Nat)) : Int)).getD zD).1) (hx := Dg_len _) (hy := Dg_len _))) rfl rfl rfl rfl ?_
                    rintro _ _ ⟨⟨⟩, rfl, hA⟩
                    simp only [List.cons_append, List.nil_append] at hA
                    replace hA := hA.symm
                    subst hA
                    rw [show tagD 6#8 [((KB (((2 * up : Nat)) : Int)).getD zD).1, ((KB (((2 * up + 1 : Nat)) : Int)).getD zD).1] = ((KA (((up : Nat)) : Int)).getD zD).1 from congrArg Subtype.val (M2.is.2.2.2.trans heq.symm)]
                    refine ⟨(fun _ => (by repeat (first | with_reducible exact Sub.refl | with_reducible exact Sub.nil | with_reducible refine Sub.cons (by repeat (first | with_reducible exact Ext.here | with_reducible apply Ext.there)) ?_ | with_reducible refine Sub.tail ?_))), ?_⟩
                    refine WJ_takeP 19 rfl (by kernel_rfl) (Rd_isF (Rd_neW rfl rfl ais42)) rfl rfl rfl (hp _ _) ?_
                    refine WJ_takeP 20 rfl (by kernel_rfl) (Rd_pickF rfl rfl) rfl rfl rfl (hp _ _) ?_
                    refine WJ_done (by kernel_rfl) ?_
                    refine Ps_next hK43 ?_
                    refine WC_condF rfl ?_
                    refine WC_skip ?_
                    refine Ps_next hK13 ?_
                    refine WC_region ?_
                    refine WL_rd (Rd_move rfl) rfl rfl rfl ?_
                    refine WL_rd (Rd_addN (j := 1) rfl rfl) rfl rfl rfl ?_
                    refine WL_rd (Rd_assign rfl) rfl rfl rfl ?_
                    refine WL_nil ?_
                    refine Ps_wk (by (try simp only [List.cons_append, List.nil_append]); repeat (first | with_reducible exact Wk.nil | refine Wk.cons (by first | rfl | (simp only [List.length_append, List.length_cons, List.length_nil, List.length_replicate, Nat.zero_add]; rfl) | (simp; done)) ?_)) (by (try simp only [List.cons_append, List.nil_append]); first | ((repeat (first | with_reducible exact Sub.refl | with_reducible apply Sub.cons Ext.here | with_reducible apply Sub.tail)); done) | (repeat (first | with_reducible exact Sub.refl | with_reducible exact Sub.nil | (with_reducible apply Sub.cons; · (repeat (first | with_reducible exact Ext.here | with_reducible apply Ext.there))) | with_reducible apply Sub.tail))) (hK10 (t + 1) (⟨by omega, by omega⟩) (by omega))
                · try simp only [decide_eq_true_eq, decide_eq_false_iff_not, Bool.not_eq_true', Bool.not_eq_false', Bool.not_eq_true, Bool.not_eq_false, Int.not_lt, Int.not_le, Nat.not_lt, Nat.not_le, Decidable.not_not, ne_eq] at hg44
                  have q5 := hg44
                  refine WJ_skip 7 rfl (by kernel_rfl) rfl rfl rfl (hp _ _) ?_
                  refine WJ_skip 8 rfl (by kernel_rfl) rfl rfl rfl (hp _ _) ?_
                  refine WJ_skip 9 rfl (by kernel_rfl) rfl rfl rfl (hp _ _) ?_
                  refine WJ_takeP 10 rfl (by kernel_rfl) (Rd_pickF rfl rfl) rfl rfl rfl (hp _ _) ?_
                  refine WJ_takeP 11 rfl (by kernel_rfl) (Rd_pickF rfl rfl) rfl rfl rfl (hp _ _) ?_
                  refine WJ_takeP 12 rfl (by kernel_rfl) (Rd_move rfl) rfl rfl rfl (hp _ _) ?_
                  refine WJ_tk 13 (Rd_loadW rfl tk42) hp ?_ rfl (by kernel_rfl) rfl rfl rfl
                  refine WJ_tk 14 (Rd_loadW rfl tk42) hp ?_ rfl (by kernel_rfl) rfl rfl rfl
                  refine WJ_tk 16 (Rd_loadW rfl tk42) hp ?_ rfl (by kernel_rfl) rfl rfl rfl
                  refine WJ_tk 17 (Rd_loadW rfl tk42) hp ?_ rfl (by kernel_rfl) rfl rfl rfl
                  refine WJ_all (rs := [15]) (by kernel_rfl) rfl ?_
                  refine WI_one ?_
                  refine WI_ac rfl (Ac_call cf77 rfl (hs := nodeR_ct (x := ((KA (((2 * up : Nat)) : Int)).getD zD).1) (y := ((KA (((2 * up + 1 : Nat)) : Int)).getD zD).1) (hx := Dg_len _) (hy := Dg_len _))) rfl rfl rfl rfl ?_
                  rintro _ _ ⟨⟨⟩, rfl, hA⟩
                  simp only [List.cons_append, List.nil_append] at hA
                  replace hA := hA.symm
                  subst hA
                  rw [show tagD 6#8 [((KA (((2 * up : Nat)) : Int)).getD zD).1, ((KA (((2 * up + 1 : Nat)) : Int)).getD zD).1] = ((KA (((up : Nat)) : Int)).getD zD).1 from congrArg Subtype.val (M1.is.2.2.2)]
                  refine ⟨(fun _ => (by repeat (first | with_reducible exact Sub.refl | with_reducible exact Sub.nil | with_reducible refine Sub.cons (by repeat (first | with_reducible exact Ext.here | with_reducible apply Ext.there)) ?_ | with_reducible refine Sub.tail ?_))), ?_⟩
                  refine WJ_all (rs := [18]) (by kernel_rfl) rfl ?_
                  refine WI_one ?_
                  refine WI_ac rfl (Ac_call cf77 rfl (hs := nodeR_ct (x := ((KB (((2 * up : Nat)) : Int)).getD zD).1) (y := ((KB (((2 * up + 1 : Nat)) : Int)).getD zD).1) (hx := Dg_len _) (hy := Dg_len _))) rfl rfl rfl rfl ?_
                  rintro _ _ ⟨⟨⟩, rfl, hA⟩
                  simp only [List.cons_append, List.nil_append] at hA
                  replace hA := hA.symm
                  subst hA
                  rw [show tagD 6#8 [((KB (((2 * up : Nat)) : Int)).getD zD).1, ((KB (((2 * up + 1 : Nat)) : Int)).getD zD).1] = ((KA (((up : Nat)) : Int)).getD zD).1 from congrArg Subtype.val (M2.is.2.2.2.trans heq.symm)]
                  refine ⟨(fun _ => (by repeat (first | with_reducible exact Sub.refl | with_reducible exact Sub.nil | with_reducible refine Sub.cons (by repeat (first | with_reducible exact Ext.here | with_reducible apply Ext.there)) ?_ | with_reducible refine Sub.tail ?_))), ?_⟩
                  refine WJ_takeP 19 rfl (by kernel_rfl) (Rd_isF (Rd_neW rfl rfl ais42)) rfl rfl rfl (hp _ _) ?_
                  refine WJ_takeP 20 rfl (by kernel_rfl) (Rd_pickF rfl rfl) rfl rfl rfl (hp _ _) ?_
                  refine WJ_done (by kernel_rfl) ?_
                  refine Ps_next hK43 ?_
                  refine WC_condF rfl ?_
                  refine WC_skip ?_
                  refine Ps_next hK13 ?_
                  refine WC_region ?_
                  refine WL_rd (Rd_move rfl) rfl rfl rfl ?_
                  refine WL_rd (Rd_addN (j := 1) rfl rfl) rfl rfl rfl ?_
                  refine WL_rd (Rd_assign rfl) rfl rfl rfl ?_
                  refine WL_nil ?_
                  refine Ps_wk (by (try simp only [List.cons_append, List.nil_append]); repeat (first | with_reducible exact Wk.nil | refine Wk.cons (by first | rfl | (simp only [List.length_append, List.length_cons, List.length_nil, List.length_replicate, Nat.zero_add]; rfl) | (simp; done)) ?_)) (by (try simp only [List.cons_append, List.nil_append]); first | ((repeat (first | with_reducible exact Sub.refl | with_reducible apply Sub.cons Ext.here | with_reducible apply Sub.tail)); done) | (repeat (first | with_reducible exact Sub.refl | with_reducible exact Sub.nil | (with_reducible apply Sub.cons; · (repeat (first | with_reducible exact Ext.here | with_reducible apply Ext.there))) | with_reducible apply Sub.tail))) (hK10 (t + 1) (⟨by omega, by omega⟩) (by omega))
    · try simp only [decide_eq_true_eq, decide_eq_false_iff_not, Bool.not_eq_true', Bool.not_eq_false', Bool.not_eq_true, Bool.not_eq_false, Int.not_lt, Int.not_le, Nat.not_lt, Nat.not_le, Decidable.not_not, ne_eq] at hc1
      refine WC_exit ?_
      refine Ps_next hK8 ?_
      refine WC_sr fun K46 hK46 => ?_
      refine WL_ac (Ac_call cf73 rfl (hs := awake_ct)) rfl rfl rfl ?_
      rintro _ _ ⟨⟨⟩, rfl, hA⟩
      simp only [List.cons_append, List.nil_append] at hA
      replace hA := hA.symm
      subst hA
      refine WL_rd (Rd_assign rfl) rfl rfl rfl ?_
      refine WL_end hK46 ?_
      refine WC_ret ?_
      exact hret.go () (Rs1 rfl rfl) (hs := by simp only [List.cons_append, List.nil_append]; first | ((repeat (first | with_reducible exact Sub.refl | with_reducible apply Sub.cons Ext.here | with_reducible apply Sub.tail)); done) | (repeat (first | with_reducible exact Sub.refl | with_reducible exact Sub.nil | (with_reducible apply Sub.cons; · (repeat (first | with_reducible exact Ext.here | with_reducible apply Ext.there))) | with_reducible apply Sub.tail)))
end Go.Proofs.Ytgkpbeikcpecbaa
