/-
  Contracts of functions that the claim reaches, or the logic and the plain laws that they rest on, or the row over them. (Conditions: none beyond the statement.)
-/
import Derived.Test.YtgkpbeikcpecbaaPxM
import Derived.Test.YtgkpbeikcpecbaaPfM
set_option linter.all false
namespace Go.Proofs.Ytgkpbeikcpecbaa
open Go.RowKit Go.SL Go.ShM
set_option maxHeartbeats 1000000
set_option maxRecDepth 20000
set_option linter.all false
theorem cf90 : cfn Try.prog 90 = true := by kernel_rfl
theorem cf91 : cfn Try.prog 91 = true := by kernel_rfl
theorem ud145 : Try.prog.underlying 145 = some (.slice 120) := by kernel_rfl
theorem Sound_no {n : Int} {root : Dg} {X : Asn} {v : Value} {qs : List NQ} {ao : Option Addr} {cap2 : Nat} (h1 : n < 1 ∨ 512 < n) (hS : Sv [X] v 1 eNQ qs ao cap2 := by assumption) (hQ : ∀ q ∈ qs, OKnq [X] 1048576 q := by assumption) (hqn : qs.length ≤ 1048576 := by omega) : Ct Try.prog 23 [.int .i64 n, aU .u8 root.1, v] [X] (fun _ : Unit => .bool true) (fun _ => [X]) := by
  refine Ct_body (n := 190) Try.func23 rfl rfl rfl fun F w0 Q hret hnorm hp => ?_
  change WC _ _ _ _ _ _ _ (_ :: F)
  have hrl := Dg_len root
  refine WC_sr fun K1 hK1 => ?_
  refine WL_ac (Ac_boxW (k := .u8) rfl) rfl rfl rfl ?_
  rintro _ _ ⟨b4, rfl, rfl⟩
  refine WL_rd (Rd_assign rfl) rfl rfl rfl ?_
  refine WL_end hK1 ?_
  refine WC_sr fun K2 hK2 => ?_
  refine WL_rd (Rd_move rfl) rfl rfl rfl ?_
  refine WL_rd (Rd_loadW rfl tk42) rfl rfl rfl ?_
  refine WL_ac (Ac_call cf72 rfl (hs := pNew_no (n := n) (root := root) (h1 := h1))) rfl rfl rfl ?_
  rintro _ _ ⟨⟨⟩, rfl, hA⟩
  simp only [List.cons_append, List.nil_append] at hA
  replace hA := hA.symm
  subst hA
  refine WL_rd (Rd_move rfl) rfl rfl rfl ?_
  refine WL_rd (Rd_ext0 rfl) rfl rfl rfl ?_
  refine WL_rd (Rd_ext1 rfl) rfl rfl rfl ?_
  refine WL_rd (Rd_assign rfl) rfl rfl rfl ?_
  refine WL_rd (Rd_assign rfl) rfl rfl rfl ?_
  refine WL_end hK2 ?_
  refine WC_sr fun K3 hK3 => ?_
  refine WL_rd (Rd_move rfl) rfl rfl rfl ?_
  refine WL_rd (Rd_loadW rfl tk42) rfl rfl rfl ?_
  refine WL_ac (Ac_call cf72 rfl (hs := pNew_no (n := n) (root := root) (h1 := h1))) rfl rfl rfl ?_
  rintro _ _ ⟨⟨⟩, rfl, hA⟩
  simp only [List.cons_append, List.nil_append] at hA
  replace hA := hA.symm
  subst hA
  refine WL_rd (Rd_move rfl) rfl rfl rfl ?_
  refine WL_rd (Rd_ext0 rfl) rfl rfl rfl ?_
  refine WL_rd (Rd_ext1 rfl) rfl rfl rfl ?_
  refine WL_rd (Rd_assign rfl) rfl rfl rfl ?_
  refine WL_rd (Rd_assign rfl) rfl rfl rfl ?_
  refine WL_end hK3 ?_
  refine WC_seq fun K4 hK4 => ?_
  refine WC_sr fun K5 hK5 => ?_
  refine WL_rd (Rd_move rfl) rfl rfl rfl ?_
  refine WL_rd (Rd_isT (Rd_neq rfl rfl)) rfl rfl rfl ?_
  refine WL_rd (Rd_move rfl) rfl rfl rfl ?_
  refine WL_skip rfl rfl rfl ?_
  refine WL_skip rfl rfl rfl ?_
  refine WL_rd (Rd_pickT rfl rfl) rfl rfl rfl ?_
  refine WL_rd (Rd_move rfl) rfl rfl rfl ?_
  refine WL_skip rfl rfl rfl ?_
  refine WL_skip rfl rfl rfl ?_
  refine WL_rd (Rd_pickT rfl rfl) rfl rfl rfl ?_
  refine WL_end hK5 ?_
  refine WC_condT rfl ?_
  refine WC_sr fun K6 hK6 => ?_
  refine WL_rd (Rd_move rfl) rfl rfl rfl ?_
  refine WL_rd (Rd_isT (Rd_eql rfl rfl)) rfl rfl rfl ?_
  refine WL_rd (Rd_move rfl) rfl rfl rfl ?_
  refine WL_rd (Rd_move rfl) rfl rfl rfl ?_
  refine WL_rd (Rd_peq rfl rfl ud121) rfl rfl rfl ?_
  refine WL_rd (Rd_pickT rfl rfl) rfl rfl rfl ?_
  refine WL_rd (Rd_move rfl) rfl rfl rfl ?_
  refine WL_rd (Rd_move rfl) rfl rfl rfl ?_
  refine WL_rd (Rd_lss rfl rfl) rfl rfl rfl ?_
  refine WL_rd (Rd_move rfl) rfl rfl rfl ?_
  refine WL_bool 60 rfl (fun hg7 => ?_) (fun hg7 => ?_)
  · try simp only [decide_eq_true_eq, decide_eq_false_iff_not, Bool.not_eq_true', Bool.not_eq_false', Bool.not_eq_true, Bool.not_eq_false, Int.not_lt, Int.not_le, Nat.not_lt, Nat.not_le, Decidable.not_not, ne_eq] at hg7
    refine WL_skip rfl rfl rfl ?_
    refine WL_skip rfl rfl rfl ?_
    refine WL_rd (Rd_pickT rfl rfl) rfl rfl rfl ?_
    refine WL_rd (Rd_pickT rfl rfl) rfl rfl rfl ?_
    refine WL_rd (Rd_move rfl) rfl rfl rfl ?_
    refine WL_ac (Ac_call cf73 rfl (hs := awake_ct)) rfl rfl rfl ?_
    rintro _ _ ⟨⟨⟩, rfl, hA⟩
    simp only [List.cons_append, List.nil_append] at hA
    replace hA := hA.symm
    subst hA
    refine WL_rd (Rd_pickT rfl rfl) rfl rfl rfl ?_
    refine WL_rd (Rd_assign rfl) rfl rfl rfl ?_
    refine WL_end hK6 ?_
    refine WC_ret ?_
    exact hret.go () (Rs1 rfl rfl) (hs := by simp only [List.cons_append, List.nil_append]; first | ((repeat (first | with_reducible exact Sub.refl | with_reducible apply Sub.cons Ext.here | with_reducible apply Sub.tail)); done) | (repeat (first | with_reducible exact Sub.refl | with_reducible exact Sub.nil | (with_reducible apply Sub.cons; · (repeat (first | with_reducible exact Ext.here | with_reducible apply Ext.there))) | with_reducible apply Sub.tail)))
  · try simp only [decide_eq_true_eq, decide_eq_false_iff_not, Bool.not_eq_true', Bool.not_eq_false', Bool.not_eq_true, Bool.not_eq_false, Int.not_lt, Int.not_le, Nat.not_lt, Nat.not_le, Decidable.not_not, ne_eq] at hg7
    have q1 := hg7
    refine WL_rd (Rd_move rfl) rfl rfl rfl ?_
    refine WL_rd (Rd_isT (Rd_gtr rfl rfl) (decide_eq_true (by omega))) rfl rfl rfl ?_
    refine WL_rd (Rd_pickF rfl rfl) rfl rfl rfl ?_
    refine WL_rd (Rd_pickT rfl rfl) rfl rfl rfl ?_
    refine WL_rd (Rd_move rfl) rfl rfl rfl ?_
    refine WL_ac (Ac_call cf73 rfl (hs := awake_ct)) rfl rfl rfl ?_
    rintro _ _ ⟨⟨⟩, rfl, hA⟩
    simp only [List.cons_append, List.nil_append] at hA
    replace hA := hA.symm
    subst hA
    refine WL_rd (Rd_pickT rfl rfl) rfl rfl rfl ?_
    refine WL_rd (Rd_assign rfl) rfl rfl rfl ?_
    refine WL_end hK6 ?_
    refine WC_ret ?_
    exact hret.go () (Rs1 rfl rfl) (hs := by simp only [List.cons_append, List.nil_append]; first | ((repeat (first | with_reducible exact Sub.refl | with_reducible apply Sub.cons Ext.here | with_reducible apply Sub.tail)); done) | (repeat (first | with_reducible exact Sub.refl | with_reducible exact Sub.nil | (with_reducible apply Sub.cons; · (repeat (first | with_reducible exact Ext.here | with_reducible apply Ext.there))) | with_reducible apply Sub.tail)))

theorem Sound_ok {n : Nat} {root : Dg} {X : Asn} {v : Value} {qs : List NQ} {ao : Option Addr} {cap2 : Nat} (h1 : 1 ≤ n) (h2 : n ≤ 512) (hS : Sv [X] v 1 eNQ qs ao cap2 := by assumption) (hQ : ∀ q ∈ qs, OKnq [X] 1048576 q := by assumption) (hqn : qs.length ≤ 1048576 := by omega) : Ct Try.prog 23 [.int .i64 ((n : Nat) : Int), aU .u8 root.1, v] [X] (fun _ : Unit => .bool true) (fun _ => [X]) := by
  refine Ct_body (n := 190) Try.func23 rfl rfl rfl fun F w0 Q hret hnorm hp => ?_
  change WC _ _ _ _ _ _ _ (_ :: F)
  have hwo := wd_ok h1 h2
  have hsF : SupK (wdM n) (newK n root) := SupK_new hwo.1 hwo.2.2.2.2
  have hrl := Dg_len root
  have hw1 := hwo.2.2.2.2
  refine WC_sr fun K1 hK1 => ?_
  refine WL_ac (Ac_boxW (k := .u8) rfl) rfl rfl rfl ?_
  rintro _ _ ⟨b4, rfl, rfl⟩
  refine WL_rd (Rd_assign rfl) rfl rfl rfl ?_
  refine WL_end hK1 ?_
  refine WC_sr fun K2 hK2 => ?_
  refine WL_rd (Rd_move rfl) rfl rfl rfl ?_
  refine WL_rd (Rd_loadW rfl tk42) rfl rfl rfl ?_
  refine WL_ac (Ac_call cf72 rfl (hs := pNew_ct (n := n) (root := root) (h1 := h1) (h2 := h2))) rfl rfl rfl ?_
  rintro _ _ ⟨⟨pb, m⟩, rfl, hA⟩
  simp only [List.cons_append, List.nil_append] at hA
  replace hA := hA.symm
  subst hA
  refine WL_rd (Rd_move rfl) rfl rfl rfl ?_
  refine WL_rd (Rd_ext0 rfl) rfl rfl rfl ?_
  refine WL_rd (Rd_ext1 rfl) rfl rfl rfl ?_
  refine WL_rd (Rd_assign rfl) rfl rfl rfl ?_
  refine WL_rd (Rd_assign rfl) rfl rfl rfl ?_
  refine WL_end hK2 ?_
  refine WC_sr fun K3 hK3 => ?_
  refine WL_rd (Rd_move rfl) rfl rfl rfl ?_
  refine WL_rd (Rd_loadW rfl tk42) rfl rfl rfl ?_
  refine WL_ac (Ac_call cf72 rfl (hs := pNew_ct (n := n) (root := root) (h1 := h1) (h2 := h2))) rfl rfl rfl ?_
  rintro _ _ ⟨⟨fb, mf⟩, rfl, hA⟩
  simp only [List.cons_append, List.nil_append] at hA
  replace hA := hA.symm
  subst hA
  refine WL_rd (Rd_move rfl) rfl rfl rfl ?_
  refine WL_rd (Rd_ext0 rfl) rfl rfl rfl ?_
  refine WL_rd (Rd_ext1 rfl) rfl rfl rfl ?_
  refine WL_rd (Rd_assign rfl) rfl rfl rfl ?_
  refine WL_rd (Rd_assign rfl) rfl rfl rfl ?_
  refine WL_end hK3 ?_
  refine WC_seq fun K4 hK4 => ?_
  refine WC_sr fun K5 hK5 => ?_
  refine WL_rd (Rd_move rfl) rfl rfl rfl ?_
  refine WL_rd (Rd_isF (Rd_neq rfl rfl)) rfl rfl rfl ?_
  refine WL_rd (Rd_move rfl) rfl rfl rfl ?_
  refine WL_rd (Rd_move rfl) rfl rfl rfl ?_
  refine WL_rd (Rd_peq rfl rfl ud121) rfl rfl rfl ?_
  refine WL_rd (Rd_pickF rfl rfl) rfl rfl rfl ?_
  refine WL_rd (Rd_move rfl) rfl rfl rfl ?_
  refine WL_rd (Rd_move rfl) rfl rfl rfl ?_
  refine WL_rd (Rd_peq rfl rfl ud121) rfl rfl rfl ?_
  refine WL_rd (Rd_pickF rfl rfl) rfl rfl rfl ?_
  refine WL_end hK5 ?_
  refine WC_condF rfl ?_
  refine WC_skip ?_
  refine Ps_next hK4 ?_
  refine WC_seq fun K6 hK6 => ?_
  refine WC_sr fun K7 hK7 => ?_
  refine WL_rd (Rd_move rfl) rfl rfl rfl ?_
  refine WL_rd (Rd_len_sv rfl rfl ud145 (hA := hS)) rfl rfl rfl ?_
  refine WL_rd (Rd_gtrN (j := 40) rfl rfl) rfl rfl rfl ?_
  refine WL_end hK7 ?_
  refine WC_cond rfl (fun hc1 => ?_) (fun hc1 => ?_)
  · try simp only [decide_eq_true_eq, decide_eq_false_iff_not, Bool.not_eq_true', Bool.not_eq_false', Bool.not_eq_true, Bool.not_eq_false, Int.not_lt, Int.not_le, Nat.not_lt, Nat.not_le, Decidable.not_not, ne_eq] at hc1
    refine WC_region ?_
    refine WL_rd (Rd_move rfl) rfl rfl rfl ?_
    refine WL_rd (Rd_slice_sv 0 40 rfl rfl ⟨_, rfl⟩ ud145 sz120 (hA := hS)) rfl rfl rfl ?_
    have hL := hS.sub (lo := 0) (hi := 40) (by omega) (by omega)
    have hQL : ∀ q ∈ (qs.take 40).drop 0, OKnq [X] 1048576 q := fun q h => hQ q (List.mem_of_mem_take (List.mem_of_mem_drop h))
    have hLn : ((qs.take 40).drop 0).length ≤ 40 := by simp; omega
    generalize (qs.take 40).drop 0 = ls at hL hQL hLn
    refine WL_rd (Rd_assign rfl) rfl rfl rfl ?_
    refine WL_nil ?_
    refine Ps_next hK6 ?_
    refine WC_seq fun K8 hK8 => ?_
    refine WC_sr fun K9 hK9 => ?_
    refine WL_rd (Rd_move rfl) rfl rfl rfl ?_
    refine WL_rd (Rd_len_sv rfl rfl ud145 (hA := hL)) rfl rfl rfl ?_
    refine WL_rd (Rd_move rfl) rfl rfl rfl ?_
    refine WL_end hK9 ?_
    refine WC_block ?_
    refine WC_loopK (σ := Nat × KM) (fun ⟨k, Kc⟩ => [(75, .int .i64 ((k : Nat) : Int))]) (fun ⟨k, Kc⟩ => [mpI m (kv Kc)]) (fun ⟨k, Kc⟩ => k ≤ ls.length ∧ SupK (wdM n) Kc ∧ LeK (newK n root) Kc ∧ Snd (wdM n) (newK n root) Kc) (fun ⟨k, Kc⟩ => ls.length - k) ⟨0, (newK n root)⟩ [0, 4, 7, 9, 24, 25, 26, 27, 28, 73, 74, 149, 150, 151, 152, 153, 154, 155, 156, 157, 158, 159, 160, 161, 162, 163, 164, 165, 166, 167, 168, 169, 170, 171, 172, 173, 174, 175, 176, 177, 178, 179, 180, 181, 182, 183, 184, 185, 186, 187, 188, 189] (by repeat (first | exact Kep.nil | apply Kep.drop rfl | apply Kep.keep rfl)) (by (try dsimp only); repeat (first | with_reducible exact Gv.nil | (with_reducible apply Gv.cons; · (repeat (first | with_reducible exact Ext.here | with_reducible apply Ext.there))))) ?_ ?_ Sub.refl ?_
    · exact ⟨Nat.zero_le _, hsF, LeK.refl _, Snd_0 _ _⟩
    · (try dsimp only); exact (Wk.cons (by first | rfl | (simp only [List.length_append, List.length_cons, List.length_nil, List.length_replicate, Nat.zero_add]; rfl) | (simp; done)) Wk.nil)
    · rintro ⟨k, Kc⟩ ⟨hk, hsc, hlc, hnc⟩ K10 hK10
      simp only [List.cons_append, List.nil_append]
      refine WC_sr fun K11 hK11 => ?_
      refine WL_rd (Rd_lssN rfl rfl) rfl rfl rfl ?_
      refine WL_end hK11 ?_
      refine WC_seq fun K12 hK12 => ?_
      refine WC_cond rfl (fun hc2 => ?_) (fun hc2 => ?_)
      · try simp only [decide_eq_true_eq, decide_eq_false_iff_not, Bool.not_eq_true', Bool.not_eq_false', Bool.not_eq_true, Bool.not_eq_false, Int.not_lt, Int.not_le, Nat.not_lt, Nat.not_le, Decidable.not_not, ne_eq] at hc2
        obtain ⟨q, hq⟩ : ∃ q, ls[k]? = some q := ⟨_, List.getElem?_eq_getElem (by omega)⟩
        obtain ⟨hqS, hqn'⟩ := hQL q (List.mem_of_getElem? hq)
        refine WC_skip ?_
        refine Ps_next hK12 ?_
        refine WC_seq fun K13 hK13 => ?_
        refine WC_block ?_
        refine WC_sr fun K14 hK14 => ?_
        refine WL_rd (Rd_index_sv k rfl rfl ud145 sz120 (hA := hL) (hi := by omega)) rfl rfl rfl ?_
        refine WL_rd (Rd_load_sv (f := eNQ) (i := k) (j := 0) (u := q.v) rfl tk120 (hA := hL) (hl := hq)) rfl rfl rfl ?_
        refine WL_rd (Rd_assign rfl) rfl rfl rfl ?_
        refine WL_end hK14 ?_
        refine WC_sr fun K15 hK15 => ?_
        refine WL_rd (Rd_move rfl) rfl rfl rfl ?_
        refine WL_ac (Ac_call cf80 rfl (hs := pClone_ct (pb := pb) (m := m) (n := n) (w := (wdM n)) (Kn := Kc) (hn1 := h1))) rfl rfl rfl ?_
        rintro _ _ ⟨⟨ob, om⟩, rfl, hA⟩
        simp only [List.cons_append, List.nil_append] at hA
        replace hA := hA.symm
        subst hA
        refine WL_rd (Rd_assign rfl) rfl rfl rfl ?_
        refine WL_end hK15 ?_
        refine WC_seq fun K16 hK16 => ?_
        refine WC_sr fun K17 hK17 => ?_
        refine WL_rd (Rd_move rfl) rfl rfl rfl ?_
        refine WL_rd (Rd_peq rfl rfl ud121) rfl rfl rfl ?_
        refine WL_end hK17 ?_
        refine WC_condF rfl ?_
        refine WC_skip ?_
        refine Ps_next hK16 ?_
        refine WC_sr fun K18 hK18 => ?_
        refine WL_rd (Rd_move rfl) rfl rfl rfl ?_
        refine WL_rd (Rd_move rfl) rfl rfl rfl ?_
        refine WL_ac (Ac_call cf74 rfl (hs := pPut_ct (pb := pb) (m := m) (n := n) (w := (wdM n)) (Kn := Kc) (X := X) (v := q.v) (l := q.l) (hS := hqS) (hs := hsc) (hn1 := h1) (hw1 := hwo.2.2.2.2))) rfl rfl rfl ?_
        rintro _ _ ⟨⟨⟩, rfl, hA⟩
        simp only [List.cons_append, List.nil_append] at hA
        replace hA := hA.symm
        subst hA
        have hs' := putK_sup (l := q.l) hsc hw1
        have hl' := putK_leF (l := q.l) hsc hw1 hlc
        have hn' := putK_snd (l := q.l) hsc hw1 hlc hnc
        have hat := fun t (ht : (Kc t).isSome = true) => put_at (l := q.l) hsc hw1 ht
        have hbad := fun he t => put_iff (l := q.l) hsc hw1 he t
        have hhas := putK_has (w := (wdM n)) (K := Kc) (l := q.l)
        generalize putK (wdM n) Kc q.l = KN at hs' hl' hn' hat hbad hhas ⊢
        generalize (putS (wdM n) Kc q.l).1 = er at hbad hhas ⊢
        refine WL_rd (Rd_assign rfl) rfl rfl rfl ?_
        refine WL_end hK18 ?_
        refine WC_seq fun K19 hK19 => ?_
        refine WC_sr fun K20 hK20 => ?_
        refine WL_rd (Rd_assign rfl) rfl rfl rfl ?_
        refine WL_end hK20 ?_
        refine WC_block ?_
        refine WC_loopK (σ := Nat) (fun t => [(15, .int .i64 ((t : Nat) : Int))]) (fun t => []) (fun t => 1 ≤ t) (fun t => 2 * (wdM n) - t) (1) [0, 4, 7, 9, 12, 13, 14, 21, 22, 23, 24, 25, 26, 27, 28, 73, 74, 75, 76, 77, 78, 79, 80, 81, 82, 83, 84, 85, 124, 125, 126, 127, 128, 129, 130, 131, 132, 133, 134, 135, 136, 137, 138, 139, 140, 141, 142, 143, 144, 145, 146, 147, 148, 149, 150, 151, 152, 153, 154, 155, 156, 157, 158, 159, 160, 161, 162, 163, 164, 165, 166, 167, 168, 169, 170, 171, 172, 173, 174, 175, 176, 177, 178, 179, 180, 181, 182, 183, 184, 185, 186, 187, 188, 189] (by repeat (first | exact Kep.nil | apply Kep.drop rfl | apply Kep.keep rfl)) (by (try dsimp only); repeat (first | with_reducible exact Gv.nil | (with_reducible apply Gv.cons; · (repeat (first | with_reducible exact Ext.here | with_reducible apply Ext.there))))) ?_ ?_ Sub.refl ?_
        · exact Nat.le_refl _
        · (try dsimp only); exact (Wk.cons (by first | rfl | (simp only [List.length_append, List.length_cons, List.length_nil, List.length_replicate, Nat.zero_add]; rfl) | (simp; done)) Wk.nil)
        · rintro t ht1 K21 hK21
          simp only [List.cons_append, List.nil_append]
          have hda := Dg_len ((Kc (((t : Nat)) : Int)).getD zD)
          have hdb := Dg_len ((KN (((t : Nat)) : Int)).getD zD)
          refine WC_seq fun K22 hK22 => ?_
          refine WC_sr fun K23 hK23 => ?_
          refine WL_rd (Rd_move rfl) rfl rfl rfl ?_
          refine WL_rd (Rd_move rfl) rfl rfl rfl ?_
          refine WL_ac (Ac_call cf75 rfl (hs := pWidth_ct (pb := pb) (m := m) (n := n) (w := (wdM n)) (Kn := KN))) rfl rfl rfl ?_
          rintro _ _ ⟨⟨⟩, rfl, hA⟩
          simp only [List.cons_append, List.nil_append] at hA
          replace hA := hA.symm
          subst hA
          refine WL_rd (Rd_mulN (i := 2) rfl rfl) rfl rfl rfl ?_
          refine WL_rd (Rd_lssN rfl rfl) rfl rfl rfl ?_
          refine WL_end hK23 ?_
          refine WC_cond rfl (fun hc4 => ?_) (fun hc4 => ?_)
          · try simp only [decide_eq_true_eq, decide_eq_false_iff_not, Bool.not_eq_true', Bool.not_eq_false', Bool.not_eq_true, Bool.not_eq_false, Int.not_lt, Int.not_le, Nat.not_lt, Nat.not_le, Decidable.not_not, ne_eq] at hc4
            refine WC_skip ?_
            refine Ps_next hK22 ?_
            refine WC_seq fun K24 hK24 => ?_
            refine WC_block ?_
            refine WC_sr fun K25 hK25 => ?_
            refine WL_rd (Rd_move rfl) rfl rfl rfl ?_
            refine WL_rd (Rd_move rfl) rfl rfl rfl ?_
            refine WL_ac (Ac_call cf76 rfl (hs := pKnown_ct (pb := ob) (m := om) (n := n) (w := (wdM n)) (Kn := Kc) (i := (((t : Nat)) : Int)))) rfl rfl rfl ?_
            rintro _ _ ⟨⟨⟩, rfl, hA⟩
            simp only [List.cons_append, List.nil_append] at hA
            replace hA := hA.symm
            subst hA
            refine WL_rd (Rd_move rfl) rfl rfl rfl ?_
            refine WL_rd (Rd_ext0 rfl) rfl rfl rfl ?_
            refine WL_rd (Rd_ext1 rfl) rfl rfl rfl ?_
            refine WL_ac (Ac_allocW (k := .u8) (w := 8) (m := 32) zr42) rfl rfl rfl ?_
            rintro _ _ ⟨b16, rfl, rfl⟩
            refine WL_ac0 (Ac_storeW rfl rfl sz42) rfl rfl ?_
            rintro _ _ rfl
            refine WL_rd (Rd_assign rfl) rfl rfl rfl ?_
            refine WL_end hK25 ?_
            refine WC_sr fun K26 hK26 => ?_
            refine WL_rd (Rd_move rfl) rfl rfl rfl ?_
            refine WL_rd (Rd_move rfl) rfl rfl rfl ?_
            refine WL_ac (Ac_call cf76 rfl (hs := pKnown_ct (pb := pb) (m := m) (n := n) (w := (wdM n)) (Kn := KN) (i := (((t : Nat)) : Int)))) rfl rfl rfl ?_
            rintro _ _ ⟨⟨⟩, rfl, hA⟩
            simp only [List.cons_append, List.nil_append] at hA
            replace hA := hA.symm
            subst hA
            refine WL_rd (Rd_move rfl) rfl rfl rfl ?_
            refine WL_rd (Rd_ext0 rfl) rfl rfl rfl ?_
            refine WL_rd (Rd_ext1 rfl) rfl rfl rfl ?_
            refine WL_ac (Ac_allocW (k := .u8) (w := 8) (m := 32) zr42) rfl rfl rfl ?_
            rintro _ _ ⟨b18, rfl, rfl⟩
            refine WL_ac0 (Ac_storeW rfl rfl sz42) rfl rfl ?_
            rintro _ _ rfl
            refine WL_rd (Rd_assign rfl) rfl rfl rfl ?_
            refine WL_end hK26 ?_
            refine WC_sr fun K27 hK27 => ?_
            refine WL_rd (Rd_move rfl) rfl rfl rfl ?_
            refine WL_rd (Rd_move rfl) rfl rfl rfl ?_
            refine WL_bool 106 rfl (fun hg28 => ?_) (fun hg28 => ?_)
            · try simp only [decide_eq_true_eq, decide_eq_false_iff_not, Bool.not_eq_true', Bool.not_eq_false', Bool.not_eq_true, Bool.not_eq_false, Int.not_lt, Int.not_le, Nat.not_lt, Nat.not_le, Decidable.not_not, ne_eq] at hg28
              have q1 := hg28
              refine WL_rd (Rd_move rfl) rfl rfl rfl ?_
              refine WL_rd (Rd_isF (Rd_not rfl) (by rw [(hat _ q1).1]; rfl)) rfl rfl rfl ?_
              refine WL_rd (Rd_move rfl) rfl rfl rfl ?_
              refine WL_rd (Rd_loadW rfl tk42) rfl rfl rfl ?_
              refine WL_rd (Rd_loadW rfl tk42) rfl rfl rfl ?_
              refine WL_rd (Rd_isF (Rd_neW rfl rfl ais42) (by rw [(hat _ q1).2]; simp)) rfl rfl rfl ?_
              refine WL_rd (Rd_pickF rfl rfl) rfl rfl rfl ?_
              refine WL_rd (Rd_pickT rfl rfl) rfl rfl rfl ?_
              refine WL_rd (Rd_move rfl) rfl rfl rfl ?_
              refine WL_rd (Rd_move rfl) rfl rfl rfl ?_
              refine WL_rd (Rd_neq rfl rfl) rfl rfl rfl ?_
              refine WL_rd (Rd_move rfl) rfl rfl rfl ?_
              refine WL_bool 118 rfl (fun hg29 => ?_) (fun hg29 => ?_)
              · try simp only [decide_eq_true_eq, decide_eq_false_iff_not, Bool.not_eq_true', Bool.not_eq_false', Bool.not_eq_true, Bool.not_eq_false, Int.not_lt, Int.not_le, Nat.not_lt, Nat.not_le, Decidable.not_not, ne_eq] at hg29
                have qe := hg29
                refine WL_rd (Rd_move rfl) rfl rfl rfl ?_
                refine WL_rd (Rd_move rfl) rfl rfl rfl ?_
                refine WL_rd (Rd_isF (Rd_bne rfl rfl ud4) (by rw [hbad (by simpa using qe)]; simp)) rfl rfl rfl ?_
                refine WL_rd (Rd_pickT rfl rfl) rfl rfl rfl ?_
                refine WL_rd (Rd_pickF rfl rfl) rfl rfl rfl ?_
                refine WL_end hK27 ?_
                refine WC_condF rfl ?_
                refine WC_skip ?_
                refine Ps_next hK24 ?_
                refine WC_region ?_
                refine WL_rd (Rd_move rfl) rfl rfl rfl ?_
                refine WL_rd (Rd_addN (j := 1) rfl rfl) rfl rfl rfl ?_
                refine WL_rd (Rd_assign rfl) rfl rfl rfl ?_
                refine WL_nil ?_
                refine Ps_wk (by (try simp only [List.cons_append, List.nil_append]); repeat (first | with_reducible exact Wk.nil | refine Wk.cons (by first | rfl | (simp only [List.length_append, List.length_cons, List.length_nil, List.length_replicate, Nat.zero_add]; rfl) | (simp; done)) ?_)) (by (try simp only [List.cons_append, List.nil_append]); first | ((repeat (first | with_reducible exact Sub.refl | with_reducible apply Sub.cons Ext.here | with_reducible apply Sub.tail)); done) | (repeat (first | with_reducible exact Sub.refl | with_reducible exact Sub.nil | (with_reducible apply Sub.cons; · (repeat (first | with_reducible exact Ext.here | with_reducible apply Ext.there))) | with_reducible apply Sub.tail))) (hK21 (t + 1) (by omega) (by omega))
              · try simp only [decide_eq_true_eq, decide_eq_false_iff_not, Bool.not_eq_true', Bool.not_eq_false', Bool.not_eq_true, Bool.not_eq_false, Int.not_lt, Int.not_le, Nat.not_lt, Nat.not_le, Decidable.not_not, ne_eq] at hg29
                refine WL_skip rfl rfl rfl ?_
                refine WL_skip rfl rfl rfl ?_
                refine WL_skip rfl rfl rfl ?_
                refine WL_rd (Rd_pickF rfl rfl) rfl rfl rfl ?_
                refine WL_rd (Rd_pickF rfl rfl) rfl rfl rfl ?_
                refine WL_end hK27 ?_
                refine WC_condF rfl ?_
                refine WC_skip ?_
                refine Ps_next hK24 ?_
                refine WC_region ?_
                refine WL_rd (Rd_move rfl) rfl rfl rfl ?_
                refine WL_rd (Rd_addN (j := 1) rfl rfl) rfl rfl rfl ?_
                refine WL_rd (Rd_assign rfl) rfl rfl rfl ?_
                refine WL_nil ?_
                refine Ps_wk (by (try simp only [List.cons_append, List.nil_append]); repeat (first | with_reducible exact Wk.nil | refine Wk.cons (by first | rfl | (simp only [List.length_append, List.length_cons, List.length_nil, List.length_replicate, Nat.zero_add]; rfl) | (simp; done)) ?_)) (by (try simp only [List.cons_append, List.nil_append]); first | ((repeat (first | with_reducible exact Sub.refl | with_reducible apply Sub.cons Ext.here | with_reducible apply Sub.tail)); done) | (repeat (first | with_reducible exact Sub.refl | with_reducible exact Sub.nil | (with_reducible apply Sub.cons; · (repeat (first | with_reducible exact Ext.here | with_reducible apply Ext.there))) | with_reducible apply Sub.tail))) (hK21 (t + 1) (by omega) (by omega))
            · try simp only [decide_eq_true_eq, decide_eq_false_iff_not, Bool.not_eq_true', Bool.not_eq_false', Bool.not_eq_true, Bool.not_eq_false, Int.not_lt, Int.not_le, Nat.not_lt, Nat.not_le, Decidable.not_not, ne_eq] at hg28
              refine WL_skip rfl rfl rfl ?_
              refine WL_skip rfl rfl rfl ?_
              refine WL_skip rfl rfl rfl ?_
              refine WL_skip rfl rfl rfl ?_
              refine WL_skip rfl rfl rfl ?_
              refine WL_skip rfl rfl rfl ?_
              refine WL_skip rfl rfl rfl ?_
              refine WL_rd (Rd_pickF rfl rfl) rfl rfl rfl ?_
              refine WL_rd (Rd_move rfl) rfl rfl rfl ?_
              refine WL_rd (Rd_move rfl) rfl rfl rfl ?_
              refine WL_rd (Rd_neq rfl rfl) rfl rfl rfl ?_
              refine WL_rd (Rd_move rfl) rfl rfl rfl ?_
              refine WL_bool 118 rfl (fun hg30 => ?_) (fun hg30 => ?_)
              · try simp only [decide_eq_true_eq, decide_eq_false_iff_not, Bool.not_eq_true', Bool.not_eq_false', Bool.not_eq_true, Bool.not_eq_false, Int.not_lt, Int.not_le, Nat.not_lt, Nat.not_le, Decidable.not_not, ne_eq] at hg30
                have qe := hg30
                refine WL_rd (Rd_move rfl) rfl rfl rfl ?_
                refine WL_rd (Rd_move rfl) rfl rfl rfl ?_
                refine WL_rd (Rd_isF (Rd_bne rfl rfl ud4) (by rw [hbad (by simpa using qe)]; simp)) rfl rfl rfl ?_
                refine WL_rd (Rd_pickT rfl rfl) rfl rfl rfl ?_
                refine WL_rd (Rd_pickF rfl rfl) rfl rfl rfl ?_
                refine WL_end hK27 ?_
                refine WC_condF rfl ?_
                refine WC_skip ?_
                refine Ps_next hK24 ?_
                refine WC_region ?_
                refine WL_rd (Rd_move rfl) rfl rfl rfl ?_
                refine WL_rd (Rd_addN (j := 1) rfl rfl) rfl rfl rfl ?_
                refine WL_rd (Rd_assign rfl) rfl rfl rfl ?_
                refine WL_nil ?_
                refine Ps_wk (by (try simp only [List.cons_append, List.nil_append]); repeat (first | with_reducible exact Wk.nil | refine Wk.cons (by first | rfl | (simp only [List.length_append, List.length_cons, List.length_nil, List.length_replicate, Nat.zero_add]; rfl) | (simp; done)) ?_)) (by (try simp only [List.cons_append, List.nil_append]); first | ((repeat (first | with_reducible exact Sub.refl | with_reducible apply Sub.cons Ext.here | with_reducible apply Sub.tail)); done) | (repeat (first | with_reducible exact Sub.refl | with_reducible exact Sub.nil | (with_reducible apply Sub.cons; · (repeat (first | with_reducible exact Ext.here | with_reducible apply Ext.there))) | with_reducible apply Sub.tail))) (hK21 (t + 1) (by omega) (by omega))
              · try simp only [decide_eq_true_eq, decide_eq_false_iff_not, Bool.not_eq_true', Bool.not_eq_false', Bool.not_eq_true, Bool.not_eq_false, Int.not_lt, Int.not_le, Nat.not_lt, Nat.not_le, Decidable.not_not, ne_eq] at hg30
                refine WL_skip rfl rfl rfl ?_
                refine WL_skip rfl rfl rfl ?_
                refine WL_skip rfl rfl rfl ?_
                refine WL_rd (Rd_pickF rfl rfl) rfl rfl rfl ?_
                refine WL_rd (Rd_pickF rfl rfl) rfl rfl rfl ?_
                refine WL_end hK27 ?_
                refine WC_condF rfl ?_
                refine WC_skip ?_
                refine Ps_next hK24 ?_
                refine WC_region ?_
                refine WL_rd (Rd_move rfl) rfl rfl rfl ?_
                refine WL_rd (Rd_addN (j := 1) rfl rfl) rfl rfl rfl ?_
                refine WL_rd (Rd_assign rfl) rfl rfl rfl ?_
                refine WL_nil ?_
                refine Ps_wk (by (try simp only [List.cons_append, List.nil_append]); repeat (first | with_reducible exact Wk.nil | refine Wk.cons (by first | rfl | (simp only [List.length_append, List.length_cons, List.length_nil, List.length_replicate, Nat.zero_add]; rfl) | (simp; done)) ?_)) (by (try simp only [List.cons_append, List.nil_append]); first | ((repeat (first | with_reducible exact Sub.refl | with_reducible apply Sub.cons Ext.here | with_reducible apply Sub.tail)); done) | (repeat (first | with_reducible exact Sub.refl | with_reducible exact Sub.nil | (with_reducible apply Sub.cons; · (repeat (first | with_reducible exact Ext.here | with_reducible apply Ext.there))) | with_reducible apply Sub.tail))) (hK21 (t + 1) (by omega) (by omega))
          · try simp only [decide_eq_true_eq, decide_eq_false_iff_not, Bool.not_eq_true', Bool.not_eq_false', Bool.not_eq_true, Bool.not_eq_false, Int.not_lt, Int.not_le, Nat.not_lt, Nat.not_le, Decidable.not_not, ne_eq] at hc4
            refine WC_exit ?_
            refine Ps_next hK19 ?_
            refine WC_sr fun K31 hK31 => ?_
            refine WL_rd (Rd_move rfl) rfl rfl rfl ?_
            refine WL_rd (Rd_eql rfl rfl) rfl rfl rfl ?_
            refine WL_end hK31 ?_
            refine WC_cond rfl (fun hc6 => ?_) (fun hc6 => ?_)
            · try simp only [decide_eq_true_eq, decide_eq_false_iff_not, Bool.not_eq_true', Bool.not_eq_false', Bool.not_eq_true, Bool.not_eq_false, Int.not_lt, Int.not_le, Nat.not_lt, Nat.not_le, Decidable.not_not, ne_eq] at hc6
              refine WC_sr fun K32 hK32 => ?_
              refine WL_rd (Rd_move rfl) rfl rfl rfl ?_
              refine WL_rd (Rd_len_sv rfl rfl ud120 (hA := hqS)) rfl rfl rfl ?_
              refine WL_rd (Rd_move rfl) rfl rfl rfl ?_
              refine WL_end hK32 ?_
              refine WC_block ?_
              refine WC_loopK (σ := Nat) (fun j => [(128, .int .i64 ((j : Nat) : Int))]) (fun j => []) (fun j => j ≤ q.l.length) (fun j => q.l.length - j) (0) [0, 4, 7, 9, 12, 13, 14, 15, 16, 17, 18, 19, 24, 25, 26, 27, 28, 73, 74, 75, 76, 77, 78, 79, 80, 81, 82, 83, 84, 85, 86, 87, 88, 89, 90, 91, 92, 93, 94, 95, 96, 97, 98, 99, 100, 101, 102, 103, 104, 105, 106, 107, 108, 109, 110, 111, 112, 113, 114, 115, 116, 117, 118, 119, 120, 121, 122, 123, 124, 125, 126, 127, 148, 149, 150, 151, 152, 153, 154, 155, 156, 157, 158, 159, 160, 161, 162, 163, 164, 165, 166, 167, 168, 169, 170, 171, 172, 173, 174, 175, 176, 177, 178, 179, 180, 181, 182, 183, 184, 185, 186, 187, 188, 189] (by repeat (first | exact Kep.nil | apply Kep.drop rfl | apply Kep.keep rfl)) (by (try dsimp only); repeat (first | with_reducible exact Gv.nil | (with_reducible apply Gv.cons; · (repeat (first | with_reducible exact Ext.here | with_reducible apply Ext.there))))) ?_ ?_ Sub.refl ?_
              · exact Nat.zero_le _
              · (try dsimp only); exact (Wk.cons (by first | rfl | (simp only [List.length_append, List.length_cons, List.length_nil, List.length_replicate, Nat.zero_add]; rfl) | (simp; done)) Wk.nil)
              · rintro j hj K33 hK33
                simp only [List.cons_append, List.nil_append]
                refine WC_sr fun K34 hK34 => ?_
                refine WL_rd (Rd_lssN rfl rfl) rfl rfl rfl ?_
                refine WL_end hK34 ?_
                refine WC_seq fun K35 hK35 => ?_
                refine WC_cond rfl (fun hc7 => ?_) (fun hc7 => ?_)
                · try simp only [decide_eq_true_eq, decide_eq_false_iff_not, Bool.not_eq_true', Bool.not_eq_false', Bool.not_eq_true, Bool.not_eq_false, Int.not_lt, Int.not_le, Nat.not_lt, Nat.not_le, Decidable.not_not, ne_eq] at hc7
                  obtain ⟨x, hx⟩ : ∃ x, q.l[j]? = some x := ⟨_, List.getElem?_eq_getElem (by omega)⟩
                  have hxk := hhas (by simpa using hc6) x (List.mem_of_getElem? hx)
                  have hxd := Dg_len x.2
                  have hxe := Dg_len ((KN x.1).getD zD)
                  refine WC_skip ?_
                  refine Ps_next hK35 ?_
                  refine WC_seq fun K36 hK36 => ?_
                  refine WC_block ?_
                  refine WC_sr fun K37 hK37 => ?_
                  refine WL_rd (Rd_index_sv j rfl rfl ud120 sz133 (hA := hqS) (hi := by omega)) rfl rfl rfl ?_
                  refine WL_rd (Rd_loadg_sv (f := eND) (i := j) rfl tk133 (hA := hqS) (hl := hx)) rfl rfl rfl ?_
                  refine WL_ac (Ac_alloc zr133) rfl rfl rfl ?_
                  rintro _ _ ⟨b21, rfl, rfl⟩
                  refine WL_ac0 (Ac_store (ys := eND x) rfl rfl sz133 (hv := by show (eND x).toArray.size = 33; rw [List.size_toArray, encND.len]) (h1 := encND.one x) (hr := by show ([] ++ eND x) ++ [] = eND x; rw [List.append_nil]; rfl)) rfl rfl ?_
                  rintro _ _ rfl
                  refine WL_end hK37 ?_
                  refine WC_sr fun K38 hK38 => ?_
                  refine WL_rd (Rd_move rfl) rfl rfl rfl ?_
                  refine WL_rd (Rd_fieldAddr rfl fo133_0) rfl rfl rfl ?_
                  refine WL_rd (Rd_load rfl tk3 (v := .int .i64 x.1)) rfl rfl rfl ?_
                  refine WL_ac (Ac_call cf76 rfl (hs := pKnown_ct (pb := pb) (m := m) (n := n) (w := (wdM n)) (Kn := KN) (i := x.1))) rfl rfl rfl ?_
                  rintro _ _ ⟨⟨⟩, rfl, hA⟩
                  simp only [List.cons_append, List.nil_append] at hA
                  replace hA := hA.symm
                  subst hA
                  rw [show (KN x.1).isSome = true from by rw [hxk]; rfl]
                  refine WL_rd (Rd_move rfl) rfl rfl rfl ?_
                  refine WL_rd (Rd_ext0 rfl) rfl rfl rfl ?_
                  refine WL_rd (Rd_ext1 rfl) rfl rfl rfl ?_
                  refine WL_ac (Ac_allocW (k := .u8) (w := 8) (m := 32) zr42) rfl rfl rfl ?_
                  rintro _ _ ⟨b22, rfl, rfl⟩
                  refine WL_ac0 (Ac_storeW rfl rfl sz42) rfl rfl ?_
                  rintro _ _ rfl
                  refine WL_rd (Rd_assign rfl) rfl rfl rfl ?_
                  refine WL_end hK38 ?_
                  refine WC_sr fun K39 hK39 => ?_
                  refine WL_rd (Rd_move rfl) rfl rfl rfl ?_
                  refine WL_rd (Rd_not rfl) rfl rfl rfl ?_
                  refine WL_rd (Rd_move rfl) rfl rfl rfl ?_
                  refine WL_rd (Rd_loadW (l := ((KN x.1).getD zD).1) rfl tk42) rfl rfl rfl ?_
                  refine WL_rd (Rd_fieldAddr rfl fo133_1) rfl rfl rfl ?_
                  refine WL_rd (Rd_aU (k := .u8) (l := x.2.1) (Rd_loadg (vs := fD x.2) rfl tk42 (hl := by rw [encND.len]; decide) (hi := eND_dg x)) rfl) rfl rfl rfl ?_
                  refine WL_rd (Rd_isF (Rd_neW rfl rfl ais42) (by rw [hxk]; simp)) rfl rfl rfl ?_
                  refine WL_rd (Rd_pickF rfl rfl) rfl rfl rfl ?_
                  refine WL_end hK39 ?_
                  refine WC_condF rfl ?_
                  refine WC_skip ?_
                  refine Ps_next hK36 ?_
                  refine WC_region ?_
                  refine WL_rd (Rd_addN (j := 1) rfl rfl) rfl rfl rfl ?_
                  refine WL_rd (Rd_move rfl) rfl rfl rfl ?_
                  refine WL_nil ?_
                  refine Ps_wk (by (try simp only [List.cons_append, List.nil_append]); repeat (first | with_reducible exact Wk.nil | refine Wk.cons (by first | rfl | (simp only [List.length_append, List.length_cons, List.length_nil, List.length_replicate, Nat.zero_add]; rfl) | (simp; done)) ?_)) (by (try simp only [List.cons_append, List.nil_append]); first | ((repeat (first | with_reducible exact Sub.refl | with_reducible apply Sub.cons Ext.here | with_reducible apply Sub.tail)); done) | (repeat (first | with_reducible exact Sub.refl | with_reducible exact Sub.nil | (with_reducible apply Sub.cons; · (repeat (first | with_reducible exact Ext.here | with_reducible apply Ext.there))) | with_reducible apply Sub.tail))) (hK33 (j + 1) (by omega) (by omega))
                · try simp only [decide_eq_true_eq, decide_eq_false_iff_not, Bool.not_eq_true', Bool.not_eq_false', Bool.not_eq_true, Bool.not_eq_false, Int.not_lt, Int.not_le, Nat.not_lt, Nat.not_le, Decidable.not_not, ne_eq] at hc7
                  refine WC_exit ?_
                  refine Ps_next hK13 ?_
                  refine WC_region ?_
                  refine WL_rd (Rd_addN (j := 1) rfl rfl) rfl rfl rfl ?_
                  refine WL_rd (Rd_move rfl) rfl rfl rfl ?_
                  refine WL_nil ?_
                  refine Ps_wk (by (try simp only [List.cons_append, List.nil_append]); repeat (first | with_reducible exact Wk.nil | refine Wk.cons (by first | rfl | (simp only [List.length_append, List.length_cons, List.length_nil, List.length_replicate, Nat.zero_add]; rfl) | (simp; done)) ?_)) (by (try simp only [List.cons_append, List.nil_append]); first | ((repeat (first | with_reducible exact Sub.refl | with_reducible apply Sub.cons Ext.here | with_reducible apply Sub.tail)); done) | (repeat (first | with_reducible exact Sub.refl | with_reducible exact Sub.nil | (with_reducible apply Sub.cons; · (repeat (first | with_reducible exact Ext.here | with_reducible apply Ext.there))) | with_reducible apply Sub.tail))) (hK10 ⟨k + 1, KN⟩ (⟨by (try dsimp only); omega, hs', hl', hn'⟩) (by (try dsimp only); omega))
            · try simp only [decide_eq_true_eq, decide_eq_false_iff_not, Bool.not_eq_true', Bool.not_eq_false', Bool.not_eq_true, Bool.not_eq_false, Int.not_lt, Int.not_le, Nat.not_lt, Nat.not_le, Decidable.not_not, ne_eq] at hc6
              refine WC_skip ?_
              refine Ps_next hK13 ?_
              refine WC_region ?_
              refine WL_rd (Rd_addN (j := 1) rfl rfl) rfl rfl rfl ?_
              refine WL_rd (Rd_move rfl) rfl rfl rfl ?_
              refine WL_nil ?_
              refine Ps_wk (by (try simp only [List.cons_append, List.nil_append]); repeat (first | with_reducible exact Wk.nil | refine Wk.cons (by first | rfl | (simp only [List.length_append, List.length_cons, List.length_nil, List.length_replicate, Nat.zero_add]; rfl) | (simp; done)) ?_)) (by (try simp only [List.cons_append, List.nil_append]); first | ((repeat (first | with_reducible exact Sub.refl | with_reducible apply Sub.cons Ext.here | with_reducible apply Sub.tail)); done) | (repeat (first | with_reducible exact Sub.refl | with_reducible exact Sub.nil | (with_reducible apply Sub.cons; · (repeat (first | with_reducible exact Ext.here | with_reducible apply Ext.there))) | with_reducible apply Sub.tail))) (hK10 ⟨k + 1, KN⟩ (⟨by (try dsimp only); omega, hs', hl', hn'⟩) (by (try dsimp only); omega))
      · try simp only [decide_eq_true_eq, decide_eq_false_iff_not, Bool.not_eq_true', Bool.not_eq_false', Bool.not_eq_true, Bool.not_eq_false, Int.not_lt, Int.not_le, Nat.not_lt, Nat.not_le, Decidable.not_not, ne_eq] at hc2
        refine WC_exit ?_
        refine Ps_next hK8 ?_
        refine WC_seq fun K40 hK40 => ?_
        refine WC_sr fun K41 hK41 => ?_
        refine WL_rd (Rd_move rfl) rfl rfl rfl ?_
        refine WL_rd (Rd_move rfl) rfl rfl rfl ?_
        refine WL_ac (Ac_call cf90 rfl (hs := sound_ct (pb := pb) (m := m) (fb := fb) (mf := mf) (n := n) (K := Kc) (F1 := (newK n root)) (hsd := hnc))) rfl rfl rfl ?_
        rintro _ _ ⟨⟨⟩, rfl, hA⟩
        simp only [List.cons_append, List.nil_append] at hA
        replace hA := hA.symm
        subst hA
        refine WL_rd (Rd_not rfl) rfl rfl rfl ?_
        refine WL_rd (Rd_move rfl) rfl rfl rfl ?_
        refine WL_ac (Ac_call cf73 rfl (hs := awake_ct)) rfl rfl rfl ?_
        rintro _ _ ⟨⟨⟩, rfl, hA⟩
        simp only [List.cons_append, List.nil_append] at hA
        replace hA := hA.symm
        subst hA
        refine WL_rd (Rd_not rfl) rfl rfl rfl ?_
        refine WL_rd (Rd_pickF rfl rfl) rfl rfl rfl ?_
        refine WL_end hK41 ?_
        refine WC_condF rfl ?_
        refine WC_skip ?_
        refine Ps_next hK40 ?_
        refine WC_seq fun K42 hK42 => ?_
        refine WC_sr fun K43 hK43 => ?_
        refine WL_rd (Rd_assign rfl) rfl rfl rfl ?_
        refine WL_end hK43 ?_
        refine WC_block ?_
        refine WC_loopK (σ := Nat) (fun i => [(24, .int .i64 ((i : Nat) : Int))]) (fun i => []) (fun i => i ≤ n) (fun i => n - i) (0) [0, 4, 7] (by repeat (first | exact Kep.nil | apply Kep.drop rfl | apply Kep.keep rfl)) (by (try dsimp only); repeat (first | with_reducible exact Gv.nil | (with_reducible apply Gv.cons; · (repeat (first | with_reducible exact Ext.here | with_reducible apply Ext.there))))) ?_ ?_ Sub.refl ?_
        · exact Nat.zero_le _
        · (try dsimp only); exact (Wk.cons (by first | rfl | (simp only [List.length_append, List.length_cons, List.length_nil, List.length_replicate, Nat.zero_add]; rfl) | (simp; done)) Wk.nil)
        · rintro i hi K44 hK44
          simp only [List.cons_append, List.nil_append]
          refine WC_seq fun K45 hK45 => ?_
          refine WC_sr fun K46 hK46 => ?_
          refine WL_rd (Rd_move rfl) rfl rfl rfl ?_
          refine WL_rd (Rd_move rfl) rfl rfl rfl ?_
          refine WL_rd (Rd_lssN rfl rfl) rfl rfl rfl ?_
          refine WL_end hK46 ?_
          refine WC_cond rfl (fun hc10 => ?_) (fun hc10 => ?_)
          · try simp only [decide_eq_true_eq, decide_eq_false_iff_not, Bool.not_eq_true', Bool.not_eq_false', Bool.not_eq_true, Bool.not_eq_false, Int.not_lt, Int.not_le, Nat.not_lt, Nat.not_le, Decidable.not_not, ne_eq] at hc10
            have hlb : lfB n ((i : Nat) : Int) = true := lfB_t.2 ⟨by omega, by omega⟩
            have hce : chE n Kc ((i : Nat) : Int) = 0 ↔ (Kc (((wdM n) : Int) + ((i : Nat) : Int))).isSome = true := by unfold chE; rw [if_pos hlb]; split <;> simp_all
            have hce0 : decide (chE n Kc ((i : Nat) : Int) = 0) = (Kc (((wdM n) : Int) + ((i : Nat) : Int))).isSome := by rw [Bool.eq_iff_iff, decide_eq_true_iff]; exact hce
            have hdw := Dg_len ((Kc (((wdM n) : Int) + ((i : Nat) : Int))).getD zD)
            refine WC_skip ?_
            refine Ps_next hK45 ?_
            refine WC_seq fun K47 hK47 => ?_
            refine WC_block ?_
            refine WC_sr fun K48 hK48 => ?_
            refine WL_rd (Rd_move rfl) rfl rfl rfl ?_
            refine WL_rd (Rd_move rfl) rfl rfl rfl ?_
            refine WL_ac (Ac_call cf84 rfl (hs := pLeaf_ct (pb := pb) (m := m) (n := n) (w := (wdM n)) (Kn := Kc) (i := ((i : Nat) : Int)))) rfl rfl rfl ?_
            rintro _ _ ⟨⟨⟩, rfl, hA⟩
            simp only [List.cons_append, List.nil_append] at hA
            replace hA := hA.symm
            subst hA
            rw [show lfK n (wdM n) Kc ((i : Nat) : Int) = Kc (((wdM n) : Int) + ((i : Nat) : Int)) from by unfold lfK; rw [if_pos hlb]]
            refine WL_rd (Rd_move rfl) rfl rfl rfl ?_
            refine WL_rd (Rd_ext0 rfl) rfl rfl rfl ?_
            refine WL_rd (Rd_ext1 rfl) rfl rfl rfl ?_
            refine WL_ac (Ac_allocW (k := .u8) (w := 8) (m := 32) zr42) rfl rfl rfl ?_
            rintro _ _ ⟨b25, rfl, rfl⟩
            refine WL_ac0 (Ac_storeW rfl rfl sz42) rfl rfl ?_
            rintro _ _ rfl
            refine WL_rd (Rd_assign rfl) rfl rfl rfl ?_
            refine WL_end hK48 ?_
            refine WC_sr fun K49 hK49 => ?_
            refine WL_rd (Rd_move rfl) rfl rfl rfl ?_
            refine WL_rd (Rd_move rfl) rfl rfl rfl ?_
            refine WL_ac (Ac_call cf88 rfl (hs := pChain_ct (pb := pb) (m := m) (n := n) (w := (wdM n)) (Kn := Kc) (i0 := ((i : Nat) : Int)) (hw := rfl) (h1 := h1) (h2 := h2))) rfl rfl rfl ?_
            rintro _ _ ⟨⟨ca, cc⟩, rfl, hA⟩
            simp only [List.cons_append, List.nil_append] at hA
            replace hA := hA.symm
            subst hA
            refine WL_rd (Rd_move rfl) rfl rfl rfl ?_
            refine WL_rd (Rd_ext0 rfl) rfl rfl rfl ?_
            refine WL_rd (Rd_ext1 rfl) rfl rfl rfl ?_
            refine WL_rd (Rd_assign rfl) rfl rfl rfl ?_
            refine WL_rd (Rd_assign rfl) rfl rfl rfl ?_
            refine WL_end hK49 ?_
            refine WC_sr fun K50 hK50 => ?_
            refine WL_rd (Rd_move rfl) rfl rfl rfl ?_
            refine WL_rd (Rd_move rfl) rfl rfl rfl ?_
            refine WL_rd (Rd_eqlN (j := 0) rfl rfl) rfl rfl rfl ?_
            refine WL_rd (Rd_isF (Rd_bne rfl rfl ud4) (by rw [hce0]; simp)) rfl rfl rfl ?_
            refine WL_rd (Rd_move rfl) rfl rfl rfl ?_
            refine WL_rd (Rd_move rfl) rfl rfl rfl ?_
            refine WL_rd (Rd_move rfl) rfl rfl rfl ?_
            refine WL_bool 180 rfl (fun hg51 => ?_) (fun hg51 => ?_)
            · try simp only [decide_eq_true_eq, decide_eq_false_iff_not, Bool.not_eq_true', Bool.not_eq_false', Bool.not_eq_true, Bool.not_eq_false, Int.not_lt, Int.not_le, Nat.not_lt, Nat.not_le, Decidable.not_not, ne_eq] at hg51
              have q9 := hg51
              have hcu := leaf_up h1 h2 (by omega) hnc hlc q9
              have hcn : (chN n Kc ((i : Nat) : Int)) = chF Kc ((wdM n) + i) := by unfold chN; rw [if_pos (hce.2 q9), Int.toNat_natCast]
              refine WL_rd (Rd_move rfl) rfl rfl rfl ?_
              refine WL_rd (Rd_move rfl) rfl rfl rfl ?_
              refine WL_rd (Rd_loadW rfl tk42) rfl rfl rfl ?_
              refine WL_rd (Rd_loadW rfl tk42) rfl rfl rfl ?_
              refine WL_rd (Rd_move rfl) rfl rfl rfl ?_
              refine WL_fact (fun w h => arr_facts (a := ca) (cap := cc) (e := 33) (T := 133) (f := eND) (l := (chN n Kc ((i : Nat) : Int))) (by repeat (first | with_reducible exact Has.here | with_reducible refine Has.there ?_)) h) (fun hcf => ?_)
              have hSc : Sv [arr ca cc 33 133 eND (chN n Kc ((i : Nat) : Int))] (sl ca (chN n Kc ((i : Nat) : Int)).length cc) 33 eND (chN n Kc ((i : Nat) : Int)) (ca.map fun g => ⟨g, 0, none⟩) cc := Sv_own' encND hcf.1 hcf.2
              refine WL_ac (Ac_call cf91 rfl (hs := climbs_ct (n := n) (i := i) (d := ((Kc (((wdM n) : Int) + ((i : Nat) : Int))).getD zD)) (root := root) (ns := (chN n Kc ((i : Nat) : Int))) (hS := hSc) (he := by rw [hcn]; exact hcu.1) (hr := by rw [hcn]; exact hcu.2) (hll := by rw [hcn, chF_len]; have := chL_lenle ((wdM n) + i); omega))) rfl rfl rfl ?_
              rintro _ _ ⟨⟨⟩, rfl, hA⟩
              simp only [List.cons_append, List.nil_append] at hA
              replace hA := hA.symm
              subst hA
              refine WL_rd (Rd_not rfl) rfl rfl rfl ?_
              refine WL_rd (Rd_pickT rfl rfl) rfl rfl rfl ?_
              refine WL_rd (Rd_pickF rfl rfl) rfl rfl rfl ?_
              refine WL_end hK50 ?_
              refine WC_condF rfl ?_
              refine WC_skip ?_
              refine Ps_next hK47 ?_
              refine WC_region ?_
              refine WL_rd (Rd_move rfl) rfl rfl rfl ?_
              refine WL_rd (Rd_addN (j := 1) rfl rfl) rfl rfl rfl ?_
              refine WL_rd (Rd_assign rfl) rfl rfl rfl ?_
              refine WL_nil ?_
              refine Ps_wk (by (try simp only [List.cons_append, List.nil_append]); repeat (first | with_reducible exact Wk.nil | refine Wk.cons (by first | rfl | (simp only [List.length_append, List.length_cons, List.length_nil, List.length_replicate, Nat.zero_add]; rfl) | (simp; done)) ?_)) (by (try simp only [List.cons_append, List.nil_append]); first | ((repeat (first | with_reducible exact Sub.refl | with_reducible apply Sub.cons Ext.here | with_reducible apply Sub.tail)); done) | (repeat (first | with_reducible exact Sub.refl | with_reducible exact Sub.nil | (with_reducible apply Sub.cons; · (repeat (first | with_reducible exact Ext.here | with_reducible apply Ext.there))) | with_reducible apply Sub.tail))) (hK44 (i + 1) (by omega) (by omega))
            · try simp only [decide_eq_true_eq, decide_eq_false_iff_not, Bool.not_eq_true', Bool.not_eq_false', Bool.not_eq_true, Bool.not_eq_false, Int.not_lt, Int.not_le, Nat.not_lt, Nat.not_le, Decidable.not_not, ne_eq] at hg51
              refine WL_skip rfl rfl rfl ?_
              refine WL_skip rfl rfl rfl ?_
              refine WL_skip rfl rfl rfl ?_
              refine WL_skip rfl rfl rfl ?_
              refine WL_skip rfl rfl rfl ?_
              refine WL_fact (fun w h => arr_facts (a := ca) (cap := cc) (e := 33) (T := 133) (f := eND) (l := (chN n Kc ((i : Nat) : Int))) (by repeat (first | with_reducible exact Has.here | with_reducible refine Has.there ?_)) h) (fun hcf => ?_)
              have hSc : Sv [arr ca cc 33 133 eND (chN n Kc ((i : Nat) : Int))] (sl ca (chN n Kc ((i : Nat) : Int)).length cc) 33 eND (chN n Kc ((i : Nat) : Int)) (ca.map fun g => ⟨g, 0, none⟩) cc := Sv_own' encND hcf.1 hcf.2
              refine WL_skip rfl rfl rfl ?_
              refine WL_skip rfl rfl rfl ?_
              refine WL_rd (Rd_pickF rfl rfl) rfl rfl rfl ?_
              refine WL_rd (Rd_pickF rfl rfl) rfl rfl rfl ?_
              refine WL_end hK50 ?_
              refine WC_condF rfl ?_
              refine WC_skip ?_
              refine Ps_next hK47 ?_
              refine WC_region ?_
              refine WL_rd (Rd_move rfl) rfl rfl rfl ?_
              refine WL_rd (Rd_addN (j := 1) rfl rfl) rfl rfl rfl ?_
              refine WL_rd (Rd_assign rfl) rfl rfl rfl ?_
              refine WL_nil ?_
              refine Ps_wk (by (try simp only [List.cons_append, List.nil_append]); repeat (first | with_reducible exact Wk.nil | refine Wk.cons (by first | rfl | (simp only [List.length_append, List.length_cons, List.length_nil, List.length_replicate, Nat.zero_add]; rfl) | (simp; done)) ?_)) (by (try simp only [List.cons_append, List.nil_append]); first | ((repeat (first | with_reducible exact Sub.refl | with_reducible apply Sub.cons Ext.here | with_reducible apply Sub.tail)); done) | (repeat (first | with_reducible exact Sub.refl | with_reducible exact Sub.nil | (with_reducible apply Sub.cons; · (repeat (first | with_reducible exact Ext.here | with_reducible apply Ext.there))) | with_reducible apply Sub.tail))) (hK44 (i + 1) (by omega) (by omega))
          · try simp only [decide_eq_true_eq, decide_eq_false_iff_not, Bool.not_eq_true', Bool.not_eq_false', Bool.not_eq_true, Bool.not_eq_false, Int.not_lt, Int.not_le, Nat.not_lt, Nat.not_le, Decidable.not_not, ne_eq] at hc10
            refine WC_exit ?_
            refine Ps_next hK42 ?_
            refine WC_sr fun K52 hK52 => ?_
            refine WL_rd (Rd_assign rfl) rfl rfl rfl ?_
            refine WL_end hK52 ?_
            refine WC_ret ?_
            exact hret.go () (Rs1 rfl rfl) (hs := by simp only [List.cons_append, List.nil_append]; first | ((repeat (first | with_reducible exact Sub.refl | with_reducible apply Sub.cons Ext.here | with_reducible apply Sub.tail)); done) | (repeat (first | with_reducible exact Sub.refl | with_reducible exact Sub.nil | (with_reducible apply Sub.cons; · (repeat (first | with_reducible exact Ext.here | with_reducible apply Ext.there))) | with_reducible apply Sub.tail)))
  · try simp only [decide_eq_true_eq, decide_eq_false_iff_not, Bool.not_eq_true', Bool.not_eq_false', Bool.not_eq_true, Bool.not_eq_false, Int.not_lt, Int.not_le, Nat.not_lt, Nat.not_le, Decidable.not_not, ne_eq] at hc1
    have hL := hS
    have hQL := hQ
    have hLn : qs.length ≤ 40 := by omega
    obtain ⟨ls, hls⟩ : ∃ ls, ls = qs := ⟨_, rfl⟩
    rw [← hls] at hL hQL hLn
    refine WC_skip ?_
    refine Ps_next hK6 ?_
    refine WC_seq fun K53 hK53 => ?_
    refine WC_sr fun K54 hK54 => ?_
    refine WL_rd (Rd_move rfl) rfl rfl rfl ?_
    refine WL_rd (Rd_len_sv rfl rfl ud145 (hA := hL)) rfl rfl rfl ?_
    refine WL_rd (Rd_move rfl) rfl rfl rfl ?_
    refine WL_end hK54 ?_
    refine WC_block ?_
    refine WC_loopK (σ := Nat × KM) (fun ⟨k, Kc⟩ => [(75, .int .i64 ((k : Nat) : Int))]) (fun ⟨k, Kc⟩ => [mpI m (kv Kc)]) (fun ⟨k, Kc⟩ => k ≤ ls.length ∧ SupK (wdM n) Kc ∧ LeK (newK n root) Kc ∧ Snd (wdM n) (newK n root) Kc) (fun ⟨k, Kc⟩ => ls.length - k) ⟨0, (newK n root)⟩ [0, 4, 7, 9, 24, 25, 26, 27, 28, 73, 74, 149, 150, 151, 152, 153, 154, 155, 156, 157, 158, 159, 160, 161, 162, 163, 164, 165, 166, 167, 168, 169, 170, 171, 172, 173, 174, 175, 176, 177, 178, 179, 180, 181, 182, 183, 184, 185, 186, 187, 188, 189] (by repeat (first | exact Kep.nil | apply Kep.drop rfl | apply Kep.keep rfl)) (by (try dsimp only); repeat (first | with_reducible exact Gv.nil | (with_reducible apply Gv.cons; · (repeat (first | with_reducible exact Ext.here | with_reducible apply Ext.there))))) ?_ ?_ Sub.refl ?_
    · exact ⟨Nat.zero_le _, hsF, LeK.refl _, Snd_0 _ _⟩
    · (try dsimp only); exact (Wk.cons (by first | rfl | (simp only [List.length_append, List.length_cons, List.length_nil, List.length_replicate, Nat.zero_add]; rfl) | (simp; done)) Wk.nil)
    · rintro ⟨k, Kc⟩ ⟨hk, hsc, hlc, hnc⟩ K55 hK55
      simp only [List.cons_append, List.nil_append]
      refine WC_sr fun K56 hK56 => ?_
      refine WL_rd (Rd_lssN rfl rfl) rfl rfl rfl ?_
      refine WL_end hK56 ?_
      refine WC_seq fun K57 hK57 => ?_
      refine WC_cond rfl (fun hc2 => ?_) (fun hc2 => ?_)
      · try simp only [decide_eq_true_eq, decide_eq_false_iff_not, Bool.not_eq_true', Bool.not_eq_false', Bool.not_eq_true, Bool.not_eq_false, Int.not_lt, Int.not_le, Nat.not_lt, Nat.not_le, Decidable.not_not, ne_eq] at hc2
        obtain ⟨q, hq⟩ : ∃ q, ls[k]? = some q := ⟨_, List.getElem?_eq_getElem (by omega)⟩
        obtain ⟨hqS, hqn'⟩ := hQL q (List.mem_of_getElem? hq)
        refine WC_skip ?_
        refine Ps_next hK57 ?_
        refine WC_seq fun K58 hK58 => ?_
        refine WC_block ?_
        refine WC_sr fun K59 hK59 => ?_
        refine WL_rd (Rd_index_sv k rfl rfl ud145 sz120 (hA := hL) (hi := by omega)) rfl rfl rfl ?_
        refine WL_rd (Rd_load_sv (f := eNQ) (i := k) (j := 0) (u := q.v) rfl tk120 (hA := hL) (hl := hq)) rfl rfl rfl ?_
        refine WL_rd (Rd_assign rfl) rfl rfl rfl ?_
        refine WL_end hK59 ?_
        refine WC_sr fun K60 hK60 => ?_
        refine WL_rd (Rd_move rfl) rfl rfl rfl ?_
        refine WL_ac (Ac_call cf80 rfl (hs := pClone_ct (pb := pb) (m := m) (n := n) (w := (wdM n)) (Kn := Kc) (hn1 := h1))) rfl rfl rfl ?_
        rintro _ _ ⟨⟨ob, om⟩, rfl, hA⟩
        simp only [List.cons_append, List.nil_append] at hA
        replace hA := hA.symm
        subst hA
        refine WL_rd (Rd_assign rfl) rfl rfl rfl ?_
        refine WL_end hK60 ?_
        refine WC_seq fun K61 hK61 => ?_
        refine WC_sr fun K62 hK62 => ?_
        refine WL_rd (Rd_move rfl) rfl rfl rfl ?_
        refine WL_rd (Rd_peq rfl rfl ud121) rfl rfl rfl ?_
        refine WL_end hK62 ?_
        refine WC_condF rfl ?_
        refine WC_skip ?_
        refine Ps_next hK61 ?_
        refine WC_sr fun K63 hK63 => ?_
        refine WL_rd (Rd_move rfl) rfl rfl rfl ?_
        refine WL_rd (Rd_move rfl) rfl rfl rfl ?_
        refine WL_ac (Ac_call cf74 rfl (hs := pPut_ct (pb := pb) (m := m) (n := n) (w := (wdM n)) (Kn := Kc) (X := X) (v := q.v) (l := q.l) (hS := hqS) (hs := hsc) (hn1 := h1) (hw1 := hwo.2.2.2.2))) rfl rfl rfl ?_
        rintro _ _ ⟨⟨⟩, rfl, hA⟩
        simp only [List.cons_append, List.nil_append] at hA
        replace hA := hA.symm
        subst hA
        have hs' := putK_sup (l := q.l) hsc hw1
        have hl' := putK_leF (l := q.l) hsc hw1 hlc
        have hn' := putK_snd (l := q.l) hsc hw1 hlc hnc
        have hat := fun t (ht : (Kc t).isSome = true) => put_at (l := q.l) hsc hw1 ht
        have hbad := fun he t => put_iff (l := q.l) hsc hw1 he t
        have hhas := putK_has (w := (wdM n)) (K := Kc) (l := q.l)
        generalize putK (wdM n) Kc q.l = KN at hs' hl' hn' hat hbad hhas ⊢
        generalize (putS (wdM n) Kc q.l).1 = er at hbad hhas ⊢
        refine WL_rd (Rd_assign rfl) rfl rfl rfl ?_
        refine WL_end hK63 ?_
        refine WC_seq fun K64 hK64 => ?_
        refine WC_sr fun K65 hK65 => ?_
        refine WL_rd (Rd_assign rfl) rfl rfl rfl ?_
        refine WL_end hK65 ?_
        refine WC_block ?_
        refine WC_loopK (σ := Nat) (fun t => [(15, .int .i64 ((t : Nat) : Int))]) (fun t => []) (fun t => 1 ≤ t) (fun t => 2 * (wdM n) - t) (1) [0, 4, 7, 9, 12, 13, 14, 21, 22, 23, 24, 25, 26, 27, 28, 73, 74, 75, 76, 77, 78, 79, 80, 81, 82, 83, 84, 85, 124, 125, 126, 127, 128, 129, 130, 131, 132, 133, 134, 135, 136, 137, 138, 139, 140, 141, 142, 143, 144, 145, 146, 147, 148, 149, 150, 151, 152, 153, 154, 155, 156, 157, 158, 159, 160, 161, 162, 163, 164, 165, 166, 167, 168, 169, 170, 171, 172, 173, 174, 175, 176, 177, 178, 179, 180, 181, 182, 183, 184, 185, 186, 187, 188, 189] (by repeat (first | exact Kep.nil | apply Kep.drop rfl | apply Kep.keep rfl)) (by (try dsimp only); repeat (first | with_reducible exact Gv.nil | (with_reducible apply Gv.cons; · (repeat (first | with_reducible exact Ext.here | with_reducible apply Ext.there))))) ?_ ?_ Sub.refl ?_
        · exact Nat.le_refl _
        · (try dsimp only); exact (Wk.cons (by first | rfl | (simp only [List.length_append, List.length_cons, List.length_nil, List.length_replicate, Nat.zero_add]; rfl) | (simp; done)) Wk.nil)
        · rintro t ht1 K66 hK66
          simp only [List.cons_append, List.nil_append]
          have hda := Dg_len ((Kc (((t : Nat)) : Int)).getD zD)
          have hdb := Dg_len ((KN (((t : Nat)) : Int)).getD zD)
          refine WC_seq fun K67 hK67 => ?_
          refine WC_sr fun K68 hK68 => ?_
          refine WL_rd (Rd_move rfl) rfl rfl rfl ?_
          refine WL_rd (Rd_move rfl) rfl rfl rfl ?_
          refine WL_ac (Ac_call cf75 rfl (hs := pWidth_ct (pb := pb) (m := m) (n := n) (w := (wdM n)) (Kn := KN))) rfl rfl rfl ?_
          rintro _ _ ⟨⟨⟩, rfl, hA⟩
          simp only [List.cons_append, List.nil_append] at hA
          replace hA := hA.symm
          subst hA
          refine WL_rd (Rd_mulN (i := 2) rfl rfl) rfl rfl rfl ?_
          refine WL_rd (Rd_lssN rfl rfl) rfl rfl rfl ?_
          refine WL_end hK68 ?_
          refine WC_cond rfl (fun hc4 => ?_) (fun hc4 => ?_)
          · try simp only [decide_eq_true_eq, decide_eq_false_iff_not, Bool.not_eq_true', Bool.not_eq_false', Bool.not_eq_true, Bool.not_eq_false, Int.not_lt, Int.not_le, Nat.not_lt, Nat.not_le, Decidable.not_not, ne_eq] at hc4
            refine WC_skip ?_
            refine Ps_next hK67 ?_
            refine WC_seq fun K69 hK69 => ?_
            refine WC_block ?_
            refine WC_sr fun K70 hK70 => ?_
            refine WL_rd (Rd_move rfl) rfl rfl rfl ?_
            refine WL_rd (Rd_move rfl) rfl rfl rfl ?_
            refine WL_ac (Ac_call cf76 rfl (hs := pKnown_ct (pb := ob) (m := om) (n := n) (w := (wdM n)) (Kn := Kc) (i := (((t : Nat)) : Int)))) rfl rfl rfl ?_
            rintro _ _ ⟨⟨⟩, rfl, hA⟩
            simp only [List.cons_append, List.nil_append] at hA
            replace hA := hA.symm
            subst hA
            refine WL_rd (Rd_move rfl) rfl rfl rfl ?_
            refine WL_rd (Rd_ext0 rfl) rfl rfl rfl ?_
            refine WL_rd (Rd_ext1 rfl) rfl rfl rfl ?_
            refine WL_ac (Ac_allocW (k := .u8) (w := 8) (m := 32) zr42) rfl rfl rfl ?_
            rintro _ _ ⟨b16, rfl, rfl⟩
            refine WL_ac0 (Ac_storeW rfl rfl sz42) rfl rfl ?_
            rintro _ _ rfl
            refine WL_rd (Rd_assign rfl) rfl rfl rfl ?_
            refine WL_end hK70 ?_
            refine WC_sr fun K71 hK71 => ?_
            refine WL_rd (Rd_move rfl) rfl rfl rfl ?_
            refine WL_rd (Rd_move rfl) rfl rfl rfl ?_
            refine WL_ac (Ac_call cf76 rfl (hs := pKnown_ct (pb := pb) (m := m) (n := n) (w := (wdM n)) (Kn := KN) (i := (((t : Nat)) : Int)))) rfl rfl rfl ?_
            rintro _ _ ⟨⟨⟩, rfl, hA⟩
            simp only [List.cons_append, List.nil_append] at hA
            replace hA := hA.symm
            subst hA
            refine WL_rd (Rd_move rfl) rfl rfl rfl ?_
            refine WL_rd (Rd_ext0 rfl) rfl rfl rfl ?_
            refine WL_rd (Rd_ext1 rfl) rfl rfl rfl ?_
            refine WL_ac (Ac_allocW (k := .u8) (w := 8) (m := 32) zr42) rfl rfl rfl ?_
            rintro _ _ ⟨b18, rfl, rfl⟩
            refine WL_ac0 (Ac_storeW rfl rfl sz42) rfl rfl ?_
            rintro _ _ rfl
            refine WL_rd (Rd_assign rfl) rfl rfl rfl ?_
            refine WL_end hK71 ?_
            refine WC_sr fun K72 hK72 => ?_
            refine WL_rd (Rd_move rfl) rfl rfl rfl ?_
            refine WL_rd (Rd_move rfl) rfl rfl rfl ?_
            refine WL_bool 106 rfl (fun hg73 => ?_) (fun hg73 => ?_)
            · try simp only [decide_eq_true_eq, decide_eq_false_iff_not, Bool.not_eq_true', Bool.not_eq_false', Bool.not_eq_true, Bool.not_eq_false, Int.not_lt, Int.not_le, Nat.not_lt, Nat.not_le, Decidable.not_not, ne_eq] at hg73
              have q1 := hg73
              refine WL_rd (Rd_move rfl) rfl rfl rfl ?_
              refine WL_rd (Rd_isF (Rd_not rfl) (by rw [(hat _ q1).1]; rfl)) rfl rfl rfl ?_
              refine WL_rd (Rd_move rfl) rfl rfl rfl ?_
              refine WL_rd (Rd_loadW rfl tk42) rfl rfl rfl ?_
              refine WL_rd (Rd_loadW rfl tk42) rfl rfl rfl ?_
              refine WL_rd (Rd_isF (Rd_neW rfl rfl ais42) (by rw [(hat _ q1).2]; simp)) rfl rfl rfl ?_
              refine WL_rd (Rd_pickF rfl rfl) rfl rfl rfl ?_
              refine WL_rd (Rd_pickT rfl rfl) rfl rfl rfl ?_
              refine WL_rd (Rd_move rfl) rfl rfl rfl ?_
              refine WL_rd (Rd_move rfl) rfl rfl rfl ?_
              refine WL_rd (Rd_neq rfl rfl) rfl rfl rfl ?_
              refine WL_rd (Rd_move rfl) rfl rfl rfl ?_
              refine WL_bool 118 rfl (fun hg74 => ?_) (fun hg74 => ?_)
              · try simp only [decide_eq_true_eq, decide_eq_false_iff_not, Bool.not_eq_true', Bool.not_eq_false', Bool.not_eq_true, Bool.not_eq_false, Int.not_lt, Int.not_le, Nat.not_lt, Nat.not_le, Decidable.not_not, ne_eq] at hg74
                have qe := hg74
                refine WL_rd (Rd_move rfl) rfl rfl rfl ?_
                refine WL_rd (Rd_move rfl) rfl rfl rfl ?_
                refine WL_rd (Rd_isF (Rd_bne rfl rfl ud4) (by rw [hbad (by simpa using qe)]; simp)) rfl rfl rfl ?_
                refine WL_rd (Rd_pickT rfl rfl) rfl rfl rfl ?_
                refine WL_rd (Rd_pickF rfl rfl) rfl rfl rfl ?_
                refine WL_end hK72 ?_
                refine WC_condF rfl ?_
                refine WC_skip ?_
                refine Ps_next hK69 ?_
                refine WC_region ?_
                refine WL_rd (Rd_move rfl) rfl rfl rfl ?_
                refine WL_rd (Rd_addN (j := 1) rfl rfl) rfl rfl rfl ?_
                refine WL_rd (Rd_assign rfl) rfl rfl rfl ?_
                refine WL_nil ?_
                refine Ps_wk (by (try simp only [List.cons_append, List.nil_append]); repeat (first | with_reducible exact Wk.nil | refine Wk.cons (by first | rfl | (simp only [List.length_append, List.length_cons, List.length_nil, List.length_replicate, Nat.zero_add]; rfl) | (simp; done)) ?_)) (by (try simp only [List.cons_append, List.nil_append]); first | ((repeat (first | with_reducible exact Sub.refl | with_reducible apply Sub.cons Ext.here | with_reducible apply Sub.tail)); done) | (repeat (first | with_reducible exact Sub.refl | with_reducible exact Sub.nil | (with_reducible apply Sub.cons; · (repeat (first | with_reducible exact Ext.here | with_reducible apply Ext.there))) | with_reducible apply Sub.tail))) (hK66 (t + 1) (by omega) (by omega))
              · try simp only [decide_eq_true_eq, decide_eq_false_iff_not, Bool.not_eq_true', Bool.not_eq_false', Bool.not_eq_true, Bool.not_eq_false, Int.not_lt, Int.not_le, Nat.not_lt, Nat.not_le, Decidable.not_not, ne_eq] at hg74
                refine WL_skip rfl rfl rfl ?_
                refine WL_skip rfl rfl rfl ?_
                refine WL_skip rfl rfl rfl ?_
                refine WL_rd (Rd_pickF rfl rfl) rfl rfl rfl ?_
                refine WL_rd (Rd_pickF rfl rfl) rfl rfl rfl ?_
                refine WL_end hK72 ?_
                refine WC_condF rfl ?_
                refine WC_skip ?_
                refine Ps_next hK69 ?_
                refine WC_region ?_
                refine WL_rd (Rd_move rfl) rfl rfl rfl ?_
                refine WL_rd (Rd_addN (j := 1) rfl rfl) rfl rfl rfl ?_
                refine WL_rd (Rd_assign rfl) rfl rfl rfl ?_
                refine WL_nil ?_
                refine Ps_wk (by (try simp only [List.cons_append, List.nil_append]); repeat (first | with_reducible exact Wk.nil | refine Wk.cons (by first | rfl | (simp only [List.length_append, List.length_cons, List.length_nil, List.length_replicate, Nat.zero_add]; rfl) | (simp; done)) ?_)) (by (try simp only [List.cons_append, List.nil_append]); first | ((repeat (first | with_reducible exact Sub.refl | with_reducible apply Sub.cons Ext.here | with_reducible apply Sub.tail)); done) | (repeat (first | with_reducible exact Sub.refl | with_reducible exact Sub.nil | (with_reducible apply Sub.cons; · (repeat (first | with_reducible exact Ext.here | with_reducible apply Ext.there))) | with_reducible apply Sub.tail))) (hK66 (t + 1) (by omega) (by omega))
            · try simp only [decide_eq_true_eq, decide_eq_false_iff_not, Bool.not_eq_true', Bool.not_eq_false', Bool.not_eq_true, Bool.not_eq_false, Int.not_lt, Int.not_le, Nat.not_lt, Nat.not_le, Decidable.not_not, ne_eq] at hg73
              refine WL_skip rfl rfl rfl ?_
              refine WL_skip rfl rfl rfl ?_
              refine WL_skip rfl rfl rfl ?_
              refine WL_skip rfl rfl rfl ?_
              refine WL_skip rfl rfl rfl ?_
              refine WL_skip rfl rfl rfl ?_
              refine WL_skip rfl rfl rfl ?_
              refine WL_rd (Rd_pickF rfl rfl) rfl rfl rfl ?_
              refine WL_rd (Rd_move rfl) rfl rfl rfl ?_
              refine WL_rd (Rd_move rfl) rfl rfl rfl ?_
              refine WL_rd (Rd_neq rfl rfl) rfl rfl rfl ?_
              refine WL_rd (Rd_move rfl) rfl rfl rfl ?_
              refine WL_bool 118 rfl (fun hg75 => ?_) (fun hg75 => ?_)
              · try simp only [decide_eq_true_eq, decide_eq_false_iff_not, Bool.not_eq_true', Bool.not_eq_false', Bool.not_eq_true, Bool.not_eq_false, Int.not_lt, Int.not_le, Nat.not_lt, Nat.not_le, Decidable.not_not, ne_eq] at hg75
                have qe := hg75
                refine WL_rd (Rd_move rfl) rfl rfl rfl ?_
                refine WL_rd (Rd_move rfl) rfl rfl rfl ?_
                refine WL_rd (Rd_isF (Rd_bne rfl rfl ud4) (by rw [hbad (by simpa using qe)]; simp)) rfl rfl rfl ?_
                refine WL_rd (Rd_pickT rfl rfl) rfl rfl rfl ?_
                refine WL_rd (Rd_pickF rfl rfl) rfl rfl rfl ?_
                refine WL_end hK72 ?_
                refine WC_condF rfl ?_
                refine WC_skip ?_
                refine Ps_next hK69 ?_
                refine WC_region ?_
                refine WL_rd (Rd_move rfl) rfl rfl rfl ?_
                refine WL_rd (Rd_addN (j := 1) rfl rfl) rfl rfl rfl ?_
                refine WL_rd (Rd_assign rfl) rfl rfl rfl ?_
                refine WL_nil ?_
                refine Ps_wk (by (try simp only [List.cons_append, List.nil_append]); repeat (first | with_reducible exact Wk.nil | refine Wk.cons (by first | rfl | (simp only [List.length_append, List.length_cons, List.length_nil, List.length_replicate, Nat.zero_add]; rfl) | (simp; done)) ?_)) (by (try simp only [List.cons_append, List.nil_append]); first | ((repeat (first | with_reducible exact Sub.refl | with_reducible apply Sub.cons Ext.here | with_reducible apply Sub.tail)); done) | (repeat (first | with_reducible exact Sub.refl | with_reducible exact Sub.nil | (with_reducible apply Sub.cons; · (repeat (first | with_reducible exact Ext.here | with_reducible apply Ext.there))) | with_reducible apply Sub.tail))) (hK66 (t + 1) (by omega) (by omega))
              · try simp only [decide_eq_true_eq, decide_eq_false_iff_not, Bool.not_eq_true', Bool.not_eq_false', Bool.not_eq_true, Bool.not_eq_false, Int.not_lt, Int.not_le, Nat.not_lt, Nat.not_le, Decidable.not_not, ne_eq] at hg75
                refine WL_skip rfl rfl rfl ?_
                refine WL_skip rfl rfl rfl ?_
                refine WL_skip rfl rfl rfl ?_
                refine WL_rd (Rd_pickF rfl rfl) rfl rfl rfl ?_
                refine WL_rd (Rd_pickF rfl rfl) rfl rfl rfl ?_
                refine WL_end hK72 ?_
                refine WC_condF rfl ?_
                refine WC_skip ?_
                refine Ps_next hK69 ?_
                refine WC_region ?_
                refine WL_rd (Rd_move rfl) rfl rfl rfl ?_
                refine WL_rd (Rd_addN (j := 1) rfl rfl) rfl rfl rfl ?_
                refine WL_rd (Rd_assign rfl) rfl rfl rfl ?_
                refine WL_nil ?_
                refine Ps_wk (by (try simp only [List.cons_append, List.nil_append]); repeat (first | with_reducible exact Wk.nil | refine Wk.cons (by first | rfl | (simp only [List.length_append, List.length_cons, List.length_nil, List.length_replicate, Nat.zero_add]; rfl) | (simp; done)) ?_)) (by (try simp only [List.cons_append, List.nil_append]); first | ((repeat (first | with_reducible exact Sub.refl | with_reducible apply Sub.cons Ext.here | with_reducible apply Sub.tail)); done) | (repeat (first | with_reducible exact Sub.refl | with_reducible exact Sub.nil | (with_reducible apply Sub.cons; · (repeat (first | with_reducible exact Ext.here | with_reducible apply Ext.there))) | with_reducible apply Sub.tail))) (hK66 (t + 1) (by omega) (by omega))
          · try simp only [decide_eq_true_eq, decide_eq_false_iff_not, Bool.not_eq_true', Bool.not_eq_false', Bool.not_eq_true, Bool.not_eq_false, Int.not_lt, Int.not_le, Nat.not_lt, Nat.not_le, Decidable.not_not, ne_eq] at hc4
            refine WC_exit ?_
            refine Ps_next hK64 ?_
            refine WC_sr fun K76 hK76 => ?_
            refine WL_rd (Rd_move rfl) rfl rfl rfl ?_
            refine WL_rd (Rd_eql rfl rfl) rfl rfl rfl ?_
            refine WL_end hK76 ?_
            refine WC_cond rfl (fun hc6 => ?_) (fun hc6 => ?_)
            · try simp only [decide_eq_true_eq, decide_eq_false_iff_not, Bool.not_eq_true', Bool.not_eq_false', Bool.not_eq_true, Bool.not_eq_false, Int.not_lt, Int.not_le, Nat.not_lt, Nat.not_le, Decidable.not_not, ne_eq] at hc6
              refine WC_sr fun K77 hK77 => ?_
              refine WL_rd (Rd_move rfl) rfl rfl rfl ?_
              refine WL_rd (Rd_len_sv rfl rfl ud120 (hA := hqS)) rfl rfl rfl ?_
              refine WL_rd (Rd_move rfl) rfl rfl rfl ?_
              refine WL_end hK77 ?_
              refine WC_block ?_
              refine WC_loopK (σ := Nat) (fun j => [(128, .int .i64 ((j : Nat) : Int))]) (fun j => []) (fun j => j ≤ q.l.length) (fun j => q.l.length - j) (0) [0, 4, 7, 9, 12, 13, 14, 15, 16, 17, 18, 19, 24, 25, 26, 27, 28, 73, 74, 75, 76, 77, 78, 79, 80, 81, 82, 83, 84, 85, 86, 87, 88, 89, 90, 91, 92, 93, 94, 95, 96, 97, 98, 99, 100, 101, 102, 103, 104, 105, 106, 107, 108, 109, 110, 111, 112, 113, 114, 115, 116, 117, 118, 119, 120, 121, 122, 123, 124, 125, 126, 127, 148, 149, 150, 151, 152, 153, 154, 155, 156, 157, 158, 159, 160, 161, 162, 163, 164, 165, 166, 167, 168, 169, 170, 171, 172, 173, 174, 175, 176, 177, 178, 179, 180, 181, 182, 183, 184, 185, 186, 187, 188, 189] (by repeat (first | exact Kep.nil | apply Kep.drop rfl | apply Kep.keep rfl)) (by (try dsimp only); repeat (first | with_reducible exact Gv.nil | (with_reducible apply Gv.cons; · (repeat (first | with_reducible exact Ext.here | with_reducible apply Ext.there))))) ?_ ?_ Sub.refl ?_
              · exact Nat.zero_le _
              · (try dsimp only); exact (Wk.cons (by first | rfl | (simp only [List.length_append, List.length_cons, List.length_nil, List.length_replicate, Nat.zero_add]; rfl) | (simp; done)) Wk.nil)
              · rintro j hj K78 hK78
                simp only [List.cons_append, List.nil_append]
                refine WC_sr fun K79 hK79 => ?_
                refine WL_rd (Rd_lssN rfl rfl) rfl rfl rfl ?_
                refine WL_end hK79 ?_
                refine WC_seq fun K80 hK80 => ?_
                refine WC_cond rfl (fun hc7 => ?_) (fun hc7 => ?_)
                · try simp only [decide_eq_true_eq, decide_eq_false_iff_not, Bool.not_eq_true', Bool.not_eq_false', Bool.not_eq_true, Bool.not_eq_false, Int.not_lt, Int.not_le, Nat.not_lt, Nat.not_le, Decidable.not_not, ne_eq] at hc7
                  obtain ⟨x, hx⟩ : ∃ x, q.l[j]? = some x := ⟨_, List.getElem?_eq_getElem (by omega)⟩
                  have hxk := hhas (by simpa using hc6) x (List.mem_of_getElem? hx)
                  have hxd := Dg_len x.2
                  have hxe := Dg_len ((KN x.1).getD zD)
                  refine WC_skip ?_
                  refine Ps_next hK80 ?_
                  refine WC_seq fun K81 hK81 => ?_
                  refine WC_block ?_
                  refine WC_sr fun K82 hK82 => ?_
                  refine WL_rd (Rd_index_sv j rfl rfl ud120 sz133 (hA := hqS) (hi := by omega)) rfl rfl rfl ?_
                  refine WL_rd (Rd_loadg_sv (f := eND) (i := j) rfl tk133 (hA := hqS) (hl := hx)) rfl rfl rfl ?_
                  refine WL_ac (Ac_alloc zr133) rfl rfl rfl ?_
                  rintro _ _ ⟨b21, rfl, rfl⟩
                  refine WL_ac0 (Ac_store (ys := eND x) rfl rfl sz133 (hv := by show (eND x).toArray.size = 33; rw [List.size_toArray, encND.len]) (h1 := encND.one x) (hr := by show ([] ++ eND x) ++ [] = eND x; rw [List.append_nil]; rfl)) rfl rfl ?_
                  rintro _ _ rfl
                  refine WL_end hK82 ?_
                  refine WC_sr fun K83 hK83 => ?_
                  refine WL_rd (Rd_move rfl) rfl rfl rfl ?_
                  refine WL_rd (Rd_fieldAddr rfl fo133_0) rfl rfl rfl ?_
                  refine WL_rd (Rd_load rfl tk3 (v := .int .i64 x.1)) rfl rfl rfl ?_
                  refine WL_ac (Ac_call cf76 rfl (hs := pKnown_ct (pb := pb) (m := m) (n := n) (w := (wdM n)) (Kn := KN) (i := x.1))) rfl rfl rfl ?_
                  rintro _ _ ⟨⟨⟩, rfl, hA⟩
                  simp only [List.cons_append, List.nil_append] at hA
                  replace hA := hA.symm
                  subst hA
                  rw [show (KN x.1).isSome = true from by rw [hxk]; rfl]
                  refine WL_rd (Rd_move rfl) rfl rfl rfl ?_
                  refine WL_rd (Rd_ext0 rfl) rfl rfl rfl ?_
                  refine WL_rd (Rd_ext1 rfl) rfl rfl rfl ?_
                  refine WL_ac (Ac_allocW (k := .u8) (w := 8) (m := 32) zr42) rfl rfl rfl ?_
                  rintro _ _ ⟨b22, rfl, rfl⟩
                  refine WL_ac0 (Ac_storeW rfl rfl sz42) rfl rfl ?_
                  rintro _ _ rfl
                  refine WL_rd (Rd_assign rfl) rfl rfl rfl ?_
                  refine WL_end hK83 ?_
                  refine WC_sr fun K84 hK84 => ?_
                  refine WL_rd (Rd_move rfl) rfl rfl rfl ?_
                  refine WL_rd (Rd_not rfl) rfl rfl rfl ?_
                  refine WL_rd (Rd_move rfl) rfl rfl rfl ?_
                  refine WL_rd (Rd_loadW (l := ((KN x.1).getD zD).1) rfl tk42) rfl rfl rfl ?_
                  refine WL_rd (Rd_fieldAddr rfl fo133_1) rfl rfl rfl ?_
                  refine WL_rd (Rd_aU (k := .u8) (l := x.2.1) (Rd_loadg (vs := fD x.2) rfl tk42 (hl := by rw [encND.len]; decide) (hi := eND_dg x)) rfl) rfl rfl rfl ?_
                  refine WL_rd (Rd_isF (Rd_neW rfl rfl ais42) (by rw [hxk]; simp)) rfl rfl rfl ?_
                  refine WL_rd (Rd_pickF rfl rfl) rfl rfl rfl ?_
                  refine WL_end hK84 ?_
                  refine WC_condF rfl ?_
                  refine WC_skip ?_
                  refine Ps_next hK81 ?_
                  refine WC_region ?_
                  refine WL_rd (Rd_addN (j := 1) rfl rfl) rfl rfl rfl ?_
                  refine WL_rd (Rd_move rfl) rfl rfl rfl ?_
                  refine WL_nil ?_
                  refine Ps_wk (by (try simp only [List.cons_append, List.nil_append]); repeat (first | with_reducible exact Wk.nil | refine Wk.cons (by first | rfl | (simp only [List.length_append, List.length_cons, List.length_nil, List.length_replicate, Nat.zero_add]; rfl) | (simp; done)) ?_)) (by (try simp only [List.cons_append, List.nil_append]); first | ((repeat (first | with_reducible exact Sub.refl | with_reducible apply Sub.cons Ext.here | with_reducible apply Sub.tail)); done) | (repeat (first | with_reducible exact Sub.refl | with_reducible exact Sub.nil | (with_reducible apply Sub.cons; · (repeat (first | with_reducible exact Ext.here | with_reducible apply Ext.there))) | with_reducible apply Sub.tail))) (hK78 (j + 1) (by omega) (by omega))
                · try simp only [decide_eq_true_eq, decide_eq_false_iff_not, Bool.not_eq_true', Bool.not_eq_false', Bool.not_eq_true, Bool.not_eq_false, Int.not_lt, Int.not_le, Nat.not_lt, Nat.not_le, Decidable.not_not, ne_eq] at hc7
                  refine WC_exit ?_
                  refine Ps_next hK58 ?_
                  refine WC_region ?_
                  refine WL_rd (Rd_addN (j := 1) rfl rfl) rfl rfl rfl ?_
                  refine WL_rd (Rd_move rfl) rfl rfl rfl ?_
                  refine WL_nil ?_
                  refine Ps_wk (by (try simp only [List.cons_append, List.nil_append]); repeat (first | with_reducible exact Wk.nil | refine Wk.cons (by first | rfl | (simp only [List.length_append, List.length_cons, List.length_nil, List.length_replicate, Nat.zero_add]; rfl) | (simp; done)) ?_)) (by (try simp only [List.cons_append, List.nil_append]); first | ((repeat (first | with_reducible exact Sub.refl | with_reducible apply Sub.cons Ext.here | with_reducible apply Sub.tail)); done) | (repeat (first | with_reducible exact Sub.refl | with_reducible exact Sub.nil | (with_reducible apply Sub.cons; · (repeat (first | with_reducible exact Ext.here | with_reducible apply Ext.there))) | with_reducible apply Sub.tail))) (hK55 ⟨k + 1, KN⟩ (⟨by (try dsimp only); omega, hs', hl', hn'⟩) (by (try dsimp only); omega))
            · try simp only [decide_eq_true_eq, decide_eq_false_iff_not, Bool.not_eq_true', Bool.not_eq_false', Bool.not_eq_true, Bool.not_eq_false, Int.not_lt, Int.not_le, Nat.not_lt, Nat.not_le, Decidable.not_not, ne_eq] at hc6
              refine WC_skip ?_
              refine Ps_next hK58 ?_
              refine WC_region ?_
              refine WL_rd (Rd_addN (j := 1) rfl rfl) rfl rfl rfl ?_
              refine WL_rd (Rd_move rfl) rfl rfl rfl ?_
              refine WL_nil ?_
              refine Ps_wk (by (try simp only [List.cons_append, List.nil_append]); repeat (first | with_reducible exact Wk.nil | refine Wk.cons (by first | rfl | (simp only [List.length_append, List.length_cons, List.length_nil, List.length_replicate, Nat.zero_add]; rfl) | (simp; done)) ?_)) (by (try simp only [List.cons_append, List.nil_append]); first | ((repeat (first | with_reducible exact Sub.refl | with_reducible apply Sub.cons Ext.here | with_reducible apply Sub.tail)); done) | (repeat (first | with_reducible exact Sub.refl | with_reducible exact Sub.nil | (with_reducible apply Sub.cons; · (repeat (first | with_reducible exact Ext.here | with_reducible apply Ext.there))) | with_reducible apply Sub.tail))) (hK55 ⟨k + 1, KN⟩ (⟨by (try dsimp only); omega, hs', hl', hn'⟩) (by (try dsimp only); omega))
      · try simp only [decide_eq_true_eq, decide_eq_false_iff_not, Bool.not_eq_true', Bool.not_eq_false', Bool.not_eq_true, Bool.not_eq_false, Int.not_lt, Int.not_le, Nat.not_lt, Nat.not_le, Decidable.not_not, ne_eq] at hc2
        refine WC_exit ?_
        refine Ps_next hK53 ?_
        refine WC_seq fun K85 hK85 => ?_
        refine WC_sr fun K86 hK86 => ?_
        refine WL_rd (Rd_move rfl) rfl rfl rfl ?_
        refine WL_rd (Rd_move rfl) rfl rfl rfl ?_
        refine WL_ac (Ac_call cf90 rfl (hs := sound_ct (pb := pb) (m := m) (fb := fb) (mf := mf) (n := n) (K := Kc) (F1 := (newK n root)) (hsd := hnc))) rfl rfl rfl ?_
        rintro _ _ ⟨⟨⟩, rfl, hA⟩
        simp only [List.cons_append, List.nil_append] at hA
        replace hA := hA.symm
        subst hA
        refine WL_rd (Rd_not rfl) rfl rfl rfl ?_
        refine WL_rd (Rd_move rfl) rfl rfl rfl ?_
        refine WL_ac (Ac_call cf73 rfl (hs := awake_ct)) rfl rfl rfl ?_
        rintro _ _ ⟨⟨⟩, rfl, hA⟩
        simp only [List.cons_append, List.nil_append] at hA
        replace hA := hA.symm
        subst hA
        refine WL_rd (Rd_not rfl) rfl rfl rfl ?_
        refine WL_rd (Rd_pickF rfl rfl) rfl rfl rfl ?_
        refine WL_end hK86 ?_
        refine WC_condF rfl ?_
        refine WC_skip ?_
        refine Ps_next hK85 ?_
        refine WC_seq fun K87 hK87 => ?_
        refine WC_sr fun K88 hK88 => ?_
        refine WL_rd (Rd_assign rfl) rfl rfl rfl ?_
        refine WL_end hK88 ?_
        refine WC_block ?_
        refine WC_loopK (σ := Nat) (fun i => [(24, .int .i64 ((i : Nat) : Int))]) (fun i => []) (fun i => i ≤ n) (fun i => n - i) (0) [0, 4, 7] (by repeat (first | exact Kep.nil | apply Kep.drop rfl | apply Kep.keep rfl)) (by (try dsimp only); repeat (first | with_reducible exact Gv.nil | (with_reducible apply Gv.cons; · (repeat (first | with_reducible exact Ext.here | with_reducible apply Ext.there))))) ?_ ?_ Sub.refl ?_
        · exact Nat.zero_le _
        · (try dsimp only); exact (Wk.cons (by first | rfl | (simp only [List.length_append, List.length_cons, List.length_nil, List.length_replicate, Nat.zero_add]; rfl) | (simp; done)) Wk.nil)
        · rintro i hi K89 hK89
          simp only [List.cons_append, List.nil_append]
          refine WC_seq fun K90 hK90 => ?_
          refine WC_sr fun K91 hK91 => ?_
          refine WL_rd (Rd_move rfl) rfl rfl rfl ?_
          refine WL_rd (Rd_move rfl) rfl rfl rfl ?_
          refine WL_rd (Rd_lssN rfl rfl) rfl rfl rfl ?_
          refine WL_end hK91 ?_
          refine WC_cond rfl (fun hc10 => ?_) (fun hc10 => ?_)
          · try simp only [decide_eq_true_eq, decide_eq_false_iff_not, Bool.not_eq_true', Bool.not_eq_false', Bool.not_eq_true, Bool.not_eq_false, Int.not_lt, Int.not_le, Nat.not_lt, Nat.not_le, Decidable.not_not, ne_eq] at hc10
            have hlb : lfB n ((i : Nat) : Int) = true := lfB_t.2 ⟨by omega, by omega⟩
            have hce : chE n Kc ((i : Nat) : Int) = 0 ↔ (Kc (((wdM n) : Int) + ((i : Nat) : Int))).isSome = true := by unfold chE; rw [if_pos hlb]; split <;> simp_all
            have hce0 : decide (chE n Kc ((i : Nat) : Int) = 0) = (Kc (((wdM n) : Int) + ((i : Nat) : Int))).isSome := by rw [Bool.eq_iff_iff, decide_eq_true_iff]; exact hce
            have hdw := Dg_len ((Kc (((wdM n) : Int) + ((i : Nat) : Int))).getD zD)
            refine WC_skip ?_
            refine Ps_next hK90 ?_
            refine WC_seq fun K92 hK92 => ?_
            refine WC_block ?_
            refine WC_sr fun K93 hK93 => ?_
            refine WL_rd (Rd_move rfl) rfl rfl rfl ?_
            refine WL_rd (Rd_move rfl) rfl rfl rfl ?_
            refine WL_ac (Ac_call cf84 rfl (hs := pLeaf_ct (pb := pb) (m := m) (n := n) (w := (wdM n)) (Kn := Kc) (i := ((i : Nat) : Int)))) rfl rfl rfl ?_
            rintro _ _ ⟨⟨⟩, rfl, hA⟩
            simp only [List.cons_append, List.nil_append] at hA
            replace hA := hA.symm
            subst hA
            rw [show lfK n (wdM n) Kc ((i : Nat) : Int) = Kc (((wdM n) : Int) + ((i : Nat) : Int)) from by unfold lfK; rw [if_pos hlb]]
            refine WL_rd (Rd_move rfl) rfl rfl rfl ?_
            refine WL_rd (Rd_ext0 rfl) rfl rfl rfl ?_
            refine WL_rd (Rd_ext1 rfl) rfl rfl rfl ?_
            refine WL_ac (Ac_allocW (k := .u8) (w := 8) (m := 32) zr42) rfl rfl rfl ?_
            rintro _ _ ⟨b25, rfl, rfl⟩
            refine WL_ac0 (Ac_storeW rfl rfl sz42) rfl rfl ?_
            rintro _ _ rfl
            refine WL_rd (Rd_assign rfl) rfl rfl rfl ?_
            refine WL_end hK93 ?_
            refine WC_sr fun K94 hK94 => ?_
            refine WL_rd (Rd_move rfl) rfl rfl rfl ?_
            refine WL_rd (Rd_move rfl) rfl rfl rfl ?_
            refine WL_ac (Ac_call cf88 rfl (hs := pChain_ct (pb := pb) (m := m) (n := n) (w := (wdM n)) (Kn := Kc) (i0 := ((i : Nat) : Int)) (hw := rfl) (h1 := h1) (h2 := h2))) rfl rfl rfl ?_
            rintro _ _ ⟨⟨ca, cc⟩, rfl, hA⟩
            simp only [List.cons_append, List.nil_append] at hA
            replace hA := hA.symm
            subst hA
            refine WL_rd (Rd_move rfl) rfl rfl rfl ?_
            refine WL_rd (Rd_ext0 rfl) rfl rfl rfl ?_
            refine WL_rd (Rd_ext1 rfl) rfl rfl rfl ?_
            refine WL_rd (Rd_assign rfl) rfl rfl rfl ?_
            refine WL_rd (Rd_assign rfl) rfl rfl rfl ?_
            refine WL_end hK94 ?_
            refine WC_sr fun K95 hK95 => ?_
            refine WL_rd (Rd_move rfl) rfl rfl rfl ?_
            refine WL_rd (Rd_move rfl) rfl rfl rfl ?_
            refine WL_rd (Rd_eqlN (j := 0) rfl rfl) rfl rfl rfl ?_
            refine WL_rd (Rd_isF (Rd_bne rfl rfl ud4) (by rw [hce0]; simp)) rfl rfl rfl ?_
            refine WL_rd (Rd_move rfl) rfl rfl rfl ?_
            refine WL_rd (Rd_move rfl) rfl rfl rfl ?_
            refine WL_rd (Rd_move rfl) rfl rfl rfl ?_
            refine WL_bool 180 rfl (fun hg96 => ?_) (fun hg96 => ?_)
            · try simp only [decide_eq_true_eq, decide_eq_false_iff_not, Bool.not_eq_true', Bool.not_eq_false', Bool.not_eq_true, Bool.not_eq_false, Int.not_lt, Int.not_le, Nat.not_lt, Nat.not_le, Decidable.not_not, ne_eq] at hg96
              have q9 := hg96
              have hcu := leaf_up h1 h2 (by omega) hnc hlc q9
              have hcn : (chN n Kc ((i : Nat) : Int)) = chF Kc ((wdM n) + i) := by unfold chN; rw [if_pos (hce.2 q9), Int.toNat_natCast]
              refine WL_rd (Rd_move rfl) rfl rfl rfl ?_
              refine WL_rd (Rd_move rfl) rfl rfl rfl ?_
              refine WL_rd (Rd_loadW rfl tk42) rfl rfl rfl ?_
              refine WL_rd (Rd_loadW rfl tk42) rfl rfl rfl ?_
              refine WL_rd (Rd_move rfl) rfl rfl rfl ?_
              refine WL_fact (fun w h => arr_facts (a := ca) (cap := cc) (e := 33) (T := 133) (f := eND) (l := (chN n Kc ((i : Nat) : Int))) (by repeat (first | with_reducible exact Has.here | with_reducible refine Has.there ?_)) h) (fun hcf => ?_)
              have hSc : Sv [arr ca cc 33 133 eND (chN n Kc ((i : Nat) : Int))] (sl ca (chN n Kc ((i : Nat) : Int)).length cc) 33 eND (chN n Kc ((i : Nat) : Int)) (ca.map fun g => ⟨g, 0, none⟩) cc := Sv_own' encND hcf.1 hcf.2
              refine WL_ac (Ac_call cf91 rfl (hs := climbs_ct (n := n) (i := i) (d := ((Kc (((wdM n) : Int) + ((i : Nat) : Int))).getD zD)) (root := root) (ns := (chN n Kc ((i : Nat) : Int))) (hS := hSc) (he := by rw [hcn]; exact hcu.1) (hr := by rw [hcn]; exact hcu.2) (hll := by rw [hcn, chF_len]; have := chL_lenle ((wdM n) + i); omega))) rfl rfl rfl ?_
              rintro _ _ ⟨⟨⟩, rfl, hA⟩
              simp only [List.cons_append, List.nil_append] at hA
              replace hA := hA.symm
              subst hA
              refine WL_rd (Rd_not rfl) rfl rfl rfl ?_
              refine WL_rd (Rd_pickT rfl rfl) rfl rfl rfl ?_
              refine WL_rd (Rd_pickF rfl rfl) rfl rfl rfl ?_
              refine WL_end hK95 ?_
              refine WC_condF rfl ?_
              refine WC_skip ?_
              refine Ps_next hK92 ?_
              refine WC_region ?_
              refine WL_rd (Rd_move rfl) rfl rfl rfl ?_
              refine WL_rd (Rd_addN (j := 1) rfl rfl) rfl rfl rfl ?_
              refine WL_rd (Rd_assign rfl) rfl rfl rfl ?_
              refine WL_nil ?_
              refine Ps_wk (by (try simp only [List.cons_append, List.nil_append]); repeat (first | with_reducible exact Wk.nil | refine Wk.cons (by first | rfl | (simp only [List.length_append, List.length_cons, List.length_nil, List.length_replicate, Nat.zero_add]; rfl) | (simp; done)) ?_)) (by (try simp only [List.cons_append, List.nil_append]); first | ((repeat (first | with_reducible exact Sub.refl | with_reducible apply Sub.cons Ext.here | with_reducible apply Sub.tail)); done) | (repeat (first | with_reducible exact Sub.refl | with_reducible exact Sub.nil | (with_reducible apply Sub.cons; · (repeat (first | with_reducible exact Ext.here | with_reducible apply Ext.there))) | with_reducible apply Sub.tail))) (hK89 (i + 1) (by omega) (by omega))
            · try simp only [decide_eq_true_eq, decide_eq_false_iff_not, Bool.not_eq_true', Bool.not_eq_false', Bool.not_eq_true, Bool.not_eq_false, Int.not_lt, Int.not_le, Nat.not_lt, Nat.not_le, Decidable.not_not, ne_eq] at hg96
              refine WL_skip rfl rfl rfl ?_
              refine WL_skip rfl rfl rfl ?_
              refine WL_skip rfl rfl rfl ?_
              refine WL_skip rfl rfl rfl ?_
              refine WL_skip rfl rfl rfl ?_
              refine WL_fact (fun w h => arr_facts (a := ca) (cap := cc) (e := 33) (T := 133) (f := eND) (l := (chN n Kc ((i : Nat) : Int))) (by repeat (first | with_reducible exact Has.here | with_reducible refine Has.there ?_)) h) (fun hcf => ?_)
              have hSc : Sv [arr ca cc 33 133 eND (chN n Kc ((i : Nat) : Int))] (sl ca (chN n Kc ((i : Nat) : Int)).length cc) 33 eND (chN n Kc ((i : Nat) : Int)) (ca.map fun g => ⟨g, 0, none⟩) cc := Sv_own' encND hcf.1 hcf.2
              refine WL_skip rfl rfl rfl ?_
              refine WL_skip rfl rfl rfl ?_
              refine WL_rd (Rd_pickF rfl rfl) rfl rfl rfl ?_
              refine WL_rd (Rd_pickF rfl rfl) rfl rfl rfl ?_
              refine WL_end hK95 ?_
              refine WC_condF rfl ?_
              refine WC_skip ?_
              refine Ps_next hK92 ?_
              refine WC_region ?_
              refine WL_rd (Rd_move rfl) rfl rfl rfl ?_
              refine WL_rd (Rd_addN (j := 1) rfl rfl) rfl rfl rfl ?_
              refine WL_rd (Rd_assign rfl) rfl rfl rfl ?_
              refine WL_nil ?_
              refine Ps_wk (by (try simp only [List.cons_append, List.nil_append]); repeat (first | with_reducible exact Wk.nil | refine Wk.cons (by first | rfl | (simp only [List.length_append, List.length_cons, List.length_nil, List.length_replicate, Nat.zero_add]; rfl) | (simp; done)) ?_)) (by (try simp only [List.cons_append, List.nil_append]); first | ((repeat (first | with_reducible exact Sub.refl | with_reducible apply Sub.cons Ext.here | with_reducible apply Sub.tail)); done) | (repeat (first | with_reducible exact Sub.refl | with_reducible exact Sub.nil | (with_reducible apply Sub.cons; · (repeat (first | with_reducible exact Ext.here | with_reducible apply Ext.there))) | with_reducible apply Sub.tail))) (hK89 (i + 1) (by omega) (by omega))
          · try simp only [decide_eq_true_eq, decide_eq_false_iff_not, Bool.not_eq_true', Bool.not_eq_false', Bool.not_eq_true, Bool.not_eq_false, Int.not_lt, Int.not_le, Nat.not_lt, Nat.not_le, Decidable.not_not, ne_eq] at hc10
            refine WC_exit ?_
            refine Ps_next hK87 ?_
            refine WC_sr fun K97 hK97 => ?_
            refine WL_rd (Rd_assign rfl) rfl rfl rfl ?_
            refine WL_end hK97 ?_
            refine WC_ret ?_
            exact hret.go () (Rs1 rfl rfl) (hs := by simp only [List.cons_append, List.nil_append]; first | ((repeat (first | with_reducible exact Sub.refl | with_reducible apply Sub.cons Ext.here | with_reducible apply Sub.tail)); done) | (repeat (first | with_reducible exact Sub.refl | with_reducible exact Sub.nil | (with_reducible apply Sub.cons; · (repeat (first | with_reducible exact Ext.here | with_reducible apply Ext.there))) | with_reducible apply Sub.tail)))
end Go.Proofs.Ytgkpbeikcpecbaa
