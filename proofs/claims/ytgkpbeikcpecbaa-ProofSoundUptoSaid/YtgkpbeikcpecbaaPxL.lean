/-
  Contracts of functions that the claim reaches, or the logic and the plain laws that they rest on, or the row over them. (Conditions: none beyond the statement.)
-/
import Derived.Test.YtgkpbeikcpecbaaPxK
import Derived.Test.YtgkpbeikcpecbaaPfM
set_option linter.all false
namespace Go.Proofs.Ytgkpbeikcpecbaa
open Go.RowKit Go.SL Go.ShM
set_option maxHeartbeats 1000000
set_option maxRecDepth 20000
set_option linter.all false

theorem sound_ct {pb m fb mf n : Nat} {K F1 : KM} (hsd : Snd (wdM n) F1 K) (hw : (wdM n) ≤ 100000 := by omega) : Ct Try.prog 90 [.pointer (some ⟨pb, 0, none⟩), .pointer (some ⟨fb, 0, none⟩)] [cl pb 161 [.int .i64 ((n : Nat) : Int), .int .i64 (((wdM n) : Nat) : Int), .map (some m)], mpI m (kv K), cl fb 161 [.int .i64 ((n : Nat) : Int), .int .i64 (((wdM n) : Nat) : Int), .map (some mf)], mpI mf (kv F1)] (fun _ : Unit => .bool true) (fun _ => [cl pb 161 [.int .i64 ((n : Nat) : Int), .int .i64 (((wdM n) : Nat) : Int), .map (some m)], mpI m (kv K), cl fb 161 [.int .i64 ((n : Nat) : Int), .int .i64 (((wdM n) : Nat) : Int), .map (some mf)], mpI mf (kv F1)]) := by
  refine Ct_body (n := 72) Try.func90 rfl rfl rfl fun F w0 Q hret hnorm hp => ?_
  change WC _ _ _ _ _ _ _ (_ :: _ :: _ :: _ :: F)
  refine WC_sr fun K1 hK1 => ?_
  refine WL_rd (Rd_assign rfl) rfl rfl rfl ?_
  refine WL_end hK1 ?_
  refine WC_seq fun K2 hK2 => ?_
  refine WC_sr fun K3 hK3 => ?_
  refine WL_rd (Rd_assign rfl) rfl rfl rfl ?_
  refine WL_end hK3 ?_
  refine WC_block ?_
  refine WC_loopK (σ := Nat) (fun t => [(5, .int .i64 ((t : Nat) : Int))]) (fun t => []) (fun t => 2 ≤ t) (fun t => 2 * (wdM n) - t) (2) [0, 1] (by repeat (first | exact Kep.nil | apply Kep.drop rfl | apply Kep.keep rfl)) (by (try dsimp only); repeat (first | with_reducible exact Gv.nil | (with_reducible apply Gv.cons; · (repeat (first | with_reducible exact Ext.here | with_reducible apply Ext.there))))) ?_ ?_ Sub.refl ?_
  · exact Nat.le_refl _
  · (try dsimp only); exact (Wk.cons (by first | rfl | (simp only [List.length_append, List.length_cons, List.length_nil, List.length_replicate, Nat.zero_add]; rfl) | (simp; done)) Wk.nil)
  · rintro t ht K4 hK4
    simp only [List.cons_append, List.nil_append]
    have hda := Dg_len ((K (((t : Nat)) : Int)).getD zD)
    have hdb := Dg_len ((F1 (((t : Nat)) : Int)).getD zD)
    have hdc := Dg_len ((K (((t ^^^ 1 : Nat)) : Int)).getD zD)
    have hdd := Dg_len ((K (((t / 2 : Nat)) : Int)).getD zD)
    refine WC_seq fun K5 hK5 => ?_
    refine WC_sr fun K6 hK6 => ?_
    refine WL_rd (Rd_move rfl) rfl rfl rfl ?_
    refine WL_rd (Rd_move rfl) rfl rfl rfl ?_
    refine WL_ac (Ac_call cf75 rfl (hs := pWidth_ct (pb := pb) (m := m) (n := n) (w := (wdM n)) (Kn := K))) rfl rfl rfl ?_
    rintro _ _ ⟨⟨⟩, rfl, hA⟩
    simp only [List.cons_append, List.nil_append] at hA
    replace hA := hA.symm
    subst hA
    refine WL_rd (Rd_mulN (i := 2) rfl rfl) rfl rfl rfl ?_
    refine WL_rd (Rd_lssN rfl rfl) rfl rfl rfl ?_
    refine WL_end hK6 ?_
    refine WC_cond rfl (fun hc0 => ?_) (fun hc0 => ?_)
    · try simp only [decide_eq_true_eq, decide_eq_false_iff_not, Bool.not_eq_true', Bool.not_eq_false', Bool.not_eq_true, Bool.not_eq_false, Int.not_lt, Int.not_le, Nat.not_lt, Nat.not_le, Decidable.not_not, ne_eq] at hc0
      refine WC_skip ?_
      refine Ps_next hK5 ?_
      refine WC_seq fun K7 hK7 => ?_
      refine WC_block ?_
      refine WC_sr fun K8 hK8 => ?_
      refine WL_rd (Rd_move rfl) rfl rfl rfl ?_
      refine WL_rd (Rd_move rfl) rfl rfl rfl ?_
      refine WL_ac (Ac_call cf76 rfl (hs := pKnown_ct (pb := pb) (m := m) (n := n) (w := (wdM n)) (Kn := K) (i := (((t : Nat)) : Int)))) rfl rfl rfl ?_
      rintro _ _ ⟨⟨⟩, rfl, hA⟩
      simp only [List.cons_append, List.nil_append] at hA
      replace hA := hA.symm
      subst hA
      refine WL_rd (Rd_move rfl) rfl rfl rfl ?_
      refine WL_rd (Rd_ext0 rfl) rfl rfl rfl ?_
      refine WL_rd (Rd_ext1 rfl) rfl rfl rfl ?_
      refine WL_ac (Ac_allocW (k := .u8) (w := 8) (m := 32) zr42) rfl rfl rfl ?_
      rintro _ _ ⟨b6, rfl, rfl⟩
      refine WL_ac0 (Ac_storeW rfl rfl sz42) rfl rfl ?_
      rintro _ _ rfl
      refine WL_rd (Rd_assign rfl) rfl rfl rfl ?_
      refine WL_end hK8 ?_
      refine WC_sr fun K9 hK9 => ?_
      refine WL_rd (Rd_move rfl) rfl rfl rfl ?_
      refine WL_rd (Rd_move rfl) rfl rfl rfl ?_
      refine WL_ac (Ac_call cf76 rfl (hs := pKnown_ct (pb := fb) (m := mf) (n := n) (w := (wdM n)) (Kn := F1) (i := (((t : Nat)) : Int)))) rfl rfl rfl ?_
      rintro _ _ ⟨⟨⟩, rfl, hA⟩
      simp only [List.cons_append, List.nil_append] at hA
      replace hA := hA.symm
      subst hA
      refine WL_rd (Rd_move rfl) rfl rfl rfl ?_
      refine WL_rd (Rd_ext0 rfl) rfl rfl rfl ?_
      refine WL_rd (Rd_ext1 rfl) rfl rfl rfl ?_
      refine WL_ac (Ac_allocW (k := .u8) (w := 8) (m := 32) zr42) rfl rfl rfl ?_
      rintro _ _ ⟨b8, rfl, rfl⟩
      refine WL_ac0 (Ac_storeW rfl rfl sz42) rfl rfl ?_
      rintro _ _ rfl
      refine WL_rd (Rd_assign rfl) rfl rfl rfl ?_
      refine WL_end hK9 ?_
      refine WC_seq fun K10 hK10 => ?_
      refine WC_sr fun K11 hK11 => ?_
      refine WL_rd (Rd_move rfl) rfl rfl rfl ?_
      refine WL_rd (Rd_not rfl) rfl rfl rfl ?_
      refine WL_rd (Rd_move rfl) rfl rfl rfl ?_
      refine WL_bool 37 rfl (fun hg12 => ?_) (fun hg12 => ?_)
      · try simp only [decide_eq_true_eq, decide_eq_false_iff_not, Bool.not_eq_true', Bool.not_eq_false', Bool.not_eq_true, Bool.not_eq_false, Int.not_lt, Int.not_le, Nat.not_lt, Nat.not_le, Decidable.not_not, ne_eq] at hg12
        have q1 := hg12
        refine WL_skip rfl rfl rfl ?_
        refine WL_rd (Rd_pickT rfl rfl) rfl rfl rfl ?_
        refine WL_end hK11 ?_
        refine WC_condT rfl ?_
        refine WC_exit ?_
        refine Ps_next hK7 ?_
        refine WC_region ?_
        refine WL_rd (Rd_move rfl) rfl rfl rfl ?_
        refine WL_rd (Rd_addN (j := 1) rfl rfl) rfl rfl rfl ?_
        refine WL_rd (Rd_assign rfl) rfl rfl rfl ?_
        refine WL_nil ?_
        refine Ps_wk (by (try simp only [List.cons_append, List.nil_append]); repeat (first | with_reducible exact Wk.nil | refine Wk.cons (by first | rfl | (simp only [List.length_append, List.length_cons, List.length_nil, List.length_replicate, Nat.zero_add]; rfl) | (simp; done)) ?_)) (by (try simp only [List.cons_append, List.nil_append]); first | ((repeat (first | with_reducible exact Sub.refl | with_reducible apply Sub.cons Ext.here | with_reducible apply Sub.tail)); done) | (repeat (first | with_reducible exact Sub.refl | with_reducible exact Sub.nil | (with_reducible apply Sub.cons; · (repeat (first | with_reducible exact Ext.here | with_reducible apply Ext.there))) | with_reducible apply Sub.tail))) (hK4 (t + 1) (by omega) (by omega))
      · try simp only [decide_eq_true_eq, decide_eq_false_iff_not, Bool.not_eq_true', Bool.not_eq_false', Bool.not_eq_true, Bool.not_eq_false, Int.not_lt, Int.not_le, Nat.not_lt, Nat.not_le, Decidable.not_not, ne_eq] at hg12
        have q1 := hg12
        refine WL_rd (Rd_move rfl) rfl rfl rfl ?_
        refine WL_rd (Rd_pickF rfl rfl) rfl rfl rfl ?_
        refine WL_end hK11 ?_
        refine WC_cond rfl (fun hc1 => ?_) (fun hc1 => ?_)
        · try simp only [decide_eq_true_eq, decide_eq_false_iff_not, Bool.not_eq_true', Bool.not_eq_false', Bool.not_eq_true, Bool.not_eq_false, Int.not_lt, Int.not_le, Nat.not_lt, Nat.not_le, Decidable.not_not, ne_eq] at hc1
          refine WC_exit ?_
          refine Ps_next hK7 ?_
          refine WC_region ?_
          refine WL_rd (Rd_move rfl) rfl rfl rfl ?_
          refine WL_rd (Rd_addN (j := 1) rfl rfl) rfl rfl rfl ?_
          refine WL_rd (Rd_assign rfl) rfl rfl rfl ?_
          refine WL_nil ?_
          refine Ps_wk (by (try simp only [List.cons_append, List.nil_append]); repeat (first | with_reducible exact Wk.nil | refine Wk.cons (by first | rfl | (simp only [List.length_append, List.length_cons, List.length_nil, List.length_replicate, Nat.zero_add]; rfl) | (simp; done)) ?_)) (by (try simp only [List.cons_append, List.nil_append]); first | ((repeat (first | with_reducible exact Sub.refl | with_reducible apply Sub.cons Ext.here | with_reducible apply Sub.tail)); done) | (repeat (first | with_reducible exact Sub.refl | with_reducible exact Sub.nil | (with_reducible apply Sub.cons; · (repeat (first | with_reducible exact Ext.here | with_reducible apply Ext.there))) | with_reducible apply Sub.tail))) (hK4 (t + 1) (by omega) (by omega))
        · try simp only [decide_eq_true_eq, decide_eq_false_iff_not, Bool.not_eq_true', Bool.not_eq_false', Bool.not_eq_true, Bool.not_eq_false, Int.not_lt, Int.not_le, Nat.not_lt, Nat.not_le, Decidable.not_not, ne_eq] at hc1
          have hm := hsd t ht (by omega) q1 (knone (by simpa using hc1))
          refine WC_skip ?_
          refine Ps_next hK10 ?_
          refine WC_sr fun K13 hK13 => ?_
          refine WL_rd (Rd_move rfl) rfl rfl rfl ?_
          refine WL_rd (Rd_move rfl) rfl rfl rfl ?_
          refine WL_rd (Rd_xorN (i := t) (j := 1) (by omega) (by omega) rfl rfl) rfl rfl rfl ?_
          refine WL_ac (Ac_call cf76 rfl (hs := pKnown_ct (pb := pb) (m := m) (n := n) (w := (wdM n)) (Kn := K) (i := (((t ^^^ 1 : Nat)) : Int)))) rfl rfl rfl ?_
          rintro _ _ ⟨⟨⟩, rfl, hA⟩
          simp only [List.cons_append, List.nil_append] at hA
          replace hA := hA.symm
          subst hA
          rw [show (K (((t ^^^ 1 : Nat)) : Int)).isSome = true from hm.bro]
          refine WL_rd (Rd_move rfl) rfl rfl rfl ?_
          refine WL_rd (Rd_ext0 rfl) rfl rfl rfl ?_
          refine WL_rd (Rd_ext1 rfl) rfl rfl rfl ?_
          refine WL_ac (Ac_allocW (k := .u8) (w := 8) (m := 32) zr42) rfl rfl rfl ?_
          rintro _ _ ⟨b10, rfl, rfl⟩
          refine WL_ac0 (Ac_storeW rfl rfl sz42) rfl rfl ?_
          rintro _ _ rfl
          refine WL_rd (Rd_assign rfl) rfl rfl rfl ?_
          refine WL_end hK13 ?_
          refine WC_sr fun K14 hK14 => ?_
          refine WL_rd (Rd_move rfl) rfl rfl rfl ?_
          refine WL_rd (Rd_move rfl) rfl rfl rfl ?_
          refine WL_rd (Rd_quoN (j := 2) rfl rfl) rfl rfl rfl ?_
          refine WL_ac (Ac_call cf76 rfl (hs := pKnown_ct (pb := pb) (m := m) (n := n) (w := (wdM n)) (Kn := K) (i := (((t / 2 : Nat)) : Int)))) rfl rfl rfl ?_
          rintro _ _ ⟨⟨⟩, rfl, hA⟩
          simp only [List.cons_append, List.nil_append] at hA
          replace hA := hA.symm
          subst hA
          rw [show (K (((t / 2 : Nat)) : Int)).isSome = true from hm.is.2.2.1]
          refine WL_rd (Rd_move rfl) rfl rfl rfl ?_
          refine WL_rd (Rd_ext0 rfl) rfl rfl rfl ?_
          refine WL_rd (Rd_ext1 rfl) rfl rfl rfl ?_
          refine WL_ac (Ac_allocW (k := .u8) (w := 8) (m := 32) zr42) rfl rfl rfl ?_
          rintro _ _ ⟨b12, rfl, rfl⟩
          refine WL_ac0 (Ac_storeW rfl rfl sz42) rfl rfl ?_
          rintro _ _ rfl
          refine WL_rd (Rd_assign rfl) rfl rfl rfl ?_
          refine WL_end hK14 ?_
          refine WC_seq fun K15 hK15 => ?_
          refine WC_sr fun K16 hK16 => ?_
          refine WL_rd (Rd_move rfl) rfl rfl rfl ?_
          refine WL_rd (Rd_not rfl) rfl rfl rfl ?_
          refine WL_rd (Rd_move rfl) rfl rfl rfl ?_
          refine WL_rd (Rd_move rfl) rfl rfl rfl ?_
          refine WL_rd (Rd_not rfl) rfl rfl rfl ?_
          refine WL_rd (Rd_pickF rfl rfl) rfl rfl rfl ?_
          refine WL_end hK16 ?_
          refine WC_condF rfl ?_
          refine WC_skip ?_
          refine Ps_next hK15 ?_
          refine WC_sr fun K17 hK17 => ?_
          refine WL_rd (Rd_loadW rfl tk42) rfl rfl rfl ?_
          refine WL_ac (Ac_allocW (k := .u8) (w := 8) (m := 32) zr42) rfl rfl rfl ?_
          rintro _ _ ⟨b14, rfl, rfl⟩
          refine WL_ac0 (Ac_storeW rfl rfl sz42) rfl rfl ?_
          rintro _ _ rfl
          refine WL_end hK17 ?_
          refine WC_sr fun K18 hK18 => ?_
          refine WL_rd (Rd_loadW rfl tk42) rfl rfl rfl ?_
          refine WL_ac (Ac_allocW (k := .u8) (w := 8) (m := 32) zr42) rfl rfl rfl ?_
          rintro _ _ ⟨b15, rfl, rfl⟩
          refine WL_ac0 (Ac_storeW rfl rfl sz42) rfl rfl ?_
          rintro _ _ rfl
          refine WL_end hK18 ?_
          refine WC_seq fun K19 hK19 => ?_
          refine WC_sr fun K20 hK20 => ?_
          refine WL_rd (Rd_move rfl) rfl rfl rfl ?_
          refine WL_rd (Rd_remN (j := 2) rfl rfl) rfl rfl rfl ?_
          refine WL_rd (Rd_eqlN (j := 1) rfl rfl) rfl rfl rfl ?_
          refine WL_end hK20 ?_
          refine WC_cond rfl (fun hc3 => ?_) (fun hc3 => ?_)
          · try simp only [decide_eq_true_eq, decide_eq_false_iff_not, Bool.not_eq_true', Bool.not_eq_false', Bool.not_eq_true, Bool.not_eq_false, Int.not_lt, Int.not_le, Nat.not_lt, Nat.not_le, Decidable.not_not, ne_eq] at hc3
            have hc3' := hc3
            refine WC_sr fun K21 hK21 => ?_
            refine WL_rd (Rd_loadW rfl tk42) rfl rfl rfl ?_
            refine WL_ac0 (Ac_storeW rfl rfl sz42) rfl rfl ?_
            rintro _ _ rfl
            refine WL_end hK21 ?_
            refine WC_region ?_
            refine WL_rd (Rd_loadW rfl tk42) rfl rfl rfl ?_
            refine WL_ac0 (Ac_storeW rfl rfl sz42) rfl rfl ?_
            rintro _ _ rfl
            refine WL_nil ?_
            refine Ps_next hK19 ?_
            refine WC_seq fun K22 hK22 => ?_
            refine WC_drawA mix (fun i => ([2, 2, 1, 2, 2] : List Nat).getD i 0) ?_
            refine WJ_tk 0 (Rd_loadW rfl tk42) hp ?_ rfl (by kernel_rfl) rfl rfl rfl
            refine WJ_tk 1 (Rd_loadW rfl tk42) hp ?_ rfl (by kernel_rfl) rfl rfl rfl
            refine WJ_tk 3 (Rd_loadW rfl tk42) hp ?_ rfl (by kernel_rfl) rfl rfl rfl
            refine WJ_all (rs := [2]) (by kernel_rfl) rfl ?_
            refine WI_one ?_
            refine WI_ac rfl (Ac_call cf77 rfl (hs := nodeR_ct (x := ((K (((t ^^^ 1 : Nat)) : Int)).getD zD).1) (y := ((K (((t : Nat)) : Int)).getD zD).1) (hx := Dg_len _) (hy := Dg_len _))) rfl rfl rfl rfl ?_
            rintro _ _ ⟨⟨⟩, rfl, hA⟩
            simp only [List.cons_append, List.nil_append] at hA
            replace hA := hA.symm
            subst hA
            rw [show tagD 6#8 [((K (((t ^^^ 1 : Nat)) : Int)).getD zD).1, ((K (((t : Nat)) : Int)).getD zD).1] = ((K (((t / 2 : Nat)) : Int)).getD zD).1 from congrArg Subtype.val (hm.odd hc3)]
            refine ⟨(fun _ => (by repeat (first | with_reducible exact Sub.refl | with_reducible exact Sub.nil | with_reducible refine Sub.cons (by repeat (first | with_reducible exact Ext.here | with_reducible apply Ext.there)) ?_ | with_reducible refine Sub.tail ?_))), ?_⟩
            refine WJ_takeP 4 rfl (by kernel_rfl) (Rd_isF (Rd_neW rfl rfl ais42)) rfl rfl rfl (hp _ _) ?_
            refine WJ_done (by kernel_rfl) ?_
            refine Ps_next hK22 ?_
            refine WC_condF rfl ?_
            refine WC_skip ?_
            refine Ps_next hK7 ?_
            refine WC_region ?_
            refine WL_rd (Rd_move rfl) rfl rfl rfl ?_
            refine WL_rd (Rd_addN (j := 1) rfl rfl) rfl rfl rfl ?_
            refine WL_rd (Rd_assign rfl) rfl rfl rfl ?_
            refine WL_nil ?_
            refine Ps_wk (by (try simp only [List.cons_append, List.nil_append]); repeat (first | with_reducible exact Wk.nil | refine Wk.cons (by first | rfl | (simp only [List.length_append, List.length_cons, List.length_nil, List.length_replicate, Nat.zero_add]; rfl) | (simp; done)) ?_)) (by (try simp only [List.cons_append, List.nil_append]); first | ((repeat (first | with_reducible exact Sub.refl | with_reducible apply Sub.cons Ext.here | with_reducible apply Sub.tail)); done) | (repeat (first | with_reducible exact Sub.refl | with_reducible exact Sub.nil | (with_reducible apply Sub.cons; · (repeat (first | with_reducible exact Ext.here | with_reducible apply Ext.there))) | with_reducible apply Sub.tail))) (hK4 (t + 1) (by omega) (by omega))
          · try simp only [decide_eq_true_eq, decide_eq_false_iff_not, Bool.not_eq_true', Bool.not_eq_false', Bool.not_eq_true, Bool.not_eq_false, Int.not_lt, Int.not_le, Nat.not_lt, Nat.not_le, Decidable.not_not, ne_eq] at hc3
            refine WC_skip ?_
            refine Ps_next hK19 ?_
            refine WC_seq fun K23 hK23 => ?_
            refine WC_drawA mix (fun i => ([2, 2, 1, 2, 2] : List Nat).getD i 0) ?_
            refine WJ_tk 0 (Rd_loadW rfl tk42) hp ?_ rfl (by kernel_rfl) rfl rfl rfl
            refine WJ_tk 1 (Rd_loadW rfl tk42) hp ?_ rfl (by kernel_rfl) rfl rfl rfl
            refine WJ_tk 3 (Rd_loadW rfl tk42) hp ?_ rfl (by kernel_rfl) rfl rfl rfl
            refine WJ_all (rs := [2]) (by kernel_rfl) rfl ?_
            refine WI_one ?_
            refine WI_ac rfl (Ac_call cf77 rfl (hs := nodeR_ct (x := ((K (((t : Nat)) : Int)).getD zD).1) (y := ((K (((t ^^^ 1 : Nat)) : Int)).getD zD).1) (hx := Dg_len _) (hy := Dg_len _))) rfl rfl rfl rfl ?_
            rintro _ _ ⟨⟨⟩, rfl, hA⟩
            simp only [List.cons_append, List.nil_append] at hA
            replace hA := hA.symm
            subst hA
            rw [show tagD 6#8 [((K (((t : Nat)) : Int)).getD zD).1, ((K (((t ^^^ 1 : Nat)) : Int)).getD zD).1] = ((K (((t / 2 : Nat)) : Int)).getD zD).1 from congrArg Subtype.val (hm.even hc3)]
            refine ⟨(fun _ => (by repeat (first | with_reducible exact Sub.refl | with_reducible exact Sub.nil | with_reducible refine Sub.cons (by repeat (first | with_reducible exact Ext.here | with_reducible apply Ext.there)) ?_ | with_reducible refine Sub.tail ?_))), ?_⟩
            refine WJ_takeP 4 rfl (by kernel_rfl) (Rd_isF (Rd_neW rfl rfl ais42)) rfl rfl rfl (hp _ _) ?_
            refine WJ_done (by kernel_rfl) ?_
            refine Ps_next hK23 ?_
            refine WC_condF rfl ?_
            refine WC_skip ?_
            refine Ps_next hK7 ?_
            refine WC_region ?_
            refine WL_rd (Rd_move rfl) rfl rfl rfl ?_
            refine WL_rd (Rd_addN (j := 1) rfl rfl) rfl rfl rfl ?_
            refine WL_rd (Rd_assign rfl) rfl rfl rfl ?_
            refine WL_nil ?_
            refine Ps_wk (by (try simp only [List.cons_append, List.nil_append]); repeat (first | with_reducible exact Wk.nil | refine Wk.cons (by first | rfl | (simp only [List.length_append, List.length_cons, List.length_nil, List.length_replicate, Nat.zero_add]; rfl) | (simp; done)) ?_)) (by (try simp only [List.cons_append, List.nil_append]); first | ((repeat (first | with_reducible exact Sub.refl | with_reducible apply Sub.cons Ext.here | with_reducible apply Sub.tail)); done) | (repeat (first | with_reducible exact Sub.refl | with_reducible exact Sub.nil | (with_reducible apply Sub.cons; · (repeat (first | with_reducible exact Ext.here | with_reducible apply Ext.there))) | with_reducible apply Sub.tail))) (hK4 (t + 1) (by omega) (by omega))
    · try simp only [decide_eq_true_eq, decide_eq_false_iff_not, Bool.not_eq_true', Bool.not_eq_false', Bool.not_eq_true, Bool.not_eq_false, Int.not_lt, Int.not_le, Nat.not_lt, Nat.not_le, Decidable.not_not, ne_eq] at hc0
      refine WC_exit ?_
      refine Ps_next hK2 ?_
      refine WC_sr fun K24 hK24 => ?_
      refine WL_rd (Rd_assign rfl) rfl rfl rfl ?_
      refine WL_end hK24 ?_
      refine WC_ret ?_
      exact hret.go () (Rs1 rfl rfl) (hs := by simp only [List.cons_append, List.nil_append]; first | ((repeat (first | with_reducible exact Sub.refl | with_reducible apply Sub.cons Ext.here | with_reducible apply Sub.tail)); done) | (repeat (first | with_reducible exact Sub.refl | with_reducible exact Sub.nil | (with_reducible apply Sub.cons; · (repeat (first | with_reducible exact Ext.here | with_reducible apply Ext.there))) | with_reducible apply Sub.tail)))
end Go.Proofs.Ytgkpbeikcpecbaa
