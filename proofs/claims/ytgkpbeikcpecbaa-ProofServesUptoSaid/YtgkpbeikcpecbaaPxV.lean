/-
  Contracts of functions that the claim reaches, or the logic and the plain laws that they rest on, or the row over them. (Conditions: none beyond the statement.)
-/
import Derived.Test.YtgkpbeikcpecbaaPxS
import Derived.Test.YtgkpbeikcpecbaaPfM
set_option linter.all false
namespace Go.Proofs.Ytgkpbeikcpecbaa
open Go.RowKit Go.SL Go.ShM
set_option maxHeartbeats 1000000
set_option maxRecDepth 20000
set_option linter.all false
theorem ikd5_3 : ikd Try.prog 5 3 = some .i64 := by kernel_rfl
theorem ikd138_3 : ikd Try.prog 138 3 = some .i64 := by kernel_rfl
theorem sz138 : sz Try.prog 138 = some 1 := by kernel_rfl
theorem tk138 : tk Try.prog 138 = some none := by kernel_rfl
theorem ud137 : Try.prog.underlying 137 = some (.slice 138) := by kernel_rfl
theorem erase_take_eq2 {α : Type} {l : List α} {j k : Nat} {a : α} (h : l[j]? = some a) (e : j = k) : (l.take (j + 1)).eraseIdx k = (l.take j).eraseIdx k := by subst e; exact erase_take_eq h

theorem take_nx {α : Type} {l : List α} {j : Nat} {a : α} (h : l[j]? = some a) : l.take j ++ [a] = l.take (j + 1) := by
  obtain ⟨hj, e⟩ := List.getElem?_eq_some_iff.1 h
  rw [List.take_succ_eq_append_getElem hj, e]

theorem Serves_ct {X : Asn} {v v1 : Value} {ls : List Dg} {os : List (BitVec 16)} {lack : BitVec 8} {ao ao1 : Option Addr} {cap2 cap1 : Nat} (hS : Sv [X] v 32 fD ls ao cap2 := by assumption) (hO : Sv [X] v1 1 (eU .u16 (w := 16)) os ao1 cap1 := by assumption) (hln : ls.length ≤ 900000000 := by omega) (hon : os.length ≤ 900000000 := by omega) : Ct Try.prog 21 [v, v1, .int .u8 ((lack.toNat : Nat) : Int)] [X] (fun _ : Unit => .bool true) (fun _ => [X]) := by
  refine Ct_body (n := 197) Try.func21 rfl rfl rfl fun F w0 Q hret hnorm hp => ?_
  change WC _ _ _ _ _ _ _ (_ :: F)
  refine WC_sr fun K1 hK1 => ?_
  refine WL_rd (Rd_assign rfl) rfl rfl rfl ?_
  refine WL_end hK1 ?_
  refine WC_sr fun K2 hK2 => ?_
  refine WL_rd (Rd_move rfl) rfl rfl rfl ?_
  refine WL_ac (Ac_call cf82 rfl (hs := rBuild_ct (X := X) (ls := ls) (hS := hS))) rfl rfl rfl ?_
  rintro _ _ ⟨⟨a31, cap31⟩, rfl, hA⟩
  simp only [List.cons_append, List.nil_append] at hA
  replace hA := hA.symm
  subst hA
  refine WL_rd (Rd_move rfl) rfl rfl rfl ?_
  refine WL_rd (Rd_ext0 rfl) rfl rfl rfl ?_
  refine WL_rd (Rd_ext1 rfl) rfl rfl rfl ?_
  refine WL_rd (Rd_assign rfl) rfl rfl rfl ?_
  refine WL_rd (Rd_assign rfl) rfl rfl rfl ?_
  refine WL_end hK2 ?_
  refine WC_seq fun K3 hK3 => ?_
  refine WC_sr fun K4 hK4 => ?_
  refine WL_rd (Rd_move rfl) rfl rfl rfl ?_
  refine WL_rd (Rd_neqN (j := 0) rfl rfl) rfl rfl rfl ?_
  refine WL_end hK4 ?_
  refine WC_cond rfl (fun hc0 => ?_) (fun hc0 => ?_)
  · try simp only [decide_eq_true_eq, decide_eq_false_iff_not, Bool.not_eq_true', Bool.not_eq_false', Bool.not_eq_true, Bool.not_eq_false, Int.not_lt, Int.not_le, Nat.not_lt, Nat.not_le, Decidable.not_not, ne_eq] at hc0
    refine WC_sr fun K5 hK5 => ?_
    refine WL_ac (Ac_call cf73 rfl (hs := awake_ct)) rfl rfl rfl ?_
    rintro _ _ ⟨⟨⟩, rfl, hA⟩
    simp only [List.cons_append, List.nil_append] at hA
    replace hA := hA.symm
    subst hA
    refine WL_rd (Rd_assign rfl) rfl rfl rfl ?_
    refine WL_end hK5 ?_
    refine WC_ret ?_
    exact hret.go () (Rs1 rfl rfl) (hs := by simp only [List.cons_append, List.nil_append]; first | ((repeat (first | with_reducible exact Sub.refl | with_reducible apply Sub.cons Ext.here | with_reducible apply Sub.tail)); done) | (repeat (first | with_reducible exact Sub.refl | with_reducible exact Sub.nil | (with_reducible apply Sub.cons; · (repeat (first | with_reducible exact Ext.here | with_reducible apply Ext.there))) | with_reducible apply Sub.tail)))
  · try simp only [decide_eq_true_eq, decide_eq_false_iff_not, Bool.not_eq_true', Bool.not_eq_false', Bool.not_eq_true, Bool.not_eq_false, Int.not_lt, Int.not_le, Nat.not_lt, Nat.not_le, Decidable.not_not, ne_eq] at hc0
    have hwb := wdE_iff.1 hc0
    have h1 := hwb.1
    have h2 := hwb.2
    have hwo := wd_ok h1 h2
    have hw1 := hwo.2.2.2.2
    have hbl := bld_len hc0
    have hrl := Dg_len (rootM ls)
    refine WC_some (a := a31) (by repeat (first | with_reducible exact Has.here | with_reducible refine Has.there ?_)) (by omega) (fun gb hgb _ => ?_)
    subst hgb
    refine WC_skip ?_
    refine Ps_next hK3 ?_
    refine WC_sr fun K6 hK6 => ?_
    refine WL_rd (Rd_move rfl) rfl rfl rfl ?_
    refine WL_rd (Rd_len_sv rfl rfl ud76 (hA := hS)) rfl rfl rfl ?_
    refine WL_rd (Rd_move rfl) rfl rfl rfl ?_
    refine WL_rd (Rd_index 0 rfl rfl ud76 sz42 (hi := by omega)) rfl rfl rfl ?_
    refine WL_rd (Rd_aU (k := .u8) (l := (rootM ls).1) (Rd_loadg_arr (f := fD) (i := 0) rfl tk42 (hl := at_of (by omega))) rfl) rfl rfl rfl ?_
    refine WL_ac (Ac_call cf72 rfl (hs := pNew_ct (n := ls.length) (root := rootM ls) (h1 := h1) (h2 := h2))) rfl rfl rfl ?_
    rintro _ _ ⟨⟨pb, m⟩, rfl, hA⟩
    simp only [List.cons_append, List.nil_append] at hA
    replace hA := hA.symm
    subst hA
    refine WL_rd (Rd_move rfl) rfl rfl rfl ?_
    refine WL_rd (Rd_ext0 rfl) rfl rfl rfl ?_
    refine WL_rd (Rd_ext1 rfl) rfl rfl rfl ?_
    refine WL_rd (Rd_assign rfl) rfl rfl rfl ?_
    refine WL_rd (Rd_assign rfl) rfl rfl rfl ?_
    refine WL_end hK6 ?_
    refine WC_seq fun K7 hK7 => ?_
    refine WC_sr fun K8 hK8 => ?_
    refine WL_rd (Rd_move rfl) rfl rfl rfl ?_
    refine WL_rd (Rd_peq rfl rfl ud121) rfl rfl rfl ?_
    refine WL_rd (Rd_move rfl) rfl rfl rfl ?_
    refine WL_rd (Rd_move rfl) rfl rfl rfl ?_
    refine WL_rd (Rd_isF (Rd_neq rfl rfl)) rfl rfl rfl ?_
    refine WL_rd (Rd_pickF rfl rfl) rfl rfl rfl ?_
    refine WL_rd (Rd_move rfl) rfl rfl rfl ?_
    refine WL_ac (Ac_call cf73 rfl (hs := awake_ct)) rfl rfl rfl ?_
    rintro _ _ ⟨⟨⟩, rfl, hA⟩
    simp only [List.cons_append, List.nil_append] at hA
    replace hA := hA.symm
    subst hA
    refine WL_rd (Rd_not rfl) rfl rfl rfl ?_
    refine WL_rd (Rd_pickF rfl rfl) rfl rfl rfl ?_
    refine WL_end hK8 ?_
    refine WC_condF rfl ?_
    refine WC_skip ?_
    refine Ps_next hK7 ?_
    refine WC_seq fun K9 hK9 => ?_
    refine WC_sr fun K10 hK10 => ?_
    refine WL_rd (Rd_move rfl) rfl rfl rfl ?_
    refine WL_rd (Rd_len_sv rfl rfl ud137 (hA := hO)) rfl rfl rfl ?_
    refine WL_rd (Rd_move rfl) rfl rfl rfl ?_
    refine WL_end hK10 ?_
    refine WC_block ?_
    refine WC_loopK (σ := Nat × KM) (fun ⟨k, Kc⟩ => [(58, .int .i64 ((k : Nat) : Int))]) (fun ⟨k, Kc⟩ => [mpI m (kv Kc)]) (fun ⟨k, Kc⟩ => k ≤ os.length ∧ Whl (wdM ls.length) (tnD ls) Kc ∧ LeK (newK ls.length (rootM ls)) Kc ∧ Snd (wdM ls.length) (newK ls.length (rootM ls)) Kc) (fun ⟨k, Kc⟩ => os.length - k) ⟨0, (newK ls.length (rootM ls))⟩ [0, 2, 7, 9, 26, 27, 28, 56, 57, 175, 176, 177, 178, 179, 180, 181, 182, 183, 184, 185, 186, 187, 188, 189, 190, 191, 192, 193, 194, 195, 196] (by repeat (first | exact Kep.nil | apply Kep.drop rfl | apply Kep.keep rfl)) (by (try dsimp only); repeat (first | with_reducible exact Gv.nil | (with_reducible apply Gv.cons; · (repeat (first | with_reducible exact Ext.here | with_reducible apply Ext.there))))) ?_ ?_ Sub.refl ?_
    · exact ⟨Nat.zero_le _, serve_F (n := 0) hc0, LeK.refl _, Snd_0 _ _⟩
    · (try dsimp only); exact (Wk.cons (by first | rfl | (simp only [List.length_append, List.length_cons, List.length_nil, List.length_replicate, Nat.zero_add]; rfl) | (simp; done)) Wk.nil)
    · rintro ⟨k, Kc⟩ ⟨hk, hwh, hlc, hsc⟩ K11 hK11
      simp only [List.cons_append, List.nil_append]
      refine WC_sr fun K12 hK12 => ?_
      refine WL_rd (Rd_lssN rfl rfl) rfl rfl rfl ?_
      refine WL_end hK12 ?_
      refine WC_seq fun K13 hK13 => ?_
      refine WC_cond rfl (fun hc2 => ?_) (fun hc2 => ?_)
      · try simp only [decide_eq_true_eq, decide_eq_false_iff_not, Bool.not_eq_true', Bool.not_eq_false', Bool.not_eq_true, Bool.not_eq_false, Int.not_lt, Int.not_le, Nat.not_lt, Nat.not_le, Decidable.not_not, ne_eq] at hc2
        refine WC_skip ?_
        refine Ps_next hK13 ?_
        refine WC_seq fun K14 hK14 => ?_
        refine WC_block ?_
        refine WC_sr fun K15 hK15 => ?_
        refine WL_rd (Rd_index_sv k rfl rfl ud137 sz138 (hA := hO) (hi := by omega)) rfl rfl rfl ?_
        refine WL_rd (Rd_loadU_sv (i := k) rfl tk138 (hA := hO)) rfl rfl rfl ?_
        refine WL_rd (Rd_assign rfl) rfl rfl rfl ?_
        refine WL_end hK15 ?_
        refine WC_sr fun K16 hK16 => ?_
        refine WL_rd (Rd_move rfl) rfl rfl rfl ?_
        refine WL_rd (Rd_convN rfl ikd138_3) rfl rfl rfl ?_
        refine WL_rd (Rd_move rfl) rfl rfl rfl ?_
        refine WL_rd (Rd_len_sv rfl rfl ud76 (hA := hS)) rfl rfl rfl ?_
        refine WL_rd (Rd_remN (i := (os.getD k 0#16).toNat) (j := ls.length) rfl rfl) rfl rfl rfl ?_
        refine WL_rd (Rd_assign rfl) rfl rfl rfl ?_
        have hil : (os.getD k 0#16).toNat % ls.length < ls.length := Nat.mod_lt _ (by omega)
        generalize (os.getD k 0#16).toNat % ls.length = i at hil ⊢
        have hlb : lfB ls.length ((i : Nat) : Int) = true := lfB_t.2 ⟨by omega, by omega⟩
        have hL2 : ((wdM ls.length) + i) + 1 < 2 * (wdM ls.length) ∨ (((wdM ls.length) + i) < 2 * (wdM ls.length) ∧ ((wdM ls.length) + i) % 2 = 1) := by omega
        have hti : ls[i]? = some ((tnD ls) ((wdM ls.length) + i)) := by rw [at_of hil, ← bld_leaf hc0 hil]; unfold tnD; congr 2; omega
        have htl := Dg_len ((tnD ls) ((wdM ls.length) + i))
        have hdk := Dg_len ((Kc (nt ((wdM ls.length) + i))).getD zD)
        have hcg : Ctg Kc ((wdM ls.length) + i) := Ctg_of hwo.1 hil (NoA_new hwo.1) hsc
        have hnr := need_rng (K := Kc) hwh.one (show ((wdM ls.length) + i) < 2 * (wdM ls.length) by omega)
        have hnl : (needF Kc ((wdM ls.length) + i)).length ≤ 100000 := need_short hwh.one (show ((wdM ls.length) + i) < 2 * (wdM ls.length) by omega) (by omega)
        refine WL_end hK16 ?_
        refine WC_sr fun K17 hK17 => ?_
        refine WL_rd (Rd_move rfl) rfl rfl rfl ?_
        refine WL_rd (Rd_move rfl) rfl rfl rfl ?_
        refine WL_ac (Ac_call cf83 rfl (hs := pNeeds_ct (pb := pb) (m := m) (n := ls.length) (w := (wdM ls.length)) (Kn := Kc) (i0 := ((i : Nat) : Int)) (hw := rfl) (h1 := h1) (h2 := h2))) rfl rfl rfl ?_
        rintro _ _ ⟨⟨na, nc⟩, rfl, hA⟩
        simp only [List.cons_append, List.nil_append] at hA
        replace hA := hA.symm
        subst hA
        rw [show askF ls.length ((i : Nat) : Int) = 0 from askF_0.2 ⟨by omega, by omega⟩, show ndsN ls.length Kc ((i : Nat) : Int) = (needF Kc ((wdM ls.length) + i)) from by unfold ndsN; rw [if_pos hlb, Int.toNat_natCast]]
        refine WL_rd (Rd_move rfl) rfl rfl rfl ?_
        refine WL_rd (Rd_ext0 rfl) rfl rfl rfl ?_
        refine WL_rd (Rd_ext1 rfl) rfl rfl rfl ?_
        refine WL_rd (Rd_assign rfl) rfl rfl rfl ?_
        refine WL_rd (Rd_assign rfl) rfl rfl rfl ?_
        refine WL_end hK17 ?_
        refine WC_sr fun K18 hK18 => ?_
        refine WL_rd (Rd_move rfl) rfl rfl rfl ?_
        refine WL_rd (Rd_move rfl) rfl rfl rfl ?_
        refine WL_ac (Ac_call cf84 rfl (hs := pLeaf_ct (pb := pb) (m := m) (n := ls.length) (w := (wdM ls.length)) (Kn := Kc) (i := ((i : Nat) : Int)))) rfl rfl rfl ?_
        rintro _ _ ⟨⟨⟩, rfl, hA⟩
        simp only [List.cons_append, List.nil_append] at hA
        replace hA := hA.symm
        subst hA
        rw [show lfK ls.length (wdM ls.length) Kc ((i : Nat) : Int) = Kc (nt ((wdM ls.length) + i)) from by unfold lfK; rw [if_pos hlb]; rfl]
        refine WL_rd (Rd_move rfl) rfl rfl rfl ?_
        refine WL_rd (Rd_ext0 rfl) rfl rfl rfl ?_
        refine WL_rd (Rd_ext1 rfl) rfl rfl rfl ?_
        refine WL_ac (Ac_allocW (k := .u8) (w := 8) (m := 32) zr42) rfl rfl rfl ?_
        rintro _ _ ⟨b16, rfl, rfl⟩
        refine WL_ac0 (Ac_storeW rfl rfl sz42) rfl rfl ?_
        rintro _ _ rfl
        refine WL_rd (Rd_assign rfl) rfl rfl rfl ?_
        refine WL_end hK18 ?_
        refine WC_seq fun K19 hK19 => ?_
        refine WC_sr fun K20 hK20 => ?_
        refine WL_rd (Rd_move rfl) rfl rfl rfl ?_
        refine WL_rd (Rd_isF (Rd_neqN (j := 0) rfl rfl)) rfl rfl rfl ?_
        refine WL_rd (Rd_move rfl) rfl rfl rfl ?_
        refine WL_rd (Rd_move rfl) rfl rfl rfl ?_
        refine WL_rd (Rd_move rfl) rfl rfl rfl ?_
        refine WL_bool 83 rfl (fun hg21 => ?_) (fun hg21 => ?_)
        · try simp only [decide_eq_true_eq, decide_eq_false_iff_not, Bool.not_eq_true', Bool.not_eq_false', Bool.not_eq_true, Bool.not_eq_false, Int.not_lt, Int.not_le, Nat.not_lt, Nat.not_le, Decidable.not_not, ne_eq] at hg21
          have q1 := hg21
          refine WL_rd (Rd_move rfl) rfl rfl rfl ?_
          refine WL_rd (Rd_len rfl rfl ud101) rfl rfl rfl ?_
          refine WL_rd (Rd_isF (Rd_gtrN (j := 0) rfl rfl) (by rw [needF_kn q1]; rfl)) rfl rfl rfl ?_
          refine WL_rd (Rd_pickT rfl rfl) rfl rfl rfl ?_
          refine WL_rd (Rd_pickF rfl rfl) rfl rfl rfl ?_
          refine WL_end hK20 ?_
          refine WC_condF rfl ?_
          refine WC_skip ?_
          refine Ps_next hK19 ?_
          refine WC_seq fun K22 hK22 => ?_
          refine WC_sr fun K23 hK23 => ?_
          refine WL_rd (Rd_move rfl) rfl rfl rfl ?_
          refine WL_end hK23 ?_
          refine WC_cond rfl (fun hc4 => ?_) (fun hc4 => ?_)
          · try simp only [decide_eq_true_eq, decide_eq_false_iff_not, Bool.not_eq_true', Bool.not_eq_false', Bool.not_eq_true, Bool.not_eq_false, Int.not_lt, Int.not_le, Nat.not_lt, Nat.not_le, Decidable.not_not, ne_eq] at hc4
            refine WC_exit ?_
            refine Ps_next hK14 ?_
            refine WC_region ?_
            refine WL_rd (Rd_addN (j := 1) rfl rfl) rfl rfl rfl ?_
            refine WL_rd (Rd_move rfl) rfl rfl rfl ?_
            refine WL_nil ?_
            refine Ps_wk (by (try simp only [List.cons_append, List.nil_append]); repeat (first | with_reducible exact Wk.nil | refine Wk.cons (by first | rfl | (simp only [List.length_append, List.length_cons, List.length_nil, List.length_replicate, Nat.zero_add]; rfl) | (simp; done)) ?_)) (by (try simp only [List.cons_append, List.nil_append]); first | ((repeat (first | with_reducible exact Sub.refl | with_reducible apply Sub.cons Ext.here | with_reducible apply Sub.tail)); done) | (repeat (first | with_reducible exact Sub.refl | with_reducible exact Sub.nil | (with_reducible apply Sub.cons; · (repeat (first | with_reducible exact Ext.here | with_reducible apply Ext.there))) | with_reducible apply Sub.tail))) (hK11 ⟨k + 1, Kc⟩ (⟨by (try dsimp only); omega, hwh, hlc, hsc⟩) (by (try dsimp only); omega))
          · try simp only [decide_eq_true_eq, decide_eq_false_iff_not, Bool.not_eq_true', Bool.not_eq_false', Bool.not_eq_true, Bool.not_eq_false, Int.not_lt, Int.not_le, Nat.not_lt, Nat.not_le, Decidable.not_not, ne_eq] at hc4
            rw [q1] at hc4; cases hc4
        · try simp only [decide_eq_true_eq, decide_eq_false_iff_not, Bool.not_eq_true', Bool.not_eq_false', Bool.not_eq_true, Bool.not_eq_false, Int.not_lt, Int.not_le, Nat.not_lt, Nat.not_le, Decidable.not_not, ne_eq] at hg21
          have q1 := hg21
          have hkn0 : ¬ kn Kc ((wdM ls.length) + i) := by unfold kn; rw [q1]; decide
          refine WL_skip rfl rfl rfl ?_
          refine WL_skip rfl rfl rfl ?_
          refine WL_skip rfl rfl rfl ?_
          refine WL_rd (Rd_pickF rfl rfl) rfl rfl rfl ?_
          refine WL_rd (Rd_pickF rfl rfl) rfl rfl rfl ?_
          refine WL_end hK20 ?_
          refine WC_condF rfl ?_
          refine WC_skip ?_
          refine Ps_next hK19 ?_
          refine WC_seq fun K24 hK24 => ?_
          refine WC_sr fun K25 hK25 => ?_
          refine WL_rd (Rd_move rfl) rfl rfl rfl ?_
          refine WL_end hK25 ?_
          refine WC_cond rfl (fun hc4 => ?_) (fun hc4 => ?_)
          · try simp only [decide_eq_true_eq, decide_eq_false_iff_not, Bool.not_eq_true', Bool.not_eq_false', Bool.not_eq_true, Bool.not_eq_false, Int.not_lt, Int.not_le, Nat.not_lt, Nat.not_le, Decidable.not_not, ne_eq] at hc4
            rw [q1] at hc4; cases hc4
          · try simp only [decide_eq_true_eq, decide_eq_false_iff_not, Bool.not_eq_true', Bool.not_eq_false', Bool.not_eq_true, Bool.not_eq_false, Int.not_lt, Int.not_le, Nat.not_lt, Nat.not_le, Decidable.not_not, ne_eq] at hc4
            refine WC_skip ?_
            refine Ps_next hK24 ?_
            refine WC_seq fun K26 hK26 => ?_
            refine WC_drawA mix (fun i => ([2, 1, 2, 2, 2, 2, 2, 2, 2, 1, 2] : List Nat).getD i 0) ?_
            refine WJ_takeP 0 rfl (by kernel_rfl) (Rd_move rfl) rfl rfl rfl (hp _ _) ?_
            refine WJ_takeP 2 rfl (by kernel_rfl) (Rd_move rfl) rfl rfl rfl (hp _ _) ?_
            refine WJ_takeP 4 rfl (by kernel_rfl) (Rd_move rfl) rfl rfl rfl (hp _ _) ?_
            refine WJ_takeP 5 rfl (by kernel_rfl) (Rd_move rfl) rfl rfl rfl (hp _ _) ?_
            refine WJ_takeP 6 rfl (by kernel_rfl) (Rd_index_sv i rfl rfl ud76 sz42 (hA := hS) (hi := by omega)) rfl rfl rfl (hp _ _) ?_
            refine WJ_tk 7 (Rd_aU (k := .u8) (l := ((tnD ls) ((wdM ls.length) + i)).1) (Rd_loadg_sv (f := fD) (i := i) rfl tk42 (hA := hS) (hl := hti)) rfl) hp ?_ rfl (by kernel_rfl) rfl rfl rfl
            refine WJ_all (rs := [1]) (by kernel_rfl) rfl ?_
            refine WI_one ?_
            refine WI_ac rfl (Ac_call cf75 rfl (hs := pWidth_ct (pb := pb) (m := m) (n := ls.length) (w := (wdM ls.length)) (Kn := Kc))) rfl rfl rfl rfl ?_
            rintro _ _ ⟨⟨⟩, rfl, hA⟩
            simp only [List.cons_append, List.nil_append] at hA
            replace hA := hA.symm
            subst hA
            refine ⟨(fun _ => (by repeat (first | with_reducible exact Sub.refl | with_reducible exact Sub.nil | with_reducible refine Sub.cons (by repeat (first | with_reducible exact Ext.here | with_reducible apply Ext.there)) ?_ | with_reducible refine Sub.tail ?_))), ?_⟩
            refine WJ_takeP 3 rfl (by kernel_rfl) (Rd_addN rfl rfl) rfl rfl rfl (hp _ _) ?_
            refine WJ_takeP 8 rfl (by kernel_rfl) (Rd_build pls133 rfl (hf := fillND (i := (nt ((wdM ls.length) + i))) (d := ((tnD ls) ((wdM ls.length) + i))) rfl)) rfl rfl rfl (hp _ _) ?_
            refine WJ_all (rs := [9]) (by kernel_rfl) rfl ?_
            refine WI_one ?_
            refine WI_ac rfl (Ac_bsF ([(nt ((wdM ls.length) + i), (tnD ls) ((wdM ls.length) + i))] : List Nd) nodV encND nodV_cells ud120 zr133 sz133 rfl rfl rfl rfl) rfl rfl rfl rfl ?_
            rintro _ _ ⟨b99, rfl, rfl⟩
            refine ⟨(fun _ => (by repeat (first | with_reducible exact Sub.refl | with_reducible exact Sub.nil | with_reducible refine Sub.cons (by repeat (first | with_reducible exact Ext.here | with_reducible apply Ext.there)) ?_ | with_reducible refine Sub.tail ?_))), ?_⟩
            have hS99 := Sv_own' (a := some b99) (cap := 1) (T := 133) (l := [(nt ((wdM ls.length) + i), (tnD ls) ((wdM ls.length) + i))]) encND (fun e => by cases e) (Nat.le_refl _)
            refine WJ_takeP 10 rfl (by kernel_rfl) (Rd_assign rfl) rfl rfl rfl (hp _ _) ?_
            refine WJ_done (by kernel_rfl) ?_
            refine Ps_next hK26 ?_
            refine WC_sr fun K27 hK27 => ?_
            refine WL_rd (Rd_assign (v := sl none 0 0) rfl) rfl rfl rfl ?_
            refine WL_nilarr eND 33 133 ?_
            refine WL_end hK27 ?_
            refine WC_sr fun K28 hK28 => ?_
            refine WL_rd (Rd_move rfl) rfl rfl rfl ?_
            refine WL_rd (Rd_move rfl) rfl rfl rfl ?_
            refine WL_ac (Ac_appendS (f := eND) encND rfl rfl ud120 ud120 el133 (l := []) (l2 := [(nt ((wdM ls.length) + i), (tnD ls) ((wdM ls.length) + i))]) (hS := hS99) (hb := by show 0 + 1 < 1000000000000; omega)) rfl rfl rfl ?_
            rintro _ _ ⟨a102, cap102, rfl, rfl⟩
            refine WL_rd (Rd_assign rfl) rfl rfl rfl ?_
            refine WL_end hK28 ?_
            refine WC_seq fun K29 hK29 => ?_
            refine WC_sr fun K30 hK30 => ?_
            refine WL_rd (Rd_move rfl) rfl rfl rfl ?_
            refine WL_rd (Rd_len rfl rfl ud101) rfl rfl rfl ?_
            refine WL_rd (Rd_move rfl) rfl rfl rfl ?_
            refine WL_end hK30 ?_
            refine WC_block ?_
            rw [show sl a102 (([] : List Nd).length + [(nt ((wdM ls.length) + i), (tnD ls) ((wdM ls.length) + i))].length) cap102 = sl a102 (ndl (tnD ls) (((wdM ls.length) + i) :: ((needF Kc ((wdM ls.length) + i)).take 0).eraseIdx (lack.toNat % (needF Kc ((wdM ls.length) + i)).length))).length cap102 from rfl, show [] ++ [(nt ((wdM ls.length) + i), (tnD ls) ((wdM ls.length) + i))] = (ndl (tnD ls) (((wdM ls.length) + i) :: ((needF Kc ((wdM ls.length) + i)).take 0).eraseIdx (lack.toNat % (needF Kc ((wdM ls.length) + i)).length))) from rfl, show sl (some b99) 1 1 = sl (some b99) (ndl (tnD ls) (((wdM ls.length) + i) :: (needF Kc ((wdM ls.length) + i)).take 0)).length 1 from rfl, show [(nt ((wdM ls.length) + i), (tnD ls) ((wdM ls.length) + i))] = (ndl (tnD ls) (((wdM ls.length) + i) :: (needF Kc ((wdM ls.length) + i)).take 0)) from rfl]
            refine WC_loopK (σ := Nat × (Option Nat) × Nat × (Option Nat) × Nat) (fun ⟨j, xa, xc, sa, sc⟩ => [(18, sl xa (ndl (tnD ls) (((wdM ls.length) + i) :: (needF Kc ((wdM ls.length) + i)).take j)).length xc), (19, sl sa (ndl (tnD ls) (((wdM ls.length) + i) :: ((needF Kc ((wdM ls.length) + i)).take j).eraseIdx (lack.toNat % (needF Kc ((wdM ls.length) + i)).length))).length sc), (105, .int .i64 ((j : Nat) : Int))]) (fun ⟨j, xa, xc, sa, sc⟩ => [arr xa xc 33 133 eND (ndl (tnD ls) (((wdM ls.length) + i) :: (needF Kc ((wdM ls.length) + i)).take j)), arr sa sc 33 133 eND (ndl (tnD ls) (((wdM ls.length) + i) :: ((needF Kc ((wdM ls.length) + i)).take j).eraseIdx (lack.toNat % (needF Kc ((wdM ls.length) + i)).length)))]) (fun ⟨j, xa, xc, sa, sc⟩ => j ≤ (needF Kc ((wdM ls.length) + i)).length) (fun ⟨j, xa, xc, sa, sc⟩ => (needF Kc ((wdM ls.length) + i)).length - j) ⟨0, some b99, 1, a102, cap102⟩ [0, 2, 7, 9, 12, 13, 14, 15, 16, 17, 23, 24, 25, 26, 27, 28, 56, 57, 58, 59, 60, 61, 62, 63, 64, 65, 66, 67, 68, 69, 70, 71, 72, 73, 74, 75, 76, 77, 78, 79, 80, 81, 82, 83, 84, 85, 86, 87, 88, 89, 90, 91, 92, 93, 94, 95, 96, 97, 98, 99, 100, 101, 102, 103, 104, 141, 142, 143, 144, 145, 146, 147, 148, 149, 150, 151, 152, 153, 154, 155, 156, 157, 158, 159, 160, 161, 162, 163, 164, 165, 166, 167, 168, 169, 170, 171, 172, 173, 174, 175, 176, 177, 178, 179, 180, 181, 182, 183, 184, 185, 186, 187, 188, 189, 190, 191, 192, 193, 194, 195, 196] (by repeat (first | exact Kep.nil | apply Kep.drop rfl | apply Kep.keep rfl)) (by (try dsimp only); repeat (first | with_reducible exact Gv.nil | (with_reducible apply Gv.cons; · (repeat (first | with_reducible exact Ext.here | with_reducible apply Ext.there))))) ?_ ?_ Sub.refl ?_
            · exact Nat.zero_le _
            · (try dsimp only); exact (Wk.cons (by first | rfl | (simp only [List.length_append, List.length_cons, List.length_nil, List.length_replicate, Nat.zero_add]; rfl) | (simp; done)) (Wk.cons (by first | rfl | (simp only [List.length_append, List.length_cons, List.length_nil, List.length_replicate, Nat.zero_add]; rfl) | (simp; done)) (Wk.cons (by first | rfl | (simp only [List.length_append, List.length_cons, List.length_nil, List.length_replicate, Nat.zero_add]; rfl) | (simp; done)) Wk.nil)))
            · rintro ⟨j, xa, xc, sa, sc⟩ hj K31 hK31
              simp only [List.cons_append, List.nil_append]
              have hxl : (ndl (tnD ls) (((wdM ls.length) + i) :: (needF Kc ((wdM ls.length) + i)).take j)).length ≤ 200000 := by rw [ndl_len, List.length_cons, List.length_take]; omega
              have hsl : (ndl (tnD ls) (((wdM ls.length) + i) :: ((needF Kc ((wdM ls.length) + i)).take j).eraseIdx (lack.toNat % (needF Kc ((wdM ls.length) + i)).length))).length ≤ 200000 := by rw [ndl_len, List.length_cons]; have := List.length_eraseIdx_le ((needF Kc ((wdM ls.length) + i)).take j) (lack.toNat % (needF Kc ((wdM ls.length) + i)).length); rw [List.length_take] at this; omega
              refine WC_sr fun K32 hK32 => ?_
              refine WL_rd (Rd_lssN rfl rfl) rfl rfl rfl ?_
              refine WL_end hK32 ?_
              refine WC_seq fun K33 hK33 => ?_
              refine WC_cond rfl (fun hc5 => ?_) (fun hc5 => ?_)
              · try simp only [decide_eq_true_eq, decide_eq_false_iff_not, Bool.not_eq_true', Bool.not_eq_false', Bool.not_eq_true, Bool.not_eq_false, Int.not_lt, Int.not_le, Nat.not_lt, Nat.not_le, Decidable.not_not, ne_eq] at hc5
                obtain ⟨a, ha⟩ : ∃ a, (needF Kc ((wdM ls.length) + i))[j]? = some a := ⟨_, List.getElem?_eq_getElem (by omega)⟩
                have har := hnr a (List.mem_of_getElem? ha)
                have hta := Dg_len ((tnD ls) a)
                refine WC_some (a := na) (by repeat (first | with_reducible exact Has.here | with_reducible refine Has.there ?_)) (by omega) (fun gn hgn _ => ?_)
                subst hgn
                refine WC_skip ?_
                refine Ps_next hK33 ?_
                refine WC_seq fun K34 hK34 => ?_
                refine WC_block ?_
                refine WC_sr fun K35 hK35 => ?_
                refine WL_rd (Rd_move rfl) rfl rfl rfl ?_
                refine WL_rd (Rd_index j rfl rfl ud101 sz3 (hi := by omega)) rfl rfl rfl ?_
                refine WL_rd (Rd_load_arr (f := eN) (i := j) (j := 0) rfl tk3 (hl := ha)) rfl rfl rfl ?_
                refine WL_rd (Rd_assign rfl) rfl rfl rfl ?_
                refine WL_rd (Rd_assign rfl) rfl rfl rfl ?_
                refine WL_end hK35 ?_
                refine WC_seq fun K36 hK36 => ?_
                refine WC_sr fun K37 hK37 => ?_
                refine WL_rd (Rd_move rfl) rfl rfl rfl ?_
                refine WL_rd (Rd_isF (Rd_lssN (j := 1) rfl rfl)) rfl rfl rfl ?_
                refine WL_rd (Rd_move rfl) rfl rfl rfl ?_
                refine WL_rd (Rd_move rfl) rfl rfl rfl ?_
                refine WL_rd (Rd_move rfl) rfl rfl rfl ?_
                refine WL_rd (Rd_len rfl rfl ud76) rfl rfl rfl ?_
                refine WL_rd (Rd_isF (Rd_gtrN rfl rfl)) rfl rfl rfl ?_
                refine WL_rd (Rd_pickF rfl rfl) rfl rfl rfl ?_
                refine WL_end hK37 ?_
                refine WC_condF rfl ?_
                refine WC_skip ?_
                refine Ps_next hK36 ?_
                refine WC_sr fun K38 hK38 => ?_
                refine WL_rd (Rd_move rfl) rfl rfl rfl ?_
                refine WL_rd (Rd_move rfl) rfl rfl rfl ?_
                refine WL_rd (Rd_move rfl) rfl rfl rfl ?_
                refine WL_rd (Rd_subN (j := 1) rfl rfl) rfl rfl rfl ?_
                refine WL_rd (Rd_index (a - 1) rfl rfl ud76 sz42 (hi := by omega)) rfl rfl rfl ?_
                refine WL_rd (Rd_aU (k := .u8) (l := ((tnD ls) (a)).1) (Rd_loadg_arr (f := fD) (i := a - 1) rfl tk42 (hl := at_of (by omega))) rfl) rfl rfl rfl ?_
                refine WL_rd (Rd_build pls133 rfl (hf := fillND (i := (nt a)) (d := ((tnD ls) a)) rfl)) rfl rfl rfl ?_
                refine WL_ac (Ac_alloc zr133) rfl rfl rfl ?_
                rintro _ _ ⟨b22, rfl, rfl⟩
                refine WL_ac0 (Ac_store (ys := eND (nt a, (tnD ls) a)) rfl rfl sz133 (hv := by show (eND (nt a, (tnD ls) a)).toArray.size = 33; rw [List.size_toArray, encND.len]) (h1 := encND.one (nt a, (tnD ls) a)) (hr := by show ([] ++ eND (nt a, (tnD ls) a)) ++ [] = eND (nt a, (tnD ls) a); rw [List.append_nil]; rfl)) rfl rfl ?_
                rintro _ _ rfl
                refine WL_end hK38 ?_
                refine WC_sr fun K39 hK39 => ?_
                refine WL_rd (Rd_move rfl) rfl rfl rfl ?_
                refine WL_rd (Rd_loadg (vs := eND (nt a, (tnD ls) a)) rfl tk133 (hl := by rw [encND.len]; decide) (hi := by rw [List.drop_zero, List.take_of_length_le (by rw [encND.len]; decide)])) rfl rfl rfl ?_
                refine WL_ac (Ac_bs1 (xs := eND (nt a, (tnD ls) a)) rfl ud120 zr133 sz133 (hl := encND.len _)) rfl rfl rfl ?_
                rintro _ _ ⟨bq1, rfl, rfl⟩
                refine WL_ac (Ac_append1 (f := eND) encND (nt a, (tnD ls) a) rfl rfl ud120 ud120 el133) rfl rfl rfl ?_
                rintro _ _ ⟨a128, cap128, rfl, rfl⟩
                rw [show (ndl (tnD ls) (((wdM ls.length) + i) :: (needF Kc ((wdM ls.length) + i)).take j)).length + 1 = ((ndl (tnD ls) (((wdM ls.length) + i) :: (needF Kc ((wdM ls.length) + i)).take j)) ++ [(nt a, (tnD ls) a)]).length from by simp, show (ndl (tnD ls) (((wdM ls.length) + i) :: (needF Kc ((wdM ls.length) + i)).take j)) ++ [(nt a, (tnD ls) a)] = (ndl (tnD ls) (((wdM ls.length) + i) :: (needF Kc ((wdM ls.length) + i)).take (j + 1))) from by rw [ndl_snoc, List.cons_append]; first | rw [take_nx ha] | rw [erase_take_ne ha hc7]]
                refine WL_rd (Rd_assign rfl) rfl rfl rfl ?_
                refine WL_end hK39 ?_
                refine WC_sr fun K40 hK40 => ?_
                refine WL_rd (Rd_move rfl) rfl rfl rfl ?_
                refine WL_rd (Rd_move rfl) rfl rfl rfl ?_
                refine WL_rd (Rd_convN rfl ikd5_3) rfl rfl rfl ?_
                refine WL_rd (Rd_move rfl) rfl rfl rfl ?_
                refine WL_rd (Rd_len rfl rfl ud101) rfl rfl rfl ?_
                refine WL_rd (Rd_remN (i := lack.toNat) (j := (needF Kc ((wdM ls.length) + i)).length) rfl rfl) rfl rfl rfl ?_
                refine WL_rd (Rd_neqN rfl rfl) rfl rfl rfl ?_
                refine WL_end hK40 ?_
                refine WC_cond rfl (fun hc7 => ?_) (fun hc7 => ?_)
                · try simp only [decide_eq_true_eq, decide_eq_false_iff_not, Bool.not_eq_true', Bool.not_eq_false', Bool.not_eq_true, Bool.not_eq_false, Int.not_lt, Int.not_le, Nat.not_lt, Nat.not_le, Decidable.not_not, ne_eq] at hc7
                  refine WC_region ?_
                  refine WL_rd (Rd_move rfl) rfl rfl rfl ?_
                  refine WL_rd (Rd_loadg (vs := eND (nt a, (tnD ls) a)) rfl tk133 (hl := by rw [encND.len]; decide) (hi := by rw [List.drop_zero, List.take_of_length_le (by rw [encND.len]; decide)])) rfl rfl rfl ?_
                  refine WL_ac (Ac_bs1 (xs := eND (nt a, (tnD ls) a)) rfl ud120 zr133 sz133 (hl := encND.len _)) rfl rfl rfl ?_
                  rintro _ _ ⟨bq2, rfl, rfl⟩
                  refine WL_ac (Ac_append1 (f := eND) encND (nt a, (tnD ls) a) rfl rfl ud120 ud120 el133) rfl rfl rfl ?_
                  rintro _ _ ⟨a139, cap139, rfl, rfl⟩
                  rw [show (ndl (tnD ls) (((wdM ls.length) + i) :: ((needF Kc ((wdM ls.length) + i)).take j).eraseIdx (lack.toNat % (needF Kc ((wdM ls.length) + i)).length))).length + 1 = ((ndl (tnD ls) (((wdM ls.length) + i) :: ((needF Kc ((wdM ls.length) + i)).take j).eraseIdx (lack.toNat % (needF Kc ((wdM ls.length) + i)).length))) ++ [(nt a, (tnD ls) a)]).length from by simp, show (ndl (tnD ls) (((wdM ls.length) + i) :: ((needF Kc ((wdM ls.length) + i)).take j).eraseIdx (lack.toNat % (needF Kc ((wdM ls.length) + i)).length))) ++ [(nt a, (tnD ls) a)] = (ndl (tnD ls) (((wdM ls.length) + i) :: ((needF Kc ((wdM ls.length) + i)).take (j + 1)).eraseIdx (lack.toNat % (needF Kc ((wdM ls.length) + i)).length))) from by rw [ndl_snoc, List.cons_append]; first | rw [take_nx ha] | rw [erase_take_ne ha hc7]]
                  refine WL_rd (Rd_assign rfl) rfl rfl rfl ?_
                  refine WL_nil ?_
                  refine Ps_next hK34 ?_
                  refine WC_region ?_
                  refine WL_rd (Rd_addN (j := 1) rfl rfl) rfl rfl rfl ?_
                  refine WL_rd (Rd_move rfl) rfl rfl rfl ?_
                  refine WL_nil ?_
                  refine Ps_wk (by (try simp only [List.cons_append, List.nil_append]); repeat (first | with_reducible exact Wk.nil | refine Wk.cons (by first | rfl | (simp only [List.length_append, List.length_cons, List.length_nil, List.length_replicate, Nat.zero_add]; rfl) | (simp; done)) ?_)) (by (try simp only [List.cons_append, List.nil_append]); first | ((repeat (first | with_reducible exact Sub.refl | with_reducible apply Sub.cons Ext.here | with_reducible apply Sub.tail)); done) | (repeat (first | with_reducible exact Sub.refl | with_reducible exact Sub.nil | (with_reducible apply Sub.cons; · (repeat (first | with_reducible exact Ext.here | with_reducible apply Ext.there))) | with_reducible apply Sub.tail))) (hK31 ⟨j + 1, a128, cap128, a139, cap139⟩ (by (try dsimp only); omega) (by (try dsimp only); omega))
                · try simp only [decide_eq_true_eq, decide_eq_false_iff_not, Bool.not_eq_true', Bool.not_eq_false', Bool.not_eq_true, Bool.not_eq_false, Int.not_lt, Int.not_le, Nat.not_lt, Nat.not_le, Decidable.not_not, ne_eq] at hc7
                  rw [show (ndl (tnD ls) (((wdM ls.length) + i) :: ((needF Kc ((wdM ls.length) + i)).take j).eraseIdx (lack.toNat % (needF Kc ((wdM ls.length) + i)).length))) = (ndl (tnD ls) (((wdM ls.length) + i) :: ((needF Kc ((wdM ls.length) + i)).take (j + 1)).eraseIdx (lack.toNat % (needF Kc ((wdM ls.length) + i)).length))) from by rw [erase_take_eq2 ha hc7]]
                  refine WC_skip ?_
                  refine Ps_next hK34 ?_
                  refine WC_region ?_
                  refine WL_rd (Rd_addN (j := 1) rfl rfl) rfl rfl rfl ?_
                  refine WL_rd (Rd_move rfl) rfl rfl rfl ?_
                  refine WL_nil ?_
                  refine Ps_wk (by (try simp only [List.cons_append, List.nil_append]); repeat (first | with_reducible exact Wk.nil | refine Wk.cons (by first | rfl | (simp only [List.length_append, List.length_cons, List.length_nil, List.length_replicate, Nat.zero_add]; rfl) | (simp; done)) ?_)) (by (try simp only [List.cons_append, List.nil_append]); first | ((repeat (first | with_reducible exact Sub.refl | with_reducible apply Sub.cons Ext.here | with_reducible apply Sub.tail)); done) | (repeat (first | with_reducible exact Sub.refl | with_reducible exact Sub.nil | (with_reducible apply Sub.cons; · (repeat (first | with_reducible exact Ext.here | with_reducible apply Ext.there))) | with_reducible apply Sub.tail))) (hK31 ⟨j + 1, a128, cap128, sa, sc⟩ (by (try dsimp only); omega) (by (try dsimp only); omega))
              · try simp only [decide_eq_true_eq, decide_eq_false_iff_not, Bool.not_eq_true', Bool.not_eq_false', Bool.not_eq_true, Bool.not_eq_false, Int.not_lt, Int.not_le, Nat.not_lt, Nat.not_le, Decidable.not_not, ne_eq] at hc5
                obtain rfl : j = (needF Kc ((wdM ls.length) + i)).length := by omega
                rw [List.take_length]
                refine WC_exit ?_
                refine Ps_next hK29 ?_
                refine WC_seq fun K41 hK41 => ?_
                refine WC_sr fun K42 hK42 => ?_
                refine WL_rd (Rd_move rfl) rfl rfl rfl ?_
                refine WL_rd (Rd_len rfl rfl ud101) rfl rfl rfl ?_
                refine WL_rd (Rd_gtrN (j := 0) rfl rfl) rfl rfl rfl ?_
                refine WL_rd (Rd_move rfl) rfl rfl rfl ?_
                refine WL_bool 144 rfl (fun hg43 => ?_) (fun hg43 => ?_)
                · try simp only [decide_eq_true_eq, decide_eq_false_iff_not, Bool.not_eq_true', Bool.not_eq_false', Bool.not_eq_true, Bool.not_eq_false, Int.not_lt, Int.not_le, Nat.not_lt, Nat.not_le, Decidable.not_not, ne_eq] at hg43
                  refine WL_rd (Rd_move rfl) rfl rfl rfl ?_
                  refine WL_ac (Ac_call cf80 rfl (hs := pClone_ct (pb := pb) (m := m) (n := ls.length) (w := (wdM ls.length)) (Kn := Kc) (hn1 := h1))) rfl rfl rfl ?_
                  rintro _ _ ⟨⟨ob, om⟩, rfl, hA⟩
                  simp only [List.cons_append, List.nil_append] at hA
                  replace hA := hA.symm
                  subst hA
                  refine WL_rd (Rd_move rfl) rfl rfl rfl ?_
                  refine WL_fact (fun w h => arr_facts (a := sa) (cap := sc) (e := 33) (T := 133) (f := eND) (l := (ndl (tnD ls) (((wdM ls.length) + i) :: (needF Kc ((wdM ls.length) + i)).eraseIdx (lack.toNat % (needF Kc ((wdM ls.length) + i)).length)))) (by repeat (first | with_reducible exact Has.here | with_reducible refine Has.there ?_)) h) (fun hSsf => ?_)
                  have hSs : Sv [arr sa sc 33 133 eND (ndl (tnD ls) (((wdM ls.length) + i) :: (needF Kc ((wdM ls.length) + i)).eraseIdx (lack.toNat % (needF Kc ((wdM ls.length) + i)).length)))] (sl sa (ndl (tnD ls) (((wdM ls.length) + i) :: (needF Kc ((wdM ls.length) + i)).eraseIdx (lack.toNat % (needF Kc ((wdM ls.length) + i)).length))).length sc) 33 eND (ndl (tnD ls) (((wdM ls.length) + i) :: (needF Kc ((wdM ls.length) + i)).eraseIdx (lack.toNat % (needF Kc ((wdM ls.length) + i)).length))) (sa.map fun g => ⟨g, 0, none⟩) sc := Sv_own' encND hSsf.1 hSsf.2
                  refine WL_ac (Ac_call cf74 rfl (hs := pPut_ct (pb := ob) (m := om) (n := ls.length) (w := (wdM ls.length)) (Kn := Kc) (X := arr sa sc 33 133 eND (ndl (tnD ls) (((wdM ls.length) + i) :: (needF Kc ((wdM ls.length) + i)).eraseIdx (lack.toNat % (needF Kc ((wdM ls.length) + i)).length)))) (v := sl sa (ndl (tnD ls) (((wdM ls.length) + i) :: (needF Kc ((wdM ls.length) + i)).eraseIdx (lack.toNat % (needF Kc ((wdM ls.length) + i)).length))).length sc) (l := (ndl (tnD ls) (((wdM ls.length) + i) :: (needF Kc ((wdM ls.length) + i)).eraseIdx (lack.toNat % (needF Kc ((wdM ls.length) + i)).length)))) (hS := hSs) (hs := hwh.sup) (hn1 := h1) (hw1 := hw1) (hll := by rw [ndl_len, List.length_cons]; have := hnl; (try have := List.length_eraseIdx_le (needF Kc ((wdM ls.length) + i)) (lack.toNat % (needF Kc ((wdM ls.length) + i)).length)); omega))) rfl rfl rfl ?_
                  rintro _ _ ⟨⟨⟩, rfl, hA⟩
                  simp only [List.cons_append, List.nil_append] at hA
                  replace hA := hA.symm
                  subst hA
                  rw [serve_lack (tn_tree hc0) hwh hw1 hcg (by omega) hL2 hkn0 (j := (lack.toNat % (needF Kc ((wdM ls.length) + i)).length)) (Nat.mod_lt _ (by omega))]
                  refine WL_rd (Rd_isF (Rd_neq rfl rfl)) rfl rfl rfl ?_
                  refine WL_rd (Rd_pickT rfl rfl) rfl rfl rfl ?_
                  refine WL_end hK42 ?_
                  refine WC_condF rfl ?_
                  refine WC_skip ?_
                  refine Ps_next hK41 ?_
                  refine WC_sr fun K44 hK44 => ?_
                  refine WL_rd (Rd_move rfl) rfl rfl rfl ?_
                  refine WL_rd (Rd_move rfl) rfl rfl rfl ?_
                  refine WL_fact (fun w h => arr_facts (a := xa) (cap := xc) (e := 33) (T := 133) (f := eND) (l := (ndl (tnD ls) (((wdM ls.length) + i) :: (needF Kc ((wdM ls.length) + i))))) (by repeat (first | with_reducible exact Has.here | with_reducible refine Has.there ?_)) h) (fun hSxf => ?_)
                  have hSx : Sv [arr xa xc 33 133 eND (ndl (tnD ls) (((wdM ls.length) + i) :: (needF Kc ((wdM ls.length) + i))))] (sl xa (ndl (tnD ls) (((wdM ls.length) + i) :: (needF Kc ((wdM ls.length) + i)))).length xc) 33 eND (ndl (tnD ls) (((wdM ls.length) + i) :: (needF Kc ((wdM ls.length) + i)))) (xa.map fun g => ⟨g, 0, none⟩) xc := Sv_own' encND hSxf.1 hSxf.2
                  have hok := serve_ok (tn_tree hc0) hwh hw1 hcg (by omega) hL2 hkn0
                  refine WL_ac (Ac_call cf74 rfl (hs := pPut_ct (pb := pb) (m := m) (n := ls.length) (w := (wdM ls.length)) (Kn := Kc) (X := arr xa xc 33 133 eND (ndl (tnD ls) (((wdM ls.length) + i) :: (needF Kc ((wdM ls.length) + i))))) (v := sl xa (ndl (tnD ls) (((wdM ls.length) + i) :: (needF Kc ((wdM ls.length) + i)))).length xc) (l := (ndl (tnD ls) (((wdM ls.length) + i) :: (needF Kc ((wdM ls.length) + i))))) (hS := hSx) (hs := hwh.sup) (hn1 := h1) (hw1 := hw1) (hll := by rw [ndl_len, List.length_cons]; have := hnl; (try have := List.length_eraseIdx_le (needF Kc ((wdM ls.length) + i)) (lack.toNat % (needF Kc ((wdM ls.length) + i)).length)); omega))) rfl rfl rfl ?_
                  rintro _ _ ⟨⟨⟩, rfl, hA⟩
                  simp only [List.cons_append, List.nil_append] at hA
                  replace hA := hA.symm
                  subst hA
                  rw [hok.1]
                  have hwn := hok.2.1
                  have hwk := hok.2.2
                  have hsn := putK_snd (l := (ndl (tnD ls) (((wdM ls.length) + i) :: (needF Kc ((wdM ls.length) + i))))) hwh.sup hw1 hlc hsc
                  have hln' := putK_leF (l := (ndl (tnD ls) (((wdM ls.length) + i) :: (needF Kc ((wdM ls.length) + i))))) hwh.sup hw1 hlc
                  generalize putK (wdM ls.length) Kc (ndl (tnD ls) (((wdM ls.length) + i) :: (needF Kc ((wdM ls.length) + i)))) = KN at hwn hwk hsn hln' ⊢
                  refine WL_rd (Rd_assign rfl) rfl rfl rfl ?_
                  refine WL_end hK44 ?_
                  refine WC_sr fun K45 hK45 => ?_
                  refine WL_rd (Rd_move rfl) rfl rfl rfl ?_
                  refine WL_rd (Rd_move rfl) rfl rfl rfl ?_
                  refine WL_ac (Ac_call cf84 rfl (hs := pLeaf_ct (pb := pb) (m := m) (n := ls.length) (w := (wdM ls.length)) (Kn := KN) (i := ((i : Nat) : Int)))) rfl rfl rfl ?_
                  rintro _ _ ⟨⟨⟩, rfl, hA⟩
                  simp only [List.cons_append, List.nil_append] at hA
                  replace hA := hA.symm
                  subst hA
                  rw [show lfK ls.length (wdM ls.length) KN ((i : Nat) : Int) = KN (nt ((wdM ls.length) + i)) from by unfold lfK; rw [if_pos hlb]; rfl, hwk, show (Option.getD (some ((tnD ls) ((wdM ls.length) + i))) zD).1 = ((tnD ls) ((wdM ls.length) + i)).1 from rfl, show (some ((tnD ls) ((wdM ls.length) + i))).isSome = true from rfl]
                  refine WL_rd (Rd_move rfl) rfl rfl rfl ?_
                  refine WL_rd (Rd_ext0 rfl) rfl rfl rfl ?_
                  refine WL_rd (Rd_ext1 rfl) rfl rfl rfl ?_
                  refine WL_ac (Ac_allocW (k := .u8) (w := 8) (m := 32) zr42) rfl rfl rfl ?_
                  rintro _ _ ⟨b24, rfl, rfl⟩
                  refine WL_ac0 (Ac_storeW rfl rfl sz42) rfl rfl ?_
                  rintro _ _ rfl
                  refine WL_rd (Rd_assign rfl) rfl rfl rfl ?_
                  refine WL_end hK45 ?_
                  refine WC_seq fun K46 hK46 => ?_
                  refine WC_drawA mix (fun i => ([2, 2, 2, 2, 2, 2, 2, 2, 2, 2, 2, 2, 2, 2] : List Nat).getD i 0) ?_
                  refine WJ_takeP 0 rfl (by kernel_rfl) (Rd_move rfl) rfl rfl rfl (hp _ _) ?_
                  refine WJ_takeP 1 rfl (by kernel_rfl) (Rd_isF (Rd_neq rfl rfl)) rfl rfl rfl (hp _ _) ?_
                  refine WJ_takeP 2 rfl (by kernel_rfl) (Rd_move rfl) rfl rfl rfl (hp _ _) ?_
                  refine WJ_takeP 3 rfl (by kernel_rfl) (Rd_move rfl) rfl rfl rfl (hp _ _) ?_
                  refine WJ_takeP 4 rfl (by kernel_rfl) (Rd_not rfl) rfl rfl rfl (hp _ _) ?_
                  refine WJ_takeP 5 rfl (by kernel_rfl) (Rd_pickF rfl rfl) rfl rfl rfl (hp _ _) ?_
                  refine WJ_takeP 6 rfl (by kernel_rfl) (Rd_move rfl) rfl rfl rfl (hp _ _) ?_
                  refine WJ_tk 7 (Rd_loadW (l := ((tnD ls) ((wdM ls.length) + i)).1) rfl tk42) hp ?_ rfl (by kernel_rfl) rfl rfl rfl
                  refine WJ_takeP 8 rfl (by kernel_rfl) (Rd_move rfl) rfl rfl rfl (hp _ _) ?_
                  refine WJ_takeP 9 rfl (by kernel_rfl) (Rd_move rfl) rfl rfl rfl (hp _ _) ?_
                  refine WJ_takeP 10 rfl (by kernel_rfl) (Rd_index_sv i rfl rfl ud76 sz42 (hA := hS) (hi := by omega)) rfl rfl rfl (hp _ _) ?_
                  refine WJ_tk 11 (Rd_aU (k := .u8) (l := ((tnD ls) ((wdM ls.length) + i)).1) (Rd_loadg_sv (f := fD) (i := i) rfl tk42 (hA := hS) (hl := hti)) rfl) hp ?_ rfl (by kernel_rfl) rfl rfl rfl
                  refine WJ_takeP 12 rfl (by kernel_rfl) (Rd_isF (Rd_neW rfl rfl ais42) (by simp)) rfl rfl rfl (hp _ _) ?_
                  refine WJ_takeP 13 rfl (by kernel_rfl) (Rd_pickF rfl rfl) rfl rfl rfl (hp _ _) ?_
                  refine WJ_done (by kernel_rfl) ?_
                  refine Ps_next hK46 ?_
                  refine WC_condF rfl ?_
                  refine WC_skip ?_
                  refine Ps_next hK14 ?_
                  refine WC_region ?_
                  refine WL_rd (Rd_addN (j := 1) rfl rfl) rfl rfl rfl ?_
                  refine WL_rd (Rd_move rfl) rfl rfl rfl ?_
                  refine WL_nil ?_
                  refine Ps_wk (by (try simp only [List.cons_append, List.nil_append]); repeat (first | with_reducible exact Wk.nil | refine Wk.cons (by first | rfl | (simp only [List.length_append, List.length_cons, List.length_nil, List.length_replicate, Nat.zero_add]; rfl) | (simp; done)) ?_)) (by (try simp only [List.cons_append, List.nil_append]); first | ((repeat (first | with_reducible exact Sub.refl | with_reducible apply Sub.cons Ext.here | with_reducible apply Sub.tail)); done) | (repeat (first | with_reducible exact Sub.refl | with_reducible exact Sub.nil | (with_reducible apply Sub.cons; · (repeat (first | with_reducible exact Ext.here | with_reducible apply Ext.there))) | with_reducible apply Sub.tail))) (hK11 ⟨k + 1, KN⟩ (⟨by (try dsimp only); omega, hwn, hln', hsn⟩) (by (try dsimp only); omega))
                · try simp only [decide_eq_true_eq, decide_eq_false_iff_not, Bool.not_eq_true', Bool.not_eq_false', Bool.not_eq_true, Bool.not_eq_false, Int.not_lt, Int.not_le, Nat.not_lt, Nat.not_le, Decidable.not_not, ne_eq] at hg43
                  refine WL_skip rfl rfl rfl ?_
                  refine WL_skip rfl rfl rfl ?_
                  refine WL_skip rfl rfl rfl ?_
                  refine WL_fact (fun w h => arr_facts (a := sa) (cap := sc) (e := 33) (T := 133) (f := eND) (l := (ndl (tnD ls) (((wdM ls.length) + i) :: (needF Kc ((wdM ls.length) + i)).eraseIdx (lack.toNat % (needF Kc ((wdM ls.length) + i)).length)))) (by repeat (first | with_reducible exact Has.here | with_reducible refine Has.there ?_)) h) (fun hSsf => ?_)
                  have hSs : Sv [arr sa sc 33 133 eND (ndl (tnD ls) (((wdM ls.length) + i) :: (needF Kc ((wdM ls.length) + i)).eraseIdx (lack.toNat % (needF Kc ((wdM ls.length) + i)).length)))] (sl sa (ndl (tnD ls) (((wdM ls.length) + i) :: (needF Kc ((wdM ls.length) + i)).eraseIdx (lack.toNat % (needF Kc ((wdM ls.length) + i)).length))).length sc) 33 eND (ndl (tnD ls) (((wdM ls.length) + i) :: (needF Kc ((wdM ls.length) + i)).eraseIdx (lack.toNat % (needF Kc ((wdM ls.length) + i)).length))) (sa.map fun g => ⟨g, 0, none⟩) sc := Sv_own' encND hSsf.1 hSsf.2
                  refine WL_skip rfl rfl rfl ?_
                  refine WL_skip rfl rfl rfl ?_
                  refine WL_rd (Rd_pickF rfl rfl) rfl rfl rfl ?_
                  refine WL_end hK42 ?_
                  refine WC_condF rfl ?_
                  refine WC_skip ?_
                  refine Ps_next hK41 ?_
                  refine WC_sr fun K47 hK47 => ?_
                  refine WL_rd (Rd_move rfl) rfl rfl rfl ?_
                  refine WL_rd (Rd_move rfl) rfl rfl rfl ?_
                  refine WL_fact (fun w h => arr_facts (a := xa) (cap := xc) (e := 33) (T := 133) (f := eND) (l := (ndl (tnD ls) (((wdM ls.length) + i) :: (needF Kc ((wdM ls.length) + i))))) (by repeat (first | with_reducible exact Has.here | with_reducible refine Has.there ?_)) h) (fun hSxf => ?_)
                  have hSx : Sv [arr xa xc 33 133 eND (ndl (tnD ls) (((wdM ls.length) + i) :: (needF Kc ((wdM ls.length) + i))))] (sl xa (ndl (tnD ls) (((wdM ls.length) + i) :: (needF Kc ((wdM ls.length) + i)))).length xc) 33 eND (ndl (tnD ls) (((wdM ls.length) + i) :: (needF Kc ((wdM ls.length) + i)))) (xa.map fun g => ⟨g, 0, none⟩) xc := Sv_own' encND hSxf.1 hSxf.2
                  have hok := serve_ok (tn_tree hc0) hwh hw1 hcg (by omega) hL2 hkn0
                  refine WL_ac (Ac_call cf74 rfl (hs := pPut_ct (pb := pb) (m := m) (n := ls.length) (w := (wdM ls.length)) (Kn := Kc) (X := arr xa xc 33 133 eND (ndl (tnD ls) (((wdM ls.length) + i) :: (needF Kc ((wdM ls.length) + i))))) (v := sl xa (ndl (tnD ls) (((wdM ls.length) + i) :: (needF Kc ((wdM ls.length) + i)))).length xc) (l := (ndl (tnD ls) (((wdM ls.length) + i) :: (needF Kc ((wdM ls.length) + i))))) (hS := hSx) (hs := hwh.sup) (hn1 := h1) (hw1 := hw1) (hll := by rw [ndl_len, List.length_cons]; have := hnl; (try have := List.length_eraseIdx_le (needF Kc ((wdM ls.length) + i)) (lack.toNat % (needF Kc ((wdM ls.length) + i)).length)); omega))) rfl rfl rfl ?_
                  rintro _ _ ⟨⟨⟩, rfl, hA⟩
                  simp only [List.cons_append, List.nil_append] at hA
                  replace hA := hA.symm
                  subst hA
                  rw [hok.1]
                  have hwn := hok.2.1
                  have hwk := hok.2.2
                  have hsn := putK_snd (l := (ndl (tnD ls) (((wdM ls.length) + i) :: (needF Kc ((wdM ls.length) + i))))) hwh.sup hw1 hlc hsc
                  have hln' := putK_leF (l := (ndl (tnD ls) (((wdM ls.length) + i) :: (needF Kc ((wdM ls.length) + i))))) hwh.sup hw1 hlc
                  generalize putK (wdM ls.length) Kc (ndl (tnD ls) (((wdM ls.length) + i) :: (needF Kc ((wdM ls.length) + i)))) = KN at hwn hwk hsn hln' ⊢
                  refine WL_rd (Rd_assign rfl) rfl rfl rfl ?_
                  refine WL_end hK47 ?_
                  refine WC_sr fun K48 hK48 => ?_
                  refine WL_rd (Rd_move rfl) rfl rfl rfl ?_
                  refine WL_rd (Rd_move rfl) rfl rfl rfl ?_
                  refine WL_ac (Ac_call cf84 rfl (hs := pLeaf_ct (pb := pb) (m := m) (n := ls.length) (w := (wdM ls.length)) (Kn := KN) (i := ((i : Nat) : Int)))) rfl rfl rfl ?_
                  rintro _ _ ⟨⟨⟩, rfl, hA⟩
                  simp only [List.cons_append, List.nil_append] at hA
                  replace hA := hA.symm
                  subst hA
                  rw [show lfK ls.length (wdM ls.length) KN ((i : Nat) : Int) = KN (nt ((wdM ls.length) + i)) from by unfold lfK; rw [if_pos hlb]; rfl, hwk, show (Option.getD (some ((tnD ls) ((wdM ls.length) + i))) zD).1 = ((tnD ls) ((wdM ls.length) + i)).1 from rfl, show (some ((tnD ls) ((wdM ls.length) + i))).isSome = true from rfl]
                  refine WL_rd (Rd_move rfl) rfl rfl rfl ?_
                  refine WL_rd (Rd_ext0 rfl) rfl rfl rfl ?_
                  refine WL_rd (Rd_ext1 rfl) rfl rfl rfl ?_
                  refine WL_ac (Ac_allocW (k := .u8) (w := 8) (m := 32) zr42) rfl rfl rfl ?_
                  rintro _ _ ⟨b24, rfl, rfl⟩
                  refine WL_ac0 (Ac_storeW rfl rfl sz42) rfl rfl ?_
                  rintro _ _ rfl
                  refine WL_rd (Rd_assign rfl) rfl rfl rfl ?_
                  refine WL_end hK48 ?_
                  refine WC_seq fun K49 hK49 => ?_
                  refine WC_drawA mix (fun i => ([2, 2, 2, 2, 2, 2, 2, 2, 2, 2, 2, 2, 2, 2] : List Nat).getD i 0) ?_
                  refine WJ_takeP 0 rfl (by kernel_rfl) (Rd_move rfl) rfl rfl rfl (hp _ _) ?_
                  refine WJ_takeP 1 rfl (by kernel_rfl) (Rd_isF (Rd_neq rfl rfl)) rfl rfl rfl (hp _ _) ?_
                  refine WJ_takeP 2 rfl (by kernel_rfl) (Rd_move rfl) rfl rfl rfl (hp _ _) ?_
                  refine WJ_takeP 3 rfl (by kernel_rfl) (Rd_move rfl) rfl rfl rfl (hp _ _) ?_
                  refine WJ_takeP 4 rfl (by kernel_rfl) (Rd_not rfl) rfl rfl rfl (hp _ _) ?_
                  refine WJ_takeP 5 rfl (by kernel_rfl) (Rd_pickF rfl rfl) rfl rfl rfl (hp _ _) ?_
                  refine WJ_takeP 6 rfl (by kernel_rfl) (Rd_move rfl) rfl rfl rfl (hp _ _) ?_
                  refine WJ_tk 7 (Rd_loadW (l := ((tnD ls) ((wdM ls.length) + i)).1) rfl tk42) hp ?_ rfl (by kernel_rfl) rfl rfl rfl
                  refine WJ_takeP 8 rfl (by kernel_rfl) (Rd_move rfl) rfl rfl rfl (hp _ _) ?_
                  refine WJ_takeP 9 rfl (by kernel_rfl) (Rd_move rfl) rfl rfl rfl (hp _ _) ?_
                  refine WJ_takeP 10 rfl (by kernel_rfl) (Rd_index_sv i rfl rfl ud76 sz42 (hA := hS) (hi := by omega)) rfl rfl rfl (hp _ _) ?_
                  refine WJ_tk 11 (Rd_aU (k := .u8) (l := ((tnD ls) ((wdM ls.length) + i)).1) (Rd_loadg_sv (f := fD) (i := i) rfl tk42 (hA := hS) (hl := hti)) rfl) hp ?_ rfl (by kernel_rfl) rfl rfl rfl
                  refine WJ_takeP 12 rfl (by kernel_rfl) (Rd_isF (Rd_neW rfl rfl ais42) (by simp)) rfl rfl rfl (hp _ _) ?_
                  refine WJ_takeP 13 rfl (by kernel_rfl) (Rd_pickF rfl rfl) rfl rfl rfl (hp _ _) ?_
                  refine WJ_done (by kernel_rfl) ?_
                  refine Ps_next hK49 ?_
                  refine WC_condF rfl ?_
                  refine WC_skip ?_
                  refine Ps_next hK14 ?_
                  refine WC_region ?_
                  refine WL_rd (Rd_addN (j := 1) rfl rfl) rfl rfl rfl ?_
                  refine WL_rd (Rd_move rfl) rfl rfl rfl ?_
                  refine WL_nil ?_
                  refine Ps_wk (by (try simp only [List.cons_append, List.nil_append]); repeat (first | with_reducible exact Wk.nil | refine Wk.cons (by first | rfl | (simp only [List.length_append, List.length_cons, List.length_nil, List.length_replicate, Nat.zero_add]; rfl) | (simp; done)) ?_)) (by (try simp only [List.cons_append, List.nil_append]); first | ((repeat (first | with_reducible exact Sub.refl | with_reducible apply Sub.cons Ext.here | with_reducible apply Sub.tail)); done) | (repeat (first | with_reducible exact Sub.refl | with_reducible exact Sub.nil | (with_reducible apply Sub.cons; · (repeat (first | with_reducible exact Ext.here | with_reducible apply Ext.there))) | with_reducible apply Sub.tail))) (hK11 ⟨k + 1, KN⟩ (⟨by (try dsimp only); omega, hwn, hln', hsn⟩) (by (try dsimp only); omega))
      · try simp only [decide_eq_true_eq, decide_eq_false_iff_not, Bool.not_eq_true', Bool.not_eq_false', Bool.not_eq_true, Bool.not_eq_false, Int.not_lt, Int.not_le, Nat.not_lt, Nat.not_le, Decidable.not_not, ne_eq] at hc2
        refine WC_exit ?_
        refine Ps_next hK9 ?_
        refine WC_seq fun K50 hK50 => ?_
        refine WC_sr fun K51 hK51 => ?_
        refine WL_rd (Rd_assign rfl) rfl rfl rfl ?_
        refine WL_end hK51 ?_
        refine WC_block ?_
        refine WC_loopK (σ := Nat) (fun t => [(26, .int .i64 ((t : Nat) : Int))]) (fun t => []) (fun t => 1 ≤ t) (fun t => 2 * (wdM ls.length) - t) (1) [7, 9] (by repeat (first | exact Kep.nil | apply Kep.drop rfl | apply Kep.keep rfl)) (by (try dsimp only); repeat (first | with_reducible exact Gv.nil | (with_reducible apply Gv.cons; · (repeat (first | with_reducible exact Ext.here | with_reducible apply Ext.there))))) ?_ ?_ Sub.refl ?_
        · exact Nat.le_refl _
        · (try dsimp only); exact (Wk.cons (by first | rfl | (simp only [List.length_append, List.length_cons, List.length_nil, List.length_replicate, Nat.zero_add]; rfl) | (simp; done)) Wk.nil)
        · rintro t ht1 K52 hK52
          simp only [List.cons_append, List.nil_append]
          have hdt := Dg_len ((Kc (nt t)).getD zD)
          have hdu := Dg_len ((tnD ls) t)
          refine WC_seq fun K53 hK53 => ?_
          refine WC_sr fun K54 hK54 => ?_
          refine WL_rd (Rd_move rfl) rfl rfl rfl ?_
          refine WL_rd (Rd_move rfl) rfl rfl rfl ?_
          refine WL_rd (Rd_len rfl rfl ud76) rfl rfl rfl ?_
          refine WL_rd (Rd_leqN rfl rfl) rfl rfl rfl ?_
          refine WL_end hK54 ?_
          refine WC_cond rfl (fun hc10 => ?_) (fun hc10 => ?_)
          · try simp only [decide_eq_true_eq, decide_eq_false_iff_not, Bool.not_eq_true', Bool.not_eq_false', Bool.not_eq_true, Bool.not_eq_false, Int.not_lt, Int.not_le, Nat.not_lt, Nat.not_le, Decidable.not_not, ne_eq] at hc10
            refine WC_skip ?_
            refine Ps_next hK53 ?_
            refine WC_seq fun K55 hK55 => ?_
            refine WC_block ?_
            refine WC_sr fun K56 hK56 => ?_
            refine WL_rd (Rd_move rfl) rfl rfl rfl ?_
            refine WL_rd (Rd_move rfl) rfl rfl rfl ?_
            refine WL_ac (Ac_call cf76 rfl (hs := pKnown_ct (pb := pb) (m := m) (n := ls.length) (w := (wdM ls.length)) (Kn := Kc) (i := nt t))) rfl rfl rfl ?_
            rintro _ _ ⟨⟨⟩, rfl, hA⟩
            simp only [List.cons_append, List.nil_append] at hA
            replace hA := hA.symm
            subst hA
            refine WL_rd (Rd_move rfl) rfl rfl rfl ?_
            refine WL_rd (Rd_ext0 rfl) rfl rfl rfl ?_
            refine WL_rd (Rd_ext1 rfl) rfl rfl rfl ?_
            refine WL_ac (Ac_allocW (k := .u8) (w := 8) (m := 32) zr42) rfl rfl rfl ?_
            rintro _ _ ⟨b27, rfl, rfl⟩
            refine WL_ac0 (Ac_storeW rfl rfl sz42) rfl rfl ?_
            rintro _ _ rfl
            refine WL_rd (Rd_assign rfl) rfl rfl rfl ?_
            refine WL_end hK56 ?_
            refine WC_seq fun K57 hK57 => ?_
            refine WC_drawA mix (fun i => ([2, 2, 2, 2, 2, 2, 2, 2, 2, 2] : List Nat).getD i 0) ?_
            refine WJ_takeP 0 rfl (by kernel_rfl) (Rd_move rfl) rfl rfl rfl (hp _ _) ?_
            refine WJ_takeP 1 rfl (by kernel_rfl) (Rd_move rfl) rfl rfl rfl (hp _ _) ?_
            refine WJ_bool 188 rfl (fun hg58 => ?_) (fun hg58 => ?_)
            · try simp only [decide_eq_true_eq, decide_eq_false_iff_not, Bool.not_eq_true', Bool.not_eq_false', Bool.not_eq_true, Bool.not_eq_false, Int.not_lt, Int.not_le, Nat.not_lt, Nat.not_le, Decidable.not_not, ne_eq] at hg58
              have q7 := hg58
              refine WJ_tk 2 (Rd_loadW (l := ((Kc (nt t)).getD zD).1) rfl tk42) hp ?_ rfl (by kernel_rfl) rfl rfl rfl
              refine WJ_takeP 3 rfl (by kernel_rfl) (Rd_move rfl) rfl rfl rfl (hp _ _) ?_
              refine WJ_takeP 4 rfl (by kernel_rfl) (Rd_move rfl) rfl rfl rfl (hp _ _) ?_
              refine WJ_takeP 5 rfl (by kernel_rfl) (Rd_subN (j := 1) rfl rfl) rfl rfl rfl (hp _ _) ?_
              refine WJ_takeP 6 rfl (by kernel_rfl) (Rd_index (t - 1) rfl rfl ud76 sz42 (hi := by omega)) rfl rfl rfl (hp _ _) ?_
              refine WJ_tk 7 (Rd_aU (k := .u8) (l := ((tnD ls) (t)).1) (Rd_loadg_arr (f := fD) (i := t - 1) rfl tk42 (hl := at_of (by omega))) rfl) hp ?_ rfl (by kernel_rfl) rfl rfl rfl
              refine WJ_takeP 8 rfl (by kernel_rfl) (Rd_isF (Rd_neW rfl rfl ais42) (by rw [hwh.tru t _ (kis q7)]; simp)) rfl rfl rfl (hp _ _) ?_
              refine WJ_takeP 9 rfl (by kernel_rfl) (Rd_pickT rfl rfl) rfl rfl rfl (hp _ _) ?_
              refine WJ_done (by kernel_rfl) ?_
              refine Ps_next hK57 ?_
              refine WC_condF rfl ?_
              refine WC_skip ?_
              refine Ps_next hK55 ?_
              refine WC_region ?_
              refine WL_rd (Rd_move rfl) rfl rfl rfl ?_
              refine WL_rd (Rd_addN (j := 1) rfl rfl) rfl rfl rfl ?_
              refine WL_rd (Rd_assign rfl) rfl rfl rfl ?_
              refine WL_nil ?_
              refine Ps_wk (by (try simp only [List.cons_append, List.nil_append]); repeat (first | with_reducible exact Wk.nil | refine Wk.cons (by first | rfl | (simp only [List.length_append, List.length_cons, List.length_nil, List.length_replicate, Nat.zero_add]; rfl) | (simp; done)) ?_)) (by (try simp only [List.cons_append, List.nil_append]); first | ((repeat (first | with_reducible exact Sub.refl | with_reducible apply Sub.cons Ext.here | with_reducible apply Sub.tail)); done) | (repeat (first | with_reducible exact Sub.refl | with_reducible exact Sub.nil | (with_reducible apply Sub.cons; · (repeat (first | with_reducible exact Ext.here | with_reducible apply Ext.there))) | with_reducible apply Sub.tail))) (hK52 (t + 1) (by omega) (by omega))
            · try simp only [decide_eq_true_eq, decide_eq_false_iff_not, Bool.not_eq_true', Bool.not_eq_false', Bool.not_eq_true, Bool.not_eq_false, Int.not_lt, Int.not_le, Nat.not_lt, Nat.not_le, Decidable.not_not, ne_eq] at hg58
              refine WJ_skip 2 rfl (by kernel_rfl) rfl rfl rfl (hp _ _) ?_
              refine WJ_skip 3 rfl (by kernel_rfl) rfl rfl rfl (hp _ _) ?_
              refine WJ_skip 4 rfl (by kernel_rfl) rfl rfl rfl (hp _ _) ?_
              refine WJ_skip 5 rfl (by kernel_rfl) rfl rfl rfl (hp _ _) ?_
              refine WJ_skip 6 rfl (by kernel_rfl) rfl rfl rfl (hp _ _) ?_
              refine WJ_skip 7 rfl (by kernel_rfl) rfl rfl rfl (hp _ _) ?_
              refine WJ_skip 8 rfl (by kernel_rfl) rfl rfl rfl (hp _ _) ?_
              refine WJ_takeP 9 rfl (by kernel_rfl) (Rd_pickF rfl rfl) rfl rfl rfl (hp _ _) ?_
              refine WJ_done (by kernel_rfl) ?_
              refine Ps_next hK57 ?_
              refine WC_condF rfl ?_
              refine WC_skip ?_
              refine Ps_next hK55 ?_
              refine WC_region ?_
              refine WL_rd (Rd_move rfl) rfl rfl rfl ?_
              refine WL_rd (Rd_addN (j := 1) rfl rfl) rfl rfl rfl ?_
              refine WL_rd (Rd_assign rfl) rfl rfl rfl ?_
              refine WL_nil ?_
              refine Ps_wk (by (try simp only [List.cons_append, List.nil_append]); repeat (first | with_reducible exact Wk.nil | refine Wk.cons (by first | rfl | (simp only [List.length_append, List.length_cons, List.length_nil, List.length_replicate, Nat.zero_add]; rfl) | (simp; done)) ?_)) (by (try simp only [List.cons_append, List.nil_append]); first | ((repeat (first | with_reducible exact Sub.refl | with_reducible apply Sub.cons Ext.here | with_reducible apply Sub.tail)); done) | (repeat (first | with_reducible exact Sub.refl | with_reducible exact Sub.nil | (with_reducible apply Sub.cons; · (repeat (first | with_reducible exact Ext.here | with_reducible apply Ext.there))) | with_reducible apply Sub.tail))) (hK52 (t + 1) (by omega) (by omega))
          · try simp only [decide_eq_true_eq, decide_eq_false_iff_not, Bool.not_eq_true', Bool.not_eq_false', Bool.not_eq_true, Bool.not_eq_false, Int.not_lt, Int.not_le, Nat.not_lt, Nat.not_le, Decidable.not_not, ne_eq] at hc10
            refine WC_exit ?_
            refine Ps_next hK50 ?_
            refine WC_sr fun K59 hK59 => ?_
            refine WL_rd (Rd_assign rfl) rfl rfl rfl ?_
            refine WL_end hK59 ?_
            refine WC_ret ?_
            exact hret.go () (Rs1 rfl rfl) (hs := by simp only [List.cons_append, List.nil_append]; first | ((repeat (first | with_reducible exact Sub.refl | with_reducible apply Sub.cons Ext.here | with_reducible apply Sub.tail)); done) | (repeat (first | with_reducible exact Sub.refl | with_reducible exact Sub.nil | (with_reducible apply Sub.cons; · (repeat (first | with_reducible exact Ext.here | with_reducible apply Ext.there))) | with_reducible apply Sub.tail)))
end Go.Proofs.Ytgkpbeikcpecbaa
