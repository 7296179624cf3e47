/-
  Contracts of functions that the claim reaches, or the logic and the plain laws that they rest on, or the row over them. (Conditions: none beyond the statement.)
-/
import Derived.Test.YtilmiikfjcdllaaHyGa
import Derived.Test.YtilmiikfjcdllaaLibC
import Derived.Test.YtilmiikfjcdllaaLibE
set_option linter.all false
namespace Go.Proofs.Ytilmiikfjcdllaa
open Go.RowKit Go.SL Go.ShM Go.HyM Go.Fl Go.SvM
set_option maxHeartbeats 1000000
set_option maxRecDepth 20000
set_option linter.all false
theorem cf50 : cfn Try.prog 50 = true := by kernel_rfl
theorem tk58 : tk Try.prog 58 = some none := by kernel_rfl
theorem tk82 : tk Try.prog 82 = some none := by kernel_rfl
theorem tk84 : tk Try.prog 84 = some none := by kernel_rfl
theorem ud82 : Try.prog.underlying 82 = some (.map 3 83) := by kernel_rfl
theorem growL_cons {rec : Int → Gs → Bool × Gs} {s x : Int} {xs : List Int} {j : Nat} {st : Gs} (h : xs[j]? = some x) : growL rec s (xs.drop j) st = growL rec s (x :: xs.drop (j + 1)) st := by
  have hj := (List.getElem?_eq_some_iff.1 h)
  rw [List.drop_eq_getElem_cons hj.1, hj.2]
theorem growL_skip {rec : Int → Gs → Bool × Gs} {s x : Int} {xs : List Int} {st : Gs} (h : 0 < at0 x st.T) : growL rec s (x :: xs) st = growL rec s xs st := by rw [growL, if_pos h]
theorem growL_free {rec : Int → Gs → Bool × Gs} {s x : Int} {xs : List Int} {st : Gs} (h : ¬ 0 < at0 x st.T) (h2 : at0 x st.W = 0) : growL rec s (x :: xs) st = (true, ⟨putL x 1 st.T, putL x (s + 1) st.W⟩) := by rw [growL, if_neg h, if_pos h2]
theorem growL_yes {rec : Int → Gs → Bool × Gs} {s x : Int} {xs : List Int} {st : Gs} (h : ¬ 0 < at0 x st.T) (h2 : ¬ at0 x st.W = 0) (h3 : (rec (at0 x st.W - 1) ⟨putL x 1 st.T, st.W⟩).1 = true) : growL rec s (x :: xs) st = (true, ⟨(rec (at0 x st.W - 1) ⟨putL x 1 st.T, st.W⟩).2.T, putL x (s + 1) (rec (at0 x st.W - 1) ⟨putL x 1 st.T, st.W⟩).2.W⟩) := by rw [growL, if_neg h, if_neg h2, if_pos h3]
theorem growL_no {rec : Int → Gs → Bool × Gs} {s x : Int} {xs : List Int} {st : Gs} (h : ¬ 0 < at0 x st.T) (h2 : ¬ at0 x st.W = 0) (h3 : ¬ (rec (at0 x st.W - 1) ⟨putL x 1 st.T, st.W⟩).1 = true) : growL rec s (x :: xs) st = growL rec s xs (rec (at0 x st.W - 1) ⟨putL x 1 st.T, st.W⟩).2 := by rw [growL, if_neg h, if_neg h2, if_neg h3]

theorem growS_ct {X : Asn} {pF pT pW pG mF mT mW : Nat} {LF : List (Int × OS)} {g : Nat} {s : Int} {T0 W0 : List (Int × Int)} (hV : ∀ s, Sv [X] (sl (outO s LF).a (outO s LF).l.length (outO s LF).cap) 1 eI (outO s LF).l ((outO s LF).a.map fun g => ⟨g, 0, none⟩) (outO s LF).cap) (hadj : ∀ s, ∀ x ∈ adjO LF s, 0 ≤ x ∧ x < 255) (hlen : ∀ s, (adjO LF s).length ≤ 100000000) (hs : 0 ≤ s ∧ s < 32) (hun : untried T0 < g + 1) (hW : okW W0) (ih : ∀ (s : Int) (T W : List (Int × Int)), (0 ≤ s ∧ s < 32) → untried T < g → okW W → Ct Try.prog 50 [.int .i64 (s), .pointer (some ⟨pF, 0, none⟩), .pointer (some ⟨pT, 0, none⟩), .pointer (some ⟨pW, 0, none⟩), .pointer (some ⟨pG, 0, none⟩)] [cl pF 82 [.map (some mF)], cl pT 58 [.map (some mT)], cl pW 58 [.map (some mW)], cl pG 84 [.func (.func 50) #[] #[.pointer (some ⟨pF, 0, none⟩), .pointer (some ⟨pT, 0, none⟩), .pointer (some ⟨pW, 0, none⟩), .pointer (some ⟨pG, 0, none⟩)]], mpP mF kfN vfS LF, mpP mT kfN vfN T, mpP mW kfN vfN W, X] (fun _ : Unit => .bool (growM (adjO LF) g s ⟨T, W⟩).1) (fun _ => [cl pF 82 [.map (some mF)], cl pT 58 [.map (some mT)], cl pW 58 [.map (some mW)], cl pG 84 [.func (.func 50) #[] #[.pointer (some ⟨pF, 0, none⟩), .pointer (some ⟨pT, 0, none⟩), .pointer (some ⟨pW, 0, none⟩), .pointer (some ⟨pG, 0, none⟩)]], mpP mF kfN vfS LF, mpP mT kfN vfN (growM (adjO LF) g s ⟨T, W⟩).2.T, mpP mW kfN vfN (growM (adjO LF) g s ⟨T, W⟩).2.W, X])) : Ct Try.prog 50 [.int .i64 s, .pointer (some ⟨pF, 0, none⟩), .pointer (some ⟨pT, 0, none⟩), .pointer (some ⟨pW, 0, none⟩), .pointer (some ⟨pG, 0, none⟩)] [cl pF 82 [.map (some mF)], cl pT 58 [.map (some mT)], cl pW 58 [.map (some mW)], cl pG 84 [.func (.func 50) #[] #[.pointer (some ⟨pF, 0, none⟩), .pointer (some ⟨pT, 0, none⟩), .pointer (some ⟨pW, 0, none⟩), .pointer (some ⟨pG, 0, none⟩)]], mpP mF kfN vfS LF, mpP mT kfN vfN T0, mpP mW kfN vfN W0, X] (fun _ : Unit => .bool (growM (adjO LF) (g + 1) s ⟨T0, W0⟩).1) (fun _ => [cl pF 82 [.map (some mF)], cl pT 58 [.map (some mT)], cl pW 58 [.map (some mW)], cl pG 84 [.func (.func 50) #[] #[.pointer (some ⟨pF, 0, none⟩), .pointer (some ⟨pT, 0, none⟩), .pointer (some ⟨pW, 0, none⟩), .pointer (some ⟨pG, 0, none⟩)]], mpP mF kfN vfS LF, mpP mT kfN vfN (growM (adjO LF) (g + 1) s ⟨T0, W0⟩).2.T, mpP mW kfN vfN (growM (adjO LF) (g + 1) s ⟨T0, W0⟩).2.W, X]) := by
 refine Ct_body (n := 40) Try.func50 rfl rfl rfl fun F w0 Q hret hnorm hp => ?_
 change WC _ _ _ _ _ _ _ (_ :: _ :: _ :: _ :: _ :: _ :: _ :: _ :: F)
 have hxl := hlen s
 rw [← outO_l] at hxl
 have hres : (growM (adjO LF) (g + 1) s ⟨T0, W0⟩) = growL (growM (adjO LF) g) s ((adjO LF s).drop 0) ⟨T0, W0⟩ := rfl
 refine WC_sr fun K1 hK1 => ?_
 refine WL_r (Rd_assign rfl) rfl ?_
 refine WL_end hK1 ?_
 refine WC_seq fun K2 hK2 => ?_
 refine WC_sr fun K3 hK3 => ?_
 refine WL_r (Rd_load rfl tk82 (v := .map (some mF))) rfl ?_
 refine WL_r (Rd_move rfl) rfl ?_
 refine WL_r (Rd_valE (v := sl (outO s LF).a (outO s LF).l.length (outO s LF).cap) (Rd_lookP1 (kf := kfN) (vf := vfS) (l := LF) keyN rfl rfl ud82 zvS) look_out) rfl ?_
 refine WL_r (Rd_len_sv rfl rfl ud83 (hA := hV s)) rfl ?_
 refine WL_r (Rd_move rfl) rfl ?_
 refine WL_end hK3 ?_
 refine WC_block ?_
 refine WC_loopK (σ := Nat × (List (Int × Int)) × (List (Int × Int))) (fun ⟨j, T, W⟩ => [(13, .int .i64 ((j : Nat) : Int))]) (fun ⟨j, T, W⟩ => [mpP mT kfN vfN T, mpP mW kfN vfN W]) (fun ⟨j, T, W⟩ => j ≤ (outO s LF).l.length ∧ untried T < g + 1 ∧ okW W ∧ (growM (adjO LF) (g + 1) s ⟨T0, W0⟩) = growL (growM (adjO LF) g) s ((adjO LF s).drop j) ⟨T, W⟩) (fun ⟨j, T, W⟩ => (outO s LF).l.length - j) ⟨0, T0, W0⟩ [0, 2, 3, 4, 11, 12] kpA (by (try dsimp only); repeat (first | with_reducible exact Gv.nil | (with_reducible apply Gv.cons; · (repeat (first | with_reducible exact Ext.here | with_reducible apply Ext.there))))) ?_ ?_ Sub.refl ?_
 ·exact ⟨Nat.zero_le _, hun, hW, hres⟩
 ·(try dsimp only); exact (Wk.cons lkA Wk.nil)
 ·rintro ⟨j, T, W⟩ ⟨hj, hunT, hok, hres⟩ K4 hK4
  simp only [List.cons_append, List.nil_append]
  refine WC_sr fun K5 hK5 => ?_
  refine WL_r (Rd_lssN rfl rfl) rfl ?_
  refine WL_end hK5 ?_
  refine WC_seq fun K6 hK6 => ?_
  refine WC_cond rfl (fun hc0 => ?_) (fun hc0 => ?_)
  ·try simp only [dz, ne_eq] at hc0
   obtain ⟨x, hx0⟩ : ∃ x, (outO s LF).l[j]? = some x := ⟨_, List.getElem?_eq_getElem (by omega)⟩
   have hx1 : (adjO LF s)[j]? = some x := by rw [← outO_l]; exact hx0
   have hxb := hadj s x (List.mem_of_getElem? hx1)
   rw [growL_cons hx1] at hres
   have hxW := hok x
   refine WC_skip ?_
   refine Ps_next hK6 ?_
   refine WC_seq fun K7 hK7 => ?_
   refine WC_block ?_
   refine WC_sr fun K8 hK8 => ?_
   refine WL_r (Rd_index_sv j rfl rfl ud83 sz3 (hA := hV s) (hi := by omega)) rfl ?_
   refine WL_r (Rd_load_sv (i := j) (j := 0) (y := x) rfl tk3 (hA := hV s) (hl := hx0) (hv := rfl)) rfl ?_
   refine WL_r (Rd_assign rfl) rfl ?_
   refine WL_end hK8 ?_
   refine WC_seq fun K9 hK9 => ?_
   refine WC_sr fun K10 hK10 => ?_
   refine WL_r (Rd_load rfl tk58 (v := .map (some mT))) rfl ?_
   refine WL_r (Rd_move rfl) rfl ?_
   refine WL_r (Rd_valE (v := .int .i64 (at0 (x) T)) (Rd_lookP1 (kf := kfN) (vf := vfN) (l := T) keyN rfl rfl ud58 zvN) look_at0) rfl ?_
   refine WL_r (Rd_gtr rfl rfl) rfl ?_
   refine WL_end hK10 ?_
   refine WC_cond rfl (fun hc1 => ?_) (fun hc1 => ?_)
   ·try simp only [dz, ne_eq] at hc1
    rw [growL_skip (show 0 < at0 x (⟨T, W⟩ : Gs).T from by first | assumption | omega)] at hres
    refine WC_exit ?_
    refine Ps_next hK7 ?_
    refine WC_region ?_
    refine WL_r (Rd_addN (j := 1) rfl rfl) rfl ?_
    refine WL_r (Rd_move rfl) rfl ?_
    refine WL_nil ?_
    refine Ps_wkB (hK4 ⟨j + 1, T, W⟩ (⟨by (try dsimp only); omega, hunT, hok, hres⟩) (by (try dsimp only); omega))
   ·try simp only [dz, ne_eq] at hc1
    have hnt : ¬ 0 < at0 x (⟨T, W⟩ : Gs).T := by first | assumption | (show ¬ 0 < at0 x T; omega)
    have hup := untried_put hxb (show at0 x T ≤ 0 by first | omega | (have := hnt; dsimp only at this; omega))
    refine WC_skip ?_
    refine Ps_next hK9 ?_
    refine WC_sr fun K11 hK11 => ?_
    refine WL_r (Rd_load rfl tk58 (v := .map (some mT))) rfl ?_
    refine WL_r (Rd_move rfl) rfl ?_
    refine WL_ac0 (Ac_putP (kf := kfN) (vf := vfN) 1 keyN rfl rfl rfl ud58) rfl rfl ?_
    rintro _ _ rfl
    refine WL_end hK11 ?_
    refine WC_sr fun K12 hK12 => ?_
    refine WL_r (Rd_load rfl tk58 (v := .map (some mW))) rfl ?_
    refine WL_r (Rd_move rfl) rfl ?_
    refine WL_r (Rd_valE (v := .int .i64 (at0 (x) W)) (Rd_lookP1 (kf := kfN) (vf := vfN) (l := W) keyN rfl rfl ud58 zvN) look_at0) rfl ?_
    refine WL_r (Rd_eql rfl rfl) rfl ?_
    refine WL_r (Rd_move rfl) rfl ?_
    refine WL_bool 27 rfl (fun hg13 => ?_) (fun hg13 => ?_)
    ·try simp only [dz, ne_eq] at hg13
     refine WL_skip rfl rfl rfl ?_
     refine WL_skip rfl rfl rfl ?_
     refine WL_skip rfl rfl rfl ?_
     refine WL_skip rfl rfl rfl ?_
     refine WL_skip rfl rfl rfl ?_
     refine WL_skip rfl rfl rfl ?_
     refine WL_r (Rd_pickT rfl rfl) rfl ?_
     refine WL_end hK12 ?_
     refine WC_condT rfl ?_
     refine WC_sr fun K14 hK14 => ?_
     refine WL_r (Rd_load rfl tk58 (v := .map (some mW))) rfl ?_
     refine WL_r (Rd_move rfl) rfl ?_
     refine WL_r (Rd_move rfl) rfl ?_
     refine WL_r (Rd_add' rfl rfl (wr64 rfl (by omega) (by omega))) rfl ?_
     refine WL_ac0 (Ac_putP (kf := kfN) (vf := vfN) (s + 1) keyN rfl rfl rfl ud58) rfl rfl ?_
     rintro _ _ rfl
     refine WL_end hK14 ?_
     refine WC_sr fun K15 hK15 => ?_
     refine WL_r (Rd_assign rfl) rfl ?_
     refine WL_end hK15 ?_
     refine WC_ret ?_
     first | (rw [growL_free hnt (by assumption)] at hres; rw [hres] at hret; exact hret.go () (Rs1 rfl rfl)) | (rw [growL_yes hnt (by assumption) (by assumption)] at hres; rw [hres] at hret; exact hret.go () (Rs1 rfl rfl))
    ·try simp only [dz, ne_eq] at hg13
     refine WL_r (Rd_load rfl tk84 (v := .func (.func 50) #[] #[.pointer (some ⟨pF, 0, none⟩), .pointer (some ⟨pT, 0, none⟩), .pointer (some ⟨pW, 0, none⟩), .pointer (some ⟨pG, 0, none⟩)])) rfl ?_
     refine WL_r (Rd_load rfl tk58 (v := .map (some mW))) rfl ?_
     refine WL_r (Rd_move rfl) rfl ?_
     refine WL_r (Rd_valE (v := .int .i64 (at0 (x) W)) (Rd_lookP1 (kf := kfN) (vf := vfN) (l := W) keyN rfl rfl ud58 zvN) look_at0) rfl ?_
     refine WL_r (Rd_sub' rfl rfl (wr64 rfl (by omega) (by omega))) rfl ?_
     refine WL_ac (Ac_callv rfl cf50 rfl rfl rfl rfl (hs := ih (at0 x W - 1) (putL x 1 T) W (by omega) (by omega) hok)) rfl rfl rfl ?_
     rintro _ _ ⟨⟨⟩, rfl, hA⟩
     simp only [List.cons_append, List.nil_append] at hA
     replace hA := hA.symm
     subst hA
     refine WL_r (Rd_pickF rfl rfl) rfl ?_
     refine WL_end hK12 ?_
     refine WC_cond rfl (fun hc2 => ?_) (fun hc2 => ?_)
     ·try simp only [dz, ne_eq] at hc2
      refine WC_sr fun K16 hK16 => ?_
      refine WL_r (Rd_load rfl tk58 (v := .map (some mW))) rfl ?_
      refine WL_r (Rd_move rfl) rfl ?_
      refine WL_r (Rd_move rfl) rfl ?_
      refine WL_r (Rd_add' rfl rfl (wr64 rfl (by omega) (by omega))) rfl ?_
      refine WL_ac0 (Ac_putP (kf := kfN) (vf := vfN) (s + 1) keyN rfl rfl rfl ud58) rfl rfl ?_
      rintro _ _ rfl
      refine WL_end hK16 ?_
      refine WC_sr fun K17 hK17 => ?_
      refine WL_r (Rd_assign rfl) rfl ?_
      refine WL_end hK17 ?_
      refine WC_ret ?_
      first | (rw [growL_free hnt (by assumption)] at hres; rw [hres] at hret; exact hret.go () (Rs1 rfl rfl)) | (rw [growL_yes hnt (by assumption) (by assumption)] at hres; rw [hres] at hret; exact hret.go () (Rs1 rfl rfl))
     ·try simp only [dz, ne_eq] at hc2
      have hwn : ¬ at0 x (⟨T, W⟩ : Gs).W = 0 := by assumption
      have hgk := growM_K hadj g (at0 x W - 1) ⟨putL x 1 T, W⟩ (by omega) hok
      rw [growL_no hnt hwn (by first | assumption | simpa using hc2)] at hres
      refine WC_skip ?_
      refine Ps_next hK7 ?_
      refine WC_region ?_
      refine WL_r (Rd_addN (j := 1) rfl rfl) rfl ?_
      refine WL_r (Rd_move rfl) rfl ?_
      refine WL_nil ?_
      refine Ps_wkB (hK4 ⟨j + 1, (growM (adjO LF) g (at0 x W - 1) ⟨putL x 1 T, W⟩).2.T, (growM (adjO LF) g (at0 x W - 1) ⟨putL x 1 T, W⟩).2.W⟩ (⟨by (try dsimp only); omega, by have := hgk.un; dsimp only at this ⊢; omega, hgk.w, hres⟩) (by (try dsimp only); omega))
  ·try simp only [dz, ne_eq] at hc0
   have hend : (adjO LF s).drop j = [] := List.drop_of_length_le (by rw [← outO_l]; omega)
   rw [hend] at hres
   replace hres : (growM (adjO LF) (g + 1) s ⟨T0, W0⟩) = (false, ⟨T, W⟩) := hres
   refine WC_exit ?_
   refine Ps_next hK2 ?_
   refine WC_sr fun K18 hK18 => ?_
   refine WL_r (Rd_assign rfl) rfl ?_
   refine WL_end hK18 ?_
   refine WC_ret ?_
   rw [hres] at hret
   exact hret.gf () (Rs1 rfl rfl)

theorem grow_ct {X : Asn} {pF pT pW pG mF mT mW : Nat} {LF : List (Int × OS)} (hV : ∀ s, Sv [X] (sl (outO s LF).a (outO s LF).l.length (outO s LF).cap) 1 eI (outO s LF).l ((outO s LF).a.map fun g => ⟨g, 0, none⟩) (outO s LF).cap) (hadj : ∀ s, ∀ x ∈ adjO LF s, 0 ≤ x ∧ x < 255) (hlen : ∀ s, (adjO LF s).length ≤ 100000000) : ∀ (f : Nat) (s : Int) (T W : List (Int × Int)), (0 ≤ s ∧ s < 32) → untried T < f → okW W → Ct Try.prog 50 [.int .i64 (s), .pointer (some ⟨pF, 0, none⟩), .pointer (some ⟨pT, 0, none⟩), .pointer (some ⟨pW, 0, none⟩), .pointer (some ⟨pG, 0, none⟩)] [cl pF 82 [.map (some mF)], cl pT 58 [.map (some mT)], cl pW 58 [.map (some mW)], cl pG 84 [.func (.func 50) #[] #[.pointer (some ⟨pF, 0, none⟩), .pointer (some ⟨pT, 0, none⟩), .pointer (some ⟨pW, 0, none⟩), .pointer (some ⟨pG, 0, none⟩)]], mpP mF kfN vfS LF, mpP mT kfN vfN T, mpP mW kfN vfN W, X] (fun _ : Unit => .bool (growM (adjO LF) f s ⟨T, W⟩).1) (fun _ => [cl pF 82 [.map (some mF)], cl pT 58 [.map (some mT)], cl pW 58 [.map (some mW)], cl pG 84 [.func (.func 50) #[] #[.pointer (some ⟨pF, 0, none⟩), .pointer (some ⟨pT, 0, none⟩), .pointer (some ⟨pW, 0, none⟩), .pointer (some ⟨pG, 0, none⟩)]], mpP mF kfN vfS LF, mpP mT kfN vfN (growM (adjO LF) f s ⟨T, W⟩).2.T, mpP mW kfN vfN (growM (adjO LF) f s ⟨T, W⟩).2.W, X])
  | 0, s, T, W, _, hu, _ => by omega
  | g + 1, s, T, W, hs, hu, hw => growS_ct hV hadj hlen hs hu hw (grow_ct hV hadj hlen g)
end Go.Proofs.Ytilmiikfjcdllaa
namespace Go.Proofs.Ytilmiikfjcdllaa
open Go.RowKit Go.SL Go.ShM Go.HyM Go.Fl Go.SvM
set_option maxHeartbeats 1000000
set_option maxRecDepth 20000
set_option linter.all false
theorem el3 : el Try.prog 3 = some (1, 8) := by kernel_rfl
theorem sz58 : sz Try.prog 58 = some 1 := by kernel_rfl
theorem sz82 : sz Try.prog 82 = some 1 := by kernel_rfl
theorem sz84 : sz Try.prog 84 = some 1 := by kernel_rfl
theorem zr58 : zr Try.prog 58 = some [.map none] := by kernel_rfl
theorem zr82 : zr Try.prog 82 = some [.map none] := by kernel_rfl
theorem zr84 : zr Try.prog 84 = some [.nilFunc] := by kernel_rfl
theorem size_ct {X : Asn} {v : Value} {l : List Pr} {ao : Option Addr} {cap : Nat} (hS : Sv [X] v 2 ePr l ao cap) (hn : l.length ≤ 100000000) (hpo : ∀ p ∈ l, pOk p) : Ct Try.prog 32 [v] [X] (fun _ : Unit => .int .i64 (((sizeM l) : Nat) : Int)) (fun _ => [X]) := by
 refine Ct_body (n := 43) Try.func32 rfl rfl rfl fun F w0 Q hret hnorm hp => ?_
 change WC _ _ _ _ _ _ _ (_ :: F)
 refine WC_sr fun K1 hK1 => ?_
 refine WL_r (Rd_assign rfl) rfl ?_
 refine WL_end hK1 ?_
 refine WC_sr fun K2 hK2 => ?_
 refine WL_ac (Ac_makeP kfN vfN) rfl rfl rfl ?_
 rintro _ _ ⟨m11, rfl, rfl⟩
 refine WL_ac (Ac_alloc zr58) rfl rfl rfl ?_
 rintro _ _ ⟨b3, rfl, rfl⟩
 refine WL_ac0 (Ac_store1 rfl rfl sz58) rfl rfl ?_
 rintro _ _ rfl
 refine WL_end hK2 ?_
 refine WC_sr fun K3 hK3 => ?_
 refine WL_ac (Ac_makeP kfN vfS) rfl rfl rfl ?_
 rintro _ _ ⟨m12, rfl, rfl⟩
 refine WL_ac (Ac_alloc zr82) rfl rfl rfl ?_
 rintro _ _ ⟨b4, rfl, rfl⟩
 refine WL_ac0 (Ac_store1 rfl rfl sz82) rfl rfl ?_
 rintro _ _ rfl
 refine WL_end hK3 ?_
 refine WC_seq fun K4 hK4 => ?_
 refine WC_sr fun K5 hK5 => ?_
 refine WL_r (Rd_move rfl) rfl ?_
 refine WL_r (Rd_len_sv rfl rfl ud22) rfl ?_
 refine WL_r (Rd_move rfl) rfl ?_
 refine WL_end hK5 ?_
 refine WC_block ?_
 refine WC_star0 (FS 3 eI) ?_
 refine WC_loopK (σ := Nat × (List (Int × OS))) (fun ⟨i, LF⟩ => [(15, .int .i64 ((i : Nat) : Int))]) (fun ⟨i, LF⟩ => [mpP m12 kfN vfS LF, star (FS 3 eI) LF]) (fun ⟨i, LF⟩ => i ≤ l.length ∧ (∀ s, adjO LF s = numsM (l.take i) s)) (fun ⟨i, LF⟩ => l.length - i) ⟨0, []⟩ [2, 3, 4, 7, 8, 9, 10, 13, 14, 31, 32, 33, 34, 35, 36, 37, 38, 39, 40, 41, 42] kpA (by (try dsimp only); repeat (first | with_reducible exact Gv.nil | (with_reducible apply Gv.cons; · (repeat (first | with_reducible exact Ext.here | with_reducible apply Ext.there))))) ?_ ?_ Sub.refl ?_
 ·exact ⟨Nat.zero_le _, fun s => rfl⟩
 ·(try dsimp only); exact (Wk.cons lkA Wk.nil)
 ·rintro ⟨i, LF⟩ ⟨hi, hadj⟩ K6 hK6
  simp only [List.cons_append, List.nil_append]
  refine WC_sr fun K7 hK7 => ?_
  refine WL_r (Rd_lssN rfl rfl) rfl ?_
  refine WL_end hK7 ?_
  refine WC_seq fun K8 hK8 => ?_
  refine WC_cond rfl (fun hc0 => ?_) (fun hc0 => ?_)
  ·try simp only [dz, ne_eq] at hc0
   obtain ⟨p, hp0⟩ : ∃ p, l[i]? = some p := ⟨_, List.getElem?_eq_getElem (by omega)⟩
   refine WC_fact (fun w h => mpP_nd (m := m12) (kf := kfN) (vf := vfS) (l := LF) hasA h) (fun hnd => ?_)
   refine WC_out 3 eI p.1 hnd ?_
   have hyl : (outO p.1 LF).l.length ≤ 100000000 := by rw [outO_l, hadj]; have := nums_len (l.take i) p.1; rw [List.length_take] at this; omega
   refine WC_skip ?_
   refine Ps_next hK8 ?_
   refine WC_seq fun K9 hK9 => ?_
   refine WC_block ?_
   refine WC_sr fun K10 hK10 => ?_
   refine WL_r (Rd_index_sv i rfl rfl ud22 sz24 (hA := hS) (hi := by omega)) rfl ?_
   refine WL_r (Rd_loadg_sv (f := ePr) (i := i) (y := p) rfl tk24 (hA := hS) (hl := hp0)) rfl ?_
   refine WL_ac (Ac_alloc zr24) rfl rfl rfl ?_
   rintro _ _ ⟨b6, rfl, rfl⟩
   refine WL_ac0 (Ac_store (ys := ePr p) rfl rfl sz24 (h1 := encPr.one p) (hv := rfl) (hr := rfl)) rfl rfl ?_
   rintro _ _ rfl
   refine WL_end hK10 ?_
   refine WC_draw mix [cl b6 24 (ePr p), cl b4 82 [.map (some m12)], mpP m12 kfN vfS LF] (fun i => ([2, 2, 2, 2, 2, 2, 2, 2, 2, 1, 1, 0] : List Nat).getD i 0) ?_
   refine WJ_tk 0 (Rd_load rfl tk82 (v := .map (some m12))) hp ?_ rfl (by kernel_rfl) rfl rfl rfl
   refine WJ_tp 1 rfl (Rd_fieldAddr rfl fo24_0) rfl (hp _ _) ?_
   refine WJ_tk 2 (Rd_load rfl tk3 (v := .int .i64 p.1)) hp ?_ rfl (by kernel_rfl) rfl rfl rfl
   refine WJ_tk 3 (Rd_load rfl tk82 (v := .map (some m12))) hp ?_ rfl (by kernel_rfl) rfl rfl rfl
   refine WJ_tp 4 rfl (Rd_fieldAddr rfl fo24_0) rfl (hp _ _) ?_
   refine WJ_tk 5 (Rd_load rfl tk3 (v := .int .i64 p.1)) hp ?_ rfl (by kernel_rfl) rfl rfl rfl
   refine WJ_tk 6 (Rd_valE (v := sl (outO p.1 LF).a (outO p.1 LF).l.length (outO p.1 LF).cap) (Rd_lookP1 (kf := kfN) (vf := vfS) (l := LF) keyN rfl rfl ud82 zvS) look_out) hp ?_ rfl (by kernel_rfl) rfl rfl rfl
   refine WJ_tp 7 rfl (Rd_fieldAddr rfl fo24_1) rfl (hp _ _) ?_
   refine WJ_tk 8 (Rd_load rfl tk3 (v := .int .i64 p.2)) hp ?_ rfl (by kernel_rfl) rfl rfl rfl
   refine WJ_all (rs := [9]) (by kernel_rfl) rfl ?_
   refine WI_one ?_
   refine WI_ac rfl (Ac_bs1 (xs := [.int .i64 p.2]) rfl ud83 zr3 sz3) rfl rfl rfl rfl ?_
   rintro _ _ ⟨b28, rfl, rfl⟩
   refine ⟨(fun _ => subF), ?_⟩
   refine WJ_all (rs := [10]) (by kernel_rfl) rfl ?_
   refine WI_one ?_
   refine WI_ac rfl (Ac_append1 (f := eI) encI p.2 rfl rfl ud83 ud83 el3) rfl rfl rfl rfl ?_
   rintro _ _ ⟨a29, cap29, rfl, rfl⟩
   rw [show (outO p.1 LF).l.length + 1 = ((outO p.1 LF).l ++ [p.2]).length from by rw [List.length_append]; rfl]
   refine ⟨(fun _ => subF), ?_⟩
   refine WJ_all (rs := [11]) (by kernel_rfl) rfl ?_
   refine WI_one ?_
   refine WI_ac0 rfl (Ac_putP (kf := kfN) (vf := vfS) (⟨a29, cap29, (outO p.1 LF).l ++ [p.2]⟩ : OS) keyN rfl rfl rfl ud82) rfl rfl rfl ?_
   rintro _ _ rfl
   refine ⟨(fun h => by cases h), ?_⟩
   refine WJ_done (by kernel_rfl) ?_
   refine Ps_next hK9 ?_
   refine WC_region ?_
   refine WL_in 3 eI p.1 (⟨a29, cap29, (outO p.1 LF).l ++ [p.2]⟩ : OS) ?_
   refine WL_r (Rd_addN (j := 1) rfl rfl) rfl ?_
   refine WL_r (Rd_move rfl) rfl ?_
   refine WL_nil ?_
   refine Ps_wkB (hK6 ⟨i + 1, putL p.1 (⟨a29, cap29, (outO p.1 LF).l ++ [p.2]⟩ : OS) LF⟩ (⟨by (try dsimp only); omega, adj_step hp0 hadj⟩) (by (try dsimp only); omega))
  ·try simp only [dz, ne_eq] at hc0
   obtain rfl : i = l.length := by omega
   rw [List.take_length] at hadj
   refine WC_fact (fun w h => adj_viewA (tI := 3) (eI := eI) (LF := LF) encI hasA h) (fun hV => ?_)
   have hadjb : ∀ s, ∀ x ∈ adjO LF s, 0 ≤ x ∧ x < 255 := fun s x hx => by rw [hadj] at hx; exact nums_ok hpo s x hx
   have hlenb : ∀ s, (adjO LF s).length ≤ 100000000 := fun s => by rw [hadj]; have := nums_len l s; omega
   refine WC_exit ?_
   refine Ps_next hK4 ?_
   refine WC_sr fun K11 hK11 => ?_
   refine WL_r (Rd_assign rfl) rfl ?_
   refine WL_end hK11 ?_
   refine WC_seq fun K12 hK12 => ?_
   refine WC_sr fun K13 hK13 => ?_
   refine WL_r (Rd_move rfl) rfl ?_
   refine WL_end hK13 ?_
   refine WC_block ?_
   refine WC_loopK (σ := Nat × Nat × (List (Int × Int))) (fun ⟨s, c, W⟩ => [(7, .int .i64 ((c : Nat) : Int)), (31, .int .i64 ((s : Nat) : Int))]) (fun ⟨s, c, W⟩ => [mpP m11 kfN vfN W]) (fun ⟨s, c, W⟩ => (s ≤ 32 ∧ c ≤ s) ∧ (c, W) = sizeTo (adjO LF) s ∧ okW W) (fun ⟨s, c, W⟩ => 32 - s) ⟨0, 0, []⟩ [2, 3, 4, 42] kpA (by (try dsimp only); repeat (first | with_reducible exact Gv.nil | (with_reducible apply Gv.cons; · (repeat (first | with_reducible exact Ext.here | with_reducible apply Ext.there))))) ?_ ?_ Sub.refl ?_
   ·exact ⟨by omega, rfl, okW_nil⟩
   ·(try dsimp only); exact (Wk.cons lkA (Wk.cons lkA Wk.nil))
   ·rintro ⟨s, c, W⟩ ⟨hs, hst, hok⟩ K14 hK14
    simp only [List.cons_append, List.nil_append]
    refine WC_sr fun K15 hK15 => ?_
    refine WL_r (Rd_lssN (j := 32) rfl rfl) rfl ?_
    refine WL_end hK15 ?_
    refine WC_seq fun K16 hK16 => ?_
    refine WC_cond rfl (fun hc1 => ?_) (fun hc1 => ?_)
    ·try simp only [dz, ne_eq] at hc1
     have hgk := growM_K hadjb 256 ((s : Nat) : Int) ⟨[], W⟩ (by omega) hok
     refine WC_skip ?_
     refine Ps_next hK16 ?_
     refine WC_seq fun K17 hK17 => ?_
     refine WC_block ?_
     refine WC_sr fun K18 hK18 => ?_
     refine WL_r (Rd_move rfl) rfl ?_
     refine WL_r (Rd_assign rfl) rfl ?_
     refine WL_end hK18 ?_
     refine WC_sr fun K19 hK19 => ?_
     refine WL_ac (Ac_makeP kfN vfN) rfl rfl rfl ?_
     rintro _ _ ⟨m34, rfl, rfl⟩
     refine WL_ac (Ac_alloc zr58) rfl rfl rfl ?_
     rintro _ _ ⟨b9, rfl, rfl⟩
     refine WL_ac0 (Ac_store1 rfl rfl sz58) rfl rfl ?_
     rintro _ _ rfl
     refine WL_end hK19 ?_
     refine WC_sr fun K20 hK20 => ?_
     refine WL_ac (Ac_alloc zr84) rfl rfl rfl ?_
     rintro _ _ ⟨b10, rfl, rfl⟩
     refine WL_end hK20 ?_
     refine WC_sr fun K21 hK21 => ?_
     refine WL_r (Rd_makeFunc rfl rfl) rfl ?_
     refine WL_ac0 (Ac_store1 rfl rfl sz84) rfl rfl ?_
     rintro _ _ rfl
     refine WL_end hK21 ?_
     refine WC_sr fun K22 hK22 => ?_
     refine WL_r (Rd_load rfl tk84 (v := .func (.func 50) #[] #[.pointer (some ⟨b4, 0, none⟩), .pointer (some ⟨b9, 0, none⟩), .pointer (some ⟨b3, 0, none⟩), .pointer (some ⟨b10, 0, none⟩)])) rfl ?_
     refine WL_r (Rd_move rfl) rfl ?_
     refine WL_ac (Ac_callv rfl cf50 rfl rfl rfl rfl (hs := grow_ct (X := star (FS 3 eI) LF) (pF := b4) (pT := b9) (pW := b3) (pG := b10) (mF := m12) (mT := m34) (mW := m11) (LF := LF) hV hadjb hlenb 256 ((s : Nat) : Int) [] W (by omega) (by have := untried_le []; omega) hok)) rfl rfl rfl ?_
     rintro _ _ ⟨⟨⟩, rfl, hA⟩
     simp only [List.cons_append, List.nil_append] at hA
     replace hA := hA.symm
     subst hA
     refine WL_end hK22 ?_
     refine WC_cond rfl (fun hc2 => ?_) (fun hc2 => ?_)
     ·try simp only [dz, ne_eq] at hc2
      have hst2 := size_yes hst (by first | assumption | simpa using hc2)
      refine WC_region ?_
      refine WL_r (Rd_move rfl) rfl ?_
      refine WL_r (Rd_addN (j := 1) rfl rfl) rfl ?_
      refine WL_r (Rd_assign rfl) rfl ?_
      refine WL_nil ?_
      refine Ps_next hK17 ?_
      refine WC_region ?_
      refine WL_r (Rd_addN (j := 1) rfl rfl) rfl ?_
      refine WL_r (Rd_move rfl) rfl ?_
      refine WL_nil ?_
      refine Ps_wkB (hK14 ⟨s + 1, c + 1, (growM (adjO LF) 256 ((s : Nat) : Int) ⟨[], W⟩).2.W⟩ (⟨by (try dsimp only); omega, hst2, hgk.w⟩) (by (try dsimp only); omega))
     ·try simp only [dz, ne_eq] at hc2
      have hst2 := size_no hst (by first | assumption | simpa using hc2)
      refine WC_skip ?_
      refine Ps_next hK17 ?_
      refine WC_region ?_
      refine WL_r (Rd_addN (j := 1) rfl rfl) rfl ?_
      refine WL_r (Rd_move rfl) rfl ?_
      refine WL_nil ?_
      refine Ps_wkB (hK14 ⟨s + 1, c, (growM (adjO LF) 256 ((s : Nat) : Int) ⟨[], W⟩).2.W⟩ (⟨by (try dsimp only); omega, hst2, hgk.w⟩) (by (try dsimp only); omega))
    ·try simp only [dz, ne_eq] at hc1
     obtain rfl : s = 32 := by omega
     refine WC_exit ?_
     refine Ps_next hK12 ?_
     refine WC_sr fun K23 hK23 => ?_
     refine WL_r (Rd_move rfl) rfl ?_
     refine WL_r (Rd_assign rfl) rfl ?_
     refine WL_end hK23 ?_
     refine WC_ret ?_
     exact hret.gfE () (Rs1 rfl rfl) (by rw [size_fin hst hadj])
end Go.Proofs.Ytilmiikfjcdllaa
namespace Go.Proofs.Ytilmiikfjcdllaa
open Go.RowKit Go.SL Go.ShM Go.HyM Go.Fl Go.SvM
set_option maxHeartbeats 1000000
set_option maxRecDepth 20000
set_option linter.all false
theorem cf28 : cfn Try.prog 28 = true := by kernel_rfl
theorem cf29 : cfn Try.prog 29 = true := by kernel_rfl
theorem cf30 : cfn Try.prog 30 = true := by kernel_rfl
theorem cf31 : cfn Try.prog 31 = true := by kernel_rfl
theorem cf32 : cfn Try.prog 32 = true := by kernel_rfl
theorem pls27 : pls Try.prog 27 = some ([.int .i64 0, .int .i64 0, .int .i64 0], [(0, 1), (1, 1), (2, 1)]) := by kernel_rfl
theorem sz27 : sz Try.prog 27 = some 3 := by kernel_rfl
theorem tk27 : tk Try.prog 27 = some (some 3) := by kernel_rfl
theorem zr27 : zr Try.prog 27 = some [.int .i64 0, .int .i64 0, .int .i64 0] := by kernel_rfl
theorem Look_ok {X : Asn} {v : Value} {ps : List Pr} {ao : Option Addr} {cap : Nat} (hS : Sv [X] v 2 ePr ps ao cap) (hn : ps.length ≤ 100000000) (hm : mayP ps) : Ct Try.prog 9 [v] [X] (fun _ : Unit => .tuple #[.agg ([.int .i64 (((cntM (lookP ps) Prod.fst) : Nat) : Int), .int .i64 (((cntM (lookP ps) Prod.snd) : Nat) : Int), .int .i64 (((sizeM (lookP ps)) : Nat) : Int)] : List Value).toArray, .int .i64 0]) (fun _ => [X]) := by
 refine Ct_body (n := 22) Try.func9 rfl rfl rfl fun F w0 Q hret hnorm hp => ?_
 change WC _ _ _ _ _ _ _ (_ :: F)
 refine WC_sr fun K1 hK1 => ?_
 refine WL_ac (Ac_alloc zr27) rfl rfl rfl ?_
 rintro _ _ ⟨b2, rfl, rfl⟩
 refine WL_r (Rd_assign rfl) rfl ?_
 refine WL_end hK1 ?_
 refine WC_sr fun K2 hK2 => ?_
 refine WL_r (Rd_move rfl) rfl ?_
 refine WL_ac (Ac_call cf28 rfl (hs := look_ok (X := X) (ps := ps) hS hn hm)) rfl rfl rfl ?_
 rintro _ _ ⟨⟨ga, gc⟩, rfl, hA⟩
 simp only [List.cons_append, List.nil_append] at hA
 replace hA := hA.symm
 subst hA
 refine WL_fact (fun w h => arr_facts (a := ga) (cap := gc) (e := 2) (T := 24) (f := ePr) (l := (lookP ps)) hasA h) (fun hLf => ?_)
 have hL : Sv [arr ga gc 2 24 ePr (lookP ps)] (sl ga ((lookP ps)).length gc) 2 ePr (lookP ps) ((ga : Option Nat).map fun g => ⟨g, 0, none⟩) gc := Sv_own' encPr hLf.1 hLf.2
 refine WL_r (Rd_move rfl) rfl ?_
 refine WL_r (Rd_ext0 rfl) rfl ?_
 refine WL_r (Rd_ext1 rfl) rfl ?_
 refine WL_r (Rd_assign rfl) rfl ?_
 refine WL_r (Rd_assign rfl) rfl ?_
 refine WL_end hK2 ?_
 refine WC_seq fun K3 hK3 => ?_
 refine WC_sr fun K4 hK4 => ?_
 refine WL_r (Rd_move rfl) rfl ?_
 refine WL_r (Rd_neqN (i := 0) (j := 0) rfl rfl) rfl ?_
 refine WL_end hK4 ?_
 refine WC_condF rfl ?_
 refine WC_skip ?_
 refine Ps_next hK3 ?_
 refine WC_sr fun K5 hK5 => ?_
 refine WL_r (Rd_move rfl) rfl ?_
 refine WL_ac (Ac_call cf29 rfl (hs := numbers_ct (X := arr ga gc 2 24 ePr (lookP ps)) (l := (lookP ps)) (g := 30) (f := Prod.fst) hL (by have := lookP_len ps; omega) cf30 (fun p => fst_ct) (fun p hp => by have := lookP_ok ps p hp; unfold pOk at this; (try dsimp only); omega))) rfl rfl rfl ?_
 rintro _ _ ⟨⟨⟩, rfl, hA⟩
 simp only [List.cons_append, List.nil_append] at hA
 replace hA := hA.symm
 subst hA
 refine WL_r (Rd_move rfl) rfl ?_
 refine WL_ac (Ac_call cf29 rfl (hs := numbers_ct (X := arr ga gc 2 24 ePr (lookP ps)) (l := (lookP ps)) (g := 31) (f := Prod.snd) hL (by have := lookP_len ps; omega) cf31 (fun p => snd_ct) (fun p hp => by have := lookP_ok ps p hp; unfold pOk at this; (try dsimp only); omega))) rfl rfl rfl ?_
 rintro _ _ ⟨⟨⟩, rfl, hA⟩
 simp only [List.cons_append, List.nil_append] at hA
 replace hA := hA.symm
 subst hA
 refine WL_r (Rd_move rfl) rfl ?_
 refine WL_ac (Ac_call cf32 rfl (hs := size_ct (X := arr ga gc 2 24 ePr (lookP ps)) (l := (lookP ps)) hL (by have := lookP_len ps; omega) (lookP_ok ps))) rfl rfl rfl ?_
 rintro _ _ ⟨⟨⟩, rfl, hA⟩
 simp only [List.cons_append, List.nil_append] at hA
 replace hA := hA.symm
 subst hA
 refine WL_r (Rd_build pls27 rfl) rfl ?_
 refine WL_ac0 (Ac_store (ys := [.int .i64 (((cntM (lookP ps) Prod.fst) : Nat) : Int), .int .i64 (((cntM (lookP ps) Prod.snd) : Nat) : Int), .int .i64 (((sizeM (lookP ps)) : Nat) : Int)]) rfl rfl sz27 (h1 := by simp [setAt, Value.cells, Value.oneCell']) (hr := rfl)) rfl rfl ?_
 rintro _ _ rfl
 refine WL_r (Rd_assign rfl) rfl ?_
 refine WL_end hK5 ?_
 refine WC_ret ?_
 exact hret.gf () (Rs2ct rfl rfl rfl tk27)

theorem Look_no {X : Asn} {v : Value} {ps : List Pr} {ao : Option Addr} {cap : Nat} (hS : Sv [X] v 2 ePr ps ao cap) (hn : ps.length ≤ 100000000) (hm : ¬ mayP ps) : Ct Try.prog 9 [v] [X] (fun _ : Unit => .tuple #[.agg ([.int .i64 0, .int .i64 0, .int .i64 0] : List Value).toArray, .int .i64 230]) (fun _ => [X]) := by
 refine Ct_body (n := 22) Try.func9 rfl rfl rfl fun F w0 Q hret hnorm hp => ?_
 change WC _ _ _ _ _ _ _ (_ :: F)
 refine WC_sr fun K1 hK1 => ?_
 refine WL_ac (Ac_alloc zr27) rfl rfl rfl ?_
 rintro _ _ ⟨b2, rfl, rfl⟩
 refine WL_r (Rd_assign rfl) rfl ?_
 refine WL_end hK1 ?_
 refine WC_sr fun K2 hK2 => ?_
 refine WL_r (Rd_move rfl) rfl ?_
 refine WL_ac (Ac_call cf28 rfl (hs := look_no (X := X) (ps := ps) hS hn hm)) rfl rfl rfl ?_
 rintro _ _ ⟨⟨⟩, rfl, hA⟩
 simp only [List.cons_append, List.nil_append] at hA
 replace hA := hA.symm
 subst hA
 refine WL_r (Rd_move rfl) rfl ?_
 refine WL_r (Rd_ext0 rfl) rfl ?_
 refine WL_r (Rd_ext1 rfl) rfl ?_
 refine WL_r (Rd_assign rfl) rfl ?_
 refine WL_r (Rd_assign rfl) rfl ?_
 refine WL_end hK2 ?_
 refine WC_seq fun K3 hK3 => ?_
 refine WC_sr fun K4 hK4 => ?_
 refine WL_r (Rd_move rfl) rfl ?_
 refine WL_r (Rd_neqN (i := 230) (j := 0) rfl rfl) rfl ?_
 refine WL_end hK4 ?_
 refine WC_condT rfl ?_
 refine WC_sr fun K5 hK5 => ?_
 refine WL_r (Rd_build pls27 rfl) rfl ?_
 refine WL_r (Rd_move rfl) rfl ?_
 refine WL_ac0 (Ac_store (ys := [.int .i64 0, .int .i64 0, .int .i64 0]) rfl rfl sz27 (h1 := by simp [setAt, Value.cells, Value.oneCell']) (hr := rfl)) rfl rfl ?_
 rintro _ _ rfl
 refine WL_r (Rd_assign rfl) rfl ?_
 refine WL_end hK5 ?_
 refine WC_ret ?_
 exact hret.gf () (Rs2ct rfl rfl rfl tk27)
end Go.Proofs.Ytilmiikfjcdllaa
namespace Go.Proofs.Ytilmiikfjcdllaa
open Go.RowKit Go.SL Go.ShM Go.HyM Go.Fl Go.SvM
set_option maxHeartbeats 1000000
set_option maxRecDepth 20000
set_option linter.all false
theorem cf8 : cfn Try.prog 8 = true := by kernel_rfl
theorem cf9 : cfn Try.prog 9 = true := by kernel_rfl
theorem cf12 : cfn Try.prog 12 = true := by kernel_rfl
theorem fls27 : fls Try.prog 27 = some [(0, 3), (1, 3), (2, 3)] := by kernel_rfl
theorem pls24 : pls Try.prog 24 = some ([.int .i64 0, .int .i64 0], [(0, 1), (1, 1)]) := by kernel_rfl
theorem lives_odds : oddsP [4602678819172646912, 4602678819172646912] 1 = 4604930618986332160 := by decide +kernel
theorem lives_ok : oddsOk [4602678819172646912, 4602678819172646912] = true := by decide +kernel
theorem lives_w : ∀ x ∈ [4602678819172646912, 4602678819172646912], x < 2 ^ 64 := by decide
theorem lives_may : mayP [(0, 0), (0, 1), (1, 0)] := by decide

theorem lives_ct   : Ct Try.prog 8 [] [] (fun _ : Unit => .bool true) (fun _ => []) := by
 refine Ct_body (n := 33) Try.func8 rfl rfl rfl fun F w0 Q hret hnorm hp => ?_
 change WC _ _ _ _ _ _ _ (F)
 refine WC_sr fun K1 hK1 => ?_
 refine WL_r (Rd_assign rfl) rfl ?_
 refine WL_end hK1 ?_
 refine WC_sr fun K2 hK2 => ?_
 refine WL_r (Rd_valE (v := .agg (ePr (0, 0)).toArray) (Rd_build pls24 rfl) rfl) rfl ?_
 refine WL_r (Rd_valE (v := .agg (ePr (0, 1)).toArray) (Rd_build pls24 rfl) rfl) rfl ?_
 refine WL_r (Rd_valE (v := .agg (ePr (1, 0)).toArray) (Rd_build pls24 rfl) rfl) rfl ?_
 refine WL_ac (Ac_bsL (f := ePr) (zs := [.int .i64 0, .int .i64 0]) (bs := [.int .i64 0, .int .i64 0, .int .i64 0, .int .i64 0, .int .i64 0, .int .i64 0]) [(0, 0), (0, 1), (1, 0)] encPr ud22 zr24 sz24 rfl (by kernel_rfl) (by kernel_rfl) (by rfl) (by rfl) (by rfl)) rfl rfl rfl ?_
 rintro _ _ ⟨b9, rfl, rfl⟩
 refine WL_fact (fun w h => arr_facts (a := (some b9)) (cap := 3) (e := 2) (T := 24) (f := ePr) (l := [(0, 0), (0, 1), (1, 0)]) hasA h) (fun hvf => ?_)
 have hv : Sv [arr (some b9) 3 2 24 ePr [(0, 0), (0, 1), (1, 0)]] (sl (some b9) ([(0, 0), (0, 1), (1, 0)]).length 3) 2 ePr [(0, 0), (0, 1), (1, 0)] (((some b9) : Option Nat).map fun g => ⟨g, 0, none⟩) 3 := Sv_own' encPr hvf.1 hvf.2
 refine WL_ac (Ac_call cf9 rfl (hs := Look_ok (X := arr (some b9) 3 2 24 ePr [(0, 0), (0, 1), (1, 0)]) (ps := [(0, 0), (0, 1), (1, 0)]) hv (by decide) lives_may)) rfl rfl rfl ?_
 rintro _ _ ⟨⟨⟩, rfl, hA⟩
 simp only [List.cons_append, List.nil_append] at hA
 replace hA := hA.symm
 subst hA
 rw [lives_size.1, lives_size.2.1, lives_size.2.2]
 refine WL_r (Rd_move rfl) rfl ?_
 refine WL_r (Rd_ext0 rfl) rfl ?_
 refine WL_r (Rd_ext1 rfl) rfl ?_
 refine WL_ac (Ac_alloc zr27) rfl rfl rfl ?_
 rintro _ _ ⟨b1, rfl, rfl⟩
 refine WL_ac0 (Ac_store (ys := [.int .i64 ((2 : Nat) : Int), .int .i64 ((2 : Nat) : Int), .int .i64 ((2 : Nat) : Int)]) rfl rfl sz27 (h1 := by simp [setAt, Value.cells, Value.oneCell']) (hr := rfl)) rfl rfl ?_
 rintro _ _ rfl
 refine WL_r (Rd_assign rfl) rfl ?_
 refine WL_end hK2 ?_
 refine WC_sr fun K3 hK3 => ?_
 refine WL_ac (Ac_bsL (f := eF) (zs := [.float .f64 0]) (bs := [.float .f64 0, .float .f64 0]) [4602678819172646912, 4602678819172646912] encF ud34 zr35 sz35 rfl (by kernel_rfl) (by kernel_rfl) (by rfl) (by rfl) (by rfl)) rfl rfl rfl ?_
 rintro _ _ ⟨b14, rfl, rfl⟩
 refine WL_fact (fun w h => arr_facts (a := (some b14)) (cap := 2) (e := 1) (T := 35) (f := eF) (l := [4602678819172646912, 4602678819172646912]) hasA h) (fun hv2f => ?_)
 have hv2 : Sv [arr (some b14) 2 1 35 eF [4602678819172646912, 4602678819172646912]] (sl (some b14) ([4602678819172646912, 4602678819172646912]).length 2) 1 eF [4602678819172646912, 4602678819172646912] (((some b14) : Option Nat).map fun g => ⟨g, 0, none⟩) 2 := Sv_own' encF hv2f.1 hv2f.2
 refine WL_ac (Ac_call cf12 rfl (hs := odds_ok (X := arr (some b14) 2 1 35 eF [4602678819172646912, 4602678819172646912]) (l := [4602678819172646912, 4602678819172646912]) (k0 := 1) hv2 (by decide) lives_w lives_ok)) rfl rfl rfl ?_
 rintro _ _ ⟨⟨⟩, rfl, hA⟩
 simp only [List.cons_append, List.nil_append] at hA
 replace hA := hA.symm
 subst hA
 rw [lives_odds]
 refine WL_r (Rd_move rfl) rfl ?_
 refine WL_r (Rd_ext0 rfl) rfl ?_
 refine WL_r (Rd_ext1 rfl) rfl ?_
 refine WL_r (Rd_assign rfl) rfl ?_
 refine WL_r (Rd_assign rfl) rfl ?_
 refine WL_end hK3 ?_
 refine WC_sr fun K4 hK4 => ?_
 refine WL_r (Rd_move rfl) rfl ?_
 refine WL_r (Rd_eqlN (i := 0) (j := 0) rfl rfl) rfl ?_
 refine WL_r (Rd_move rfl) rfl ?_
 refine WL_r (Rd_move rfl) rfl ?_
 refine WL_r (Rd_eqlN (i := 0) (j := 0) rfl rfl) rfl ?_
 refine WL_r (Rd_pickT rfl rfl) rfl ?_
 refine WL_r (Rd_move rfl) rfl ?_
 refine WL_r (Rd_loadg (vs := [.int .i64 ((2 : Nat) : Int), .int .i64 ((2 : Nat) : Int), .int .i64 ((2 : Nat) : Int)]) rfl tk27) rfl ?_
 refine WL_r (Rd_valE (v := .agg ([.int .i64 ((2 : Nat) : Int), .int .i64 ((2 : Nat) : Int), .int .i64 ((2 : Nat) : Int)] : List Value).toArray) (Rd_build pls27 rfl) rfl) rfl ?_
 refine WL_r (Rd_valE (v := .bool true) (Rd_eqS (xs := [.int .i64 ((2 : Nat) : Int), .int .i64 ((2 : Nat) : Int), .int .i64 ((2 : Nat) : Int)]) (ys := [.int .i64 ((2 : Nat) : Int), .int .i64 ((2 : Nat) : Int), .int .i64 ((2 : Nat) : Int)]) rfl rfl fls27 (EqL.sc tk3 rfl rfl (Eqs_int ud3 _ _) (EqL.sc tk3 rfl rfl (Eqs_int ud3 _ _) (EqL.sc tk3 rfl rfl (Eqs_int ud3 _ _) EqL.nil)))) (by simp)) rfl ?_
 refine WL_r (Rd_pickT rfl rfl) rfl ?_
 refine WL_r (Rd_move rfl) rfl ?_
 refine WL_r (Rd_move rfl) rfl ?_
 refine WL_r (Rd_valE (v := .bool true) (Rd_feql (a := 4604930618986332160) (b := 4604930618986332160) rfl rfl) (congrArg Value.bool (by decide +kernel))) rfl ?_
 refine WL_r (Rd_pickT rfl rfl) rfl ?_
 refine WL_r (Rd_assign rfl) rfl ?_
 refine WL_end hK4 ?_
 refine WC_ret ?_
 exact hret.gfE () (Rs1 rfl rfl) rfl

end Go.Proofs.Ytilmiikfjcdllaa
