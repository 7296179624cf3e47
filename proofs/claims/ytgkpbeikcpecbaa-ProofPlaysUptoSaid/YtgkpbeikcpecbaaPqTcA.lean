/-
  Contracts of functions that the claim reaches, or the logic and the plain laws that they rest on, or the row over them. (Conditions: none beyond the statement.)
-/
import Derived.Test.YtgkpbeikcpecbaaPqTcD
set_option linter.all false
namespace Go.Proofs.Ytgkpbeikcpecbaa
open Go.RowKit Go.SL Go.ShM
set_option maxHeartbeats 1000000
set_option maxRecDepth 20000
set_option linter.all false
theorem cf89 : cfn Try.prog 89 = true := by kernel_rfl
theorem cf135 : cfn Try.prog 135 = true := by kernel_rfl
theorem cf146 : cfn Try.prog 146 = true := by kernel_rfl
theorem bigR4_ct {x : B32} : Ct Try.prog 149 [.int .u64 (((x.setWidth 64).toNat : Nat) : Int), .int .i64 4] [] (fun g : { g : Nat × Nat // 4 ≤ g.2 } => sl (some g.1.1) 4 g.1.2) (fun g => [arr (some g.1.1) g.1.2 1 5 (eU .u8) (big32 x)]) :=
  Ct_way fun F w hs0 => ⟨_, _, _, _, bigR_ct (x := x.setWidth 64) (n := 4), hs0, fun r w' hs => by
    rw [bigN_4] at hs
    obtain ⟨gb, hgb⟩ := arr_some (A := [arr r.1 r.2 1 5 (eU .u8) (big32 x)] ++ F) Has.here hs (by rw [big32_len]; omega)
    have hc := arr_cap (A := [arr r.1 r.2 1 5 (eU .u8) (big32 x)] ++ F) Has.here hs
    rw [big32_len] at hc
    exact ⟨⟨(gb, r.2), hc⟩, by rw [hgb], by rw [← hgb]; exact hs⟩⟩
theorem wdM_0 {n : Nat} (h : wdM n = 0) : wdE n = 110 := by
  by_cases h2 : 1 ≤ n ∧ n ≤ 512
  · have := wd_ok h2.1 h2.2; omega
  · exact (wd_no (by omega)).2
theorem wdM_pos {n : Nat} (h : ¬ wdM n = 0) : wdE n = 0 := by
  by_cases h2 : 1 ≤ n ∧ n ≤ 512
  · exact (wd_ok h2.1 h2.2).2.2.2.1
  · exact absurd (wd_no (by omega)).1 h
theorem dnI_set' {B : List Dg} {k : Nat} (h : 1 ≤ k) (hk : k ≤ B.length) : (dnI B k).set (k - 1) (B.getD (k - 1) zD) = dnI B (k - 1) := by
  obtain ⟨j, rfl⟩ : ∃ j, k = j + 1 := ⟨k - 1, by omega⟩
  exact dnI_set (by omega)
theorem padTR_ct {x : B32}  : Ct Try.prog 89 [.int .u32 ((x.toNat : Nat) : Int)] [] (fun _ : Unit => aU .u8 (tagD 7#8 [big32 x])) (fun _ => []) := by
 refine Ct_body (n := 8) Try.func89 rfl rfl rfl fun F w0 Q hret hnorm hp => ?_
 change WC _ _ _ _ _ _ _ (F)
 have hb4 := big32_len x
 have htd := tagD_len 7#8 [big32 x]
 have hok : tagE 7#8 [big32 x] = 0 := by unfold tagE; rw [if_neg (by decide), if_pos (by rw [fitM_7 rfl]; simp [lens, *])]
 refine WC_sr fun K1 hK1 => ?_
 refine WL_ac (Ac_allocW (k := .u8) (w := 8) (m := 32) zr42) rfl rfl rfl ?_
 rintro _ _ ⟨b2, rfl, rfl⟩
 refine WL_end hK1 ?_
 refine WC_sr fun K2 hK2 => ?_
 refine WL_r (Rd_move rfl) rfl ?_
 refine WL_r (Rd_convU rfl ikd24_39 (h' := uk64)) rfl ?_
 refine WL_ac (Ac_call cf149 rfl (hs := bigR4_ct (x := x))) rfl rfl rfl ?_
 rintro _ _ ⟨⟨⟨g5, c5⟩, hc5⟩, rfl, hA⟩
 simp only [List.cons_append, List.nil_append] at hA
 replace hA := hA.symm
 subst hA
 dsimp only at hc5 ⊢
 refine WL_ac (Ac_bsL (f := fP) (zs := [.slice none 0 0]) (bs := [.slice none 0 0]) [(⟨(big32 x), some ⟨g5, 0, none⟩, c5⟩ : Pt)] encP ud27 zr32 sz32 rfl (by rw [Array.toList_map, Array.toList_range]; rfl) (by rfl) (by rfl) (by rfl) (by rfl)) rfl rfl rfl ?_
 rintro _ _ ⟨b6, rfl, rfl⟩
 have hp0 : RdP [arr (some g5) c5 1 5 (eU .u8 (w := 8)) (big32 x)] (⟨(big32 x), some ⟨g5, 0, none⟩, c5⟩ : Pt) := by have h := Sv_own' (a := some g5) (cap := c5) (T := 5) (encU .u8 (w := 8)) (l := (big32 x)) (by simp) hc5; exact h
 have hL : Sv [arr (some b6) 1 1 32 fP [(⟨(big32 x), some ⟨g5, 0, none⟩, c5⟩ : Pt)]] (sl (some b6) 1 1) 1 fP [(⟨(big32 x), some ⟨g5, 0, none⟩, c5⟩ : Pt)] (some ⟨b6, 0, none⟩) 1 := Sv_own' (a := some b6) (cap := 1) (T := 32) encP (l := [(⟨(big32 x), some ⟨g5, 0, none⟩, c5⟩ : Pt)]) (by simp) (Nat.le_refl 1)
 have hmp : ([(⟨(big32 x), some ⟨g5, 0, none⟩, c5⟩ : Pt)].map (·.l)) = [(big32 x)] := rfl
 have hjl : (joinP [(⟨(big32 x), some ⟨g5, 0, none⟩, c5⟩ : Pt)]).length = (big32 x).length := by simp [joinP]
 refine WL_ac (Ac_call cf143 rfl (hs := Ct.un0 (Xs := [arr (some b6) 1 1 32 fP [(⟨(big32 x), some ⟨g5, 0, none⟩, c5⟩ : Pt)], arr (some g5) c5 1 5 (eU .u8 (w := 8)) (big32 x)]) (digestR_ct (t := 7#8) (X := sep [arr (some b6) 1 1 32 fP [(⟨(big32 x), some ⟨g5, 0, none⟩, c5⟩ : Pt)], arr (some g5) c5 1 5 (eU .u8 (w := 8)) (big32 x)]) (ps := [(⟨(big32 x), some ⟨g5, 0, none⟩, c5⟩ : Pt)]) (hS := hL.pk hasA) (hP := List.forall_mem_cons.2 ⟨hp0.pk hasA, by simp⟩) (hn := by rw [hjl]; omega) (hk := by show 1 ≤ _; omega) (hok := hok)))) rfl rfl rfl ?_
 rintro _ _ ⟨⟨⟩, rfl, hA⟩
 simp only [List.cons_append, List.nil_append] at hA
 replace hA := hA.symm
 subst hA
 rw [hmp]
 refine WL_ac0 (Ac_storeW rfl rfl sz42) rfl rfl ?_
 rintro _ _ rfl
 refine WL_end hK2 ?_
 refine WC_ret ?_
 exact hret.go () (Rs1W rfl rfl tk42)

theorem widthRY_ct {n : Nat} (h1 : 1 ≤ n) (h2 : n ≤ 512) : Ct Try.prog 135 [.int .i64 ((n : Nat) : Int)] [] (fun _ : Unit => .int .i64 (((wdM n) : Nat) : Int)) (fun _ => []) := by
 refine Ct_body (n := 16) Try.func135 rfl rfl rfl fun F w0 Q hret hnorm hp => ?_
 change WC _ _ _ _ _ _ _ (F)
 refine WC_sr fun K1 hK1 => ?_
 refine WL_r (Rd_assign rfl) rfl ?_
 refine WL_end hK1 ?_
 refine WC_seq fun K2 hK2 => ?_
 refine WC_sr fun K3 hK3 => ?_
 refine WL_r (Rd_move rfl) rfl ?_
 refine WL_r (Rd_isF (Rd_lssN (j := 1) rfl rfl)) rfl ?_
 refine WL_r (Rd_move rfl) rfl ?_
 refine WL_r (Rd_move rfl) rfl ?_
 refine WL_r (Rd_isF (Rd_gtrN (j := 512) rfl rfl)) rfl ?_
 refine WL_r (Rd_pickF rfl rfl) rfl ?_
 refine WL_end hK3 ?_
 refine WC_condF rfl ?_
 refine WC_skip ?_
 refine Ps_next hK2 ?_
 refine WC_sr fun K4 hK4 => ?_
 refine WL_r (Rd_assign rfl) rfl ?_
 refine WL_end hK4 ?_
 refine WC_seq fun K5 hK5 => ?_
 refine WC_block ?_
 have hp0 : (2:Nat) ^ 0 = 1 := rfl
 refine WC_loopK (σ := Nat) (fun k => [(3, .int .i64 (((2 ^ k) : Nat) : Int))]) (fun k => []) (fun k => k ≤ 9 ∧ (k = 0 ∨ 2 ^ (k - 1) < n)) (fun k => 9 - k) (0) [0, 2, 15] kpA (by (try dsimp only); repeat (first | with_reducible exact Gv.nil | (with_reducible apply Gv.cons; · (repeat (first | with_reducible exact Ext.here | with_reducible apply Ext.there))))) ?_ ?_ Sub.refl ?_
 ·exact ⟨by omega, .inl rfl⟩
 ·(try dsimp only); exact (Wk.cons lkA Wk.nil)
 ·rintro k ⟨hk, hk2⟩ K6 hK6
  simp only [List.cons_append, List.nil_append]
  have hpk : 2 ^ k ≤ 512 := Nat.pow_le_pow_right (by omega) hk
  have hps : 2 ^ k * 2 = 2 ^ (k + 1) := rfl
  refine WC_seq fun K7 hK7 => ?_
  refine WC_sr fun K8 hK8 => ?_
  refine WL_r (Rd_move rfl) rfl ?_
  refine WL_r (Rd_move rfl) rfl ?_
  refine WL_r (Rd_lssN rfl rfl) rfl ?_
  refine WL_end hK8 ?_
  refine WC_cond rfl (fun hc1 => ?_) (fun hc1 => ?_)
  ·try simp only [dz, ne_eq] at hc1
   refine WC_skip ?_
   refine Ps_next hK7 ?_
   refine WC_block ?_
   refine WC_region ?_
   refine WL_r (Rd_move rfl) rfl ?_
   refine WL_r (Rd_mulN (j := 2) rfl rfl) rfl ?_
   rw [hps]
   refine WL_r (Rd_assign rfl) rfl ?_
   refine WL_nil ?_
   refine Ps_wkA (hK6 (k + 1) (⟨by rcases Nat.lt_or_ge k 9 with q | q; omega; (have : k = 9 := by omega); subst this; omega, .inr hc1⟩) (by rcases Nat.lt_or_ge k 9 with q | q; omega; (have : k = 9 := by omega); subst this; omega))
  ·try simp only [dz, ne_eq] at hc1
   refine WC_exit ?_
   refine Ps_next hK5 ?_
   refine WC_sr fun K9 hK9 => ?_
   refine WL_r (Rd_move rfl) rfl ?_
   refine WL_r (Rd_assign rfl) rfl ?_
   refine WL_end hK9 ?_
   refine WC_ret ?_
   exact hret.goE () (Rs1 rfl rfl) (by rw [← wd_at h1 hk hk2 (by omega)])

theorem widthRN_ct {n : Int} (h1 : n < 1 ∨ 512 < n) : Ct Try.prog 135 [.int .i64 n] [] (fun _ : Unit => .int .i64 0) (fun _ => []) := by
 refine Ct_body (n := 16) Try.func135 rfl rfl rfl fun F w0 Q hret hnorm hp => ?_
 change WC _ _ _ _ _ _ _ (F)
 refine WC_sr fun K1 hK1 => ?_
 refine WL_r (Rd_assign rfl) rfl ?_
 refine WL_end hK1 ?_
 refine WC_seq fun K2 hK2 => ?_
 refine WC_sr fun K3 hK3 => ?_
 refine WL_r (Rd_move rfl) rfl ?_
 refine WL_r (Rd_lss rfl rfl) rfl ?_
 refine WL_r (Rd_move rfl) rfl ?_
 refine WL_bool 6 rfl (fun hg4 => ?_) (fun hg4 => ?_)
 ·try simp only [dz, ne_eq] at hg4
  refine WL_skip rfl rfl rfl ?_
  refine WL_skip rfl rfl rfl ?_
  refine WL_r (Rd_pickT rfl rfl) rfl ?_
  refine WL_end hK3 ?_
  refine WC_condT rfl ?_
  refine WC_sr fun K5 hK5 => ?_
  refine WL_r (Rd_assign rfl) rfl ?_
  refine WL_end hK5 ?_
  refine WC_ret ?_
  exact hret.go () (Rs1 rfl rfl)
 ·try simp only [dz, ne_eq] at hg4
  refine WL_r (Rd_move rfl) rfl ?_
  refine WL_r (Rd_gtr rfl rfl) rfl ?_
  refine WL_r (Rd_pickF rfl rfl) rfl ?_
  refine WL_end hK3 ?_
  refine WC_cond rfl (fun hc0 => ?_) (fun hc0 => ?_)
  ·try simp only [dz, ne_eq] at hc0
   refine WC_sr fun K6 hK6 => ?_
   refine WL_r (Rd_assign rfl) rfl ?_
   refine WL_end hK6 ?_
   refine WC_ret ?_
   exact hret.go () (Rs1 rfl rfl)
  ·try simp only [dz, ne_eq] at hc0
   omega

theorem widthR_ct {n : Int} : Ct Try.prog 135 [.int .i64 n] [] (fun _ : Unit => .int .i64 (((wdM n.toNat) : Nat) : Int)) (fun _ => []) := by
  by_cases h : n < 1 ∨ 512 < n
  · obtain ⟨e1, e2⟩ := wd_no (n := n.toNat) (by omega)
    rw [e1]
    exact widthRN_ct (h1 := h)
  · obtain ⟨m, rfl⟩ := Int.eq_ofNat_of_zero_le (show 0 ≤ n by omega)
    rw [Int.toNat_natCast]
    exact widthRY_ct (h1 := by omega) (h2 := by omega)
theorem widthRL_ct {n : Nat} : Ct Try.prog 135 [.int .i64 ((n : Nat) : Int)] [] (fun _ : Unit => .int .i64 (((wdM n) : Nat) : Int)) (fun _ => []) := by
  have h := widthR_ct (n := (n : Int))
  rwa [Int.toNat_natCast] at h

theorem rnodeS_ct {X : Asn} {v : Value} {ls : List Dg} {ao : Option Addr} {cap2 : Nat} {x : Nat} (hS : Sv [X] v 32 fD ls ao cap2 := by assumption) (h0 : wdE ls.length = 0) (h1 : 1 ≤ x) (h2 : x < 2 * (wdM ls.length)) (ih : ∀ y, x < y → y < 2 * (wdM ls.length) → Ct Try.prog 146 [v, .int .i64 (((wdM ls.length) : Nat) : Int), .int .i64 ((y : Nat) : Int)] [X] (fun _ : Unit => aU .u8 (ndV ls y).1) (fun _ => [X])) : Ct Try.prog 146 [v, .int .i64 (((wdM ls.length) : Nat) : Int), .int .i64 ((x : Nat) : Int)] [X] (fun _ : Unit => aU .u8 (ndV ls x).1) (fun _ => [X]) := by
 refine Ct_body (n := 39) Try.func146 rfl rfl rfl fun F w0 Q hret hnorm hp => ?_
 change WC _ _ _ _ _ _ _ (_ :: F)
 have hwo := wd_ok (wdE_iff.1 h0).1 (wdE_iff.1 h0).2
 have hnx := Dg_len (ndV ls x)
 have hn1 := Dg_len (ndV ls (2 * x))
 have hn2 := Dg_len (ndV ls (2 * x + 1))
 refine WC_sr fun K1 hK1 => ?_
 refine WL_ac (Ac_allocW (k := .u8) (w := 8) (m := 32) zr42) rfl rfl rfl ?_
 rintro _ _ ⟨b6, rfl, rfl⟩
 refine WL_end hK1 ?_
 refine WC_seq fun K2 hK2 => ?_
 refine WC_sr fun K3 hK3 => ?_
 refine WL_r (Rd_move rfl) rfl ?_
 refine WL_r (Rd_move rfl) rfl ?_
 refine WL_r (Rd_geqN rfl rfl) rfl ?_
 refine WL_end hK3 ?_
 refine WC_cond rfl (fun hc0 => ?_) (fun hc0 => ?_)
 ·try simp only [dz, ne_eq] at hc0
  refine WC_seq fun K4 hK4 => ?_
  refine WC_sr fun K5 hK5 => ?_
  refine WL_r (Rd_move rfl) rfl ?_
  refine WL_r (Rd_move rfl) rfl ?_
  refine WL_r (Rd_subN rfl rfl) rfl ?_
  refine WL_r (Rd_move rfl) rfl ?_
  refine WL_r (Rd_len_sv rfl rfl ud76) rfl ?_
  refine WL_r (Rd_lssN rfl rfl) rfl ?_
  refine WL_end hK5 ?_
  refine WC_cond rfl (fun hc1 => ?_) (fun hc1 => ?_)
  ·try simp only [dz, ne_eq] at hc1
   rw [ndV_leaf h0 (by omega) (by omega)] at hret
   have hlf := Dg_len (ls.getD (x - (wdM ls.length)) zD)
   refine WC_sr fun K6 hK6 => ?_
   refine WL_r (Rd_move rfl) rfl ?_
   refine WL_r (Rd_move rfl) rfl ?_
   refine WL_r (Rd_move rfl) rfl ?_
   refine WL_r (Rd_subN rfl rfl) rfl ?_
   refine WL_r (Rd_index_sv (x - (wdM ls.length)) rfl rfl ud76 sz42 (hA := hS) (hj := by omega) (hi := by omega)) rfl ?_
   refine WL_r (Rd_aU (k := .u8) (l := ((ls).getD (x - (wdM ls.length)) zD).1) (Rd_loadg_sv (i := x - (wdM ls.length)) rfl tk42 (hA := hS) (hl := at_of (by omega))) rfl) rfl ?_
   refine WL_ac0 (Ac_storeW rfl rfl sz42) rfl rfl ?_
   rintro _ _ rfl
   refine WL_end hK6 ?_
   refine WC_ret ?_
   exact hret.go () (Rs1W rfl rfl tk42)
  ·try simp only [dz, ne_eq] at hc1
   rw [ndV_pad h0 (by omega) (by omega) h2, padD_val] at hret
   have hpd := tagD_len 7#8 [big32 (BitVec.ofNat 32 (x - (wdM ls.length)))]
   refine WC_skip ?_
   refine Ps_next hK4 ?_
   refine WC_sr fun K7 hK7 => ?_
   refine WL_r (Rd_move rfl) rfl ?_
   refine WL_r (Rd_move rfl) rfl ?_
   refine WL_r (Rd_subN rfl rfl) rfl ?_
   refine WL_r (Rd_convNU rfl ikd3_24 (h' := uk32)) rfl ?_
   refine WL_ac (Ac_call cf89 rfl (hs := padTR_ct (x := BitVec.ofNat 32 (x - (wdM ls.length))))) rfl rfl rfl ?_
   rintro _ _ ⟨⟨⟩, rfl, hA⟩
   simp only [List.cons_append, List.nil_append] at hA
   replace hA := hA.symm
   subst hA
   refine WL_ac0 (Ac_storeW rfl rfl sz42) rfl rfl ?_
   rintro _ _ rfl
   refine WL_end hK7 ?_
   refine WC_ret ?_
   exact hret.go () (Rs1W rfl rfl tk42)
 ·try simp only [dz, ne_eq] at hc0
  rw [ndV_node h0 h1 (by omega), nodeD_val] at hret
  have htn := tagD_len 6#8 [(ndV ls (2 * x)).1, (ndV ls (2 * x + 1)).1]
  refine WC_skip ?_
  refine Ps_next hK2 ?_
  refine WC_sr fun K8 hK8 => ?_
  refine WL_r (Rd_move rfl) rfl ?_
  refine WL_r (Rd_move rfl) rfl ?_
  refine WL_r (Rd_move rfl) rfl ?_
  refine WL_r (Rd_mulN (i := 2) rfl rfl) rfl ?_
  refine WL_ac (Ac_call cf146 rfl (hs := ih (2 * x) (by omega) (by omega))) rfl rfl rfl ?_
  rintro _ _ ⟨⟨⟩, rfl, hA⟩
  simp only [List.cons_append, List.nil_append] at hA
  replace hA := hA.symm
  subst hA
  refine WL_r (Rd_move rfl) rfl ?_
  refine WL_r (Rd_move rfl) rfl ?_
  refine WL_r (Rd_move rfl) rfl ?_
  refine WL_r (Rd_mulN (i := 2) rfl rfl) rfl ?_
  refine WL_r (Rd_addN (j := 1) rfl rfl) rfl ?_
  refine WL_ac (Ac_call cf146 rfl (hs := ih (2 * x + 1) (by omega) (by omega))) rfl rfl rfl ?_
  rintro _ _ ⟨⟨⟩, rfl, hA⟩
  simp only [List.cons_append, List.nil_append] at hA
  replace hA := hA.symm
  subst hA
  refine WL_ac (Ac_call cf77 rfl (hs := nodeR_ct (x := (ndV ls (2 * x)).1) (y := (ndV ls (2 * x + 1)).1) (hx := Dg_len _) (hy := Dg_len _))) rfl rfl rfl ?_
  rintro _ _ ⟨⟨⟩, rfl, hA⟩
  simp only [List.cons_append, List.nil_append] at hA
  replace hA := hA.symm
  subst hA
  refine WL_ac0 (Ac_storeW rfl rfl sz42) rfl rfl ?_
  rintro _ _ rfl
  refine WL_end hK8 ?_
  refine WC_ret ?_
  exact hret.go () (Rs1W rfl rfl tk42)

theorem rnode_ct {X : Asn} {v : Value} {ls : List Dg} {ao : Option Addr} {cap2 : Nat} (hS : Sv [X] v 32 fD ls ao cap2) (h0 : wdE ls.length = 0) : ∀ (m x : Nat), 2 * (wdM ls.length) - x ≤ m → 1 ≤ x → x < 2 * (wdM ls.length) → Ct Try.prog 146 [v, .int .i64 (((wdM ls.length) : Nat) : Int), .int .i64 ((x : Nat) : Int)] [X] (fun _ : Unit => aU .u8 (ndV ls x).1) (fun _ => [X])
  | 0, x, hm, h1, h2 => absurd h2 (by omega)
  | m + 1, x, hm, h1, h2 => rnodeS_ct hS h0 h1 h2 (fun y h3 h4 => rnode_ct hS h0 m y (by omega) (by omega) h4)

theorem rBuild_ct {X : Asn} {v : Value} {ls : List Dg} {ao : Option Addr} {cap2 : Nat} (hS : Sv [X] v 32 fD ls ao cap2 := by assumption) : Ct Try.prog 82 [v] [X] (fun g : Option Nat × Nat => .tuple #[sl g.1 (bldM ls).length g.2, .int .i64 (((wdE ls.length) : Nat) : Int)]) (fun g => [X, arr g.1 g.2 32 42 fD (bldM ls)]) := by
 refine Ct_body (n := 51) Try.func82 rfl rfl rfl fun F w0 Q hret hnorm hp => ?_
 change WC _ _ _ _ _ _ _ (_ :: F)
 refine WC_sr fun K1 hK1 => ?_
 refine WL_r (Rd_assign (v := sl none 0 0) rfl) rfl ?_
 refine WL_r (Rd_assign rfl) rfl ?_
 refine WL_end hK1 ?_
 refine WC_sr fun K2 hK2 => ?_
 refine WL_r (Rd_move rfl) rfl ?_
 refine WL_r (Rd_len_sv rfl rfl ud76) rfl ?_
 refine WL_ac (Ac_call cf135 rfl (hs := widthRL_ct (n := ls.length))) rfl rfl rfl ?_
 rintro _ _ ⟨⟨⟩, rfl, hA⟩
 simp only [List.cons_append, List.nil_append] at hA
 replace hA := hA.symm
 subst hA
 refine WL_r (Rd_assign rfl) rfl ?_
 refine WL_end hK2 ?_
 refine WC_seq fun K3 hK3 => ?_
 refine WC_sr fun K4 hK4 => ?_
 refine WL_r (Rd_move rfl) rfl ?_
 refine WL_r (Rd_eqlN (j := 0) rfl rfl) rfl ?_
 refine WL_end hK4 ?_
 refine WC_cond rfl (fun hc0 => ?_) (fun hc0 => ?_)
 ·try simp only [dz, ne_eq] at hc0
  have hw0 := wdM_0 hc0
  rw [bld_no (by omega), hw0] at hret
  refine WC_imp (fun w h => sat_nil (e := 32) (T := 42) (f := fD) h) ?_
  refine WC_sr fun K5 hK5 => ?_
  refine WL_r (Rd_assign (v := sl none 0 0) rfl) rfl ?_
  refine WL_r (Rd_assign rfl) rfl ?_
  refine WL_end hK5 ?_
  refine WC_ret ?_
  first | exact hret.goE (none, 0) (Rs2 rfl rfl rfl) rfl | exact hret.goE (some b15, 2 * (wdM ls.length) - 1) (Rs2 rfl rfl rfl) (by rw [hbl]; rfl)
 ·try simp only [dz, ne_eq] at hc0
  have hw0 := wdM_pos hc0
  have hwo := wd_ok (wdE_iff.1 hw0).1 (wdE_iff.1 hw0).2
  have hbl := bld_len hw0
  rw [hw0] at hret
  refine WC_skip ?_
  refine Ps_next hK3 ?_
  refine WC_sr fun K6 hK6 => ?_
  refine WL_r (Rd_move rfl) rfl ?_
  refine WL_r (Rd_mulN (i := 2) rfl rfl) rfl ?_
  refine WL_r (Rd_subN (j := 1) rfl rfl) rfl ?_
  refine WL_ac (Ac_make (f := fD) encD zD (l := 2 * (wdM ls.length) - 1) (c := 2 * (wdM ls.length) - 1) rfl rfl ud76 el42 zr42) rfl rfl rfl ?_
  rintro _ _ ⟨b15, rfl, rfl⟩
  refine WL_r (Rd_assign rfl) rfl ?_
  refine WL_end hK6 ?_
  refine WC_seq fun K7 hK7 => ?_
  refine WC_sr fun K8 hK8 => ?_
  refine WL_r (Rd_move rfl) rfl ?_
  refine WL_r (Rd_mulN (i := 2) rfl rfl) rfl ?_
  refine WL_r (Rd_subN (j := 1) rfl rfl) rfl ?_
  refine WL_r (Rd_assign rfl) rfl ?_
  refine WL_end hK8 ?_
  refine WC_block ?_
  rw [show List.replicate (2 * (wdM ls.length) - 1) zD = dnI (bldM ls) (2 * (wdM ls.length) - 1 - 0) from by rw [Nat.sub_zero, ← hbl, dnI_all]]
  refine WC_loopK (σ := Nat) (fun m => [(6, .int .i64 (((2 * (wdM ls.length) - 1 - m) : Nat) : Int))]) (fun m => [arr (some b15) (2 * (wdM ls.length) - 1) 32 42 fD (dnI (bldM ls) (2 * (wdM ls.length) - 1 - m))]) (fun m => m ≤ 2 * (wdM ls.length) - 1) (fun m => 2 * (wdM ls.length) - m) (0) [0, 2, 3, 4, 5, 50] kpA (by (try dsimp only); repeat (first | with_reducible exact Gv.nil | (with_reducible apply Gv.cons; · (repeat (first | with_reducible exact Ext.here | with_reducible apply Ext.there))))) ?_ ?_ Sub.refl ?_
  ·exact Nat.zero_le _
  ·(try dsimp only); exact (Wk.cons lkA Wk.nil)
  ·rintro m hm K9 hK9
   simp only [List.cons_append, List.nil_append]
   have hdl := dnI_len (B := (bldM ls)) (i := (2 * (wdM ls.length) - 1 - m)) (by omega)
   refine WC_seq fun K10 hK10 => ?_
   refine WC_sr fun K11 hK11 => ?_
   refine WL_r (Rd_move rfl) rfl ?_
   refine WL_r (Rd_geqN (j := 1) rfl rfl) rfl ?_
   refine WL_end hK11 ?_
   refine WC_cond rfl (fun hc1 => ?_) (fun hc1 => ?_)
   ·try simp only [dz, ne_eq] at hc1
    have hst := dnI_set' (B := (bldM ls)) (k := (2 * (wdM ls.length) - 1 - m)) (by omega) (by omega)
    have hnx := Dg_len (ndV ls (2 * (wdM ls.length) - 1 - m))
    refine WC_skip ?_
    refine Ps_next hK10 ?_
    refine WC_seq fun K12 hK12 => ?_
    refine WC_block ?_
    refine WC_sr fun K13 hK13 => ?_
    refine WL_r (Rd_move rfl) rfl ?_
    refine WL_r (Rd_move rfl) rfl ?_
    refine WL_r (Rd_geqN rfl rfl) rfl ?_
    refine WL_end hK13 ?_
    refine WC_cond rfl (fun hc2 => ?_) (fun hc2 => ?_)
    ·try simp only [dz, ne_eq] at hc2
     refine WC_region ?_
     refine WL_r (Rd_move rfl) rfl ?_
     refine WL_r (Rd_move rfl) rfl ?_
     refine WL_r (Rd_subN (j := 1) rfl rfl) rfl ?_
     refine WL_r (Rd_move rfl) rfl ?_
     refine WL_r (Rd_move rfl) rfl ?_
     refine WL_r (Rd_move rfl) rfl ?_
     refine WL_ac (Ac_call cf146 rfl (hs := rnode_ct (X := X) (v := v) hS hw0 2000 (2 * (wdM ls.length) - 1 - m) (by omega) (by omega) (by omega))) rfl rfl rfl ?_
     rintro _ _ ⟨⟨⟩, rfl, hA⟩
     simp only [List.cons_append, List.nil_append] at hA
     replace hA := hA.symm
     subst hA
     refine WL_r (Rd_index ((2 * (wdM ls.length) - 1 - m) - 1) rfl rfl ud76 sz42 (hj := by omega)) rfl ?_
     refine WL_ac0 (Ac_storeD ((bldM ls).getD ((2 * (wdM ls.length) - 1 - m) - 1) zD) rfl rfl sz42) rfl rfl ?_
     rintro _ _ rfl
     rw [hst, show (2 * (wdM ls.length) - 1 - m) - 1 = 2 * (wdM ls.length) - 1 - (m + 1) from rfl]
     refine WL_nil ?_
     refine Ps_next hK12 ?_
     refine WC_region ?_
     refine WL_r (Rd_move rfl) rfl ?_
     refine WL_r (Rd_sub' (r := ((2 * (wdM ls.length) - 1 - (m + 1) : Nat) : Int)) rfl rfl (wr64 (by omega) (by omega) (by omega))) rfl ?_
     refine WL_r (Rd_assign rfl) rfl ?_
     refine WL_nil ?_
     refine Ps_wkA (hK9 (m + 1) (by omega) (by omega))
    ·try simp only [dz, ne_eq] at hc2
     have hdn : ((bldM ls).getD ((2 * (wdM ls.length) - 1 - m) - 1) zD).1 = (nodeD ((dnI (bldM ls) (2 * (wdM ls.length) - 1 - m)).getD (2 * (2 * (wdM ls.length) - 1 - m) - 1) zD) ((dnI (bldM ls) (2 * (wdM ls.length) - 1 - m)).getD (2 * (2 * (wdM ls.length) - 1 - m)) zD)).1 := by rw [bld_node hw0 (by omega) (by omega), dnI_get (i := (2 * (wdM ls.length) - 1 - m)) (j := 2 * (2 * (wdM ls.length) - 1 - m) - 1) (by omega) (by omega), dnI_get (i := (2 * (wdM ls.length) - 1 - m)) (j := 2 * (2 * (wdM ls.length) - 1 - m)) (by omega) (by omega)]
     have hd1 := Dg_len ((dnI (bldM ls) (2 * (wdM ls.length) - 1 - m)).getD (2 * (2 * (wdM ls.length) - 1 - m) - 1) zD)
     have hd2 := Dg_len ((dnI (bldM ls) (2 * (wdM ls.length) - 1 - m)).getD (2 * (2 * (wdM ls.length) - 1 - m)) zD)
     refine WC_drawA mix (fun i => ([2, 2, 2, 2, 2, 2, 2, 2, 2, 2, 2, 2, 2, 2, 1, 2, 0] : List Nat).getD i 0) ?_
     refine WJ_tp 0 rfl (Rd_move rfl) rfl (hp _ _) ?_
     refine WJ_tp 1 rfl (Rd_move rfl) rfl (hp _ _) ?_
     refine WJ_tp 2 rfl (Rd_subN (j := 1) rfl rfl) rfl (hp _ _) ?_
     refine WJ_tp 3 rfl (Rd_move rfl) rfl (hp _ _) ?_
     refine WJ_tp 4 rfl (Rd_move rfl) rfl (hp _ _) ?_
     refine WJ_tp 5 rfl (Rd_mulN (i := 2) rfl rfl) rfl (hp _ _) ?_
     refine WJ_tp 6 rfl (Rd_subN (j := 1) rfl rfl) rfl (hp _ _) ?_
     refine WJ_tp 7 rfl (Rd_index (2 * (2 * (wdM ls.length) - 1 - m) - 1) rfl rfl ud76 sz42 (hj := by omega)) rfl (hp _ _) ?_
     refine WJ_tk 8 (Rd_aU (k := .u8) (l := ((dnI (bldM ls) (2 * (wdM ls.length) - 1 - m)).getD (2 * (2 * (wdM ls.length) - 1 - m) - 1) zD).1) (Rd_loadg_arr (i := 2 * (2 * (wdM ls.length) - 1 - m) - 1) rfl tk42 (hl := at_of (by omega))) rfl) hp ?_ rfl (by kernel_rfl) rfl rfl rfl
     refine WJ_tp 9 rfl (Rd_move rfl) rfl (hp _ _) ?_
     refine WJ_tp 10 rfl (Rd_move rfl) rfl (hp _ _) ?_
     refine WJ_tp 11 rfl (Rd_mulN (i := 2) rfl rfl) rfl (hp _ _) ?_
     refine WJ_tp 12 rfl (Rd_index (2 * (2 * (wdM ls.length) - 1 - m)) rfl rfl ud76 sz42 (hj := by omega)) rfl (hp _ _) ?_
     refine WJ_tk 13 (Rd_aU (k := .u8) (l := ((dnI (bldM ls) (2 * (wdM ls.length) - 1 - m)).getD (2 * (2 * (wdM ls.length) - 1 - m)) zD).1) (Rd_loadg_arr (i := 2 * (2 * (wdM ls.length) - 1 - m)) rfl tk42 (hl := at_of (by omega))) rfl) hp ?_ rfl (by kernel_rfl) rfl rfl rfl
     refine WJ_all (rs := [14]) (by kernel_rfl) rfl ?_
     refine WI_one ?_
     refine WI_ac rfl (Ac_call cf77 rfl (hs := nodeR_ct (x := ((dnI (bldM ls) (2 * (wdM ls.length) - 1 - m)).getD (2 * (2 * (wdM ls.length) - 1 - m) - 1) zD).1) (y := ((dnI (bldM ls) (2 * (wdM ls.length) - 1 - m)).getD (2 * (2 * (wdM ls.length) - 1 - m)) zD).1) (hx := Dg_len _) (hy := Dg_len _))) rfl rfl rfl rfl ?_
     rintro _ _ ⟨⟨⟩, rfl, hA⟩
     simp only [List.cons_append, List.nil_append] at hA
     replace hA := hA.symm
     subst hA
     refine ⟨(fun _ => subA), ?_⟩
     refine WJ_tp 15 rfl (Rd_index ((2 * (wdM ls.length) - 1 - m) - 1) rfl rfl ud76 sz42 (hj := by omega)) rfl (hp _ _) ?_
     refine WJ_all (rs := [16]) (by kernel_rfl) rfl ?_
     refine WI_one ?_
     refine WI_ac0 rfl (Ac_storeD ((bldM ls).getD ((2 * (wdM ls.length) - 1 - m) - 1) zD) rfl rfl sz42 (hd := hdn)) rfl rfl rfl ?_
     rintro _ _ rfl
     refine ⟨(fun h => by cases h), ?_⟩
     rw [hst, show (2 * (wdM ls.length) - 1 - m) - 1 = 2 * (wdM ls.length) - 1 - (m + 1) from rfl]
     refine WJ_done (by kernel_rfl) ?_
     refine Ps_next hK12 ?_
     refine WC_region ?_
     refine WL_r (Rd_move rfl) rfl ?_
     refine WL_r (Rd_sub' (r := ((2 * (wdM ls.length) - 1 - (m + 1) : Nat) : Int)) rfl rfl (wr64 (by omega) (by omega) (by omega))) rfl ?_
     refine WL_r (Rd_assign rfl) rfl ?_
     refine WL_nil ?_
     refine Ps_wkA (hK9 (m + 1) (by omega) (by omega))
   ·try simp only [dz, ne_eq] at hc1
    obtain hme : (2 * (wdM ls.length) - 1 - m) = 0 := by omega
    rw [hme, dnI_0]
    refine WC_exit ?_
    refine Ps_next hK7 ?_
    refine WC_sr fun K14 hK14 => ?_
    refine WL_r (Rd_move rfl) rfl ?_
    refine WL_r (Rd_assign rfl) rfl ?_
    refine WL_r (Rd_assign rfl) rfl ?_
    refine WL_end hK14 ?_
    refine WC_ret ?_
    first | exact hret.goE (none, 0) (Rs2 rfl rfl rfl) rfl | exact hret.goE (some b15, 2 * (wdM ls.length) - 1) (Rs2 rfl rfl rfl) (by rw [hbl]; rfl)

end Go.Proofs.Ytgkpbeikcpecbaa
