/-
  Contracts of functions that the claim reaches, or the logic and the plain laws that they rest on, or the row over them. (Conditions: none beyond the statement.)
-/
import Derived.Test.YtgkpbeikcpecbaaPxN
import Derived.Test.YtgkpbeikcpecbaaPxPu
set_option linter.all false
namespace Go.Proofs.Ytgkpbeikcpecbaa
open Go.RowKit Go.SL Go.ShM
set_option maxHeartbeats 1000000
set_option maxRecDepth 20000
set_option linter.all false

theorem dLeaf_ct {qb gi ci gd cd n w : Nat} {Kn : KM} {i : Int} (hs : SupK w Kn) (hn : n ≤ 100000 := by omega) (hw : w ≤ 100000 := by omega) : Ct Try.prog 155 [.pointer (some ⟨qb, 0, none⟩), .int .i64 i] [cl qb 136 [.int .i64 ((n : Nat) : Int), .int .i64 ((w : Nat) : Int), sl (some gi) (2 * w) ci, sl (some gd) (2 * w) cd], arr (some gi) ci 1 4 eBool (isL Kn w), arr (some gd) cd 32 42 fD (dgL Kn w)] (fun _ : Unit => .tuple #[aU .u8 ((lfK n w Kn i).getD zD).1, .bool (lfK n w Kn i).isSome]) (fun _ => [cl qb 136 [.int .i64 ((n : Nat) : Int), .int .i64 ((w : Nat) : Int), sl (some gi) (2 * w) ci, sl (some gd) (2 * w) cd], arr (some gi) ci 1 4 eBool (isL Kn w), arr (some gd) cd 32 42 fD (dgL Kn w)]) := by
 refine Ct_body (n := 27) Try.func155 rfl rfl rfl fun F w0 Q hret hnorm hp => ?_
 change WC _ _ _ _ _ _ _ (_ :: _ :: _ :: F)
 have hz32 : (List.replicate 32 0#8).length = 32 := rfl
 have hd := Dg_len ((Kn ((w : Int) + i)).getD zD)
 refine WC_sr fun K1 hK1 => ?_
 refine WL_ac (Ac_allocW (k := .u8) (w := 8) (m := 32) zr42) rfl rfl rfl ?_
 rintro _ _ ⟨b4, rfl, rfl⟩
 refine WL_r (Rd_assign rfl) rfl ?_
 refine WL_end hK1 ?_
 refine WC_seq fun K2 hK2 => ?_
 refine WC_sr fun K3 hK3 => ?_
 refine WL_r (Rd_move rfl) rfl ?_
 refine WL_r (Rd_lss rfl rfl) rfl ?_
 refine WL_r (Rd_move rfl) rfl ?_
 refine WL_bool 8 rfl (fun hg4 => ?_) (fun hg4 => ?_)
 ·try simp only [dz, ne_eq] at hg4
  have q1 := hg4
  refine WL_skip rfl rfl rfl ?_
  refine WL_skip rfl rfl rfl ?_
  refine WL_skip rfl rfl rfl ?_
  refine WL_skip rfl rfl rfl ?_
  refine WL_skip rfl rfl rfl ?_
  refine WL_skip rfl rfl rfl ?_
  refine WL_r (Rd_pickT rfl rfl) rfl ?_
  refine WL_end hK3 ?_
  refine WC_condT rfl ?_
  have hl : lfB n i = false := lfB_f.2 (by omega)
  rw [show lfK n w Kn i = none from by unfold lfK; rw [if_neg (by rw [hl]; decide)]] at hret
  rw [show (Option.getD none zD).1 = (List.replicate 32 0#8) from rfl, show (none : Option Dg).isSome = false from rfl] at hret
  refine WC_sr fun K5 hK5 => ?_
  refine WL_r (Rd_aU (k := .u8) (l := (List.replicate 32 0#8)) (Rd_build pls42 rfl) (by rfl)) rfl ?_
  refine WL_ac0 (Ac_storeW rfl rfl sz42) rfl rfl ?_
  rintro _ _ rfl
  refine WL_r (Rd_assign rfl) rfl ?_
  refine WL_end hK5 ?_
  refine WC_ret ?_
  exact hret.gf () (Rs2cW rfl rfl rfl tk42)
 ·try simp only [dz, ne_eq] at hg4
  have q1 := hg4
  refine WL_r (Rd_move rfl) rfl ?_
  refine WL_r (Rd_move rfl) rfl ?_
  refine WL_r (Rd_nilCheck rfl) rfl ?_
  refine WL_r (Rd_fieldAddr rfl fo136_0) rfl ?_
  refine WL_r (Rd_load rfl tk3) rfl ?_
  refine WL_r (Rd_geq rfl rfl) rfl ?_
  refine WL_r (Rd_pickF rfl rfl) rfl ?_
  refine WL_end hK3 ?_
  refine WC_cond rfl (fun hc0 => ?_) (fun hc0 => ?_)
  ·try simp only [dz, ne_eq] at hc0
   have hl : lfB n i = false := lfB_f.2 (by omega)
   rw [show lfK n w Kn i = none from by unfold lfK; rw [if_neg (by rw [hl]; decide)]] at hret
   rw [show (Option.getD none zD).1 = (List.replicate 32 0#8) from rfl, show (none : Option Dg).isSome = false from rfl] at hret
   refine WC_sr fun K6 hK6 => ?_
   refine WL_r (Rd_aU (k := .u8) (l := (List.replicate 32 0#8)) (Rd_build pls42 rfl) (by rfl)) rfl ?_
   refine WL_ac0 (Ac_storeW rfl rfl sz42) rfl rfl ?_
   rintro _ _ rfl
   refine WL_r (Rd_assign rfl) rfl ?_
   refine WL_end hK6 ?_
   refine WC_ret ?_
   exact hret.gf () (Rs2cW rfl rfl rfl tk42)
  ·try simp only [dz, ne_eq] at hc0
   have hl : lfB n i = true := lfB_t.2 (by omega)
   have hli := lfB_t.1 hl
   rw [show lfK n w Kn i = Kn ((w : Int) + i) from by unfold lfK; rw [if_pos hl]] at hret
   refine WC_skip ?_
   refine Ps_next hK2 ?_
   refine WC_sr fun K7 hK7 => ?_
   refine WL_r (Rd_move rfl) rfl ?_
   refine WL_r (Rd_move rfl) rfl ?_
   refine WL_r (Rd_nilCheck rfl) rfl ?_
   refine WL_r (Rd_fieldAddr rfl fo136_1) rfl ?_
   refine WL_r (Rd_load rfl tk3) rfl ?_
   refine WL_r (Rd_move rfl) rfl ?_
   refine WL_r (Rd_add' (r := (w : Int) + i) rfl rfl (wr64 rfl (by omega) (by omega))) rfl ?_
   refine WL_ac (Ac_call cf81 rfl (hs := dKnown_ct (qb := qb) (gi := gi) (ci := ci) (gd := gd) (cd := cd) (n := n) (w := w) (Kn := Kn) (i := (w : Int) + i) (hs := hs))) rfl rfl rfl ?_
   rintro _ _ ⟨⟨⟩, rfl, hA⟩
   simp only [List.cons_append, List.nil_append] at hA
   replace hA := hA.symm
   subst hA
   refine WL_r (Rd_ext0 rfl) rfl ?_
   refine WL_r (Rd_ext1 rfl) rfl ?_
   refine WL_ac0 (Ac_storeW rfl rfl sz42) rfl rfl ?_
   rintro _ _ rfl
   refine WL_r (Rd_assign rfl) rfl ?_
   refine WL_end hK7 ?_
   refine WC_ret ?_
   exact hret.gf () (Rs2cW rfl rfl rfl tk42)

theorem dWhole_ct {qb gi ci gd cd n w : Nat} {Kn : KM} (hs : SupK w Kn) (hw1 : 1 ≤ w) (hw : w ≤ 100000 := by omega) : Ct Try.prog 156 [.pointer (some ⟨qb, 0, none⟩)] [cl qb 136 [.int .i64 ((n : Nat) : Int), .int .i64 ((w : Nat) : Int), sl (some gi) (2 * w) ci, sl (some gd) (2 * w) cd], arr (some gi) ci 1 4 eBool (isL Kn w), arr (some gd) cd 32 42 fD (dgL Kn w)] (fun _ : Unit => .bool (whB w Kn)) (fun _ => [cl qb 136 [.int .i64 ((n : Nat) : Int), .int .i64 ((w : Nat) : Int), sl (some gi) (2 * w) ci, sl (some gd) (2 * w) cd], arr (some gi) ci 1 4 eBool (isL Kn w), arr (some gd) cd 32 42 fD (dgL Kn w)]) := by
 refine Ct_body (n := 21) Try.func156 rfl rfl rfl fun F w0 Q hret hnorm hp => ?_
 change WC _ _ _ _ _ _ _ (_ :: _ :: _ :: F)
 refine WC_sr fun K1 hK1 => ?_
 refine WL_r (Rd_assign rfl) rfl ?_
 refine WL_end hK1 ?_
 refine WC_seq fun K2 hK2 => ?_
 refine WC_sr fun K3 hK3 => ?_
 refine WL_r (Rd_assign rfl) rfl ?_
 refine WL_end hK3 ?_
 refine WC_block ?_
 refine WC_loopK (σ := Nat) (fun j => [(3, .int .i64 ((j : Nat) : Int))]) (fun j => []) (fun j => 1 ≤ j ∧ ∀ i : Nat, 1 ≤ i → i < j → (Kn ((i : Nat) : Int)).isSome = true) (fun j => 2 * w - j) (1) [0] kpA (by (try dsimp only); repeat (first | with_reducible exact Gv.nil | (with_reducible apply Gv.cons; · (repeat (first | with_reducible exact Ext.here | with_reducible apply Ext.there))))) ?_ ?_ Sub.refl ?_
 ·exact ⟨Nat.le_refl _, fun i h1 h2 => by omega⟩
 ·(try dsimp only); exact (Wk.cons lkA Wk.nil)
 ·rintro j ⟨hj, hall⟩ K4 hK4
  simp only [List.cons_append, List.nil_append]
  refine WC_seq fun K5 hK5 => ?_
  refine WC_sr fun K6 hK6 => ?_
  refine WL_r (Rd_move rfl) rfl ?_
  refine WL_r (Rd_move rfl) rfl ?_
  refine WL_r (Rd_nilCheck rfl) rfl ?_
  refine WL_r (Rd_fieldAddr rfl fo136_1) rfl ?_
  refine WL_r (Rd_load rfl tk3) rfl ?_
  refine WL_r (Rd_mulN (i := 2) (j := w) rfl rfl) rfl ?_
  refine WL_r (Rd_lssN rfl rfl) rfl ?_
  refine WL_end hK6 ?_
  refine WC_cond rfl (fun hc0 => ?_) (fun hc0 => ?_)
  ·try simp only [dz, ne_eq] at hc0
   refine WC_skip ?_
   refine Ps_next hK5 ?_
   refine WC_seq fun K7 hK7 => ?_
   refine WC_block ?_
   refine WC_sr fun K8 hK8 => ?_
   refine WL_r (Rd_move rfl) rfl ?_
   refine WL_r (Rd_nilCheck rfl) rfl ?_
   refine WL_r (Rd_fieldAddr rfl fo136_2) rfl ?_
   refine WL_r (Rd_load rfl tk46) rfl ?_
   refine WL_r (Rd_move rfl) rfl ?_
   refine WL_r (Rd_index (j) rfl rfl ud46 sz4 (hi := by omega)) rfl ?_
   refine WL_r (Rd_load_arr (f := eBool) (i := j) (j := 0) rfl tk4 (hl := isL_at (K := Kn) (w := w) (by omega))) rfl ?_
   refine WL_r (Rd_not rfl) rfl ?_
   refine WL_end hK8 ?_
   refine WC_cond rfl (fun hc1 => ?_) (fun hc1 => ?_)
   ·try simp only [dz, ne_eq] at hc1
    rw [show whB w Kn = false from by rw [← Bool.not_eq_true]; intro hz; have := (whB_iff hs hw1).1 hz j hj (by omega); rw [this] at hc1; simp at hc1] at hret
    refine WC_sr fun K9 hK9 => ?_
    refine WL_r (Rd_assign rfl) rfl ?_
    refine WL_end hK9 ?_
    refine WC_ret ?_
    exact hret.gf () (Rs1 rfl rfl)
   ·try simp only [dz, ne_eq] at hc1
    refine WC_skip ?_
    refine Ps_next hK7 ?_
    refine WC_region ?_
    refine WL_r (Rd_move rfl) rfl ?_
    refine WL_r (Rd_addN (j := 1) rfl rfl) rfl ?_
    refine WL_r (Rd_assign rfl) rfl ?_
    refine WL_nil ?_
    refine Ps_wkB (hK4 (j + 1) (⟨by omega, fun i h1 h2 => by rcases Nat.lt_or_ge i j with z | z; exact hall i h1 z; (obtain rfl : i = j := by omega); simpa using hc1⟩) (by omega))
  ·try simp only [dz, ne_eq] at hc0
   rw [show whB w Kn = true from (whB_iff hs hw1).2 (fun i h1 h2 => hall i h1 (by omega))] at hret
   refine WC_exit ?_
   refine Ps_next hK2 ?_
   refine WC_sr fun K10 hK10 => ?_
   refine WL_r (Rd_assign rfl) rfl ?_
   refine WL_end hK10 ?_
   refine WC_ret ?_
   exact hret.gf () (Rs1 rfl rfl)

theorem dNeeds_ct {qb gi ci gd cd n w : Nat} {Kn : KM} {i0 : Int} (hw : w = wdM n) (h1 : 1 ≤ n) (h2 : n ≤ 512) (hr : (Kn 1).isSome = true) : Ct Try.prog 152 [.pointer (some ⟨qb, 0, none⟩), .int .i64 i0] [cl qb 136 [.int .i64 ((n : Nat) : Int), .int .i64 ((w : Nat) : Int), sl (some gi) (2 * w) ci, sl (some gd) (2 * w) cd], arr (some gi) ci 1 4 eBool (isL Kn w), arr (some gd) cd 32 42 fD (dgL Kn w)] (fun g : Option Nat × Nat => .tuple #[sl g.1 (ndsN n Kn i0).length g.2, .int .i64 (((askF n i0) : Nat) : Int)]) (fun g => [cl qb 136 [.int .i64 ((n : Nat) : Int), .int .i64 ((w : Nat) : Int), sl (some gi) (2 * w) ci, sl (some gd) (2 * w) cd], arr (some gi) ci 1 4 eBool (isL Kn w), arr (some gd) cd 32 42 fD (dgL Kn w), arr g.1 g.2 1 3 eN (ndsN n Kn i0)]) := by
 refine Ct_body (n := 49) Try.func152 rfl rfl rfl fun F w0 Q hret hnorm hp => ?_
 change WC _ _ _ _ _ _ _ (_ :: _ :: _ :: F)
 have hwo := wd_ok h1 h2
 rw [← hw] at hwo
 refine WC_sr fun K1 hK1 => ?_
 refine WL_r (Rd_assign (v := sl none 0 0) rfl) rfl ?_
 refine WL_r (Rd_assign rfl) rfl ?_
 refine WL_end hK1 ?_
 refine WC_seq fun K2 hK2 => ?_
 refine WC_sr fun K3 hK3 => ?_
 refine WL_r (Rd_move rfl) rfl ?_
 refine WL_r (Rd_lss rfl rfl) rfl ?_
 refine WL_r (Rd_move rfl) rfl ?_
 refine WL_bool 10 rfl (fun hg4 => ?_) (fun hg4 => ?_)
 ·try simp only [dz, ne_eq] at hg4
  have q1 := hg4
  refine WL_skip rfl rfl rfl ?_
  refine WL_skip rfl rfl rfl ?_
  refine WL_skip rfl rfl rfl ?_
  refine WL_skip rfl rfl rfl ?_
  refine WL_skip rfl rfl rfl ?_
  refine WL_skip rfl rfl rfl ?_
  refine WL_r (Rd_pickT rfl rfl) rfl ?_
  refine WL_end hK3 ?_
  refine WC_condT rfl ?_
  have hlb : lfB n i0 = false := lfB_f.2 (by omega)
  rw [show ndsN n Kn i0 = [] from by unfold ndsN; rw [if_neg (by rw [hlb]; decide)], show askF n i0 = 111 from by unfold askF; rw [if_neg (by rw [hlb]; decide)]] at hret
  refine WC_imp (fun w h => sat_nil (e := 1) (T := 3) (f := eN) h) ?_
  refine WC_sr fun K5 hK5 => ?_
  refine WL_r (Rd_assign (v := sl none 0 0) rfl) rfl ?_
  refine WL_r (Rd_assign rfl) rfl ?_
  refine WL_end hK5 ?_
  refine WC_ret ?_
  first | exact hret.go (none, 0) (Rs2 rfl rfl rfl) | exact hret.go (a, c) (Rs2 rfl rfl rfl)
 ·try simp only [dz, ne_eq] at hg4
  have q1 := hg4
  refine WL_r (Rd_move rfl) rfl ?_
  refine WL_r (Rd_move rfl) rfl ?_
  refine WL_r (Rd_nilCheck rfl) rfl ?_
  refine WL_r (Rd_fieldAddr rfl fo136_0) rfl ?_
  refine WL_r (Rd_load rfl tk3) rfl ?_
  refine WL_r (Rd_geq rfl rfl) rfl ?_
  refine WL_r (Rd_pickF rfl rfl) rfl ?_
  refine WL_end hK3 ?_
  refine WC_cond rfl (fun hc0 => ?_) (fun hc0 => ?_)
  ·try simp only [dz, ne_eq] at hc0
   have hlb : lfB n i0 = false := lfB_f.2 (by omega)
   rw [show ndsN n Kn i0 = [] from by unfold ndsN; rw [if_neg (by rw [hlb]; decide)], show askF n i0 = 111 from by unfold askF; rw [if_neg (by rw [hlb]; decide)]] at hret
   refine WC_imp (fun w h => sat_nil (e := 1) (T := 3) (f := eN) h) ?_
   refine WC_sr fun K6 hK6 => ?_
   refine WL_r (Rd_assign (v := sl none 0 0) rfl) rfl ?_
   refine WL_r (Rd_assign rfl) rfl ?_
   refine WL_end hK6 ?_
   refine WC_ret ?_
   first | exact hret.go (none, 0) (Rs2 rfl rfl rfl) | exact hret.go (a, c) (Rs2 rfl rfl rfl)
  ·try simp only [dz, ne_eq] at hc0
   have hlb : lfB n i0 = true := lfB_t.2 (by omega)
   obtain ⟨i, rfl⟩ : ∃ i : Nat, i0 = ((i : Nat) : Int) := ⟨i0.toNat, by omega⟩
   rw [show ndsN n Kn ((i : Nat) : Int) = needF Kn (w + i) from by unfold ndsN; rw [if_pos hlb, Int.toNat_natCast, hw], show askF n ((i : Nat) : Int) = 0 from by unfold askF; rw [if_pos hlb]] at hret
   refine WC_skip ?_
   refine Ps_next hK2 ?_
   refine WC_sr fun K7 hK7 => ?_
   refine WL_r (Rd_assign (v := sl none 0 0) rfl) rfl ?_
   refine WL_nilarr eN 1 3 ?_
   refine WL_end hK7 ?_
   refine WC_seq fun K8 hK8 => ?_
   refine WC_sr fun K9 hK9 => ?_
   refine WL_r (Rd_move rfl) rfl ?_
   refine WL_r (Rd_nilCheck rfl) rfl ?_
   refine WL_r (Rd_fieldAddr rfl fo136_1) rfl ?_
   refine WL_r (Rd_load rfl tk3) rfl ?_
   refine WL_r (Rd_move rfl) rfl ?_
   refine WL_r (Rd_addN (i := w) (j := i) rfl rfl) rfl ?_
   refine WL_r (Rd_assign rfl) rfl ?_
   refine WL_end hK9 ?_
   refine WC_block ?_
   rw [show sl none 0 0 = sl none ([] : List Nat).length 0 from rfl]
   refine WC_loopK (σ := Nat × (List Nat) × (Option Nat) × Nat) (fun ⟨at_, ns, a, c⟩ => [(6, sl a ns.length c), (7, .int .i64 ((at_ : Nat) : Int))]) (fun ⟨at_, ns, a, c⟩ => [arr a c 1 3 eN ns]) (fun ⟨at_, ns, a, c⟩ => 1 ≤ at_ ∧ at_ < 2 * w ∧ ns ++ (needF Kn at_) = (needF Kn (w + i)) ∧ ns.length + at_ ≤ 2048) (fun ⟨at_, ns, a, c⟩ => at_) ⟨w + i, [], none, 0⟩ [0, 4, 5, 48] kpA (by (try dsimp only); repeat (first | with_reducible exact Gv.nil | (with_reducible apply Gv.cons; · (repeat (first | with_reducible exact Ext.here | with_reducible apply Ext.there))))) ?_ ?_ Sub.refl ?_
   ·exact ⟨by omega, by omega, rfl, by simp; omega⟩
   ·(try dsimp only); exact (Wk.cons lkA (Wk.cons lkA Wk.nil))
   ·rintro ⟨at_, ns, a, c⟩ ⟨ha1, ha2, hnn, hnl⟩ K10 hK10
    simp only [List.cons_append, List.nil_append]
    refine WC_seq fun K11 hK11 => ?_
    refine WC_sr fun K12 hK12 => ?_
    refine WL_r (Rd_move rfl) rfl ?_
    refine WL_r (Rd_nilCheck rfl) rfl ?_
    refine WL_r (Rd_fieldAddr rfl fo136_2) rfl ?_
    refine WL_r (Rd_load rfl tk46) rfl ?_
    refine WL_r (Rd_move rfl) rfl ?_
    refine WL_r (Rd_index (at_) rfl rfl ud46 sz4 (hi := by omega)) rfl ?_
    refine WL_r (Rd_load_arr (f := eBool) (i := at_) (j := 0) rfl tk4 (hl := isL_at (K := Kn) (w := w) (by omega))) rfl ?_
    refine WL_r (Rd_not rfl) rfl ?_
    refine WL_end hK12 ?_
    refine WC_cond rfl (fun hc1 => ?_) (fun hc1 => ?_)
    ·try simp only [dz, ne_eq] at hc1
     have hu : (Kn ((at_ : Nat) : Int)).isSome = false := by simpa using hc1
     have hne : at_ ≠ 1 := fun e => by subst e; rw [show (((1 : Nat)) : Int) = 1 from rfl, hr] at hu; cases hu
     have hxl := xor_lt (j := at_) (w := w) (by omega)
     refine WC_skip ?_
     refine Ps_next hK11 ?_
     refine WC_seq fun K13 hK13 => ?_
     refine WC_block ?_
     refine WC_sr fun K14 hK14 => ?_
     refine WL_r (Rd_move rfl) rfl ?_
     refine WL_r (Rd_nilCheck rfl) rfl ?_
     refine WL_r (Rd_fieldAddr rfl fo136_2) rfl ?_
     refine WL_r (Rd_load rfl tk46) rfl ?_
     refine WL_r (Rd_move rfl) rfl ?_
     refine WL_r (Rd_xorN (i := at_) (j := 1) (by omega) (by omega) rfl rfl) rfl ?_
     refine WL_r (Rd_index (at_ ^^^ 1) rfl rfl ud46 sz4 (hi := by omega)) rfl ?_
     refine WL_r (Rd_load_arr (f := eBool) (i := (at_ ^^^ 1)) (j := 0) rfl tk4 (hl := isL_at (K := Kn) (w := w) (by omega))) rfl ?_
     refine WL_r (Rd_not rfl) rfl ?_
     refine WL_end hK14 ?_
     refine WC_cond rfl (fun hc2 => ?_) (fun hc2 => ?_)
     ·try simp only [dz, ne_eq] at hc2
      refine WC_region ?_
      refine WL_r (Rd_move rfl) rfl ?_
      refine WL_r (Rd_move rfl) rfl ?_
      refine WL_r (Rd_xorN (i := at_) (j := 1) (by omega) (by omega) rfl rfl) rfl ?_
      refine WL_ac (Ac_bs1 rfl ud101 zr3 sz3) rfl rfl rfl ?_
      rintro _ _ ⟨b46, rfl, rfl⟩
      refine WL_ac (Ac_append1 (f := eN) encN (at_ ^^^ 1) rfl rfl ud101 ud101 el3) rfl rfl rfl ?_
      rintro _ _ ⟨a47, cap47, rfl, rfl⟩
      rw [show ns.length + 1 = (ns ++ [at_ ^^^ 1]).length from by simp]
      refine WL_r (Rd_assign rfl) rfl ?_
      refine WL_nil ?_
      refine Ps_next hK13 ?_
      refine WC_region ?_
      refine WL_r (Rd_move rfl) rfl ?_
      refine WL_r (Rd_quoN (i := at_) (j := 2) rfl rfl) rfl ?_
      refine WL_r (Rd_assign rfl) rfl ?_
      refine WL_nil ?_
      refine Ps_wkB (hK10 ⟨at_ / 2, ns ++ [at_ ^^^ 1], a47, cap47⟩ (⟨by (try dsimp only); omega, by (try dsimp only); omega, by (try dsimp only); rw [List.append_assoc, ← hnn, needF_add ha1 hu (by simpa using hc2)]; rfl, by (try dsimp only); rw [List.length_append, List.length_singleton]; omega⟩) (by (try dsimp only); omega))
     ·try simp only [dz, ne_eq] at hc2
      refine WC_skip ?_
      refine Ps_next hK13 ?_
      refine WC_region ?_
      refine WL_r (Rd_move rfl) rfl ?_
      refine WL_r (Rd_quoN (i := at_) (j := 2) rfl rfl) rfl ?_
      refine WL_r (Rd_assign rfl) rfl ?_
      refine WL_nil ?_
      refine Ps_wkB (hK10 ⟨at_ / 2, ns, a, c⟩ (⟨by (try dsimp only); omega, by (try dsimp only); omega, by (try dsimp only); rw [← hnn, needF_has ha1 hu (by simpa using hc2)], by (try dsimp only); omega⟩) (by (try dsimp only); omega))
    ·try simp only [dz, ne_eq] at hc1
     have hu : (Kn ((at_ : Nat) : Int)).isSome = true := by simpa using hc1
     rw [needF_stop hu, List.append_nil] at hnn
     rw [← hnn] at hret
     refine WC_exit ?_
     refine Ps_next hK8 ?_
     refine WC_sr fun K15 hK15 => ?_
     refine WL_r (Rd_move rfl) rfl ?_
     refine WL_r (Rd_assign rfl) rfl ?_
     refine WL_r (Rd_assign rfl) rfl ?_
     refine WL_end hK15 ?_
     refine WC_ret ?_
     first | exact hret.go (none, 0) (Rs2 rfl rfl rfl) | exact hret.go (a, c) (Rs2 rfl rfl rfl)

theorem dChain_ct {qb gi ci gd cd n w : Nat} {Kn : KM} {i0 : Int} (hw : w = wdM n) (h1 : 1 ≤ n) (h2 : n ≤ 512) : Ct Try.prog 153 [.pointer (some ⟨qb, 0, none⟩), .int .i64 i0] [cl qb 136 [.int .i64 ((n : Nat) : Int), .int .i64 ((w : Nat) : Int), sl (some gi) (2 * w) ci, sl (some gd) (2 * w) cd], arr (some gi) ci 1 4 eBool (isL Kn w), arr (some gd) cd 32 42 fD (dgL Kn w)] (fun g : Option Nat × Nat => .tuple #[sl g.1 (chN n Kn i0).length g.2, .int .i64 (((chE n Kn i0) : Nat) : Int)]) (fun g => [cl qb 136 [.int .i64 ((n : Nat) : Int), .int .i64 ((w : Nat) : Int), sl (some gi) (2 * w) ci, sl (some gd) (2 * w) cd], arr (some gi) ci 1 4 eBool (isL Kn w), arr (some gd) cd 32 42 fD (dgL Kn w), arr g.1 g.2 33 133 eND (chN n Kn i0)]) := by
 refine Ct_body (n := 56) Try.func153 rfl rfl rfl fun F w0 Q hret hnorm hp => ?_
 change WC _ _ _ _ _ _ _ (_ :: _ :: _ :: F)
 have hwo := wd_ok h1 h2
 rw [← hw] at hwo
 refine WC_sr fun K1 hK1 => ?_
 refine WL_r (Rd_assign (v := sl none 0 0) rfl) rfl ?_
 refine WL_r (Rd_assign rfl) rfl ?_
 refine WL_end hK1 ?_
 refine WC_seq fun K2 hK2 => ?_
 refine WC_sr fun K3 hK3 => ?_
 refine WL_r (Rd_move rfl) rfl ?_
 refine WL_r (Rd_lss rfl rfl) rfl ?_
 refine WL_r (Rd_move rfl) rfl ?_
 refine WL_bool 10 rfl (fun hg4 => ?_) (fun hg4 => ?_)
 ·try simp only [dz, ne_eq] at hg4
  have q1 := hg4
  refine WL_skip rfl rfl rfl ?_
  refine WL_skip rfl rfl rfl ?_
  refine WL_skip rfl rfl rfl ?_
  refine WL_skip rfl rfl rfl ?_
  refine WL_skip rfl rfl rfl ?_
  refine WL_skip rfl rfl rfl ?_
  refine WL_r (Rd_pickT rfl rfl) rfl ?_
  refine WL_end hK3 ?_
  refine WC_condT rfl ?_
  have hlb : lfB n i0 = false := lfB_f.2 (by omega)
  have hce : chE n Kn i0 = 111 := by unfold chE; rw [if_neg (by rw [hlb]; decide)]
  rw [show chN n Kn i0 = [] from by unfold chN; rw [if_neg (by rw [hce]; decide)], hce] at hret
  refine WC_imp (fun w h => sat_nil (e := 33) (T := 133) (f := eND) h) ?_
  refine WC_sr fun K5 hK5 => ?_
  refine WL_r (Rd_assign (v := sl none 0 0) rfl) rfl ?_
  refine WL_r (Rd_assign rfl) rfl ?_
  refine WL_end hK5 ?_
  refine WC_ret ?_
  first | exact hret.go (none, 0) (Rs2 rfl rfl rfl) | exact hret.go (a, c) (Rs2 rfl rfl rfl)
 ·try simp only [dz, ne_eq] at hg4
  have q1 := hg4
  refine WL_r (Rd_move rfl) rfl ?_
  refine WL_r (Rd_move rfl) rfl ?_
  refine WL_r (Rd_nilCheck rfl) rfl ?_
  refine WL_r (Rd_fieldAddr rfl fo136_0) rfl ?_
  refine WL_r (Rd_load rfl tk3) rfl ?_
  refine WL_r (Rd_geq rfl rfl) rfl ?_
  refine WL_r (Rd_pickF rfl rfl) rfl ?_
  refine WL_end hK3 ?_
  refine WC_cond rfl (fun hc0 => ?_) (fun hc0 => ?_)
  ·try simp only [dz, ne_eq] at hc0
   have hlb : lfB n i0 = false := lfB_f.2 (by omega)
   have hce : chE n Kn i0 = 111 := by unfold chE; rw [if_neg (by rw [hlb]; decide)]
   rw [show chN n Kn i0 = [] from by unfold chN; rw [if_neg (by rw [hce]; decide)], hce] at hret
   refine WC_imp (fun w h => sat_nil (e := 33) (T := 133) (f := eND) h) ?_
   refine WC_sr fun K6 hK6 => ?_
   refine WL_r (Rd_assign (v := sl none 0 0) rfl) rfl ?_
   refine WL_r (Rd_assign rfl) rfl ?_
   refine WL_end hK6 ?_
   refine WC_ret ?_
   first | exact hret.go (none, 0) (Rs2 rfl rfl rfl) | exact hret.go (a, c) (Rs2 rfl rfl rfl)
  ·try simp only [dz, ne_eq] at hc0
   have hlb : lfB n i0 = true := lfB_t.2 (by omega)
   obtain ⟨i, rfl⟩ : ∃ i : Nat, i0 = ((i : Nat) : Int) := ⟨i0.toNat, by omega⟩
   have hce0 : chE n Kn ((i : Nat) : Int) = if (Kn ((w + i : Nat) : Int)).isSome = true then 0 else 124 := by unfold chE; rw [if_pos hlb, ← hw]; rfl
   refine WC_skip ?_
   refine Ps_next hK2 ?_
   refine WC_seq fun K7 hK7 => ?_
   refine WC_seq fun K8 hK8 => ?_
   refine WC_drawA mix (fun i => ([2, 2, 2, 2, 2, 2, 2, 2, 2, 2, 2, 2, 2] : List Nat).getD i 0) ?_
   refine WJ_tp 0 rfl (Rd_move rfl) rfl (hp _ _) ?_
   refine WJ_tp 1 rfl (Rd_nilCheck rfl) rfl (hp _ _) ?_
   refine WJ_tp 2 rfl (Rd_fieldAddr rfl fo136_2) rfl (hp _ _) ?_
   refine WJ_tk 3 (Rd_load rfl tk46) hp ?_ rfl (by kernel_rfl) rfl rfl rfl
   refine WJ_tp 4 rfl (Rd_move rfl) rfl (hp _ _) ?_
   refine WJ_tp 5 rfl (Rd_nilCheck rfl) rfl (hp _ _) ?_
   refine WJ_tp 6 rfl (Rd_fieldAddr rfl fo136_1) rfl (hp _ _) ?_
   refine WJ_tk 7 (Rd_load rfl tk3) hp ?_ rfl (by kernel_rfl) rfl rfl rfl
   refine WJ_tp 8 rfl (Rd_move rfl) rfl (hp _ _) ?_
   refine WJ_tp 9 rfl (Rd_addN (i := w) (j := i) rfl rfl) rfl (hp _ _) ?_
   refine WJ_tp 10 rfl (Rd_index (w + i) rfl rfl ud46 sz4 (hi := by omega)) rfl (hp _ _) ?_
   refine WJ_tk 11 (Rd_load_arr (f := eBool) (i := (w + i)) (j := 0) rfl tk4 (hl := isL_at (K := Kn) (w := w) (by omega))) hp ?_ rfl (by kernel_rfl) rfl rfl rfl
   refine WJ_tp 12 rfl (Rd_not rfl) rfl (hp _ _) ?_
   refine WJ_done (by kernel_rfl) ?_
   refine Ps_next hK8 ?_
   refine WC_cond rfl (fun hc1 => ?_) (fun hc1 => ?_)
   ·try simp only [dz, ne_eq] at hc1
    have hce : chE n Kn ((i : Nat) : Int) = 124 := by rw [hce0, if_neg (by rw [Bool.not_eq_true]; simpa using hc1)]
    rw [show chN n Kn ((i : Nat) : Int) = [] from by unfold chN; rw [if_neg (by rw [hce]; decide)], hce] at hret
    refine WC_imp (fun w h => sat_nil (e := 33) (T := 133) (f := eND) h) ?_
    refine WC_sr fun K9 hK9 => ?_
    refine WL_r (Rd_assign (v := sl none 0 0) rfl) rfl ?_
    refine WL_r (Rd_assign rfl) rfl ?_
    refine WL_end hK9 ?_
    refine WC_ret ?_
    first | exact hret.go (none, 0) (Rs2 rfl rfl rfl) | exact hret.go (a, c) (Rs2 rfl rfl rfl)
   ·try simp only [dz, ne_eq] at hc1
    have hce : chE n Kn ((i : Nat) : Int) = 0 := by rw [hce0, if_pos (by simpa using hc1)]
    rw [show chN n Kn ((i : Nat) : Int) = chF Kn (w + i) from by unfold chN; rw [if_pos hce, Int.toNat_natCast, hw], hce] at hret
    refine WC_skip ?_
    refine Ps_next hK7 ?_
    refine WC_sr fun K10 hK10 => ?_
    refine WL_r (Rd_assign (v := sl none 0 0) rfl) rfl ?_
    refine WL_nilarr eND 33 133 ?_
    refine WL_end hK10 ?_
    refine WC_seq fun K11 hK11 => ?_
    refine WC_sr fun K12 hK12 => ?_
    refine WL_r (Rd_move rfl) rfl ?_
    refine WL_r (Rd_nilCheck rfl) rfl ?_
    refine WL_r (Rd_fieldAddr rfl fo136_1) rfl ?_
    refine WL_r (Rd_load rfl tk3) rfl ?_
    refine WL_r (Rd_move rfl) rfl ?_
    refine WL_r (Rd_addN (i := w) (j := i) rfl rfl) rfl ?_
    refine WL_r (Rd_assign rfl) rfl ?_
    refine WL_end hK12 ?_
    refine WC_block ?_
    rw [show sl none 0 0 = sl none ([] : List Nd).length 0 from rfl]
    refine WC_loopK (σ := Nat × (List Nd) × (Option Nat) × Nat) (fun ⟨at_, ns, a, c⟩ => [(6, sl a ns.length c), (7, .int .i64 ((at_ : Nat) : Int))]) (fun ⟨at_, ns, a, c⟩ => [arr a c 33 133 eND ns]) (fun ⟨at_, ns, a, c⟩ => 1 ≤ at_ ∧ at_ < 2 * w ∧ ns ++ chF Kn at_ = chF Kn (w + i) ∧ ns.length + at_ ≤ 2048) (fun ⟨at_, ns, a, c⟩ => at_) ⟨w + i, [], none, 0⟩ [0, 4, 5, 55] kpA (by (try dsimp only); repeat (first | with_reducible exact Gv.nil | (with_reducible apply Gv.cons; · (repeat (first | with_reducible exact Ext.here | with_reducible apply Ext.there))))) ?_ ?_ Sub.refl ?_
    ·exact ⟨by omega, by omega, rfl, by simp; omega⟩
    ·(try dsimp only); exact (Wk.cons lkA (Wk.cons lkA Wk.nil))
    ·rintro ⟨at_, ns, a, c⟩ ⟨ha1, ha2, hnn, hnl⟩ K13 hK13
     simp only [List.cons_append, List.nil_append]
     refine WC_seq fun K14 hK14 => ?_
     refine WC_sr fun K15 hK15 => ?_
     refine WL_r (Rd_move rfl) rfl ?_
     refine WL_r (Rd_gtrN (j := 1) rfl rfl) rfl ?_
     refine WL_end hK15 ?_
     refine WC_cond rfl (fun hc2 => ?_) (fun hc2 => ?_)
     ·try simp only [dz, ne_eq] at hc2
      have hxl := xor_lt (j := at_) (w := w) (by omega)
      have hdx := Dg_len ((Kn (((at_ ^^^ 1 : Nat)) : Int)).getD zD)
      refine WC_skip ?_
      refine Ps_next hK14 ?_
      refine WC_seq fun K16 hK16 => ?_
      refine WC_block ?_
      refine WC_region ?_
      refine WL_r (Rd_move rfl) rfl ?_
      refine WL_r (Rd_move rfl) rfl ?_
      refine WL_r (Rd_xorN (i := at_) (j := 1) (by omega) (by omega) rfl rfl) rfl ?_
      refine WL_r (Rd_move rfl) rfl ?_
      refine WL_r (Rd_nilCheck rfl) rfl ?_
      refine WL_r (Rd_fieldAddr rfl fo136_3) rfl ?_
      refine WL_r (Rd_load rfl tk76) rfl ?_
      refine WL_r (Rd_move rfl) rfl ?_
      refine WL_r (Rd_xorN (i := at_) (j := 1) (by omega) (by omega) rfl rfl) rfl ?_
      refine WL_r (Rd_index (at_ ^^^ 1) rfl rfl ud76 sz42 (hi := by omega)) rfl ?_
      refine WL_r (Rd_aU (k := .u8) (l := ((Kn ((((at_ ^^^ 1) : Nat)) : Int)).getD zD).1) (Rd_loadg_arr (f := fD) (i := (at_ ^^^ 1)) rfl tk42 (hl := dgL_at (K := Kn) (w := w) (by omega))) rfl) rfl ?_
      refine WL_r (Rd_build pls133 rfl (hf := fillND rfl)) rfl ?_
      refine WL_ac (Ac_bs1 (xs := eND ((((at_ ^^^ 1 : Nat)) : Int), (Kn (((at_ ^^^ 1 : Nat)) : Int)).getD zD)) rfl ud120 zr133 sz133 (hl := encND.len _)) rfl rfl rfl ?_
      rintro _ _ ⟨b53, rfl, rfl⟩
      refine WL_ac (Ac_append1 (f := eND) encND ((((at_ ^^^ 1 : Nat)) : Int), (Kn (((at_ ^^^ 1 : Nat)) : Int)).getD zD) rfl rfl ud120 ud120 el133) rfl rfl rfl ?_
      rintro _ _ ⟨a54, cap54, rfl, rfl⟩
      rw [show ns.length + 1 = (ns ++ [((((at_ ^^^ 1 : Nat)) : Int), (Kn (((at_ ^^^ 1 : Nat)) : Int)).getD zD)]).length from by simp]
      refine WL_r (Rd_assign rfl) rfl ?_
      refine WL_nil ?_
      refine Ps_next hK16 ?_
      refine WC_region ?_
      refine WL_r (Rd_move rfl) rfl ?_
      refine WL_r (Rd_quoN (i := at_) (j := 2) rfl rfl) rfl ?_
      refine WL_r (Rd_assign rfl) rfl ?_
      refine WL_nil ?_
      refine Ps_wkB (hK13 ⟨at_ / 2, ns ++ [((((at_ ^^^ 1 : Nat)) : Int), (Kn (((at_ ^^^ 1 : Nat)) : Int)).getD zD)], a54, cap54⟩ (⟨by (try dsimp only); omega, by (try dsimp only); omega, by (try dsimp only); rw [List.append_assoc, ← hnn, chF_gt (i := at_) (by omega)]; rfl, by (try dsimp only); rw [List.length_append, List.length_singleton]; omega⟩) (by (try dsimp only); omega))
     ·try simp only [dz, ne_eq] at hc2
      rw [chF_le (by omega), List.append_nil] at hnn
      rw [← hnn] at hret
      refine WC_exit ?_
      refine Ps_next hK11 ?_
      refine WC_sr fun K17 hK17 => ?_
      refine WL_r (Rd_move rfl) rfl ?_
      refine WL_r (Rd_assign rfl) rfl ?_
      refine WL_r (Rd_assign rfl) rfl ?_
      refine WL_end hK17 ?_
      refine WC_ret ?_
      first | exact hret.go (none, 0) (Rs2 rfl rfl rfl) | exact hret.go (a, c) (Rs2 rfl rfl rfl)
end Go.Proofs.Ytgkpbeikcpecbaa
