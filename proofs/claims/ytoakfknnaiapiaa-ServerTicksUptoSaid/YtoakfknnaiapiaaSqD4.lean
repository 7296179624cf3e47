/-
  Contracts of functions that the claim reaches, or the logic and the plain laws that they rest on, or the row over them. (Conditions: none beyond the statement.)
-/
import Derived.Test.YtoakfknnaiapiaaSqGh
set_option linter.all false
namespace Go.Proofs.Ytoakfknnaiapiaa
open Go.RowKit Go.SL Go.ShM Go.SvM
set_option maxHeartbeats 1000000
set_option maxRecDepth 20000
set_option linter.all false
theorem cf14 : cfn Try.prog 14 = true := by kernel_rfl
theorem cf15 : cfn Try.prog 15 = true := by kernel_rfl
theorem cf17 : cfn Try.prog 17 = true := by kernel_rfl
theorem cf18 : cfn Try.prog 18 = true := by kernel_rfl
theorem cf22 : cfn Try.prog 22 = true := by kernel_rfl
theorem ticks_no {X : Asn} {v : Value} {kvs : List KV} {ao : Option Addr} {cap : Nat} {room tick : Int} {steps : Int} {r : Rq} (hS : Sv [X] v 19 eKV kvs ao cap) (hOK : ∀ k ∈ kvs, OKv X k) (hn : kvs.length ≤ 2000000) (hlb : ∀ k ∈ kvs, k.ls.l.length ≤ 900000000000) (hwf : ¬ Wf room ⟨tick, (kvs.map KV.kp)⟩) : Ct Try.prog 6 [(.agg [.int .i64 room, .int .i64 tick, v].toArray), .int .i64 steps, .agg (eRq r).toArray] [X] (fun _ : Unit => .bool true) (fun _ => [X]) := by
 refine Ct_body (n := 102) Try.func6 rfl rfl rfl fun F w0 Q hret hnorm hp => ?_
 change WC _ _ _ _ _ _ _ (_ :: F)
 refine WC_sr fun K1 hK1 => ?_
 refine WL_ac (Ac_box (xs := [.int .i64 room, .int .i64 tick, v]) rfl rfl) rfl rfl rfl ?_
 rintro _ _ ⟨b3, rfl, rfl⟩
 refine WL_ac (Ac_box (xs := eRq r) rfl rfl) rfl rfl rfl ?_
 rintro _ _ ⟨b5, rfl, rfl⟩
 refine WL_r (Rd_assign rfl) rfl ?_
 refine WL_end hK1 ?_
 refine WC_seq fun K2 hK2 => ?_
 refine WC_sr fun K3 hK3 => ?_
 refine WL_ac (Ac_call cf17 rfl (hs := awake_ct)) rfl rfl rfl ?_
 rintro _ _ ⟨⟨⟩, rfl, hA⟩
 simp only [List.cons_append, List.nil_append] at hA
 replace hA := hA.symm
 subst hA
 refine WL_r (Rd_not rfl) rfl ?_
 refine WL_end hK3 ?_
 refine WC_condF rfl ?_
 refine WC_skip ?_
 refine Ps_next hK2 ?_
 refine WC_sr fun K4 hK4 => ?_
 refine WL_r (Rd_move rfl) rfl ?_
 refine WL_ac (Ac_call cf22 rfl (hs := pick_ct (x := steps) (n := 40))) rfl rfl rfl ?_
 rintro _ _ ⟨⟨⟩, rfl, hA⟩
 simp only [List.cons_append, List.nil_append] at hA
 replace hA := hA.symm
 subst hA
 refine WL_r (Rd_assign rfl) rfl ?_
 refine WL_end hK4 ?_
 refine WC_sr fun K5 hK5 => ?_
 refine WL_r (Rd_loadg (vs := [.int .i64 room, .int .i64 tick, v]) rfl tk54) rfl ?_
 refine WL_ac (Ac_call cf18 rfl (hs := loadA_no hS hOK (by omega) hlb hwf)) rfl rfl rfl ?_
 rintro _ _ ⟨⟨⟩, rfl, hA⟩
 simp only [List.cons_append, List.nil_append] at hA
 replace hA := hA.symm
 subst hA
 refine WL_r (Rd_move rfl) rfl ?_
 refine WL_r (Rd_ext0 rfl) rfl ?_
 refine WL_r (Rd_ext1 rfl) rfl ?_
 refine WL_r (Rd_assign rfl) rfl ?_
 refine WL_r (Rd_assign rfl) rfl ?_
 refine WL_end hK5 ?_
 refine WC_sr fun K6 hK6 => ?_
 refine WL_r (Rd_loadg (vs := [.int .i64 room, .int .i64 tick, v]) rfl tk54) rfl ?_
 refine WL_ac (Ac_call cf18 rfl (hs := loadA_no hS hOK (by omega) hlb hwf)) rfl rfl rfl ?_
 rintro _ _ ⟨⟨⟩, rfl, hA⟩
 simp only [List.cons_append, List.nil_append] at hA
 replace hA := hA.symm
 subst hA
 refine WL_r (Rd_move rfl) rfl ?_
 refine WL_r (Rd_ext0 rfl) rfl ?_
 refine WL_r (Rd_ext1 rfl) rfl ?_
 refine WL_r (Rd_assign rfl) rfl ?_
 refine WL_r (Rd_assign rfl) rfl ?_
 refine WL_end hK6 ?_
 refine WC_seq fun K7 hK7 => ?_
 refine WC_sr fun K8 hK8 => ?_
 refine WL_r (Rd_move rfl) rfl ?_
 refine WL_r (Rd_neqN (i := 192) (j := 0) rfl rfl) rfl ?_
 refine WL_r (Rd_move rfl) rfl ?_
 refine WL_skip rfl rfl rfl ?_
 refine WL_skip rfl rfl rfl ?_
 refine WL_r (Rd_pickT rfl rfl) rfl ?_
 refine WL_end hK8 ?_
 refine WC_condT rfl ?_
 refine WC_sr fun K9 hK9 => ?_
 refine WL_r (Rd_move rfl) rfl ?_
 refine WL_r (Rd_peq rfl rfl ud33) rfl ?_
 refine WL_r (Rd_move rfl) rfl ?_
 refine WL_r (Rd_move rfl) rfl ?_
 refine WL_r (Rd_peq rfl rfl ud33) rfl ?_
 refine WL_r (Rd_pickT rfl rfl) rfl ?_
 refine WL_r (Rd_move rfl) rfl ?_
 refine WL_r (Rd_move rfl) rfl ?_
 refine WL_r (Rd_move rfl) rfl ?_
 refine WL_r (Rd_eqlN (i := 192) (j := 192) rfl rfl) rfl ?_
 refine WL_r (Rd_pickT rfl rfl) rfl ?_
 refine WL_r (Rd_assign rfl) rfl ?_
 refine WL_end hK9 ?_
 refine WC_ret ?_
 exact hret.go () (Rs1 rfl rfl)

theorem ticks_ok {X : Asn} {v : Value} {kvs : List KV} {ao : Option Addr} {cap : Nat} {room tick : Int} {steps : Int} {r : Rq} (hS : Sv [X] v 19 eKV kvs ao cap) (hOK : ∀ k ∈ kvs, OKv X k) (hn : kvs.length ≤ 2000000) (hlb : ∀ k ∈ kvs, k.ls.l.length ≤ 900000000000) (hwf : Wf room ⟨tick, (kvs.map KV.kp)⟩) (hB : Sv [X] r.b.v 1 (eU .u8 (w := 8)) r.b.l r.b.ao r.b.cap) : Ct Try.prog 6 [(.agg [.int .i64 room, .int .i64 tick, v].toArray), .int .i64 steps, .agg (eRq r).toArray] [X] (fun _ : Unit => .bool true) (fun _ => [X]) := by
 refine Ct_body (n := 102) Try.func6 rfl rfl rfl fun F w0 Q hret hnorm hp => ?_
 change WC _ _ _ _ _ _ _ (_ :: F)
 have htk : 0 ≤ tick ∧ tick ≤ 1099511627776 := hwf.tk
 have hz : (⟨tick, (kvs.map KV.kp)⟩ : Sv1) = ⟨tick + ((0 : Nat) : Int), tickL (tick + ((0 : Nat) : Int)) (kvs.map KV.kp)⟩ := by rw [show tick + ((0 : Nat) : Int) = tick from by omega]; have q := tickL_now hwf; dsimp only at q; rw [q]
 refine WC_sr fun K1 hK1 => ?_
 refine WL_ac (Ac_box (xs := [.int .i64 room, .int .i64 tick, v]) rfl rfl) rfl rfl rfl ?_
 rintro _ _ ⟨b3, rfl, rfl⟩
 refine WL_ac (Ac_box (xs := eRq r) rfl rfl) rfl rfl rfl ?_
 rintro _ _ ⟨b5, rfl, rfl⟩
 refine WL_r (Rd_assign rfl) rfl ?_
 refine WL_end hK1 ?_
 refine WC_seq fun K2 hK2 => ?_
 refine WC_sr fun K3 hK3 => ?_
 refine WL_ac (Ac_call cf17 rfl (hs := awake_ct)) rfl rfl rfl ?_
 rintro _ _ ⟨⟨⟩, rfl, hA⟩
 simp only [List.cons_append, List.nil_append] at hA
 replace hA := hA.symm
 subst hA
 refine WL_r (Rd_not rfl) rfl ?_
 refine WL_end hK3 ?_
 refine WC_condF rfl ?_
 refine WC_skip ?_
 refine Ps_next hK2 ?_
 refine WC_sr fun K4 hK4 => ?_
 refine WL_r (Rd_move rfl) rfl ?_
 refine WL_ac (Ac_call cf22 rfl (hs := pick_ct (x := steps) (n := 40))) rfl rfl rfl ?_
 rintro _ _ ⟨⟨⟩, rfl, hA⟩
 simp only [List.cons_append, List.nil_append] at hA
 replace hA := hA.symm
 subst hA
 have hp40 := pickN_lt (x := steps) (n := 40) (by omega)
 generalize pickN steps 40 = k at hp40 ⊢
 refine WL_r (Rd_assign rfl) rfl ?_
 refine WL_end hK4 ?_
 refine WC_sr fun K5 hK5 => ?_
 refine WL_r (Rd_loadg (vs := [.int .i64 room, .int .i64 tick, v]) rfl tk54) rfl ?_
 refine WL_ac (Ac_call cf18 rfl (hs := loadA_ct hS hOK (by omega) hlb hwf)) rfl rfl rfl ?_
 rintro _ _ ⟨b1, rfl, hA⟩
 simp only [List.cons_append, List.nil_append] at hA
 replace hA := hA.symm
 subst hA
 refine WL_r (Rd_move rfl) rfl ?_
 refine WL_r (Rd_ext0 rfl) rfl ?_
 refine WL_r (Rd_ext1 rfl) rfl ?_
 refine WL_r (Rd_assign rfl) rfl ?_
 refine WL_r (Rd_assign rfl) rfl ?_
 refine WL_end hK5 ?_
 refine WC_sr fun K6 hK6 => ?_
 refine WL_r (Rd_loadg (vs := [.int .i64 room, .int .i64 tick, v]) rfl tk54) rfl ?_
 refine WL_ac (Ac_call cf18 rfl (hs := loadA_ct hS hOK (by omega) hlb hwf)) rfl rfl rfl ?_
 rintro _ _ ⟨b2, rfl, hA⟩
 simp only [List.cons_append, List.nil_append] at hA
 replace hA := hA.symm
 subst hA
 refine WL_r (Rd_move rfl) rfl ?_
 refine WL_r (Rd_ext0 rfl) rfl ?_
 refine WL_r (Rd_ext1 rfl) rfl ?_
 refine WL_r (Rd_assign rfl) rfl ?_
 refine WL_r (Rd_assign rfl) rfl ?_
 refine WL_end hK6 ?_
 refine WC_seq fun K7 hK7 => ?_
 refine WC_sr fun K8 hK8 => ?_
 refine WL_r (Rd_move rfl) rfl ?_
 refine WL_r (Rd_neqN (i := 0) (j := 0) rfl rfl) rfl ?_
 refine WL_r (Rd_move rfl) rfl ?_
 refine WL_r (Rd_move rfl) rfl ?_
 refine WL_r (Rd_neqN (i := 0) (j := 0) rfl rfl) rfl ?_
 refine WL_r (Rd_pickF rfl rfl) rfl ?_
 refine WL_end hK8 ?_
 refine WC_condF rfl ?_
 refine WC_skip ?_
 refine Ps_next hK7 ?_
 refine WC_seq fun K9 hK9 => ?_
 refine WC_sr fun K10 hK10 => ?_
 refine WL_r (Rd_fieldAddr rfl fo54_1) rfl ?_
 refine WL_r (Rd_load rfl tk3 (v := .int .i64 tick)) rfl ?_
 refine WL_r (Rd_move rfl) rfl ?_
 refine WL_r (Rd_add' rfl rfl (wr64 rfl (by omega) (by omega))) rfl ?_
 refine WL_r (Rd_gtr rfl rfl) rfl ?_
 refine WL_end hK10 ?_
 refine WC_cond rfl (fun hc2 => ?_) (fun hc2 => ?_)
 ·try simp only [dz, ne_eq] at hc2
  refine WC_sr fun K11 hK11 => ?_
  refine WL_r (Rd_assign rfl) rfl ?_
  refine WL_end hK11 ?_
  refine WC_ret ?_
  exact hret.go () (Rs1 rfl rfl)
 ·try simp only [dz, ne_eq] at hc2
  refine WC_skip ?_
  refine Ps_next hK9 ?_
  refine WC_seq fun K12 hK12 => ?_
  refine WC_sr fun K13 hK13 => ?_
  refine WL_r (Rd_assign rfl) rfl ?_
  refine WL_end hK13 ?_
  refine WC_block ?_
  rw [show SvA 40 85 5 b1 room ⟨tick, (kvs.map KV.kp)⟩ = SvA 40 85 5 b1 room ⟨tick + ((0 : Nat) : Int), tickL (tick + ((0 : Nat) : Int)) (kvs.map KV.kp)⟩ from by rw [hz]]
  refine WC_loopK (σ := Nat) (fun c => [(11, .int .i64 (((c + 1) : Nat) : Int))]) (fun c => [SvA 40 85 5 b1 room ⟨tick + ((c : Nat) : Int), tickL (tick + ((c : Nat) : Int)) (kvs.map KV.kp)⟩]) (fun c => c ≤ k) (fun c => k - c) (0) [1, 3, 5, 7, 8, 9, 12, 61, 62, 63, 64, 65, 66, 67, 68, 69, 70, 71, 72, 73, 74, 75, 76, 77, 78, 79, 80, 81, 82, 83, 84, 85, 86, 87, 88, 89, 90, 91, 93, 94, 95, 96, 97, 98, 99, 100, 101] kpA (by (try dsimp only); repeat (first | with_reducible exact Gv.nil | (with_reducible apply Gv.cons; · (repeat (first | with_reducible exact Ext.here | with_reducible apply Ext.there))))) ?_ ?_ Sub.refl ?_
  ·exact Nat.zero_le _
  ·(try dsimp only); exact (Wk.cons lkA Wk.nil)
  ·rintro c hc K14 hK14
   simp only [List.cons_append, List.nil_append]
   refine WC_seq fun K15 hK15 => ?_
   refine WC_sr fun K16 hK16 => ?_
   refine WL_r (Rd_move rfl) rfl ?_
   refine WL_r (Rd_move rfl) rfl ?_
   refine WL_r (Rd_leqN rfl rfl) rfl ?_
   refine WL_end hK16 ?_
   refine WC_cond rfl (fun hc3 => ?_) (fun hc3 => ?_)
   ·try simp only [dz, ne_eq] at hc3
    have hwc : Wf room ⟨tick + ((c : Nat) : Int), tickL (tick + ((c : Nat) : Int)) (kvs.map KV.kp)⟩ := hwf.tick (by dsimp only; omega) (by omega)
    refine WC_skip ?_
    refine Ps_next hK15 ?_
    refine WC_seq fun K17 hK17 => ?_
    refine WC_block ?_
    refine WC_sr fun K18 hK18 => ?_
    refine WL_r (Rd_move rfl) rfl ?_
    refine WL_r (Rd_fieldAddr rfl fo54_1) rfl ?_
    refine WL_r (Rd_load rfl tk3 (v := .int .i64 tick)) rfl ?_
    refine WL_r (Rd_move rfl) rfl ?_
    refine WL_r (Rd_add' rfl rfl (wr64 rfl (by omega) (by omega))) rfl ?_
    refine WL_ac (Ac_call cf9 rfl (hs := tickA_ct (b := b1) (s := ⟨tick + ((c : Nat) : Int), tickL (tick + ((c : Nat) : Int)) (kvs.map KV.kp)⟩) (t := tick + ((c + 1 : Nat) : Int)) hwc (by dsimp only; omega) (by omega))) rfl rfl rfl ?_
    rintro _ _ ⟨⟨⟩, rfl, hA⟩
    simp only [List.cons_append, List.nil_append] at hA
    replace hA := hA.symm
    subst hA
    (try dsimp only)
    rw [tickL_tick (show tick + ((c : Nat) : Int) ≤ tick + ((c + 1 : Nat) : Int) from by omega)]
    refine WL_r (Rd_neqN (i := 0) (j := 0) rfl rfl) rfl ?_
    refine WL_end hK18 ?_
    refine WC_condF rfl ?_
    refine WC_skip ?_
    refine Ps_next hK17 ?_
    refine WC_region ?_
    refine WL_r (Rd_move rfl) rfl ?_
    refine WL_r (Rd_addN (j := 1) rfl rfl) rfl ?_
    refine WL_r (Rd_assign rfl) rfl ?_
    refine WL_nil ?_
    refine Ps_wkA (hK14 (c + 1) (by omega) (by omega))
   ·try simp only [dz, ne_eq] at hc3
    obtain rfl : k = c := by omega
    have hwk : Wf room ⟨tick + ((k : Nat) : Int), tickL (tick + ((k : Nat) : Int)) (kvs.map KV.kp)⟩ := hwf.tick (by dsimp only; omega) (by omega)
    have hlk : (⟨tick + ((k : Nat) : Int), tickL (tick + ((k : Nat) : Int)) (kvs.map KV.kp)⟩ : Sv1).l.length ≤ 100000000 := by have q := tickL_len (tick + ((k : Nat) : Int)) (kvs.map KV.kp); rw [List.length_map] at q; dsimp only; omega
    refine WC_exit ?_
    refine Ps_next hK12 ?_
    refine WC_seq fun K19 hK19 => ?_
    refine WC_sr fun K20 hK20 => ?_
    refine WL_r (Rd_move rfl) rfl ?_
    refine WL_r (Rd_fieldAddr rfl fo54_1) rfl ?_
    refine WL_r (Rd_load rfl tk3 (v := .int .i64 tick)) rfl ?_
    refine WL_r (Rd_move rfl) rfl ?_
    refine WL_r (Rd_add' rfl rfl (wr64 rfl (by omega) (by omega))) rfl ?_
    refine WL_ac (Ac_call cf9 rfl (hs := tickA_ct (b := b2) (s := ⟨tick, (kvs.map KV.kp)⟩) (t := tick + ((k : Nat) : Int)) hwf (by dsimp only; omega) (by omega))) rfl rfl rfl ?_
    rintro _ _ ⟨⟨⟩, rfl, hA⟩
    simp only [List.cons_append, List.nil_append] at hA
    replace hA := hA.symm
    subst hA
    (try dsimp only)
    refine WL_r (Rd_neqN (i := 0) (j := 0) rfl rfl) rfl ?_
    refine WL_r (Rd_move rfl) rfl ?_
    refine WL_r (Rd_move rfl) rfl ?_
    refine WL_ac (Ac_call cf15 rfl (hs := stateA_ct (b := b1) (s := ⟨tick + ((k : Nat) : Int), tickL (tick + ((k : Nat) : Int)) (kvs.map KV.kp)⟩) hwk hlk)) rfl rfl rfl ?_
    rintro _ _ ⟨g1, rfl, hA⟩
    simp only [List.cons_append, List.nil_append] at hA
    replace hA := hA.symm
    subst hA
    try dsimp only
    refine WL_r (Rd_move rfl) rfl ?_
    refine WL_ac (Ac_call cf15 rfl (hs := stateA_ct (b := b2) (s := ⟨tick + ((k : Nat) : Int), tickL (tick + ((k : Nat) : Int)) (kvs.map KV.kp)⟩) hwk hlk)) rfl rfl rfl ?_
    rintro _ _ ⟨g2, rfl, hA⟩
    simp only [List.cons_append, List.nil_append] at hA
    replace hA := hA.symm
    subst hA
    try dsimp only
    refine WL_ac (Ac_call cf14 rfl (hs := sameG_ct (room := room) (tick := tick + ((k : Nat) : Int)) g1 g2 hlk hwk)) rfl rfl rfl ?_
    rintro _ _ ⟨⟨⟩, rfl, hA⟩
    simp only [List.cons_append, List.nil_append] at hA
    replace hA := hA.symm
    subst hA
    refine WL_r (Rd_not rfl) rfl ?_
    refine WL_r (Rd_pickF rfl rfl) rfl ?_
    refine WL_end hK20 ?_
    refine WC_condF rfl ?_
    refine WC_skip ?_
    refine Ps_next hK19 ?_
    refine WC_seq fun K21 hK21 => ?_
    refine WC_sr fun K22 hK22 => ?_
    refine WL_r (Rd_fieldAddr rfl fo30_0) rfl ?_
    refine WL_r (Rd_load rfl tk22 (v := .int .u8 ((r.kind.toNat : Nat) : Int)) (hi := eRq_kind r)) rfl ?_
    refine WL_r (Rd_neqU (b := 1#8) rfl rfl) rfl ?_
    refine WL_r (Rd_move rfl) rfl ?_
    refine WL_bool 79 rfl (fun hg23 => ?_) (fun hg23 => ?_)
    ·try simp only [dz, ne_eq] at hg23
     refine WL_r (Rd_fieldAddr rfl fo30_0) rfl ?_
     refine WL_r (Rd_load rfl tk22 (v := .int .u8 ((r.kind.toNat : Nat) : Int)) (hi := eRq_kind r)) rfl ?_
     refine WL_r (Rd_neqU (b := 3#8) rfl rfl) rfl ?_
     refine WL_r (Rd_pickT rfl rfl) rfl ?_
     refine WL_end hK22 ?_
     refine WC_cond rfl (fun hc6 => ?_) (fun hc6 => ?_)
     ·try simp only [dz, ne_eq] at hc6
      refine WC_sr fun K24 hK24 => ?_
      refine WL_r (Rd_assign rfl) rfl ?_
      refine WL_end hK24 ?_
      refine WC_ret ?_
      exact hret.go () (Rs1 rfl rfl)
     ·try simp only [dz, ne_eq] at hc6
      obtain ⟨rp, hrp⟩ := ask_same (r := r) hwk (by first | exact .inl (by assumption) | exact .inr (by assumption))
      refine WC_skip ?_
      refine Ps_next hK21 ?_
      refine WC_sr fun K25 hK25 => ?_
      refine WL_r (Rd_move rfl) rfl ?_
      refine WL_ac (Ac_call cf15 rfl (hs := stateA_ct (b := b1) (s := ⟨tick + ((k : Nat) : Int), tickL (tick + ((k : Nat) : Int)) (kvs.map KV.kp)⟩) hwk hlk)) rfl rfl rfl ?_
      rintro _ _ ⟨g3, rfl, hA⟩
      simp only [List.cons_append, List.nil_append] at hA
      replace hA := hA.symm
      subst hA
      try dsimp only
      refine WL_ac (Ac_alloc zr54) rfl rfl rfl ?_
      rintro _ _ ⟨b12, rfl, rfl⟩
      refine WL_ac0 (Ac_store (ys := [.int .i64 room, .int .i64 (tick + ((k : Nat) : Int)), g3.v]) rfl rfl sz54 (h1 := by simp [setAt, Value.cells, Value.oneCell', g3.sv.val]) (hr := rfl)) rfl rfl ?_
      rintro _ _ rfl
      refine WL_end hK25 ?_
      refine WC_sr fun K26 hK26 => ?_
      refine WL_r (Rd_move rfl) rfl ?_
      refine WL_r (Rd_fieldAddr rfl fo54_1) rfl ?_
      refine WL_r (Rd_load rfl tk3 (v := .int .i64 (tick + ((k : Nat) : Int)))) rfl ?_
      refine WL_r (Rd_loadg (vs := eRq r) rfl tk30 (hl := by rw [eRq_len]; omega) (hi := eRq_all r)) rfl ?_
      refine WL_ac (Ac_call cf10 rfl (hs := doA_ct (b := b1) (room := room) (t := tick + ((k : Nat) : Int)) (s := ⟨tick + ((k : Nat) : Int), tickL (tick + ((k : Nat) : Int)) (kvs.map KV.kp)⟩) (s2 := ⟨tick + ((k : Nat) : Int), tickL (tick + ((k : Nat) : Int)) (kvs.map KV.kp)⟩) (r := r) (Y := X) (rp := rp) (er := 0) hwk hB hlk hrp)) rfl rfl rfl ?_
      rintro _ _ ⟨gr, rfl, hA⟩
      simp only [List.cons_append, List.nil_append] at hA
      replace hA := hA.symm
      subst hA
      refine WL_r (Rd_move rfl) rfl ?_
      refine WL_r (Rd_ext0 rfl) rfl ?_
      refine WL_r (Rd_ext1 rfl) rfl ?_
      refine WL_r (Rd_assign rfl) rfl ?_
      refine WL_end hK26 ?_
      refine WC_seq fun K27 hK27 => ?_
      refine WC_drawA mix (fun i => ([2, 2, 2, 2, 1, 2, 1, 2, 2] : List Nat).getD i 0) ?_
      refine WJ_tp 0 rfl (Rd_move rfl) rfl (hp _ _) ?_
      refine WJ_tp 1 rfl (Rd_eqlN (i := 0) (j := 0) rfl rfl) rfl (hp _ _) ?_
      refine WJ_tp 2 rfl (Rd_move rfl) rfl (hp _ _) ?_
      refine WJ_tp 3 rfl (Rd_move rfl) rfl (hp _ _) ?_
      refine WJ_tk 5 (Rd_loadg (vs := [.int .i64 room, .int .i64 (tick + ((k : Nat) : Int)), g3.v]) rfl tk54) hp ?_ rfl (by kernel_rfl) rfl rfl rfl
      refine WJ_all (rs := [4]) (by kernel_rfl) rfl ?_
      refine WI_one ?_
      refine WI_ac rfl (Ac_call cf15 rfl (hs := stateA_ct (b := b1) (s := ⟨tick + ((k : Nat) : Int), tickL (tick + ((k : Nat) : Int)) (kvs.map KV.kp)⟩) hwk hlk)) rfl rfl rfl rfl ?_
      rintro _ _ ⟨g4, rfl, hA⟩
      simp only [List.cons_append, List.nil_append] at hA
      replace hA := hA.symm
      subst hA
      try dsimp only
      refine ⟨(fun _ => subA), ?_⟩
      refine WJ_all (rs := [6]) (by kernel_rfl) rfl ?_
      refine WI_one ?_
      refine WI_ac rfl (Ac_call cf14 rfl (hs := sameG_ct (room := room) (tick := tick + ((k : Nat) : Int)) g4 g3 hlk hwk)) rfl rfl rfl rfl ?_
      rintro _ _ ⟨⟨⟩, rfl, hA⟩
      simp only [List.cons_append, List.nil_append] at hA
      replace hA := hA.symm
      subst hA
      refine ⟨(fun _ => subA), ?_⟩
      refine WJ_tp 7 rfl (Rd_pickT rfl rfl) rfl (hp _ _) ?_
      refine WJ_tp 8 rfl (Rd_assign rfl) rfl (hp _ _) ?_
      refine WJ_done (by kernel_rfl) ?_
      refine Ps_next hK27 ?_
      refine WC_ret ?_
      exact hret.go () (Rs1 rfl rfl)
    ·try simp only [dz, ne_eq] at hg23
     refine WL_skip rfl rfl rfl ?_
     refine WL_skip rfl rfl rfl ?_
     refine WL_skip rfl rfl rfl ?_
     refine WL_r (Rd_pickF rfl rfl) rfl ?_
     refine WL_end hK22 ?_
     refine WC_condF rfl ?_
     obtain ⟨rp, hrp⟩ := ask_same (r := r) hwk (by first | exact .inl (by assumption) | exact .inr (by assumption))
     refine WC_skip ?_
     refine Ps_next hK21 ?_
     refine WC_sr fun K28 hK28 => ?_
     refine WL_r (Rd_move rfl) rfl ?_
     refine WL_ac (Ac_call cf15 rfl (hs := stateA_ct (b := b1) (s := ⟨tick + ((k : Nat) : Int), tickL (tick + ((k : Nat) : Int)) (kvs.map KV.kp)⟩) hwk hlk)) rfl rfl rfl ?_
     rintro _ _ ⟨g3, rfl, hA⟩
     simp only [List.cons_append, List.nil_append] at hA
     replace hA := hA.symm
     subst hA
     try dsimp only
     refine WL_ac (Ac_alloc zr54) rfl rfl rfl ?_
     rintro _ _ ⟨b12, rfl, rfl⟩
     refine WL_ac0 (Ac_store (ys := [.int .i64 room, .int .i64 (tick + ((k : Nat) : Int)), g3.v]) rfl rfl sz54 (h1 := by simp [setAt, Value.cells, Value.oneCell', g3.sv.val]) (hr := rfl)) rfl rfl ?_
     rintro _ _ rfl
     refine WL_end hK28 ?_
     refine WC_sr fun K29 hK29 => ?_
     refine WL_r (Rd_move rfl) rfl ?_
     refine WL_r (Rd_fieldAddr rfl fo54_1) rfl ?_
     refine WL_r (Rd_load rfl tk3 (v := .int .i64 (tick + ((k : Nat) : Int)))) rfl ?_
     refine WL_r (Rd_loadg (vs := eRq r) rfl tk30 (hl := by rw [eRq_len]; omega) (hi := eRq_all r)) rfl ?_
     refine WL_ac (Ac_call cf10 rfl (hs := doA_ct (b := b1) (room := room) (t := tick + ((k : Nat) : Int)) (s := ⟨tick + ((k : Nat) : Int), tickL (tick + ((k : Nat) : Int)) (kvs.map KV.kp)⟩) (s2 := ⟨tick + ((k : Nat) : Int), tickL (tick + ((k : Nat) : Int)) (kvs.map KV.kp)⟩) (r := r) (Y := X) (rp := rp) (er := 0) hwk hB hlk hrp)) rfl rfl rfl ?_
     rintro _ _ ⟨gr, rfl, hA⟩
     simp only [List.cons_append, List.nil_append] at hA
     replace hA := hA.symm
     subst hA
     refine WL_r (Rd_move rfl) rfl ?_
     refine WL_r (Rd_ext0 rfl) rfl ?_
     refine WL_r (Rd_ext1 rfl) rfl ?_
     refine WL_r (Rd_assign rfl) rfl ?_
     refine WL_end hK29 ?_
     refine WC_seq fun K30 hK30 => ?_
     refine WC_drawA mix (fun i => ([2, 2, 2, 2, 1, 2, 1, 2, 2] : List Nat).getD i 0) ?_
     refine WJ_tp 0 rfl (Rd_move rfl) rfl (hp _ _) ?_
     refine WJ_tp 1 rfl (Rd_eqlN (i := 0) (j := 0) rfl rfl) rfl (hp _ _) ?_
     refine WJ_tp 2 rfl (Rd_move rfl) rfl (hp _ _) ?_
     refine WJ_tp 3 rfl (Rd_move rfl) rfl (hp _ _) ?_
     refine WJ_tk 5 (Rd_loadg (vs := [.int .i64 room, .int .i64 (tick + ((k : Nat) : Int)), g3.v]) rfl tk54) hp ?_ rfl (by kernel_rfl) rfl rfl rfl
     refine WJ_all (rs := [4]) (by kernel_rfl) rfl ?_
     refine WI_one ?_
     refine WI_ac rfl (Ac_call cf15 rfl (hs := stateA_ct (b := b1) (s := ⟨tick + ((k : Nat) : Int), tickL (tick + ((k : Nat) : Int)) (kvs.map KV.kp)⟩) hwk hlk)) rfl rfl rfl rfl ?_
     rintro _ _ ⟨g4, rfl, hA⟩
     simp only [List.cons_append, List.nil_append] at hA
     replace hA := hA.symm
     subst hA
     try dsimp only
     refine ⟨(fun _ => subA), ?_⟩
     refine WJ_all (rs := [6]) (by kernel_rfl) rfl ?_
     refine WI_one ?_
     refine WI_ac rfl (Ac_call cf14 rfl (hs := sameG_ct (room := room) (tick := tick + ((k : Nat) : Int)) g4 g3 hlk hwk)) rfl rfl rfl rfl ?_
     rintro _ _ ⟨⟨⟩, rfl, hA⟩
     simp only [List.cons_append, List.nil_append] at hA
     replace hA := hA.symm
     subst hA
     refine ⟨(fun _ => subA), ?_⟩
     refine WJ_tp 7 rfl (Rd_pickT rfl rfl) rfl (hp _ _) ?_
     refine WJ_tp 8 rfl (Rd_assign rfl) rfl (hp _ _) ?_
     refine WJ_done (by kernel_rfl) ?_
     refine Ps_next hK30 ?_
     refine WC_ret ?_
     exact hret.go () (Rs1 rfl rfl)
end Go.Proofs.Ytoakfknnaiapiaa
