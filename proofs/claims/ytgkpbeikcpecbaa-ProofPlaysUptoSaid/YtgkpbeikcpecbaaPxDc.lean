/-
  Contracts of functions that the claim reaches, or the logic and the plain laws that they rest on, or the row over them. (Conditions: none beyond the statement.)
-/
import Derived.Test.YtgkpbeikcpecbaaPxDb
import Derived.Test.YtgkpbeikcpecbaaPfM
set_option linter.all false
namespace Go.Proofs.Ytgkpbeikcpecbaa
open Go.RowKit Go.SL Go.ShM
set_option maxHeartbeats 1000000
set_option maxRecDepth 20000
set_option linter.all false
theorem cf144 : cfn Try.prog 144 = true := by kernel_rfl
theorem dPut_ct {qb gi ci gd cd n w : Nat} {Kn : KM} {X : Asn} {v : Value} {l : List Nd} {ao : Option Addr} {cap2 : Nat} (hS : Sv [X] v 33 eND l ao cap2 := by assumption) (hw1 : 1 ≤ w) (hw : w ≤ 100000 := by omega) (hll : l.length ≤ 900000000 := by omega) : Ct Try.prog 79 [.pointer (some ⟨qb, 0, none⟩), v] [cl qb 136 [.int .i64 ((n : Nat) : Int), .int .i64 ((w : Nat) : Int), sl (some gi) (2 * w) ci, sl (some gd) (2 * w) cd], arr (some gi) ci 1 4 eBool (isL Kn w), arr (some gd) cd 32 42 fD (dgL Kn w), X] (fun g : Nat × Nat × Nat × Nat => .int .i64 ((putD w Kn l).1)) (fun g => [cl qb 136 [.int .i64 ((n : Nat) : Int), .int .i64 ((w : Nat) : Int), sl (some g.1) (2 * w) g.2.1, sl (some g.2.2.1) (2 * w) g.2.2.2], arr (some g.1) g.2.1 1 4 eBool (isL (putD w Kn l).2 w), arr (some g.2.2.1) g.2.2.2 32 42 fD (dgL (putD w Kn l).2 w), X]) := by
 refine Ct_body (n := 242) Try.func79 rfl rfl rfl fun F w0 Q hret hnorm hp => ?_
 change WC _ _ _ _ _ _ _ (_ :: _ :: _ :: _ :: F)
 refine WC_sr fun K1 hK1 => ?_
 refine WL_r (Rd_assign rfl) rfl ?_
 refine WL_end hK1 ?_
 refine WC_sr fun K2 hK2 => ?_
 refine WL_r (Rd_move rfl) rfl ?_
 refine WL_ac (Ac_call cf144 rfl (hs := dClone_ct (qb := qb) (gi := gi) (ci := ci) (gd := gd) (cd := cd) (n := n) (w := w) (Kn := Kn) (hw1 := hw1))) rfl rfl rfl ?_
 rintro _ _ ⟨⟨pb2, gi2, ci2, gd2, cd2⟩, rfl, hA⟩
 simp only [List.cons_append, List.nil_append] at hA
 replace hA := hA.symm
 subst hA
 refine WL_r (Rd_assign rfl) rfl ?_
 refine WL_end hK2 ?_
 refine WC_seq fun K3 hK3 => ?_
 refine WC_sr fun K4 hK4 => ?_
 refine WL_r (Rd_assign rfl) rfl ?_
 refine WL_end hK4 ?_
 refine WC_block ?_
 refine WC_loopK (σ := Nat × KM) (fun ⟨k, Kc⟩ => [(6, .int .i64 ((k : Nat) : Int))]) (fun ⟨k, Kc⟩ => [arr (some gi2) ci2 1 4 eBool (isL Kc w), arr (some gd2) cd2 32 42 fD (dgL Kc w)]) (fun ⟨k, Kc⟩ => k ≤ l.length ∧ put1D w Kc (l.drop k) = put1D w Kn l) (fun ⟨k, Kc⟩ => l.length - k) ⟨0, Kn⟩ [0, 1, 5, 8, 9, 10, 11, 12, 75, 76, 77, 78, 79, 80, 81, 82, 83, 84, 85, 86, 87, 88, 89, 90, 91, 92, 93, 94, 95, 96, 97, 98, 99, 100, 101, 102, 103, 104, 105, 106, 107, 108, 109, 110, 111, 112, 113, 114, 115, 116, 117, 118, 119, 120, 121, 122, 123, 124, 125, 126, 127, 128, 129, 130, 131, 132, 133, 134, 135, 136, 137, 138, 139, 140, 141, 142, 143, 144, 145, 146, 147, 148, 149, 150, 151, 152, 153, 154, 155, 156, 157, 158, 159, 160, 161, 162, 163, 164, 165, 166, 167, 168, 169, 170, 171, 172, 173, 174, 175, 176, 177, 178, 179, 180, 181, 182, 183, 184, 185, 186, 187, 188, 189, 190, 191, 192, 193, 194, 195, 196, 197, 198, 199, 200, 201, 202, 203, 204, 205, 206, 207, 208, 209, 210, 211, 212, 213, 214, 215, 216, 217, 218, 219, 220, 221, 222, 223, 224, 225, 226, 227, 228, 229, 230, 231, 232, 233, 234, 235, 236, 237, 238, 239, 240, 241] kpA (by (try dsimp only); repeat (first | with_reducible exact Gv.nil | (with_reducible apply Gv.cons; · (repeat (first | with_reducible exact Ext.here | with_reducible apply Ext.there))))) ?_ ?_ Sub.refl ?_
 ·exact ⟨Nat.zero_le _, rfl⟩
 ·(try dsimp only); exact (Wk.cons lkA Wk.nil)
 ·rintro ⟨k, Kc⟩ ⟨hk, hpu⟩ K5 hK5
  simp only [List.cons_append, List.nil_append]
  refine WC_seq fun K6 hK6 => ?_
  refine WC_sr fun K7 hK7 => ?_
  refine WL_r (Rd_move rfl) rfl ?_
  refine WL_r (Rd_move rfl) rfl ?_
  refine WL_r (Rd_len_sv rfl rfl ud120 (hA := hS)) rfl ?_
  refine WL_r (Rd_lssN rfl rfl) rfl ?_
  refine WL_end hK7 ?_
  refine WC_cond rfl (fun hc0 => ?_) (fun hc0 => ?_)
  ·try simp only [dz, ne_eq] at hc0
   obtain ⟨⟨xi, xd⟩, hx⟩ : ∃ x : Nd, l[k]? = some x := ⟨_, List.getElem?_eq_getElem (by omega)⟩
   have hdx := drop_nd hx
   have hd2 := Dg_len xd
   refine WC_skip ?_
   refine Ps_next hK6 ?_
   refine WC_seq fun K8 hK8 => ?_
   refine WC_block ?_
   refine WC_sr fun K9 hK9 => ?_
   refine WL_r (Rd_move rfl) rfl ?_
   refine WL_r (Rd_move rfl) rfl ?_
   refine WL_r (Rd_index_sv k rfl rfl ud120 sz133 (hA := hS) (hi := by omega)) rfl ?_
   refine WL_r (Rd_loadg_sv (f := eND) (i := k) rfl tk133 (hA := hS) (hl := hx)) rfl ?_
   refine WL_ac (Ac_alloc zr133) rfl rfl rfl ?_
   rintro _ _ ⟨b7, rfl, rfl⟩
   refine WL_ac0 (Ac_store (ys := eND (xi, xd)) rfl rfl sz133 (hv := by show (eND (xi, xd)).toArray.size = 33; rw [List.size_toArray, encND.len]) (h1 := encND.one (xi, xd)) (hr := by show ([] ++ eND (xi, xd)) ++ [] = eND (xi, xd); rw [List.append_nil]; rfl)) rfl rfl ?_
   rintro _ _ rfl
   refine WL_end hK9 ?_
   refine WC_seq fun K10 hK10 => ?_
   refine WC_seq fun K11 hK11 => ?_
   refine WC_drawA mix (fun i => ([2, 2, 2, 2, 2, 2, 2, 2, 2, 2, 2, 2, 2] : List Nat).getD i 0) ?_
   refine WJ_tp 0 rfl (Rd_fieldAddr rfl fo133_0) rfl (hp _ _) ?_
   refine WJ_tk 1 (Rd_load rfl tk3 (v := .int .i64 xi)) hp ?_ rfl (by kernel_rfl) rfl rfl rfl
   refine WJ_tp 2 rfl (Rd_lss rfl rfl) rfl (hp _ _) ?_
   refine WJ_tp 3 rfl (Rd_move rfl) rfl (hp _ _) ?_
   refine WJ_bool 28 rfl (fun hg12 => ?_) (fun hg12 => ?_)
   ·try simp only [dz, ne_eq] at hg12
    have q0 := hg12
    refine WJ_skip 4 rfl (by kernel_rfl) rfl rfl rfl (hp _ _) ?_
    refine WJ_skip 5 rfl (by kernel_rfl) rfl rfl rfl (hp _ _) ?_
    refine WJ_skip 6 rfl (by kernel_rfl) rfl rfl rfl (hp _ _) ?_
    refine WJ_skip 7 rfl (by kernel_rfl) rfl rfl rfl (hp _ _) ?_
    refine WJ_skip 8 rfl (by kernel_rfl) rfl rfl rfl (hp _ _) ?_
    refine WJ_skip 9 rfl (by kernel_rfl) rfl rfl rfl (hp _ _) ?_
    refine WJ_skip 10 rfl (by kernel_rfl) rfl rfl rfl (hp _ _) ?_
    refine WJ_skip 11 rfl (by kernel_rfl) rfl rfl rfl (hp _ _) ?_
    refine WJ_tp 12 rfl (Rd_pickT rfl rfl) rfl (hp _ _) ?_
    refine WJ_done (by kernel_rfl) ?_
    refine Ps_next hK11 ?_
    refine WC_condT rfl ?_
    have hcr : xi < 1 ∨ 2 * (w : Int) ≤ xi := by omega
    refine WC_sr fun K13 hK13 => ?_
    refine WL_r (Rd_assign rfl) rfl ?_
    refine WL_end hK13 ?_
    refine WC_ret ?_
    have hS' : putD w Kn l = (120, _) := putD_a (by rw [← hpu, hdx, put1D_bad hcr]) (by decide)
    rw [hS'] at hret
    dsimp only at hret
    exact hret.gf (gi, ci, gd, cd) (Rs1 rfl rfl)
   ·try simp only [dz, ne_eq] at hg12
    have q0 := hg12
    refine WJ_tp 4 rfl (Rd_fieldAddr rfl fo133_0) rfl (hp _ _) ?_
    refine WJ_tk 5 (Rd_load rfl tk3 (v := .int .i64 xi)) hp ?_ rfl (by kernel_rfl) rfl rfl rfl
    refine WJ_tp 6 rfl (Rd_move rfl) rfl (hp _ _) ?_
    refine WJ_tp 7 rfl (Rd_nilCheck rfl) rfl (hp _ _) ?_
    refine WJ_tp 8 rfl (Rd_fieldAddr rfl fo136_1) rfl (hp _ _) ?_
    refine WJ_tk 9 (Rd_load rfl tk3) hp ?_ rfl (by kernel_rfl) rfl rfl rfl
    refine WJ_tp 10 rfl (Rd_mulN (i := 2) (j := w) rfl rfl) rfl (hp _ _) ?_
    refine WJ_tp 11 rfl (Rd_geq rfl rfl) rfl (hp _ _) ?_
    refine WJ_tp 12 rfl (Rd_pickF rfl rfl) rfl (hp _ _) ?_
    refine WJ_done (by kernel_rfl) ?_
    refine Ps_next hK11 ?_
    refine WC_cond rfl (fun hc1 => ?_) (fun hc1 => ?_)
    ·try simp only [dz, ne_eq] at hc1
     have hcr : xi < 1 ∨ 2 * (w : Int) ≤ xi := by omega
     refine WC_sr fun K14 hK14 => ?_
     refine WL_r (Rd_assign rfl) rfl ?_
     refine WL_end hK14 ?_
     refine WC_ret ?_
     have hS' : putD w Kn l = (120, _) := putD_a (by rw [← hpu, hdx, put1D_bad hcr]) (by decide)
     rw [hS'] at hret
     dsimp only at hret
     exact hret.gf (gi, ci, gd, cd) (Rs1 rfl rfl)
    ·try simp only [dz, ne_eq] at hc1
     have hr2 : ¬ (xi < 1 ∨ 2 * (w : Int) ≤ xi) := by omega
     obtain ⟨t, rfl⟩ : ∃ t : Nat, xi = ((t : Nat) : Int) := ⟨xi.toNat, by omega⟩
     have hdt := Dg_len ((Kc (((t : Nat)) : Int)).getD zD)
     refine WC_skip ?_
     refine Ps_next hK10 ?_
     refine WC_seq fun K15 hK15 => ?_
     refine WC_seq fun K16 hK16 => ?_
     refine WC_drawA mix (fun i => ([2, 2, 2, 2, 2, 2, 2, 2, 2, 2, 2, 2, 2, 2, 2, 2, 2, 2, 2, 2, 2] : List Nat).getD i 0) ?_
     refine WJ_tp 0 rfl (Rd_move rfl) rfl (hp _ _) ?_
     refine WJ_tp 1 rfl (Rd_nilCheck rfl) rfl (hp _ _) ?_
     refine WJ_tp 2 rfl (Rd_fieldAddr rfl fo136_2) rfl (hp _ _) ?_
     refine WJ_tk 3 (Rd_load rfl tk46) hp ?_ rfl (by kernel_rfl) rfl rfl rfl
     refine WJ_tp 4 rfl (Rd_fieldAddr rfl fo133_0) rfl (hp _ _) ?_
     refine WJ_tk 5 (Rd_load rfl tk3 (v := .int .i64 ((t : Nat) : Int))) hp ?_ rfl (by kernel_rfl) rfl rfl rfl
     refine WJ_tp 6 rfl (Rd_index (t) rfl rfl ud46 sz4 (hi := by omega)) rfl (hp _ _) ?_
     refine WJ_tk 7 (Rd_load_arr (f := eBool) (i := t) (j := 0) rfl tk4 (hl := isL_at (K := Kc) (w := w) (by omega))) hp ?_ rfl (by kernel_rfl) rfl rfl rfl
     refine WJ_tp 8 rfl (Rd_move rfl) rfl (hp _ _) ?_
     refine WJ_bool 46 rfl (fun hg17 => ?_) (fun hg17 => ?_)
     ·try simp only [dz, ne_eq] at hg17
      have q5 := hg17
      refine WJ_tp 9 rfl (Rd_move rfl) rfl (hp _ _) ?_
      refine WJ_tp 10 rfl (Rd_nilCheck rfl) rfl (hp _ _) ?_
      refine WJ_tp 11 rfl (Rd_fieldAddr rfl fo136_3) rfl (hp _ _) ?_
      refine WJ_tk 12 (Rd_load rfl tk76) hp ?_ rfl (by kernel_rfl) rfl rfl rfl
      refine WJ_tp 13 rfl (Rd_fieldAddr rfl fo133_0) rfl (hp _ _) ?_
      refine WJ_tk 14 (Rd_load rfl tk3 (v := .int .i64 ((t : Nat) : Int))) hp ?_ rfl (by kernel_rfl) rfl rfl rfl
      refine WJ_tp 15 rfl (Rd_index (t) rfl rfl ud76 sz42 (hi := by omega)) rfl (hp _ _) ?_
      refine WJ_tk 16 (Rd_aU (k := .u8) (l := ((Kc (((t : Nat)) : Int)).getD zD).1) (Rd_loadg_arr (f := fD) (i := t) rfl tk42 (hl := dgL_at (K := Kc) (w := w) (by omega))) rfl) hp ?_ rfl (by kernel_rfl) rfl rfl rfl
      refine WJ_tp 17 rfl (Rd_fieldAddr rfl fo133_1) rfl (hp _ _) ?_
      refine WJ_tk 18 (Rd_aU (k := .u8) (l := xd.1) (Rd_loadg (vs := fD xd) rfl tk42 (hl := by rw [encND.len]; decide) (hi := eND_dg (_, xd))) rfl) hp ?_ rfl (by kernel_rfl) rfl rfl rfl
      refine WJ_tp 19 rfl (Rd_neW rfl rfl ais42) rfl (hp _ _) ?_
      refine WJ_tp 20 rfl (Rd_pickT rfl rfl) rfl (hp _ _) ?_
      refine WJ_done (by kernel_rfl) ?_
      refine Ps_next hK16 ?_
      refine WC_cond rfl (fun hc2 => ?_) (fun hc2 => ?_)
      ·try simp only [dz, ne_eq] at hc2
       refine WC_sr fun K18 hK18 => ?_
       refine WL_r (Rd_assign rfl) rfl ?_
       refine WL_end hK18 ?_
       refine WC_ret ?_
       have hS' : putD w Kn l = (121, _) := putD_a (by rw [← hpu, hdx, put1D_oth hr2 q5 (fun e => hc2 (by rw [e]))]) (by decide)
       rw [hS'] at hret
       dsimp only at hret
       exact hret.gf (gi, ci, gd, cd) (Rs1 rfl rfl)
      ·try simp only [dz, ne_eq] at hc2
       refine WC_skip ?_
       refine Ps_next hK15 ?_
       refine WC_seq fun K19 hK19 => ?_
       refine WC_drawA mix (fun i => ([2, 2, 2, 2, 2, 2, 2, 0] : List Nat).getD i 0) ?_
       refine WJ_tp 0 rfl (Rd_move rfl) rfl (hp _ _) ?_
       refine WJ_tp 1 rfl (Rd_nilCheck rfl) rfl (hp _ _) ?_
       refine WJ_tp 2 rfl (Rd_fieldAddr rfl fo136_2) rfl (hp _ _) ?_
       refine WJ_tk 3 (Rd_load rfl tk46) hp ?_ rfl (by kernel_rfl) rfl rfl rfl
       refine WJ_tp 4 rfl (Rd_fieldAddr rfl fo133_0) rfl (hp _ _) ?_
       refine WJ_tk 5 (Rd_load rfl tk3 (v := .int .i64 ((t : Nat) : Int))) hp ?_ rfl (by kernel_rfl) rfl rfl rfl
       refine WJ_tp 6 rfl (Rd_index (t) rfl rfl ud46 sz4 (hi := by omega)) rfl (hp _ _) ?_
       refine WJ_all (rs := [7]) (by kernel_rfl) rfl ?_
       refine WI_one ?_
       refine WI_ac0 rfl (Ac_store_arr true rfl rfl sz4 (j := 0) (i := t) (hl := isL_at (K := Kc) (w := w) (by omega))) rfl rfl rfl ?_
       rintro _ _ rfl
       refine ⟨(fun h => by cases h), ?_⟩
       refine WJ_done (by kernel_rfl) ?_
       refine Ps_next hK19 ?_
       refine WC_drawA mix (fun i => ([2, 2, 2, 2, 2, 2, 2, 2, 2, 0] : List Nat).getD i 0) ?_
       refine WJ_tp 0 rfl (Rd_move rfl) rfl (hp _ _) ?_
       refine WJ_tp 1 rfl (Rd_nilCheck rfl) rfl (hp _ _) ?_
       refine WJ_tp 2 rfl (Rd_fieldAddr rfl fo136_3) rfl (hp _ _) ?_
       refine WJ_tk 3 (Rd_load rfl tk76) hp ?_ rfl (by kernel_rfl) rfl rfl rfl
       refine WJ_tp 4 rfl (Rd_fieldAddr rfl fo133_0) rfl (hp _ _) ?_
       refine WJ_tk 5 (Rd_load rfl tk3 (v := .int .i64 ((t : Nat) : Int))) hp ?_ rfl (by kernel_rfl) rfl rfl rfl
       refine WJ_tp 6 rfl (Rd_fieldAddr rfl fo133_1) rfl (hp _ _) ?_
       refine WJ_tk 7 (Rd_aU (k := .u8) (l := xd.1) (Rd_loadg (vs := fD xd) rfl tk42 (hl := by rw [encND.len]; decide) (hi := eND_dg (_, xd))) rfl) hp ?_ rfl (by kernel_rfl) rfl rfl rfl
       refine WJ_tp 8 rfl (Rd_index (t) rfl rfl ud76 sz42 (hi := by omega)) rfl (hp _ _) ?_
       refine WJ_all (rs := [9]) (by kernel_rfl) rfl ?_
       refine WI_one ?_
       refine WI_ac0 rfl (Ac_storeD (xd) rfl rfl sz42 (i := t) (hi := by rw [dgL_len]; omega)) rfl rfl rfl ?_
       rintro _ _ rfl
       refine ⟨(fun h => by cases h), ?_⟩
       rw [isL_set (K := Kc) (w := w) (i := t) (d := xd) (by omega), dgL_set (K := Kc) (w := w) (i := t) (d := xd) (by omega)]
       refine WJ_done (by kernel_rfl) ?_
       refine Ps_next hK8 ?_
       refine WC_region ?_
       refine WL_r (Rd_move rfl) rfl ?_
       refine WL_r (Rd_addN (j := 1) rfl rfl) rfl ?_
       refine WL_r (Rd_assign rfl) rfl ?_
       refine WL_nil ?_
       refine Ps_wkB (hK5 ⟨k + 1, kset Kc ((t : Nat) : Int) xd⟩ (⟨by (try dsimp only); omega, by (try dsimp only); rw [← hpu, hdx, put1D_ok hr2 (by first | exact .inl q5 | exact .inr (Dg_ext (by simpa using hc2)))]⟩) (by (try dsimp only); omega))
     ·try simp only [dz, ne_eq] at hg17
      have q5 := hg17
      refine WJ_skip 9 rfl (by kernel_rfl) rfl rfl rfl (hp _ _) ?_
      refine WJ_skip 10 rfl (by kernel_rfl) rfl rfl rfl (hp _ _) ?_
      refine WJ_skip 11 rfl (by kernel_rfl) rfl rfl rfl (hp _ _) ?_
      refine WJ_skip 12 rfl (by kernel_rfl) rfl rfl rfl (hp _ _) ?_
      refine WJ_skip 13 rfl (by kernel_rfl) rfl rfl rfl (hp _ _) ?_
      refine WJ_skip 14 rfl (by kernel_rfl) rfl rfl rfl (hp _ _) ?_
      refine WJ_skip 15 rfl (by kernel_rfl) rfl rfl rfl (hp _ _) ?_
      refine WJ_skip 16 rfl (by kernel_rfl) rfl rfl rfl (hp _ _) ?_
      refine WJ_skip 17 rfl (by kernel_rfl) rfl rfl rfl (hp _ _) ?_
      refine WJ_skip 18 rfl (by kernel_rfl) rfl rfl rfl (hp _ _) ?_
      refine WJ_skip 19 rfl (by kernel_rfl) rfl rfl rfl (hp _ _) ?_
      refine WJ_tp 20 rfl (Rd_pickF rfl rfl) rfl (hp _ _) ?_
      refine WJ_done (by kernel_rfl) ?_
      refine Ps_next hK16 ?_
      refine WC_condF rfl ?_
      refine WC_skip ?_
      refine Ps_next hK15 ?_
      refine WC_seq fun K20 hK20 => ?_
      refine WC_drawA mix (fun i => ([2, 2, 2, 2, 2, 2, 2, 0] : List Nat).getD i 0) ?_
      refine WJ_tp 0 rfl (Rd_move rfl) rfl (hp _ _) ?_
      refine WJ_tp 1 rfl (Rd_nilCheck rfl) rfl (hp _ _) ?_
      refine WJ_tp 2 rfl (Rd_fieldAddr rfl fo136_2) rfl (hp _ _) ?_
      refine WJ_tk 3 (Rd_load rfl tk46) hp ?_ rfl (by kernel_rfl) rfl rfl rfl
      refine WJ_tp 4 rfl (Rd_fieldAddr rfl fo133_0) rfl (hp _ _) ?_
      refine WJ_tk 5 (Rd_load rfl tk3 (v := .int .i64 ((t : Nat) : Int))) hp ?_ rfl (by kernel_rfl) rfl rfl rfl
      refine WJ_tp 6 rfl (Rd_index (t) rfl rfl ud46 sz4 (hi := by omega)) rfl (hp _ _) ?_
      refine WJ_all (rs := [7]) (by kernel_rfl) rfl ?_
      refine WI_one ?_
      refine WI_ac0 rfl (Ac_store_arr true rfl rfl sz4 (j := 0) (i := t) (hl := isL_at (K := Kc) (w := w) (by omega))) rfl rfl rfl ?_
      rintro _ _ rfl
      refine ⟨(fun h => by cases h), ?_⟩
      refine WJ_done (by kernel_rfl) ?_
      refine Ps_next hK20 ?_
      refine WC_drawA mix (fun i => ([2, 2, 2, 2, 2, 2, 2, 2, 2, 0] : List Nat).getD i 0) ?_
      refine WJ_tp 0 rfl (Rd_move rfl) rfl (hp _ _) ?_
      refine WJ_tp 1 rfl (Rd_nilCheck rfl) rfl (hp _ _) ?_
      refine WJ_tp 2 rfl (Rd_fieldAddr rfl fo136_3) rfl (hp _ _) ?_
      refine WJ_tk 3 (Rd_load rfl tk76) hp ?_ rfl (by kernel_rfl) rfl rfl rfl
      refine WJ_tp 4 rfl (Rd_fieldAddr rfl fo133_0) rfl (hp _ _) ?_
      refine WJ_tk 5 (Rd_load rfl tk3 (v := .int .i64 ((t : Nat) : Int))) hp ?_ rfl (by kernel_rfl) rfl rfl rfl
      refine WJ_tp 6 rfl (Rd_fieldAddr rfl fo133_1) rfl (hp _ _) ?_
      refine WJ_tk 7 (Rd_aU (k := .u8) (l := xd.1) (Rd_loadg (vs := fD xd) rfl tk42 (hl := by rw [encND.len]; decide) (hi := eND_dg (_, xd))) rfl) hp ?_ rfl (by kernel_rfl) rfl rfl rfl
      refine WJ_tp 8 rfl (Rd_index (t) rfl rfl ud76 sz42 (hi := by omega)) rfl (hp _ _) ?_
      refine WJ_all (rs := [9]) (by kernel_rfl) rfl ?_
      refine WI_one ?_
      refine WI_ac0 rfl (Ac_storeD (xd) rfl rfl sz42 (i := t) (hi := by rw [dgL_len]; omega)) rfl rfl rfl ?_
      rintro _ _ rfl
      refine ⟨(fun h => by cases h), ?_⟩
      rw [isL_set (K := Kc) (w := w) (i := t) (d := xd) (by omega), dgL_set (K := Kc) (w := w) (i := t) (d := xd) (by omega)]
      refine WJ_done (by kernel_rfl) ?_
      refine Ps_next hK8 ?_
      refine WC_region ?_
      refine WL_r (Rd_move rfl) rfl ?_
      refine WL_r (Rd_addN (j := 1) rfl rfl) rfl ?_
      refine WL_r (Rd_assign rfl) rfl ?_
      refine WL_nil ?_
      refine Ps_wkB (hK5 ⟨k + 1, kset Kc ((t : Nat) : Int) xd⟩ (⟨by (try dsimp only); omega, by (try dsimp only); rw [← hpu, hdx, put1D_ok hr2 (by first | exact .inl q5 | exact .inr (Dg_ext (by simpa using hc2)))]⟩) (by (try dsimp only); omega))
  ·try simp only [dz, ne_eq] at hc0
   obtain rfl : k = l.length := by omega
   rw [List.drop_length, put1D_nil] at hpu
   refine WC_exit ?_
   refine Ps_next hK3 ?_
   refine WC_seq fun K21 hK21 => ?_
   refine WC_sr fun K22 hK22 => ?_
   refine WL_r (Rd_move rfl) rfl ?_
   refine WL_r (Rd_nilCheck rfl) rfl ?_
   refine WL_r (Rd_fieldAddr rfl fo136_1) rfl ?_
   refine WL_r (Rd_load rfl tk3) rfl ?_
   refine WL_r (Rd_subN (j := 1) rfl rfl) rfl ?_
   refine WL_r (Rd_assign rfl) rfl ?_
   refine WL_end hK22 ?_
   refine WC_block ?_
   refine WC_loopK (σ := Nat × KM) (fun ⟨mq, K2⟩ => [(8, .int .i64 ((mq : Nat) : Int))]) (fun ⟨mq, K2⟩ => [arr (some gi2) ci2 1 4 eBool (isL K2 w), arr (some gd2) cd2 32 42 fD (dgL K2 w)]) (fun ⟨mq, K2⟩ => mq ≤ w - 1 ∧ clD2 Kn mq K2 = clD2 Kn (w - 1) Kc) (fun ⟨mq, K2⟩ => mq) ⟨w - 1, Kc⟩ [0, 5, 12, 180, 181, 182, 183, 184, 185, 186, 187, 188, 189, 190, 191, 192, 193, 194, 195, 196, 197, 198, 199, 200, 201, 202, 203, 204, 205, 206, 207, 208, 209, 210, 211, 212, 213, 214, 215, 216, 217, 218, 219, 220, 221, 222, 223, 224, 225, 226, 227, 228, 229, 230, 231, 232, 233, 234, 235, 236, 237, 238, 239, 240, 241] kpA (by (try dsimp only); repeat (first | with_reducible exact Gv.nil | (with_reducible apply Gv.cons; · (repeat (first | with_reducible exact Ext.here | with_reducible apply Ext.there))))) ?_ ?_ Sub.refl ?_
   ·exact ⟨Nat.le_refl _, rfl⟩
   ·(try dsimp only); exact (Wk.cons lkA Wk.nil)
   ·rintro ⟨mq, K2⟩ ⟨hmq, hcl⟩ K23 hK23
    simp only [List.cons_append, List.nil_append]
    refine WC_seq fun K24 hK24 => ?_
    refine WC_sr fun K25 hK25 => ?_
    refine WL_r (Rd_move rfl) rfl ?_
    refine WL_r (Rd_geqN (j := 1) rfl rfl) rfl ?_
    refine WL_end hK25 ?_
    refine WC_cond rfl (fun hc3 => ?_) (fun hc3 => ?_)
    ·try simp only [dz, ne_eq] at hc3
     obtain ⟨mm, rfl⟩ : ∃ mm, mq = mm + 1 := ⟨mq - 1, by omega⟩
     have hda := Dg_len ((K2 (((2 * (mm + 1) : Nat)) : Int)).getD zD)
     have hdb := Dg_len ((K2 (((2 * (mm + 1) + 1 : Nat)) : Int)).getD zD)
     have hdc := Dg_len ((K2 (((mm + 1 : Nat)) : Int)).getD zD)
     refine WC_skip ?_
     refine Ps_next hK24 ?_
     refine WC_seq fun K26 hK26 => ?_
     refine WC_block ?_
     refine WC_sr fun K27 hK27 => ?_
     refine WL_r (Rd_move rfl) rfl ?_
     refine WL_r (Rd_mulN (i := 2) rfl rfl) rfl ?_
     refine WL_r (Rd_assign rfl) rfl ?_
     refine WL_end hK27 ?_
     refine WC_sr fun K28 hK28 => ?_
     refine WL_r (Rd_move rfl) rfl ?_
     refine WL_r (Rd_mulN (i := 2) rfl rfl) rfl ?_
     refine WL_r (Rd_addN (j := 1) rfl rfl) rfl ?_
     refine WL_r (Rd_assign rfl) rfl ?_
     refine WL_end hK28 ?_
     refine WC_seq fun K29 hK29 => ?_
     refine WC_sr fun K30 hK30 => ?_
     refine WL_r (Rd_move rfl) rfl ?_
     refine WL_r (Rd_nilCheck rfl) rfl ?_
     refine WL_r (Rd_fieldAddr rfl fo136_2) rfl ?_
     refine WL_r (Rd_load rfl tk46) rfl ?_
     refine WL_r (Rd_move rfl) rfl ?_
     refine WL_r (Rd_index ((2 * (mm + 1))) rfl rfl ud46 sz4 (hi := by omega)) rfl ?_
     refine WL_r (Rd_load_arr (f := eBool) (i := (2 * (mm + 1))) (j := 0) rfl tk4 (hl := isL_at (K := K2) (w := w) (by omega))) rfl ?_
     refine WL_r (Rd_not rfl) rfl ?_
     refine WL_r (Rd_move rfl) rfl ?_
     refine WL_bool 97 rfl (fun hg31 => ?_) (fun hg31 => ?_)
     ·try simp only [dz, ne_eq] at hg31
      have q1 : (K2 ((2 * (mm + 1) : Nat) : Int)).isSome = false := by simpa using hg31
      refine WL_skip rfl rfl rfl ?_
      refine WL_skip rfl rfl rfl ?_
      refine WL_skip rfl rfl rfl ?_
      refine WL_skip rfl rfl rfl ?_
      refine WL_skip rfl rfl rfl ?_
      refine WL_skip rfl rfl rfl ?_
      refine WL_skip rfl rfl rfl ?_
      refine WL_skip rfl rfl rfl ?_
      refine WL_r (Rd_pickT rfl rfl) rfl ?_
      refine WL_r (Rd_move rfl) rfl ?_
      refine WL_skip rfl rfl rfl ?_
      refine WL_skip rfl rfl rfl ?_
      refine WL_skip rfl rfl rfl ?_
      refine WL_skip rfl rfl rfl ?_
      refine WL_skip rfl rfl rfl ?_
      refine WL_skip rfl rfl rfl ?_
      refine WL_skip rfl rfl rfl ?_
      refine WL_skip rfl rfl rfl ?_
      refine WL_skip rfl rfl rfl ?_
      refine WL_skip rfl rfl rfl ?_
      refine WL_skip rfl rfl rfl ?_
      refine WL_skip rfl rfl rfl ?_
      refine WL_skip rfl rfl rfl ?_
      refine WL_skip rfl rfl rfl ?_
      refine WL_skip rfl rfl rfl ?_
      refine WL_skip rfl rfl rfl ?_
      refine WL_skip rfl rfl rfl ?_
      refine WL_skip rfl rfl rfl ?_
      refine WL_skip rfl rfl rfl ?_
      refine WL_skip rfl rfl rfl ?_
      refine WL_skip rfl rfl rfl ?_
      refine WL_skip rfl rfl rfl ?_
      refine WL_skip rfl rfl rfl ?_
      refine WL_skip rfl rfl rfl ?_
      refine WL_skip rfl rfl rfl ?_
      refine WL_r (Rd_pickT rfl rfl) rfl ?_
      refine WL_end hK30 ?_
      refine WC_condT rfl ?_
      refine WC_exit ?_
      refine Ps_next hK26 ?_
      refine WC_region ?_
      refine WL_r (Rd_move rfl) rfl ?_
      refine WL_r (Rd_subN (j := 1) rfl rfl) rfl ?_
      refine WL_r (Rd_assign rfl) rfl ?_
      refine WL_nil ?_
      refine Ps_wkB (hK23 ⟨mm, K2⟩ (⟨by (try dsimp only); omega, by (try dsimp only); rw [← hcl, clD2_skip (by first | exact .inl q1 | exact .inr (.inl q2) | exact .inr (.inr ⟨q3, q4, hc4⟩))]⟩) (by (try dsimp only); omega))
     ·try simp only [dz, ne_eq] at hg31
      have q1 : (K2 ((2 * (mm + 1) : Nat) : Int)).isSome = true := by simpa using hg31
      refine WL_r (Rd_move rfl) rfl ?_
      refine WL_r (Rd_nilCheck rfl) rfl ?_
      refine WL_r (Rd_fieldAddr rfl fo136_2) rfl ?_
      refine WL_r (Rd_load rfl tk46) rfl ?_
      refine WL_r (Rd_move rfl) rfl ?_
      refine WL_r (Rd_index ((2 * (mm + 1) + 1)) rfl rfl ud46 sz4 (hi := by omega)) rfl ?_
      refine WL_r (Rd_load_arr (f := eBool) (i := (2 * (mm + 1) + 1)) (j := 0) rfl tk4 (hl := isL_at (K := K2) (w := w) (by omega))) rfl ?_
      refine WL_r (Rd_not rfl) rfl ?_
      refine WL_r (Rd_pickF rfl rfl) rfl ?_
      refine WL_r (Rd_move rfl) rfl ?_
      refine WL_bool 107 rfl (fun hg32 => ?_) (fun hg32 => ?_)
      ·try simp only [dz, ne_eq] at hg32
       have q2 : (K2 ((2 * (mm + 1) + 1 : Nat) : Int)).isSome = false := by simpa using hg32
       refine WL_skip rfl rfl rfl ?_
       refine WL_skip rfl rfl rfl ?_
       refine WL_skip rfl rfl rfl ?_
       refine WL_skip rfl rfl rfl ?_
       refine WL_skip rfl rfl rfl ?_
       refine WL_skip rfl rfl rfl ?_
       refine WL_skip rfl rfl rfl ?_
       refine WL_skip rfl rfl rfl ?_
       refine WL_skip rfl rfl rfl ?_
       refine WL_skip rfl rfl rfl ?_
       refine WL_skip rfl rfl rfl ?_
       refine WL_skip rfl rfl rfl ?_
       refine WL_skip rfl rfl rfl ?_
       refine WL_skip rfl rfl rfl ?_
       refine WL_skip rfl rfl rfl ?_
       refine WL_skip rfl rfl rfl ?_
       refine WL_skip rfl rfl rfl ?_
       refine WL_skip rfl rfl rfl ?_
       refine WL_skip rfl rfl rfl ?_
       refine WL_skip rfl rfl rfl ?_
       refine WL_skip rfl rfl rfl ?_
       refine WL_skip rfl rfl rfl ?_
       refine WL_skip rfl rfl rfl ?_
       refine WL_skip rfl rfl rfl ?_
       refine WL_skip rfl rfl rfl ?_
       refine WL_r (Rd_pickT rfl rfl) rfl ?_
       refine WL_end hK30 ?_
       refine WC_condT rfl ?_
       refine WC_exit ?_
       refine Ps_next hK26 ?_
       refine WC_region ?_
       refine WL_r (Rd_move rfl) rfl ?_
       refine WL_r (Rd_subN (j := 1) rfl rfl) rfl ?_
       refine WL_r (Rd_assign rfl) rfl ?_
       refine WL_nil ?_
       refine Ps_wkB (hK23 ⟨mm, K2⟩ (⟨by (try dsimp only); omega, by (try dsimp only); rw [← hcl, clD2_skip (by first | exact .inl q1 | exact .inr (.inl q2) | exact .inr (.inr ⟨q3, q4, hc4⟩))]⟩) (by (try dsimp only); omega))
      ·try simp only [dz, ne_eq] at hg32
       have q2 : (K2 ((2 * (mm + 1) + 1 : Nat) : Int)).isSome = true := by simpa using hg32
       refine WL_r (Rd_move rfl) rfl ?_
       refine WL_r (Rd_nilCheck rfl) rfl ?_
       refine WL_r (Rd_fieldAddr rfl fo136_2) rfl ?_
       refine WL_r (Rd_load rfl tk46) rfl ?_
       refine WL_r (Rd_move rfl) rfl ?_
       refine WL_r (Rd_index ((mm + 1)) rfl rfl ud46 sz4 (hi := by omega)) rfl ?_
       refine WL_r (Rd_load_arr (f := eBool) (i := (mm + 1)) (j := 0) rfl tk4 (hl := isL_at (K := Kn) (w := w) (by omega))) rfl ?_
       refine WL_r (Rd_move rfl) rfl ?_
       refine WL_bool 115 rfl (fun hg33 => ?_) (fun hg33 => ?_)
       ·try simp only [dz, ne_eq] at hg33
        have q3 := hg33
        refine WL_r (Rd_move rfl) rfl ?_
        refine WL_r (Rd_nilCheck rfl) rfl ?_
        refine WL_r (Rd_fieldAddr rfl fo136_2) rfl ?_
        refine WL_r (Rd_load rfl tk46) rfl ?_
        refine WL_r (Rd_move rfl) rfl ?_
        refine WL_r (Rd_index ((2 * (mm + 1))) rfl rfl ud46 sz4 (hi := by omega)) rfl ?_
        refine WL_r (Rd_load_arr (f := eBool) (i := (2 * (mm + 1))) (j := 0) rfl tk4 (hl := isL_at (K := Kn) (w := w) (by omega))) rfl ?_
        refine WL_r (Rd_pickT rfl rfl) rfl ?_
        refine WL_r (Rd_move rfl) rfl ?_
        refine WL_bool 124 rfl (fun hg34 => ?_) (fun hg34 => ?_)
        ·try simp only [dz, ne_eq] at hg34
         have q4 := hg34
         refine WL_r (Rd_move rfl) rfl ?_
         refine WL_r (Rd_nilCheck rfl) rfl ?_
         refine WL_r (Rd_fieldAddr rfl fo136_2) rfl ?_
         refine WL_r (Rd_load rfl tk46) rfl ?_
         refine WL_r (Rd_move rfl) rfl ?_
         refine WL_r (Rd_index ((2 * (mm + 1) + 1)) rfl rfl ud46 sz4 (hi := by omega)) rfl ?_
         refine WL_r (Rd_load_arr (f := eBool) (i := (2 * (mm + 1) + 1)) (j := 0) rfl tk4 (hl := isL_at (K := Kn) (w := w) (by omega))) rfl ?_
         refine WL_r (Rd_pickT rfl rfl) rfl ?_
         refine WL_r (Rd_pickF rfl rfl) rfl ?_
         refine WL_end hK30 ?_
         refine WC_cond rfl (fun hc4 => ?_) (fun hc4 => ?_)
         ·try simp only [dz, ne_eq] at hc4
          refine WC_exit ?_
          refine Ps_next hK26 ?_
          refine WC_region ?_
          refine WL_r (Rd_move rfl) rfl ?_
          refine WL_r (Rd_subN (j := 1) rfl rfl) rfl ?_
          refine WL_r (Rd_assign rfl) rfl ?_
          refine WL_nil ?_
          refine Ps_wkB (hK23 ⟨mm, K2⟩ (⟨by (try dsimp only); omega, by (try dsimp only); rw [← hcl, clD2_skip (by first | exact .inl q1 | exact .inr (.inl q2) | exact .inr (.inr ⟨q3, q4, hc4⟩))]⟩) (by (try dsimp only); omega))
         ·try simp only [dz, ne_eq] at hc4
          have hno : ¬ ((K2 ((2 * (mm + 1) : Nat) : Int)).isSome = false ∨ (K2 ((2 * (mm + 1) + 1 : Nat) : Int)).isSome = false ∨ ((Kn ((mm + 1 : Nat) : Int)).isSome = true ∧ (Kn ((2 * (mm + 1) : Nat) : Int)).isSome = true ∧ (Kn ((2 * (mm + 1) + 1 : Nat) : Int)).isSome = true)) := by rintro (z | z | ⟨z1, z2, z3⟩); (rw [z] at q1; cases q1); (rw [z] at q2; cases q2); first | (rw [z1] at q3; cases q3; done) | (rw [z2] at q4; cases q4; done) | (rw [z3] at hc4; cases hc4; done)
          refine WC_skip ?_
          refine Ps_next hK29 ?_
          refine WC_seq fun K35 hK35 => ?_
          refine WC_drawA mix (fun i => ([2, 2, 2, 2, 2, 2, 2, 2, 2, 2, 2, 2, 2, 2, 1, 1, 0] : List Nat).getD i 0) ?_
          refine WJ_tp 0 rfl (Rd_move rfl) rfl (hp _ _) ?_
          refine WJ_tp 1 rfl (Rd_nilCheck rfl) rfl (hp _ _) ?_
          refine WJ_tp 2 rfl (Rd_fieldAddr rfl fo136_3) rfl (hp _ _) ?_
          refine WJ_tk 3 (Rd_load rfl tk76) hp ?_ rfl (by kernel_rfl) rfl rfl rfl
          refine WJ_tp 4 rfl (Rd_move rfl) rfl (hp _ _) ?_
          refine WJ_tp 5 rfl (Rd_index ((2 * (mm + 1))) rfl rfl ud76 sz42 (hi := by omega)) rfl (hp _ _) ?_
          refine WJ_tk 6 (Rd_aU (k := .u8) (l := ((K2 ((((2 * (mm + 1)) : Nat)) : Int)).getD zD).1) (Rd_loadg_arr (f := fD) (i := (2 * (mm + 1))) rfl tk42 (hl := dgL_at (K := K2) (w := w) (by omega))) rfl) hp ?_ rfl (by kernel_rfl) rfl rfl rfl
          refine WJ_tp 7 rfl (Rd_move rfl) rfl (hp _ _) ?_
          refine WJ_tp 8 rfl (Rd_nilCheck rfl) rfl (hp _ _) ?_
          refine WJ_tp 9 rfl (Rd_fieldAddr rfl fo136_3) rfl (hp _ _) ?_
          refine WJ_tk 10 (Rd_load rfl tk76) hp ?_ rfl (by kernel_rfl) rfl rfl rfl
          refine WJ_tp 11 rfl (Rd_move rfl) rfl (hp _ _) ?_
          refine WJ_tp 12 rfl (Rd_index ((2 * (mm + 1) + 1)) rfl rfl ud76 sz42 (hi := by omega)) rfl (hp _ _) ?_
          refine WJ_tk 13 (Rd_aU (k := .u8) (l := ((K2 ((((2 * (mm + 1) + 1) : Nat)) : Int)).getD zD).1) (Rd_loadg_arr (f := fD) (i := (2 * (mm + 1) + 1)) rfl tk42 (hl := dgL_at (K := K2) (w := w) (by omega))) rfl) hp ?_ rfl (by kernel_rfl) rfl rfl rfl
          refine WJ_all (rs := [14, 15]) (by kernel_rfl) rfl ?_
          refine WI_cons ?_ (WI_cons ?_ (by intro _ h; cases h))
          ·skip
           refine WI_ac rfl (Ac_call cf77 rfl (hs := nodeR_ct (x := ((K2 (((2 * (mm + 1) : Nat)) : Int)).getD zD).1) (y := ((K2 (((2 * (mm + 1) + 1 : Nat)) : Int)).getD zD).1) (hx := Dg_len _) (hy := Dg_len _))) rfl rfl rfl rfl ?_
           rintro _ _ ⟨⟨⟩, rfl, hA⟩
           simp only [List.cons_append, List.nil_append] at hA
           replace hA := hA.symm
           subst hA
           rw [show tagD 6#8 [((K2 (((2 * (mm + 1) : Nat)) : Int)).getD zD).1, ((K2 (((2 * (mm + 1) + 1 : Nat)) : Int)).getD zD).1] = (nodeD ((K2 (((2 * (mm + 1) : Nat)) : Int)).getD zD) ((K2 (((2 * (mm + 1) + 1 : Nat)) : Int)).getD zD)).1 from rfl]
           have hdn := Dg_len (nodeD ((K2 (((2 * (mm + 1) : Nat)) : Int)).getD zD) ((K2 (((2 * (mm + 1) + 1 : Nat)) : Int)).getD zD))
           refine ⟨(fun _ => subA), ?_⟩
           refine WJ_all (rs := [15]) (by kernel_rfl) rfl ?_
           refine WI_one ?_
           refine WI_ac rfl (Ac_allocW (k := .u8) (w := 8) (m := 32) zr42) rfl rfl rfl rfl ?_
           rintro _ _ ⟨b11, rfl, rfl⟩
           refine ⟨(fun _ => subA), ?_⟩
           refine WJ_all (rs := [16]) (by kernel_rfl) rfl ?_
           refine WI_one ?_
           refine WI_ac0 rfl (Ac_storeW rfl rfl sz42) rfl rfl rfl ?_
           rintro _ _ rfl
           refine ⟨(fun h => by cases h), ?_⟩
           refine WJ_done (by kernel_rfl) ?_
           refine Ps_next hK35 ?_
           refine WC_seq fun K36 hK36 => ?_
           refine WC_seq fun K37 hK37 => ?_
           refine WC_drawA mix (fun i => ([2, 2, 2, 2, 2, 2, 2, 2, 2, 2, 2, 2, 2, 2, 2, 2, 2, 2] : List Nat).getD i 0) ?_
           refine WJ_tp 0 rfl (Rd_move rfl) rfl (hp _ _) ?_
           refine WJ_tp 1 rfl (Rd_nilCheck rfl) rfl (hp _ _) ?_
           refine WJ_tp 2 rfl (Rd_fieldAddr rfl fo136_2) rfl (hp _ _) ?_
           refine WJ_tk 3 (Rd_load rfl tk46) hp ?_ rfl (by kernel_rfl) rfl rfl rfl
           refine WJ_tp 4 rfl (Rd_move rfl) rfl (hp _ _) ?_
           refine WJ_tp 5 rfl (Rd_index ((mm + 1)) rfl rfl ud46 sz4 (hi := by omega)) rfl (hp _ _) ?_
           refine WJ_tk 6 (Rd_load_arr (f := eBool) (i := (mm + 1)) (j := 0) rfl tk4 (hl := isL_at (K := K2) (w := w) (by omega))) hp ?_ rfl (by kernel_rfl) rfl rfl rfl
           refine WJ_tp 7 rfl (Rd_move rfl) rfl (hp _ _) ?_
           refine WJ_bool 156 rfl (fun hg38 => ?_) (fun hg38 => ?_)
           ·try simp only [dz, ne_eq] at hg38
            have q6 := hg38
            refine WJ_tp 8 rfl (Rd_move rfl) rfl (hp _ _) ?_
            refine WJ_tp 9 rfl (Rd_nilCheck rfl) rfl (hp _ _) ?_
            refine WJ_tp 10 rfl (Rd_fieldAddr rfl fo136_3) rfl (hp _ _) ?_
            refine WJ_tk 11 (Rd_load rfl tk76) hp ?_ rfl (by kernel_rfl) rfl rfl rfl
            refine WJ_tp 12 rfl (Rd_move rfl) rfl (hp _ _) ?_
            refine WJ_tp 13 rfl (Rd_index ((mm + 1)) rfl rfl ud76 sz42 (hi := by omega)) rfl (hp _ _) ?_
            refine WJ_tk 14 (Rd_aU (k := .u8) (l := ((K2 ((((mm + 1) : Nat)) : Int)).getD zD).1) (Rd_loadg_arr (f := fD) (i := (mm + 1)) rfl tk42 (hl := dgL_at (K := K2) (w := w) (by omega))) rfl) hp ?_ rfl (by kernel_rfl) rfl rfl rfl
            refine WJ_tk 15 (Rd_loadW (l := (nodeD ((K2 (((2 * (mm + 1) : Nat)) : Int)).getD zD) ((K2 (((2 * (mm + 1) + 1 : Nat)) : Int)).getD zD)).1) rfl tk42) hp ?_ rfl (by kernel_rfl) rfl rfl rfl
            refine WJ_tp 16 rfl (Rd_neW rfl rfl ais42) rfl (hp _ _) ?_
            refine WJ_tp 17 rfl (Rd_pickT rfl rfl) rfl (hp _ _) ?_
            refine WJ_done (by kernel_rfl) ?_
            refine Ps_next hK37 ?_
            refine WC_cond rfl (fun hc5 => ?_) (fun hc5 => ?_)
            ·try simp only [dz, ne_eq] at hc5
             refine WC_sr fun K39 hK39 => ?_
             refine WL_r (Rd_assign rfl) rfl ?_
             refine WL_end hK39 ?_
             refine WC_ret ?_
             have hS' : putD w Kn l = (123, _) := putD_b hpu.symm (by rw [← hcl, clD2_bad hno q6 (fun e => hc5 (by rw [e]))])
             rw [hS'] at hret
             dsimp only at hret
             exact hret.gf (gi, ci, gd, cd) (Rs1 rfl rfl)
            ·try simp only [dz, ne_eq] at hc5
             refine WC_skip ?_
             refine Ps_next hK36 ?_
             refine WC_sr fun K40 hK40 => ?_
             refine WL_r (Rd_move rfl) rfl ?_
             refine WL_r (Rd_nilCheck rfl) rfl ?_
             refine WL_r (Rd_fieldAddr rfl fo136_2) rfl ?_
             refine WL_r (Rd_load rfl tk46) rfl ?_
             refine WL_r (Rd_move rfl) rfl ?_
             refine WL_r (Rd_index ((mm + 1)) rfl rfl ud46 sz4 (hi := by omega)) rfl ?_
             refine WL_ac0 (Ac_store_arr true rfl rfl sz4 (j := 0) (i := (mm + 1)) (hl := isL_at (K := K2) (w := w) (by omega))) rfl rfl ?_
             rintro _ _ rfl
             refine WL_end hK40 ?_
             refine WC_drawA mix (fun i => ([2, 2, 2, 2, 2, 2, 2, 0] : List Nat).getD i 0) ?_
             refine WJ_tp 0 rfl (Rd_move rfl) rfl (hp _ _) ?_
             refine WJ_tp 1 rfl (Rd_nilCheck rfl) rfl (hp _ _) ?_
             refine WJ_tp 2 rfl (Rd_fieldAddr rfl fo136_3) rfl (hp _ _) ?_
             refine WJ_tk 3 (Rd_load rfl tk76) hp ?_ rfl (by kernel_rfl) rfl rfl rfl
             refine WJ_tp 4 rfl (Rd_move rfl) rfl (hp _ _) ?_
             refine WJ_tk 5 (Rd_loadW (l := (nodeD ((K2 (((2 * (mm + 1) : Nat)) : Int)).getD zD) ((K2 (((2 * (mm + 1) + 1 : Nat)) : Int)).getD zD)).1) rfl tk42) hp ?_ rfl (by kernel_rfl) rfl rfl rfl
             refine WJ_tp 6 rfl (Rd_index ((mm + 1)) rfl rfl ud76 sz42 (hi := by omega)) rfl (hp _ _) ?_
             refine WJ_all (rs := [7]) (by kernel_rfl) rfl ?_
             refine WI_one ?_
             refine WI_ac0 rfl (Ac_storeD ((nodeD ((K2 (((2 * (mm + 1) : Nat)) : Int)).getD zD) ((K2 (((2 * (mm + 1) + 1 : Nat)) : Int)).getD zD))) rfl rfl sz42 (i := (mm + 1)) (hi := by rw [dgL_len]; omega)) rfl rfl rfl ?_
             rintro _ _ rfl
             refine ⟨(fun h => by cases h), ?_⟩
             rw [isL_set (K := K2) (w := w) (i := (mm + 1)) (d := (nodeD ((K2 (((2 * (mm + 1) : Nat)) : Int)).getD zD) ((K2 (((2 * (mm + 1) + 1 : Nat)) : Int)).getD zD))) (by omega), dgL_set (K := K2) (w := w) (i := (mm + 1)) (d := (nodeD ((K2 (((2 * (mm + 1) : Nat)) : Int)).getD zD) ((K2 (((2 * (mm + 1) + 1 : Nat)) : Int)).getD zD))) (by omega)]
             refine WJ_done (by kernel_rfl) ?_
             refine Ps_next hK26 ?_
             refine WC_region ?_
             refine WL_r (Rd_move rfl) rfl ?_
             refine WL_r (Rd_subN (j := 1) rfl rfl) rfl ?_
             refine WL_r (Rd_assign rfl) rfl ?_
             refine WL_nil ?_
             refine Ps_wkB (hK23 ⟨mm, kset K2 ((mm + 1 : Nat) : Int) (nodeD ((K2 (((2 * (mm + 1) : Nat)) : Int)).getD zD) ((K2 (((2 * (mm + 1) + 1 : Nat)) : Int)).getD zD))⟩ (⟨by (try dsimp only); omega, by (try dsimp only); rw [← hcl, clD2_ok hno (by first | exact .inl q6 | exact .inr (Dg_ext (by simpa using hc5)))]⟩) (by (try dsimp only); omega))
           ·try simp only [dz, ne_eq] at hg38
            have q6 := hg38
            refine WJ_skip 8 rfl (by kernel_rfl) rfl rfl rfl (hp _ _) ?_
            refine WJ_skip 9 rfl (by kernel_rfl) rfl rfl rfl (hp _ _) ?_
            refine WJ_skip 10 rfl (by kernel_rfl) rfl rfl rfl (hp _ _) ?_
            refine WJ_skip 11 rfl (by kernel_rfl) rfl rfl rfl (hp _ _) ?_
            refine WJ_skip 12 rfl (by kernel_rfl) rfl rfl rfl (hp _ _) ?_
            refine WJ_skip 13 rfl (by kernel_rfl) rfl rfl rfl (hp _ _) ?_
            refine WJ_skip 14 rfl (by kernel_rfl) rfl rfl rfl (hp _ _) ?_
            refine WJ_skip 15 rfl (by kernel_rfl) rfl rfl rfl (hp _ _) ?_
            refine WJ_skip 16 rfl (by kernel_rfl) rfl rfl rfl (hp _ _) ?_
            refine WJ_tp 17 rfl (Rd_pickF rfl rfl) rfl (hp _ _) ?_
            refine WJ_done (by kernel_rfl) ?_
            refine Ps_next hK37 ?_
            refine WC_condF rfl ?_
            refine WC_skip ?_
            refine Ps_next hK36 ?_
            refine WC_sr fun K41 hK41 => ?_
            refine WL_r (Rd_move rfl) rfl ?_
            refine WL_r (Rd_nilCheck rfl) rfl ?_
            refine WL_r (Rd_fieldAddr rfl fo136_2) rfl ?_
            refine WL_r (Rd_load rfl tk46) rfl ?_
            refine WL_r (Rd_move rfl) rfl ?_
            refine WL_r (Rd_index ((mm + 1)) rfl rfl ud46 sz4 (hi := by omega)) rfl ?_
            refine WL_ac0 (Ac_store_arr true rfl rfl sz4 (j := 0) (i := (mm + 1)) (hl := isL_at (K := K2) (w := w) (by omega))) rfl rfl ?_
            rintro _ _ rfl
            refine WL_end hK41 ?_
            refine WC_drawA mix (fun i => ([2, 2, 2, 2, 2, 2, 2, 0] : List Nat).getD i 0) ?_
            refine WJ_tp 0 rfl (Rd_move rfl) rfl (hp _ _) ?_
            refine WJ_tp 1 rfl (Rd_nilCheck rfl) rfl (hp _ _) ?_
            refine WJ_tp 2 rfl (Rd_fieldAddr rfl fo136_3) rfl (hp _ _) ?_
            refine WJ_tk 3 (Rd_load rfl tk76) hp ?_ rfl (by kernel_rfl) rfl rfl rfl
            refine WJ_tp 4 rfl (Rd_move rfl) rfl (hp _ _) ?_
            refine WJ_tk 5 (Rd_loadW (l := (nodeD ((K2 (((2 * (mm + 1) : Nat)) : Int)).getD zD) ((K2 (((2 * (mm + 1) + 1 : Nat)) : Int)).getD zD)).1) rfl tk42) hp ?_ rfl (by kernel_rfl) rfl rfl rfl
            refine WJ_tp 6 rfl (Rd_index ((mm + 1)) rfl rfl ud76 sz42 (hi := by omega)) rfl (hp _ _) ?_
            refine WJ_all (rs := [7]) (by kernel_rfl) rfl ?_
            refine WI_one ?_
            refine WI_ac0 rfl (Ac_storeD ((nodeD ((K2 (((2 * (mm + 1) : Nat)) : Int)).getD zD) ((K2 (((2 * (mm + 1) + 1 : Nat)) : Int)).getD zD))) rfl rfl sz42 (i := (mm + 1)) (hi := by rw [dgL_len]; omega)) rfl rfl rfl ?_
            rintro _ _ rfl
            refine ⟨(fun h => by cases h), ?_⟩
            rw [isL_set (K := K2) (w := w) (i := (mm + 1)) (d := (nodeD ((K2 (((2 * (mm + 1) : Nat)) : Int)).getD zD) ((K2 (((2 * (mm + 1) + 1 : Nat)) : Int)).getD zD))) (by omega), dgL_set (K := K2) (w := w) (i := (mm + 1)) (d := (nodeD ((K2 (((2 * (mm + 1) : Nat)) : Int)).getD zD) ((K2 (((2 * (mm + 1) + 1 : Nat)) : Int)).getD zD))) (by omega)]
            refine WJ_done (by kernel_rfl) ?_
            refine Ps_next hK26 ?_
            refine WC_region ?_
            refine WL_r (Rd_move rfl) rfl ?_
            refine WL_r (Rd_subN (j := 1) rfl rfl) rfl ?_
            refine WL_r (Rd_assign rfl) rfl ?_
            refine WL_nil ?_
            refine Ps_wkB (hK23 ⟨mm, kset K2 ((mm + 1 : Nat) : Int) (nodeD ((K2 (((2 * (mm + 1) : Nat)) : Int)).getD zD) ((K2 (((2 * (mm + 1) + 1 : Nat)) : Int)).getD zD))⟩ (⟨by (try dsimp only); omega, by (try dsimp only); rw [← hcl, clD2_ok hno (by first | exact .inl q6 | exact .inr (Dg_ext (by simpa using hc5)))]⟩) (by (try dsimp only); omega))
          ·skip
           refine WI_ac rfl (Ac_allocW (k := .u8) (w := 8) (m := 32) zr42) rfl rfl rfl rfl ?_
           rintro _ _ ⟨b11, rfl, rfl⟩
           refine ⟨(fun _ => subA), ?_⟩
           refine WJ_all (rs := [14]) (by kernel_rfl) rfl ?_
           refine WI_one ?_
           refine WI_ac rfl (Ac_call cf77 rfl (hs := nodeR_ct (x := ((K2 (((2 * (mm + 1) : Nat)) : Int)).getD zD).1) (y := ((K2 (((2 * (mm + 1) + 1 : Nat)) : Int)).getD zD).1) (hx := Dg_len _) (hy := Dg_len _))) rfl rfl rfl rfl ?_
           rintro _ _ ⟨⟨⟩, rfl, hA⟩
           simp only [List.cons_append, List.nil_append] at hA
           replace hA := hA.symm
           subst hA
           rw [show tagD 6#8 [((K2 (((2 * (mm + 1) : Nat)) : Int)).getD zD).1, ((K2 (((2 * (mm + 1) + 1 : Nat)) : Int)).getD zD).1] = (nodeD ((K2 (((2 * (mm + 1) : Nat)) : Int)).getD zD) ((K2 (((2 * (mm + 1) + 1 : Nat)) : Int)).getD zD)).1 from rfl]
           have hdn := Dg_len (nodeD ((K2 (((2 * (mm + 1) : Nat)) : Int)).getD zD) ((K2 (((2 * (mm + 1) + 1 : Nat)) : Int)).getD zD))
           refine ⟨(fun _ => subA), ?_⟩
           refine WJ_all (rs := [16]) (by kernel_rfl) rfl ?_
           refine WI_one ?_
           refine WI_ac0 rfl (Ac_storeW rfl rfl sz42) rfl rfl rfl ?_
           rintro _ _ rfl
           refine ⟨(fun h => by cases h), ?_⟩
           refine WJ_done (by kernel_rfl) ?_
           refine Ps_next hK35 ?_
           refine WC_seq fun K42 hK42 => ?_
           refine WC_seq fun K43 hK43 => ?_
           refine WC_drawA mix (fun i => ([2, 2, 2, 2, 2, 2, 2, 2, 2, 2, 2, 2, 2, 2, 2, 2, 2, 2] : List Nat).getD i 0) ?_
           refine WJ_tp 0 rfl (Rd_move rfl) rfl (hp _ _) ?_
           refine WJ_tp 1 rfl (Rd_nilCheck rfl) rfl (hp _ _) ?_
           refine WJ_tp 2 rfl (Rd_fieldAddr rfl fo136_2) rfl (hp _ _) ?_
           refine WJ_tk 3 (Rd_load rfl tk46) hp ?_ rfl (by kernel_rfl) rfl rfl rfl
           refine WJ_tp 4 rfl (Rd_move rfl) rfl (hp _ _) ?_
           refine WJ_tp 5 rfl (Rd_index ((mm + 1)) rfl rfl ud46 sz4 (hi := by omega)) rfl (hp _ _) ?_
           refine WJ_tk 6 (Rd_load_arr (f := eBool) (i := (mm + 1)) (j := 0) rfl tk4 (hl := isL_at (K := K2) (w := w) (by omega))) hp ?_ rfl (by kernel_rfl) rfl rfl rfl
           refine WJ_tp 7 rfl (Rd_move rfl) rfl (hp _ _) ?_
           refine WJ_bool 156 rfl (fun hg44 => ?_) (fun hg44 => ?_)
           ·try simp only [dz, ne_eq] at hg44
            have q6 := hg44
            refine WJ_tp 8 rfl (Rd_move rfl) rfl (hp _ _) ?_
            refine WJ_tp 9 rfl (Rd_nilCheck rfl) rfl (hp _ _) ?_
            refine WJ_tp 10 rfl (Rd_fieldAddr rfl fo136_3) rfl (hp _ _) ?_
            refine WJ_tk 11 (Rd_load rfl tk76) hp ?_ rfl (by kernel_rfl) rfl rfl rfl
            refine WJ_tp 12 rfl (Rd_move rfl) rfl (hp _ _) ?_
            refine WJ_tp 13 rfl (Rd_index ((mm + 1)) rfl rfl ud76 sz42 (hi := by omega)) rfl (hp _ _) ?_
            refine WJ_tk 14 (Rd_aU (k := .u8) (l := ((K2 ((((mm + 1) : Nat)) : Int)).getD zD).1) (Rd_loadg_arr (f := fD) (i := (mm + 1)) rfl tk42 (hl := dgL_at (K := K2) (w := w) (by omega))) rfl) hp ?_ rfl (by kernel_rfl) rfl rfl rfl
            refine WJ_tk 15 (Rd_loadW (l := (nodeD ((K2 (((2 * (mm + 1) : Nat)) : Int)).getD zD) ((K2 (((2 * (mm + 1) + 1 : Nat)) : Int)).getD zD)).1) rfl tk42) hp ?_ rfl (by kernel_rfl) rfl rfl rfl
            refine WJ_tp 16 rfl (Rd_neW rfl rfl ais42) rfl (hp _ _) ?_
            refine WJ_tp 17 rfl (Rd_pickT rfl rfl) rfl (hp _ _) ?_
            refine WJ_done (by kernel_rfl) ?_
            refine Ps_next hK43 ?_
            refine WC_cond rfl (fun hc5 => ?_) (fun hc5 => ?_)
            ·try simp only [dz, ne_eq] at hc5
             refine WC_sr fun K45 hK45 => ?_
             refine WL_r (Rd_assign rfl) rfl ?_
             refine WL_end hK45 ?_
             refine WC_ret ?_
             have hS' : putD w Kn l = (123, _) := putD_b hpu.symm (by rw [← hcl, clD2_bad hno q6 (fun e => hc5 (by rw [e]))])
             rw [hS'] at hret
             dsimp only at hret
             exact hret.gf (gi, ci, gd, cd) (Rs1 rfl rfl)
            ·try simp only [dz, ne_eq] at hc5
             refine WC_skip ?_
             refine Ps_next hK42 ?_
             refine WC_sr fun K46 hK46 => ?_
             refine WL_r (Rd_move rfl) rfl ?_
             refine WL_r (Rd_nilCheck rfl) rfl ?_
             refine WL_r (Rd_fieldAddr rfl fo136_2) rfl ?_
             refine WL_r (Rd_load rfl tk46) rfl ?_
             refine WL_r (Rd_move rfl) rfl ?_
             refine WL_r (Rd_index ((mm + 1)) rfl rfl ud46 sz4 (hi := by omega)) rfl ?_
             refine WL_ac0 (Ac_store_arr true rfl rfl sz4 (j := 0) (i := (mm + 1)) (hl := isL_at (K := K2) (w := w) (by omega))) rfl rfl ?_
             rintro _ _ rfl
             refine WL_end hK46 ?_
             refine WC_drawA mix (fun i => ([2, 2, 2, 2, 2, 2, 2, 0] : List Nat).getD i 0) ?_
             refine WJ_tp 0 rfl (Rd_move rfl) rfl (hp _ _) ?_
             refine WJ_tp 1 rfl (Rd_nilCheck rfl) rfl (hp _ _) ?_
             refine WJ_tp 2 rfl (Rd_fieldAddr rfl fo136_3) rfl (hp _ _) ?_
             refine WJ_tk 3 (Rd_load rfl tk76) hp ?_ rfl (by kernel_rfl) rfl rfl rfl
             refine WJ_tp 4 rfl (Rd_move rfl) rfl (hp _ _) ?_
             refine WJ_tk 5 (Rd_loadW (l := (nodeD ((K2 (((2 * (mm + 1) : Nat)) : Int)).getD zD) ((K2 (((2 * (mm + 1) + 1 : Nat)) : Int)).getD zD)).1) rfl tk42) hp ?_ rfl (by kernel_rfl) rfl rfl rfl
             refine WJ_tp 6 rfl (Rd_index ((mm + 1)) rfl rfl ud76 sz42 (hi := by omega)) rfl (hp _ _) ?_
             refine WJ_all (rs := [7]) (by kernel_rfl) rfl ?_
             refine WI_one ?_
             refine WI_ac0 rfl (Ac_storeD ((nodeD ((K2 (((2 * (mm + 1) : Nat)) : Int)).getD zD) ((K2 (((2 * (mm + 1) + 1 : Nat)) : Int)).getD zD))) rfl rfl sz42 (i := (mm + 1)) (hi := by rw [dgL_len]; omega)) rfl rfl rfl ?_
             rintro _ _ rfl
             refine ⟨(fun h => by cases h), ?_⟩
             rw [isL_set (K := K2) (w := w) (i := (mm + 1)) (d := (nodeD ((K2 (((2 * (mm + 1) : Nat)) : Int)).getD zD) ((K2 (((2 * (mm + 1) + 1 : Nat)) : Int)).getD zD))) (by omega), dgL_set (K := K2) (w := w) (i := (mm + 1)) (d := (nodeD ((K2 (((2 * (mm + 1) : Nat)) : Int)).getD zD) ((K2 (((2 * (mm + 1) + 1 : Nat)) : Int)).getD zD))) (by omega)]
             refine WJ_done (by kernel_rfl) ?_
             refine Ps_next hK26 ?_
             refine WC_region ?_
             refine WL_r (Rd_move rfl) rfl ?_
             refine WL_r (Rd_subN (j := 1) rfl rfl) rfl ?_
             refine WL_r (Rd_assign rfl) rfl ?_
             refine WL_nil ?_
             refine Ps_wkB (hK23 ⟨mm, kset K2 ((mm + 1 : Nat) : Int) (nodeD ((K2 (((2 * (mm + 1) : Nat)) : Int)).getD zD) ((K2 (((2 * (mm + 1) + 1 : Nat)) : Int)).getD zD))⟩ (⟨by (try dsimp only); omega, by (try dsimp only); rw [← hcl, clD2_ok hno (by first | exact .inl q6 | exact .inr (Dg_ext (by simpa using hc5)))]⟩) (by (try dsimp only); omega))
           ·try simp only [dz, ne_eq] at hg44
            have q6 := hg44
            refine WJ_skip 8 rfl (by kernel_rfl) rfl rfl rfl (hp _ _) ?_
            refine WJ_skip 9 rfl (by kernel_rfl) rfl rfl rfl (hp _ _) ?_
            refine WJ_skip 10 rfl (by kernel_rfl) rfl rfl rfl (hp _ _) ?_
            refine WJ_skip 11 rfl (by kernel_rfl) rfl rfl rfl (hp _ _) ?_
            refine WJ_skip 12 rfl (by kernel_rfl) rfl rfl rfl (hp _ _) ?_
            refine WJ_skip 13 rfl (by kernel_rfl) rfl rfl rfl (hp _ _) ?_
            refine WJ_skip 14 rfl (by kernel_rfl) rfl rfl rfl (hp _ _) ?_
            refine WJ_skip 15 rfl (by kernel_rfl) rfl rfl rfl (hp _ _) ?_
            refine WJ_skip 16 rfl (by kernel_rfl) rfl rfl rfl (hp _ _) ?_
            refine WJ_tp 17 rfl (Rd_pickF rfl rfl) rfl (hp _ _) ?_
            refine WJ_done (by kernel_rfl) ?_
            refine Ps_next hK43 ?_
            refine WC_condF rfl ?_
            refine WC_skip ?_
            refine Ps_next hK42 ?_
            refine WC_sr fun K47 hK47 => ?_
            refine WL_r (Rd_move rfl) rfl ?_
            refine WL_r (Rd_nilCheck rfl) rfl ?_
            refine WL_r (Rd_fieldAddr rfl fo136_2) rfl ?_
            refine WL_r (Rd_load rfl tk46) rfl ?_
            refine WL_r (Rd_move rfl) rfl ?_
            refine WL_r (Rd_index ((mm + 1)) rfl rfl ud46 sz4 (hi := by omega)) rfl ?_
            refine WL_ac0 (Ac_store_arr true rfl rfl sz4 (j := 0) (i := (mm + 1)) (hl := isL_at (K := K2) (w := w) (by omega))) rfl rfl ?_
            rintro _ _ rfl
            refine WL_end hK47 ?_
            refine WC_drawA mix (fun i => ([2, 2, 2, 2, 2, 2, 2, 0] : List Nat).getD i 0) ?_
            refine WJ_tp 0 rfl (Rd_move rfl) rfl (hp _ _) ?_
            refine WJ_tp 1 rfl (Rd_nilCheck rfl) rfl (hp _ _) ?_
            refine WJ_tp 2 rfl (Rd_fieldAddr rfl fo136_3) rfl (hp _ _) ?_
            refine WJ_tk 3 (Rd_load rfl tk76) hp ?_ rfl (by kernel_rfl) rfl rfl rfl
            refine WJ_tp 4 rfl (Rd_move rfl) rfl (hp _ _) ?_
            refine WJ_tk 5 (Rd_loadW (l := (nodeD ((K2 (((2 * (mm + 1) : Nat)) : Int)).getD zD) ((K2 (((2 * (mm + 1) + 1 : Nat)) : Int)).getD zD)).1) rfl tk42) hp ?_ rfl (by kernel_rfl) rfl rfl rfl
            refine WJ_tp 6 rfl (Rd_index ((mm + 1)) rfl rfl ud76 sz42 (hi := by omega)) rfl (hp _ _) ?_
            refine WJ_all (rs := [7]) (by kernel_rfl) rfl ?_
            refine WI_one ?_
            refine WI_ac0 rfl (Ac_storeD ((nodeD ((K2 (((2 * (mm + 1) : Nat)) : Int)).getD zD) ((K2 (((2 * (mm + 1) + 1 : Nat)) : Int)).getD zD))) rfl rfl sz42 (i := (mm + 1)) (hi := by rw [dgL_len]; omega)) rfl rfl rfl ?_
            rintro _ _ rfl
            refine ⟨(fun h => by cases h), ?_⟩
            rw [isL_set (K := K2) (w := w) (i := (mm + 1)) (d := (nodeD ((K2 (((2 * (mm + 1) : Nat)) : Int)).getD zD) ((K2 (((2 * (mm + 1) + 1 : Nat)) : Int)).getD zD))) (by omega), dgL_set (K := K2) (w := w) (i := (mm + 1)) (d := (nodeD ((K2 (((2 * (mm + 1) : Nat)) : Int)).getD zD) ((K2 (((2 * (mm + 1) + 1 : Nat)) : Int)).getD zD))) (by omega)]
            refine WJ_done (by kernel_rfl) ?_
            refine Ps_next hK26 ?_
            refine WC_region ?_
            refine WL_r (Rd_move rfl) rfl ?_
            refine WL_r (Rd_subN (j := 1) rfl rfl) rfl ?_
            refine WL_r (Rd_assign rfl) rfl ?_
            refine WL_nil ?_
            refine Ps_wkB (hK23 ⟨mm, kset K2 ((mm + 1 : Nat) : Int) (nodeD ((K2 (((2 * (mm + 1) : Nat)) : Int)).getD zD) ((K2 (((2 * (mm + 1) + 1 : Nat)) : Int)).getD zD))⟩ (⟨by (try dsimp only); omega, by (try dsimp only); rw [← hcl, clD2_ok hno (by first | exact .inl q6 | exact .inr (Dg_ext (by simpa using hc5)))]⟩) (by (try dsimp only); omega))
        ·try simp only [dz, ne_eq] at hg34
         have q4 := hg34
         refine WL_skip rfl rfl rfl ?_
         refine WL_skip rfl rfl rfl ?_
         refine WL_skip rfl rfl rfl ?_
         refine WL_skip rfl rfl rfl ?_
         refine WL_skip rfl rfl rfl ?_
         refine WL_skip rfl rfl rfl ?_
         refine WL_skip rfl rfl rfl ?_
         refine WL_r (Rd_pickF rfl rfl) rfl ?_
         refine WL_r (Rd_pickF rfl rfl) rfl ?_
         refine WL_end hK30 ?_
         refine WC_condF rfl ?_
         have hno : ¬ ((K2 ((2 * (mm + 1) : Nat) : Int)).isSome = false ∨ (K2 ((2 * (mm + 1) + 1 : Nat) : Int)).isSome = false ∨ ((Kn ((mm + 1 : Nat) : Int)).isSome = true ∧ (Kn ((2 * (mm + 1) : Nat) : Int)).isSome = true ∧ (Kn ((2 * (mm + 1) + 1 : Nat) : Int)).isSome = true)) := by rintro (z | z | ⟨z1, z2, z3⟩); (rw [z] at q1; cases q1); (rw [z] at q2; cases q2); first | (rw [z1] at q3; cases q3; done) | (rw [z2] at q4; cases q4; done) | (rw [z3] at hc4; cases hc4; done)
         refine WC_skip ?_
         refine Ps_next hK29 ?_
         refine WC_seq fun K48 hK48 => ?_
         refine WC_drawA mix (fun i => ([2, 2, 2, 2, 2, 2, 2, 2, 2, 2, 2, 2, 2, 2, 1, 1, 0] : List Nat).getD i 0) ?_
         refine WJ_tp 0 rfl (Rd_move rfl) rfl (hp _ _) ?_
         refine WJ_tp 1 rfl (Rd_nilCheck rfl) rfl (hp _ _) ?_
         refine WJ_tp 2 rfl (Rd_fieldAddr rfl fo136_3) rfl (hp _ _) ?_
         refine WJ_tk 3 (Rd_load rfl tk76) hp ?_ rfl (by kernel_rfl) rfl rfl rfl
         refine WJ_tp 4 rfl (Rd_move rfl) rfl (hp _ _) ?_
         refine WJ_tp 5 rfl (Rd_index ((2 * (mm + 1))) rfl rfl ud76 sz42 (hi := by omega)) rfl (hp _ _) ?_
         refine WJ_tk 6 (Rd_aU (k := .u8) (l := ((K2 ((((2 * (mm + 1)) : Nat)) : Int)).getD zD).1) (Rd_loadg_arr (f := fD) (i := (2 * (mm + 1))) rfl tk42 (hl := dgL_at (K := K2) (w := w) (by omega))) rfl) hp ?_ rfl (by kernel_rfl) rfl rfl rfl
         refine WJ_tp 7 rfl (Rd_move rfl) rfl (hp _ _) ?_
         refine WJ_tp 8 rfl (Rd_nilCheck rfl) rfl (hp _ _) ?_
         refine WJ_tp 9 rfl (Rd_fieldAddr rfl fo136_3) rfl (hp _ _) ?_
         refine WJ_tk 10 (Rd_load rfl tk76) hp ?_ rfl (by kernel_rfl) rfl rfl rfl
         refine WJ_tp 11 rfl (Rd_move rfl) rfl (hp _ _) ?_
         refine WJ_tp 12 rfl (Rd_index ((2 * (mm + 1) + 1)) rfl rfl ud76 sz42 (hi := by omega)) rfl (hp _ _) ?_
         refine WJ_tk 13 (Rd_aU (k := .u8) (l := ((K2 ((((2 * (mm + 1) + 1) : Nat)) : Int)).getD zD).1) (Rd_loadg_arr (f := fD) (i := (2 * (mm + 1) + 1)) rfl tk42 (hl := dgL_at (K := K2) (w := w) (by omega))) rfl) hp ?_ rfl (by kernel_rfl) rfl rfl rfl
         refine WJ_all (rs := [14, 15]) (by kernel_rfl) rfl ?_
         refine WI_cons ?_ (WI_cons ?_ (by intro _ h; cases h))
         ·skip
          refine WI_ac rfl (Ac_call cf77 rfl (hs := nodeR_ct (x := ((K2 (((2 * (mm + 1) : Nat)) : Int)).getD zD).1) (y := ((K2 (((2 * (mm + 1) + 1 : Nat)) : Int)).getD zD).1) (hx := Dg_len _) (hy := Dg_len _))) rfl rfl rfl rfl ?_
          rintro _ _ ⟨⟨⟩, rfl, hA⟩
          simp only [List.cons_append, List.nil_append] at hA
          replace hA := hA.symm
          subst hA
          rw [show tagD 6#8 [((K2 (((2 * (mm + 1) : Nat)) : Int)).getD zD).1, ((K2 (((2 * (mm + 1) + 1 : Nat)) : Int)).getD zD).1] = (nodeD ((K2 (((2 * (mm + 1) : Nat)) : Int)).getD zD) ((K2 (((2 * (mm + 1) + 1 : Nat)) : Int)).getD zD)).1 from rfl]
          have hdn := Dg_len (nodeD ((K2 (((2 * (mm + 1) : Nat)) : Int)).getD zD) ((K2 (((2 * (mm + 1) + 1 : Nat)) : Int)).getD zD))
          refine ⟨(fun _ => subA), ?_⟩
          refine WJ_all (rs := [15]) (by kernel_rfl) rfl ?_
          refine WI_one ?_
          refine WI_ac rfl (Ac_allocW (k := .u8) (w := 8) (m := 32) zr42) rfl rfl rfl rfl ?_
          rintro _ _ ⟨b11, rfl, rfl⟩
          refine ⟨(fun _ => subA), ?_⟩
          refine WJ_all (rs := [16]) (by kernel_rfl) rfl ?_
          refine WI_one ?_
          refine WI_ac0 rfl (Ac_storeW rfl rfl sz42) rfl rfl rfl ?_
          rintro _ _ rfl
          refine ⟨(fun h => by cases h), ?_⟩
          refine WJ_done (by kernel_rfl) ?_
          refine Ps_next hK48 ?_
          refine WC_seq fun K49 hK49 => ?_
          refine WC_seq fun K50 hK50 => ?_
          refine WC_drawA mix (fun i => ([2, 2, 2, 2, 2, 2, 2, 2, 2, 2, 2, 2, 2, 2, 2, 2, 2, 2] : List Nat).getD i 0) ?_
          refine WJ_tp 0 rfl (Rd_move rfl) rfl (hp _ _) ?_
          refine WJ_tp 1 rfl (Rd_nilCheck rfl) rfl (hp _ _) ?_
          refine WJ_tp 2 rfl (Rd_fieldAddr rfl fo136_2) rfl (hp _ _) ?_
          refine WJ_tk 3 (Rd_load rfl tk46) hp ?_ rfl (by kernel_rfl) rfl rfl rfl
          refine WJ_tp 4 rfl (Rd_move rfl) rfl (hp _ _) ?_
          refine WJ_tp 5 rfl (Rd_index ((mm + 1)) rfl rfl ud46 sz4 (hi := by omega)) rfl (hp _ _) ?_
          refine WJ_tk 6 (Rd_load_arr (f := eBool) (i := (mm + 1)) (j := 0) rfl tk4 (hl := isL_at (K := K2) (w := w) (by omega))) hp ?_ rfl (by kernel_rfl) rfl rfl rfl
          refine WJ_tp 7 rfl (Rd_move rfl) rfl (hp _ _) ?_
          refine WJ_bool 156 rfl (fun hg51 => ?_) (fun hg51 => ?_)
          ·try simp only [dz, ne_eq] at hg51
           have q6 := hg51
           refine WJ_tp 8 rfl (Rd_move rfl) rfl (hp _ _) ?_
           refine WJ_tp 9 rfl (Rd_nilCheck rfl) rfl (hp _ _) ?_
           refine WJ_tp 10 rfl (Rd_fieldAddr rfl fo136_3) rfl (hp _ _) ?_
           refine WJ_tk 11 (Rd_load rfl tk76) hp ?_ rfl (by kernel_rfl) rfl rfl rfl
           refine WJ_tp 12 rfl (Rd_move rfl) rfl (hp _ _) ?_
           refine WJ_tp 13 rfl (Rd_index ((mm + 1)) rfl rfl ud76 sz42 (hi := by omega)) rfl (hp _ _) ?_
           refine WJ_tk 14 (Rd_aU (k := .u8) (l := ((K2 ((((mm + 1) : Nat)) : Int)).getD zD).1) (Rd_loadg_arr (f := fD) (i := (mm + 1)) rfl tk42 (hl := dgL_at (K := K2) (w := w) (by omega))) rfl) hp ?_ rfl (by kernel_rfl) rfl rfl rfl
           refine WJ_tk 15 (Rd_loadW (l := (nodeD ((K2 (((2 * (mm + 1) : Nat)) : Int)).getD zD) ((K2 (((2 * (mm + 1) + 1 : Nat)) : Int)).getD zD)).1) rfl tk42) hp ?_ rfl (by kernel_rfl) rfl rfl rfl
           refine WJ_tp 16 rfl (Rd_neW rfl rfl ais42) rfl (hp _ _) ?_
           refine WJ_tp 17 rfl (Rd_pickT rfl rfl) rfl (hp _ _) ?_
           refine WJ_done (by kernel_rfl) ?_
           refine Ps_next hK50 ?_
           refine WC_cond rfl (fun hc5 => ?_) (fun hc5 => ?_)
           ·try simp only [dz, ne_eq] at hc5
            refine WC_sr fun K52 hK52 => ?_
            refine WL_r (Rd_assign rfl) rfl ?_
            refine WL_end hK52 ?_
            refine WC_ret ?_
            have hS' : putD w Kn l = (123, _) := putD_b hpu.symm (by rw [← hcl, clD2_bad hno q6 (fun e => hc5 (by rw [e]))])
            rw [hS'] at hret
            dsimp only at hret
            exact hret.gf (gi, ci, gd, cd) (Rs1 rfl rfl)
           ·try simp only [dz, ne_eq] at hc5
            refine WC_skip ?_
            refine Ps_next hK49 ?_
            refine WC_sr fun K53 hK53 => ?_
            refine WL_r (Rd_move rfl) rfl ?_
            refine WL_r (Rd_nilCheck rfl) rfl ?_
            refine WL_r (Rd_fieldAddr rfl fo136_2) rfl ?_
            refine WL_r (Rd_load rfl tk46) rfl ?_
            refine WL_r (Rd_move rfl) rfl ?_
            refine WL_r (Rd_index ((mm + 1)) rfl rfl ud46 sz4 (hi := by omega)) rfl ?_
            refine WL_ac0 (Ac_store_arr true rfl rfl sz4 (j := 0) (i := (mm + 1)) (hl := isL_at (K := K2) (w := w) (by omega))) rfl rfl ?_
            rintro _ _ rfl
            refine WL_end hK53 ?_
            refine WC_drawA mix (fun i => ([2, 2, 2, 2, 2, 2, 2, 0] : List Nat).getD i 0) ?_
            refine WJ_tp 0 rfl (Rd_move rfl) rfl (hp _ _) ?_
            refine WJ_tp 1 rfl (Rd_nilCheck rfl) rfl (hp _ _) ?_
            refine WJ_tp 2 rfl (Rd_fieldAddr rfl fo136_3) rfl (hp _ _) ?_
            refine WJ_tk 3 (Rd_load rfl tk76) hp ?_ rfl (by kernel_rfl) rfl rfl rfl
            refine WJ_tp 4 rfl (Rd_move rfl) rfl (hp _ _) ?_
            refine WJ_tk 5 (Rd_loadW (l := (nodeD ((K2 (((2 * (mm + 1) : Nat)) : Int)).getD zD) ((K2 (((2 * (mm + 1) + 1 : Nat)) : Int)).getD zD)).1) rfl tk42) hp ?_ rfl (by kernel_rfl) rfl rfl rfl
            refine WJ_tp 6 rfl (Rd_index ((mm + 1)) rfl rfl ud76 sz42 (hi := by omega)) rfl (hp _ _) ?_
            refine WJ_all (rs := [7]) (by kernel_rfl) rfl ?_
            refine WI_one ?_
            refine WI_ac0 rfl (Ac_storeD ((nodeD ((K2 (((2 * (mm + 1) : Nat)) : Int)).getD zD) ((K2 (((2 * (mm + 1) + 1 : Nat)) : Int)).getD zD))) rfl rfl sz42 (i := (mm + 1)) (hi := by rw [dgL_len]; omega)) rfl rfl rfl ?_
            rintro _ _ rfl
            refine ⟨(fun h => by cases h), ?_⟩
            rw [isL_set (K := K2) (w := w) (i := (mm + 1)) (d := (nodeD ((K2 (((2 * (mm + 1) : Nat)) : Int)).getD zD) ((K2 (((2 * (mm + 1) + 1 : Nat)) : Int)).getD zD))) (by omega), dgL_set (K := K2) (w := w) (i := (mm + 1)) (d := (nodeD ((K2 (((2 * (mm + 1) : Nat)) : Int)).getD zD) ((K2 (((2 * (mm + 1) + 1 : Nat)) : Int)).getD zD))) (by omega)]
            refine WJ_done (by kernel_rfl) ?_
            refine Ps_next hK26 ?_
            refine WC_region ?_
            refine WL_r (Rd_move rfl) rfl ?_
            refine WL_r (Rd_subN (j := 1) rfl rfl) rfl ?_
            refine WL_r (Rd_assign rfl) rfl ?_
            refine WL_nil ?_
            refine Ps_wkB (hK23 ⟨mm, kset K2 ((mm + 1 : Nat) : Int) (nodeD ((K2 (((2 * (mm + 1) : Nat)) : Int)).getD zD) ((K2 (((2 * (mm + 1) + 1 : Nat)) : Int)).getD zD))⟩ (⟨by (try dsimp only); omega, by (try dsimp only); rw [← hcl, clD2_ok hno (by first | exact .inl q6 | exact .inr (Dg_ext (by simpa using hc5)))]⟩) (by (try dsimp only); omega))
          ·try simp only [dz, ne_eq] at hg51
           have q6 := hg51
           refine WJ_skip 8 rfl (by kernel_rfl) rfl rfl rfl (hp _ _) ?_
           refine WJ_skip 9 rfl (by kernel_rfl) rfl rfl rfl (hp _ _) ?_
           refine WJ_skip 10 rfl (by kernel_rfl) rfl rfl rfl (hp _ _) ?_
           refine WJ_skip 11 rfl (by kernel_rfl) rfl rfl rfl (hp _ _) ?_
           refine WJ_skip 12 rfl (by kernel_rfl) rfl rfl rfl (hp _ _) ?_
           refine WJ_skip 13 rfl (by kernel_rfl) rfl rfl rfl (hp _ _) ?_
           refine WJ_skip 14 rfl (by kernel_rfl) rfl rfl rfl (hp _ _) ?_
           refine WJ_skip 15 rfl (by kernel_rfl) rfl rfl rfl (hp _ _) ?_
           refine WJ_skip 16 rfl (by kernel_rfl) rfl rfl rfl (hp _ _) ?_
           refine WJ_tp 17 rfl (Rd_pickF rfl rfl) rfl (hp _ _) ?_
           refine WJ_done (by kernel_rfl) ?_
           refine Ps_next hK50 ?_
           refine WC_condF rfl ?_
           refine WC_skip ?_
           refine Ps_next hK49 ?_
           refine WC_sr fun K54 hK54 => ?_
           refine WL_r (Rd_move rfl) rfl ?_
           refine WL_r (Rd_nilCheck rfl) rfl ?_
           refine WL_r (Rd_fieldAddr rfl fo136_2) rfl ?_
           refine WL_r (Rd_load rfl tk46) rfl ?_
           refine WL_r (Rd_move rfl) rfl ?_
           refine WL_r (Rd_index ((mm + 1)) rfl rfl ud46 sz4 (hi := by omega)) rfl ?_
           refine WL_ac0 (Ac_store_arr true rfl rfl sz4 (j := 0) (i := (mm + 1)) (hl := isL_at (K := K2) (w := w) (by omega))) rfl rfl ?_
           rintro _ _ rfl
           refine WL_end hK54 ?_
           refine WC_drawA mix (fun i => ([2, 2, 2, 2, 2, 2, 2, 0] : List Nat).getD i 0) ?_
           refine WJ_tp 0 rfl (Rd_move rfl) rfl (hp _ _) ?_
           refine WJ_tp 1 rfl (Rd_nilCheck rfl) rfl (hp _ _) ?_
           refine WJ_tp 2 rfl (Rd_fieldAddr rfl fo136_3) rfl (hp _ _) ?_
           refine WJ_tk 3 (Rd_load rfl tk76) hp ?_ rfl (by kernel_rfl) rfl rfl rfl
           refine WJ_tp 4 rfl (Rd_move rfl) rfl (hp _ _) ?_
           refine WJ_tk 5 (Rd_loadW (l := (nodeD ((K2 (((2 * (mm + 1) : Nat)) : Int)).getD zD) ((K2 (((2 * (mm + 1) + 1 : Nat)) : Int)).getD zD)).1) rfl tk42) hp ?_ rfl (by kernel_rfl) rfl rfl rfl
           refine WJ_tp 6 rfl (Rd_index ((mm + 1)) rfl rfl ud76 sz42 (hi := by omega)) rfl (hp _ _) ?_
           refine WJ_all (rs := [7]) (by kernel_rfl) rfl ?_
           refine WI_one ?_
           refine WI_ac0 rfl (Ac_storeD ((nodeD ((K2 (((2 * (mm + 1) : Nat)) : Int)).getD zD) ((K2 (((2 * (mm + 1) + 1 : Nat)) : Int)).getD zD))) rfl rfl sz42 (i := (mm + 1)) (hi := by rw [dgL_len]; omega)) rfl rfl rfl ?_
           rintro _ _ rfl
           refine ⟨(fun h => by cases h), ?_⟩
           rw [isL_set (K := K2) (w := w) (i := (mm + 1)) (d := (nodeD ((K2 (((2 * (mm + 1) : Nat)) : Int)).getD zD) ((K2 (((2 * (mm + 1) + 1 : Nat)) : Int)).getD zD))) (by omega), dgL_set (K := K2) (w := w) (i := (mm + 1)) (d := (nodeD ((K2 (((2 * (mm + 1) : Nat)) : Int)).getD zD) ((K2 (((2 * (mm + 1) + 1 : Nat)) : Int)).getD zD))) (by omega)]
           refine WJ_done (by kernel_rfl) ?_
           refine Ps_next hK26 ?_
           refine WC_region ?_
           refine WL_r (Rd_move rfl) rfl ?_
           refine WL_r (Rd_subN (j := 1) rfl rfl) rfl ?_
           refine WL_r (Rd_assign rfl) rfl ?_
           refine WL_nil ?_
           refine Ps_wkB (hK23 ⟨mm, kset K2 ((mm + 1 : Nat) : Int) (nodeD ((K2 (((2 * (mm + 1) : Nat)) : Int)).getD zD) ((K2 (((2 * (mm + 1) + 1 : Nat)) : Int)).getD zD))⟩ (⟨by (try dsimp only); omega, by (try dsimp only); rw [← hcl, clD2_ok hno (by first | exact .inl q6 | exact .inr (Dg_ext (by simpa using hc5)))]⟩) (by (try dsimp only); omega))
         ·skip
          refine WI_ac rfl (Ac_allocW (k := .u8) (w := 8) (m := 32) zr42) rfl rfl rfl rfl ?_
          rintro _ _ ⟨b11, rfl, rfl⟩
          refine ⟨(fun _ => subA), ?_⟩
          refine WJ_all (rs := [14]) (by kernel_rfl) rfl ?_
          refine WI_one ?_
          refine WI_ac rfl (Ac_call cf77 rfl (hs := nodeR_ct (x := ((K2 (((2 * (mm + 1) : Nat)) : Int)).getD zD).1) (y := ((K2 (((2 * (mm + 1) + 1 : Nat)) : Int)).getD zD).1) (hx := Dg_len _) (hy := Dg_len _))) rfl rfl rfl rfl ?_
          rintro _ _ ⟨⟨⟩, rfl, hA⟩
          simp only [List.cons_append, List.nil_append] at hA
          replace hA := hA.symm
          subst hA
          rw [show tagD 6#8 [((K2 (((2 * (mm + 1) : Nat)) : Int)).getD zD).1, ((K2 (((2 * (mm + 1) + 1 : Nat)) : Int)).getD zD).1] = (nodeD ((K2 (((2 * (mm + 1) : Nat)) : Int)).getD zD) ((K2 (((2 * (mm + 1) + 1 : Nat)) : Int)).getD zD)).1 from rfl]
          have hdn := Dg_len (nodeD ((K2 (((2 * (mm + 1) : Nat)) : Int)).getD zD) ((K2 (((2 * (mm + 1) + 1 : Nat)) : Int)).getD zD))
          refine ⟨(fun _ => subA), ?_⟩
          refine WJ_all (rs := [16]) (by kernel_rfl) rfl ?_
          refine WI_one ?_
          refine WI_ac0 rfl (Ac_storeW rfl rfl sz42) rfl rfl rfl ?_
          rintro _ _ rfl
          refine ⟨(fun h => by cases h), ?_⟩
          refine WJ_done (by kernel_rfl) ?_
          refine Ps_next hK48 ?_
          refine WC_seq fun K55 hK55 => ?_
          refine WC_seq fun K56 hK56 => ?_
          refine WC_drawA mix (fun i => ([2, 2, 2, 2, 2, 2, 2, 2, 2, 2, 2, 2, 2, 2, 2, 2, 2, 2] : List Nat).getD i 0) ?_
          refine WJ_tp 0 rfl (Rd_move rfl) rfl (hp _ _) ?_
          refine WJ_tp 1 rfl (Rd_nilCheck rfl) rfl (hp _ _) ?_
          refine WJ_tp 2 rfl (Rd_fieldAddr rfl fo136_2) rfl (hp _ _) ?_
          refine WJ_tk 3 (Rd_load rfl tk46) hp ?_ rfl (by kernel_rfl) rfl rfl rfl
          refine WJ_tp 4 rfl (Rd_move rfl) rfl (hp _ _) ?_
          refine WJ_tp 5 rfl (Rd_index ((mm + 1)) rfl rfl ud46 sz4 (hi := by omega)) rfl (hp _ _) ?_
          refine WJ_tk 6 (Rd_load_arr (f := eBool) (i := (mm + 1)) (j := 0) rfl tk4 (hl := isL_at (K := K2) (w := w) (by omega))) hp ?_ rfl (by kernel_rfl) rfl rfl rfl
          refine WJ_tp 7 rfl (Rd_move rfl) rfl (hp _ _) ?_
          refine WJ_bool 156 rfl (fun hg57 => ?_) (fun hg57 => ?_)
          ·try simp only [dz, ne_eq] at hg57
           have q6 := hg57
           refine WJ_tp 8 rfl (Rd_move rfl) rfl (hp _ _) ?_
           refine WJ_tp 9 rfl (Rd_nilCheck rfl) rfl (hp _ _) ?_
           refine WJ_tp 10 rfl (Rd_fieldAddr rfl fo136_3) rfl (hp _ _) ?_
           refine WJ_tk 11 (Rd_load rfl tk76) hp ?_ rfl (by kernel_rfl) rfl rfl rfl
           refine WJ_tp 12 rfl (Rd_move rfl) rfl (hp _ _) ?_
           refine WJ_tp 13 rfl (Rd_index ((mm + 1)) rfl rfl ud76 sz42 (hi := by omega)) rfl (hp _ _) ?_
           refine WJ_tk 14 (Rd_aU (k := .u8) (l := ((K2 ((((mm + 1) : Nat)) : Int)).getD zD).1) (Rd_loadg_arr (f := fD) (i := (mm + 1)) rfl tk42 (hl := dgL_at (K := K2) (w := w) (by omega))) rfl) hp ?_ rfl (by kernel_rfl) rfl rfl rfl
           refine WJ_tk 15 (Rd_loadW (l := (nodeD ((K2 (((2 * (mm + 1) : Nat)) : Int)).getD zD) ((K2 (((2 * (mm + 1) + 1 : Nat)) : Int)).getD zD)).1) rfl tk42) hp ?_ rfl (by kernel_rfl) rfl rfl rfl
           refine WJ_tp 16 rfl (Rd_neW rfl rfl ais42) rfl (hp _ _) ?_
           refine WJ_tp 17 rfl (Rd_pickT rfl rfl) rfl (hp _ _) ?_
           refine WJ_done (by kernel_rfl) ?_
           refine Ps_next hK56 ?_
           refine WC_cond rfl (fun hc5 => ?_) (fun hc5 => ?_)
           ·try simp only [dz, ne_eq] at hc5
            refine WC_sr fun K58 hK58 => ?_
            refine WL_r (Rd_assign rfl) rfl ?_
            refine WL_end hK58 ?_
            refine WC_ret ?_
            have hS' : putD w Kn l = (123, _) := putD_b hpu.symm (by rw [← hcl, clD2_bad hno q6 (fun e => hc5 (by rw [e]))])
            rw [hS'] at hret
            dsimp only at hret
            exact hret.gf (gi, ci, gd, cd) (Rs1 rfl rfl)
           ·try simp only [dz, ne_eq] at hc5
            refine WC_skip ?_
            refine Ps_next hK55 ?_
            refine WC_sr fun K59 hK59 => ?_
            refine WL_r (Rd_move rfl) rfl ?_
            refine WL_r (Rd_nilCheck rfl) rfl ?_
            refine WL_r (Rd_fieldAddr rfl fo136_2) rfl ?_
            refine WL_r (Rd_load rfl tk46) rfl ?_
            refine WL_r (Rd_move rfl) rfl ?_
            refine WL_r (Rd_index ((mm + 1)) rfl rfl ud46 sz4 (hi := by omega)) rfl ?_
            refine WL_ac0 (Ac_store_arr true rfl rfl sz4 (j := 0) (i := (mm + 1)) (hl := isL_at (K := K2) (w := w) (by omega))) rfl rfl ?_
            rintro _ _ rfl
            refine WL_end hK59 ?_
            refine WC_drawA mix (fun i => ([2, 2, 2, 2, 2, 2, 2, 0] : List Nat).getD i 0) ?_
            refine WJ_tp 0 rfl (Rd_move rfl) rfl (hp _ _) ?_
            refine WJ_tp 1 rfl (Rd_nilCheck rfl) rfl (hp _ _) ?_
            refine WJ_tp 2 rfl (Rd_fieldAddr rfl fo136_3) rfl (hp _ _) ?_
            refine WJ_tk 3 (Rd_load rfl tk76) hp ?_ rfl (by kernel_rfl) rfl rfl rfl
            refine WJ_tp 4 rfl (Rd_move rfl) rfl (hp _ _) ?_
            refine WJ_tk 5 (Rd_loadW (l := (nodeD ((K2 (((2 * (mm + 1) : Nat)) : Int)).getD zD) ((K2 (((2 * (mm + 1) + 1 : Nat)) : Int)).getD zD)).1) rfl tk42) hp ?_ rfl (by kernel_rfl) rfl rfl rfl
            refine WJ_tp 6 rfl (Rd_index ((mm + 1)) rfl rfl ud76 sz42 (hi := by omega)) rfl (hp _ _) ?_
            refine WJ_all (rs := [7]) (by kernel_rfl) rfl ?_
            refine WI_one ?_
            refine WI_ac0 rfl (Ac_storeD ((nodeD ((K2 (((2 * (mm + 1) : Nat)) : Int)).getD zD) ((K2 (((2 * (mm + 1) + 1 : Nat)) : Int)).getD zD))) rfl rfl sz42 (i := (mm + 1)) (hi := by rw [dgL_len]; omega)) rfl rfl rfl ?_
            rintro _ _ rfl
            refine ⟨(fun h => by cases h), ?_⟩
            rw [isL_set (K := K2) (w := w) (i := (mm + 1)) (d := (nodeD ((K2 (((2 * (mm + 1) : Nat)) : Int)).getD zD) ((K2 (((2 * (mm + 1) + 1 : Nat)) : Int)).getD zD))) (by omega), dgL_set (K := K2) (w := w) (i := (mm + 1)) (d := (nodeD ((K2 (((2 * (mm + 1) : Nat)) : Int)).getD zD) ((K2 (((2 * (mm + 1) + 1 : Nat)) : Int)).getD zD))) (by omega)]
            refine WJ_done (by kernel_rfl) ?_
            refine Ps_next hK26 ?_
            refine WC_region ?_
            refine WL_r (Rd_move rfl) rfl ?_
            refine WL_r (Rd_subN (j := 1) rfl rfl) rfl ?_
            refine WL_r (Rd_assign rfl) rfl ?_
            refine WL_nil ?_
            refine Ps_wkB (hK23 ⟨mm, kset K2 ((mm + 1 : Nat) : Int) (nodeD ((K2 (((2 * (mm + 1) : Nat)) : Int)).getD zD) ((K2 (((2 * (mm + 1) + 1 : Nat)) : Int)).getD zD))⟩ (⟨by (try dsimp only); omega, by (try dsimp only); rw [← hcl, clD2_ok hno (by first | exact .inl q6 | exact .inr (Dg_ext (by simpa using hc5)))]⟩) (by (try dsimp only); omega))
          ·try simp only [dz, ne_eq] at hg57
           have q6 := hg57
           refine WJ_skip 8 rfl (by kernel_rfl) rfl rfl rfl (hp _ _) ?_
           refine WJ_skip 9 rfl (by kernel_rfl) rfl rfl rfl (hp _ _) ?_
           refine WJ_skip 10 rfl (by kernel_rfl) rfl rfl rfl (hp _ _) ?_
           refine WJ_skip 11 rfl (by kernel_rfl) rfl rfl rfl (hp _ _) ?_
           refine WJ_skip 12 rfl (by kernel_rfl) rfl rfl rfl (hp _ _) ?_
           refine WJ_skip 13 rfl (by kernel_rfl) rfl rfl rfl (hp _ _) ?_
           refine WJ_skip 14 rfl (by kernel_rfl) rfl rfl rfl (hp _ _) ?_
           refine WJ_skip 15 rfl (by kernel_rfl) rfl rfl rfl (hp _ _) ?_
           refine WJ_skip 16 rfl (by kernel_rfl) rfl rfl rfl (hp _ _) ?_
           refine WJ_tp 17 rfl (Rd_pickF rfl rfl) rfl (hp _ _) ?_
           refine WJ_done (by kernel_rfl) ?_
           refine Ps_next hK56 ?_
           refine WC_condF rfl ?_
           refine WC_skip ?_
           refine Ps_next hK55 ?_
           refine WC_sr fun K60 hK60 => ?_
           refine WL_r (Rd_move rfl) rfl ?_
           refine WL_r (Rd_nilCheck rfl) rfl ?_
           refine WL_r (Rd_fieldAddr rfl fo136_2) rfl ?_
           refine WL_r (Rd_load rfl tk46) rfl ?_
           refine WL_r (Rd_move rfl) rfl ?_
           refine WL_r (Rd_index ((mm + 1)) rfl rfl ud46 sz4 (hi := by omega)) rfl ?_
           refine WL_ac0 (Ac_store_arr true rfl rfl sz4 (j := 0) (i := (mm + 1)) (hl := isL_at (K := K2) (w := w) (by omega))) rfl rfl ?_
           rintro _ _ rfl
           refine WL_end hK60 ?_
           refine WC_drawA mix (fun i => ([2, 2, 2, 2, 2, 2, 2, 0] : List Nat).getD i 0) ?_
           refine WJ_tp 0 rfl (Rd_move rfl) rfl (hp _ _) ?_
           refine WJ_tp 1 rfl (Rd_nilCheck rfl) rfl (hp _ _) ?_
           refine WJ_tp 2 rfl (Rd_fieldAddr rfl fo136_3) rfl (hp _ _) ?_
           refine WJ_tk 3 (Rd_load rfl tk76) hp ?_ rfl (by kernel_rfl) rfl rfl rfl
           refine WJ_tp 4 rfl (Rd_move rfl) rfl (hp _ _) ?_
           refine WJ_tk 5 (Rd_loadW (l := (nodeD ((K2 (((2 * (mm + 1) : Nat)) : Int)).getD zD) ((K2 (((2 * (mm + 1) + 1 : Nat)) : Int)).getD zD)).1) rfl tk42) hp ?_ rfl (by kernel_rfl) rfl rfl rfl
           refine WJ_tp 6 rfl (Rd_index ((mm + 1)) rfl rfl ud76 sz42 (hi := by omega)) rfl (hp _ _) ?_
           refine WJ_all (rs := [7]) (by kernel_rfl) rfl ?_
           refine WI_one ?_
           refine WI_ac0 rfl (Ac_storeD ((nodeD ((K2 (((2 * (mm + 1) : Nat)) : Int)).getD zD) ((K2 (((2 * (mm + 1) + 1 : Nat)) : Int)).getD zD))) rfl rfl sz42 (i := (mm + 1)) (hi := by rw [dgL_len]; omega)) rfl rfl rfl ?_
           rintro _ _ rfl
           refine ⟨(fun h => by cases h), ?_⟩
           rw [isL_set (K := K2) (w := w) (i := (mm + 1)) (d := (nodeD ((K2 (((2 * (mm + 1) : Nat)) : Int)).getD zD) ((K2 (((2 * (mm + 1) + 1 : Nat)) : Int)).getD zD))) (by omega), dgL_set (K := K2) (w := w) (i := (mm + 1)) (d := (nodeD ((K2 (((2 * (mm + 1) : Nat)) : Int)).getD zD) ((K2 (((2 * (mm + 1) + 1 : Nat)) : Int)).getD zD))) (by omega)]
           refine WJ_done (by kernel_rfl) ?_
           refine Ps_next hK26 ?_
           refine WC_region ?_
           refine WL_r (Rd_move rfl) rfl ?_
           refine WL_r (Rd_subN (j := 1) rfl rfl) rfl ?_
           refine WL_r (Rd_assign rfl) rfl ?_
           refine WL_nil ?_
           refine Ps_wkB (hK23 ⟨mm, kset K2 ((mm + 1 : Nat) : Int) (nodeD ((K2 (((2 * (mm + 1) : Nat)) : Int)).getD zD) ((K2 (((2 * (mm + 1) + 1 : Nat)) : Int)).getD zD))⟩ (⟨by (try dsimp only); omega, by (try dsimp only); rw [← hcl, clD2_ok hno (by first | exact .inl q6 | exact .inr (Dg_ext (by simpa using hc5)))]⟩) (by (try dsimp only); omega))
       ·try simp only [dz, ne_eq] at hg33
        have q3 := hg33
        refine WL_skip rfl rfl rfl ?_
        refine WL_skip rfl rfl rfl ?_
        refine WL_skip rfl rfl rfl ?_
        refine WL_skip rfl rfl rfl ?_
        refine WL_skip rfl rfl rfl ?_
        refine WL_skip rfl rfl rfl ?_
        refine WL_skip rfl rfl rfl ?_
        refine WL_r (Rd_pickF rfl rfl) rfl ?_
        refine WL_r (Rd_move rfl) rfl ?_
        refine WL_skip rfl rfl rfl ?_
        refine WL_skip rfl rfl rfl ?_
        refine WL_skip rfl rfl rfl ?_
        refine WL_skip rfl rfl rfl ?_
        refine WL_skip rfl rfl rfl ?_
        refine WL_skip rfl rfl rfl ?_
        refine WL_skip rfl rfl rfl ?_
        refine WL_r (Rd_pickF rfl rfl) rfl ?_
        refine WL_r (Rd_pickF rfl rfl) rfl ?_
        refine WL_end hK30 ?_
        refine WC_condF rfl ?_
        have hno : ¬ ((K2 ((2 * (mm + 1) : Nat) : Int)).isSome = false ∨ (K2 ((2 * (mm + 1) + 1 : Nat) : Int)).isSome = false ∨ ((Kn ((mm + 1 : Nat) : Int)).isSome = true ∧ (Kn ((2 * (mm + 1) : Nat) : Int)).isSome = true ∧ (Kn ((2 * (mm + 1) + 1 : Nat) : Int)).isSome = true)) := by rintro (z | z | ⟨z1, z2, z3⟩); (rw [z] at q1; cases q1); (rw [z] at q2; cases q2); first | (rw [z1] at q3; cases q3; done) | (rw [z2] at q4; cases q4; done) | (rw [z3] at hc4; cases hc4; done)
        refine WC_skip ?_
        refine Ps_next hK29 ?_
        refine WC_seq fun K61 hK61 => ?_
        refine WC_drawA mix (fun i => ([2, 2, 2, 2, 2, 2, 2, 2, 2, 2, 2, 2, 2, 2, 1, 1, 0] : List Nat).getD i 0) ?_
        refine WJ_tp 0 rfl (Rd_move rfl) rfl (hp _ _) ?_
        refine WJ_tp 1 rfl (Rd_nilCheck rfl) rfl (hp _ _) ?_
        refine WJ_tp 2 rfl (Rd_fieldAddr rfl fo136_3) rfl (hp _ _) ?_
        refine WJ_tk 3 (Rd_load rfl tk76) hp ?_ rfl (by kernel_rfl) rfl rfl rfl
        refine WJ_tp 4 rfl (Rd_move rfl) rfl (hp _ _) ?_
        refine WJ_tp 5 rfl (Rd_index ((2 * (mm + 1))) rfl rfl ud76 sz42 (hi := by omega)) rfl (hp _ _) ?_
        refine WJ_tk 6 (Rd_aU (k := .u8) (l := ((K2 ((((2 * (mm + 1)) : Nat)) : Int)).getD zD).1) (Rd_loadg_arr (f := fD) (i := (2 * (mm + 1))) rfl tk42 (hl := dgL_at (K := K2) (w := w) (by omega))) rfl) hp ?_ rfl (by kernel_rfl) rfl rfl rfl
        refine WJ_tp 7 rfl (Rd_move rfl) rfl (hp _ _) ?_
        refine WJ_tp 8 rfl (Rd_nilCheck rfl) rfl (hp _ _) ?_
        refine WJ_tp 9 rfl (Rd_fieldAddr rfl fo136_3) rfl (hp _ _) ?_
        refine WJ_tk 10 (Rd_load rfl tk76) hp ?_ rfl (by kernel_rfl) rfl rfl rfl
        refine WJ_tp 11 rfl (Rd_move rfl) rfl (hp _ _) ?_
        refine WJ_tp 12 rfl (Rd_index ((2 * (mm + 1) + 1)) rfl rfl ud76 sz42 (hi := by omega)) rfl (hp _ _) ?_
        refine WJ_tk 13 (Rd_aU (k := .u8) (l := ((K2 ((((2 * (mm + 1) + 1) : Nat)) : Int)).getD zD).1) (Rd_loadg_arr (f := fD) (i := (2 * (mm + 1) + 1)) rfl tk42 (hl := dgL_at (K := K2) (w := w) (by omega))) rfl) hp ?_ rfl (by kernel_rfl) rfl rfl rfl
        refine WJ_all (rs := [14, 15]) (by kernel_rfl) rfl ?_
        refine WI_cons ?_ (WI_cons ?_ (by intro _ h; cases h))
        ·skip
         refine WI_ac rfl (Ac_call cf77 rfl (hs := nodeR_ct (x := ((K2 (((2 * (mm + 1) : Nat)) : Int)).getD zD).1) (y := ((K2 (((2 * (mm + 1) + 1 : Nat)) : Int)).getD zD).1) (hx := Dg_len _) (hy := Dg_len _))) rfl rfl rfl rfl ?_
         rintro _ _ ⟨⟨⟩, rfl, hA⟩
         simp only [List.cons_append, List.nil_append] at hA
         replace hA := hA.symm
         subst hA
         rw [show tagD 6#8 [((K2 (((2 * (mm + 1) : Nat)) : Int)).getD zD).1, ((K2 (((2 * (mm + 1) + 1 : Nat)) : Int)).getD zD).1] = (nodeD ((K2 (((2 * (mm + 1) : Nat)) : Int)).getD zD) ((K2 (((2 * (mm + 1) + 1 : Nat)) : Int)).getD zD)).1 from rfl]
         have hdn := Dg_len (nodeD ((K2 (((2 * (mm + 1) : Nat)) : Int)).getD zD) ((K2 (((2 * (mm + 1) + 1 : Nat)) : Int)).getD zD))
         refine ⟨(fun _ => subA), ?_⟩
         refine WJ_all (rs := [15]) (by kernel_rfl) rfl ?_
         refine WI_one ?_
         refine WI_ac rfl (Ac_allocW (k := .u8) (w := 8) (m := 32) zr42) rfl rfl rfl rfl ?_
         rintro _ _ ⟨b11, rfl, rfl⟩
         refine ⟨(fun _ => subA), ?_⟩
         refine WJ_all (rs := [16]) (by kernel_rfl) rfl ?_
         refine WI_one ?_
         refine WI_ac0 rfl (Ac_storeW rfl rfl sz42) rfl rfl rfl ?_
         rintro _ _ rfl
         refine ⟨(fun h => by cases h), ?_⟩
         refine WJ_done (by kernel_rfl) ?_
         refine Ps_next hK61 ?_
         refine WC_seq fun K62 hK62 => ?_
         refine WC_seq fun K63 hK63 => ?_
         refine WC_drawA mix (fun i => ([2, 2, 2, 2, 2, 2, 2, 2, 2, 2, 2, 2, 2, 2, 2, 2, 2, 2] : List Nat).getD i 0) ?_
         refine WJ_tp 0 rfl (Rd_move rfl) rfl (hp _ _) ?_
         refine WJ_tp 1 rfl (Rd_nilCheck rfl) rfl (hp _ _) ?_
         refine WJ_tp 2 rfl (Rd_fieldAddr rfl fo136_2) rfl (hp _ _) ?_
         refine WJ_tk 3 (Rd_load rfl tk46) hp ?_ rfl (by kernel_rfl) rfl rfl rfl
         refine WJ_tp 4 rfl (Rd_move rfl) rfl (hp _ _) ?_
         refine WJ_tp 5 rfl (Rd_index ((mm + 1)) rfl rfl ud46 sz4 (hi := by omega)) rfl (hp _ _) ?_
         refine WJ_tk 6 (Rd_load_arr (f := eBool) (i := (mm + 1)) (j := 0) rfl tk4 (hl := isL_at (K := K2) (w := w) (by omega))) hp ?_ rfl (by kernel_rfl) rfl rfl rfl
         refine WJ_tp 7 rfl (Rd_move rfl) rfl (hp _ _) ?_
         refine WJ_bool 156 rfl (fun hg64 => ?_) (fun hg64 => ?_)
         ·try simp only [dz, ne_eq] at hg64
          have q6 := hg64
          refine WJ_tp 8 rfl (Rd_move rfl) rfl (hp _ _) ?_
          refine WJ_tp 9 rfl (Rd_nilCheck rfl) rfl (hp _ _) ?_
          refine WJ_tp 10 rfl (Rd_fieldAddr rfl fo136_3) rfl (hp _ _) ?_
          refine WJ_tk 11 (Rd_load rfl tk76) hp ?_ rfl (by kernel_rfl) rfl rfl rfl
          refine WJ_tp 12 rfl (Rd_move rfl) rfl (hp _ _) ?_
          refine WJ_tp 13 rfl (Rd_index ((mm + 1)) rfl rfl ud76 sz42 (hi := by omega)) rfl (hp _ _) ?_
          refine WJ_tk 14 (Rd_aU (k := .u8) (l := ((K2 ((((mm + 1) : Nat)) : Int)).getD zD).1) (Rd_loadg_arr (f := fD) (i := (mm + 1)) rfl tk42 (hl := dgL_at (K := K2) (w := w) (by omega))) rfl) hp ?_ rfl (by kernel_rfl) rfl rfl rfl
          refine WJ_tk 15 (Rd_loadW (l := (nodeD ((K2 (((2 * (mm + 1) : Nat)) : Int)).getD zD) ((K2 (((2 * (mm + 1) + 1 : Nat)) : Int)).getD zD)).1) rfl tk42) hp ?_ rfl (by kernel_rfl) rfl rfl rfl
          refine WJ_tp 16 rfl (Rd_neW rfl rfl ais42) rfl (hp _ _) ?_
          refine WJ_tp 17 rfl (Rd_pickT rfl rfl) rfl (hp _ _) ?_
          refine WJ_done (by kernel_rfl) ?_
          refine Ps_next hK63 ?_
          refine WC_cond rfl (fun hc5 => ?_) (fun hc5 => ?_)
          ·try simp only [dz, ne_eq] at hc5
           refine WC_sr fun K65 hK65 => ?_
           refine WL_r (Rd_assign rfl) rfl ?_
           refine WL_end hK65 ?_
           refine WC_ret ?_
           have hS' : putD w Kn l = (123, _) := putD_b hpu.symm (by rw [← hcl, clD2_bad hno q6 (fun e => hc5 (by rw [e]))])
           rw [hS'] at hret
           dsimp only at hret
           exact hret.gf (gi, ci, gd, cd) (Rs1 rfl rfl)
          ·try simp only [dz, ne_eq] at hc5
           refine WC_skip ?_
           refine Ps_next hK62 ?_
           refine WC_sr fun K66 hK66 => ?_
           refine WL_r (Rd_move rfl) rfl ?_
           refine WL_r (Rd_nilCheck rfl) rfl ?_
           refine WL_r (Rd_fieldAddr rfl fo136_2) rfl ?_
           refine WL_r (Rd_load rfl tk46) rfl ?_
           refine WL_r (Rd_move rfl) rfl ?_
           refine WL_r (Rd_index ((mm + 1)) rfl rfl ud46 sz4 (hi := by omega)) rfl ?_
           refine WL_ac0 (Ac_store_arr true rfl rfl sz4 (j := 0) (i := (mm + 1)) (hl := isL_at (K := K2) (w := w) (by omega))) rfl rfl ?_
           rintro _ _ rfl
           refine WL_end hK66 ?_
           refine WC_drawA mix (fun i => ([2, 2, 2, 2, 2, 2, 2, 0] : List Nat).getD i 0) ?_
           refine WJ_tp 0 rfl (Rd_move rfl) rfl (hp _ _) ?_
           refine WJ_tp 1 rfl (Rd_nilCheck rfl) rfl (hp _ _) ?_
           refine WJ_tp 2 rfl (Rd_fieldAddr rfl fo136_3) rfl (hp _ _) ?_
           refine WJ_tk 3 (Rd_load rfl tk76) hp ?_ rfl (by kernel_rfl) rfl rfl rfl
           refine WJ_tp 4 rfl (Rd_move rfl) rfl (hp _ _) ?_
           refine WJ_tk 5 (Rd_loadW (l := (nodeD ((K2 (((2 * (mm + 1) : Nat)) : Int)).getD zD) ((K2 (((2 * (mm + 1) + 1 : Nat)) : Int)).getD zD)).1) rfl tk42) hp ?_ rfl (by kernel_rfl) rfl rfl rfl
           refine WJ_tp 6 rfl (Rd_index ((mm + 1)) rfl rfl ud76 sz42 (hi := by omega)) rfl (hp _ _) ?_
           refine WJ_all (rs := [7]) (by kernel_rfl) rfl ?_
           refine WI_one ?_
           refine WI_ac0 rfl (Ac_storeD ((nodeD ((K2 (((2 * (mm + 1) : Nat)) : Int)).getD zD) ((K2 (((2 * (mm + 1) + 1 : Nat)) : Int)).getD zD))) rfl rfl sz42 (i := (mm + 1)) (hi := by rw [dgL_len]; omega)) rfl rfl rfl ?_
           rintro _ _ rfl
           refine ⟨(fun h => by cases h), ?_⟩
           rw [isL_set (K := K2) (w := w) (i := (mm + 1)) (d := (nodeD ((K2 (((2 * (mm + 1) : Nat)) : Int)).getD zD) ((K2 (((2 * (mm + 1) + 1 : Nat)) : Int)).getD zD))) (by omega), dgL_set (K := K2) (w := w) (i := (mm + 1)) (d := (nodeD ((K2 (((2 * (mm + 1) : Nat)) : Int)).getD zD) ((K2 (((2 * (mm + 1) + 1 : Nat)) : Int)).getD zD))) (by omega)]
           refine WJ_done (by kernel_rfl) ?_
           refine Ps_next hK26 ?_
           refine WC_region ?_
           refine WL_r (Rd_move rfl) rfl ?_
           refine WL_r (Rd_subN (j := 1) rfl rfl) rfl ?_
           refine WL_r (Rd_assign rfl) rfl ?_
           refine WL_nil ?_
           refine Ps_wkB (hK23 ⟨mm, kset K2 ((mm + 1 : Nat) : Int) (nodeD ((K2 (((2 * (mm + 1) : Nat)) : Int)).getD zD) ((K2 (((2 * (mm + 1) + 1 : Nat)) : Int)).getD zD))⟩ (⟨by (try dsimp only); omega, by (try dsimp only); rw [← hcl, clD2_ok hno (by first | exact .inl q6 | exact .inr (Dg_ext (by simpa using hc5)))]⟩) (by (try dsimp only); omega))
         ·try simp only [dz, ne_eq] at hg64
          have q6 := hg64
          refine WJ_skip 8 rfl (by kernel_rfl) rfl rfl rfl (hp _ _) ?_
          refine WJ_skip 9 rfl (by kernel_rfl) rfl rfl rfl (hp _ _) ?_
          refine WJ_skip 10 rfl (by kernel_rfl) rfl rfl rfl (hp _ _) ?_
          refine WJ_skip 11 rfl (by kernel_rfl) rfl rfl rfl (hp _ _) ?_
          refine WJ_skip 12 rfl (by kernel_rfl) rfl rfl rfl (hp _ _) ?_
          refine WJ_skip 13 rfl (by kernel_rfl) rfl rfl rfl (hp _ _) ?_
          refine WJ_skip 14 rfl (by kernel_rfl) rfl rfl rfl (hp _ _) ?_
          refine WJ_skip 15 rfl (by kernel_rfl) rfl rfl rfl (hp _ _) ?_
          refine WJ_skip 16 rfl (by kernel_rfl) rfl rfl rfl (hp _ _) ?_
          refine WJ_tp 17 rfl (Rd_pickF rfl rfl) rfl (hp _ _) ?_
          refine WJ_done (by kernel_rfl) ?_
          refine Ps_next hK63 ?_
          refine WC_condF rfl ?_
          refine WC_skip ?_
          refine Ps_next hK62 ?_
          refine WC_sr fun K67 hK67 => ?_
          refine WL_r (Rd_move rfl) rfl ?_
          refine WL_r (Rd_nilCheck rfl) rfl ?_
          refine WL_r (Rd_fieldAddr rfl fo136_2) rfl ?_
          refine WL_r (Rd_load rfl tk46) rfl ?_
          refine WL_r (Rd_move rfl) rfl ?_
          refine WL_r (Rd_index ((mm + 1)) rfl rfl ud46 sz4 (hi := by omega)) rfl ?_
          refine WL_ac0 (Ac_store_arr true rfl rfl sz4 (j := 0) (i := (mm + 1)) (hl := isL_at (K := K2) (w := w) (by omega))) rfl rfl ?_
          rintro _ _ rfl
          refine WL_end hK67 ?_
          refine WC_drawA mix (fun i => ([2, 2, 2, 2, 2, 2, 2, 0] : List Nat).getD i 0) ?_
          refine WJ_tp 0 rfl (Rd_move rfl) rfl (hp _ _) ?_
          refine WJ_tp 1 rfl (Rd_nilCheck rfl) rfl (hp _ _) ?_
          refine WJ_tp 2 rfl (Rd_fieldAddr rfl fo136_3) rfl (hp _ _) ?_
          refine WJ_tk 3 (Rd_load rfl tk76) hp ?_ rfl (by kernel_rfl) rfl rfl rfl
          refine WJ_tp 4 rfl (Rd_move rfl) rfl (hp _ _) ?_
          refine WJ_tk 5 (Rd_loadW (l := (nodeD ((K2 (((2 * (mm + 1) : Nat)) : Int)).getD zD) ((K2 (((2 * (mm + 1) + 1 : Nat)) : Int)).getD zD)).1) rfl tk42) hp ?_ rfl (by kernel_rfl) rfl rfl rfl
          refine WJ_tp 6 rfl (Rd_index ((mm + 1)) rfl rfl ud76 sz42 (hi := by omega)) rfl (hp _ _) ?_
          refine WJ_all (rs := [7]) (by kernel_rfl) rfl ?_
          refine WI_one ?_
          refine WI_ac0 rfl (Ac_storeD ((nodeD ((K2 (((2 * (mm + 1) : Nat)) : Int)).getD zD) ((K2 (((2 * (mm + 1) + 1 : Nat)) : Int)).getD zD))) rfl rfl sz42 (i := (mm + 1)) (hi := by rw [dgL_len]; omega)) rfl rfl rfl ?_
          rintro _ _ rfl
          refine ⟨(fun h => by cases h), ?_⟩
          rw [isL_set (K := K2) (w := w) (i := (mm + 1)) (d := (nodeD ((K2 (((2 * (mm + 1) : Nat)) : Int)).getD zD) ((K2 (((2 * (mm + 1) + 1 : Nat)) : Int)).getD zD))) (by omega), dgL_set (K := K2) (w := w) (i := (mm + 1)) (d := (nodeD ((K2 (((2 * (mm + 1) : Nat)) : Int)).getD zD) ((K2 (((2 * (mm + 1) + 1 : Nat)) : Int)).getD zD))) (by omega)]
          refine WJ_done (by kernel_rfl) ?_
          refine Ps_next hK26 ?_
          refine WC_region ?_
          refine WL_r (Rd_move rfl) rfl ?_
          refine WL_r (Rd_subN (j := 1) rfl rfl) rfl ?_
          refine WL_r (Rd_assign rfl) rfl ?_
          refine WL_nil ?_
          refine Ps_wkB (hK23 ⟨mm, kset K2 ((mm + 1 : Nat) : Int) (nodeD ((K2 (((2 * (mm + 1) : Nat)) : Int)).getD zD) ((K2 (((2 * (mm + 1) + 1 : Nat)) : Int)).getD zD))⟩ (⟨by (try dsimp only); omega, by (try dsimp only); rw [← hcl, clD2_ok hno (by first | exact .inl q6 | exact .inr (Dg_ext (by simpa using hc5)))]⟩) (by (try dsimp only); omega))
        ·skip
         refine WI_ac rfl (Ac_allocW (k := .u8) (w := 8) (m := 32) zr42) rfl rfl rfl rfl ?_
         rintro _ _ ⟨b11, rfl, rfl⟩
         refine ⟨(fun _ => subA), ?_⟩
         refine WJ_all (rs := [14]) (by kernel_rfl) rfl ?_
         refine WI_one ?_
         refine WI_ac rfl (Ac_call cf77 rfl (hs := nodeR_ct (x := ((K2 (((2 * (mm + 1) : Nat)) : Int)).getD zD).1) (y := ((K2 (((2 * (mm + 1) + 1 : Nat)) : Int)).getD zD).1) (hx := Dg_len _) (hy := Dg_len _))) rfl rfl rfl rfl ?_
         rintro _ _ ⟨⟨⟩, rfl, hA⟩
         simp only [List.cons_append, List.nil_append] at hA
         replace hA := hA.symm
         subst hA
         rw [show tagD 6#8 [((K2 (((2 * (mm + 1) : Nat)) : Int)).getD zD).1, ((K2 (((2 * (mm + 1) + 1 : Nat)) : Int)).getD zD).1] = (nodeD ((K2 (((2 * (mm + 1) : Nat)) : Int)).getD zD) ((K2 (((2 * (mm + 1) + 1 : Nat)) : Int)).getD zD)).1 from rfl]
         have hdn := Dg_len (nodeD ((K2 (((2 * (mm + 1) : Nat)) : Int)).getD zD) ((K2 (((2 * (mm + 1) + 1 : Nat)) : Int)).getD zD))
         refine ⟨(fun _ => subA), ?_⟩
         refine WJ_all (rs := [16]) (by kernel_rfl) rfl ?_
         refine WI_one ?_
         refine WI_ac0 rfl (Ac_storeW rfl rfl sz42) rfl rfl rfl ?_
         rintro _ _ rfl
         refine ⟨(fun h => by cases h), ?_⟩
         refine WJ_done (by kernel_rfl) ?_
         refine Ps_next hK61 ?_
         refine WC_seq fun K68 hK68 => ?_
         refine WC_seq fun K69 hK69 => ?_
         refine WC_drawA mix (fun i => ([2, 2, 2, 2, 2, 2, 2, 2, 2, 2, 2, 2, 2, 2, 2, 2, 2, 2] : List Nat).getD i 0) ?_
         refine WJ_tp 0 rfl (Rd_move rfl) rfl (hp _ _) ?_
         refine WJ_tp 1 rfl (Rd_nilCheck rfl) rfl (hp _ _) ?_
         refine WJ_tp 2 rfl (Rd_fieldAddr rfl fo136_2) rfl (hp _ _) ?_
         refine WJ_tk 3 (Rd_load rfl tk46) hp ?_ rfl (by kernel_rfl) rfl rfl rfl
         refine WJ_tp 4 rfl (Rd_move rfl) rfl (hp _ _) ?_
         refine WJ_tp 5 rfl (Rd_index ((mm + 1)) rfl rfl ud46 sz4 (hi := by omega)) rfl (hp _ _) ?_
         refine WJ_tk 6 (Rd_load_arr (f := eBool) (i := (mm + 1)) (j := 0) rfl tk4 (hl := isL_at (K := K2) (w := w) (by omega))) hp ?_ rfl (by kernel_rfl) rfl rfl rfl
         refine WJ_tp 7 rfl (Rd_move rfl) rfl (hp _ _) ?_
         refine WJ_bool 156 rfl (fun hg70 => ?_) (fun hg70 => ?_)
         ·try simp only [dz, ne_eq] at hg70
          have q6 := hg70
          refine WJ_tp 8 rfl (Rd_move rfl) rfl (hp _ _) ?_
          refine WJ_tp 9 rfl (Rd_nilCheck rfl) rfl (hp _ _) ?_
          refine WJ_tp 10 rfl (Rd_fieldAddr rfl fo136_3) rfl (hp _ _) ?_
          refine WJ_tk 11 (Rd_load rfl tk76) hp ?_ rfl (by kernel_rfl) rfl rfl rfl
          refine WJ_tp 12 rfl (Rd_move rfl) rfl (hp _ _) ?_
          refine WJ_tp 13 rfl (Rd_index ((mm + 1)) rfl rfl ud76 sz42 (hi := by omega)) rfl (hp _ _) ?_
          refine WJ_tk 14 (Rd_aU (k := .u8) (l := ((K2 ((((mm + 1) : Nat)) : Int)).getD zD).1) (Rd_loadg_arr (f := fD) (i := (mm + 1)) rfl tk42 (hl := dgL_at (K := K2) (w := w) (by omega))) rfl) hp ?_ rfl (by kernel_rfl) rfl rfl rfl
          refine WJ_tk 15 (Rd_loadW (l := (nodeD ((K2 (((2 * (mm + 1) : Nat)) : Int)).getD zD) ((K2 (((2 * (mm + 1) + 1 : Nat)) : Int)).getD zD)).1) rfl tk42) hp ?_ rfl (by kernel_rfl) rfl rfl rfl
          refine WJ_tp 16 rfl (Rd_neW rfl rfl ais42) rfl (hp _ _) ?_
          refine WJ_tp 17 rfl (Rd_pickT rfl rfl) rfl (hp _ _) ?_
          refine WJ_done (by kernel_rfl) ?_
          refine Ps_next hK69 ?_
          refine WC_cond rfl (fun hc5 => ?_) (fun hc5 => ?_)
          ·try simp only [dz, ne_eq] at hc5
           refine WC_sr fun K71 hK71 => ?_
           refine WL_r (Rd_assign rfl) rfl ?_
           refine WL_end hK71 ?_
           refine WC_ret ?_
           have hS' : putD w Kn l = (123, _) := putD_b hpu.symm (by rw [← hcl, clD2_bad hno q6 (fun e => hc5 (by rw [e]))])
           rw [hS'] at hret
           dsimp only at hret
           exact hret.gf (gi, ci, gd, cd) (Rs1 rfl rfl)
          ·try simp only [dz, ne_eq] at hc5
           refine WC_skip ?_
           refine Ps_next hK68 ?_
           refine WC_sr fun K72 hK72 => ?_
           refine WL_r (Rd_move rfl) rfl ?_
           refine WL_r (Rd_nilCheck rfl) rfl ?_
           refine WL_r (Rd_fieldAddr rfl fo136_2) rfl ?_
           refine WL_r (Rd_load rfl tk46) rfl ?_
           refine WL_r (Rd_move rfl) rfl ?_
           refine WL_r (Rd_index ((mm + 1)) rfl rfl ud46 sz4 (hi := by omega)) rfl ?_
           refine WL_ac0 (Ac_store_arr true rfl rfl sz4 (j := 0) (i := (mm + 1)) (hl := isL_at (K := K2) (w := w) (by omega))) rfl rfl ?_
           rintro _ _ rfl
           refine WL_end hK72 ?_
           refine WC_drawA mix (fun i => ([2, 2, 2, 2, 2, 2, 2, 0] : List Nat).getD i 0) ?_
           refine WJ_tp 0 rfl (Rd_move rfl) rfl (hp _ _) ?_
           refine WJ_tp 1 rfl (Rd_nilCheck rfl) rfl (hp _ _) ?_
           refine WJ_tp 2 rfl (Rd_fieldAddr rfl fo136_3) rfl (hp _ _) ?_
           refine WJ_tk 3 (Rd_load rfl tk76) hp ?_ rfl (by kernel_rfl) rfl rfl rfl
           refine WJ_tp 4 rfl (Rd_move rfl) rfl (hp _ _) ?_
           refine WJ_tk 5 (Rd_loadW (l := (nodeD ((K2 (((2 * (mm + 1) : Nat)) : Int)).getD zD) ((K2 (((2 * (mm + 1) + 1 : Nat)) : Int)).getD zD)).1) rfl tk42) hp ?_ rfl (by kernel_rfl) rfl rfl rfl
           refine WJ_tp 6 rfl (Rd_index ((mm + 1)) rfl rfl ud76 sz42 (hi := by omega)) rfl (hp _ _) ?_
           refine WJ_all (rs := [7]) (by kernel_rfl) rfl ?_
           refine WI_one ?_
           refine WI_ac0 rfl (Ac_storeD ((nodeD ((K2 (((2 * (mm + 1) : Nat)) : Int)).getD zD) ((K2 (((2 * (mm + 1) + 1 : Nat)) : Int)).getD zD))) rfl rfl sz42 (i := (mm + 1)) (hi := by rw [dgL_len]; omega)) rfl rfl rfl ?_
           rintro _ _ rfl
           refine ⟨(fun h => by cases h), ?_⟩
           rw [isL_set (K := K2) (w := w) (i := (mm + 1)) (d := (nodeD ((K2 (((2 * (mm + 1) : Nat)) : Int)).getD zD) ((K2 (((2 * (mm + 1) + 1 : Nat)) : Int)).getD zD))) (by omega), dgL_set (K := K2) (w := w) (i := (mm + 1)) (d := (nodeD ((K2 (((2 * (mm + 1) : Nat)) : Int)).getD zD) ((K2 (((2 * (mm + 1) + 1 : Nat)) : Int)).getD zD))) (by omega)]
           refine WJ_done (by kernel_rfl) ?_
           refine Ps_next hK26 ?_
           refine WC_region ?_
           refine WL_r (Rd_move rfl) rfl ?_
           refine WL_r (Rd_subN (j := 1) rfl rfl) rfl ?_
           refine WL_r (Rd_assign rfl) rfl ?_
           refine WL_nil ?_
           refine Ps_wkB (hK23 ⟨mm, kset K2 ((mm + 1 : Nat) : Int) (nodeD ((K2 (((2 * (mm + 1) : Nat)) : Int)).getD zD) ((K2 (((2 * (mm + 1) + 1 : Nat)) : Int)).getD zD))⟩ (⟨by (try dsimp only); omega, by (try dsimp only); rw [← hcl, clD2_ok hno (by first | exact .inl q6 | exact .inr (Dg_ext (by simpa using hc5)))]⟩) (by (try dsimp only); omega))
         ·try simp only [dz, ne_eq] at hg70
          have q6 := hg70
          refine WJ_skip 8 rfl (by kernel_rfl) rfl rfl rfl (hp _ _) ?_
          refine WJ_skip 9 rfl (by kernel_rfl) rfl rfl rfl (hp _ _) ?_
          refine WJ_skip 10 rfl (by kernel_rfl) rfl rfl rfl (hp _ _) ?_
          refine WJ_skip 11 rfl (by kernel_rfl) rfl rfl rfl (hp _ _) ?_
          refine WJ_skip 12 rfl (by kernel_rfl) rfl rfl rfl (hp _ _) ?_
          refine WJ_skip 13 rfl (by kernel_rfl) rfl rfl rfl (hp _ _) ?_
          refine WJ_skip 14 rfl (by kernel_rfl) rfl rfl rfl (hp _ _) ?_
          refine WJ_skip 15 rfl (by kernel_rfl) rfl rfl rfl (hp _ _) ?_
          refine WJ_skip 16 rfl (by kernel_rfl) rfl rfl rfl (hp _ _) ?_
          refine WJ_tp 17 rfl (Rd_pickF rfl rfl) rfl (hp _ _) ?_
          refine WJ_done (by kernel_rfl) ?_
          refine Ps_next hK69 ?_
          refine WC_condF rfl ?_
          refine WC_skip ?_
          refine Ps_next hK68 ?_
          refine WC_sr fun K73 hK73 => ?_
          refine WL_r (Rd_move rfl) rfl ?_
          refine WL_r (Rd_nilCheck rfl) rfl ?_
          refine WL_r (Rd_fieldAddr rfl fo136_2) rfl ?_
          refine WL_r (Rd_load rfl tk46) rfl ?_
          refine WL_r (Rd_move rfl) rfl ?_
          refine WL_r (Rd_index ((mm + 1)) rfl rfl ud46 sz4 (hi := by omega)) rfl ?_
          refine WL_ac0 (Ac_store_arr true rfl rfl sz4 (j := 0) (i := (mm + 1)) (hl := isL_at (K := K2) (w := w) (by omega))) rfl rfl ?_
          rintro _ _ rfl
          refine WL_end hK73 ?_
          refine WC_drawA mix (fun i => ([2, 2, 2, 2, 2, 2, 2, 0] : List Nat).getD i 0) ?_
          refine WJ_tp 0 rfl (Rd_move rfl) rfl (hp _ _) ?_
          refine WJ_tp 1 rfl (Rd_nilCheck rfl) rfl (hp _ _) ?_
          refine WJ_tp 2 rfl (Rd_fieldAddr rfl fo136_3) rfl (hp _ _) ?_
          refine WJ_tk 3 (Rd_load rfl tk76) hp ?_ rfl (by kernel_rfl) rfl rfl rfl
          refine WJ_tp 4 rfl (Rd_move rfl) rfl (hp _ _) ?_
          refine WJ_tk 5 (Rd_loadW (l := (nodeD ((K2 (((2 * (mm + 1) : Nat)) : Int)).getD zD) ((K2 (((2 * (mm + 1) + 1 : Nat)) : Int)).getD zD)).1) rfl tk42) hp ?_ rfl (by kernel_rfl) rfl rfl rfl
          refine WJ_tp 6 rfl (Rd_index ((mm + 1)) rfl rfl ud76 sz42 (hi := by omega)) rfl (hp _ _) ?_
          refine WJ_all (rs := [7]) (by kernel_rfl) rfl ?_
          refine WI_one ?_
          refine WI_ac0 rfl (Ac_storeD ((nodeD ((K2 (((2 * (mm + 1) : Nat)) : Int)).getD zD) ((K2 (((2 * (mm + 1) + 1 : Nat)) : Int)).getD zD))) rfl rfl sz42 (i := (mm + 1)) (hi := by rw [dgL_len]; omega)) rfl rfl rfl ?_
          rintro _ _ rfl
          refine ⟨(fun h => by cases h), ?_⟩
          rw [isL_set (K := K2) (w := w) (i := (mm + 1)) (d := (nodeD ((K2 (((2 * (mm + 1) : Nat)) : Int)).getD zD) ((K2 (((2 * (mm + 1) + 1 : Nat)) : Int)).getD zD))) (by omega), dgL_set (K := K2) (w := w) (i := (mm + 1)) (d := (nodeD ((K2 (((2 * (mm + 1) : Nat)) : Int)).getD zD) ((K2 (((2 * (mm + 1) + 1 : Nat)) : Int)).getD zD))) (by omega)]
          refine WJ_done (by kernel_rfl) ?_
          refine Ps_next hK26 ?_
          refine WC_region ?_
          refine WL_r (Rd_move rfl) rfl ?_
          refine WL_r (Rd_subN (j := 1) rfl rfl) rfl ?_
          refine WL_r (Rd_assign rfl) rfl ?_
          refine WL_nil ?_
          refine Ps_wkB (hK23 ⟨mm, kset K2 ((mm + 1 : Nat) : Int) (nodeD ((K2 (((2 * (mm + 1) : Nat)) : Int)).getD zD) ((K2 (((2 * (mm + 1) + 1 : Nat)) : Int)).getD zD))⟩ (⟨by (try dsimp only); omega, by (try dsimp only); rw [← hcl, clD2_ok hno (by first | exact .inl q6 | exact .inr (Dg_ext (by simpa using hc5)))]⟩) (by (try dsimp only); omega))
    ·try simp only [dz, ne_eq] at hc3
     obtain rfl : mq = 0 := by omega
     rw [show clD2 Kn 0 K2 = (true, K2) from rfl] at hcl
     refine WC_exit ?_
     refine Ps_next hK21 ?_
     refine WC_seq fun K74 hK74 => ?_
     refine WC_sr fun K75 hK75 => ?_
     refine WL_r (Rd_assign rfl) rfl ?_
     refine WL_end hK75 ?_
     refine WC_block ?_
     refine WC_loopK (σ := Nat) (fun j => [(12, .int .i64 ((j : Nat) : Int))]) (fun j => []) (fun j => 2 ≤ j ∧ ∀ i, 2 ≤ i → i < j → loD Kn K2 i = false) (fun j => 2 * w - j) (2) [0, 5, 228, 229, 230, 231, 232, 233, 234, 235, 236, 237, 238, 239, 240, 241] kpA (by (try dsimp only); repeat (first | with_reducible exact Gv.nil | (with_reducible apply Gv.cons; · (repeat (first | with_reducible exact Ext.here | with_reducible apply Ext.there))))) ?_ ?_ Sub.refl ?_
     ·exact ⟨Nat.le_refl _, fun i h1 h2 => by omega⟩
     ·(try dsimp only); exact (Wk.cons lkA Wk.nil)
     ·rintro j ⟨hj2, hlo⟩ K76 hK76
      simp only [List.cons_append, List.nil_append]
      refine WC_seq fun K77 hK77 => ?_
      refine WC_sr fun K78 hK78 => ?_
      refine WL_r (Rd_move rfl) rfl ?_
      refine WL_r (Rd_move rfl) rfl ?_
      refine WL_r (Rd_nilCheck rfl) rfl ?_
      refine WL_r (Rd_fieldAddr rfl fo136_1) rfl ?_
      refine WL_r (Rd_load rfl tk3) rfl ?_
      refine WL_r (Rd_mulN (i := 2) rfl rfl) rfl ?_
      refine WL_r (Rd_lssN rfl rfl) rfl ?_
      refine WL_end hK78 ?_
      refine WC_cond rfl (fun hc6 => ?_) (fun hc6 => ?_)
      ·try simp only [dz, ne_eq] at hc6
       have hxl := xor_lt (j := j) (w := w) (by omega)
       refine WC_skip ?_
       refine Ps_next hK77 ?_
       refine WC_seq fun K79 hK79 => ?_
       refine WC_block ?_
       refine WC_sr fun K80 hK80 => ?_
       refine WL_r (Rd_move rfl) rfl ?_
       refine WL_r (Rd_nilCheck rfl) rfl ?_
       refine WL_r (Rd_fieldAddr rfl fo136_2) rfl ?_
       refine WL_r (Rd_load rfl tk46) rfl ?_
       refine WL_r (Rd_move rfl) rfl ?_
       refine WL_r (Rd_index (j) rfl rfl ud46 sz4 (hi := by omega)) rfl ?_
       refine WL_r (Rd_load_arr (f := eBool) (i := j) (j := 0) rfl tk4 (hl := isL_at (K := K2) (w := w) (by omega))) rfl ?_
       refine WL_r (Rd_move rfl) rfl ?_
       refine WL_bool 196 rfl (fun hg81 => ?_) (fun hg81 => ?_)
       ·try simp only [dz, ne_eq] at hg81
        have q7 := hg81
        refine WL_r (Rd_move rfl) rfl ?_
        refine WL_r (Rd_nilCheck rfl) rfl ?_
        refine WL_r (Rd_fieldAddr rfl fo136_2) rfl ?_
        refine WL_r (Rd_load rfl tk46) rfl ?_
        refine WL_r (Rd_move rfl) rfl ?_
        refine WL_r (Rd_index (j) rfl rfl ud46 sz4 (hi := by omega)) rfl ?_
        refine WL_r (Rd_load_arr (f := eBool) (i := j) (j := 0) rfl tk4 (hl := isL_at (K := Kn) (w := w) (by omega))) rfl ?_
        refine WL_r (Rd_not rfl) rfl ?_
        refine WL_r (Rd_pickT rfl rfl) rfl ?_
        refine WL_r (Rd_move rfl) rfl ?_
        refine WL_bool 206 rfl (fun hg82 => ?_) (fun hg82 => ?_)
        ·try simp only [dz, ne_eq] at hg82
         have q8 : (Kn ((j : Nat) : Int)).isSome = false := by simpa using hg82
         refine WL_r (Rd_move rfl) rfl ?_
         refine WL_r (Rd_nilCheck rfl) rfl ?_
         refine WL_r (Rd_fieldAddr rfl fo136_2) rfl ?_
         refine WL_r (Rd_load rfl tk46) rfl ?_
         refine WL_r (Rd_move rfl) rfl ?_
         refine WL_r (Rd_xorN (i := j) (j := 1) (by omega) (by omega) rfl rfl) rfl ?_
         refine WL_r (Rd_index (j ^^^ 1) rfl rfl ud46 sz4 (hi := by omega)) rfl ?_
         refine WL_r (Rd_load_arr (f := eBool) (i := (j ^^^ 1)) (j := 0) rfl tk4 (hl := isL_at (K := K2) (w := w) (by omega))) rfl ?_
         refine WL_r (Rd_not rfl) rfl ?_
         refine WL_r (Rd_move rfl) rfl ?_
         refine WL_bool 216 rfl (fun hg83 => ?_) (fun hg83 => ?_)
         ·try simp only [dz, ne_eq] at hg83
          have q9 : (K2 ((j ^^^ 1 : Nat) : Int)).isSome = false := by simpa using hg83
          refine WL_skip rfl rfl rfl ?_
          refine WL_skip rfl rfl rfl ?_
          refine WL_skip rfl rfl rfl ?_
          refine WL_skip rfl rfl rfl ?_
          refine WL_skip rfl rfl rfl ?_
          refine WL_skip rfl rfl rfl ?_
          refine WL_skip rfl rfl rfl ?_
          refine WL_skip rfl rfl rfl ?_
          refine WL_skip rfl rfl rfl ?_
          refine WL_r (Rd_pickT rfl rfl) rfl ?_
          refine WL_r (Rd_pickT rfl rfl) rfl ?_
          refine WL_end hK80 ?_
          refine WC_condT rfl ?_
          refine WC_sr fun K84 hK84 => ?_
          refine WL_r (Rd_assign rfl) rfl ?_
          refine WL_end hK84 ?_
          refine WC_ret ?_
          have hS' : putD w Kn l = (122, _) := putD_c (i := j) hpu.symm hcl.symm hj2 (by omega) (by unfold loD; first | (rw [q7, q8, q9]; rfl) | (rw [q7, q8, show (K2 ((j / 2 : Nat) : Int)).isSome = false from by simpa using hc7, Bool.not_false, Bool.or_true]; rfl))
          rw [hS'] at hret
          dsimp only at hret
          exact hret.gf (gi, ci, gd, cd) (Rs1 rfl rfl)
         ·try simp only [dz, ne_eq] at hg83
          have q9 : (K2 ((j ^^^ 1 : Nat) : Int)).isSome = true := by simpa using hg83
          refine WL_r (Rd_move rfl) rfl ?_
          refine WL_r (Rd_nilCheck rfl) rfl ?_
          refine WL_r (Rd_fieldAddr rfl fo136_2) rfl ?_
          refine WL_r (Rd_load rfl tk46) rfl ?_
          refine WL_r (Rd_move rfl) rfl ?_
          refine WL_r (Rd_quoN (j := 2) rfl rfl) rfl ?_
          refine WL_r (Rd_index (j / 2) rfl rfl ud46 sz4 (hi := by omega)) rfl ?_
          refine WL_r (Rd_load_arr (f := eBool) (i := (j / 2)) (j := 0) rfl tk4 (hl := isL_at (K := K2) (w := w) (by omega))) rfl ?_
          refine WL_r (Rd_not rfl) rfl ?_
          refine WL_r (Rd_pickF rfl rfl) rfl ?_
          refine WL_r (Rd_pickT rfl rfl) rfl ?_
          refine WL_end hK80 ?_
          refine WC_cond rfl (fun hc7 => ?_) (fun hc7 => ?_)
          ·try simp only [dz, ne_eq] at hc7
           refine WC_sr fun K85 hK85 => ?_
           refine WL_r (Rd_assign rfl) rfl ?_
           refine WL_end hK85 ?_
           refine WC_ret ?_
           have hS' : putD w Kn l = (122, _) := putD_c (i := j) hpu.symm hcl.symm hj2 (by omega) (by unfold loD; first | (rw [q7, q8, q9]; rfl) | (rw [q7, q8, show (K2 ((j / 2 : Nat) : Int)).isSome = false from by simpa using hc7, Bool.not_false, Bool.or_true]; rfl))
           rw [hS'] at hret
           dsimp only at hret
           exact hret.gf (gi, ci, gd, cd) (Rs1 rfl rfl)
          ·try simp only [dz, ne_eq] at hc7
           refine WC_skip ?_
           refine Ps_next hK79 ?_
           refine WC_region ?_
           refine WL_r (Rd_move rfl) rfl ?_
           refine WL_r (Rd_addN (j := 1) rfl rfl) rfl ?_
           refine WL_r (Rd_assign rfl) rfl ?_
           refine WL_nil ?_
           refine Ps_wkB (hK76 (j + 1) (⟨by omega, fun i h1 h2 => by rcases Nat.lt_or_ge i j with z | z; exact hlo i h1 z; (obtain rfl : i = j := by omega); unfold loD; first | (rw [q7]; rfl) | (rw [q7, show (Kn ((i : Nat) : Int)).isSome = true from by simpa using q8]; rfl) | (rw [q7, q8, show (K2 ((i ^^^ 1 : Nat) : Int)).isSome = true from by simpa using q9, show (K2 ((i / 2 : Nat) : Int)).isSome = true from by simpa using hc7]; rfl) | skip⟩) (by omega))
        ·try simp only [dz, ne_eq] at hg82
         have q8 : (Kn ((j : Nat) : Int)).isSome = true := by simpa using hg82
         refine WL_skip rfl rfl rfl ?_
         refine WL_skip rfl rfl rfl ?_
         refine WL_skip rfl rfl rfl ?_
         refine WL_skip rfl rfl rfl ?_
         refine WL_skip rfl rfl rfl ?_
         refine WL_skip rfl rfl rfl ?_
         refine WL_skip rfl rfl rfl ?_
         refine WL_skip rfl rfl rfl ?_
         refine WL_skip rfl rfl rfl ?_
         refine WL_skip rfl rfl rfl ?_
         refine WL_skip rfl rfl rfl ?_
         refine WL_skip rfl rfl rfl ?_
         refine WL_skip rfl rfl rfl ?_
         refine WL_skip rfl rfl rfl ?_
         refine WL_skip rfl rfl rfl ?_
         refine WL_skip rfl rfl rfl ?_
         refine WL_skip rfl rfl rfl ?_
         refine WL_skip rfl rfl rfl ?_
         refine WL_skip rfl rfl rfl ?_
         refine WL_skip rfl rfl rfl ?_
         refine WL_r (Rd_pickF rfl rfl) rfl ?_
         refine WL_end hK80 ?_
         refine WC_condF rfl ?_
         refine WC_skip ?_
         refine Ps_next hK79 ?_
         refine WC_region ?_
         refine WL_r (Rd_move rfl) rfl ?_
         refine WL_r (Rd_addN (j := 1) rfl rfl) rfl ?_
         refine WL_r (Rd_assign rfl) rfl ?_
         refine WL_nil ?_
         refine Ps_wkB (hK76 (j + 1) (⟨by omega, fun i h1 h2 => by rcases Nat.lt_or_ge i j with z | z; exact hlo i h1 z; (obtain rfl : i = j := by omega); unfold loD; first | (rw [q7]; rfl) | (rw [q7, show (Kn ((i : Nat) : Int)).isSome = true from by simpa using q8]; rfl) | (rw [q7, q8, show (K2 ((i ^^^ 1 : Nat) : Int)).isSome = true from by simpa using q9, show (K2 ((i / 2 : Nat) : Int)).isSome = true from by simpa using hc7]; rfl) | skip⟩) (by omega))
       ·try simp only [dz, ne_eq] at hg81
        have q7 := hg81
        refine WL_skip rfl rfl rfl ?_
        refine WL_skip rfl rfl rfl ?_
        refine WL_skip rfl rfl rfl ?_
        refine WL_skip rfl rfl rfl ?_
        refine WL_skip rfl rfl rfl ?_
        refine WL_skip rfl rfl rfl ?_
        refine WL_skip rfl rfl rfl ?_
        refine WL_skip rfl rfl rfl ?_
        refine WL_r (Rd_pickF rfl rfl) rfl ?_
        refine WL_r (Rd_move rfl) rfl ?_
        refine WL_skip rfl rfl rfl ?_
        refine WL_skip rfl rfl rfl ?_
        refine WL_skip rfl rfl rfl ?_
        refine WL_skip rfl rfl rfl ?_
        refine WL_skip rfl rfl rfl ?_
        refine WL_skip rfl rfl rfl ?_
        refine WL_skip rfl rfl rfl ?_
        refine WL_skip rfl rfl rfl ?_
        refine WL_skip rfl rfl rfl ?_
        refine WL_skip rfl rfl rfl ?_
        refine WL_skip rfl rfl rfl ?_
        refine WL_skip rfl rfl rfl ?_
        refine WL_skip rfl rfl rfl ?_
        refine WL_skip rfl rfl rfl ?_
        refine WL_skip rfl rfl rfl ?_
        refine WL_skip rfl rfl rfl ?_
        refine WL_skip rfl rfl rfl ?_
        refine WL_skip rfl rfl rfl ?_
        refine WL_skip rfl rfl rfl ?_
        refine WL_skip rfl rfl rfl ?_
        refine WL_r (Rd_pickF rfl rfl) rfl ?_
        refine WL_end hK80 ?_
        refine WC_condF rfl ?_
        refine WC_skip ?_
        refine Ps_next hK79 ?_
        refine WC_region ?_
        refine WL_r (Rd_move rfl) rfl ?_
        refine WL_r (Rd_addN (j := 1) rfl rfl) rfl ?_
        refine WL_r (Rd_assign rfl) rfl ?_
        refine WL_nil ?_
        refine Ps_wkB (hK76 (j + 1) (⟨by omega, fun i h1 h2 => by rcases Nat.lt_or_ge i j with z | z; exact hlo i h1 z; (obtain rfl : i = j := by omega); unfold loD; first | (rw [q7]; rfl) | (rw [q7, show (Kn ((i : Nat) : Int)).isSome = true from by simpa using q8]; rfl) | (rw [q7, q8, show (K2 ((i ^^^ 1 : Nat) : Int)).isSome = true from by simpa using q9, show (K2 ((i / 2 : Nat) : Int)).isSome = true from by simpa using hc7]; rfl) | skip⟩) (by omega))
      ·try simp only [dz, ne_eq] at hc6
       refine WC_exit ?_
       refine Ps_next hK74 ?_
       refine WC_sr fun K86 hK86 => ?_
       refine WL_r (Rd_move rfl) rfl ?_
       refine WL_r (Rd_move rfl) rfl ?_
       refine WL_r (Rd_nilCheck rfl) rfl ?_
       refine WL_r (Rd_fieldAddr rfl fo136_2) rfl ?_
       refine WL_r (Rd_load rfl tk46) rfl ?_
       refine WL_r (Rd_nilCheck rfl) rfl ?_
       refine WL_r (Rd_fieldAddr rfl fo136_2) rfl ?_
       refine WL_ac0 (Ac_store1 rfl rfl sz46) rfl rfl ?_
       rintro _ _ rfl
       refine WL_end hK86 ?_
       refine WC_sr fun K87 hK87 => ?_
       refine WL_r (Rd_move rfl) rfl ?_
       refine WL_r (Rd_move rfl) rfl ?_
       refine WL_r (Rd_nilCheck rfl) rfl ?_
       refine WL_r (Rd_fieldAddr rfl fo136_3) rfl ?_
       refine WL_r (Rd_load rfl tk76) rfl ?_
       refine WL_r (Rd_nilCheck rfl) rfl ?_
       refine WL_r (Rd_fieldAddr rfl fo136_3) rfl ?_
       refine WL_ac0 (Ac_store1 rfl rfl sz76) rfl rfl ?_
       rintro _ _ rfl
       refine WL_end hK87 ?_
       refine WC_sr fun K88 hK88 => ?_
       refine WL_r (Rd_assign rfl) rfl ?_
       refine WL_end hK88 ?_
       refine WC_ret ?_
       have hS' : putD w Kn l = (0, _) := putD_d hpu.symm hcl.symm (fun i h1 h2 => hlo i h1 (by omega))
       rw [hS'] at hret
       dsimp only at hret
       exact hret.gf (gi2, ci2, gd2, cd2) (Rs1 rfl rfl)
end Go.Proofs.Ytgkpbeikcpecbaa
