/-
  Contracts of functions that the claim reaches, or the logic and the plain laws that they rest on, or the row over them. (Conditions: none beyond the statement.)
-/
import Derived.Test.YtgkpbeikcpecbaaPxPt
import Derived.Test.YtgkpbeikcpecbaaPfZ
set_option linter.all false
namespace Go.Proofs.Ytgkpbeikcpecbaa
open Go.RowKit Go.SL Go.ShM
set_option maxHeartbeats 1000000
set_option maxRecDepth 20000
set_option linter.all false
theorem cf92 : cfn Try.prog 92 = true := by kernel_rfl
theorem cf93 : cfn Try.prog 93 = true := by kernel_rfl
theorem pls154 : pls Try.prog 154 = some ([.pointer none, .pointer none, .pointer none, .pointer none, .pointer none, .pointer none, .pointer none, .pointer none, .slice none 0 0, .slice none 0 0, .slice none 0 0], [(0, 4), (4, 4), (8, 1), (9, 1), (10, 1)]) := by kernel_rfl
theorem sz156 : sz Try.prog 156 = some 5 := by kernel_rfl
theorem tk156 : tk Try.prog 156 = some (some 5) := by kernel_rfl
theorem ud149 : Try.prog.underlying 149 = some (.slice 156) := by kernel_rfl
theorem zr156 : zr Try.prog 156 = some [.int .u8 0, .int .u8 0, .int .u8 0, .int .i64 0, .slice none 0 0] := by kernel_rfl
theorem rk_new {n pb m qb gi ci gd cd : Nat} {root : Dg} (h1 : 1 ≤ n) (h2 : n ≤ 512) : RK (⟨n, newK n root, pb, m, qb, gi, ci, gd, cd⟩ : PR) := by
  have hwo := wd_ok h1 h2
  exact ⟨h1, h2, SupK_new hwo.1 hwo.2.2.2.2, by show (newK n root 1).isSome = true; rw [newK_root]; rfl⟩
theorem Plays_ct {n1 n2 : Int} {root oth : Dg} {X : Asn} {v : Value} {xs : List PS} {ao : Option Addr} {cap2 : Nat} (hS : Sv [X] v 5 ePS xs ao cap2 := by assumption) (hQ : ∀ x ∈ xs, OKnq [X] 1048576 x.q := by assumption) (hxn : xs.length ≤ 1048576 := by omega) : Ct Try.prog 24 [.int .i64 n1, .int .i64 n2, aU .u8 root.1, aU .u8 oth.1, v] [X] (fun _ : Unit => .bool true) (fun _ => [X]) := by
 refine Ct_body (n := 139) Try.func24 rfl rfl rfl fun F w0 Q hret hnorm hp => ?_
 change WC _ _ _ _ _ _ _ (_ :: F)
 have hrl0 := Dg_len root
 have hol := Dg_len oth
 have hz32 : (List.replicate 32 0#8).length = 32 := rfl
 refine WC_sr fun K1 hK1 => ?_
 refine WL_ac (Ac_boxW (k := .u8) rfl) rfl rfl rfl ?_
 rintro _ _ ⟨b7, rfl, rfl⟩
 refine WL_ac (Ac_boxW (k := .u8) rfl) rfl rfl rfl ?_
 rintro _ _ ⟨b8, rfl, rfl⟩
 refine WL_r (Rd_assign rfl) rfl ?_
 refine WL_end hK1 ?_
 refine WC_sr fun K2 hK2 => ?_
 refine WL_r (Rd_build pls154 rfl) rfl ?_
 refine WL_ac (Ac_box (xs := PLi []) rfl rfl) rfl rfl rfl ?_
 rintro _ _ ⟨b28, rfl, rfl⟩
 refine WL_r (Rd_assign rfl) rfl ?_
 refine WL_end hK2 ?_
 refine WC_seq fun K3 hK3 => ?_
 refine WC_sr fun K4 hK4 => ?_
 refine WL_r (Rd_assign rfl) rfl ?_
 refine WL_end hK4 ?_
 refine WC_block ?_
 refine WC_star0 FPR ?_
 refine WC_loopK (σ := Nat × (List PR)) (fun ⟨i, rs⟩ => [(12, .int .i64 ((i : Nat) : Int))]) (fun ⟨i, rs⟩ => [cl b28 154 (PLi rs), star FPR rs]) (fun ⟨i, rs⟩ => i ≤ 4 ∧ rs.length = i ∧ ∀ r ∈ rs, RK r) (fun ⟨i, rs⟩ => 4 - i) ⟨0, []⟩ [0, 1, 4, 7, 8, 11, 20, 21, 22, 23, 24, 25, 26, 77, 78, 79, 80, 81, 82, 83, 84, 85, 86, 87, 88, 89, 90, 91, 92, 93, 94, 95, 96, 97, 98, 99, 100, 101, 102, 103, 104, 105, 106, 107, 108, 109, 110, 111, 112, 113, 114, 115, 116, 117, 118, 119, 120, 121, 122, 123, 124, 125, 126, 127, 128, 129, 130, 131, 132, 133, 134, 135, 136, 137, 138] kpA (by (try dsimp only); repeat (first | with_reducible exact Gv.nil | (with_reducible apply Gv.cons; · (repeat (first | with_reducible exact Ext.here | with_reducible apply Ext.there))))) ?_ ?_ Sub.refl ?_
 ·exact ⟨Nat.zero_le _, rfl, fun r h => by cases h⟩
 ·(try dsimp only); exact (Wk.cons lkA Wk.nil)
 ·rintro ⟨i, rs⟩ ⟨hi, hrl, hrs⟩ K5 hK5
  simp only [List.cons_append, List.nil_append]
  refine WC_seq fun K6 hK6 => ?_
  refine WC_sr fun K7 hK7 => ?_
  refine WL_r (Rd_move rfl) rfl ?_
  refine WL_r (Rd_lssN (j := 4) rfl rfl) rfl ?_
  refine WL_end hK7 ?_
  refine WC_cond rfl (fun hc0 => ?_) (fun hc0 => ?_)
  ·try simp only [dz, ne_eq] at hc0
   refine WC_skip ?_
   refine Ps_next hK6 ?_
   refine WC_seq fun K8 hK8 => ?_
   refine WC_block ?_
   refine WC_sr fun K9 hK9 => ?_
   refine WL_r (Rd_move rfl) rfl ?_
   refine WL_r (Rd_assign rfl) rfl ?_
   refine WL_end hK9 ?_
   refine WC_sr fun K10 hK10 => ?_
   refine WL_r (Rd_loadW (l := root.1) rfl tk42) rfl ?_
   refine WL_ac (Ac_allocW (k := .u8) (w := 8) (m := 32) zr42) rfl rfl rfl ?_
   rintro _ _ ⟨b14, rfl, rfl⟩
   refine WL_ac0 (Ac_storeW rfl rfl sz42) rfl rfl ?_
   rintro _ _ rfl
   refine WL_end hK10 ?_
   refine WC_seq fun K11 hK11 => ?_
   refine WC_sr fun K12 hK12 => ?_
   refine WL_r (Rd_move rfl) rfl ?_
   refine WL_r (Rd_remN (i := i) (j := 2) rfl rfl) rfl ?_
   refine WL_r (Rd_eqlN (j := 1) rfl rfl) rfl ?_
   refine WL_end hK12 ?_
   refine WC_cond rfl (fun hc1 => ?_) (fun hc1 => ?_)
   ·try simp only [dz, ne_eq] at hc1
    rcases rng_cases n2 with h1 | ⟨n, rfl, h1, h2⟩
    ·skip
     refine WC_sr fun K13 hK13 => ?_
     refine WL_r (Rd_move rfl) rfl ?_
     refine WL_r (Rd_assign rfl) rfl ?_
     refine WL_end hK13 ?_
     refine WC_region ?_
     refine WL_r (Rd_loadW (l := oth.1) rfl tk42) rfl ?_
     refine WL_ac0 (Ac_storeW rfl rfl sz42) rfl rfl ?_
     rintro _ _ rfl
     refine WL_nil ?_
     refine Ps_next hK11 ?_
     refine WC_sr fun K14 hK14 => ?_
     refine WL_r (Rd_move rfl) rfl ?_
     refine WL_r (Rd_loadW (l := oth.1) rfl tk42) rfl ?_
     refine WL_ac (Ac_call cf72 rfl (hs := pNew_no (n := n2) (root := oth) (h1 := h1))) rfl rfl rfl ?_
     rintro _ _ ⟨⟨⟩, rfl, hA⟩
     simp only [List.cons_append, List.nil_append] at hA
     replace hA := hA.symm
     subst hA
     refine WL_r (Rd_move rfl) rfl ?_
     refine WL_r (Rd_ext0 rfl) rfl ?_
     refine WL_r (Rd_ext1 rfl) rfl ?_
     refine WL_r (Rd_assign rfl) rfl ?_
     refine WL_r (Rd_assign rfl) rfl ?_
     refine WL_end hK14 ?_
     refine WC_sr fun K15 hK15 => ?_
     refine WL_r (Rd_move rfl) rfl ?_
     refine WL_r (Rd_loadW (l := oth.1) rfl tk42) rfl ?_
     refine WL_ac (Ac_call cf78 rfl (hs := dNew_no (n := n2) (root := oth) (h1 := h1))) rfl rfl rfl ?_
     rintro _ _ ⟨⟨⟩, rfl, hA⟩
     simp only [List.cons_append, List.nil_append] at hA
     replace hA := hA.symm
     subst hA
     refine WL_r (Rd_move rfl) rfl ?_
     refine WL_r (Rd_ext0 rfl) rfl ?_
     refine WL_r (Rd_ext1 rfl) rfl ?_
     refine WL_r (Rd_assign rfl) rfl ?_
     refine WL_r (Rd_assign rfl) rfl ?_
     refine WL_end hK15 ?_
     refine WC_seq fun K16 hK16 => ?_
     refine WC_sr fun K17 hK17 => ?_
     refine WL_r (Rd_move rfl) rfl ?_
     refine WL_r (Rd_move rfl) rfl ?_
     refine WL_r (Rd_isF (Rd_neq rfl rfl)) rfl ?_
     refine WL_r (Rd_move rfl) rfl ?_
     refine WL_r (Rd_move rfl) rfl ?_
     refine WL_r (Rd_peq rfl rfl ud121) rfl ?_
     refine WL_r (Rd_move rfl) rfl ?_
     refine WL_r (Rd_peq rfl rfl ud129) rfl ?_
     refine WL_r (Rd_isF (Rd_bne rfl rfl ud4)) rfl ?_
     refine WL_r (Rd_pickF rfl rfl) rfl ?_
     refine WL_end hK17 ?_
     refine WC_condF rfl ?_
     refine WC_skip ?_
     refine Ps_next hK16 ?_
     refine WC_seq fun K18 hK18 => ?_
     refine WC_sr fun K19 hK19 => ?_
     refine WL_r (Rd_move rfl) rfl ?_
     refine WL_r (Rd_peq rfl rfl ud121) rfl ?_
     refine WL_end hK19 ?_
     refine WC_condT rfl ?_
     refine WC_sr fun K20 hK20 => ?_
     refine WL_ac (Ac_call cf73 rfl (hs := awake_ct)) rfl rfl rfl ?_
     rintro _ _ ⟨⟨⟩, rfl, hA⟩
     simp only [List.cons_append, List.nil_append] at hA
     replace hA := hA.symm
     subst hA
     refine WL_r (Rd_assign rfl) rfl ?_
     refine WL_end hK20 ?_
     refine WC_ret ?_
     exact hret.gf () (Rs1 rfl rfl)
    ·skip
     refine WC_sr fun K21 hK21 => ?_
     refine WL_r (Rd_move rfl) rfl ?_
     refine WL_r (Rd_assign rfl) rfl ?_
     refine WL_end hK21 ?_
     refine WC_region ?_
     refine WL_r (Rd_loadW (l := oth.1) rfl tk42) rfl ?_
     refine WL_ac0 (Ac_storeW rfl rfl sz42) rfl rfl ?_
     rintro _ _ rfl
     refine WL_nil ?_
     refine Ps_next hK11 ?_
     refine WC_sr fun K22 hK22 => ?_
     refine WL_r (Rd_move rfl) rfl ?_
     refine WL_r (Rd_loadW (l := oth.1) rfl tk42) rfl ?_
     refine WL_ac (Ac_call cf72 rfl (hs := pNew_ct (n := n) (root := oth) (h1 := h1) (h2 := h2))) rfl rfl rfl ?_
     rintro _ _ ⟨⟨pb, m⟩, rfl, hA⟩
     simp only [List.cons_append, List.nil_append] at hA
     replace hA := hA.symm
     subst hA
     refine WL_r (Rd_move rfl) rfl ?_
     refine WL_r (Rd_ext0 rfl) rfl ?_
     refine WL_r (Rd_ext1 rfl) rfl ?_
     refine WL_r (Rd_assign rfl) rfl ?_
     refine WL_r (Rd_assign rfl) rfl ?_
     refine WL_end hK22 ?_
     refine WC_sr fun K23 hK23 => ?_
     refine WL_r (Rd_move rfl) rfl ?_
     refine WL_r (Rd_loadW (l := oth.1) rfl tk42) rfl ?_
     refine WL_ac (Ac_call cf78 rfl (hs := dNew_ct (n := n) (root := oth) (h1 := h1) (h2 := h2))) rfl rfl rfl ?_
     rintro _ _ ⟨⟨qb, gi, gd⟩, rfl, hA⟩
     simp only [List.cons_append, List.nil_append] at hA
     replace hA := hA.symm
     subst hA
     refine WL_r (Rd_move rfl) rfl ?_
     refine WL_r (Rd_ext0 rfl) rfl ?_
     refine WL_r (Rd_ext1 rfl) rfl ?_
     refine WL_r (Rd_assign rfl) rfl ?_
     refine WL_r (Rd_assign rfl) rfl ?_
     refine WL_end hK23 ?_
     refine WC_seq fun K24 hK24 => ?_
     refine WC_sr fun K25 hK25 => ?_
     refine WL_r (Rd_move rfl) rfl ?_
     refine WL_r (Rd_move rfl) rfl ?_
     refine WL_r (Rd_isF (Rd_neq rfl rfl)) rfl ?_
     refine WL_r (Rd_move rfl) rfl ?_
     refine WL_r (Rd_move rfl) rfl ?_
     refine WL_r (Rd_peq rfl rfl ud121) rfl ?_
     refine WL_r (Rd_move rfl) rfl ?_
     refine WL_r (Rd_peq rfl rfl ud129) rfl ?_
     refine WL_r (Rd_isF (Rd_bne rfl rfl ud4)) rfl ?_
     refine WL_r (Rd_pickF rfl rfl) rfl ?_
     refine WL_end hK25 ?_
     refine WC_condF rfl ?_
     refine WC_skip ?_
     refine Ps_next hK24 ?_
     refine WC_seq fun K26 hK26 => ?_
     refine WC_sr fun K27 hK27 => ?_
     refine WL_r (Rd_move rfl) rfl ?_
     refine WL_r (Rd_peq rfl rfl ud121) rfl ?_
     refine WL_end hK27 ?_
     refine WC_condF rfl ?_
     refine WC_skip ?_
     refine Ps_next hK26 ?_
     refine WC_sr fun K28 hK28 => ?_
     refine WL_r (Rd_move rfl) rfl ?_
     refine WL_r (Rd_move rfl) rfl ?_
     refine WL_r (Rd_move rfl) rfl ?_
     refine WL_r (Rd_nilCheck rfl) rfl ?_
     refine WL_r (Rd_fieldAddr rfl fo154_0) rfl ?_
     refine WL_r (Rd_indexA i rfl rfl ud151 sz121 rfl (by omega)) rfl ?_
     refine WL_ac0 (Ac_store1 (ys := (PLi rs).set i (pP pb)) rfl rfl sz121 (hl := by rw [PLi_len (by omega), Nat.blt_eq]; omega) (hr := by rw [Nat.zero_add, Nat.mul_one]; rfl)) rfl rfl ?_
     rintro _ _ rfl
     refine WL_end hK28 ?_
     refine WC_region ?_
     refine WL_r (Rd_move rfl) rfl ?_
     refine WL_r (Rd_move rfl) rfl ?_
     refine WL_r (Rd_move rfl) rfl ?_
     refine WL_r (Rd_nilCheck rfl) rfl ?_
     refine WL_r (Rd_fieldAddr rfl fo154_1) rfl ?_
     refine WL_r (Rd_indexA i rfl rfl ud152 sz129 rfl (by omega)) rfl ?_
     refine WL_ac0 (Ac_store1 (ys := ((PLi rs).set i (pP pb)).set (4 + i) (pP qb)) rfl rfl sz129 (hl := by rw [List.length_set, PLi_len (by omega), Nat.blt_eq]; omega) (hr := by rw [Nat.mul_one]; rfl)) rfl rfl ?_
     rintro _ _ rfl
     rw [show ((PLi rs).set i (pP pb)).set (4 + i) (pP qb) = PLi (rs ++ [(⟨n, newK n oth, pb, m, qb, gi, 2 * wdM n, gd, 2 * wdM n⟩ : PR)]) from by rw [← hrl]; exact PLi_new (r := (⟨n, newK n oth, pb, m, qb, gi, 2 * wdM n, gd, 2 * wdM n⟩ : PR)) (by omega)]
     refine WL_pk0 ?_
     refine WL_pull (arr (some gd) (2 * wdM n) 32 42 fD (dgL (newK n oth) (wdM n))) ?_
     refine WL_pull (arr (some gi) (2 * wdM n) 1 4 eBool (isL (newK n oth) (wdM n))) ?_
     refine WL_pull (cl qb 136 [.int .i64 ((n : Nat) : Int), .int .i64 (((wdM n) : Nat) : Int), sl (some gi) (2 * (wdM n)) (2 * wdM n), sl (some gd) (2 * (wdM n)) (2 * wdM n)]) ?_
     refine WL_pull (mpI m (kv (newK n oth))) ?_
     refine WL_pull (cl pb 161 [.int .i64 ((n : Nat) : Int), .int .i64 (((wdM n) : Nat) : Int), .map (some m)]) ?_
     rw [show sep [cl pb 161 [.int .i64 ((n : Nat) : Int), .int .i64 (((wdM n) : Nat) : Int), .map (some m)], mpI m (kv (newK n oth)), cl qb 136 [.int .i64 ((n : Nat) : Int), .int .i64 (((wdM n) : Nat) : Int), sl (some gi) (2 * (wdM n)) (2 * wdM n), sl (some gd) (2 * (wdM n)) (2 * wdM n)], arr (some gi) (2 * wdM n) 1 4 eBool (isL (newK n oth) (wdM n)), arr (some gd) (2 * wdM n) 32 42 fD (dgL (newK n oth) (wdM n))] = FPR (⟨n, newK n oth, pb, m, qb, gi, 2 * wdM n, gd, 2 * wdM n⟩ : PR) from rfl]
     refine WL_snoc FPR rs (⟨n, newK n oth, pb, m, qb, gi, 2 * wdM n, gd, 2 * wdM n⟩ : PR) ?_
     refine WL_nil ?_
     refine Ps_next hK8 ?_
     refine WC_region ?_
     refine WL_r (Rd_move rfl) rfl ?_
     refine WL_r (Rd_addN (j := 1) rfl rfl) rfl ?_
     refine WL_r (Rd_assign rfl) rfl ?_
     refine WL_nil ?_
     refine Ps_wkB (hK5 ⟨i + 1, rs ++ [(⟨n, newK n oth, pb, m, qb, gi, 2 * wdM n, gd, 2 * wdM n⟩ : PR)]⟩ (⟨by (try dsimp only); omega, by (try dsimp only); rw [List.length_append, List.length_singleton]; omega, fun x hx => by rcases List.mem_append.1 hx with z | z; exact hrs x z; (rw [List.mem_singleton] at z; subst z; exact rk_new h1 h2)⟩) (by (try dsimp only); omega))
   ·try simp only [dz, ne_eq] at hc1
    rcases rng_cases n1 with h1 | ⟨n, rfl, h1, h2⟩
    ·skip
     refine WC_skip ?_
     refine Ps_next hK11 ?_
     refine WC_sr fun K29 hK29 => ?_
     refine WL_r (Rd_move rfl) rfl ?_
     refine WL_r (Rd_loadW (l := root.1) rfl tk42) rfl ?_
     refine WL_ac (Ac_call cf72 rfl (hs := pNew_no (n := n1) (root := root) (h1 := h1))) rfl rfl rfl ?_
     rintro _ _ ⟨⟨⟩, rfl, hA⟩
     simp only [List.cons_append, List.nil_append] at hA
     replace hA := hA.symm
     subst hA
     refine WL_r (Rd_move rfl) rfl ?_
     refine WL_r (Rd_ext0 rfl) rfl ?_
     refine WL_r (Rd_ext1 rfl) rfl ?_
     refine WL_r (Rd_assign rfl) rfl ?_
     refine WL_r (Rd_assign rfl) rfl ?_
     refine WL_end hK29 ?_
     refine WC_sr fun K30 hK30 => ?_
     refine WL_r (Rd_move rfl) rfl ?_
     refine WL_r (Rd_loadW (l := root.1) rfl tk42) rfl ?_
     refine WL_ac (Ac_call cf78 rfl (hs := dNew_no (n := n1) (root := root) (h1 := h1))) rfl rfl rfl ?_
     rintro _ _ ⟨⟨⟩, rfl, hA⟩
     simp only [List.cons_append, List.nil_append] at hA
     replace hA := hA.symm
     subst hA
     refine WL_r (Rd_move rfl) rfl ?_
     refine WL_r (Rd_ext0 rfl) rfl ?_
     refine WL_r (Rd_ext1 rfl) rfl ?_
     refine WL_r (Rd_assign rfl) rfl ?_
     refine WL_r (Rd_assign rfl) rfl ?_
     refine WL_end hK30 ?_
     refine WC_seq fun K31 hK31 => ?_
     refine WC_sr fun K32 hK32 => ?_
     refine WL_r (Rd_move rfl) rfl ?_
     refine WL_r (Rd_move rfl) rfl ?_
     refine WL_r (Rd_isF (Rd_neq rfl rfl)) rfl ?_
     refine WL_r (Rd_move rfl) rfl ?_
     refine WL_r (Rd_move rfl) rfl ?_
     refine WL_r (Rd_peq rfl rfl ud121) rfl ?_
     refine WL_r (Rd_move rfl) rfl ?_
     refine WL_r (Rd_peq rfl rfl ud129) rfl ?_
     refine WL_r (Rd_isF (Rd_bne rfl rfl ud4)) rfl ?_
     refine WL_r (Rd_pickF rfl rfl) rfl ?_
     refine WL_end hK32 ?_
     refine WC_condF rfl ?_
     refine WC_skip ?_
     refine Ps_next hK31 ?_
     refine WC_seq fun K33 hK33 => ?_
     refine WC_sr fun K34 hK34 => ?_
     refine WL_r (Rd_move rfl) rfl ?_
     refine WL_r (Rd_peq rfl rfl ud121) rfl ?_
     refine WL_end hK34 ?_
     refine WC_condT rfl ?_
     refine WC_sr fun K35 hK35 => ?_
     refine WL_ac (Ac_call cf73 rfl (hs := awake_ct)) rfl rfl rfl ?_
     rintro _ _ ⟨⟨⟩, rfl, hA⟩
     simp only [List.cons_append, List.nil_append] at hA
     replace hA := hA.symm
     subst hA
     refine WL_r (Rd_assign rfl) rfl ?_
     refine WL_end hK35 ?_
     refine WC_ret ?_
     exact hret.gf () (Rs1 rfl rfl)
    ·skip
     refine WC_skip ?_
     refine Ps_next hK11 ?_
     refine WC_sr fun K36 hK36 => ?_
     refine WL_r (Rd_move rfl) rfl ?_
     refine WL_r (Rd_loadW (l := root.1) rfl tk42) rfl ?_
     refine WL_ac (Ac_call cf72 rfl (hs := pNew_ct (n := n) (root := root) (h1 := h1) (h2 := h2))) rfl rfl rfl ?_
     rintro _ _ ⟨⟨pb, m⟩, rfl, hA⟩
     simp only [List.cons_append, List.nil_append] at hA
     replace hA := hA.symm
     subst hA
     refine WL_r (Rd_move rfl) rfl ?_
     refine WL_r (Rd_ext0 rfl) rfl ?_
     refine WL_r (Rd_ext1 rfl) rfl ?_
     refine WL_r (Rd_assign rfl) rfl ?_
     refine WL_r (Rd_assign rfl) rfl ?_
     refine WL_end hK36 ?_
     refine WC_sr fun K37 hK37 => ?_
     refine WL_r (Rd_move rfl) rfl ?_
     refine WL_r (Rd_loadW (l := root.1) rfl tk42) rfl ?_
     refine WL_ac (Ac_call cf78 rfl (hs := dNew_ct (n := n) (root := root) (h1 := h1) (h2 := h2))) rfl rfl rfl ?_
     rintro _ _ ⟨⟨qb, gi, gd⟩, rfl, hA⟩
     simp only [List.cons_append, List.nil_append] at hA
     replace hA := hA.symm
     subst hA
     refine WL_r (Rd_move rfl) rfl ?_
     refine WL_r (Rd_ext0 rfl) rfl ?_
     refine WL_r (Rd_ext1 rfl) rfl ?_
     refine WL_r (Rd_assign rfl) rfl ?_
     refine WL_r (Rd_assign rfl) rfl ?_
     refine WL_end hK37 ?_
     refine WC_seq fun K38 hK38 => ?_
     refine WC_sr fun K39 hK39 => ?_
     refine WL_r (Rd_move rfl) rfl ?_
     refine WL_r (Rd_move rfl) rfl ?_
     refine WL_r (Rd_isF (Rd_neq rfl rfl)) rfl ?_
     refine WL_r (Rd_move rfl) rfl ?_
     refine WL_r (Rd_move rfl) rfl ?_
     refine WL_r (Rd_peq rfl rfl ud121) rfl ?_
     refine WL_r (Rd_move rfl) rfl ?_
     refine WL_r (Rd_peq rfl rfl ud129) rfl ?_
     refine WL_r (Rd_isF (Rd_bne rfl rfl ud4)) rfl ?_
     refine WL_r (Rd_pickF rfl rfl) rfl ?_
     refine WL_end hK39 ?_
     refine WC_condF rfl ?_
     refine WC_skip ?_
     refine Ps_next hK38 ?_
     refine WC_seq fun K40 hK40 => ?_
     refine WC_sr fun K41 hK41 => ?_
     refine WL_r (Rd_move rfl) rfl ?_
     refine WL_r (Rd_peq rfl rfl ud121) rfl ?_
     refine WL_end hK41 ?_
     refine WC_condF rfl ?_
     refine WC_skip ?_
     refine Ps_next hK40 ?_
     refine WC_sr fun K42 hK42 => ?_
     refine WL_r (Rd_move rfl) rfl ?_
     refine WL_r (Rd_move rfl) rfl ?_
     refine WL_r (Rd_move rfl) rfl ?_
     refine WL_r (Rd_nilCheck rfl) rfl ?_
     refine WL_r (Rd_fieldAddr rfl fo154_0) rfl ?_
     refine WL_r (Rd_indexA i rfl rfl ud151 sz121 rfl (by omega)) rfl ?_
     refine WL_ac0 (Ac_store1 (ys := (PLi rs).set i (pP pb)) rfl rfl sz121 (hl := by rw [PLi_len (by omega), Nat.blt_eq]; omega) (hr := by rw [Nat.zero_add, Nat.mul_one]; rfl)) rfl rfl ?_
     rintro _ _ rfl
     refine WL_end hK42 ?_
     refine WC_region ?_
     refine WL_r (Rd_move rfl) rfl ?_
     refine WL_r (Rd_move rfl) rfl ?_
     refine WL_r (Rd_move rfl) rfl ?_
     refine WL_r (Rd_nilCheck rfl) rfl ?_
     refine WL_r (Rd_fieldAddr rfl fo154_1) rfl ?_
     refine WL_r (Rd_indexA i rfl rfl ud152 sz129 rfl (by omega)) rfl ?_
     refine WL_ac0 (Ac_store1 (ys := ((PLi rs).set i (pP pb)).set (4 + i) (pP qb)) rfl rfl sz129 (hl := by rw [List.length_set, PLi_len (by omega), Nat.blt_eq]; omega) (hr := by rw [Nat.mul_one]; rfl)) rfl rfl ?_
     rintro _ _ rfl
     rw [show ((PLi rs).set i (pP pb)).set (4 + i) (pP qb) = PLi (rs ++ [(⟨n, newK n root, pb, m, qb, gi, 2 * wdM n, gd, 2 * wdM n⟩ : PR)]) from by rw [← hrl]; exact PLi_new (r := (⟨n, newK n root, pb, m, qb, gi, 2 * wdM n, gd, 2 * wdM n⟩ : PR)) (by omega)]
     refine WL_pk0 ?_
     refine WL_pull (arr (some gd) (2 * wdM n) 32 42 fD (dgL (newK n root) (wdM n))) ?_
     refine WL_pull (arr (some gi) (2 * wdM n) 1 4 eBool (isL (newK n root) (wdM n))) ?_
     refine WL_pull (cl qb 136 [.int .i64 ((n : Nat) : Int), .int .i64 (((wdM n) : Nat) : Int), sl (some gi) (2 * (wdM n)) (2 * wdM n), sl (some gd) (2 * (wdM n)) (2 * wdM n)]) ?_
     refine WL_pull (mpI m (kv (newK n root))) ?_
     refine WL_pull (cl pb 161 [.int .i64 ((n : Nat) : Int), .int .i64 (((wdM n) : Nat) : Int), .map (some m)]) ?_
     rw [show sep [cl pb 161 [.int .i64 ((n : Nat) : Int), .int .i64 (((wdM n) : Nat) : Int), .map (some m)], mpI m (kv (newK n root)), cl qb 136 [.int .i64 ((n : Nat) : Int), .int .i64 (((wdM n) : Nat) : Int), sl (some gi) (2 * (wdM n)) (2 * wdM n), sl (some gd) (2 * (wdM n)) (2 * wdM n)], arr (some gi) (2 * wdM n) 1 4 eBool (isL (newK n root) (wdM n)), arr (some gd) (2 * wdM n) 32 42 fD (dgL (newK n root) (wdM n))] = FPR (⟨n, newK n root, pb, m, qb, gi, 2 * wdM n, gd, 2 * wdM n⟩ : PR) from rfl]
     refine WL_snoc FPR rs (⟨n, newK n root, pb, m, qb, gi, 2 * wdM n, gd, 2 * wdM n⟩ : PR) ?_
     refine WL_nil ?_
     refine Ps_next hK8 ?_
     refine WC_region ?_
     refine WL_r (Rd_move rfl) rfl ?_
     refine WL_r (Rd_addN (j := 1) rfl rfl) rfl ?_
     refine WL_r (Rd_assign rfl) rfl ?_
     refine WL_nil ?_
     refine Ps_wkB (hK5 ⟨i + 1, rs ++ [(⟨n, newK n root, pb, m, qb, gi, 2 * wdM n, gd, 2 * wdM n⟩ : PR)]⟩ (⟨by (try dsimp only); omega, by (try dsimp only); rw [List.length_append, List.length_singleton]; omega, fun x hx => by rcases List.mem_append.1 hx with z | z; exact hrs x z; (rw [List.mem_singleton] at z; subst z; exact rk_new h1 h2)⟩) (by (try dsimp only); omega))
  ·try simp only [dz, ne_eq] at hc0
   have h4 : rs.length = 4 := by omega
   refine WC_exit ?_
   refine Ps_next hK3 ?_
   refine WC_seq fun K43 hK43 => ?_
   refine WC_sr fun K44 hK44 => ?_
   refine WL_r (Rd_move rfl) rfl ?_
   refine WL_r (Rd_len_sv rfl rfl ud149 (hA := hS)) rfl ?_
   refine WL_r (Rd_move rfl) rfl ?_
   refine WL_end hK44 ?_
   refine WC_block ?_
   rw [show PLi rs = PLc rs (⟨[], none, 0, [], none, 0, [], none, 0⟩ : BKp) from PLi_4 h4]
   refine WC_star0 (FP 3) ?_
   refine WC_star0 (FPN 133) ?_
   refine WC_star0 (FPN 133) ?_
   refine WC_imp (fun w h => sat_nil (e := 1) (T := 101) (f := ePI) h) ?_
   refine WC_imp (fun w h => sat_nil (e := 1) (T := 120) (f := ePN) h) ?_
   refine WC_imp (fun w h => sat_nil (e := 1) (T := 120) (f := ePN) h) ?_
   refine WC_loopK (σ := Nat × (List PR) × BKp) (fun ⟨k, rs, s⟩ => [(79, .int .i64 ((k : Nat) : Int))]) (fun ⟨k, rs, s⟩ => [cl b28 154 (PLc rs s), star FPR rs, star (FP 3) s.is, arr s.ia s.ic 1 101 ePI s.is, star (FPN 133) s.ls, arr s.la s.lc 1 120 ePN s.ls, star (FPN 133) s.ts, arr s.ta s.tc 1 120 ePN s.ts]) (fun ⟨k, rs, s⟩ => k ≤ xs.length ∧ GD rs ∧ BP s k) (fun ⟨k, rs, s⟩ => xs.length - k) ⟨0, rs, (⟨[], none, 0, [], none, 0, [], none, 0⟩ : BKp)⟩ [11, 21, 22, 23, 24, 25, 26, 77, 78, 88, 89, 90, 91, 92, 93, 94, 95, 96, 97, 98, 99, 100, 101, 102, 103, 104, 105, 106, 107, 108, 109, 110, 111, 112, 113, 114, 115, 116, 117, 118, 119, 120, 121, 122, 123, 124, 125, 126, 127, 128, 129, 130, 131, 132, 133, 134, 135, 136, 137, 138] kpA (by (try dsimp only); repeat (first | with_reducible exact Gv.nil | (with_reducible apply Gv.cons; · (repeat (first | with_reducible exact Ext.here | with_reducible apply Ext.there))))) ?_ ?_ Sub.refl ?_
   ·exact ⟨Nat.zero_le _, ⟨h4, hrs⟩, BP_0⟩
   ·(try dsimp only); exact (Wk.cons lkA Wk.nil)
   ·rintro ⟨k, rs, s⟩ ⟨hk, hG, hB⟩ K45 hK45
    simp only [List.cons_append, List.nil_append]
    refine WC_sr fun K46 hK46 => ?_
    refine WL_r (Rd_lssN rfl rfl) rfl ?_
    refine WL_end hK46 ?_
    refine WC_seq fun K47 hK47 => ?_
    refine WC_cond rfl (fun hc4 => ?_) (fun hc4 => ?_)
    ·try simp only [dz, ne_eq] at hc4
     obtain ⟨x, hx⟩ : ∃ x, xs[k]? = some x := ⟨_, List.getElem?_eq_getElem (by omega)⟩
     refine WC_skip ?_
     refine Ps_next hK47 ?_
     refine WC_seq fun K48 hK48 => ?_
     refine WC_block ?_
     refine WC_sr fun K49 hK49 => ?_
     refine WL_r (Rd_index_sv k rfl rfl ud149 sz156 (hA := hS) (hi := by omega)) rfl ?_
     refine WL_r (Rd_loadg_sv (f := ePS) (i := k) rfl tk156 (hA := hS) (hl := hx)) rfl ?_
     refine WL_ac (Ac_alloc zr156) rfl rfl rfl ?_
     rintro _ _ ⟨b20, rfl, rfl⟩
     refine WL_ac0 (Ac_store (ys := ePS x) rfl rfl sz156 (hv := rfl) (h1 := encPS.one x) (hr := by show ([] ++ ePS x) ++ [] = ePS x; rw [List.append_nil]; rfl)) rfl rfl ?_
     rintro _ _ rfl
     refine WL_end hK49 ?_
     refine WC_sr fun K50 hK50 => ?_
     refine WL_r (Rd_move rfl) rfl ?_
     refine WL_r (Rd_loadg (vs := ePS x) rfl tk156 (hi := rfl)) rfl ?_
     refine WL_ac (Ac_call cf92 rfl (hs := step_ct (X := X) (kb := b28) (n := k) (rs := rs) (s := s) (x := x) (hG := hG) (hB := hB) (hq := hQ x (List.mem_of_getElem? hx)))) rfl rfl rfl ?_
     rintro _ _ ⟨⟨⟨rs2, s2⟩, hg⟩, rfl, hA⟩
     simp only [List.cons_append, List.nil_append] at hA
     replace hA := hA.symm
     subst hA
     dsimp only at hg ⊢
     refine WL_r (Rd_not rfl) rfl ?_
     refine WL_end hK50 ?_
     refine WC_condF rfl ?_
     refine WC_skip ?_
     refine Ps_next hK48 ?_
     refine WC_region ?_
     refine WL_r (Rd_addN (j := 1) rfl rfl) rfl ?_
     refine WL_r (Rd_move rfl) rfl ?_
     refine WL_nil ?_
     refine Ps_wkB (hK45 ⟨k + 1, rs2, s2⟩ (⟨by (try dsimp only); omega, hg.1, hg.2⟩) (by (try dsimp only); omega))
    ·try simp only [dz, ne_eq] at hc4
     obtain rfl : k = xs.length := by omega
     have h4 := hG.1
     refine WC_exit ?_
     refine Ps_next hK43 ?_
     refine WC_seq fun K51 hK51 => ?_
     refine WC_sr fun K52 hK52 => ?_
     refine WL_r (Rd_move rfl) rfl ?_
     refine WL_ac (Ac_call cf93 rfl (hs := still_ct (kb := b28) (n := xs.length) (rs := rs) (s := s) (h4 := h4) (hB := hB))) rfl rfl rfl ?_
     rintro _ _ ⟨⟨⟩, rfl, hA⟩
     simp only [List.cons_append, List.nil_append] at hA
     replace hA := hA.symm
     subst hA
     refine WL_r (Rd_not rfl) rfl ?_
     refine WL_end hK52 ?_
     refine WC_condF rfl ?_
     refine WC_skip ?_
     refine Ps_next hK51 ?_
     refine WC_seq fun K53 hK53 => ?_
     refine WC_sr fun K54 hK54 => ?_
     refine WL_r (Rd_assign rfl) rfl ?_
     refine WL_end hK54 ?_
     refine WC_block ?_
     refine WC_loopK (σ := Nat) (fun i2 => [(21, .int .i64 ((i2 : Nat) : Int))]) (fun i2 => [star FPR rs]) (fun i2 => i2 ≤ 4) (fun i2 => 4 - i2) (0) [11] kpA (by (try dsimp only); repeat (first | with_reducible exact Gv.nil | (with_reducible apply Gv.cons; · (repeat (first | with_reducible exact Ext.here | with_reducible apply Ext.there))))) ?_ ?_ Sub.refl ?_
     ·exact Nat.zero_le _
     ·(try dsimp only); exact (Wk.cons lkA Wk.nil)
     ·rintro i2 hi2 K55 hK55
      simp only [List.cons_append, List.nil_append]
      refine WC_seq fun K56 hK56 => ?_
      refine WC_sr fun K57 hK57 => ?_
      refine WL_r (Rd_move rfl) rfl ?_
      refine WL_r (Rd_lssN (j := 4) rfl rfl) rfl ?_
      refine WL_end hK57 ?_
      refine WC_cond rfl (fun hc7 => ?_) (fun hc7 => ?_)
      ·try simp only [dz, ne_eq] at hc7
       obtain ⟨r, hri, hrk⟩ := hG.at (i := i2) (by omega)
       have hwo := wd_ok hrk.h1 hrk.h2
       refine WC_open FPR rs i2 (x := r) hri ?_
       rw [show FPR r = sep [cl r.pb 161 [.int .i64 ((r.n : Nat) : Int), .int .i64 (((wdM r.n) : Nat) : Int), .map (some r.m)], mpI r.m (kv r.K), cl r.qb 136 [.int .i64 ((r.n : Nat) : Int), .int .i64 (((wdM r.n) : Nat) : Int), sl (some r.gi) (2 * (wdM r.n)) r.ci, sl (some r.gd) (2 * (wdM r.n)) r.cd], arr (some r.gi) r.ci 1 4 eBool (isL r.K (wdM r.n)), arr (some r.gd) r.cd 32 42 fD (dgL r.K (wdM r.n))] from rfl]
       refine WC_unpk [cl r.pb 161 [.int .i64 ((r.n : Nat) : Int), .int .i64 (((wdM r.n) : Nat) : Int), .map (some r.m)], mpI r.m (kv r.K), cl r.qb 136 [.int .i64 ((r.n : Nat) : Int), .int .i64 (((wdM r.n) : Nat) : Int), sl (some r.gi) (2 * (wdM r.n)) r.ci, sl (some r.gd) (2 * (wdM r.n)) r.cd], arr (some r.gi) r.ci 1 4 eBool (isL r.K (wdM r.n)), arr (some r.gd) r.cd 32 42 fD (dgL r.K (wdM r.n))] ?_
       simp only [List.cons_append, List.nil_append]
       refine WC_skip ?_
       refine Ps_next hK56 ?_
       refine WC_seq fun K58 hK58 => ?_
       refine WC_block ?_
       refine WC_sr fun K59 hK59 => ?_
       refine WL_r (Rd_assign rfl) rfl ?_
       refine WL_end hK59 ?_
       refine WC_block ?_
       refine WC_loopK (σ := Nat) (fun t => [(22, .int .i64 ((t : Nat) : Int))]) (fun t => []) (fun t => t ≤ 2 * wdM r.n + 1) (fun t => 2 * wdM r.n + 1 - t) (0) [11, 21, 91, 92, 93, 94] kpA (by (try dsimp only); repeat (first | with_reducible exact Gv.nil | (with_reducible apply Gv.cons; · (repeat (first | with_reducible exact Ext.here | with_reducible apply Ext.there))))) ?_ ?_ Sub.refl ?_
       ·exact Nat.zero_le _
       ·(try dsimp only); exact (Wk.cons lkA Wk.nil)
       ·rintro t ht K60 hK60
        simp only [List.cons_append, List.nil_append]
        have hdt := Dg_len ((r.K (((t : Nat)) : Int)).getD zD)
        refine WC_seq fun K61 hK61 => ?_
        refine WC_sr fun K62 hK62 => ?_
        refine WL_r (Rd_move rfl) rfl ?_
        refine WL_r (Rd_move rfl) rfl ?_
        refine WL_r (Rd_move rfl) rfl ?_
        refine WL_r (Rd_nilCheck rfl) rfl ?_
        refine WL_r (Rd_fieldAddr rfl fo154_1) rfl ?_
        refine WL_r (Rd_indexA i2 rfl rfl ud152 sz129 rfl (by omega)) rfl ?_
        refine WL_r (Rd_load rfl tk129 (v := .pointer (some ⟨r.qb, 0, none⟩)) (hi := by rw [Nat.mul_one]; exact PLc_y h4 hri)) rfl ?_
        refine WL_r (Rd_nilCheck rfl) rfl ?_
        refine WL_r (Rd_fieldAddr rfl fo136_1) rfl ?_
        refine WL_r (Rd_load rfl tk3 (v := .int .i64 (((wdM r.n) : Nat) : Int))) rfl ?_
        refine WL_r (Rd_mulN (i := 2) (j := (wdM r.n)) rfl rfl) rfl ?_
        refine WL_r (Rd_leqN rfl rfl) rfl ?_
        refine WL_end hK62 ?_
        refine WC_cond rfl (fun hc8 => ?_) (fun hc8 => ?_)
        ·try simp only [dz, ne_eq] at hc8
         refine WC_skip ?_
         refine Ps_next hK61 ?_
         refine WC_seq fun K63 hK63 => ?_
         refine WC_block ?_
         refine WC_sr fun K64 hK64 => ?_
         refine WL_r (Rd_move rfl) rfl ?_
         refine WL_r (Rd_move rfl) rfl ?_
         refine WL_r (Rd_nilCheck rfl) rfl ?_
         refine WL_r (Rd_fieldAddr rfl fo154_0) rfl ?_
         refine WL_r (Rd_indexA i2 rfl rfl ud151 sz121 rfl (by omega)) rfl ?_
         refine WL_r (Rd_load rfl tk121 (v := .pointer (some ⟨r.pb, 0, none⟩)) (hi := by rw [Nat.zero_add, Nat.mul_one]; exact PLc_x hri)) rfl ?_
         refine WL_r (Rd_move rfl) rfl ?_
         refine WL_ac (Ac_call cf76 rfl (hs := pKnown_ct (pb := r.pb) (m := r.m) (n := r.n) (w := (wdM r.n)) (Kn := r.K) (i := (((t : Nat)) : Int)))) rfl rfl rfl ?_
         rintro _ _ ⟨⟨⟩, rfl, hA⟩
         simp only [List.cons_append, List.nil_append] at hA
         replace hA := hA.symm
         subst hA
         refine WL_r (Rd_move rfl) rfl ?_
         refine WL_r (Rd_ext0 rfl) rfl ?_
         refine WL_r (Rd_ext1 rfl) rfl ?_
         refine WL_ac (Ac_allocW (k := .u8) (w := 8) (m := 32) zr42) rfl rfl rfl ?_
         rintro _ _ ⟨b23, rfl, rfl⟩
         refine WL_ac0 (Ac_storeW rfl rfl sz42) rfl rfl ?_
         rintro _ _ rfl
         refine WL_r (Rd_assign rfl) rfl ?_
         refine WL_end hK64 ?_
         refine WC_sr fun K65 hK65 => ?_
         refine WL_r (Rd_move rfl) rfl ?_
         refine WL_r (Rd_move rfl) rfl ?_
         refine WL_r (Rd_nilCheck rfl) rfl ?_
         refine WL_r (Rd_fieldAddr rfl fo154_1) rfl ?_
         refine WL_r (Rd_indexA i2 rfl rfl ud152 sz129 rfl (by omega)) rfl ?_
         refine WL_r (Rd_load rfl tk129 (v := .pointer (some ⟨r.qb, 0, none⟩)) (hi := by rw [Nat.mul_one]; exact PLc_y h4 hri)) rfl ?_
         refine WL_r (Rd_move rfl) rfl ?_
         refine WL_ac (Ac_call cf81 rfl (hs := dKnown_ct (qb := r.qb) (gi := r.gi) (ci := r.ci) (gd := r.gd) (cd := r.cd) (n := r.n) (w := (wdM r.n)) (Kn := r.K) (i := (((t : Nat)) : Int)) (hs := hrk.hs))) rfl rfl rfl ?_
         rintro _ _ ⟨⟨⟩, rfl, hA⟩
         simp only [List.cons_append, List.nil_append] at hA
         replace hA := hA.symm
         subst hA
         refine WL_r (Rd_move rfl) rfl ?_
         refine WL_r (Rd_ext0 rfl) rfl ?_
         refine WL_r (Rd_ext1 rfl) rfl ?_
         refine WL_ac (Ac_allocW (k := .u8) (w := 8) (m := 32) zr42) rfl rfl rfl ?_
         rintro _ _ ⟨b25, rfl, rfl⟩
         refine WL_ac0 (Ac_storeW rfl rfl sz42) rfl rfl ?_
         rintro _ _ rfl
         refine WL_r (Rd_assign rfl) rfl ?_
         refine WL_end hK65 ?_
         refine WC_sr fun K66 hK66 => ?_
         refine WL_r (Rd_loadW rfl tk42) rfl ?_
         refine WL_r (Rd_loadW rfl tk42) rfl ?_
         refine WL_r (Rd_isF (Rd_neW rfl rfl ais42) (by simp)) rfl ?_
         refine WL_r (Rd_move rfl) rfl ?_
         refine WL_r (Rd_move rfl) rfl ?_
         refine WL_r (Rd_move rfl) rfl ?_
         refine WL_r (Rd_isF (Rd_bne rfl rfl ud4) (by simp)) rfl ?_
         refine WL_r (Rd_pickF rfl rfl) rfl ?_
         refine WL_end hK66 ?_
         refine WC_condF rfl ?_
         refine WC_skip ?_
         refine Ps_next hK63 ?_
         refine WC_region ?_
         refine WL_r (Rd_move rfl) rfl ?_
         refine WL_r (Rd_addN (j := 1) rfl rfl) rfl ?_
         refine WL_r (Rd_assign rfl) rfl ?_
         refine WL_nil ?_
         refine Ps_wkB (hK60 (t + 1) (by omega) (by omega))
        ·try simp only [dz, ne_eq] at hc8
         refine WC_pk0 ?_
         refine WC_pull (arr (some r.gd) r.cd 32 42 fD (dgL r.K (wdM r.n))) ?_
         refine WC_pull (arr (some r.gi) r.ci 1 4 eBool (isL r.K (wdM r.n))) ?_
         refine WC_pull (cl r.qb 136 [.int .i64 ((r.n : Nat) : Int), .int .i64 (((wdM r.n) : Nat) : Int), sl (some r.gi) (2 * (wdM r.n)) r.ci, sl (some r.gd) (2 * (wdM r.n)) r.cd]) ?_
         refine WC_pull (mpI r.m (kv r.K)) ?_
         refine WC_pull (cl r.pb 161 [.int .i64 ((r.n : Nat) : Int), .int .i64 (((wdM r.n) : Nat) : Int), .map (some r.m)]) ?_
         rw [show sep [cl r.pb 161 [.int .i64 ((r.n : Nat) : Int), .int .i64 (((wdM r.n) : Nat) : Int), .map (some r.m)], mpI r.m (kv r.K), cl r.qb 136 [.int .i64 ((r.n : Nat) : Int), .int .i64 (((wdM r.n) : Nat) : Int), sl (some r.gi) (2 * (wdM r.n)) r.ci, sl (some r.gd) (2 * (wdM r.n)) r.cd], arr (some r.gi) r.ci 1 4 eBool (isL r.K (wdM r.n)), arr (some r.gd) r.cd 32 42 fD (dgL r.K (wdM r.n))] = FPR r from rfl]
         refine WC_shut FPR rs i2 r (by rw [h4]; omega) ?_
         rw [set_self hri]
         refine WC_exit ?_
         refine Ps_next hK58 ?_
         refine WC_region ?_
         refine WL_r (Rd_move rfl) rfl ?_
         refine WL_r (Rd_addN (j := 1) rfl rfl) rfl ?_
         refine WL_r (Rd_assign rfl) rfl ?_
         refine WL_nil ?_
         refine Ps_wkB (hK55 (i2 + 1) (by omega) (by omega))
      ·try simp only [dz, ne_eq] at hc7
       refine WC_exit ?_
       refine Ps_next hK53 ?_
       refine WC_sr fun K67 hK67 => ?_
       refine WL_r (Rd_assign rfl) rfl ?_
       refine WL_end hK67 ?_
       refine WC_ret ?_
       exact hret.gf () (Rs1 rfl rfl)
end Go.Proofs.Ytgkpbeikcpecbaa
