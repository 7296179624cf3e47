/-
  Contracts of functions that the claim reaches, or the logic and the plain laws that they rest on, or the row over them. (Conditions: none beyond the statement.)
-/
import Derived.Test.YtlcafifjhilleaaTkA
set_option linter.all false
namespace Go.Proofs.Ytlcafifjhilleaa
open Go.RowKit Go.SL Go.ShM
set_option maxHeartbeats 1000000
set_option maxRecDepth 20000
set_option linter.all false
theorem cf92 : cfn Try.prog 92 = true := by kernel_rfl
def w8 (i : Nat) : B8 := it (fun _ k => ((k.setWidth 64) >>> 8).setWidth 8) i (~~~ BitVec.ofNat 8 0)
theorem w8_nz : ∀ i, i ≤ 1 → (w8 i ≠ 0#8 ↔ i < 1) := by
  intro i hi
  rcases (by omega : i = 0 ∨ i = 1) with rfl | rfl <;> decide
def big8 (x : B8) : List B8 := bigI 1 (x.setWidth 64) 1
theorem big8_eq (x : B8) : big8 x = [x] := by
  show [(((x.setWidth 64) >>> 0).setWidth 8)] = [x]
  rw [BitVec.ushiftRight_zero, BitVec.setWidth_setWidth_of_le _ (by omega), BitVec.setWidth_eq]
def sixM (k n seg : Int) : List B8 := [BitVec.ofInt 8 k, BitVec.ofInt 8 n] ++ big32 (BitVec.ofInt 32 seg)
theorem sixM_len (k n seg : Int) : (sixM k n seg).length = 6 := by unfold sixM; rw [List.length_append, big32_len]; rfl
def keyM (s f : List B8) (k n seg : Int) : List B8 := (tagD 1#8 [s, sixM k n seg, f]).take 16
theorem keyM_len (s f : List B8) (k n seg : Int) : (keyM s f k n seg).length = 16 := by unfold keyM; rw [List.length_take, tagD_len]; rfl

theorem widthu8_ct   : Ct Try.prog 92 [] [] (fun _ : Unit => .int .i64 ((1 : Nat) : Int)) (fun _ => []) := by
  refine Ct_body (n := 14) Try.func92 rfl rfl rfl fun F w0 Q hret hnorm hp => ?_
  change WC _ _ _ _ _ _ _ (F)
  refine WC_sr fun K1 hK1 => ?_
  refine WL_rd (Rd_assign rfl) rfl rfl rfl ?_
  refine WL_end hK1 ?_
  refine WC_sr fun K2 hK2 => ?_
  refine WL_rd (Rd_assign rfl) rfl rfl rfl ?_
  refine WL_end hK2 ?_
  refine WC_seq fun K3 hK3 => ?_
  refine WC_sr fun K4 hK4 => ?_
  refine WL_rd (Rd_convNU (i := 0) rfl ikd3_5 (h' := uk8)) rfl rfl rfl ?_
  refine WL_rd (Rd_notU rfl) rfl rfl rfl ?_
  refine WL_rd (Rd_assign rfl) rfl rfl rfl ?_
  refine WL_end hK4 ?_
  refine WC_block ?_
  refine WC_loop (σ := Nat) (fun i' => [(1, .int .i64 ((i' : Nat) : Int)), (2, .int .u8 (((w8 i').toNat : Nat) : Int))]) (fun i' => F) (fun i' => i' ≤ 1) (fun i' => 1 - i') (0) ?_ ?_ ?_ ?_
  · omega
  · exact (Wk.cons (by first | rfl | (simp only [List.length_append, List.length_cons, List.length_nil, List.length_replicate, Nat.zero_add]; rfl) | (simp; done)) (Wk.cons (by first | rfl | (simp only [List.length_append, List.length_cons, List.length_nil, List.length_replicate, Nat.zero_add]; rfl) | (simp; done)) Wk.nil))
  · repeat (first | with_reducible exact Sub.refl | with_reducible exact Sub.nil | with_reducible refine Sub.cons (by repeat (first | with_reducible exact Ext.here | with_reducible apply Ext.there)) ?_ | with_reducible refine Sub.tail ?_)
  · rintro i' hi K5 hK5
    have hz := w8_nz i' hi
    refine WC_seq fun K6 hK6 => ?_
    refine WC_sr fun K7 hK7 => ?_
    refine WL_rd (Rd_move rfl) rfl rfl rfl ?_
    refine WL_rd (Rd_neqU (b := 0#8) rfl rfl) rfl rfl rfl ?_
    refine WL_end hK7 ?_
    refine WC_cond rfl (fun hc0 => ?_) (fun hc0 => ?_)
    · try simp only [decide_eq_true_eq, decide_eq_false_iff_not, Bool.not_eq_true', Bool.not_eq_false', Bool.not_eq_true, Bool.not_eq_false, Int.not_lt, Int.not_le, Nat.not_lt, Nat.not_le, Decidable.not_not, ne_eq] at hc0
      refine WC_skip ?_
      refine Ps_next hK6 ?_
      refine WC_seq fun K8 hK8 => ?_
      refine WC_block ?_
      refine WC_region ?_
      refine WL_rd (Rd_move rfl) rfl rfl rfl ?_
      refine WL_rd (Rd_addN (j := 1) rfl rfl) rfl rfl rfl ?_
      refine WL_rd (Rd_assign rfl) rfl rfl rfl ?_
      refine WL_nil ?_
      refine Ps_next hK8 ?_
      refine WC_region ?_
      refine WL_rd (Rd_move rfl) rfl rfl rfl ?_
      refine WL_rd (Rd_convU rfl ikd5_58 (h' := uk64)) rfl rfl rfl ?_
      refine WL_rd (Rd_shrU (j := 8) rfl rfl) rfl rfl rfl ?_
      refine WL_rd (Rd_convU rfl ikd58_5 (h' := uk8)) rfl rfl rfl ?_
      refine WL_rd (Rd_assign rfl) rfl rfl rfl ?_
      refine WL_nil ?_
      refine Ps_wk ((Wk.cons (by first | rfl | (simp only [List.length_append, List.length_cons, List.length_nil, List.length_replicate, Nat.zero_add]; rfl) | (simp; done)) (Wk.cons (by first | rfl | (simp only [List.length_append, List.length_cons, List.length_nil, List.length_replicate, Nat.zero_add]; rfl) | (simp; done)) Wk.nil))) (by first | with_reducible exact Sub.refl | ((try dsimp only); repeat (first | with_reducible exact Sub.refl | with_reducible exact Sub.nil | with_reducible refine Sub.cons (by repeat (first | with_reducible exact Ext.here | with_reducible apply Ext.there)) ?_ | with_reducible refine Sub.tail ?_))) (hK5 (i' + 1) (by have := hz.1 hc0; omega) (by have := hz.1 hc0; omega))
    · try simp only [decide_eq_true_eq, decide_eq_false_iff_not, Bool.not_eq_true', Bool.not_eq_false', Bool.not_eq_true, Bool.not_eq_false, Int.not_lt, Int.not_le, Nat.not_lt, Nat.not_le, Decidable.not_not, ne_eq] at hc0
      obtain rfl : i' = 1 := by rcases Nat.lt_or_ge i' 1 with q | q <;> first | exact absurd hc0 (hz.2 q) | omega
      refine WC_exit ?_
      refine Ps_next hK3 ?_
      refine WC_sr fun K9 hK9 => ?_
      refine WL_rd (Rd_move rfl) rfl rfl rfl ?_
      refine WL_rd (Rd_assign rfl) rfl rfl rfl ?_
      refine WL_end hK9 ?_
      refine WC_ret ?_
      exact hret.go () (Rs1 rfl rfl)

theorem bigu8_ct {x : BitVec 8}  : Ct Try.prog 83 [.int .u8 ((x.toNat : Nat) : Int)] [] (fun g : Nat => sl (some g) 1 1) (fun g => [arr (some g) 1 1 5 (eU .u8) (big8 x)]) := by
  refine Ct_body (n := 28) Try.func83 rfl rfl rfl fun F w0 Q hret hnorm hp => ?_
  change WC _ _ _ _ _ _ _ (F)
  refine WC_sr fun K1 hK1 => ?_
  refine WL_rd (Rd_assign (v := sl none 0 0) rfl) rfl rfl rfl ?_
  refine WL_end hK1 ?_
  refine WC_sr fun K2 hK2 => ?_
  refine WL_ac (Ac_call cf92 rfl (hs := widthu8_ct)) rfl rfl rfl ?_
  rintro _ _ ⟨⟨⟩, rfl, hA⟩
  simp only [List.cons_append, List.nil_append] at hA
  replace hA := hA.symm
  subst hA
  refine WL_rd (Rd_assign rfl) rfl rfl rfl ?_
  refine WL_end hK2 ?_
  refine WC_sr fun K3 hK3 => ?_
  refine WL_rd (Rd_move rfl) rfl rfl rfl ?_
  refine WL_ac (Ac_make (f := (eU .u8 (w := 8))) (encU .u8) 0#8 (l := 1) (c := 1) rfl rfl ud23 el5 zr5) rfl rfl rfl ?_
  rintro _ _ ⟨b8, rfl, rfl⟩
  rw [show List.replicate 1 0#8 = bigI 1 (x.setWidth 64) 0 from rfl]
  refine WL_rd (Rd_assign rfl) rfl rfl rfl ?_
  refine WL_end hK3 ?_
  refine WC_seq fun K4 hK4 => ?_
  refine WC_sr fun K5 hK5 => ?_
  refine WL_rd (Rd_move rfl) rfl rfl rfl ?_
  refine WL_rd (Rd_len rfl rfl ud23) rfl rfl rfl ?_
  refine WL_rd (Rd_move rfl) rfl rfl rfl ?_
  refine WL_end hK5 ?_
  refine WC_block ?_
  refine WC_loop (σ := Nat) (fun i' => [(0, .int .u8 ((x.toNat : Nat) : Int)), (3, .int .i64 ((1 : Nat) : Int)), (4, sl (some b8) 1 1), (10, .int .i64 ((1 : Nat) : Int)), (11, .int .i64 ((i' : Nat) : Int))]) (fun i' => arr (some b8) 1 1 5 (eU .u8) (bigI 1 (x.setWidth 64) i') :: F) (fun i' => i' ≤ 1) (fun i' => 1 - i') (0) ?_ ?_ ?_ ?_
  · omega
  · exact (Wk.cons (by first | rfl | (simp only [List.length_append, List.length_cons, List.length_nil, List.length_replicate, Nat.zero_add]; rfl) | (simp; done)) (Wk.cons (by first | rfl | (simp only [List.length_append, List.length_cons, List.length_nil, List.length_replicate, Nat.zero_add]; rfl) | (simp; done)) (Wk.cons (by first | rfl | (simp only [List.length_append, List.length_cons, List.length_nil, List.length_replicate, Nat.zero_add]; rfl) | (simp; done)) (Wk.cons (by first | rfl | (simp only [List.length_append, List.length_cons, List.length_nil, List.length_replicate, Nat.zero_add]; rfl) | (simp; done)) (Wk.cons (by first | rfl | (simp only [List.length_append, List.length_cons, List.length_nil, List.length_replicate, Nat.zero_add]; rfl) | (simp; done)) Wk.nil)))))
  · repeat (first | with_reducible exact Sub.refl | with_reducible exact Sub.nil | with_reducible refine Sub.cons (by repeat (first | with_reducible exact Ext.here | with_reducible apply Ext.there)) ?_ | with_reducible refine Sub.tail ?_)
  · rintro i' hi K6 hK6
    have hbl := bigI_len 1 (x.setWidth 64) i'
    refine WC_sr fun K7 hK7 => ?_
    refine WL_rd (Rd_lssN rfl rfl) rfl rfl rfl ?_
    refine WL_end hK7 ?_
    refine WC_seq fun K8 hK8 => ?_
    refine WC_cond rfl (fun hc0 => ?_) (fun hc0 => ?_)
    · try simp only [decide_eq_true_eq, decide_eq_false_iff_not, Bool.not_eq_true', Bool.not_eq_false', Bool.not_eq_true, Bool.not_eq_false, Int.not_lt, Int.not_le, Nat.not_lt, Nat.not_le, Decidable.not_not, ne_eq] at hc0
      refine WC_skip ?_
      refine Ps_next hK8 ?_
      refine WC_seq fun K9 hK9 => ?_
      refine WC_block ?_
      refine WC_sr fun K10 hK10 => ?_
      refine WL_rd (Rd_move rfl) rfl rfl rfl ?_
      refine WL_rd (Rd_assign rfl) rfl rfl rfl ?_
      refine WL_end hK10 ?_
      refine WC_region ?_
      refine WL_rd (Rd_move rfl) rfl rfl rfl ?_
      refine WL_rd (Rd_move rfl) rfl rfl rfl ?_
      refine WL_rd (Rd_subN (i := 1) (j := 1) rfl rfl) rfl rfl rfl ?_
      refine WL_rd (Rd_move rfl) rfl rfl rfl ?_
      refine WL_rd (Rd_subN rfl rfl) rfl rfl rfl ?_
      refine WL_rd (Rd_move rfl) rfl rfl rfl ?_
      refine WL_rd (Rd_convU rfl ikd5_58 (h' := uk64)) rfl rfl rfl ?_
      refine WL_rd (Rd_move rfl) rfl rfl rfl ?_
      refine WL_rd (Rd_mulN (i := 8) rfl rfl) rfl rfl rfl ?_
      refine WL_rd (Rd_shrU rfl rfl) rfl rfl rfl ?_
      refine WL_rd (Rd_convU rfl ikd58_5 (h' := uk8)) rfl rfl rfl ?_
      refine WL_rd (Rd_index _ rfl rfl ud23 sz5) rfl rfl rfl ?_
      refine WL_ac0 (Ac_storeU rfl rfl sz5) rfl rfl ?_
      rintro _ _ rfl
      rw [bigI_succ]
      refine WL_nil ?_
      refine Ps_next hK9 ?_
      refine WC_region ?_
      refine WL_rd (Rd_addN (j := 1) rfl rfl) rfl rfl rfl ?_
      refine WL_rd (Rd_move rfl) rfl rfl rfl ?_
      refine WL_nil ?_
      refine Ps_wk ((Wk.cons (by first | rfl | (simp only [List.length_append, List.length_cons, List.length_nil, List.length_replicate, Nat.zero_add]; rfl) | (simp; done)) (Wk.cons (by first | rfl | (simp only [List.length_append, List.length_cons, List.length_nil, List.length_replicate, Nat.zero_add]; rfl) | (simp; done)) (Wk.cons (by first | rfl | (simp only [List.length_append, List.length_cons, List.length_nil, List.length_replicate, Nat.zero_add]; rfl) | (simp; done)) (Wk.cons (by first | rfl | (simp only [List.length_append, List.length_cons, List.length_nil, List.length_replicate, Nat.zero_add]; rfl) | (simp; done)) (Wk.cons (by first | rfl | (simp only [List.length_append, List.length_cons, List.length_nil, List.length_replicate, Nat.zero_add]; rfl) | (simp; done)) Wk.nil)))))) (by first | with_reducible exact Sub.refl | ((try dsimp only); repeat (first | with_reducible exact Sub.refl | with_reducible exact Sub.nil | with_reducible refine Sub.cons (by repeat (first | with_reducible exact Ext.here | with_reducible apply Ext.there)) ?_ | with_reducible refine Sub.tail ?_))) (hK6 (i' + 1) (by omega) (by omega))
    · try simp only [decide_eq_true_eq, decide_eq_false_iff_not, Bool.not_eq_true', Bool.not_eq_false', Bool.not_eq_true, Bool.not_eq_false, Int.not_lt, Int.not_le, Nat.not_lt, Nat.not_le, Decidable.not_not, ne_eq] at hc0
      obtain rfl : i' = 1 := by omega
      rw [show big8 x = bigI 1 (x.setWidth 64) 1 from rfl] at hret
      refine WC_exit ?_
      refine Ps_next hK4 ?_
      refine WC_sr fun K11 hK11 => ?_
      refine WL_rd (Rd_move rfl) rfl rfl rfl ?_
      refine WL_rd (Rd_assign rfl) rfl rfl rfl ?_
      refine WL_end hK11 ?_
      refine WC_ret ?_
      exact hret.go b8 (Rs1 rfl rfl)
end Go.Proofs.Ytlcafifjhilleaa
