/-
  Contracts of functions that the claim reaches, or the row over them: the law returns true for every input of bulk at most 1048576. (Conditions: none beyond the statement.)
-/
import Derived.Test.YtcookmkklcbbnaaRows
import Derived.Test.YtcookmkklcbbnaaSlTyp
import Derived.Test.YtcookmkklcbbnaaSlCmp
import Derived.Test.YtcookmkklcbbnaaSlCnv
set_option linter.all false
namespace Go.Proofs.Ytcookmkklcbbnaa
open Go.RowKit Go.SL 
set_option maxHeartbeats 1000000
set_option maxRecDepth 20000
set_option linter.all false
theorem cf10 : cfn Try.prog 10 = true := by kernel_rfl
theorem cf11 : cfn Try.prog 11 = true := by kernel_rfl
theorem cf36 : cfn Try.prog 36 = true := by kernel_rfl
theorem cf37 : cfn Try.prog 37 = true := by kernel_rfl
theorem cf38 : cfn Try.prog 38 = true := by kernel_rfl
theorem fls27 : fls Try.prog 27 = some [(0, 25), (1, 3)] := by kernel_rfl
theorem fo27_0 : fo Try.prog 27 0 = some (0, 25) := by kernel_rfl
theorem fo27_1 : fo Try.prog 27 1 = some (1, 3) := by kernel_rfl
theorem fo30_0 : fo Try.prog 30 0 = some (0, 22) := by kernel_rfl
theorem fo30_1 : fo Try.prog 30 1 = some (1, 24) := by kernel_rfl
theorem fo30_2 : fo Try.prog 30 2 = some (17, 3) := by kernel_rfl
theorem fo30_3 : fo Try.prog 30 3 = some (18, 3) := by kernel_rfl
theorem fo30_4 : fo Try.prog 30 4 = some (19, 3) := by kernel_rfl
theorem fo30_5 : fo Try.prog 30 5 = some (20, 27) := by kernel_rfl
theorem fo30_6 : fo Try.prog 30 6 = some (22, 28) := by kernel_rfl
theorem mix : Try.prog.follows .mixedOrders = true := by kernel_rfl
theorem pls27 : pls Try.prog 27 = some ([.int .u32 0, .int .i64 0], [(0, 1), (1, 1)]) := by kernel_rfl
theorem pls30 : pls Try.prog 30 = some ([.int .u8 0, .int .u8 0, .int .u8 0, .int .u8 0, .int .u8 0, .int .u8 0, .int .u8 0, .int .u8 0, .int .u8 0, .int .u8 0, .int .u8 0, .int .u8 0, .int .u8 0, .int .u8 0, .int .u8 0, .int .u8 0, .int .u8 0, .int .i64 0, .int .i64 0, .int .i64 0, .int .u32 0, .int .i64 0, .slice none 0 0], [(0, 1), (1, 16), (17, 1), (18, 1), (19, 1), (20, 2), (22, 1)]) := by kernel_rfl
theorem sz3 : sz Try.prog 3 = some 1 := by kernel_rfl
theorem sz25 : sz Try.prog 25 = some 1 := by kernel_rfl
theorem sz27 : sz Try.prog 27 = some 2 := by kernel_rfl
theorem sz28 : sz Try.prog 28 = some 1 := by kernel_rfl
theorem sz30 : sz Try.prog 30 = some 23 := by kernel_rfl
theorem tk3 : tk Try.prog 3 = some none := by kernel_rfl
theorem tk22 : tk Try.prog 22 = some none := by kernel_rfl
theorem tk24 : tk Try.prog 24 = some (some 16) := by kernel_rfl
theorem tk25 : tk Try.prog 25 = some none := by kernel_rfl
theorem tk27 : tk Try.prog 27 = some (some 2) := by kernel_rfl
theorem tk28 : tk Try.prog 28 = some none := by kernel_rfl
theorem tk30 : tk Try.prog 30 = some (some 23) := by kernel_rfl
theorem ud3 : Try.prog.underlying 3 = some (.int .i64) := by kernel_rfl
theorem ud4 : Try.prog.underlying 4 = some (.bool) := by kernel_rfl
theorem ud25 : Try.prog.underlying 25 = some (.int .u32) := by kernel_rfl
theorem ud28 : Try.prog.underlying 28 = some (.slice 5) := by kernel_rfl
theorem zr30 : zr Try.prog 30 = some [.int .u8 0, .int .u8 0, .int .u8 0, .int .u8 0, .int .u8 0, .int .u8 0, .int .u8 0, .int .u8 0, .int .u8 0, .int .u8 0, .int .u8 0, .int .u8 0, .int .u8 0, .int .u8 0, .int .u8 0, .int .u8 0, .int .u8 0, .int .i64 0, .int .i64 0, .int .i64 0, .int .u32 0, .int .i64 0, .slice none 0 0] := by kernel_rfl
def bareM (n f c wh un : Int) (len : Nat) (bn bf bl bb : Bool) : Bool :=
  (bn || decide (n = 0)) && (bf || (decide (f = 0) && decide (c = 0))) && (bl || (decide (wh = 0) && decide (un = 0))) && (bb || decide (len = 0)) && decide (0 ≤ n) && decide (n < 255) && decide (0 ≤ un) && decide (un ≤ 1099511627776)
def mayM (k n f c wh un : Int) (len : Nat) : Bool :=
  (decide (k = 1) && bareM n f c wh un len false false false false) || (decide (k = 2) && bareM n f c wh un len true false true true && decide (len ≤ 33554432)) ||
  (decide (k = 3) && bareM n f c wh un len true true false false && decide (0 ≤ f) && decide (f ≤ 33554432) && decide (1 ≤ c) && decide (c ≤ 131072)) ||
  (decide (k = 4) && bareM n f c wh un len false false true false) || (decide (k = 5) && bareM n f c wh un len false false true false && decide (un = 0))

theorem number_ct {n : Int}  : Ct Try.prog 36 [.int .i64 n] [] (fun _ : Unit => .bool (decide (0 ≤ n) && decide (n < 255))) (fun _ => []) := by
  refine Ct_body (n := 9) Try.func36 rfl rfl rfl fun F w0 Q hret hnorm hp => ?_
  change WC _ _ _ _ _ _ (F)
  refine WC_sr fun K1 hK1 => ?_
  refine WL_rd (Rd_assign rfl) rfl rfl rfl ?_
  refine WL_end hK1 ?_
  refine WC_sr fun K2 hK2 => ?_
  refine WL_rd (Rd_move rfl) rfl rfl rfl ?_
  refine WL_rd (Rd_geq rfl rfl) rfl rfl rfl ?_
  refine WL_rd (Rd_move rfl) rfl rfl rfl ?_
  refine WL_bool 5 rfl (fun hg3 => ?_) (fun hg3 => ?_)
  · try simp only [decide_eq_true_eq, decide_eq_false_iff_not, Bool.not_eq_true', Bool.not_eq_false', Bool.not_eq_true, Bool.not_eq_false, Int.not_lt, Int.not_le, Nat.not_lt, Nat.not_le, Decidable.not_not, ne_eq] at hg3
    refine WL_rd (Rd_move rfl) rfl rfl rfl ?_
    refine WL_rd (Rd_lss rfl rfl) rfl rfl rfl ?_
    refine WL_rd (Rd_pickT rfl rfl) rfl rfl rfl ?_
    refine WL_rd (Rd_assign rfl) rfl rfl rfl ?_
    refine WL_end hK2 ?_
    refine WC_ret ?_
    exact hret.goE () (Rs1 rfl rfl) (by first | (congr 1; done) | (congr 1; simp [mayM, bareM, *]; done) | (congr 1; simp [mayM, bareM, *]; omega) | (congr 1; rw [Bool.eq_iff_iff]; simp [mayM, bareM, *]; omega) | (congr 1; rw [Bool.eq_iff_iff]; simp [mayM, bareM] at * <;> omega))
  · try simp only [decide_eq_true_eq, decide_eq_false_iff_not, Bool.not_eq_true', Bool.not_eq_false', Bool.not_eq_true, Bool.not_eq_false, Int.not_lt, Int.not_le, Nat.not_lt, Nat.not_le, Decidable.not_not, ne_eq] at hg3
    refine WL_skip rfl rfl rfl ?_
    refine WL_skip rfl rfl rfl ?_
    refine WL_rd (Rd_pickF rfl rfl) rfl rfl rfl ?_
    refine WL_rd (Rd_assign rfl) rfl rfl rfl ?_
    refine WL_end hK2 ?_
    refine WC_ret ?_
    exact hret.goE () (Rs1 rfl rfl) (by first | (congr 1; done) | (congr 1; simp [mayM, bareM, *]; done) | (congr 1; simp [mayM, bareM, *]; omega) | (congr 1; rw [Bool.eq_iff_iff]; simp [mayM, bareM, *]; omega) | (congr 1; rw [Bool.eq_iff_iff]; simp [mayM, bareM] at * <;> omega))

theorem until_ct {n : Int}  : Ct Try.prog 37 [.int .i64 n] [] (fun _ : Unit => .bool (decide (0 ≤ n) && decide (n ≤ 1099511627776))) (fun _ => []) := by
  refine Ct_body (n := 9) Try.func37 rfl rfl rfl fun F w0 Q hret hnorm hp => ?_
  change WC _ _ _ _ _ _ (F)
  refine WC_sr fun K1 hK1 => ?_
  refine WL_rd (Rd_assign rfl) rfl rfl rfl ?_
  refine WL_end hK1 ?_
  refine WC_sr fun K2 hK2 => ?_
  refine WL_rd (Rd_move rfl) rfl rfl rfl ?_
  refine WL_rd (Rd_geq rfl rfl) rfl rfl rfl ?_
  refine WL_rd (Rd_move rfl) rfl rfl rfl ?_
  refine WL_bool 5 rfl (fun hg3 => ?_) (fun hg3 => ?_)
  · try simp only [decide_eq_true_eq, decide_eq_false_iff_not, Bool.not_eq_true', Bool.not_eq_false', Bool.not_eq_true, Bool.not_eq_false, Int.not_lt, Int.not_le, Nat.not_lt, Nat.not_le, Decidable.not_not, ne_eq] at hg3
    refine WL_rd (Rd_move rfl) rfl rfl rfl ?_
    refine WL_rd (Rd_leq rfl rfl) rfl rfl rfl ?_
    refine WL_rd (Rd_pickT rfl rfl) rfl rfl rfl ?_
    refine WL_rd (Rd_assign rfl) rfl rfl rfl ?_
    refine WL_end hK2 ?_
    refine WC_ret ?_
    exact hret.goE () (Rs1 rfl rfl) (by first | (congr 1; done) | (congr 1; simp [mayM, bareM, *]; done) | (congr 1; simp [mayM, bareM, *]; omega) | (congr 1; rw [Bool.eq_iff_iff]; simp [mayM, bareM, *]; omega) | (congr 1; rw [Bool.eq_iff_iff]; simp [mayM, bareM] at * <;> omega))
  · try simp only [decide_eq_true_eq, decide_eq_false_iff_not, Bool.not_eq_true', Bool.not_eq_false', Bool.not_eq_true, Bool.not_eq_false, Int.not_lt, Int.not_le, Nat.not_lt, Nat.not_le, Decidable.not_not, ne_eq] at hg3
    refine WL_skip rfl rfl rfl ?_
    refine WL_skip rfl rfl rfl ?_
    refine WL_rd (Rd_pickF rfl rfl) rfl rfl rfl ?_
    refine WL_rd (Rd_assign rfl) rfl rfl rfl ?_
    refine WL_end hK2 ?_
    refine WC_ret ?_
    exact hret.goE () (Rs1 rfl rfl) (by first | (congr 1; done) | (congr 1; simp [mayM, bareM, *]; done) | (congr 1; simp [mayM, bareM, *]; omega) | (congr 1; rw [Bool.eq_iff_iff]; simp [mayM, bareM, *]; omega) | (congr 1; rw [Bool.eq_iff_iff]; simp [mayM, bareM] at * <;> omega))

theorem bare0_ct {k n f c wh un : Int} {x0 x1 x2 x3 x4 x5 x6 x7 x8 x9 x10 x11 x12 x13 x14 x15 : Int} {ao : Option Addr} {len cap : Nat}  : Ct Try.prog 38 [.agg [.int .u8 k, .int .u8 x0, .int .u8 x1, .int .u8 x2, .int .u8 x3, .int .u8 x4, .int .u8 x5, .int .u8 x6, .int .u8 x7, .int .u8 x8, .int .u8 x9, .int .u8 x10, .int .u8 x11, .int .u8 x12, .int .u8 x13, .int .u8 x14, .int .u8 x15, .int .i64 n, .int .i64 f, .int .i64 c, .int .u32 wh, .int .i64 un, .slice ao len cap].toArray, .bool false, .bool false, .bool false, .bool false] [] (fun _ : Unit => .bool (bareM n f c wh un len false false false false)) (fun _ => []) := by
  refine Ct_body (n := 72) Try.func38 rfl rfl rfl fun F w0 Q hret hnorm hp => ?_
  change WC _ _ _ _ _ _ (F)
  refine WC_sr fun K1 hK1 => ?_
  refine WL_ac (Ac_box rfl rfl) rfl rfl rfl ?_
  rintro _ _ ⟨b5, rfl, rfl⟩
  refine WL_rd (Rd_assign rfl) rfl rfl rfl ?_
  refine WL_end hK1 ?_
  refine WC_seq fun K2 hK2 => ?_
  refine WC_sr fun K3 hK3 => ?_
  refine WL_rd (Rd_move rfl) rfl rfl rfl ?_
  refine WL_rd (Rd_not rfl) rfl rfl rfl ?_
  refine WL_rd (Rd_move rfl) rfl rfl rfl ?_
  refine WL_rd (Rd_fieldAddr rfl fo30_2) rfl rfl rfl ?_
  refine WL_rd (Rd_load rfl tk3) rfl rfl rfl ?_
  first | refine WL_rd (Rd_neqN (j := 0) rfl rfl) rfl rfl rfl ?_ | refine WL_rd (Rd_neq rfl rfl) rfl rfl rfl ?_
  refine WL_rd (Rd_pickT rfl rfl) rfl rfl rfl ?_
  refine WL_rd (Rd_move rfl) rfl rfl rfl ?_
  refine WL_bool 18 rfl (fun hg4 => ?_) (fun hg4 => ?_)
  · try simp only [decide_eq_true_eq, decide_eq_false_iff_not, Bool.not_eq_true', Bool.not_eq_false', Bool.not_eq_true, Bool.not_eq_false, Int.not_lt, Int.not_le, Nat.not_lt, Nat.not_le, Decidable.not_not, ne_eq] at hg4
    refine WL_skip rfl rfl rfl ?_
    refine WL_skip rfl rfl rfl ?_
    refine WL_skip rfl rfl rfl ?_
    refine WL_skip rfl rfl rfl ?_
    refine WL_skip rfl rfl rfl ?_
    refine WL_skip rfl rfl rfl ?_
    refine WL_skip rfl rfl rfl ?_
    refine WL_skip rfl rfl rfl ?_
    refine WL_skip rfl rfl rfl ?_
    refine WL_skip rfl rfl rfl ?_
    refine WL_skip rfl rfl rfl ?_
    refine WL_skip rfl rfl rfl ?_
    refine WL_rd (Rd_pickT rfl rfl) rfl rfl rfl ?_
    refine WL_rd (Rd_move rfl) rfl rfl rfl ?_
    refine WL_skip rfl rfl rfl ?_
    refine WL_skip rfl rfl rfl ?_
    refine WL_skip rfl rfl rfl ?_
    refine WL_skip rfl rfl rfl ?_
    refine WL_skip rfl rfl rfl ?_
    refine WL_skip rfl rfl rfl ?_
    refine WL_skip rfl rfl rfl ?_
    refine WL_skip rfl rfl rfl ?_
    refine WL_rd (Rd_pickT rfl rfl) rfl rfl rfl ?_
    refine WL_rd (Rd_move rfl) rfl rfl rfl ?_
    refine WL_skip rfl rfl rfl ?_
    refine WL_skip rfl rfl rfl ?_
    refine WL_skip rfl rfl rfl ?_
    refine WL_skip rfl rfl rfl ?_
    refine WL_skip rfl rfl rfl ?_
    refine WL_skip rfl rfl rfl ?_
    refine WL_skip rfl rfl rfl ?_
    refine WL_skip rfl rfl rfl ?_
    refine WL_rd (Rd_pickT rfl rfl) rfl rfl rfl ?_
    refine WL_end hK3 ?_
    refine WC_condT rfl ?_
    refine WC_sr fun K5 hK5 => ?_
    refine WL_rd (Rd_assign rfl) rfl rfl rfl ?_
    refine WL_end hK5 ?_
    refine WC_ret ?_
    exact hret.goE () (Rs1 rfl rfl) (by first | (congr 1; done) | (congr 1; simp [mayM, bareM, *]; done) | (congr 1; simp [mayM, bareM, *]; omega) | (congr 1; rw [Bool.eq_iff_iff]; simp [mayM, bareM, *]; omega) | (congr 1; rw [Bool.eq_iff_iff]; simp [mayM, bareM] at * <;> omega))
  · try simp only [decide_eq_true_eq, decide_eq_false_iff_not, Bool.not_eq_true', Bool.not_eq_false', Bool.not_eq_true, Bool.not_eq_false, Int.not_lt, Int.not_le, Nat.not_lt, Nat.not_le, Decidable.not_not, ne_eq] at hg4
    refine WL_rd (Rd_move rfl) rfl rfl rfl ?_
    refine WL_rd (Rd_not rfl) rfl rfl rfl ?_
    refine WL_rd (Rd_move rfl) rfl rfl rfl ?_
    refine WL_rd (Rd_fieldAddr rfl fo30_3) rfl rfl rfl ?_
    refine WL_rd (Rd_load rfl tk3) rfl rfl rfl ?_
    first | refine WL_rd (Rd_neqN (j := 0) rfl rfl) rfl rfl rfl ?_ | refine WL_rd (Rd_neq rfl rfl) rfl rfl rfl ?_
    refine WL_rd (Rd_move rfl) rfl rfl rfl ?_
    refine WL_bool 25 rfl (fun hg6 => ?_) (fun hg6 => ?_)
    · try simp only [decide_eq_true_eq, decide_eq_false_iff_not, Bool.not_eq_true', Bool.not_eq_false', Bool.not_eq_true, Bool.not_eq_false, Int.not_lt, Int.not_le, Nat.not_lt, Nat.not_le, Decidable.not_not, ne_eq] at hg6
      refine WL_skip rfl rfl rfl ?_
      refine WL_skip rfl rfl rfl ?_
      refine WL_skip rfl rfl rfl ?_
      refine WL_rd (Rd_pickT rfl rfl) rfl rfl rfl ?_
      refine WL_rd (Rd_pickT rfl rfl) rfl rfl rfl ?_
      refine WL_rd (Rd_pickF rfl rfl) rfl rfl rfl ?_
      refine WL_rd (Rd_move rfl) rfl rfl rfl ?_
      refine WL_skip rfl rfl rfl ?_
      refine WL_skip rfl rfl rfl ?_
      refine WL_skip rfl rfl rfl ?_
      refine WL_skip rfl rfl rfl ?_
      refine WL_skip rfl rfl rfl ?_
      refine WL_skip rfl rfl rfl ?_
      refine WL_skip rfl rfl rfl ?_
      refine WL_skip rfl rfl rfl ?_
      refine WL_rd (Rd_pickT rfl rfl) rfl rfl rfl ?_
      refine WL_rd (Rd_move rfl) rfl rfl rfl ?_
      refine WL_skip rfl rfl rfl ?_
      refine WL_skip rfl rfl rfl ?_
      refine WL_skip rfl rfl rfl ?_
      refine WL_skip rfl rfl rfl ?_
      refine WL_skip rfl rfl rfl ?_
      refine WL_skip rfl rfl rfl ?_
      refine WL_skip rfl rfl rfl ?_
      refine WL_skip rfl rfl rfl ?_
      refine WL_rd (Rd_pickT rfl rfl) rfl rfl rfl ?_
      refine WL_end hK3 ?_
      refine WC_condT rfl ?_
      refine WC_sr fun K7 hK7 => ?_
      refine WL_rd (Rd_assign rfl) rfl rfl rfl ?_
      refine WL_end hK7 ?_
      refine WC_ret ?_
      exact hret.goE () (Rs1 rfl rfl) (by first | (congr 1; done) | (congr 1; simp [mayM, bareM, *]; done) | (congr 1; simp [mayM, bareM, *]; omega) | (congr 1; rw [Bool.eq_iff_iff]; simp [mayM, bareM, *]; omega) | (congr 1; rw [Bool.eq_iff_iff]; simp [mayM, bareM] at * <;> omega))
    · try simp only [decide_eq_true_eq, decide_eq_false_iff_not, Bool.not_eq_true', Bool.not_eq_false', Bool.not_eq_true, Bool.not_eq_false, Int.not_lt, Int.not_le, Nat.not_lt, Nat.not_le, Decidable.not_not, ne_eq] at hg6
      refine WL_rd (Rd_fieldAddr rfl fo30_4) rfl rfl rfl ?_
      refine WL_rd (Rd_load rfl tk3) rfl rfl rfl ?_
      first | refine WL_rd (Rd_neqN (j := 0) rfl rfl) rfl rfl rfl ?_ | refine WL_rd (Rd_neq rfl rfl) rfl rfl rfl ?_
      refine WL_rd (Rd_pickF rfl rfl) rfl rfl rfl ?_
      refine WL_rd (Rd_pickT rfl rfl) rfl rfl rfl ?_
      refine WL_rd (Rd_pickF rfl rfl) rfl rfl rfl ?_
      refine WL_rd (Rd_move rfl) rfl rfl rfl ?_
      refine WL_bool 32 rfl (fun hg8 => ?_) (fun hg8 => ?_)
      · try simp only [decide_eq_true_eq, decide_eq_false_iff_not, Bool.not_eq_true', Bool.not_eq_false', Bool.not_eq_true, Bool.not_eq_false, Int.not_lt, Int.not_le, Nat.not_lt, Nat.not_le, Decidable.not_not, ne_eq] at hg8
        refine WL_skip rfl rfl rfl ?_
        refine WL_skip rfl rfl rfl ?_
        refine WL_skip rfl rfl rfl ?_
        refine WL_skip rfl rfl rfl ?_
        refine WL_skip rfl rfl rfl ?_
        refine WL_skip rfl rfl rfl ?_
        refine WL_skip rfl rfl rfl ?_
        refine WL_skip rfl rfl rfl ?_
        refine WL_rd (Rd_pickT rfl rfl) rfl rfl rfl ?_
        refine WL_rd (Rd_move rfl) rfl rfl rfl ?_
        refine WL_skip rfl rfl rfl ?_
        refine WL_skip rfl rfl rfl ?_
        refine WL_skip rfl rfl rfl ?_
        refine WL_skip rfl rfl rfl ?_
        refine WL_skip rfl rfl rfl ?_
        refine WL_skip rfl rfl rfl ?_
        refine WL_skip rfl rfl rfl ?_
        refine WL_skip rfl rfl rfl ?_
        refine WL_rd (Rd_pickT rfl rfl) rfl rfl rfl ?_
        refine WL_end hK3 ?_
        refine WC_condT rfl ?_
        refine WC_sr fun K9 hK9 => ?_
        refine WL_rd (Rd_assign rfl) rfl rfl rfl ?_
        refine WL_end hK9 ?_
        refine WC_ret ?_
        exact hret.goE () (Rs1 rfl rfl) (by first | (congr 1; done) | (congr 1; simp [mayM, bareM, *]; done) | (congr 1; simp [mayM, bareM, *]; omega) | (congr 1; rw [Bool.eq_iff_iff]; simp [mayM, bareM, *]; omega) | (congr 1; rw [Bool.eq_iff_iff]; simp [mayM, bareM] at * <;> omega))
      · try simp only [decide_eq_true_eq, decide_eq_false_iff_not, Bool.not_eq_true', Bool.not_eq_false', Bool.not_eq_true, Bool.not_eq_false, Int.not_lt, Int.not_le, Nat.not_lt, Nat.not_le, Decidable.not_not, ne_eq] at hg8
        refine WL_rd (Rd_move rfl) rfl rfl rfl ?_
        refine WL_rd (Rd_not rfl) rfl rfl rfl ?_
        refine WL_rd (Rd_move rfl) rfl rfl rfl ?_
        refine WL_rd (Rd_fieldAddr rfl fo30_5) rfl rfl rfl ?_
        refine WL_rd (Rd_loadg rfl tk27) rfl rfl rfl ?_
        refine WL_rd (Rd_build pls27 rfl) rfl rfl rfl ?_
        refine WL_rd (Rd_neS rfl rfl fls27 (EqL.sc tk25 rfl rfl (Eqs_int ud25 _ _) (EqL.sc tk3 rfl rfl (Eqs_int ud3 _ _) EqL.nil))) rfl rfl rfl ?_
        refine WL_rd (Rd_pickT rfl rfl) rfl rfl rfl ?_
        refine WL_rd (Rd_pickF rfl rfl) rfl rfl rfl ?_
        refine WL_rd (Rd_move rfl) rfl rfl rfl ?_
        refine WL_bool 42 rfl (fun hg10 => ?_) (fun hg10 => ?_)
        · try simp only [decide_eq_true_eq, decide_eq_false_iff_not, Bool.not_eq_true', Bool.not_eq_false', Bool.not_eq_true, Bool.not_eq_false, Int.not_lt, Int.not_le, Nat.not_lt, Nat.not_le, Decidable.not_not, ne_eq] at hg10
          refine WL_skip rfl rfl rfl ?_
          refine WL_skip rfl rfl rfl ?_
          refine WL_skip rfl rfl rfl ?_
          refine WL_skip rfl rfl rfl ?_
          refine WL_skip rfl rfl rfl ?_
          refine WL_skip rfl rfl rfl ?_
          refine WL_skip rfl rfl rfl ?_
          refine WL_skip rfl rfl rfl ?_
          refine WL_rd (Rd_pickT rfl rfl) rfl rfl rfl ?_
          refine WL_end hK3 ?_
          refine WC_condT rfl ?_
          refine WC_sr fun K11 hK11 => ?_
          refine WL_rd (Rd_assign rfl) rfl rfl rfl ?_
          refine WL_end hK11 ?_
          refine WC_ret ?_
          exact hret.goE () (Rs1 rfl rfl) (by first | (congr 1; done) | (congr 1; simp [mayM, bareM, *]; done) | (congr 1; simp [mayM, bareM, *]; omega) | (congr 1; rw [Bool.eq_iff_iff]; simp [mayM, bareM, *]; omega) | (congr 1; rw [Bool.eq_iff_iff]; simp [mayM, bareM] at * <;> omega))
        · try simp only [decide_eq_true_eq, decide_eq_false_iff_not, Bool.not_eq_true', Bool.not_eq_false', Bool.not_eq_true, Bool.not_eq_false, Int.not_lt, Int.not_le, Nat.not_lt, Nat.not_le, Decidable.not_not, ne_eq] at hg10
          refine WL_rd (Rd_move rfl) rfl rfl rfl ?_
          refine WL_rd (Rd_not rfl) rfl rfl rfl ?_
          refine WL_rd (Rd_move rfl) rfl rfl rfl ?_
          refine WL_rd (Rd_fieldAddr rfl fo30_6) rfl rfl rfl ?_
          refine WL_rd (Rd_load rfl tk28) rfl rfl rfl ?_
          first | refine WL_rd (Rd_len rfl rfl ud28) rfl rfl rfl ?_ | refine WL_rd (Rd_len_sv rfl rfl ud28) rfl rfl rfl ?_
          refine WL_rd (Rd_neqN (j := 0) rfl rfl) rfl rfl rfl ?_
          refine WL_rd (Rd_pickT rfl rfl) rfl rfl rfl ?_
          refine WL_rd (Rd_pickF rfl rfl) rfl rfl rfl ?_
          refine WL_end hK3 ?_
          refine WC_cond rfl (fun hc0 => ?_) (fun hc0 => ?_)
          · try simp only [decide_eq_true_eq, decide_eq_false_iff_not, Bool.not_eq_true', Bool.not_eq_false', Bool.not_eq_true, Bool.not_eq_false, Int.not_lt, Int.not_le, Nat.not_lt, Nat.not_le, Decidable.not_not, ne_eq] at hc0
            refine WC_sr fun K12 hK12 => ?_
            refine WL_rd (Rd_assign rfl) rfl rfl rfl ?_
            refine WL_end hK12 ?_
            refine WC_ret ?_
            exact hret.goE () (Rs1 rfl rfl) (by first | (congr 1; done) | (congr 1; simp [mayM, bareM, *]; done) | (congr 1; simp [mayM, bareM, *]; omega) | (congr 1; rw [Bool.eq_iff_iff]; simp [mayM, bareM, *]; omega) | (congr 1; rw [Bool.eq_iff_iff]; simp [mayM, bareM] at * <;> omega))
          · try simp only [decide_eq_true_eq, decide_eq_false_iff_not, Bool.not_eq_true', Bool.not_eq_false', Bool.not_eq_true, Bool.not_eq_false, Int.not_lt, Int.not_le, Nat.not_lt, Nat.not_le, Decidable.not_not, ne_eq] at hc0
            refine WC_skip ?_
            refine Ps_next hK2 ?_
            refine WC_sr fun K13 hK13 => ?_
            refine WL_rd (Rd_fieldAddr rfl fo30_2) rfl rfl rfl ?_
            refine WL_rd (Rd_load rfl tk3) rfl rfl rfl ?_
            first | refine WL_rd (Rd_geqN (j := 0) rfl rfl) rfl rfl rfl ?_ | refine WL_rd (Rd_geq rfl rfl) rfl rfl rfl ?_
            refine WL_rd (Rd_move rfl) rfl rfl rfl ?_
            refine WL_bool 55 rfl (fun hg14 => ?_) (fun hg14 => ?_)
            · try simp only [decide_eq_true_eq, decide_eq_false_iff_not, Bool.not_eq_true', Bool.not_eq_false', Bool.not_eq_true, Bool.not_eq_false, Int.not_lt, Int.not_le, Nat.not_lt, Nat.not_le, Decidable.not_not, ne_eq] at hg14
              refine WL_rd (Rd_fieldAddr rfl fo30_2) rfl rfl rfl ?_
              refine WL_rd (Rd_load rfl tk3) rfl rfl rfl ?_
              first | refine WL_rd (Rd_lssN (j := 255) rfl rfl) rfl rfl rfl ?_ | refine WL_rd (Rd_lss rfl rfl) rfl rfl rfl ?_
              refine WL_rd (Rd_pickT rfl rfl) rfl rfl rfl ?_
              refine WL_rd (Rd_move rfl) rfl rfl rfl ?_
              refine WL_bool 60 rfl (fun hg15 => ?_) (fun hg15 => ?_)
              · try simp only [decide_eq_true_eq, decide_eq_false_iff_not, Bool.not_eq_true', Bool.not_eq_false', Bool.not_eq_true, Bool.not_eq_false, Int.not_lt, Int.not_le, Nat.not_lt, Nat.not_le, Decidable.not_not, ne_eq] at hg15
                refine WL_rd (Rd_fieldAddr rfl fo30_5) rfl rfl rfl ?_
                refine WL_rd (Rd_fieldAddr rfl fo27_1) rfl rfl rfl ?_
                refine WL_rd (Rd_load rfl tk3) rfl rfl rfl ?_
                first | refine WL_rd (Rd_geqN (j := 0) rfl rfl) rfl rfl rfl ?_ | refine WL_rd (Rd_geq rfl rfl) rfl rfl rfl ?_
                refine WL_rd (Rd_pickT rfl rfl) rfl rfl rfl ?_
                refine WL_rd (Rd_move rfl) rfl rfl rfl ?_
                refine WL_bool 66 rfl (fun hg16 => ?_) (fun hg16 => ?_)
                · try simp only [decide_eq_true_eq, decide_eq_false_iff_not, Bool.not_eq_true', Bool.not_eq_false', Bool.not_eq_true, Bool.not_eq_false, Int.not_lt, Int.not_le, Nat.not_lt, Nat.not_le, Decidable.not_not, ne_eq] at hg16
                  refine WL_rd (Rd_fieldAddr rfl fo30_5) rfl rfl rfl ?_
                  refine WL_rd (Rd_fieldAddr rfl fo27_1) rfl rfl rfl ?_
                  refine WL_rd (Rd_load rfl tk3) rfl rfl rfl ?_
                  first | refine WL_rd (Rd_leqN (j := 1099511627776) rfl rfl) rfl rfl rfl ?_ | refine WL_rd (Rd_leq rfl rfl) rfl rfl rfl ?_
                  refine WL_rd (Rd_pickT rfl rfl) rfl rfl rfl ?_
                  refine WL_rd (Rd_assign rfl) rfl rfl rfl ?_
                  refine WL_end hK13 ?_
                  refine WC_ret ?_
                  exact hret.goE () (Rs1 rfl rfl) (by first | (congr 1; done) | (congr 1; simp [mayM, bareM, *]; done) | (congr 1; simp [mayM, bareM, *]; omega) | (congr 1; rw [Bool.eq_iff_iff]; simp [mayM, bareM, *]; omega) | (congr 1; rw [Bool.eq_iff_iff]; simp [mayM, bareM] at * <;> omega))
                · try simp only [decide_eq_true_eq, decide_eq_false_iff_not, Bool.not_eq_true', Bool.not_eq_false', Bool.not_eq_true, Bool.not_eq_false, Int.not_lt, Int.not_le, Nat.not_lt, Nat.not_le, Decidable.not_not, ne_eq] at hg16
                  refine WL_skip rfl rfl rfl ?_
                  refine WL_skip rfl rfl rfl ?_
                  refine WL_skip rfl rfl rfl ?_
                  refine WL_skip rfl rfl rfl ?_
                  refine WL_rd (Rd_pickF rfl rfl) rfl rfl rfl ?_
                  refine WL_rd (Rd_assign rfl) rfl rfl rfl ?_
                  refine WL_end hK13 ?_
                  refine WC_ret ?_
                  exact hret.goE () (Rs1 rfl rfl) (by first | (congr 1; done) | (congr 1; simp [mayM, bareM, *]; done) | (congr 1; simp [mayM, bareM, *]; omega) | (congr 1; rw [Bool.eq_iff_iff]; simp [mayM, bareM, *]; omega) | (congr 1; rw [Bool.eq_iff_iff]; simp [mayM, bareM] at * <;> omega))
              · try simp only [decide_eq_true_eq, decide_eq_false_iff_not, Bool.not_eq_true', Bool.not_eq_false', Bool.not_eq_true, Bool.not_eq_false, Int.not_lt, Int.not_le, Nat.not_lt, Nat.not_le, Decidable.not_not, ne_eq] at hg15
                refine WL_skip rfl rfl rfl ?_
                refine WL_skip rfl rfl rfl ?_
                refine WL_skip rfl rfl rfl ?_
                refine WL_skip rfl rfl rfl ?_
                refine WL_rd (Rd_pickF rfl rfl) rfl rfl rfl ?_
                refine WL_rd (Rd_move rfl) rfl rfl rfl ?_
                refine WL_skip rfl rfl rfl ?_
                refine WL_skip rfl rfl rfl ?_
                refine WL_skip rfl rfl rfl ?_
                refine WL_skip rfl rfl rfl ?_
                refine WL_rd (Rd_pickF rfl rfl) rfl rfl rfl ?_
                refine WL_rd (Rd_assign rfl) rfl rfl rfl ?_
                refine WL_end hK13 ?_
                refine WC_ret ?_
                exact hret.goE () (Rs1 rfl rfl) (by first | (congr 1; done) | (congr 1; simp [mayM, bareM, *]; done) | (congr 1; simp [mayM, bareM, *]; omega) | (congr 1; rw [Bool.eq_iff_iff]; simp [mayM, bareM, *]; omega) | (congr 1; rw [Bool.eq_iff_iff]; simp [mayM, bareM] at * <;> omega))
            · try simp only [decide_eq_true_eq, decide_eq_false_iff_not, Bool.not_eq_true', Bool.not_eq_false', Bool.not_eq_true, Bool.not_eq_false, Int.not_lt, Int.not_le, Nat.not_lt, Nat.not_le, Decidable.not_not, ne_eq] at hg14
              refine WL_skip rfl rfl rfl ?_
              refine WL_skip rfl rfl rfl ?_
              refine WL_skip rfl rfl rfl ?_
              refine WL_rd (Rd_pickF rfl rfl) rfl rfl rfl ?_
              refine WL_rd (Rd_move rfl) rfl rfl rfl ?_
              refine WL_skip rfl rfl rfl ?_
              refine WL_skip rfl rfl rfl ?_
              refine WL_skip rfl rfl rfl ?_
              refine WL_skip rfl rfl rfl ?_
              refine WL_rd (Rd_pickF rfl rfl) rfl rfl rfl ?_
              refine WL_rd (Rd_move rfl) rfl rfl rfl ?_
              refine WL_skip rfl rfl rfl ?_
              refine WL_skip rfl rfl rfl ?_
              refine WL_skip rfl rfl rfl ?_
              refine WL_skip rfl rfl rfl ?_
              refine WL_rd (Rd_pickF rfl rfl) rfl rfl rfl ?_
              refine WL_rd (Rd_assign rfl) rfl rfl rfl ?_
              refine WL_end hK13 ?_
              refine WC_ret ?_
              exact hret.goE () (Rs1 rfl rfl) (by first | (congr 1; done) | (congr 1; simp [mayM, bareM, *]; done) | (congr 1; simp [mayM, bareM, *]; omega) | (congr 1; rw [Bool.eq_iff_iff]; simp [mayM, bareM, *]; omega) | (congr 1; rw [Bool.eq_iff_iff]; simp [mayM, bareM] at * <;> omega))

theorem bare1_ct {k n f c wh un : Int} {x0 x1 x2 x3 x4 x5 x6 x7 x8 x9 x10 x11 x12 x13 x14 x15 : Int} {ao : Option Addr} {len cap : Nat}  : Ct Try.prog 38 [.agg [.int .u8 k, .int .u8 x0, .int .u8 x1, .int .u8 x2, .int .u8 x3, .int .u8 x4, .int .u8 x5, .int .u8 x6, .int .u8 x7, .int .u8 x8, .int .u8 x9, .int .u8 x10, .int .u8 x11, .int .u8 x12, .int .u8 x13, .int .u8 x14, .int .u8 x15, .int .i64 n, .int .i64 f, .int .i64 c, .int .u32 wh, .int .i64 un, .slice ao len cap].toArray, .bool true, .bool false, .bool true, .bool true] [] (fun _ : Unit => .bool (bareM n f c wh un len true false true true)) (fun _ => []) := by
  refine Ct_body (n := 72) Try.func38 rfl rfl rfl fun F w0 Q hret hnorm hp => ?_
  change WC _ _ _ _ _ _ (F)
  refine WC_sr fun K1 hK1 => ?_
  refine WL_ac (Ac_box rfl rfl) rfl rfl rfl ?_
  rintro _ _ ⟨b5, rfl, rfl⟩
  refine WL_rd (Rd_assign rfl) rfl rfl rfl ?_
  refine WL_end hK1 ?_
  refine WC_seq fun K2 hK2 => ?_
  refine WC_sr fun K3 hK3 => ?_
  refine WL_rd (Rd_move rfl) rfl rfl rfl ?_
  refine WL_rd (Rd_not rfl) rfl rfl rfl ?_
  refine WL_rd (Rd_move rfl) rfl rfl rfl ?_
  refine WL_skip rfl rfl rfl ?_
  refine WL_skip rfl rfl rfl ?_
  refine WL_skip rfl rfl rfl ?_
  refine WL_rd (Rd_pickF rfl rfl) rfl rfl rfl ?_
  refine WL_rd (Rd_move rfl) rfl rfl rfl ?_
  refine WL_rd (Rd_move rfl) rfl rfl rfl ?_
  refine WL_rd (Rd_not rfl) rfl rfl rfl ?_
  refine WL_rd (Rd_move rfl) rfl rfl rfl ?_
  refine WL_rd (Rd_fieldAddr rfl fo30_3) rfl rfl rfl ?_
  refine WL_rd (Rd_load rfl tk3) rfl rfl rfl ?_
  first | refine WL_rd (Rd_neqN (j := 0) rfl rfl) rfl rfl rfl ?_ | refine WL_rd (Rd_neq rfl rfl) rfl rfl rfl ?_
  refine WL_rd (Rd_move rfl) rfl rfl rfl ?_
  refine WL_bool 25 rfl (fun hg4 => ?_) (fun hg4 => ?_)
  · try simp only [decide_eq_true_eq, decide_eq_false_iff_not, Bool.not_eq_true', Bool.not_eq_false', Bool.not_eq_true, Bool.not_eq_false, Int.not_lt, Int.not_le, Nat.not_lt, Nat.not_le, Decidable.not_not, ne_eq] at hg4
    refine WL_skip rfl rfl rfl ?_
    refine WL_skip rfl rfl rfl ?_
    refine WL_skip rfl rfl rfl ?_
    refine WL_rd (Rd_pickT rfl rfl) rfl rfl rfl ?_
    refine WL_rd (Rd_pickT rfl rfl) rfl rfl rfl ?_
    refine WL_rd (Rd_pickF rfl rfl) rfl rfl rfl ?_
    refine WL_rd (Rd_move rfl) rfl rfl rfl ?_
    refine WL_skip rfl rfl rfl ?_
    refine WL_skip rfl rfl rfl ?_
    refine WL_skip rfl rfl rfl ?_
    refine WL_skip rfl rfl rfl ?_
    refine WL_skip rfl rfl rfl ?_
    refine WL_skip rfl rfl rfl ?_
    refine WL_skip rfl rfl rfl ?_
    refine WL_skip rfl rfl rfl ?_
    refine WL_rd (Rd_pickT rfl rfl) rfl rfl rfl ?_
    refine WL_rd (Rd_move rfl) rfl rfl rfl ?_
    refine WL_skip rfl rfl rfl ?_
    refine WL_skip rfl rfl rfl ?_
    refine WL_skip rfl rfl rfl ?_
    refine WL_skip rfl rfl rfl ?_
    refine WL_skip rfl rfl rfl ?_
    refine WL_skip rfl rfl rfl ?_
    refine WL_skip rfl rfl rfl ?_
    refine WL_skip rfl rfl rfl ?_
    refine WL_rd (Rd_pickT rfl rfl) rfl rfl rfl ?_
    refine WL_end hK3 ?_
    refine WC_condT rfl ?_
    refine WC_sr fun K5 hK5 => ?_
    refine WL_rd (Rd_assign rfl) rfl rfl rfl ?_
    refine WL_end hK5 ?_
    refine WC_ret ?_
    exact hret.goE () (Rs1 rfl rfl) (by first | (congr 1; done) | (congr 1; simp [mayM, bareM, *]; done) | (congr 1; simp [mayM, bareM, *]; omega) | (congr 1; rw [Bool.eq_iff_iff]; simp [mayM, bareM, *]; omega) | (congr 1; rw [Bool.eq_iff_iff]; simp [mayM, bareM] at * <;> omega))
  · try simp only [decide_eq_true_eq, decide_eq_false_iff_not, Bool.not_eq_true', Bool.not_eq_false', Bool.not_eq_true, Bool.not_eq_false, Int.not_lt, Int.not_le, Nat.not_lt, Nat.not_le, Decidable.not_not, ne_eq] at hg4
    refine WL_rd (Rd_fieldAddr rfl fo30_4) rfl rfl rfl ?_
    refine WL_rd (Rd_load rfl tk3) rfl rfl rfl ?_
    first | refine WL_rd (Rd_neqN (j := 0) rfl rfl) rfl rfl rfl ?_ | refine WL_rd (Rd_neq rfl rfl) rfl rfl rfl ?_
    refine WL_rd (Rd_pickF rfl rfl) rfl rfl rfl ?_
    refine WL_rd (Rd_pickT rfl rfl) rfl rfl rfl ?_
    refine WL_rd (Rd_pickF rfl rfl) rfl rfl rfl ?_
    refine WL_rd (Rd_move rfl) rfl rfl rfl ?_
    refine WL_bool 32 rfl (fun hg6 => ?_) (fun hg6 => ?_)
    · try simp only [decide_eq_true_eq, decide_eq_false_iff_not, Bool.not_eq_true', Bool.not_eq_false', Bool.not_eq_true, Bool.not_eq_false, Int.not_lt, Int.not_le, Nat.not_lt, Nat.not_le, Decidable.not_not, ne_eq] at hg6
      refine WL_skip rfl rfl rfl ?_
      refine WL_skip rfl rfl rfl ?_
      refine WL_skip rfl rfl rfl ?_
      refine WL_skip rfl rfl rfl ?_
      refine WL_skip rfl rfl rfl ?_
      refine WL_skip rfl rfl rfl ?_
      refine WL_skip rfl rfl rfl ?_
      refine WL_skip rfl rfl rfl ?_
      refine WL_rd (Rd_pickT rfl rfl) rfl rfl rfl ?_
      refine WL_rd (Rd_move rfl) rfl rfl rfl ?_
      refine WL_skip rfl rfl rfl ?_
      refine WL_skip rfl rfl rfl ?_
      refine WL_skip rfl rfl rfl ?_
      refine WL_skip rfl rfl rfl ?_
      refine WL_skip rfl rfl rfl ?_
      refine WL_skip rfl rfl rfl ?_
      refine WL_skip rfl rfl rfl ?_
      refine WL_skip rfl rfl rfl ?_
      refine WL_rd (Rd_pickT rfl rfl) rfl rfl rfl ?_
      refine WL_end hK3 ?_
      refine WC_condT rfl ?_
      refine WC_sr fun K7 hK7 => ?_
      refine WL_rd (Rd_assign rfl) rfl rfl rfl ?_
      refine WL_end hK7 ?_
      refine WC_ret ?_
      exact hret.goE () (Rs1 rfl rfl) (by first | (congr 1; done) | (congr 1; simp [mayM, bareM, *]; done) | (congr 1; simp [mayM, bareM, *]; omega) | (congr 1; rw [Bool.eq_iff_iff]; simp [mayM, bareM, *]; omega) | (congr 1; rw [Bool.eq_iff_iff]; simp [mayM, bareM] at * <;> omega))
    · try simp only [decide_eq_true_eq, decide_eq_false_iff_not, Bool.not_eq_true', Bool.not_eq_false', Bool.not_eq_true, Bool.not_eq_false, Int.not_lt, Int.not_le, Nat.not_lt, Nat.not_le, Decidable.not_not, ne_eq] at hg6
      refine WL_rd (Rd_move rfl) rfl rfl rfl ?_
      refine WL_rd (Rd_not rfl) rfl rfl rfl ?_
      refine WL_rd (Rd_move rfl) rfl rfl rfl ?_
      refine WL_skip rfl rfl rfl ?_
      refine WL_skip rfl rfl rfl ?_
      refine WL_skip rfl rfl rfl ?_
      refine WL_skip rfl rfl rfl ?_
      refine WL_rd (Rd_pickF rfl rfl) rfl rfl rfl ?_
      refine WL_rd (Rd_pickF rfl rfl) rfl rfl rfl ?_
      refine WL_rd (Rd_move rfl) rfl rfl rfl ?_
      refine WL_rd (Rd_move rfl) rfl rfl rfl ?_
      refine WL_rd (Rd_not rfl) rfl rfl rfl ?_
      refine WL_rd (Rd_move rfl) rfl rfl rfl ?_
      refine WL_skip rfl rfl rfl ?_
      refine WL_skip rfl rfl rfl ?_
      refine WL_skip rfl rfl rfl ?_
      refine WL_skip rfl rfl rfl ?_
      refine WL_rd (Rd_pickF rfl rfl) rfl rfl rfl ?_
      refine WL_rd (Rd_pickF rfl rfl) rfl rfl rfl ?_
      refine WL_end hK3 ?_
      refine WC_condF rfl ?_
      refine WC_skip ?_
      refine Ps_next hK2 ?_
      refine WC_sr fun K8 hK8 => ?_
      refine WL_rd (Rd_fieldAddr rfl fo30_2) rfl rfl rfl ?_
      refine WL_rd (Rd_load rfl tk3) rfl rfl rfl ?_
      first | refine WL_rd (Rd_geqN (j := 0) rfl rfl) rfl rfl rfl ?_ | refine WL_rd (Rd_geq rfl rfl) rfl rfl rfl ?_
      refine WL_rd (Rd_move rfl) rfl rfl rfl ?_
      refine WL_bool 55 rfl (fun hg9 => ?_) (fun hg9 => ?_)
      · try simp only [decide_eq_true_eq, decide_eq_false_iff_not, Bool.not_eq_true', Bool.not_eq_false', Bool.not_eq_true, Bool.not_eq_false, Int.not_lt, Int.not_le, Nat.not_lt, Nat.not_le, Decidable.not_not, ne_eq] at hg9
        refine WL_rd (Rd_fieldAddr rfl fo30_2) rfl rfl rfl ?_
        refine WL_rd (Rd_load rfl tk3) rfl rfl rfl ?_
        first | refine WL_rd (Rd_lssN (j := 255) rfl rfl) rfl rfl rfl ?_ | refine WL_rd (Rd_lss rfl rfl) rfl rfl rfl ?_
        refine WL_rd (Rd_pickT rfl rfl) rfl rfl rfl ?_
        refine WL_rd (Rd_move rfl) rfl rfl rfl ?_
        refine WL_bool 60 rfl (fun hg10 => ?_) (fun hg10 => ?_)
        · try simp only [decide_eq_true_eq, decide_eq_false_iff_not, Bool.not_eq_true', Bool.not_eq_false', Bool.not_eq_true, Bool.not_eq_false, Int.not_lt, Int.not_le, Nat.not_lt, Nat.not_le, Decidable.not_not, ne_eq] at hg10
          refine WL_rd (Rd_fieldAddr rfl fo30_5) rfl rfl rfl ?_
          refine WL_rd (Rd_fieldAddr rfl fo27_1) rfl rfl rfl ?_
          refine WL_rd (Rd_load rfl tk3) rfl rfl rfl ?_
          first | refine WL_rd (Rd_geqN (j := 0) rfl rfl) rfl rfl rfl ?_ | refine WL_rd (Rd_geq rfl rfl) rfl rfl rfl ?_
          refine WL_rd (Rd_pickT rfl rfl) rfl rfl rfl ?_
          refine WL_rd (Rd_move rfl) rfl rfl rfl ?_
          refine WL_bool 66 rfl (fun hg11 => ?_) (fun hg11 => ?_)
          · try simp only [decide_eq_true_eq, decide_eq_false_iff_not, Bool.not_eq_true', Bool.not_eq_false', Bool.not_eq_true, Bool.not_eq_false, Int.not_lt, Int.not_le, Nat.not_lt, Nat.not_le, Decidable.not_not, ne_eq] at hg11
            refine WL_rd (Rd_fieldAddr rfl fo30_5) rfl rfl rfl ?_
            refine WL_rd (Rd_fieldAddr rfl fo27_1) rfl rfl rfl ?_
            refine WL_rd (Rd_load rfl tk3) rfl rfl rfl ?_
            first | refine WL_rd (Rd_leqN (j := 1099511627776) rfl rfl) rfl rfl rfl ?_ | refine WL_rd (Rd_leq rfl rfl) rfl rfl rfl ?_
            refine WL_rd (Rd_pickT rfl rfl) rfl rfl rfl ?_
            refine WL_rd (Rd_assign rfl) rfl rfl rfl ?_
            refine WL_end hK8 ?_
            refine WC_ret ?_
            exact hret.goE () (Rs1 rfl rfl) (by first | (congr 1; done) | (congr 1; simp [mayM, bareM, *]; done) | (congr 1; simp [mayM, bareM, *]; omega) | (congr 1; rw [Bool.eq_iff_iff]; simp [mayM, bareM, *]; omega) | (congr 1; rw [Bool.eq_iff_iff]; simp [mayM, bareM] at * <;> omega))
          · try simp only [decide_eq_true_eq, decide_eq_false_iff_not, Bool.not_eq_true', Bool.not_eq_false', Bool.not_eq_true, Bool.not_eq_false, Int.not_lt, Int.not_le, Nat.not_lt, Nat.not_le, Decidable.not_not, ne_eq] at hg11
            refine WL_skip rfl rfl rfl ?_
            refine WL_skip rfl rfl rfl ?_
            refine WL_skip rfl rfl rfl ?_
            refine WL_skip rfl rfl rfl ?_
            refine WL_rd (Rd_pickF rfl rfl) rfl rfl rfl ?_
            refine WL_rd (Rd_assign rfl) rfl rfl rfl ?_
            refine WL_end hK8 ?_
            refine WC_ret ?_
            exact hret.goE () (Rs1 rfl rfl) (by first | (congr 1; done) | (congr 1; simp [mayM, bareM, *]; done) | (congr 1; simp [mayM, bareM, *]; omega) | (congr 1; rw [Bool.eq_iff_iff]; simp [mayM, bareM, *]; omega) | (congr 1; rw [Bool.eq_iff_iff]; simp [mayM, bareM] at * <;> omega))
        · try simp only [decide_eq_true_eq, decide_eq_false_iff_not, Bool.not_eq_true', Bool.not_eq_false', Bool.not_eq_true, Bool.not_eq_false, Int.not_lt, Int.not_le, Nat.not_lt, Nat.not_le, Decidable.not_not, ne_eq] at hg10
          refine WL_skip rfl rfl rfl ?_
          refine WL_skip rfl rfl rfl ?_
          refine WL_skip rfl rfl rfl ?_
          refine WL_skip rfl rfl rfl ?_
          refine WL_rd (Rd_pickF rfl rfl) rfl rfl rfl ?_
          refine WL_rd (Rd_move rfl) rfl rfl rfl ?_
          refine WL_skip rfl rfl rfl ?_
          refine WL_skip rfl rfl rfl ?_
          refine WL_skip rfl rfl rfl ?_
          refine WL_skip rfl rfl rfl ?_
          refine WL_rd (Rd_pickF rfl rfl) rfl rfl rfl ?_
          refine WL_rd (Rd_assign rfl) rfl rfl rfl ?_
          refine WL_end hK8 ?_
          refine WC_ret ?_
          exact hret.goE () (Rs1 rfl rfl) (by first | (congr 1; done) | (congr 1; simp [mayM, bareM, *]; done) | (congr 1; simp [mayM, bareM, *]; omega) | (congr 1; rw [Bool.eq_iff_iff]; simp [mayM, bareM, *]; omega) | (congr 1; rw [Bool.eq_iff_iff]; simp [mayM, bareM] at * <;> omega))
      · try simp only [decide_eq_true_eq, decide_eq_false_iff_not, Bool.not_eq_true', Bool.not_eq_false', Bool.not_eq_true, Bool.not_eq_false, Int.not_lt, Int.not_le, Nat.not_lt, Nat.not_le, Decidable.not_not, ne_eq] at hg9
        refine WL_skip rfl rfl rfl ?_
        refine WL_skip rfl rfl rfl ?_
        refine WL_skip rfl rfl rfl ?_
        refine WL_rd (Rd_pickF rfl rfl) rfl rfl rfl ?_
        refine WL_rd (Rd_move rfl) rfl rfl rfl ?_
        refine WL_skip rfl rfl rfl ?_
        refine WL_skip rfl rfl rfl ?_
        refine WL_skip rfl rfl rfl ?_
        refine WL_skip rfl rfl rfl ?_
        refine WL_rd (Rd_pickF rfl rfl) rfl rfl rfl ?_
        refine WL_rd (Rd_move rfl) rfl rfl rfl ?_
        refine WL_skip rfl rfl rfl ?_
        refine WL_skip rfl rfl rfl ?_
        refine WL_skip rfl rfl rfl ?_
        refine WL_skip rfl rfl rfl ?_
        refine WL_rd (Rd_pickF rfl rfl) rfl rfl rfl ?_
        refine WL_rd (Rd_assign rfl) rfl rfl rfl ?_
        refine WL_end hK8 ?_
        refine WC_ret ?_
        exact hret.goE () (Rs1 rfl rfl) (by first | (congr 1; done) | (congr 1; simp [mayM, bareM, *]; done) | (congr 1; simp [mayM, bareM, *]; omega) | (congr 1; rw [Bool.eq_iff_iff]; simp [mayM, bareM, *]; omega) | (congr 1; rw [Bool.eq_iff_iff]; simp [mayM, bareM] at * <;> omega))

theorem bare2_ct {k n f c wh un : Int} {x0 x1 x2 x3 x4 x5 x6 x7 x8 x9 x10 x11 x12 x13 x14 x15 : Int} {ao : Option Addr} {len cap : Nat}  : Ct Try.prog 38 [.agg [.int .u8 k, .int .u8 x0, .int .u8 x1, .int .u8 x2, .int .u8 x3, .int .u8 x4, .int .u8 x5, .int .u8 x6, .int .u8 x7, .int .u8 x8, .int .u8 x9, .int .u8 x10, .int .u8 x11, .int .u8 x12, .int .u8 x13, .int .u8 x14, .int .u8 x15, .int .i64 n, .int .i64 f, .int .i64 c, .int .u32 wh, .int .i64 un, .slice ao len cap].toArray, .bool true, .bool true, .bool false, .bool false] [] (fun _ : Unit => .bool (bareM n f c wh un len true true false false)) (fun _ => []) := by
  refine Ct_body (n := 72) Try.func38 rfl rfl rfl fun F w0 Q hret hnorm hp => ?_
  change WC _ _ _ _ _ _ (F)
  refine WC_sr fun K1 hK1 => ?_
  refine WL_ac (Ac_box rfl rfl) rfl rfl rfl ?_
  rintro _ _ ⟨b5, rfl, rfl⟩
  refine WL_rd (Rd_assign rfl) rfl rfl rfl ?_
  refine WL_end hK1 ?_
  refine WC_seq fun K2 hK2 => ?_
  refine WC_sr fun K3 hK3 => ?_
  refine WL_rd (Rd_move rfl) rfl rfl rfl ?_
  refine WL_rd (Rd_not rfl) rfl rfl rfl ?_
  refine WL_rd (Rd_move rfl) rfl rfl rfl ?_
  refine WL_skip rfl rfl rfl ?_
  refine WL_skip rfl rfl rfl ?_
  refine WL_skip rfl rfl rfl ?_
  refine WL_rd (Rd_pickF rfl rfl) rfl rfl rfl ?_
  refine WL_rd (Rd_move rfl) rfl rfl rfl ?_
  refine WL_rd (Rd_move rfl) rfl rfl rfl ?_
  refine WL_rd (Rd_not rfl) rfl rfl rfl ?_
  refine WL_rd (Rd_move rfl) rfl rfl rfl ?_
  refine WL_skip rfl rfl rfl ?_
  refine WL_skip rfl rfl rfl ?_
  refine WL_skip rfl rfl rfl ?_
  refine WL_skip rfl rfl rfl ?_
  refine WL_skip rfl rfl rfl ?_
  refine WL_skip rfl rfl rfl ?_
  refine WL_skip rfl rfl rfl ?_
  refine WL_skip rfl rfl rfl ?_
  refine WL_rd (Rd_pickF rfl rfl) rfl rfl rfl ?_
  refine WL_rd (Rd_pickF rfl rfl) rfl rfl rfl ?_
  refine WL_rd (Rd_move rfl) rfl rfl rfl ?_
  refine WL_rd (Rd_move rfl) rfl rfl rfl ?_
  refine WL_rd (Rd_not rfl) rfl rfl rfl ?_
  refine WL_rd (Rd_move rfl) rfl rfl rfl ?_
  refine WL_rd (Rd_fieldAddr rfl fo30_5) rfl rfl rfl ?_
  refine WL_rd (Rd_loadg rfl tk27) rfl rfl rfl ?_
  refine WL_rd (Rd_build pls27 rfl) rfl rfl rfl ?_
  refine WL_rd (Rd_neS rfl rfl fls27 (EqL.sc tk25 rfl rfl (Eqs_int ud25 _ _) (EqL.sc tk3 rfl rfl (Eqs_int ud3 _ _) EqL.nil))) rfl rfl rfl ?_
  refine WL_rd (Rd_pickT rfl rfl) rfl rfl rfl ?_
  refine WL_rd (Rd_pickF rfl rfl) rfl rfl rfl ?_
  refine WL_rd (Rd_move rfl) rfl rfl rfl ?_
  refine WL_bool 42 rfl (fun hg4 => ?_) (fun hg4 => ?_)
  · try simp only [decide_eq_true_eq, decide_eq_false_iff_not, Bool.not_eq_true', Bool.not_eq_false', Bool.not_eq_true, Bool.not_eq_false, Int.not_lt, Int.not_le, Nat.not_lt, Nat.not_le, Decidable.not_not, ne_eq] at hg4
    refine WL_skip rfl rfl rfl ?_
    refine WL_skip rfl rfl rfl ?_
    refine WL_skip rfl rfl rfl ?_
    refine WL_skip rfl rfl rfl ?_
    refine WL_skip rfl rfl rfl ?_
    refine WL_skip rfl rfl rfl ?_
    refine WL_skip rfl rfl rfl ?_
    refine WL_skip rfl rfl rfl ?_
    refine WL_rd (Rd_pickT rfl rfl) rfl rfl rfl ?_
    refine WL_end hK3 ?_
    refine WC_condT rfl ?_
    refine WC_sr fun K5 hK5 => ?_
    refine WL_rd (Rd_assign rfl) rfl rfl rfl ?_
    refine WL_end hK5 ?_
    refine WC_ret ?_
    exact hret.goE () (Rs1 rfl rfl) (by first | (congr 1; done) | (congr 1; simp [mayM, bareM, *]; done) | (congr 1; simp [mayM, bareM, *]; omega) | (congr 1; rw [Bool.eq_iff_iff]; simp [mayM, bareM, *]; omega) | (congr 1; rw [Bool.eq_iff_iff]; simp [mayM, bareM] at * <;> omega))
  · try simp only [decide_eq_true_eq, decide_eq_false_iff_not, Bool.not_eq_true', Bool.not_eq_false', Bool.not_eq_true, Bool.not_eq_false, Int.not_lt, Int.not_le, Nat.not_lt, Nat.not_le, Decidable.not_not, ne_eq] at hg4
    refine WL_rd (Rd_move rfl) rfl rfl rfl ?_
    refine WL_rd (Rd_not rfl) rfl rfl rfl ?_
    refine WL_rd (Rd_move rfl) rfl rfl rfl ?_
    refine WL_rd (Rd_fieldAddr rfl fo30_6) rfl rfl rfl ?_
    refine WL_rd (Rd_load rfl tk28) rfl rfl rfl ?_
    first | refine WL_rd (Rd_len rfl rfl ud28) rfl rfl rfl ?_ | refine WL_rd (Rd_len_sv rfl rfl ud28) rfl rfl rfl ?_
    refine WL_rd (Rd_neqN (j := 0) rfl rfl) rfl rfl rfl ?_
    refine WL_rd (Rd_pickT rfl rfl) rfl rfl rfl ?_
    refine WL_rd (Rd_pickF rfl rfl) rfl rfl rfl ?_
    refine WL_end hK3 ?_
    refine WC_cond rfl (fun hc0 => ?_) (fun hc0 => ?_)
    · try simp only [decide_eq_true_eq, decide_eq_false_iff_not, Bool.not_eq_true', Bool.not_eq_false', Bool.not_eq_true, Bool.not_eq_false, Int.not_lt, Int.not_le, Nat.not_lt, Nat.not_le, Decidable.not_not, ne_eq] at hc0
      refine WC_sr fun K6 hK6 => ?_
      refine WL_rd (Rd_assign rfl) rfl rfl rfl ?_
      refine WL_end hK6 ?_
      refine WC_ret ?_
      exact hret.goE () (Rs1 rfl rfl) (by first | (congr 1; done) | (congr 1; simp [mayM, bareM, *]; done) | (congr 1; simp [mayM, bareM, *]; omega) | (congr 1; rw [Bool.eq_iff_iff]; simp [mayM, bareM, *]; omega) | (congr 1; rw [Bool.eq_iff_iff]; simp [mayM, bareM] at * <;> omega))
    · try simp only [decide_eq_true_eq, decide_eq_false_iff_not, Bool.not_eq_true', Bool.not_eq_false', Bool.not_eq_true, Bool.not_eq_false, Int.not_lt, Int.not_le, Nat.not_lt, Nat.not_le, Decidable.not_not, ne_eq] at hc0
      refine WC_skip ?_
      refine Ps_next hK2 ?_
      refine WC_sr fun K7 hK7 => ?_
      refine WL_rd (Rd_fieldAddr rfl fo30_2) rfl rfl rfl ?_
      refine WL_rd (Rd_load rfl tk3) rfl rfl rfl ?_
      first | refine WL_rd (Rd_geqN (j := 0) rfl rfl) rfl rfl rfl ?_ | refine WL_rd (Rd_geq rfl rfl) rfl rfl rfl ?_
      refine WL_rd (Rd_move rfl) rfl rfl rfl ?_
      refine WL_bool 55 rfl (fun hg8 => ?_) (fun hg8 => ?_)
      · try simp only [decide_eq_true_eq, decide_eq_false_iff_not, Bool.not_eq_true', Bool.not_eq_false', Bool.not_eq_true, Bool.not_eq_false, Int.not_lt, Int.not_le, Nat.not_lt, Nat.not_le, Decidable.not_not, ne_eq] at hg8
        refine WL_rd (Rd_fieldAddr rfl fo30_2) rfl rfl rfl ?_
        refine WL_rd (Rd_load rfl tk3) rfl rfl rfl ?_
        first | refine WL_rd (Rd_lssN (j := 255) rfl rfl) rfl rfl rfl ?_ | refine WL_rd (Rd_lss rfl rfl) rfl rfl rfl ?_
        refine WL_rd (Rd_pickT rfl rfl) rfl rfl rfl ?_
        refine WL_rd (Rd_move rfl) rfl rfl rfl ?_
        refine WL_bool 60 rfl (fun hg9 => ?_) (fun hg9 => ?_)
        · try simp only [decide_eq_true_eq, decide_eq_false_iff_not, Bool.not_eq_true', Bool.not_eq_false', Bool.not_eq_true, Bool.not_eq_false, Int.not_lt, Int.not_le, Nat.not_lt, Nat.not_le, Decidable.not_not, ne_eq] at hg9
          refine WL_rd (Rd_fieldAddr rfl fo30_5) rfl rfl rfl ?_
          refine WL_rd (Rd_fieldAddr rfl fo27_1) rfl rfl rfl ?_
          refine WL_rd (Rd_load rfl tk3) rfl rfl rfl ?_
          first | refine WL_rd (Rd_geqN (j := 0) rfl rfl) rfl rfl rfl ?_ | refine WL_rd (Rd_geq rfl rfl) rfl rfl rfl ?_
          refine WL_rd (Rd_pickT rfl rfl) rfl rfl rfl ?_
          refine WL_rd (Rd_move rfl) rfl rfl rfl ?_
          refine WL_bool 66 rfl (fun hg10 => ?_) (fun hg10 => ?_)
          · try simp only [decide_eq_true_eq, decide_eq_false_iff_not, Bool.not_eq_true', Bool.not_eq_false', Bool.not_eq_true, Bool.not_eq_false, Int.not_lt, Int.not_le, Nat.not_lt, Nat.not_le, Decidable.not_not, ne_eq] at hg10
            refine WL_rd (Rd_fieldAddr rfl fo30_5) rfl rfl rfl ?_
            refine WL_rd (Rd_fieldAddr rfl fo27_1) rfl rfl rfl ?_
            refine WL_rd (Rd_load rfl tk3) rfl rfl rfl ?_
            first | refine WL_rd (Rd_leqN (j := 1099511627776) rfl rfl) rfl rfl rfl ?_ | refine WL_rd (Rd_leq rfl rfl) rfl rfl rfl ?_
            refine WL_rd (Rd_pickT rfl rfl) rfl rfl rfl ?_
            refine WL_rd (Rd_assign rfl) rfl rfl rfl ?_
            refine WL_end hK7 ?_
            refine WC_ret ?_
            exact hret.goE () (Rs1 rfl rfl) (by first | (congr 1; done) | (congr 1; simp [mayM, bareM, *]; done) | (congr 1; simp [mayM, bareM, *]; omega) | (congr 1; rw [Bool.eq_iff_iff]; simp [mayM, bareM, *]; omega) | (congr 1; rw [Bool.eq_iff_iff]; simp [mayM, bareM] at * <;> omega))
          · try simp only [decide_eq_true_eq, decide_eq_false_iff_not, Bool.not_eq_true', Bool.not_eq_false', Bool.not_eq_true, Bool.not_eq_false, Int.not_lt, Int.not_le, Nat.not_lt, Nat.not_le, Decidable.not_not, ne_eq] at hg10
            refine WL_skip rfl rfl rfl ?_
            refine WL_skip rfl rfl rfl ?_
            refine WL_skip rfl rfl rfl ?_
            refine WL_skip rfl rfl rfl ?_
            refine WL_rd (Rd_pickF rfl rfl) rfl rfl rfl ?_
            refine WL_rd (Rd_assign rfl) rfl rfl rfl ?_
            refine WL_end hK7 ?_
            refine WC_ret ?_
            exact hret.goE () (Rs1 rfl rfl) (by first | (congr 1; done) | (congr 1; simp [mayM, bareM, *]; done) | (congr 1; simp [mayM, bareM, *]; omega) | (congr 1; rw [Bool.eq_iff_iff]; simp [mayM, bareM, *]; omega) | (congr 1; rw [Bool.eq_iff_iff]; simp [mayM, bareM] at * <;> omega))
        · try simp only [decide_eq_true_eq, decide_eq_false_iff_not, Bool.not_eq_true', Bool.not_eq_false', Bool.not_eq_true, Bool.not_eq_false, Int.not_lt, Int.not_le, Nat.not_lt, Nat.not_le, Decidable.not_not, ne_eq] at hg9
          refine WL_skip rfl rfl rfl ?_
          refine WL_skip rfl rfl rfl ?_
          refine WL_skip rfl rfl rfl ?_
          refine WL_skip rfl rfl rfl ?_
          refine WL_rd (Rd_pickF rfl rfl) rfl rfl rfl ?_
          refine WL_rd (Rd_move rfl) rfl rfl rfl ?_
          refine WL_skip rfl rfl rfl ?_
          refine WL_skip rfl rfl rfl ?_
          refine WL_skip rfl rfl rfl ?_
          refine WL_skip rfl rfl rfl ?_
          refine WL_rd (Rd_pickF rfl rfl) rfl rfl rfl ?_
          refine WL_rd (Rd_assign rfl) rfl rfl rfl ?_
          refine WL_end hK7 ?_
          refine WC_ret ?_
          exact hret.goE () (Rs1 rfl rfl) (by first | (congr 1; done) | (congr 1; simp [mayM, bareM, *]; done) | (congr 1; simp [mayM, bareM, *]; omega) | (congr 1; rw [Bool.eq_iff_iff]; simp [mayM, bareM, *]; omega) | (congr 1; rw [Bool.eq_iff_iff]; simp [mayM, bareM] at * <;> omega))
      · try simp only [decide_eq_true_eq, decide_eq_false_iff_not, Bool.not_eq_true', Bool.not_eq_false', Bool.not_eq_true, Bool.not_eq_false, Int.not_lt, Int.not_le, Nat.not_lt, Nat.not_le, Decidable.not_not, ne_eq] at hg8
        refine WL_skip rfl rfl rfl ?_
        refine WL_skip rfl rfl rfl ?_
        refine WL_skip rfl rfl rfl ?_
        refine WL_rd (Rd_pickF rfl rfl) rfl rfl rfl ?_
        refine WL_rd (Rd_move rfl) rfl rfl rfl ?_
        refine WL_skip rfl rfl rfl ?_
        refine WL_skip rfl rfl rfl ?_
        refine WL_skip rfl rfl rfl ?_
        refine WL_skip rfl rfl rfl ?_
        refine WL_rd (Rd_pickF rfl rfl) rfl rfl rfl ?_
        refine WL_rd (Rd_move rfl) rfl rfl rfl ?_
        refine WL_skip rfl rfl rfl ?_
        refine WL_skip rfl rfl rfl ?_
        refine WL_skip rfl rfl rfl ?_
        refine WL_skip rfl rfl rfl ?_
        refine WL_rd (Rd_pickF rfl rfl) rfl rfl rfl ?_
        refine WL_rd (Rd_assign rfl) rfl rfl rfl ?_
        refine WL_end hK7 ?_
        refine WC_ret ?_
        exact hret.goE () (Rs1 rfl rfl) (by first | (congr 1; done) | (congr 1; simp [mayM, bareM, *]; done) | (congr 1; simp [mayM, bareM, *]; omega) | (congr 1; rw [Bool.eq_iff_iff]; simp [mayM, bareM, *]; omega) | (congr 1; rw [Bool.eq_iff_iff]; simp [mayM, bareM] at * <;> omega))

theorem bare3_ct {k n f c wh un : Int} {x0 x1 x2 x3 x4 x5 x6 x7 x8 x9 x10 x11 x12 x13 x14 x15 : Int} {ao : Option Addr} {len cap : Nat}  : Ct Try.prog 38 [.agg [.int .u8 k, .int .u8 x0, .int .u8 x1, .int .u8 x2, .int .u8 x3, .int .u8 x4, .int .u8 x5, .int .u8 x6, .int .u8 x7, .int .u8 x8, .int .u8 x9, .int .u8 x10, .int .u8 x11, .int .u8 x12, .int .u8 x13, .int .u8 x14, .int .u8 x15, .int .i64 n, .int .i64 f, .int .i64 c, .int .u32 wh, .int .i64 un, .slice ao len cap].toArray, .bool false, .bool false, .bool true, .bool false] [] (fun _ : Unit => .bool (bareM n f c wh un len false false true false)) (fun _ => []) := by
  refine Ct_body (n := 72) Try.func38 rfl rfl rfl fun F w0 Q hret hnorm hp => ?_
  change WC _ _ _ _ _ _ (F)
  refine WC_sr fun K1 hK1 => ?_
  refine WL_ac (Ac_box rfl rfl) rfl rfl rfl ?_
  rintro _ _ ⟨b5, rfl, rfl⟩
  refine WL_rd (Rd_assign rfl) rfl rfl rfl ?_
  refine WL_end hK1 ?_
  refine WC_seq fun K2 hK2 => ?_
  refine WC_sr fun K3 hK3 => ?_
  refine WL_rd (Rd_move rfl) rfl rfl rfl ?_
  refine WL_rd (Rd_not rfl) rfl rfl rfl ?_
  refine WL_rd (Rd_move rfl) rfl rfl rfl ?_
  refine WL_rd (Rd_fieldAddr rfl fo30_2) rfl rfl rfl ?_
  refine WL_rd (Rd_load rfl tk3) rfl rfl rfl ?_
  first | refine WL_rd (Rd_neqN (j := 0) rfl rfl) rfl rfl rfl ?_ | refine WL_rd (Rd_neq rfl rfl) rfl rfl rfl ?_
  refine WL_rd (Rd_pickT rfl rfl) rfl rfl rfl ?_
  refine WL_rd (Rd_move rfl) rfl rfl rfl ?_
  refine WL_bool 18 rfl (fun hg4 => ?_) (fun hg4 => ?_)
  · try simp only [decide_eq_true_eq, decide_eq_false_iff_not, Bool.not_eq_true', Bool.not_eq_false', Bool.not_eq_true, Bool.not_eq_false, Int.not_lt, Int.not_le, Nat.not_lt, Nat.not_le, Decidable.not_not, ne_eq] at hg4
    refine WL_skip rfl rfl rfl ?_
    refine WL_skip rfl rfl rfl ?_
    refine WL_skip rfl rfl rfl ?_
    refine WL_skip rfl rfl rfl ?_
    refine WL_skip rfl rfl rfl ?_
    refine WL_skip rfl rfl rfl ?_
    refine WL_skip rfl rfl rfl ?_
    refine WL_skip rfl rfl rfl ?_
    refine WL_skip rfl rfl rfl ?_
    refine WL_skip rfl rfl rfl ?_
    refine WL_skip rfl rfl rfl ?_
    refine WL_skip rfl rfl rfl ?_
    refine WL_rd (Rd_pickT rfl rfl) rfl rfl rfl ?_
    refine WL_rd (Rd_move rfl) rfl rfl rfl ?_
    refine WL_skip rfl rfl rfl ?_
    refine WL_skip rfl rfl rfl ?_
    refine WL_skip rfl rfl rfl ?_
    refine WL_skip rfl rfl rfl ?_
    refine WL_skip rfl rfl rfl ?_
    refine WL_skip rfl rfl rfl ?_
    refine WL_skip rfl rfl rfl ?_
    refine WL_skip rfl rfl rfl ?_
    refine WL_rd (Rd_pickT rfl rfl) rfl rfl rfl ?_
    refine WL_rd (Rd_move rfl) rfl rfl rfl ?_
    refine WL_skip rfl rfl rfl ?_
    refine WL_skip rfl rfl rfl ?_
    refine WL_skip rfl rfl rfl ?_
    refine WL_skip rfl rfl rfl ?_
    refine WL_skip rfl rfl rfl ?_
    refine WL_skip rfl rfl rfl ?_
    refine WL_skip rfl rfl rfl ?_
    refine WL_skip rfl rfl rfl ?_
    refine WL_rd (Rd_pickT rfl rfl) rfl rfl rfl ?_
    refine WL_end hK3 ?_
    refine WC_condT rfl ?_
    refine WC_sr fun K5 hK5 => ?_
    refine WL_rd (Rd_assign rfl) rfl rfl rfl ?_
    refine WL_end hK5 ?_
    refine WC_ret ?_
    exact hret.goE () (Rs1 rfl rfl) (by first | (congr 1; done) | (congr 1; simp [mayM, bareM, *]; done) | (congr 1; simp [mayM, bareM, *]; omega) | (congr 1; rw [Bool.eq_iff_iff]; simp [mayM, bareM, *]; omega) | (congr 1; rw [Bool.eq_iff_iff]; simp [mayM, bareM] at * <;> omega))
  · try simp only [decide_eq_true_eq, decide_eq_false_iff_not, Bool.not_eq_true', Bool.not_eq_false', Bool.not_eq_true, Bool.not_eq_false, Int.not_lt, Int.not_le, Nat.not_lt, Nat.not_le, Decidable.not_not, ne_eq] at hg4
    refine WL_rd (Rd_move rfl) rfl rfl rfl ?_
    refine WL_rd (Rd_not rfl) rfl rfl rfl ?_
    refine WL_rd (Rd_move rfl) rfl rfl rfl ?_
    refine WL_rd (Rd_fieldAddr rfl fo30_3) rfl rfl rfl ?_
    refine WL_rd (Rd_load rfl tk3) rfl rfl rfl ?_
    first | refine WL_rd (Rd_neqN (j := 0) rfl rfl) rfl rfl rfl ?_ | refine WL_rd (Rd_neq rfl rfl) rfl rfl rfl ?_
    refine WL_rd (Rd_move rfl) rfl rfl rfl ?_
    refine WL_bool 25 rfl (fun hg6 => ?_) (fun hg6 => ?_)
    · try simp only [decide_eq_true_eq, decide_eq_false_iff_not, Bool.not_eq_true', Bool.not_eq_false', Bool.not_eq_true, Bool.not_eq_false, Int.not_lt, Int.not_le, Nat.not_lt, Nat.not_le, Decidable.not_not, ne_eq] at hg6
      refine WL_skip rfl rfl rfl ?_
      refine WL_skip rfl rfl rfl ?_
      refine WL_skip rfl rfl rfl ?_
      refine WL_rd (Rd_pickT rfl rfl) rfl rfl rfl ?_
      refine WL_rd (Rd_pickT rfl rfl) rfl rfl rfl ?_
      refine WL_rd (Rd_pickF rfl rfl) rfl rfl rfl ?_
      refine WL_rd (Rd_move rfl) rfl rfl rfl ?_
      refine WL_skip rfl rfl rfl ?_
      refine WL_skip rfl rfl rfl ?_
      refine WL_skip rfl rfl rfl ?_
      refine WL_skip rfl rfl rfl ?_
      refine WL_skip rfl rfl rfl ?_
      refine WL_skip rfl rfl rfl ?_
      refine WL_skip rfl rfl rfl ?_
      refine WL_skip rfl rfl rfl ?_
      refine WL_rd (Rd_pickT rfl rfl) rfl rfl rfl ?_
      refine WL_rd (Rd_move rfl) rfl rfl rfl ?_
      refine WL_skip rfl rfl rfl ?_
      refine WL_skip rfl rfl rfl ?_
      refine WL_skip rfl rfl rfl ?_
      refine WL_skip rfl rfl rfl ?_
      refine WL_skip rfl rfl rfl ?_
      refine WL_skip rfl rfl rfl ?_
      refine WL_skip rfl rfl rfl ?_
      refine WL_skip rfl rfl rfl ?_
      refine WL_rd (Rd_pickT rfl rfl) rfl rfl rfl ?_
      refine WL_end hK3 ?_
      refine WC_condT rfl ?_
      refine WC_sr fun K7 hK7 => ?_
      refine WL_rd (Rd_assign rfl) rfl rfl rfl ?_
      refine WL_end hK7 ?_
      refine WC_ret ?_
      exact hret.goE () (Rs1 rfl rfl) (by first | (congr 1; done) | (congr 1; simp [mayM, bareM, *]; done) | (congr 1; simp [mayM, bareM, *]; omega) | (congr 1; rw [Bool.eq_iff_iff]; simp [mayM, bareM, *]; omega) | (congr 1; rw [Bool.eq_iff_iff]; simp [mayM, bareM] at * <;> omega))
    · try simp only [decide_eq_true_eq, decide_eq_false_iff_not, Bool.not_eq_true', Bool.not_eq_false', Bool.not_eq_true, Bool.not_eq_false, Int.not_lt, Int.not_le, Nat.not_lt, Nat.not_le, Decidable.not_not, ne_eq] at hg6
      refine WL_rd (Rd_fieldAddr rfl fo30_4) rfl rfl rfl ?_
      refine WL_rd (Rd_load rfl tk3) rfl rfl rfl ?_
      first | refine WL_rd (Rd_neqN (j := 0) rfl rfl) rfl rfl rfl ?_ | refine WL_rd (Rd_neq rfl rfl) rfl rfl rfl ?_
      refine WL_rd (Rd_pickF rfl rfl) rfl rfl rfl ?_
      refine WL_rd (Rd_pickT rfl rfl) rfl rfl rfl ?_
      refine WL_rd (Rd_pickF rfl rfl) rfl rfl rfl ?_
      refine WL_rd (Rd_move rfl) rfl rfl rfl ?_
      refine WL_bool 32 rfl (fun hg8 => ?_) (fun hg8 => ?_)
      · try simp only [decide_eq_true_eq, decide_eq_false_iff_not, Bool.not_eq_true', Bool.not_eq_false', Bool.not_eq_true, Bool.not_eq_false, Int.not_lt, Int.not_le, Nat.not_lt, Nat.not_le, Decidable.not_not, ne_eq] at hg8
        refine WL_skip rfl rfl rfl ?_
        refine WL_skip rfl rfl rfl ?_
        refine WL_skip rfl rfl rfl ?_
        refine WL_skip rfl rfl rfl ?_
        refine WL_skip rfl rfl rfl ?_
        refine WL_skip rfl rfl rfl ?_
        refine WL_skip rfl rfl rfl ?_
        refine WL_skip rfl rfl rfl ?_
        refine WL_rd (Rd_pickT rfl rfl) rfl rfl rfl ?_
        refine WL_rd (Rd_move rfl) rfl rfl rfl ?_
        refine WL_skip rfl rfl rfl ?_
        refine WL_skip rfl rfl rfl ?_
        refine WL_skip rfl rfl rfl ?_
        refine WL_skip rfl rfl rfl ?_
        refine WL_skip rfl rfl rfl ?_
        refine WL_skip rfl rfl rfl ?_
        refine WL_skip rfl rfl rfl ?_
        refine WL_skip rfl rfl rfl ?_
        refine WL_rd (Rd_pickT rfl rfl) rfl rfl rfl ?_
        refine WL_end hK3 ?_
        refine WC_condT rfl ?_
        refine WC_sr fun K9 hK9 => ?_
        refine WL_rd (Rd_assign rfl) rfl rfl rfl ?_
        refine WL_end hK9 ?_
        refine WC_ret ?_
        exact hret.goE () (Rs1 rfl rfl) (by first | (congr 1; done) | (congr 1; simp [mayM, bareM, *]; done) | (congr 1; simp [mayM, bareM, *]; omega) | (congr 1; rw [Bool.eq_iff_iff]; simp [mayM, bareM, *]; omega) | (congr 1; rw [Bool.eq_iff_iff]; simp [mayM, bareM] at * <;> omega))
      · try simp only [decide_eq_true_eq, decide_eq_false_iff_not, Bool.not_eq_true', Bool.not_eq_false', Bool.not_eq_true, Bool.not_eq_false, Int.not_lt, Int.not_le, Nat.not_lt, Nat.not_le, Decidable.not_not, ne_eq] at hg8
        refine WL_rd (Rd_move rfl) rfl rfl rfl ?_
        refine WL_rd (Rd_not rfl) rfl rfl rfl ?_
        refine WL_rd (Rd_move rfl) rfl rfl rfl ?_
        refine WL_skip rfl rfl rfl ?_
        refine WL_skip rfl rfl rfl ?_
        refine WL_skip rfl rfl rfl ?_
        refine WL_skip rfl rfl rfl ?_
        refine WL_rd (Rd_pickF rfl rfl) rfl rfl rfl ?_
        refine WL_rd (Rd_pickF rfl rfl) rfl rfl rfl ?_
        refine WL_rd (Rd_move rfl) rfl rfl rfl ?_
        refine WL_rd (Rd_move rfl) rfl rfl rfl ?_
        refine WL_rd (Rd_not rfl) rfl rfl rfl ?_
        refine WL_rd (Rd_move rfl) rfl rfl rfl ?_
        refine WL_rd (Rd_fieldAddr rfl fo30_6) rfl rfl rfl ?_
        refine WL_rd (Rd_load rfl tk28) rfl rfl rfl ?_
        first | refine WL_rd (Rd_len rfl rfl ud28) rfl rfl rfl ?_ | refine WL_rd (Rd_len_sv rfl rfl ud28) rfl rfl rfl ?_
        refine WL_rd (Rd_neqN (j := 0) rfl rfl) rfl rfl rfl ?_
        refine WL_rd (Rd_pickT rfl rfl) rfl rfl rfl ?_
        refine WL_rd (Rd_pickF rfl rfl) rfl rfl rfl ?_
        refine WL_end hK3 ?_
        refine WC_cond rfl (fun hc0 => ?_) (fun hc0 => ?_)
        · try simp only [decide_eq_true_eq, decide_eq_false_iff_not, Bool.not_eq_true', Bool.not_eq_false', Bool.not_eq_true, Bool.not_eq_false, Int.not_lt, Int.not_le, Nat.not_lt, Nat.not_le, Decidable.not_not, ne_eq] at hc0
          refine WC_sr fun K10 hK10 => ?_
          refine WL_rd (Rd_assign rfl) rfl rfl rfl ?_
          refine WL_end hK10 ?_
          refine WC_ret ?_
          exact hret.goE () (Rs1 rfl rfl) (by first | (congr 1; done) | (congr 1; simp [mayM, bareM, *]; done) | (congr 1; simp [mayM, bareM, *]; omega) | (congr 1; rw [Bool.eq_iff_iff]; simp [mayM, bareM, *]; omega) | (congr 1; rw [Bool.eq_iff_iff]; simp [mayM, bareM] at * <;> omega))
        · try simp only [decide_eq_true_eq, decide_eq_false_iff_not, Bool.not_eq_true', Bool.not_eq_false', Bool.not_eq_true, Bool.not_eq_false, Int.not_lt, Int.not_le, Nat.not_lt, Nat.not_le, Decidable.not_not, ne_eq] at hc0
          refine WC_skip ?_
          refine Ps_next hK2 ?_
          refine WC_sr fun K11 hK11 => ?_
          refine WL_rd (Rd_fieldAddr rfl fo30_2) rfl rfl rfl ?_
          refine WL_rd (Rd_load rfl tk3) rfl rfl rfl ?_
          first | refine WL_rd (Rd_geqN (j := 0) rfl rfl) rfl rfl rfl ?_ | refine WL_rd (Rd_geq rfl rfl) rfl rfl rfl ?_
          refine WL_rd (Rd_move rfl) rfl rfl rfl ?_
          refine WL_bool 55 rfl (fun hg12 => ?_) (fun hg12 => ?_)
          · try simp only [decide_eq_true_eq, decide_eq_false_iff_not, Bool.not_eq_true', Bool.not_eq_false', Bool.not_eq_true, Bool.not_eq_false, Int.not_lt, Int.not_le, Nat.not_lt, Nat.not_le, Decidable.not_not, ne_eq] at hg12
            refine WL_rd (Rd_fieldAddr rfl fo30_2) rfl rfl rfl ?_
            refine WL_rd (Rd_load rfl tk3) rfl rfl rfl ?_
            first | refine WL_rd (Rd_lssN (j := 255) rfl rfl) rfl rfl rfl ?_ | refine WL_rd (Rd_lss rfl rfl) rfl rfl rfl ?_
            refine WL_rd (Rd_pickT rfl rfl) rfl rfl rfl ?_
            refine WL_rd (Rd_move rfl) rfl rfl rfl ?_
            refine WL_bool 60 rfl (fun hg13 => ?_) (fun hg13 => ?_)
            · try simp only [decide_eq_true_eq, decide_eq_false_iff_not, Bool.not_eq_true', Bool.not_eq_false', Bool.not_eq_true, Bool.not_eq_false, Int.not_lt, Int.not_le, Nat.not_lt, Nat.not_le, Decidable.not_not, ne_eq] at hg13
              refine WL_rd (Rd_fieldAddr rfl fo30_5) rfl rfl rfl ?_
              refine WL_rd (Rd_fieldAddr rfl fo27_1) rfl rfl rfl ?_
              refine WL_rd (Rd_load rfl tk3) rfl rfl rfl ?_
              first | refine WL_rd (Rd_geqN (j := 0) rfl rfl) rfl rfl rfl ?_ | refine WL_rd (Rd_geq rfl rfl) rfl rfl rfl ?_
              refine WL_rd (Rd_pickT rfl rfl) rfl rfl rfl ?_
              refine WL_rd (Rd_move rfl) rfl rfl rfl ?_
              refine WL_bool 66 rfl (fun hg14 => ?_) (fun hg14 => ?_)
              · try simp only [decide_eq_true_eq, decide_eq_false_iff_not, Bool.not_eq_true', Bool.not_eq_false', Bool.not_eq_true, Bool.not_eq_false, Int.not_lt, Int.not_le, Nat.not_lt, Nat.not_le, Decidable.not_not, ne_eq] at hg14
                refine WL_rd (Rd_fieldAddr rfl fo30_5) rfl rfl rfl ?_
                refine WL_rd (Rd_fieldAddr rfl fo27_1) rfl rfl rfl ?_
                refine WL_rd (Rd_load rfl tk3) rfl rfl rfl ?_
                first | refine WL_rd (Rd_leqN (j := 1099511627776) rfl rfl) rfl rfl rfl ?_ | refine WL_rd (Rd_leq rfl rfl) rfl rfl rfl ?_
                refine WL_rd (Rd_pickT rfl rfl) rfl rfl rfl ?_
                refine WL_rd (Rd_assign rfl) rfl rfl rfl ?_
                refine WL_end hK11 ?_
                refine WC_ret ?_
                exact hret.goE () (Rs1 rfl rfl) (by first | (congr 1; done) | (congr 1; simp [mayM, bareM, *]; done) | (congr 1; simp [mayM, bareM, *]; omega) | (congr 1; rw [Bool.eq_iff_iff]; simp [mayM, bareM, *]; omega) | (congr 1; rw [Bool.eq_iff_iff]; simp [mayM, bareM] at * <;> omega))
              · try simp only [decide_eq_true_eq, decide_eq_false_iff_not, Bool.not_eq_true', Bool.not_eq_false', Bool.not_eq_true, Bool.not_eq_false, Int.not_lt, Int.not_le, Nat.not_lt, Nat.not_le, Decidable.not_not, ne_eq] at hg14
                refine WL_skip rfl rfl rfl ?_
                refine WL_skip rfl rfl rfl ?_
                refine WL_skip rfl rfl rfl ?_
                refine WL_skip rfl rfl rfl ?_
                refine WL_rd (Rd_pickF rfl rfl) rfl rfl rfl ?_
                refine WL_rd (Rd_assign rfl) rfl rfl rfl ?_
                refine WL_end hK11 ?_
                refine WC_ret ?_
                exact hret.goE () (Rs1 rfl rfl) (by first | (congr 1; done) | (congr 1; simp [mayM, bareM, *]; done) | (congr 1; simp [mayM, bareM, *]; omega) | (congr 1; rw [Bool.eq_iff_iff]; simp [mayM, bareM, *]; omega) | (congr 1; rw [Bool.eq_iff_iff]; simp [mayM, bareM] at * <;> omega))
            · try simp only [decide_eq_true_eq, decide_eq_false_iff_not, Bool.not_eq_true', Bool.not_eq_false', Bool.not_eq_true, Bool.not_eq_false, Int.not_lt, Int.not_le, Nat.not_lt, Nat.not_le, Decidable.not_not, ne_eq] at hg13
              refine WL_skip rfl rfl rfl ?_
              refine WL_skip rfl rfl rfl ?_
              refine WL_skip rfl rfl rfl ?_
              refine WL_skip rfl rfl rfl ?_
              refine WL_rd (Rd_pickF rfl rfl) rfl rfl rfl ?_
              refine WL_rd (Rd_move rfl) rfl rfl rfl ?_
              refine WL_skip rfl rfl rfl ?_
              refine WL_skip rfl rfl rfl ?_
              refine WL_skip rfl rfl rfl ?_
              refine WL_skip rfl rfl rfl ?_
              refine WL_rd (Rd_pickF rfl rfl) rfl rfl rfl ?_
              refine WL_rd (Rd_assign rfl) rfl rfl rfl ?_
              refine WL_end hK11 ?_
              refine WC_ret ?_
              exact hret.goE () (Rs1 rfl rfl) (by first | (congr 1; done) | (congr 1; simp [mayM, bareM, *]; done) | (congr 1; simp [mayM, bareM, *]; omega) | (congr 1; rw [Bool.eq_iff_iff]; simp [mayM, bareM, *]; omega) | (congr 1; rw [Bool.eq_iff_iff]; simp [mayM, bareM] at * <;> omega))
          · try simp only [decide_eq_true_eq, decide_eq_false_iff_not, Bool.not_eq_true', Bool.not_eq_false', Bool.not_eq_true, Bool.not_eq_false, Int.not_lt, Int.not_le, Nat.not_lt, Nat.not_le, Decidable.not_not, ne_eq] at hg12
            refine WL_skip rfl rfl rfl ?_
            refine WL_skip rfl rfl rfl ?_
            refine WL_skip rfl rfl rfl ?_
            refine WL_rd (Rd_pickF rfl rfl) rfl rfl rfl ?_
            refine WL_rd (Rd_move rfl) rfl rfl rfl ?_
            refine WL_skip rfl rfl rfl ?_
            refine WL_skip rfl rfl rfl ?_
            refine WL_skip rfl rfl rfl ?_
            refine WL_skip rfl rfl rfl ?_
            refine WL_rd (Rd_pickF rfl rfl) rfl rfl rfl ?_
            refine WL_rd (Rd_move rfl) rfl rfl rfl ?_
            refine WL_skip rfl rfl rfl ?_
            refine WL_skip rfl rfl rfl ?_
            refine WL_skip rfl rfl rfl ?_
            refine WL_skip rfl rfl rfl ?_
            refine WL_rd (Rd_pickF rfl rfl) rfl rfl rfl ?_
            refine WL_rd (Rd_assign rfl) rfl rfl rfl ?_
            refine WL_end hK11 ?_
            refine WC_ret ?_
            exact hret.goE () (Rs1 rfl rfl) (by first | (congr 1; done) | (congr 1; simp [mayM, bareM, *]; done) | (congr 1; simp [mayM, bareM, *]; omega) | (congr 1; rw [Bool.eq_iff_iff]; simp [mayM, bareM, *]; omega) | (congr 1; rw [Bool.eq_iff_iff]; simp [mayM, bareM] at * <;> omega))

theorem mayR_ct {k n f c wh un : Int} {x0 x1 x2 x3 x4 x5 x6 x7 x8 x9 x10 x11 x12 x13 x14 x15 : Int} {ao : Option Addr} {len cap : Nat}  : Ct Try.prog 11 [.agg [.int .u8 k, .int .u8 x0, .int .u8 x1, .int .u8 x2, .int .u8 x3, .int .u8 x4, .int .u8 x5, .int .u8 x6, .int .u8 x7, .int .u8 x8, .int .u8 x9, .int .u8 x10, .int .u8 x11, .int .u8 x12, .int .u8 x13, .int .u8 x14, .int .u8 x15, .int .i64 n, .int .i64 f, .int .i64 c, .int .u32 wh, .int .i64 un, .slice ao len cap].toArray] [] (fun _ : Unit => .bool (mayM k n f c wh un len)) (fun _ => []) := by
  refine Ct_body (n := 57) Try.func11 rfl rfl rfl fun F w0 Q hret hnorm hp => ?_
  change WC _ _ _ _ _ _ (F)
  refine WC_sr fun K1 hK1 => ?_
  refine WL_ac (Ac_box rfl rfl) rfl rfl rfl ?_
  rintro _ _ ⟨b1, rfl, rfl⟩
  refine WL_rd (Rd_assign rfl) rfl rfl rfl ?_
  refine WL_end hK1 ?_
  refine WC_seq fun K2 hK2 => ?_
  refine WC_sr fun K3 hK3 => ?_
  refine WL_rd (Rd_fieldAddr rfl fo30_0) rfl rfl rfl ?_
  refine WL_rd (Rd_load rfl tk22) rfl rfl rfl ?_
  refine WL_end hK3 ?_
  refine WC_block ?_
  refine WC_sr fun K4 hK4 => ?_
  first | refine WL_rd (Rd_eqlN (j := 1) rfl rfl) rfl rfl rfl ?_ | refine WL_rd (Rd_eql rfl rfl) rfl rfl rfl ?_
  refine WL_rd (Rd_assign rfl) rfl rfl rfl ?_
  refine WL_end hK4 ?_
  refine WC_cond rfl (fun hc0 => ?_) (fun hc0 => ?_)
  · try simp only [decide_eq_true_eq, decide_eq_false_iff_not, Bool.not_eq_true', Bool.not_eq_false', Bool.not_eq_true, Bool.not_eq_false, Int.not_lt, Int.not_le, Nat.not_lt, Nat.not_le, Decidable.not_not, ne_eq] at hc0
    refine WC_sr fun K5 hK5 => ?_
    refine WL_rd (Rd_loadg rfl tk30) rfl rfl rfl ?_
    refine WL_ac (Ac_call cf38 rfl (hs := bare0_ct)) rfl rfl rfl ?_
    rintro _ _ ⟨⟨⟩, rfl, hA⟩
    simp only [List.cons_append, List.nil_append] at hA
    subst hA
    refine WL_rd (Rd_assign rfl) rfl rfl rfl ?_
    refine WL_end hK5 ?_
    refine WC_ret ?_
    exact hret.goE () (Rs1 rfl rfl) (by first | (congr 1; done) | (congr 1; simp [mayM, bareM, *]; done) | (congr 1; simp [mayM, bareM, *]; omega) | (congr 1; rw [Bool.eq_iff_iff]; simp [mayM, bareM, *]; omega) | (congr 1; rw [Bool.eq_iff_iff]; simp [mayM, bareM] at * <;> omega))
  · try simp only [decide_eq_true_eq, decide_eq_false_iff_not, Bool.not_eq_true', Bool.not_eq_false', Bool.not_eq_true, Bool.not_eq_false, Int.not_lt, Int.not_le, Nat.not_lt, Nat.not_le, Decidable.not_not, ne_eq] at hc0
    refine WC_sr fun K6 hK6 => ?_
    first | refine WL_rd (Rd_eqlN (j := 2) rfl rfl) rfl rfl rfl ?_ | refine WL_rd (Rd_eql rfl rfl) rfl rfl rfl ?_
    refine WL_rd (Rd_assign rfl) rfl rfl rfl ?_
    refine WL_end hK6 ?_
    refine WC_cond rfl (fun hc1 => ?_) (fun hc1 => ?_)
    · try simp only [decide_eq_true_eq, decide_eq_false_iff_not, Bool.not_eq_true', Bool.not_eq_false', Bool.not_eq_true, Bool.not_eq_false, Int.not_lt, Int.not_le, Nat.not_lt, Nat.not_le, Decidable.not_not, ne_eq] at hc1
      refine WC_sr fun K7 hK7 => ?_
      refine WL_rd (Rd_loadg rfl tk30) rfl rfl rfl ?_
      refine WL_ac (Ac_call cf38 rfl (hs := bare1_ct)) rfl rfl rfl ?_
      rintro _ _ ⟨⟨⟩, rfl, hA⟩
      simp only [List.cons_append, List.nil_append] at hA
      subst hA
      refine WL_rd (Rd_move rfl) rfl rfl rfl ?_
      refine WL_bool 13 rfl (fun hg8 => ?_) (fun hg8 => ?_)
      · try simp only [decide_eq_true_eq, decide_eq_false_iff_not, Bool.not_eq_true', Bool.not_eq_false', Bool.not_eq_true, Bool.not_eq_false, Int.not_lt, Int.not_le, Nat.not_lt, Nat.not_le, Decidable.not_not, ne_eq] at hg8
        refine WL_rd (Rd_fieldAddr rfl fo30_6) rfl rfl rfl ?_
        refine WL_rd (Rd_load rfl tk28) rfl rfl rfl ?_
        first | refine WL_rd (Rd_len rfl rfl ud28) rfl rfl rfl ?_ | refine WL_rd (Rd_len_sv rfl rfl ud28) rfl rfl rfl ?_
        refine WL_rd (Rd_leqN (j := 33554432) rfl rfl) rfl rfl rfl ?_
        refine WL_rd (Rd_pickT rfl rfl) rfl rfl rfl ?_
        refine WL_rd (Rd_assign rfl) rfl rfl rfl ?_
        refine WL_end hK7 ?_
        refine WC_ret ?_
        exact hret.goE () (Rs1 rfl rfl) (by first | (congr 1; done) | (congr 1; simp [mayM, bareM, *]; done) | (congr 1; simp [mayM, bareM, *]; omega) | (congr 1; rw [Bool.eq_iff_iff]; simp [mayM, bareM, *]; omega) | (congr 1; rw [Bool.eq_iff_iff]; simp [mayM, bareM] at * <;> omega))
      · try simp only [decide_eq_true_eq, decide_eq_false_iff_not, Bool.not_eq_true', Bool.not_eq_false', Bool.not_eq_true, Bool.not_eq_false, Int.not_lt, Int.not_le, Nat.not_lt, Nat.not_le, Decidable.not_not, ne_eq] at hg8
        refine WL_skip rfl rfl rfl ?_
        refine WL_skip rfl rfl rfl ?_
        refine WL_skip rfl rfl rfl ?_
        refine WL_skip rfl rfl rfl ?_
        refine WL_rd (Rd_pickF rfl rfl) rfl rfl rfl ?_
        refine WL_rd (Rd_assign rfl) rfl rfl rfl ?_
        refine WL_end hK7 ?_
        refine WC_ret ?_
        exact hret.goE () (Rs1 rfl rfl) (by first | (congr 1; done) | (congr 1; simp [mayM, bareM, *]; done) | (congr 1; simp [mayM, bareM, *]; omega) | (congr 1; rw [Bool.eq_iff_iff]; simp [mayM, bareM, *]; omega) | (congr 1; rw [Bool.eq_iff_iff]; simp [mayM, bareM] at * <;> omega))
    · try simp only [decide_eq_true_eq, decide_eq_false_iff_not, Bool.not_eq_true', Bool.not_eq_false', Bool.not_eq_true, Bool.not_eq_false, Int.not_lt, Int.not_le, Nat.not_lt, Nat.not_le, Decidable.not_not, ne_eq] at hc1
      refine WC_sr fun K9 hK9 => ?_
      first | refine WL_rd (Rd_eqlN (j := 3) rfl rfl) rfl rfl rfl ?_ | refine WL_rd (Rd_eql rfl rfl) rfl rfl rfl ?_
      refine WL_rd (Rd_assign rfl) rfl rfl rfl ?_
      refine WL_end hK9 ?_
      refine WC_cond rfl (fun hc2 => ?_) (fun hc2 => ?_)
      · try simp only [decide_eq_true_eq, decide_eq_false_iff_not, Bool.not_eq_true', Bool.not_eq_false', Bool.not_eq_true, Bool.not_eq_false, Int.not_lt, Int.not_le, Nat.not_lt, Nat.not_le, Decidable.not_not, ne_eq] at hc2
        refine WC_sr fun K10 hK10 => ?_
        refine WL_rd (Rd_loadg rfl tk30) rfl rfl rfl ?_
        refine WL_ac (Ac_call cf38 rfl (hs := bare2_ct)) rfl rfl rfl ?_
        rintro _ _ ⟨⟨⟩, rfl, hA⟩
        simp only [List.cons_append, List.nil_append] at hA
        subst hA
        refine WL_rd (Rd_move rfl) rfl rfl rfl ?_
        refine WL_bool 23 rfl (fun hg11 => ?_) (fun hg11 => ?_)
        · try simp only [decide_eq_true_eq, decide_eq_false_iff_not, Bool.not_eq_true', Bool.not_eq_false', Bool.not_eq_true, Bool.not_eq_false, Int.not_lt, Int.not_le, Nat.not_lt, Nat.not_le, Decidable.not_not, ne_eq] at hg11
          refine WL_rd (Rd_fieldAddr rfl fo30_3) rfl rfl rfl ?_
          refine WL_rd (Rd_load rfl tk3) rfl rfl rfl ?_
          first | refine WL_rd (Rd_geqN (j := 0) rfl rfl) rfl rfl rfl ?_ | refine WL_rd (Rd_geq rfl rfl) rfl rfl rfl ?_
          refine WL_rd (Rd_pickT rfl rfl) rfl rfl rfl ?_
          refine WL_rd (Rd_move rfl) rfl rfl rfl ?_
          refine WL_bool 28 rfl (fun hg12 => ?_) (fun hg12 => ?_)
          · try simp only [decide_eq_true_eq, decide_eq_false_iff_not, Bool.not_eq_true', Bool.not_eq_false', Bool.not_eq_true, Bool.not_eq_false, Int.not_lt, Int.not_le, Nat.not_lt, Nat.not_le, Decidable.not_not, ne_eq] at hg12
            refine WL_rd (Rd_fieldAddr rfl fo30_3) rfl rfl rfl ?_
            refine WL_rd (Rd_load rfl tk3) rfl rfl rfl ?_
            first | refine WL_rd (Rd_leqN (j := 33554432) rfl rfl) rfl rfl rfl ?_ | refine WL_rd (Rd_leq rfl rfl) rfl rfl rfl ?_
            refine WL_rd (Rd_pickT rfl rfl) rfl rfl rfl ?_
            refine WL_rd (Rd_move rfl) rfl rfl rfl ?_
            refine WL_bool 33 rfl (fun hg13 => ?_) (fun hg13 => ?_)
            · try simp only [decide_eq_true_eq, decide_eq_false_iff_not, Bool.not_eq_true', Bool.not_eq_false', Bool.not_eq_true, Bool.not_eq_false, Int.not_lt, Int.not_le, Nat.not_lt, Nat.not_le, Decidable.not_not, ne_eq] at hg13
              refine WL_rd (Rd_fieldAddr rfl fo30_4) rfl rfl rfl ?_
              refine WL_rd (Rd_load rfl tk3) rfl rfl rfl ?_
              first | refine WL_rd (Rd_geqN (j := 1) rfl rfl) rfl rfl rfl ?_ | refine WL_rd (Rd_geq rfl rfl) rfl rfl rfl ?_
              refine WL_rd (Rd_pickT rfl rfl) rfl rfl rfl ?_
              refine WL_rd (Rd_move rfl) rfl rfl rfl ?_
              refine WL_bool 38 rfl (fun hg14 => ?_) (fun hg14 => ?_)
              · try simp only [decide_eq_true_eq, decide_eq_false_iff_not, Bool.not_eq_true', Bool.not_eq_false', Bool.not_eq_true, Bool.not_eq_false, Int.not_lt, Int.not_le, Nat.not_lt, Nat.not_le, Decidable.not_not, ne_eq] at hg14
                refine WL_rd (Rd_fieldAddr rfl fo30_4) rfl rfl rfl ?_
                refine WL_rd (Rd_load rfl tk3) rfl rfl rfl ?_
                first | refine WL_rd (Rd_leqN (j := 131072) rfl rfl) rfl rfl rfl ?_ | refine WL_rd (Rd_leq rfl rfl) rfl rfl rfl ?_
                refine WL_rd (Rd_pickT rfl rfl) rfl rfl rfl ?_
                refine WL_rd (Rd_assign rfl) rfl rfl rfl ?_
                refine WL_end hK10 ?_
                refine WC_ret ?_
                exact hret.goE () (Rs1 rfl rfl) (by first | (congr 1; done) | (congr 1; simp [mayM, bareM, *]; done) | (congr 1; simp [mayM, bareM, *]; omega) | (congr 1; rw [Bool.eq_iff_iff]; simp [mayM, bareM, *]; omega) | (congr 1; rw [Bool.eq_iff_iff]; simp [mayM, bareM] at * <;> omega))
              · try simp only [decide_eq_true_eq, decide_eq_false_iff_not, Bool.not_eq_true', Bool.not_eq_false', Bool.not_eq_true, Bool.not_eq_false, Int.not_lt, Int.not_le, Nat.not_lt, Nat.not_le, Decidable.not_not, ne_eq] at hg14
                refine WL_skip rfl rfl rfl ?_
                refine WL_skip rfl rfl rfl ?_
                refine WL_skip rfl rfl rfl ?_
                refine WL_rd (Rd_pickF rfl rfl) rfl rfl rfl ?_
                refine WL_rd (Rd_assign rfl) rfl rfl rfl ?_
                refine WL_end hK10 ?_
                refine WC_ret ?_
                exact hret.goE () (Rs1 rfl rfl) (by first | (congr 1; done) | (congr 1; simp [mayM, bareM, *]; done) | (congr 1; simp [mayM, bareM, *]; omega) | (congr 1; rw [Bool.eq_iff_iff]; simp [mayM, bareM, *]; omega) | (congr 1; rw [Bool.eq_iff_iff]; simp [mayM, bareM] at * <;> omega))
            · try simp only [decide_eq_true_eq, decide_eq_false_iff_not, Bool.not_eq_true', Bool.not_eq_false', Bool.not_eq_true, Bool.not_eq_false, Int.not_lt, Int.not_le, Nat.not_lt, Nat.not_le, Decidable.not_not, ne_eq] at hg13
              refine WL_skip rfl rfl rfl ?_
              refine WL_skip rfl rfl rfl ?_
              refine WL_skip rfl rfl rfl ?_
              refine WL_rd (Rd_pickF rfl rfl) rfl rfl rfl ?_
              refine WL_rd (Rd_move rfl) rfl rfl rfl ?_
              refine WL_skip rfl rfl rfl ?_
              refine WL_skip rfl rfl rfl ?_
              refine WL_skip rfl rfl rfl ?_
              refine WL_rd (Rd_pickF rfl rfl) rfl rfl rfl ?_
              refine WL_rd (Rd_assign rfl) rfl rfl rfl ?_
              refine WL_end hK10 ?_
              refine WC_ret ?_
              exact hret.goE () (Rs1 rfl rfl) (by first | (congr 1; done) | (congr 1; simp [mayM, bareM, *]; done) | (congr 1; simp [mayM, bareM, *]; omega) | (congr 1; rw [Bool.eq_iff_iff]; simp [mayM, bareM, *]; omega) | (congr 1; rw [Bool.eq_iff_iff]; simp [mayM, bareM] at * <;> omega))
          · try simp only [decide_eq_true_eq, decide_eq_false_iff_not, Bool.not_eq_true', Bool.not_eq_false', Bool.not_eq_true, Bool.not_eq_false, Int.not_lt, Int.not_le, Nat.not_lt, Nat.not_le, Decidable.not_not, ne_eq] at hg12
            refine WL_skip rfl rfl rfl ?_
            refine WL_skip rfl rfl rfl ?_
            refine WL_skip rfl rfl rfl ?_
            refine WL_rd (Rd_pickF rfl rfl) rfl rfl rfl ?_
            refine WL_rd (Rd_move rfl) rfl rfl rfl ?_
            refine WL_skip rfl rfl rfl ?_
            refine WL_skip rfl rfl rfl ?_
            refine WL_skip rfl rfl rfl ?_
            refine WL_rd (Rd_pickF rfl rfl) rfl rfl rfl ?_
            refine WL_rd (Rd_move rfl) rfl rfl rfl ?_
            refine WL_skip rfl rfl rfl ?_
            refine WL_skip rfl rfl rfl ?_
            refine WL_skip rfl rfl rfl ?_
            refine WL_rd (Rd_pickF rfl rfl) rfl rfl rfl ?_
            refine WL_rd (Rd_assign rfl) rfl rfl rfl ?_
            refine WL_end hK10 ?_
            refine WC_ret ?_
            exact hret.goE () (Rs1 rfl rfl) (by first | (congr 1; done) | (congr 1; simp [mayM, bareM, *]; done) | (congr 1; simp [mayM, bareM, *]; omega) | (congr 1; rw [Bool.eq_iff_iff]; simp [mayM, bareM, *]; omega) | (congr 1; rw [Bool.eq_iff_iff]; simp [mayM, bareM] at * <;> omega))
        · try simp only [decide_eq_true_eq, decide_eq_false_iff_not, Bool.not_eq_true', Bool.not_eq_false', Bool.not_eq_true, Bool.not_eq_false, Int.not_lt, Int.not_le, Nat.not_lt, Nat.not_le, Decidable.not_not, ne_eq] at hg11
          refine WL_skip rfl rfl rfl ?_
          refine WL_skip rfl rfl rfl ?_
          refine WL_skip rfl rfl rfl ?_
          refine WL_rd (Rd_pickF rfl rfl) rfl rfl rfl ?_
          refine WL_rd (Rd_move rfl) rfl rfl rfl ?_
          refine WL_skip rfl rfl rfl ?_
          refine WL_skip rfl rfl rfl ?_
          refine WL_skip rfl rfl rfl ?_
          refine WL_rd (Rd_pickF rfl rfl) rfl rfl rfl ?_
          refine WL_rd (Rd_move rfl) rfl rfl rfl ?_
          refine WL_skip rfl rfl rfl ?_
          refine WL_skip rfl rfl rfl ?_
          refine WL_skip rfl rfl rfl ?_
          refine WL_rd (Rd_pickF rfl rfl) rfl rfl rfl ?_
          refine WL_rd (Rd_move rfl) rfl rfl rfl ?_
          refine WL_skip rfl rfl rfl ?_
          refine WL_skip rfl rfl rfl ?_
          refine WL_skip rfl rfl rfl ?_
          refine WL_rd (Rd_pickF rfl rfl) rfl rfl rfl ?_
          refine WL_rd (Rd_assign rfl) rfl rfl rfl ?_
          refine WL_end hK10 ?_
          refine WC_ret ?_
          exact hret.goE () (Rs1 rfl rfl) (by first | (congr 1; done) | (congr 1; simp [mayM, bareM, *]; done) | (congr 1; simp [mayM, bareM, *]; omega) | (congr 1; rw [Bool.eq_iff_iff]; simp [mayM, bareM, *]; omega) | (congr 1; rw [Bool.eq_iff_iff]; simp [mayM, bareM] at * <;> omega))
      · try simp only [decide_eq_true_eq, decide_eq_false_iff_not, Bool.not_eq_true', Bool.not_eq_false', Bool.not_eq_true, Bool.not_eq_false, Int.not_lt, Int.not_le, Nat.not_lt, Nat.not_le, Decidable.not_not, ne_eq] at hc2
        refine WC_sr fun K15 hK15 => ?_
        first | refine WL_rd (Rd_eqlN (j := 4) rfl rfl) rfl rfl rfl ?_ | refine WL_rd (Rd_eql rfl rfl) rfl rfl rfl ?_
        refine WL_rd (Rd_assign rfl) rfl rfl rfl ?_
        refine WL_end hK15 ?_
        refine WC_cond rfl (fun hc3 => ?_) (fun hc3 => ?_)
        · try simp only [decide_eq_true_eq, decide_eq_false_iff_not, Bool.not_eq_true', Bool.not_eq_false', Bool.not_eq_true, Bool.not_eq_false, Int.not_lt, Int.not_le, Nat.not_lt, Nat.not_le, Decidable.not_not, ne_eq] at hc3
          refine WC_sr fun K16 hK16 => ?_
          refine WL_rd (Rd_loadg rfl tk30) rfl rfl rfl ?_
          refine WL_ac (Ac_call cf38 rfl (hs := bare3_ct)) rfl rfl rfl ?_
          rintro _ _ ⟨⟨⟩, rfl, hA⟩
          simp only [List.cons_append, List.nil_append] at hA
          subst hA
          refine WL_rd (Rd_assign rfl) rfl rfl rfl ?_
          refine WL_end hK16 ?_
          refine WC_ret ?_
          exact hret.goE () (Rs1 rfl rfl) (by first | (congr 1; done) | (congr 1; simp [mayM, bareM, *]; done) | (congr 1; simp [mayM, bareM, *]; omega) | (congr 1; rw [Bool.eq_iff_iff]; simp [mayM, bareM, *]; omega) | (congr 1; rw [Bool.eq_iff_iff]; simp [mayM, bareM] at * <;> omega))
        · try simp only [decide_eq_true_eq, decide_eq_false_iff_not, Bool.not_eq_true', Bool.not_eq_false', Bool.not_eq_true, Bool.not_eq_false, Int.not_lt, Int.not_le, Nat.not_lt, Nat.not_le, Decidable.not_not, ne_eq] at hc3
          refine WC_sr fun K17 hK17 => ?_
          first | refine WL_rd (Rd_eqlN (j := 5) rfl rfl) rfl rfl rfl ?_ | refine WL_rd (Rd_eql rfl rfl) rfl rfl rfl ?_
          refine WL_rd (Rd_assign rfl) rfl rfl rfl ?_
          refine WL_end hK17 ?_
          refine WC_cond rfl (fun hc4 => ?_) (fun hc4 => ?_)
          · try simp only [decide_eq_true_eq, decide_eq_false_iff_not, Bool.not_eq_true', Bool.not_eq_false', Bool.not_eq_true, Bool.not_eq_false, Int.not_lt, Int.not_le, Nat.not_lt, Nat.not_le, Decidable.not_not, ne_eq] at hc4
            refine WC_sr fun K18 hK18 => ?_
            refine WL_rd (Rd_loadg rfl tk30) rfl rfl rfl ?_
            refine WL_ac (Ac_call cf38 rfl (hs := bare3_ct)) rfl rfl rfl ?_
            rintro _ _ ⟨⟨⟩, rfl, hA⟩
            simp only [List.cons_append, List.nil_append] at hA
            subst hA
            refine WL_rd (Rd_move rfl) rfl rfl rfl ?_
            refine WL_bool 51 rfl (fun hg19 => ?_) (fun hg19 => ?_)
            · try simp only [decide_eq_true_eq, decide_eq_false_iff_not, Bool.not_eq_true', Bool.not_eq_false', Bool.not_eq_true, Bool.not_eq_false, Int.not_lt, Int.not_le, Nat.not_lt, Nat.not_le, Decidable.not_not, ne_eq] at hg19
              refine WL_rd (Rd_fieldAddr rfl fo30_5) rfl rfl rfl ?_
              refine WL_rd (Rd_fieldAddr rfl fo27_1) rfl rfl rfl ?_
              refine WL_rd (Rd_load rfl tk3) rfl rfl rfl ?_
              first | refine WL_rd (Rd_eqlN (j := 0) rfl rfl) rfl rfl rfl ?_ | refine WL_rd (Rd_eql rfl rfl) rfl rfl rfl ?_
              refine WL_rd (Rd_pickT rfl rfl) rfl rfl rfl ?_
              refine WL_rd (Rd_assign rfl) rfl rfl rfl ?_
              refine WL_end hK18 ?_
              refine WC_ret ?_
              exact hret.goE () (Rs1 rfl rfl) (by first | (congr 1; done) | (congr 1; simp [mayM, bareM, *]; done) | (congr 1; simp [mayM, bareM, *]; omega) | (congr 1; rw [Bool.eq_iff_iff]; simp [mayM, bareM, *]; omega) | (congr 1; rw [Bool.eq_iff_iff]; simp [mayM, bareM] at * <;> omega))
            · try simp only [decide_eq_true_eq, decide_eq_false_iff_not, Bool.not_eq_true', Bool.not_eq_false', Bool.not_eq_true, Bool.not_eq_false, Int.not_lt, Int.not_le, Nat.not_lt, Nat.not_le, Decidable.not_not, ne_eq] at hg19
              refine WL_skip rfl rfl rfl ?_
              refine WL_skip rfl rfl rfl ?_
              refine WL_skip rfl rfl rfl ?_
              refine WL_skip rfl rfl rfl ?_
              refine WL_rd (Rd_pickF rfl rfl) rfl rfl rfl ?_
              refine WL_rd (Rd_assign rfl) rfl rfl rfl ?_
              refine WL_end hK18 ?_
              refine WC_ret ?_
              exact hret.goE () (Rs1 rfl rfl) (by first | (congr 1; done) | (congr 1; simp [mayM, bareM, *]; done) | (congr 1; simp [mayM, bareM, *]; omega) | (congr 1; rw [Bool.eq_iff_iff]; simp [mayM, bareM, *]; omega) | (congr 1; rw [Bool.eq_iff_iff]; simp [mayM, bareM] at * <;> omega))
          · try simp only [decide_eq_true_eq, decide_eq_false_iff_not, Bool.not_eq_true', Bool.not_eq_false', Bool.not_eq_true, Bool.not_eq_false, Int.not_lt, Int.not_le, Nat.not_lt, Nat.not_le, Decidable.not_not, ne_eq] at hc4
            refine WC_skip ?_
            refine Ps_next hK2 ?_
            refine WC_sr fun K20 hK20 => ?_
            refine WL_rd (Rd_assign rfl) rfl rfl rfl ?_
            refine WL_end hK20 ?_
            refine WC_ret ?_
            exact hret.goE () (Rs1 rfl rfl) (by first | (congr 1; done) | (congr 1; simp [mayM, bareM, *]; done) | (congr 1; simp [mayM, bareM, *]; omega) | (congr 1; rw [Bool.eq_iff_iff]; simp [mayM, bareM, *]; omega) | (congr 1; rw [Bool.eq_iff_iff]; simp [mayM, bareM] at * <;> omega))

theorem mayS_ct {k n f c wh un : Int} {x0 x1 x2 x3 x4 x5 x6 x7 x8 x9 x10 x11 x12 x13 x14 x15 : Int} {ao : Option Addr} {len cap : Nat}  : Ct Try.prog 10 [.agg [.int .u8 k, .int .u8 x0, .int .u8 x1, .int .u8 x2, .int .u8 x3, .int .u8 x4, .int .u8 x5, .int .u8 x6, .int .u8 x7, .int .u8 x8, .int .u8 x9, .int .u8 x10, .int .u8 x11, .int .u8 x12, .int .u8 x13, .int .u8 x14, .int .u8 x15, .int .i64 n, .int .i64 f, .int .i64 c, .int .u32 wh, .int .i64 un, .slice ao len cap].toArray] [] (fun _ : Unit => .bool (mayM k n f c wh un len)) (fun _ => []) := by
  refine Ct_body (n := 128) Try.func10 rfl rfl rfl fun F w0 Q hret hnorm hp => ?_
  change WC _ _ _ _ _ _ (F)
  refine WC_sr fun K1 hK1 => ?_
  refine WL_ac (Ac_box rfl rfl) rfl rfl rfl ?_
  rintro _ _ ⟨b1, rfl, rfl⟩
  refine WL_rd (Rd_assign rfl) rfl rfl rfl ?_
  refine WL_end hK1 ?_
  refine WC_sr fun K2 hK2 => ?_
  refine WL_rd (Rd_fieldAddr rfl fo30_0) rfl rfl rfl ?_
  refine WL_rd (Rd_load rfl tk22) rfl rfl rfl ?_
  refine WL_rd (Rd_fieldAddr rfl fo30_1) rfl rfl rfl ?_
  refine WL_rd (Rd_loadg rfl tk24) rfl rfl rfl ?_
  refine WL_rd (Rd_build pls30 rfl) rfl rfl rfl ?_
  refine WL_ac (Ac_alloc zr30) rfl rfl rfl ?_
  rintro _ _ ⟨b3, rfl, rfl⟩
  refine WL_ac0 (Ac_store rfl rfl sz30) rfl rfl ?_
  rintro _ _ rfl
  refine WL_end hK2 ?_
  refine WC_sr fun K3 hK3 => ?_
  refine WL_rd (Rd_assign rfl) rfl rfl rfl ?_
  refine WL_end hK3 ?_
  refine WC_seq fun K4 hK4 => ?_
  refine WC_sr fun K5 hK5 => ?_
  refine WL_rd (Rd_fieldAddr rfl fo30_0) rfl rfl rfl ?_
  refine WL_rd (Rd_load rfl tk22) rfl rfl rfl ?_
  refine WL_end hK5 ?_
  refine WC_block ?_
  refine WC_sr fun K6 hK6 => ?_
  first | refine WL_rd (Rd_eqlN (j := 1) rfl rfl) rfl rfl rfl ?_ | refine WL_rd (Rd_eql rfl rfl) rfl rfl rfl ?_
  refine WL_rd (Rd_assign rfl) rfl rfl rfl ?_
  refine WL_end hK6 ?_
  refine WC_cond rfl (fun hc0 => ?_) (fun hc0 => ?_)
  · try simp only [decide_eq_true_eq, decide_eq_false_iff_not, Bool.not_eq_true', Bool.not_eq_false', Bool.not_eq_true, Bool.not_eq_false, Int.not_lt, Int.not_le, Nat.not_lt, Nat.not_le, Decidable.not_not, ne_eq] at hc0
    refine WC_skip ?_
    refine Ps_next hK4 ?_
    refine WC_sr fun K7 hK7 => ?_
    refine WL_rd (Rd_move rfl) rfl rfl rfl ?_
    refine WL_rd (Rd_move rfl) rfl rfl rfl ?_
    refine WL_rd (Rd_fieldAddr rfl fo30_2) rfl rfl rfl ?_
    refine WL_rd (Rd_load rfl tk3) rfl rfl rfl ?_
    refine WL_rd (Rd_fieldAddr rfl fo30_2) rfl rfl rfl ?_
    refine WL_rd (Rd_load rfl tk3) rfl rfl rfl ?_
    first | refine WL_rd (Rd_eqlN rfl rfl) rfl rfl rfl ?_ | refine WL_rd (Rd_eql rfl rfl) rfl rfl rfl ?_
    refine WL_rd (Rd_pickT rfl rfl) rfl rfl rfl ?_
    refine WL_rd (Rd_move rfl) rfl rfl rfl ?_
    refine WL_bool 98 rfl (fun hg8 => ?_) (fun hg8 => ?_)
    · try simp only [decide_eq_true_eq, decide_eq_false_iff_not, Bool.not_eq_true', Bool.not_eq_false', Bool.not_eq_true, Bool.not_eq_false, Int.not_lt, Int.not_le, Nat.not_lt, Nat.not_le, Decidable.not_not, ne_eq] at hg8
      refine WL_rd (Rd_fieldAddr rfl fo30_3) rfl rfl rfl ?_
      refine WL_rd (Rd_load rfl tk3) rfl rfl rfl ?_
      refine WL_rd (Rd_fieldAddr rfl fo30_3) rfl rfl rfl ?_
      refine WL_rd (Rd_load rfl tk3) rfl rfl rfl ?_
      first | refine WL_rd (Rd_eqlN rfl rfl) rfl rfl rfl ?_ | refine WL_rd (Rd_eql rfl rfl) rfl rfl rfl ?_
      refine WL_rd (Rd_pickT rfl rfl) rfl rfl rfl ?_
      refine WL_rd (Rd_move rfl) rfl rfl rfl ?_
      refine WL_bool 105 rfl (fun hg9 => ?_) (fun hg9 => ?_)
      · try simp only [decide_eq_true_eq, decide_eq_false_iff_not, Bool.not_eq_true', Bool.not_eq_false', Bool.not_eq_true, Bool.not_eq_false, Int.not_lt, Int.not_le, Nat.not_lt, Nat.not_le, Decidable.not_not, ne_eq] at hg9
        refine WL_rd (Rd_fieldAddr rfl fo30_4) rfl rfl rfl ?_
        refine WL_rd (Rd_load rfl tk3) rfl rfl rfl ?_
        refine WL_rd (Rd_fieldAddr rfl fo30_4) rfl rfl rfl ?_
        refine WL_rd (Rd_load rfl tk3) rfl rfl rfl ?_
        first | refine WL_rd (Rd_eqlN rfl rfl) rfl rfl rfl ?_ | refine WL_rd (Rd_eql rfl rfl) rfl rfl rfl ?_
        refine WL_rd (Rd_pickT rfl rfl) rfl rfl rfl ?_
        refine WL_rd (Rd_move rfl) rfl rfl rfl ?_
        refine WL_bool 112 rfl (fun hg10 => ?_) (fun hg10 => ?_)
        · try simp only [decide_eq_true_eq, decide_eq_false_iff_not, Bool.not_eq_true', Bool.not_eq_false', Bool.not_eq_true, Bool.not_eq_false, Int.not_lt, Int.not_le, Nat.not_lt, Nat.not_le, Decidable.not_not, ne_eq] at hg10
          refine WL_rd (Rd_fieldAddr rfl fo30_5) rfl rfl rfl ?_
          refine WL_rd (Rd_loadg rfl tk27) rfl rfl rfl ?_
          refine WL_rd (Rd_fieldAddr rfl fo30_5) rfl rfl rfl ?_
          refine WL_rd (Rd_loadg rfl tk27) rfl rfl rfl ?_
          refine WL_rd (Rd_eqS rfl rfl fls27 (EqL.sc tk25 rfl rfl (Eqs_int ud25 _ _) (EqL.sc tk3 rfl rfl (Eqs_int ud3 _ _) EqL.nil))) rfl rfl rfl ?_
          refine WL_rd (Rd_pickT rfl rfl) rfl rfl rfl ?_
          refine WL_rd (Rd_move rfl) rfl rfl rfl ?_
          refine WL_bool 119 rfl (fun hg11 => ?_) (fun hg11 => ?_)
          · try simp only [decide_eq_true_eq, decide_eq_false_iff_not, Bool.not_eq_true', Bool.not_eq_false', Bool.not_eq_true, Bool.not_eq_false, Int.not_lt, Int.not_le, Nat.not_lt, Nat.not_le, Decidable.not_not, ne_eq] at hg11
            refine WL_rd (Rd_fieldAddr rfl fo30_6) rfl rfl rfl ?_
            refine WL_rd (Rd_load rfl tk28) rfl rfl rfl ?_
            first | refine WL_rd (Rd_len rfl rfl ud28) rfl rfl rfl ?_ | refine WL_rd (Rd_len_sv rfl rfl ud28) rfl rfl rfl ?_
            refine WL_rd (Rd_fieldAddr rfl fo30_6) rfl rfl rfl ?_
            refine WL_rd (Rd_load rfl tk28) rfl rfl rfl ?_
            first | refine WL_rd (Rd_len rfl rfl ud28) rfl rfl rfl ?_ | refine WL_rd (Rd_len_sv rfl rfl ud28) rfl rfl rfl ?_
            refine WL_rd (Rd_eqlN rfl rfl) rfl rfl rfl ?_
            refine WL_rd (Rd_pickT rfl rfl) rfl rfl rfl ?_
            refine WL_rd (Rd_assign rfl) rfl rfl rfl ?_
            refine WL_end hK7 ?_
            refine WC_ret ?_
            exact hret.goE () (Rs1 rfl rfl) (by first | (congr 1; done) | (congr 1; simp [mayM, bareM, *]; done) | (congr 1; simp [mayM, bareM, *]; omega) | (congr 1; rw [Bool.eq_iff_iff]; simp [mayM, bareM, *]; omega) | (congr 1; rw [Bool.eq_iff_iff]; simp [mayM, bareM] at * <;> omega))
          · try simp only [decide_eq_true_eq, decide_eq_false_iff_not, Bool.not_eq_true', Bool.not_eq_false', Bool.not_eq_true, Bool.not_eq_false, Int.not_lt, Int.not_le, Nat.not_lt, Nat.not_le, Decidable.not_not, ne_eq] at hg11
            refine WL_skip rfl rfl rfl ?_
            refine WL_skip rfl rfl rfl ?_
            refine WL_skip rfl rfl rfl ?_
            refine WL_skip rfl rfl rfl ?_
            refine WL_skip rfl rfl rfl ?_
            refine WL_skip rfl rfl rfl ?_
            refine WL_skip rfl rfl rfl ?_
            refine WL_rd (Rd_pickF rfl rfl) rfl rfl rfl ?_
            refine WL_rd (Rd_assign rfl) rfl rfl rfl ?_
            refine WL_end hK7 ?_
            refine WC_ret ?_
            exact hret.goE () (Rs1 rfl rfl) (by first | (congr 1; done) | (congr 1; simp [mayM, bareM, *]; done) | (congr 1; simp [mayM, bareM, *]; omega) | (congr 1; rw [Bool.eq_iff_iff]; simp [mayM, bareM, *]; omega) | (congr 1; rw [Bool.eq_iff_iff]; simp [mayM, bareM] at * <;> omega))
        · try simp only [decide_eq_true_eq, decide_eq_false_iff_not, Bool.not_eq_true', Bool.not_eq_false', Bool.not_eq_true, Bool.not_eq_false, Int.not_lt, Int.not_le, Nat.not_lt, Nat.not_le, Decidable.not_not, ne_eq] at hg10
          refine WL_skip rfl rfl rfl ?_
          refine WL_skip rfl rfl rfl ?_
          refine WL_skip rfl rfl rfl ?_
          refine WL_skip rfl rfl rfl ?_
          refine WL_skip rfl rfl rfl ?_
          refine WL_rd (Rd_pickF rfl rfl) rfl rfl rfl ?_
          refine WL_rd (Rd_move rfl) rfl rfl rfl ?_
          refine WL_skip rfl rfl rfl ?_
          refine WL_skip rfl rfl rfl ?_
          refine WL_skip rfl rfl rfl ?_
          refine WL_skip rfl rfl rfl ?_
          refine WL_skip rfl rfl rfl ?_
          refine WL_skip rfl rfl rfl ?_
          refine WL_skip rfl rfl rfl ?_
          refine WL_rd (Rd_pickF rfl rfl) rfl rfl rfl ?_
          refine WL_rd (Rd_assign rfl) rfl rfl rfl ?_
          refine WL_end hK7 ?_
          refine WC_ret ?_
          exact hret.goE () (Rs1 rfl rfl) (by first | (congr 1; done) | (congr 1; simp [mayM, bareM, *]; done) | (congr 1; simp [mayM, bareM, *]; omega) | (congr 1; rw [Bool.eq_iff_iff]; simp [mayM, bareM, *]; omega) | (congr 1; rw [Bool.eq_iff_iff]; simp [mayM, bareM] at * <;> omega))
      · try simp only [decide_eq_true_eq, decide_eq_false_iff_not, Bool.not_eq_true', Bool.not_eq_false', Bool.not_eq_true, Bool.not_eq_false, Int.not_lt, Int.not_le, Nat.not_lt, Nat.not_le, Decidable.not_not, ne_eq] at hg9
        refine WL_skip rfl rfl rfl ?_
        refine WL_skip rfl rfl rfl ?_
        refine WL_skip rfl rfl rfl ?_
        refine WL_skip rfl rfl rfl ?_
        refine WL_skip rfl rfl rfl ?_
        refine WL_rd (Rd_pickF rfl rfl) rfl rfl rfl ?_
        refine WL_rd (Rd_move rfl) rfl rfl rfl ?_
        refine WL_skip rfl rfl rfl ?_
        refine WL_skip rfl rfl rfl ?_
        refine WL_skip rfl rfl rfl ?_
        refine WL_skip rfl rfl rfl ?_
        refine WL_skip rfl rfl rfl ?_
        refine WL_rd (Rd_pickF rfl rfl) rfl rfl rfl ?_
        refine WL_rd (Rd_move rfl) rfl rfl rfl ?_
        refine WL_skip rfl rfl rfl ?_
        refine WL_skip rfl rfl rfl ?_
        refine WL_skip rfl rfl rfl ?_
        refine WL_skip rfl rfl rfl ?_
        refine WL_skip rfl rfl rfl ?_
        refine WL_skip rfl rfl rfl ?_
        refine WL_skip rfl rfl rfl ?_
        refine WL_rd (Rd_pickF rfl rfl) rfl rfl rfl ?_
        refine WL_rd (Rd_assign rfl) rfl rfl rfl ?_
        refine WL_end hK7 ?_
        refine WC_ret ?_
        exact hret.goE () (Rs1 rfl rfl) (by first | (congr 1; done) | (congr 1; simp [mayM, bareM, *]; done) | (congr 1; simp [mayM, bareM, *]; omega) | (congr 1; rw [Bool.eq_iff_iff]; simp [mayM, bareM, *]; omega) | (congr 1; rw [Bool.eq_iff_iff]; simp [mayM, bareM] at * <;> omega))
    · try simp only [decide_eq_true_eq, decide_eq_false_iff_not, Bool.not_eq_true', Bool.not_eq_false', Bool.not_eq_true, Bool.not_eq_false, Int.not_lt, Int.not_le, Nat.not_lt, Nat.not_le, Decidable.not_not, ne_eq] at hg8
      refine WL_skip rfl rfl rfl ?_
      refine WL_skip rfl rfl rfl ?_
      refine WL_skip rfl rfl rfl ?_
      refine WL_skip rfl rfl rfl ?_
      refine WL_skip rfl rfl rfl ?_
      refine WL_rd (Rd_pickF rfl rfl) rfl rfl rfl ?_
      refine WL_rd (Rd_move rfl) rfl rfl rfl ?_
      refine WL_skip rfl rfl rfl ?_
      refine WL_skip rfl rfl rfl ?_
      refine WL_skip rfl rfl rfl ?_
      refine WL_skip rfl rfl rfl ?_
      refine WL_skip rfl rfl rfl ?_
      refine WL_rd (Rd_pickF rfl rfl) rfl rfl rfl ?_
      refine WL_rd (Rd_move rfl) rfl rfl rfl ?_
      refine WL_skip rfl rfl rfl ?_
      refine WL_skip rfl rfl rfl ?_
      refine WL_skip rfl rfl rfl ?_
      refine WL_skip rfl rfl rfl ?_
      refine WL_skip rfl rfl rfl ?_
      refine WL_rd (Rd_pickF rfl rfl) rfl rfl rfl ?_
      refine WL_rd (Rd_move rfl) rfl rfl rfl ?_
      refine WL_skip rfl rfl rfl ?_
      refine WL_skip rfl rfl rfl ?_
      refine WL_skip rfl rfl rfl ?_
      refine WL_skip rfl rfl rfl ?_
      refine WL_skip rfl rfl rfl ?_
      refine WL_skip rfl rfl rfl ?_
      refine WL_skip rfl rfl rfl ?_
      refine WL_rd (Rd_pickF rfl rfl) rfl rfl rfl ?_
      refine WL_rd (Rd_assign rfl) rfl rfl rfl ?_
      refine WL_end hK7 ?_
      refine WC_ret ?_
      exact hret.goE () (Rs1 rfl rfl) (by first | (congr 1; done) | (congr 1; simp [mayM, bareM, *]; done) | (congr 1; simp [mayM, bareM, *]; omega) | (congr 1; rw [Bool.eq_iff_iff]; simp [mayM, bareM, *]; omega) | (congr 1; rw [Bool.eq_iff_iff]; simp [mayM, bareM] at * <;> omega))
  · try simp only [decide_eq_true_eq, decide_eq_false_iff_not, Bool.not_eq_true', Bool.not_eq_false', Bool.not_eq_true, Bool.not_eq_false, Int.not_lt, Int.not_le, Nat.not_lt, Nat.not_le, Decidable.not_not, ne_eq] at hc0
    refine WC_sr fun K12 hK12 => ?_
    first | refine WL_rd (Rd_eqlN (j := 2) rfl rfl) rfl rfl rfl ?_ | refine WL_rd (Rd_eql rfl rfl) rfl rfl rfl ?_
    refine WL_rd (Rd_assign rfl) rfl rfl rfl ?_
    refine WL_end hK12 ?_
    refine WC_cond rfl (fun hc1 => ?_) (fun hc1 => ?_)
    · try simp only [decide_eq_true_eq, decide_eq_false_iff_not, Bool.not_eq_true', Bool.not_eq_false', Bool.not_eq_true, Bool.not_eq_false, Int.not_lt, Int.not_le, Nat.not_lt, Nat.not_le, Decidable.not_not, ne_eq] at hc1
      refine WC_seq fun K13 hK13 => ?_
      refine WC_draw mix [cl b1 30 [.int .u8 k, .int .u8 x0, .int .u8 x1, .int .u8 x2, .int .u8 x3, .int .u8 x4, .int .u8 x5, .int .u8 x6, .int .u8 x7, .int .u8 x8, .int .u8 x9, .int .u8 x10, .int .u8 x11, .int .u8 x12, .int .u8 x13, .int .u8 x14, .int .u8 x15, .int .i64 n, .int .i64 f, .int .i64 c, .int .u32 wh, .int .i64 un, .slice ao len cap]] (fun i => ([2, 2, 2, 2, 2, 2, 2, 1, 2, 1, 2, 1] : List Nat).getD i 0) ?_
      refine WJ_takeP 0 rfl (by kernel_rfl) (Rd_fieldAddr rfl fo30_2) rfl rfl rfl (hp _ _) ?_
      refine WJ_tk 1 (Rd_load rfl tk3) hp ?_ rfl (by kernel_rfl) rfl rfl rfl
      refine WJ_takeP 2 rfl (by kernel_rfl) (Rd_fieldAddr rfl fo30_5) rfl rfl rfl (hp _ _) ?_
      refine WJ_tk 3 (Rd_loadg rfl tk27) hp ?_ rfl (by kernel_rfl) rfl rfl rfl
      refine WJ_takeP 4 rfl (by kernel_rfl) (Rd_fieldAddr rfl fo30_6) rfl rfl rfl (hp _ _) ?_
      refine WJ_tk 5 (Rd_load rfl tk28) hp ?_ rfl (by kernel_rfl) rfl rfl rfl
      refine WJ_takeP 6 rfl (by kernel_rfl) (Rd_fieldAddr rfl fo30_2) rfl rfl rfl (hp _ _) ?_
      refine WJ_all (rs := [7]) (by kernel_rfl) rfl ?_
      refine WI_one ?_
      refine WI_ac0 rfl (Ac_store1 rfl rfl sz3) rfl rfl rfl ?_
      rintro _ _ rfl
      refine ⟨(fun _ => (by repeat (first | with_reducible exact Sub.refl | with_reducible exact Sub.nil | with_reducible refine Sub.cons (by repeat (first | with_reducible exact Ext.here | with_reducible apply Ext.there)) ?_ | with_reducible refine Sub.tail ?_))), ?_⟩
      refine WJ_takeP 8 rfl (by kernel_rfl) (Rd_fieldAddr rfl fo30_5) rfl rfl rfl (hp _ _) ?_
      refine WJ_all (rs := [9]) (by kernel_rfl) rfl ?_
      refine WI_one ?_
      refine WI_ac0 rfl (Ac_store rfl rfl sz27) rfl rfl rfl ?_
      rintro _ _ rfl
      refine ⟨(fun _ => (by repeat (first | with_reducible exact Sub.refl | with_reducible exact Sub.nil | with_reducible refine Sub.cons (by repeat (first | with_reducible exact Ext.here | with_reducible apply Ext.there)) ?_ | with_reducible refine Sub.tail ?_))), ?_⟩
      refine WJ_takeP 10 rfl (by kernel_rfl) (Rd_fieldAddr rfl fo30_6) rfl rfl rfl (hp _ _) ?_
      refine WJ_all (rs := [11]) (by kernel_rfl) rfl ?_
      refine WI_one ?_
      refine WI_ac0 rfl (Ac_store1 rfl rfl sz28) rfl rfl rfl ?_
      rintro _ _ rfl
      refine ⟨(fun _ => (by repeat (first | with_reducible exact Sub.refl | with_reducible exact Sub.nil | with_reducible refine Sub.cons (by repeat (first | with_reducible exact Ext.here | with_reducible apply Ext.there)) ?_ | with_reducible refine Sub.tail ?_))), ?_⟩
      refine WJ_done (by kernel_rfl) ?_
      refine Ps_next hK13 ?_
      refine WC_region ?_
      refine WL_rd (Rd_fieldAddr rfl fo30_2) rfl rfl rfl ?_
      refine WL_rd (Rd_load rfl tk3) rfl rfl rfl ?_
      refine WL_ac (Ac_call cf36 rfl (hs := number_ct)) rfl rfl rfl ?_
      rintro _ _ ⟨⟨⟩, rfl, hA⟩
      simp only [List.cons_append, List.nil_append] at hA
      subst hA
      refine WL_rd (Rd_move rfl) rfl rfl rfl ?_
      refine WL_bool 28 rfl (fun hg14 => ?_) (fun hg14 => ?_)
      · try simp only [decide_eq_true_eq, decide_eq_false_iff_not, Bool.not_eq_true', Bool.not_eq_false', Bool.not_eq_true, Bool.not_eq_false, Int.not_lt, Int.not_le, Nat.not_lt, Nat.not_le, Decidable.not_not, ne_eq] at hg14
        refine WL_rd (Rd_fieldAddr rfl fo30_5) rfl rfl rfl ?_
        refine WL_rd (Rd_fieldAddr rfl fo27_1) rfl rfl rfl ?_
        refine WL_rd (Rd_load rfl tk3) rfl rfl rfl ?_
        refine WL_ac (Ac_call cf37 rfl (hs := until_ct)) rfl rfl rfl ?_
        rintro _ _ ⟨⟨⟩, rfl, hA⟩
        simp only [List.cons_append, List.nil_append] at hA
        subst hA
        refine WL_rd (Rd_pickT rfl rfl) rfl rfl rfl ?_
        refine WL_rd (Rd_move rfl) rfl rfl rfl ?_
        refine WL_bool 34 rfl (fun hg15 => ?_) (fun hg15 => ?_)
        · try simp only [decide_eq_true_eq, decide_eq_false_iff_not, Bool.not_eq_true', Bool.not_eq_false', Bool.not_eq_true, Bool.not_eq_false, Int.not_lt, Int.not_le, Nat.not_lt, Nat.not_le, Decidable.not_not, ne_eq] at hg15
          refine WL_rd (Rd_fieldAddr rfl fo30_6) rfl rfl rfl ?_
          refine WL_rd (Rd_load rfl tk28) rfl rfl rfl ?_
          first | refine WL_rd (Rd_len rfl rfl ud28) rfl rfl rfl ?_ | refine WL_rd (Rd_len_sv rfl rfl ud28) rfl rfl rfl ?_
          refine WL_rd (Rd_leqN (j := 33554432) rfl rfl) rfl rfl rfl ?_
          refine WL_rd (Rd_pickT rfl rfl) rfl rfl rfl ?_
          refine WL_rd (Rd_assign rfl) rfl rfl rfl ?_
          refine WL_nil ?_
          refine Ps_next hK4 ?_
          refine WC_sr fun K16 hK16 => ?_
          refine WL_rd (Rd_move rfl) rfl rfl rfl ?_
          refine WL_rd (Rd_move rfl) rfl rfl rfl ?_
          refine WL_bool 91 rfl (fun hg17 => ?_) (fun hg17 => ?_)
          · try simp only [decide_eq_true_eq, decide_eq_false_iff_not, Bool.not_eq_true', Bool.not_eq_false', Bool.not_eq_true, Bool.not_eq_false, Int.not_lt, Int.not_le, Nat.not_lt, Nat.not_le, Decidable.not_not, ne_eq] at hg17
            refine WL_rd (Rd_fieldAddr rfl fo30_2) rfl rfl rfl ?_
            refine WL_rd (Rd_load rfl tk3) rfl rfl rfl ?_
            refine WL_rd (Rd_fieldAddr rfl fo30_2) rfl rfl rfl ?_
            refine WL_rd (Rd_load rfl tk3) rfl rfl rfl ?_
            first | refine WL_rd (Rd_eqlN rfl rfl) rfl rfl rfl ?_ | refine WL_rd (Rd_eql rfl rfl) rfl rfl rfl ?_
            refine WL_rd (Rd_pickT rfl rfl) rfl rfl rfl ?_
            refine WL_rd (Rd_move rfl) rfl rfl rfl ?_
            refine WL_bool 98 rfl (fun hg18 => ?_) (fun hg18 => ?_)
            · try simp only [decide_eq_true_eq, decide_eq_false_iff_not, Bool.not_eq_true', Bool.not_eq_false', Bool.not_eq_true, Bool.not_eq_false, Int.not_lt, Int.not_le, Nat.not_lt, Nat.not_le, Decidable.not_not, ne_eq] at hg18
              refine WL_rd (Rd_fieldAddr rfl fo30_3) rfl rfl rfl ?_
              refine WL_rd (Rd_load rfl tk3) rfl rfl rfl ?_
              refine WL_rd (Rd_fieldAddr rfl fo30_3) rfl rfl rfl ?_
              refine WL_rd (Rd_load rfl tk3) rfl rfl rfl ?_
              first | refine WL_rd (Rd_eqlN rfl rfl) rfl rfl rfl ?_ | refine WL_rd (Rd_eql rfl rfl) rfl rfl rfl ?_
              refine WL_rd (Rd_pickT rfl rfl) rfl rfl rfl ?_
              refine WL_rd (Rd_move rfl) rfl rfl rfl ?_
              refine WL_bool 105 rfl (fun hg19 => ?_) (fun hg19 => ?_)
              · try simp only [decide_eq_true_eq, decide_eq_false_iff_not, Bool.not_eq_true', Bool.not_eq_false', Bool.not_eq_true, Bool.not_eq_false, Int.not_lt, Int.not_le, Nat.not_lt, Nat.not_le, Decidable.not_not, ne_eq] at hg19
                refine WL_rd (Rd_fieldAddr rfl fo30_4) rfl rfl rfl ?_
                refine WL_rd (Rd_load rfl tk3) rfl rfl rfl ?_
                refine WL_rd (Rd_fieldAddr rfl fo30_4) rfl rfl rfl ?_
                refine WL_rd (Rd_load rfl tk3) rfl rfl rfl ?_
                first | refine WL_rd (Rd_eqlN rfl rfl) rfl rfl rfl ?_ | refine WL_rd (Rd_eql rfl rfl) rfl rfl rfl ?_
                refine WL_rd (Rd_pickT rfl rfl) rfl rfl rfl ?_
                refine WL_rd (Rd_move rfl) rfl rfl rfl ?_
                refine WL_bool 112 rfl (fun hg20 => ?_) (fun hg20 => ?_)
                · try simp only [decide_eq_true_eq, decide_eq_false_iff_not, Bool.not_eq_true', Bool.not_eq_false', Bool.not_eq_true, Bool.not_eq_false, Int.not_lt, Int.not_le, Nat.not_lt, Nat.not_le, Decidable.not_not, ne_eq] at hg20
                  refine WL_rd (Rd_fieldAddr rfl fo30_5) rfl rfl rfl ?_
                  refine WL_rd (Rd_loadg rfl tk27) rfl rfl rfl ?_
                  refine WL_rd (Rd_fieldAddr rfl fo30_5) rfl rfl rfl ?_
                  refine WL_rd (Rd_loadg rfl tk27) rfl rfl rfl ?_
                  refine WL_rd (Rd_eqS rfl rfl fls27 (EqL.sc tk25 rfl rfl (Eqs_int ud25 _ _) (EqL.sc tk3 rfl rfl (Eqs_int ud3 _ _) EqL.nil))) rfl rfl rfl ?_
                  refine WL_rd (Rd_pickT rfl rfl) rfl rfl rfl ?_
                  refine WL_rd (Rd_move rfl) rfl rfl rfl ?_
                  refine WL_bool 119 rfl (fun hg21 => ?_) (fun hg21 => ?_)
                  · try simp only [decide_eq_true_eq, decide_eq_false_iff_not, Bool.not_eq_true', Bool.not_eq_false', Bool.not_eq_true, Bool.not_eq_false, Int.not_lt, Int.not_le, Nat.not_lt, Nat.not_le, Decidable.not_not, ne_eq] at hg21
                    refine WL_rd (Rd_fieldAddr rfl fo30_6) rfl rfl rfl ?_
                    refine WL_rd (Rd_load rfl tk28) rfl rfl rfl ?_
                    first | refine WL_rd (Rd_len rfl rfl ud28) rfl rfl rfl ?_ | refine WL_rd (Rd_len_sv rfl rfl ud28) rfl rfl rfl ?_
                    refine WL_rd (Rd_fieldAddr rfl fo30_6) rfl rfl rfl ?_
                    refine WL_rd (Rd_load rfl tk28) rfl rfl rfl ?_
                    first | refine WL_rd (Rd_len rfl rfl ud28) rfl rfl rfl ?_ | refine WL_rd (Rd_len_sv rfl rfl ud28) rfl rfl rfl ?_
                    refine WL_rd (Rd_eqlN rfl rfl) rfl rfl rfl ?_
                    refine WL_rd (Rd_pickT rfl rfl) rfl rfl rfl ?_
                    refine WL_rd (Rd_assign rfl) rfl rfl rfl ?_
                    refine WL_end hK16 ?_
                    refine WC_ret ?_
                    exact hret.goE () (Rs1 rfl rfl) (by first | (congr 1; done) | (congr 1; simp [mayM, bareM, *]; done) | (congr 1; simp [mayM, bareM, *]; omega) | (congr 1; rw [Bool.eq_iff_iff]; simp [mayM, bareM, *]; omega) | (congr 1; rw [Bool.eq_iff_iff]; simp [mayM, bareM] at * <;> omega))
                  · try simp only [decide_eq_true_eq, decide_eq_false_iff_not, Bool.not_eq_true', Bool.not_eq_false', Bool.not_eq_true, Bool.not_eq_false, Int.not_lt, Int.not_le, Nat.not_lt, Nat.not_le, Decidable.not_not, ne_eq] at hg21
                    refine WL_skip rfl rfl rfl ?_
                    refine WL_skip rfl rfl rfl ?_
                    refine WL_skip rfl rfl rfl ?_
                    refine WL_skip rfl rfl rfl ?_
                    refine WL_skip rfl rfl rfl ?_
                    refine WL_skip rfl rfl rfl ?_
                    refine WL_skip rfl rfl rfl ?_
                    refine WL_rd (Rd_pickF rfl rfl) rfl rfl rfl ?_
                    refine WL_rd (Rd_assign rfl) rfl rfl rfl ?_
                    refine WL_end hK16 ?_
                    refine WC_ret ?_
                    exact hret.goE () (Rs1 rfl rfl) (by first | (congr 1; done) | (congr 1; simp [mayM, bareM, *]; done) | (congr 1; simp [mayM, bareM, *]; omega) | (congr 1; rw [Bool.eq_iff_iff]; simp [mayM, bareM, *]; omega) | (congr 1; rw [Bool.eq_iff_iff]; simp [mayM, bareM] at * <;> omega))
                · try simp only [decide_eq_true_eq, decide_eq_false_iff_not, Bool.not_eq_true', Bool.not_eq_false', Bool.not_eq_true, Bool.not_eq_false, Int.not_lt, Int.not_le, Nat.not_lt, Nat.not_le, Decidable.not_not, ne_eq] at hg20
                  refine WL_skip rfl rfl rfl ?_
                  refine WL_skip rfl rfl rfl ?_
                  refine WL_skip rfl rfl rfl ?_
                  refine WL_skip rfl rfl rfl ?_
                  refine WL_skip rfl rfl rfl ?_
                  refine WL_rd (Rd_pickF rfl rfl) rfl rfl rfl ?_
                  refine WL_rd (Rd_move rfl) rfl rfl rfl ?_
                  refine WL_skip rfl rfl rfl ?_
                  refine WL_skip rfl rfl rfl ?_
                  refine WL_skip rfl rfl rfl ?_
                  refine WL_skip rfl rfl rfl ?_
                  refine WL_skip rfl rfl rfl ?_
                  refine WL_skip rfl rfl rfl ?_
                  refine WL_skip rfl rfl rfl ?_
                  refine WL_rd (Rd_pickF rfl rfl) rfl rfl rfl ?_
                  refine WL_rd (Rd_assign rfl) rfl rfl rfl ?_
                  refine WL_end hK16 ?_
                  refine WC_ret ?_
                  exact hret.goE () (Rs1 rfl rfl) (by first | (congr 1; done) | (congr 1; simp [mayM, bareM, *]; done) | (congr 1; simp [mayM, bareM, *]; omega) | (congr 1; rw [Bool.eq_iff_iff]; simp [mayM, bareM, *]; omega) | (congr 1; rw [Bool.eq_iff_iff]; simp [mayM, bareM] at * <;> omega))
              · try simp only [decide_eq_true_eq, decide_eq_false_iff_not, Bool.not_eq_true', Bool.not_eq_false', Bool.not_eq_true, Bool.not_eq_false, Int.not_lt, Int.not_le, Nat.not_lt, Nat.not_le, Decidable.not_not, ne_eq] at hg19
                refine WL_skip rfl rfl rfl ?_
                refine WL_skip rfl rfl rfl ?_
                refine WL_skip rfl rfl rfl ?_
                refine WL_skip rfl rfl rfl ?_
                refine WL_skip rfl rfl rfl ?_
                refine WL_rd (Rd_pickF rfl rfl) rfl rfl rfl ?_
                refine WL_rd (Rd_move rfl) rfl rfl rfl ?_
                refine WL_skip rfl rfl rfl ?_
                refine WL_skip rfl rfl rfl ?_
                refine WL_skip rfl rfl rfl ?_
                refine WL_skip rfl rfl rfl ?_
                refine WL_skip rfl rfl rfl ?_
                refine WL_rd (Rd_pickF rfl rfl) rfl rfl rfl ?_
                refine WL_rd (Rd_move rfl) rfl rfl rfl ?_
                refine WL_skip rfl rfl rfl ?_
                refine WL_skip rfl rfl rfl ?_
                refine WL_skip rfl rfl rfl ?_
                refine WL_skip rfl rfl rfl ?_
                refine WL_skip rfl rfl rfl ?_
                refine WL_skip rfl rfl rfl ?_
                refine WL_skip rfl rfl rfl ?_
                refine WL_rd (Rd_pickF rfl rfl) rfl rfl rfl ?_
                refine WL_rd (Rd_assign rfl) rfl rfl rfl ?_
                refine WL_end hK16 ?_
                refine WC_ret ?_
                exact hret.goE () (Rs1 rfl rfl) (by first | (congr 1; done) | (congr 1; simp [mayM, bareM, *]; done) | (congr 1; simp [mayM, bareM, *]; omega) | (congr 1; rw [Bool.eq_iff_iff]; simp [mayM, bareM, *]; omega) | (congr 1; rw [Bool.eq_iff_iff]; simp [mayM, bareM] at * <;> omega))
            · try simp only [decide_eq_true_eq, decide_eq_false_iff_not, Bool.not_eq_true', Bool.not_eq_false', Bool.not_eq_true, Bool.not_eq_false, Int.not_lt, Int.not_le, Nat.not_lt, Nat.not_le, Decidable.not_not, ne_eq] at hg18
              refine WL_skip rfl rfl rfl ?_
              refine WL_skip rfl rfl rfl ?_
              refine WL_skip rfl rfl rfl ?_
              refine WL_skip rfl rfl rfl ?_
              refine WL_skip rfl rfl rfl ?_
              refine WL_rd (Rd_pickF rfl rfl) rfl rfl rfl ?_
              refine WL_rd (Rd_move rfl) rfl rfl rfl ?_
              refine WL_skip rfl rfl rfl ?_
              refine WL_skip rfl rfl rfl ?_
              refine WL_skip rfl rfl rfl ?_
              refine WL_skip rfl rfl rfl ?_
              refine WL_skip rfl rfl rfl ?_
              refine WL_rd (Rd_pickF rfl rfl) rfl rfl rfl ?_
              refine WL_rd (Rd_move rfl) rfl rfl rfl ?_
              refine WL_skip rfl rfl rfl ?_
              refine WL_skip rfl rfl rfl ?_
              refine WL_skip rfl rfl rfl ?_
              refine WL_skip rfl rfl rfl ?_
              refine WL_skip rfl rfl rfl ?_
              refine WL_rd (Rd_pickF rfl rfl) rfl rfl rfl ?_
              refine WL_rd (Rd_move rfl) rfl rfl rfl ?_
              refine WL_skip rfl rfl rfl ?_
              refine WL_skip rfl rfl rfl ?_
              refine WL_skip rfl rfl rfl ?_
              refine WL_skip rfl rfl rfl ?_
              refine WL_skip rfl rfl rfl ?_
              refine WL_skip rfl rfl rfl ?_
              refine WL_skip rfl rfl rfl ?_
              refine WL_rd (Rd_pickF rfl rfl) rfl rfl rfl ?_
              refine WL_rd (Rd_assign rfl) rfl rfl rfl ?_
              refine WL_end hK16 ?_
              refine WC_ret ?_
              exact hret.goE () (Rs1 rfl rfl) (by first | (congr 1; done) | (congr 1; simp [mayM, bareM, *]; done) | (congr 1; simp [mayM, bareM, *]; omega) | (congr 1; rw [Bool.eq_iff_iff]; simp [mayM, bareM, *]; omega) | (congr 1; rw [Bool.eq_iff_iff]; simp [mayM, bareM] at * <;> omega))
          · try simp only [decide_eq_true_eq, decide_eq_false_iff_not, Bool.not_eq_true', Bool.not_eq_false', Bool.not_eq_true, Bool.not_eq_false, Int.not_lt, Int.not_le, Nat.not_lt, Nat.not_le, Decidable.not_not, ne_eq] at hg17
            refine WL_skip rfl rfl rfl ?_
            refine WL_skip rfl rfl rfl ?_
            refine WL_skip rfl rfl rfl ?_
            refine WL_skip rfl rfl rfl ?_
            refine WL_skip rfl rfl rfl ?_
            refine WL_rd (Rd_pickF rfl rfl) rfl rfl rfl ?_
            refine WL_rd (Rd_move rfl) rfl rfl rfl ?_
            refine WL_skip rfl rfl rfl ?_
            refine WL_skip rfl rfl rfl ?_
            refine WL_skip rfl rfl rfl ?_
            refine WL_skip rfl rfl rfl ?_
            refine WL_skip rfl rfl rfl ?_
            refine WL_rd (Rd_pickF rfl rfl) rfl rfl rfl ?_
            refine WL_rd (Rd_move rfl) rfl rfl rfl ?_
            refine WL_skip rfl rfl rfl ?_
            refine WL_skip rfl rfl rfl ?_
            refine WL_skip rfl rfl rfl ?_
            refine WL_skip rfl rfl rfl ?_
            refine WL_skip rfl rfl rfl ?_
            refine WL_rd (Rd_pickF rfl rfl) rfl rfl rfl ?_
            refine WL_rd (Rd_move rfl) rfl rfl rfl ?_
            refine WL_skip rfl rfl rfl ?_
            refine WL_skip rfl rfl rfl ?_
            refine WL_skip rfl rfl rfl ?_
            refine WL_skip rfl rfl rfl ?_
            refine WL_skip rfl rfl rfl ?_
            refine WL_rd (Rd_pickF rfl rfl) rfl rfl rfl ?_
            refine WL_rd (Rd_move rfl) rfl rfl rfl ?_
            refine WL_skip rfl rfl rfl ?_
            refine WL_skip rfl rfl rfl ?_
            refine WL_skip rfl rfl rfl ?_
            refine WL_skip rfl rfl rfl ?_
            refine WL_skip rfl rfl rfl ?_
            refine WL_skip rfl rfl rfl ?_
            refine WL_skip rfl rfl rfl ?_
            refine WL_rd (Rd_pickF rfl rfl) rfl rfl rfl ?_
            refine WL_rd (Rd_assign rfl) rfl rfl rfl ?_
            refine WL_end hK16 ?_
            refine WC_ret ?_
            exact hret.goE () (Rs1 rfl rfl) (by first | (congr 1; done) | (congr 1; simp [mayM, bareM, *]; done) | (congr 1; simp [mayM, bareM, *]; omega) | (congr 1; rw [Bool.eq_iff_iff]; simp [mayM, bareM, *]; omega) | (congr 1; rw [Bool.eq_iff_iff]; simp [mayM, bareM] at * <;> omega))
        · try simp only [decide_eq_true_eq, decide_eq_false_iff_not, Bool.not_eq_true', Bool.not_eq_false', Bool.not_eq_true, Bool.not_eq_false, Int.not_lt, Int.not_le, Nat.not_lt, Nat.not_le, Decidable.not_not, ne_eq] at hg15
          refine WL_skip rfl rfl rfl ?_
          refine WL_skip rfl rfl rfl ?_
          refine WL_skip rfl rfl rfl ?_
          refine WL_skip rfl rfl rfl ?_
          refine WL_rd (Rd_pickF rfl rfl) rfl rfl rfl ?_
          refine WL_rd (Rd_assign rfl) rfl rfl rfl ?_
          refine WL_nil ?_
          refine Ps_next hK4 ?_
          refine WC_sr fun K22 hK22 => ?_
          refine WL_rd (Rd_move rfl) rfl rfl rfl ?_
          refine WL_rd (Rd_move rfl) rfl rfl rfl ?_
          refine WL_skip rfl rfl rfl ?_
          refine WL_skip rfl rfl rfl ?_
          refine WL_skip rfl rfl rfl ?_
          refine WL_skip rfl rfl rfl ?_
          refine WL_skip rfl rfl rfl ?_
          refine WL_rd (Rd_pickF rfl rfl) rfl rfl rfl ?_
          refine WL_rd (Rd_move rfl) rfl rfl rfl ?_
          refine WL_skip rfl rfl rfl ?_
          refine WL_skip rfl rfl rfl ?_
          refine WL_skip rfl rfl rfl ?_
          refine WL_skip rfl rfl rfl ?_
          refine WL_skip rfl rfl rfl ?_
          refine WL_rd (Rd_pickF rfl rfl) rfl rfl rfl ?_
          refine WL_rd (Rd_move rfl) rfl rfl rfl ?_
          refine WL_skip rfl rfl rfl ?_
          refine WL_skip rfl rfl rfl ?_
          refine WL_skip rfl rfl rfl ?_
          refine WL_skip rfl rfl rfl ?_
          refine WL_skip rfl rfl rfl ?_
          refine WL_rd (Rd_pickF rfl rfl) rfl rfl rfl ?_
          refine WL_rd (Rd_move rfl) rfl rfl rfl ?_
          refine WL_skip rfl rfl rfl ?_
          refine WL_skip rfl rfl rfl ?_
          refine WL_skip rfl rfl rfl ?_
          refine WL_skip rfl rfl rfl ?_
          refine WL_skip rfl rfl rfl ?_
          refine WL_rd (Rd_pickF rfl rfl) rfl rfl rfl ?_
          refine WL_rd (Rd_move rfl) rfl rfl rfl ?_
          refine WL_skip rfl rfl rfl ?_
          refine WL_skip rfl rfl rfl ?_
          refine WL_skip rfl rfl rfl ?_
          refine WL_skip rfl rfl rfl ?_
          refine WL_skip rfl rfl rfl ?_
          refine WL_skip rfl rfl rfl ?_
          refine WL_skip rfl rfl rfl ?_
          refine WL_rd (Rd_pickF rfl rfl) rfl rfl rfl ?_
          refine WL_rd (Rd_assign rfl) rfl rfl rfl ?_
          refine WL_end hK22 ?_
          refine WC_ret ?_
          exact hret.goE () (Rs1 rfl rfl) (by first | (congr 1; done) | (congr 1; simp [mayM, bareM, *]; done) | (congr 1; simp [mayM, bareM, *]; omega) | (congr 1; rw [Bool.eq_iff_iff]; simp [mayM, bareM, *]; omega) | (congr 1; rw [Bool.eq_iff_iff]; simp [mayM, bareM] at * <;> omega))
      · try simp only [decide_eq_true_eq, decide_eq_false_iff_not, Bool.not_eq_true', Bool.not_eq_false', Bool.not_eq_true, Bool.not_eq_false, Int.not_lt, Int.not_le, Nat.not_lt, Nat.not_le, Decidable.not_not, ne_eq] at hg14
        refine WL_skip rfl rfl rfl ?_
        refine WL_skip rfl rfl rfl ?_
        refine WL_skip rfl rfl rfl ?_
        refine WL_skip rfl rfl rfl ?_
        refine WL_rd (Rd_pickF rfl rfl) rfl rfl rfl ?_
        refine WL_rd (Rd_move rfl) rfl rfl rfl ?_
        refine WL_skip rfl rfl rfl ?_
        refine WL_skip rfl rfl rfl ?_
        refine WL_skip rfl rfl rfl ?_
        refine WL_skip rfl rfl rfl ?_
        refine WL_rd (Rd_pickF rfl rfl) rfl rfl rfl ?_
        refine WL_rd (Rd_assign rfl) rfl rfl rfl ?_
        refine WL_nil ?_
        refine Ps_next hK4 ?_
        refine WC_sr fun K23 hK23 => ?_
        refine WL_rd (Rd_move rfl) rfl rfl rfl ?_
        refine WL_rd (Rd_move rfl) rfl rfl rfl ?_
        refine WL_skip rfl rfl rfl ?_
        refine WL_skip rfl rfl rfl ?_
        refine WL_skip rfl rfl rfl ?_
        refine WL_skip rfl rfl rfl ?_
        refine WL_skip rfl rfl rfl ?_
        refine WL_rd (Rd_pickF rfl rfl) rfl rfl rfl ?_
        refine WL_rd (Rd_move rfl) rfl rfl rfl ?_
        refine WL_skip rfl rfl rfl ?_
        refine WL_skip rfl rfl rfl ?_
        refine WL_skip rfl rfl rfl ?_
        refine WL_skip rfl rfl rfl ?_
        refine WL_skip rfl rfl rfl ?_
        refine WL_rd (Rd_pickF rfl rfl) rfl rfl rfl ?_
        refine WL_rd (Rd_move rfl) rfl rfl rfl ?_
        refine WL_skip rfl rfl rfl ?_
        refine WL_skip rfl rfl rfl ?_
        refine WL_skip rfl rfl rfl ?_
        refine WL_skip rfl rfl rfl ?_
        refine WL_skip rfl rfl rfl ?_
        refine WL_rd (Rd_pickF rfl rfl) rfl rfl rfl ?_
        refine WL_rd (Rd_move rfl) rfl rfl rfl ?_
        refine WL_skip rfl rfl rfl ?_
        refine WL_skip rfl rfl rfl ?_
        refine WL_skip rfl rfl rfl ?_
        refine WL_skip rfl rfl rfl ?_
        refine WL_skip rfl rfl rfl ?_
        refine WL_rd (Rd_pickF rfl rfl) rfl rfl rfl ?_
        refine WL_rd (Rd_move rfl) rfl rfl rfl ?_
        refine WL_skip rfl rfl rfl ?_
        refine WL_skip rfl rfl rfl ?_
        refine WL_skip rfl rfl rfl ?_
        refine WL_skip rfl rfl rfl ?_
        refine WL_skip rfl rfl rfl ?_
        refine WL_skip rfl rfl rfl ?_
        refine WL_skip rfl rfl rfl ?_
        refine WL_rd (Rd_pickF rfl rfl) rfl rfl rfl ?_
        refine WL_rd (Rd_assign rfl) rfl rfl rfl ?_
        refine WL_end hK23 ?_
        refine WC_ret ?_
        exact hret.goE () (Rs1 rfl rfl) (by first | (congr 1; done) | (congr 1; simp [mayM, bareM, *]; done) | (congr 1; simp [mayM, bareM, *]; omega) | (congr 1; rw [Bool.eq_iff_iff]; simp [mayM, bareM, *]; omega) | (congr 1; rw [Bool.eq_iff_iff]; simp [mayM, bareM] at * <;> omega))
    · try simp only [decide_eq_true_eq, decide_eq_false_iff_not, Bool.not_eq_true', Bool.not_eq_false', Bool.not_eq_true, Bool.not_eq_false, Int.not_lt, Int.not_le, Nat.not_lt, Nat.not_le, Decidable.not_not, ne_eq] at hc1
      refine WC_sr fun K24 hK24 => ?_
      first | refine WL_rd (Rd_eqlN (j := 3) rfl rfl) rfl rfl rfl ?_ | refine WL_rd (Rd_eql rfl rfl) rfl rfl rfl ?_
      refine WL_rd (Rd_assign rfl) rfl rfl rfl ?_
      refine WL_end hK24 ?_
      refine WC_cond rfl (fun hc2 => ?_) (fun hc2 => ?_)
      · try simp only [decide_eq_true_eq, decide_eq_false_iff_not, Bool.not_eq_true', Bool.not_eq_false', Bool.not_eq_true, Bool.not_eq_false, Int.not_lt, Int.not_le, Nat.not_lt, Nat.not_le, Decidable.not_not, ne_eq] at hc2
        refine WC_seq fun K25 hK25 => ?_
        refine WC_draw mix [cl b1 30 [.int .u8 k, .int .u8 x0, .int .u8 x1, .int .u8 x2, .int .u8 x3, .int .u8 x4, .int .u8 x5, .int .u8 x6, .int .u8 x7, .int .u8 x8, .int .u8 x9, .int .u8 x10, .int .u8 x11, .int .u8 x12, .int .u8 x13, .int .u8 x14, .int .u8 x15, .int .i64 n, .int .i64 f, .int .i64 c, .int .u32 wh, .int .i64 un, .slice ao len cap]] (fun i => ([2, 2, 2, 2, 2, 2, 2, 1, 2, 1, 2, 1] : List Nat).getD i 0) ?_
        refine WJ_takeP 0 rfl (by kernel_rfl) (Rd_fieldAddr rfl fo30_2) rfl rfl rfl (hp _ _) ?_
        refine WJ_tk 1 (Rd_load rfl tk3) hp ?_ rfl (by kernel_rfl) rfl rfl rfl
        refine WJ_takeP 2 rfl (by kernel_rfl) (Rd_fieldAddr rfl fo30_3) rfl rfl rfl (hp _ _) ?_
        refine WJ_tk 3 (Rd_load rfl tk3) hp ?_ rfl (by kernel_rfl) rfl rfl rfl
        refine WJ_takeP 4 rfl (by kernel_rfl) (Rd_fieldAddr rfl fo30_4) rfl rfl rfl (hp _ _) ?_
        refine WJ_tk 5 (Rd_load rfl tk3) hp ?_ rfl (by kernel_rfl) rfl rfl rfl
        refine WJ_takeP 6 rfl (by kernel_rfl) (Rd_fieldAddr rfl fo30_2) rfl rfl rfl (hp _ _) ?_
        refine WJ_all (rs := [7]) (by kernel_rfl) rfl ?_
        refine WI_one ?_
        refine WI_ac0 rfl (Ac_store1 rfl rfl sz3) rfl rfl rfl ?_
        rintro _ _ rfl
        refine ⟨(fun _ => (by repeat (first | with_reducible exact Sub.refl | with_reducible exact Sub.nil | with_reducible refine Sub.cons (by repeat (first | with_reducible exact Ext.here | with_reducible apply Ext.there)) ?_ | with_reducible refine Sub.tail ?_))), ?_⟩
        refine WJ_takeP 8 rfl (by kernel_rfl) (Rd_fieldAddr rfl fo30_3) rfl rfl rfl (hp _ _) ?_
        refine WJ_all (rs := [9]) (by kernel_rfl) rfl ?_
        refine WI_one ?_
        refine WI_ac0 rfl (Ac_store1 rfl rfl sz3) rfl rfl rfl ?_
        rintro _ _ rfl
        refine ⟨(fun _ => (by repeat (first | with_reducible exact Sub.refl | with_reducible exact Sub.nil | with_reducible refine Sub.cons (by repeat (first | with_reducible exact Ext.here | with_reducible apply Ext.there)) ?_ | with_reducible refine Sub.tail ?_))), ?_⟩
        refine WJ_takeP 10 rfl (by kernel_rfl) (Rd_fieldAddr rfl fo30_4) rfl rfl rfl (hp _ _) ?_
        refine WJ_all (rs := [11]) (by kernel_rfl) rfl ?_
        refine WI_one ?_
        refine WI_ac0 rfl (Ac_store1 rfl rfl sz3) rfl rfl rfl ?_
        rintro _ _ rfl
        refine ⟨(fun _ => (by repeat (first | with_reducible exact Sub.refl | with_reducible exact Sub.nil | with_reducible refine Sub.cons (by repeat (first | with_reducible exact Ext.here | with_reducible apply Ext.there)) ?_ | with_reducible refine Sub.tail ?_))), ?_⟩
        refine WJ_done (by kernel_rfl) ?_
        refine Ps_next hK25 ?_
        refine WC_region ?_
        refine WL_rd (Rd_fieldAddr rfl fo30_2) rfl rfl rfl ?_
        refine WL_rd (Rd_load rfl tk3) rfl rfl rfl ?_
        refine WL_ac (Ac_call cf36 rfl (hs := number_ct)) rfl rfl rfl ?_
        rintro _ _ ⟨⟨⟩, rfl, hA⟩
        simp only [List.cons_append, List.nil_append] at hA
        subst hA
        refine WL_rd (Rd_move rfl) rfl rfl rfl ?_
        refine WL_bool 54 rfl (fun hg26 => ?_) (fun hg26 => ?_)
        · try simp only [decide_eq_true_eq, decide_eq_false_iff_not, Bool.not_eq_true', Bool.not_eq_false', Bool.not_eq_true, Bool.not_eq_false, Int.not_lt, Int.not_le, Nat.not_lt, Nat.not_le, Decidable.not_not, ne_eq] at hg26
          refine WL_rd (Rd_fieldAddr rfl fo30_3) rfl rfl rfl ?_
          refine WL_rd (Rd_load rfl tk3) rfl rfl rfl ?_
          first | refine WL_rd (Rd_geqN (j := 0) rfl rfl) rfl rfl rfl ?_ | refine WL_rd (Rd_geq rfl rfl) rfl rfl rfl ?_
          refine WL_rd (Rd_pickT rfl rfl) rfl rfl rfl ?_
          refine WL_rd (Rd_move rfl) rfl rfl rfl ?_
          refine WL_bool 59 rfl (fun hg27 => ?_) (fun hg27 => ?_)
          · try simp only [decide_eq_true_eq, decide_eq_false_iff_not, Bool.not_eq_true', Bool.not_eq_false', Bool.not_eq_true, Bool.not_eq_false, Int.not_lt, Int.not_le, Nat.not_lt, Nat.not_le, Decidable.not_not, ne_eq] at hg27
            refine WL_rd (Rd_fieldAddr rfl fo30_3) rfl rfl rfl ?_
            refine WL_rd (Rd_load rfl tk3) rfl rfl rfl ?_
            first | refine WL_rd (Rd_leqN (j := 33554432) rfl rfl) rfl rfl rfl ?_ | refine WL_rd (Rd_leq rfl rfl) rfl rfl rfl ?_
            refine WL_rd (Rd_pickT rfl rfl) rfl rfl rfl ?_
            refine WL_rd (Rd_move rfl) rfl rfl rfl ?_
            refine WL_bool 64 rfl (fun hg28 => ?_) (fun hg28 => ?_)
            · try simp only [decide_eq_true_eq, decide_eq_false_iff_not, Bool.not_eq_true', Bool.not_eq_false', Bool.not_eq_true, Bool.not_eq_false, Int.not_lt, Int.not_le, Nat.not_lt, Nat.not_le, Decidable.not_not, ne_eq] at hg28
              refine WL_rd (Rd_fieldAddr rfl fo30_4) rfl rfl rfl ?_
              refine WL_rd (Rd_load rfl tk3) rfl rfl rfl ?_
              first | refine WL_rd (Rd_geqN (j := 1) rfl rfl) rfl rfl rfl ?_ | refine WL_rd (Rd_geq rfl rfl) rfl rfl rfl ?_
              refine WL_rd (Rd_pickT rfl rfl) rfl rfl rfl ?_
              refine WL_rd (Rd_move rfl) rfl rfl rfl ?_
              refine WL_bool 69 rfl (fun hg29 => ?_) (fun hg29 => ?_)
              · try simp only [decide_eq_true_eq, decide_eq_false_iff_not, Bool.not_eq_true', Bool.not_eq_false', Bool.not_eq_true, Bool.not_eq_false, Int.not_lt, Int.not_le, Nat.not_lt, Nat.not_le, Decidable.not_not, ne_eq] at hg29
                refine WL_rd (Rd_fieldAddr rfl fo30_4) rfl rfl rfl ?_
                refine WL_rd (Rd_load rfl tk3) rfl rfl rfl ?_
                first | refine WL_rd (Rd_leqN (j := 131072) rfl rfl) rfl rfl rfl ?_ | refine WL_rd (Rd_leq rfl rfl) rfl rfl rfl ?_
                refine WL_rd (Rd_pickT rfl rfl) rfl rfl rfl ?_
                refine WL_rd (Rd_assign rfl) rfl rfl rfl ?_
                refine WL_nil ?_
                refine Ps_next hK4 ?_
                refine WC_sr fun K30 hK30 => ?_
                refine WL_rd (Rd_move rfl) rfl rfl rfl ?_
                refine WL_rd (Rd_move rfl) rfl rfl rfl ?_
                refine WL_bool 91 rfl (fun hg31 => ?_) (fun hg31 => ?_)
                · try simp only [decide_eq_true_eq, decide_eq_false_iff_not, Bool.not_eq_true', Bool.not_eq_false', Bool.not_eq_true, Bool.not_eq_false, Int.not_lt, Int.not_le, Nat.not_lt, Nat.not_le, Decidable.not_not, ne_eq] at hg31
                  refine WL_rd (Rd_fieldAddr rfl fo30_2) rfl rfl rfl ?_
                  refine WL_rd (Rd_load rfl tk3) rfl rfl rfl ?_
                  refine WL_rd (Rd_fieldAddr rfl fo30_2) rfl rfl rfl ?_
                  refine WL_rd (Rd_load rfl tk3) rfl rfl rfl ?_
                  first | refine WL_rd (Rd_eqlN rfl rfl) rfl rfl rfl ?_ | refine WL_rd (Rd_eql rfl rfl) rfl rfl rfl ?_
                  refine WL_rd (Rd_pickT rfl rfl) rfl rfl rfl ?_
                  refine WL_rd (Rd_move rfl) rfl rfl rfl ?_
                  refine WL_bool 98 rfl (fun hg32 => ?_) (fun hg32 => ?_)
                  · try simp only [decide_eq_true_eq, decide_eq_false_iff_not, Bool.not_eq_true', Bool.not_eq_false', Bool.not_eq_true, Bool.not_eq_false, Int.not_lt, Int.not_le, Nat.not_lt, Nat.not_le, Decidable.not_not, ne_eq] at hg32
                    refine WL_rd (Rd_fieldAddr rfl fo30_3) rfl rfl rfl ?_
                    refine WL_rd (Rd_load rfl tk3) rfl rfl rfl ?_
                    refine WL_rd (Rd_fieldAddr rfl fo30_3) rfl rfl rfl ?_
                    refine WL_rd (Rd_load rfl tk3) rfl rfl rfl ?_
                    first | refine WL_rd (Rd_eqlN rfl rfl) rfl rfl rfl ?_ | refine WL_rd (Rd_eql rfl rfl) rfl rfl rfl ?_
                    refine WL_rd (Rd_pickT rfl rfl) rfl rfl rfl ?_
                    refine WL_rd (Rd_move rfl) rfl rfl rfl ?_
                    refine WL_bool 105 rfl (fun hg33 => ?_) (fun hg33 => ?_)
                    · try simp only [decide_eq_true_eq, decide_eq_false_iff_not, Bool.not_eq_true', Bool.not_eq_false', Bool.not_eq_true, Bool.not_eq_false, Int.not_lt, Int.not_le, Nat.not_lt, Nat.not_le, Decidable.not_not, ne_eq] at hg33
                      refine WL_rd (Rd_fieldAddr rfl fo30_4) rfl rfl rfl ?_
                      refine WL_rd (Rd_load rfl tk3) rfl rfl rfl ?_
                      refine WL_rd (Rd_fieldAddr rfl fo30_4) rfl rfl rfl ?_
                      refine WL_rd (Rd_load rfl tk3) rfl rfl rfl ?_
                      first | refine WL_rd (Rd_eqlN rfl rfl) rfl rfl rfl ?_ | refine WL_rd (Rd_eql rfl rfl) rfl rfl rfl ?_
                      refine WL_rd (Rd_pickT rfl rfl) rfl rfl rfl ?_
                      refine WL_rd (Rd_move rfl) rfl rfl rfl ?_
                      refine WL_bool 112 rfl (fun hg34 => ?_) (fun hg34 => ?_)
                      · try simp only [decide_eq_true_eq, decide_eq_false_iff_not, Bool.not_eq_true', Bool.not_eq_false', Bool.not_eq_true, Bool.not_eq_false, Int.not_lt, Int.not_le, Nat.not_lt, Nat.not_le, Decidable.not_not, ne_eq] at hg34
                        refine WL_rd (Rd_fieldAddr rfl fo30_5) rfl rfl rfl ?_
                        refine WL_rd (Rd_loadg rfl tk27) rfl rfl rfl ?_
                        refine WL_rd (Rd_fieldAddr rfl fo30_5) rfl rfl rfl ?_
                        refine WL_rd (Rd_loadg rfl tk27) rfl rfl rfl ?_
                        refine WL_rd (Rd_eqS rfl rfl fls27 (EqL.sc tk25 rfl rfl (Eqs_int ud25 _ _) (EqL.sc tk3 rfl rfl (Eqs_int ud3 _ _) EqL.nil))) rfl rfl rfl ?_
                        refine WL_rd (Rd_pickT rfl rfl) rfl rfl rfl ?_
                        refine WL_rd (Rd_move rfl) rfl rfl rfl ?_
                        refine WL_bool 119 rfl (fun hg35 => ?_) (fun hg35 => ?_)
                        · try simp only [decide_eq_true_eq, decide_eq_false_iff_not, Bool.not_eq_true', Bool.not_eq_false', Bool.not_eq_true, Bool.not_eq_false, Int.not_lt, Int.not_le, Nat.not_lt, Nat.not_le, Decidable.not_not, ne_eq] at hg35
                          refine WL_rd (Rd_fieldAddr rfl fo30_6) rfl rfl rfl ?_
                          refine WL_rd (Rd_load rfl tk28) rfl rfl rfl ?_
                          first | refine WL_rd (Rd_len rfl rfl ud28) rfl rfl rfl ?_ | refine WL_rd (Rd_len_sv rfl rfl ud28) rfl rfl rfl ?_
                          refine WL_rd (Rd_fieldAddr rfl fo30_6) rfl rfl rfl ?_
                          refine WL_rd (Rd_load rfl tk28) rfl rfl rfl ?_
                          first | refine WL_rd (Rd_len rfl rfl ud28) rfl rfl rfl ?_ | refine WL_rd (Rd_len_sv rfl rfl ud28) rfl rfl rfl ?_
                          refine WL_rd (Rd_eqlN rfl rfl) rfl rfl rfl ?_
                          refine WL_rd (Rd_pickT rfl rfl) rfl rfl rfl ?_
                          refine WL_rd (Rd_assign rfl) rfl rfl rfl ?_
                          refine WL_end hK30 ?_
                          refine WC_ret ?_
                          exact hret.goE () (Rs1 rfl rfl) (by first | (congr 1; done) | (congr 1; simp [mayM, bareM, *]; done) | (congr 1; simp [mayM, bareM, *]; omega) | (congr 1; rw [Bool.eq_iff_iff]; simp [mayM, bareM, *]; omega) | (congr 1; rw [Bool.eq_iff_iff]; simp [mayM, bareM] at * <;> omega))
                        · try simp only [decide_eq_true_eq, decide_eq_false_iff_not, Bool.not_eq_true', Bool.not_eq_false', Bool.not_eq_true, Bool.not_eq_false, Int.not_lt, Int.not_le, Nat.not_lt, Nat.not_le, Decidable.not_not, ne_eq] at hg35
                          refine WL_skip rfl rfl rfl ?_
                          refine WL_skip rfl rfl rfl ?_
                          refine WL_skip rfl rfl rfl ?_
                          refine WL_skip rfl rfl rfl ?_
                          refine WL_skip rfl rfl rfl ?_
                          refine WL_skip rfl rfl rfl ?_
                          refine WL_skip rfl rfl rfl ?_
                          refine WL_rd (Rd_pickF rfl rfl) rfl rfl rfl ?_
                          refine WL_rd (Rd_assign rfl) rfl rfl rfl ?_
                          refine WL_end hK30 ?_
                          refine WC_ret ?_
                          exact hret.goE () (Rs1 rfl rfl) (by first | (congr 1; done) | (congr 1; simp [mayM, bareM, *]; done) | (congr 1; simp [mayM, bareM, *]; omega) | (congr 1; rw [Bool.eq_iff_iff]; simp [mayM, bareM, *]; omega) | (congr 1; rw [Bool.eq_iff_iff]; simp [mayM, bareM] at * <;> omega))
                      · try simp only [decide_eq_true_eq, decide_eq_false_iff_not, Bool.not_eq_true', Bool.not_eq_false', Bool.not_eq_true, Bool.not_eq_false, Int.not_lt, Int.not_le, Nat.not_lt, Nat.not_le, Decidable.not_not, ne_eq] at hg34
                        refine WL_skip rfl rfl rfl ?_
                        refine WL_skip rfl rfl rfl ?_
                        refine WL_skip rfl rfl rfl ?_
                        refine WL_skip rfl rfl rfl ?_
                        refine WL_skip rfl rfl rfl ?_
                        refine WL_rd (Rd_pickF rfl rfl) rfl rfl rfl ?_
                        refine WL_rd (Rd_move rfl) rfl rfl rfl ?_
                        refine WL_skip rfl rfl rfl ?_
                        refine WL_skip rfl rfl rfl ?_
                        refine WL_skip rfl rfl rfl ?_
                        refine WL_skip rfl rfl rfl ?_
                        refine WL_skip rfl rfl rfl ?_
                        refine WL_skip rfl rfl rfl ?_
                        refine WL_skip rfl rfl rfl ?_
                        refine WL_rd (Rd_pickF rfl rfl) rfl rfl rfl ?_
                        refine WL_rd (Rd_assign rfl) rfl rfl rfl ?_
                        refine WL_end hK30 ?_
                        refine WC_ret ?_
                        exact hret.goE () (Rs1 rfl rfl) (by first | (congr 1; done) | (congr 1; simp [mayM, bareM, *]; done) | (congr 1; simp [mayM, bareM, *]; omega) | (congr 1; rw [Bool.eq_iff_iff]; simp [mayM, bareM, *]; omega) | (congr 1; rw [Bool.eq_iff_iff]; simp [mayM, bareM] at * <;> omega))
                    · try simp only [decide_eq_true_eq, decide_eq_false_iff_not, Bool.not_eq_true', Bool.not_eq_false', Bool.not_eq_true, Bool.not_eq_false, Int.not_lt, Int.not_le, Nat.not_lt, Nat.not_le, Decidable.not_not, ne_eq] at hg33
                      refine WL_skip rfl rfl rfl ?_
                      refine WL_skip rfl rfl rfl ?_
                      refine WL_skip rfl rfl rfl ?_
                      refine WL_skip rfl rfl rfl ?_
                      refine WL_skip rfl rfl rfl ?_
                      refine WL_rd (Rd_pickF rfl rfl) rfl rfl rfl ?_
                      refine WL_rd (Rd_move rfl) rfl rfl rfl ?_
                      refine WL_skip rfl rfl rfl ?_
                      refine WL_skip rfl rfl rfl ?_
                      refine WL_skip rfl rfl rfl ?_
                      refine WL_skip rfl rfl rfl ?_
                      refine WL_skip rfl rfl rfl ?_
                      refine WL_rd (Rd_pickF rfl rfl) rfl rfl rfl ?_
                      refine WL_rd (Rd_move rfl) rfl rfl rfl ?_
                      refine WL_skip rfl rfl rfl ?_
                      refine WL_skip rfl rfl rfl ?_
                      refine WL_skip rfl rfl rfl ?_
                      refine WL_skip rfl rfl rfl ?_
                      refine WL_skip rfl rfl rfl ?_
                      refine WL_skip rfl rfl rfl ?_
                      refine WL_skip rfl rfl rfl ?_
                      refine WL_rd (Rd_pickF rfl rfl) rfl rfl rfl ?_
                      refine WL_rd (Rd_assign rfl) rfl rfl rfl ?_
                      refine WL_end hK30 ?_
                      refine WC_ret ?_
                      exact hret.goE () (Rs1 rfl rfl) (by first | (congr 1; done) | (congr 1; simp [mayM, bareM, *]; done) | (congr 1; simp [mayM, bareM, *]; omega) | (congr 1; rw [Bool.eq_iff_iff]; simp [mayM, bareM, *]; omega) | (congr 1; rw [Bool.eq_iff_iff]; simp [mayM, bareM] at * <;> omega))
                  · try simp only [decide_eq_true_eq, decide_eq_false_iff_not, Bool.not_eq_true', Bool.not_eq_false', Bool.not_eq_true, Bool.not_eq_false, Int.not_lt, Int.not_le, Nat.not_lt, Nat.not_le, Decidable.not_not, ne_eq] at hg32
                    refine WL_skip rfl rfl rfl ?_
                    refine WL_skip rfl rfl rfl ?_
                    refine WL_skip rfl rfl rfl ?_
                    refine WL_skip rfl rfl rfl ?_
                    refine WL_skip rfl rfl rfl ?_
                    refine WL_rd (Rd_pickF rfl rfl) rfl rfl rfl ?_
                    refine WL_rd (Rd_move rfl) rfl rfl rfl ?_
                    refine WL_skip rfl rfl rfl ?_
                    refine WL_skip rfl rfl rfl ?_
                    refine WL_skip rfl rfl rfl ?_
                    refine WL_skip rfl rfl rfl ?_
                    refine WL_skip rfl rfl rfl ?_
                    refine WL_rd (Rd_pickF rfl rfl) rfl rfl rfl ?_
                    refine WL_rd (Rd_move rfl) rfl rfl rfl ?_
                    refine WL_skip rfl rfl rfl ?_
                    refine WL_skip rfl rfl rfl ?_
                    refine WL_skip rfl rfl rfl ?_
                    refine WL_skip rfl rfl rfl ?_
                    refine WL_skip rfl rfl rfl ?_
                    refine WL_rd (Rd_pickF rfl rfl) rfl rfl rfl ?_
                    refine WL_rd (Rd_move rfl) rfl rfl rfl ?_
                    refine WL_skip rfl rfl rfl ?_
                    refine WL_skip rfl rfl rfl ?_
                    refine WL_skip rfl rfl rfl ?_
                    refine WL_skip rfl rfl rfl ?_
                    refine WL_skip rfl rfl rfl ?_
                    refine WL_skip rfl rfl rfl ?_
                    refine WL_skip rfl rfl rfl ?_
                    refine WL_rd (Rd_pickF rfl rfl) rfl rfl rfl ?_
                    refine WL_rd (Rd_assign rfl) rfl rfl rfl ?_
                    refine WL_end hK30 ?_
                    refine WC_ret ?_
                    exact hret.goE () (Rs1 rfl rfl) (by first | (congr 1; done) | (congr 1; simp [mayM, bareM, *]; done) | (congr 1; simp [mayM, bareM, *]; omega) | (congr 1; rw [Bool.eq_iff_iff]; simp [mayM, bareM, *]; omega) | (congr 1; rw [Bool.eq_iff_iff]; simp [mayM, bareM] at * <;> omega))
                · try simp only [decide_eq_true_eq, decide_eq_false_iff_not, Bool.not_eq_true', Bool.not_eq_false', Bool.not_eq_true, Bool.not_eq_false, Int.not_lt, Int.not_le, Nat.not_lt, Nat.not_le, Decidable.not_not, ne_eq] at hg31
                  refine WL_skip rfl rfl rfl ?_
                  refine WL_skip rfl rfl rfl ?_
                  refine WL_skip rfl rfl rfl ?_
                  refine WL_skip rfl rfl rfl ?_
                  refine WL_skip rfl rfl rfl ?_
                  refine WL_rd (Rd_pickF rfl rfl) rfl rfl rfl ?_
                  refine WL_rd (Rd_move rfl) rfl rfl rfl ?_
                  refine WL_skip rfl rfl rfl ?_
                  refine WL_skip rfl rfl rfl ?_
                  refine WL_skip rfl rfl rfl ?_
                  refine WL_skip rfl rfl rfl ?_
                  refine WL_skip rfl rfl rfl ?_
                  refine WL_rd (Rd_pickF rfl rfl) rfl rfl rfl ?_
                  refine WL_rd (Rd_move rfl) rfl rfl rfl ?_
                  refine WL_skip rfl rfl rfl ?_
                  refine WL_skip rfl rfl rfl ?_
                  refine WL_skip rfl rfl rfl ?_
                  refine WL_skip rfl rfl rfl ?_
                  refine WL_skip rfl rfl rfl ?_
                  refine WL_rd (Rd_pickF rfl rfl) rfl rfl rfl ?_
                  refine WL_rd (Rd_move rfl) rfl rfl rfl ?_
                  refine WL_skip rfl rfl rfl ?_
                  refine WL_skip rfl rfl rfl ?_
                  refine WL_skip rfl rfl rfl ?_
                  refine WL_skip rfl rfl rfl ?_
                  refine WL_skip rfl rfl rfl ?_
                  refine WL_rd (Rd_pickF rfl rfl) rfl rfl rfl ?_
                  refine WL_rd (Rd_move rfl) rfl rfl rfl ?_
                  refine WL_skip rfl rfl rfl ?_
                  refine WL_skip rfl rfl rfl ?_
                  refine WL_skip rfl rfl rfl ?_
                  refine WL_skip rfl rfl rfl ?_
                  refine WL_skip rfl rfl rfl ?_
                  refine WL_skip rfl rfl rfl ?_
                  refine WL_skip rfl rfl rfl ?_
                  refine WL_rd (Rd_pickF rfl rfl) rfl rfl rfl ?_
                  refine WL_rd (Rd_assign rfl) rfl rfl rfl ?_
                  refine WL_end hK30 ?_
                  refine WC_ret ?_
                  exact hret.goE () (Rs1 rfl rfl) (by first | (congr 1; done) | (congr 1; simp [mayM, bareM, *]; done) | (congr 1; simp [mayM, bareM, *]; omega) | (congr 1; rw [Bool.eq_iff_iff]; simp [mayM, bareM, *]; omega) | (congr 1; rw [Bool.eq_iff_iff]; simp [mayM, bareM] at * <;> omega))
              · try simp only [decide_eq_true_eq, decide_eq_false_iff_not, Bool.not_eq_true', Bool.not_eq_false', Bool.not_eq_true, Bool.not_eq_false, Int.not_lt, Int.not_le, Nat.not_lt, Nat.not_le, Decidable.not_not, ne_eq] at hg29
                refine WL_skip rfl rfl rfl ?_
                refine WL_skip rfl rfl rfl ?_
                refine WL_skip rfl rfl rfl ?_
                refine WL_rd (Rd_pickF rfl rfl) rfl rfl rfl ?_
                refine WL_rd (Rd_assign rfl) rfl rfl rfl ?_
                refine WL_nil ?_
                refine Ps_next hK4 ?_
                refine WC_sr fun K36 hK36 => ?_
                refine WL_rd (Rd_move rfl) rfl rfl rfl ?_
                refine WL_rd (Rd_move rfl) rfl rfl rfl ?_
                refine WL_skip rfl rfl rfl ?_
                refine WL_skip rfl rfl rfl ?_
                refine WL_skip rfl rfl rfl ?_
                refine WL_skip rfl rfl rfl ?_
                refine WL_skip rfl rfl rfl ?_
                refine WL_rd (Rd_pickF rfl rfl) rfl rfl rfl ?_
                refine WL_rd (Rd_move rfl) rfl rfl rfl ?_
                refine WL_skip rfl rfl rfl ?_
                refine WL_skip rfl rfl rfl ?_
                refine WL_skip rfl rfl rfl ?_
                refine WL_skip rfl rfl rfl ?_
                refine WL_skip rfl rfl rfl ?_
                refine WL_rd (Rd_pickF rfl rfl) rfl rfl rfl ?_
                refine WL_rd (Rd_move rfl) rfl rfl rfl ?_
                refine WL_skip rfl rfl rfl ?_
                refine WL_skip rfl rfl rfl ?_
                refine WL_skip rfl rfl rfl ?_
                refine WL_skip rfl rfl rfl ?_
                refine WL_skip rfl rfl rfl ?_
                refine WL_rd (Rd_pickF rfl rfl) rfl rfl rfl ?_
                refine WL_rd (Rd_move rfl) rfl rfl rfl ?_
                refine WL_skip rfl rfl rfl ?_
                refine WL_skip rfl rfl rfl ?_
                refine WL_skip rfl rfl rfl ?_
                refine WL_skip rfl rfl rfl ?_
                refine WL_skip rfl rfl rfl ?_
                refine WL_rd (Rd_pickF rfl rfl) rfl rfl rfl ?_
                refine WL_rd (Rd_move rfl) rfl rfl rfl ?_
                refine WL_skip rfl rfl rfl ?_
                refine WL_skip rfl rfl rfl ?_
                refine WL_skip rfl rfl rfl ?_
                refine WL_skip rfl rfl rfl ?_
                refine WL_skip rfl rfl rfl ?_
                refine WL_skip rfl rfl rfl ?_
                refine WL_skip rfl rfl rfl ?_
                refine WL_rd (Rd_pickF rfl rfl) rfl rfl rfl ?_
                refine WL_rd (Rd_assign rfl) rfl rfl rfl ?_
                refine WL_end hK36 ?_
                refine WC_ret ?_
                exact hret.goE () (Rs1 rfl rfl) (by first | (congr 1; done) | (congr 1; simp [mayM, bareM, *]; done) | (congr 1; simp [mayM, bareM, *]; omega) | (congr 1; rw [Bool.eq_iff_iff]; simp [mayM, bareM, *]; omega) | (congr 1; rw [Bool.eq_iff_iff]; simp [mayM, bareM] at * <;> omega))
            · try simp only [decide_eq_true_eq, decide_eq_false_iff_not, Bool.not_eq_true', Bool.not_eq_false', Bool.not_eq_true, Bool.not_eq_false, Int.not_lt, Int.not_le, Nat.not_lt, Nat.not_le, Decidable.not_not, ne_eq] at hg28
              refine WL_skip rfl rfl rfl ?_
              refine WL_skip rfl rfl rfl ?_
              refine WL_skip rfl rfl rfl ?_
              refine WL_rd (Rd_pickF rfl rfl) rfl rfl rfl ?_
              refine WL_rd (Rd_move rfl) rfl rfl rfl ?_
              refine WL_skip rfl rfl rfl ?_
              refine WL_skip rfl rfl rfl ?_
              refine WL_skip rfl rfl rfl ?_
              refine WL_rd (Rd_pickF rfl rfl) rfl rfl rfl ?_
              refine WL_rd (Rd_assign rfl) rfl rfl rfl ?_
              refine WL_nil ?_
              refine Ps_next hK4 ?_
              refine WC_sr fun K37 hK37 => ?_
              refine WL_rd (Rd_move rfl) rfl rfl rfl ?_
              refine WL_rd (Rd_move rfl) rfl rfl rfl ?_
              refine WL_skip rfl rfl rfl ?_
              refine WL_skip rfl rfl rfl ?_
              refine WL_skip rfl rfl rfl ?_
              refine WL_skip rfl rfl rfl ?_
              refine WL_skip rfl rfl rfl ?_
              refine WL_rd (Rd_pickF rfl rfl) rfl rfl rfl ?_
              refine WL_rd (Rd_move rfl) rfl rfl rfl ?_
              refine WL_skip rfl rfl rfl ?_
              refine WL_skip rfl rfl rfl ?_
              refine WL_skip rfl rfl rfl ?_
              refine WL_skip rfl rfl rfl ?_
              refine WL_skip rfl rfl rfl ?_
              refine WL_rd (Rd_pickF rfl rfl) rfl rfl rfl ?_
              refine WL_rd (Rd_move rfl) rfl rfl rfl ?_
              refine WL_skip rfl rfl rfl ?_
              refine WL_skip rfl rfl rfl ?_
              refine WL_skip rfl rfl rfl ?_
              refine WL_skip rfl rfl rfl ?_
              refine WL_skip rfl rfl rfl ?_
              refine WL_rd (Rd_pickF rfl rfl) rfl rfl rfl ?_
              refine WL_rd (Rd_move rfl) rfl rfl rfl ?_
              refine WL_skip rfl rfl rfl ?_
              refine WL_skip rfl rfl rfl ?_
              refine WL_skip rfl rfl rfl ?_
              refine WL_skip rfl rfl rfl ?_
              refine WL_skip rfl rfl rfl ?_
              refine WL_rd (Rd_pickF rfl rfl) rfl rfl rfl ?_
              refine WL_rd (Rd_move rfl) rfl rfl rfl ?_
              refine WL_skip rfl rfl rfl ?_
              refine WL_skip rfl rfl rfl ?_
              refine WL_skip rfl rfl rfl ?_
              refine WL_skip rfl rfl rfl ?_
              refine WL_skip rfl rfl rfl ?_
              refine WL_skip rfl rfl rfl ?_
              refine WL_skip rfl rfl rfl ?_
              refine WL_rd (Rd_pickF rfl rfl) rfl rfl rfl ?_
              refine WL_rd (Rd_assign rfl) rfl rfl rfl ?_
              refine WL_end hK37 ?_
              refine WC_ret ?_
              exact hret.goE () (Rs1 rfl rfl) (by first | (congr 1; done) | (congr 1; simp [mayM, bareM, *]; done) | (congr 1; simp [mayM, bareM, *]; omega) | (congr 1; rw [Bool.eq_iff_iff]; simp [mayM, bareM, *]; omega) | (congr 1; rw [Bool.eq_iff_iff]; simp [mayM, bareM] at * <;> omega))
          · try simp only [decide_eq_true_eq, decide_eq_false_iff_not, Bool.not_eq_true', Bool.not_eq_false', Bool.not_eq_true, Bool.not_eq_false, Int.not_lt, Int.not_le, Nat.not_lt, Nat.not_le, Decidable.not_not, ne_eq] at hg27
            refine WL_skip rfl rfl rfl ?_
            refine WL_skip rfl rfl rfl ?_
            refine WL_skip rfl rfl rfl ?_
            refine WL_rd (Rd_pickF rfl rfl) rfl rfl rfl ?_
            refine WL_rd (Rd_move rfl) rfl rfl rfl ?_
            refine WL_skip rfl rfl rfl ?_
            refine WL_skip rfl rfl rfl ?_
            refine WL_skip rfl rfl rfl ?_
            refine WL_rd (Rd_pickF rfl rfl) rfl rfl rfl ?_
            refine WL_rd (Rd_move rfl) rfl rfl rfl ?_
            refine WL_skip rfl rfl rfl ?_
            refine WL_skip rfl rfl rfl ?_
            refine WL_skip rfl rfl rfl ?_
            refine WL_rd (Rd_pickF rfl rfl) rfl rfl rfl ?_
            refine WL_rd (Rd_assign rfl) rfl rfl rfl ?_
            refine WL_nil ?_
            refine Ps_next hK4 ?_
            refine WC_sr fun K38 hK38 => ?_
            refine WL_rd (Rd_move rfl) rfl rfl rfl ?_
            refine WL_rd (Rd_move rfl) rfl rfl rfl ?_
            refine WL_skip rfl rfl rfl ?_
            refine WL_skip rfl rfl rfl ?_
            refine WL_skip rfl rfl rfl ?_
            refine WL_skip rfl rfl rfl ?_
            refine WL_skip rfl rfl rfl ?_
            refine WL_rd (Rd_pickF rfl rfl) rfl rfl rfl ?_
            refine WL_rd (Rd_move rfl) rfl rfl rfl ?_
            refine WL_skip rfl rfl rfl ?_
            refine WL_skip rfl rfl rfl ?_
            refine WL_skip rfl rfl rfl ?_
            refine WL_skip rfl rfl rfl ?_
            refine WL_skip rfl rfl rfl ?_
            refine WL_rd (Rd_pickF rfl rfl) rfl rfl rfl ?_
            refine WL_rd (Rd_move rfl) rfl rfl rfl ?_
            refine WL_skip rfl rfl rfl ?_
            refine WL_skip rfl rfl rfl ?_
            refine WL_skip rfl rfl rfl ?_
            refine WL_skip rfl rfl rfl ?_
            refine WL_skip rfl rfl rfl ?_
            refine WL_rd (Rd_pickF rfl rfl) rfl rfl rfl ?_
            refine WL_rd (Rd_move rfl) rfl rfl rfl ?_
            refine WL_skip rfl rfl rfl ?_
            refine WL_skip rfl rfl rfl ?_
            refine WL_skip rfl rfl rfl ?_
            refine WL_skip rfl rfl rfl ?_
            refine WL_skip rfl rfl rfl ?_
            refine WL_rd (Rd_pickF rfl rfl) rfl rfl rfl ?_
            refine WL_rd (Rd_move rfl) rfl rfl rfl ?_
            refine WL_skip rfl rfl rfl ?_
            refine WL_skip rfl rfl rfl ?_
            refine WL_skip rfl rfl rfl ?_
            refine WL_skip rfl rfl rfl ?_
            refine WL_skip rfl rfl rfl ?_
            refine WL_skip rfl rfl rfl ?_
            refine WL_skip rfl rfl rfl ?_
            refine WL_rd (Rd_pickF rfl rfl) rfl rfl rfl ?_
            refine WL_rd (Rd_assign rfl) rfl rfl rfl ?_
            refine WL_end hK38 ?_
            refine WC_ret ?_
            exact hret.goE () (Rs1 rfl rfl) (by first | (congr 1; done) | (congr 1; simp [mayM, bareM, *]; done) | (congr 1; simp [mayM, bareM, *]; omega) | (congr 1; rw [Bool.eq_iff_iff]; simp [mayM, bareM, *]; omega) | (congr 1; rw [Bool.eq_iff_iff]; simp [mayM, bareM] at * <;> omega))
        · try simp only [decide_eq_true_eq, decide_eq_false_iff_not, Bool.not_eq_true', Bool.not_eq_false', Bool.not_eq_true, Bool.not_eq_false, Int.not_lt, Int.not_le, Nat.not_lt, Nat.not_le, Decidable.not_not, ne_eq] at hg26
          refine WL_skip rfl rfl rfl ?_
          refine WL_skip rfl rfl rfl ?_
          refine WL_skip rfl rfl rfl ?_
          refine WL_rd (Rd_pickF rfl rfl) rfl rfl rfl ?_
          refine WL_rd (Rd_move rfl) rfl rfl rfl ?_
          refine WL_skip rfl rfl rfl ?_
          refine WL_skip rfl rfl rfl ?_
          refine WL_skip rfl rfl rfl ?_
          refine WL_rd (Rd_pickF rfl rfl) rfl rfl rfl ?_
          refine WL_rd (Rd_move rfl) rfl rfl rfl ?_
          refine WL_skip rfl rfl rfl ?_
          refine WL_skip rfl rfl rfl ?_
          refine WL_skip rfl rfl rfl ?_
          refine WL_rd (Rd_pickF rfl rfl) rfl rfl rfl ?_
          refine WL_rd (Rd_move rfl) rfl rfl rfl ?_
          refine WL_skip rfl rfl rfl ?_
          refine WL_skip rfl rfl rfl ?_
          refine WL_skip rfl rfl rfl ?_
          refine WL_rd (Rd_pickF rfl rfl) rfl rfl rfl ?_
          refine WL_rd (Rd_assign rfl) rfl rfl rfl ?_
          refine WL_nil ?_
          refine Ps_next hK4 ?_
          refine WC_sr fun K39 hK39 => ?_
          refine WL_rd (Rd_move rfl) rfl rfl rfl ?_
          refine WL_rd (Rd_move rfl) rfl rfl rfl ?_
          refine WL_skip rfl rfl rfl ?_
          refine WL_skip rfl rfl rfl ?_
          refine WL_skip rfl rfl rfl ?_
          refine WL_skip rfl rfl rfl ?_
          refine WL_skip rfl rfl rfl ?_
          refine WL_rd (Rd_pickF rfl rfl) rfl rfl rfl ?_
          refine WL_rd (Rd_move rfl) rfl rfl rfl ?_
          refine WL_skip rfl rfl rfl ?_
          refine WL_skip rfl rfl rfl ?_
          refine WL_skip rfl rfl rfl ?_
          refine WL_skip rfl rfl rfl ?_
          refine WL_skip rfl rfl rfl ?_
          refine WL_rd (Rd_pickF rfl rfl) rfl rfl rfl ?_
          refine WL_rd (Rd_move rfl) rfl rfl rfl ?_
          refine WL_skip rfl rfl rfl ?_
          refine WL_skip rfl rfl rfl ?_
          refine WL_skip rfl rfl rfl ?_
          refine WL_skip rfl rfl rfl ?_
          refine WL_skip rfl rfl rfl ?_
          refine WL_rd (Rd_pickF rfl rfl) rfl rfl rfl ?_
          refine WL_rd (Rd_move rfl) rfl rfl rfl ?_
          refine WL_skip rfl rfl rfl ?_
          refine WL_skip rfl rfl rfl ?_
          refine WL_skip rfl rfl rfl ?_
          refine WL_skip rfl rfl rfl ?_
          refine WL_skip rfl rfl rfl ?_
          refine WL_rd (Rd_pickF rfl rfl) rfl rfl rfl ?_
          refine WL_rd (Rd_move rfl) rfl rfl rfl ?_
          refine WL_skip rfl rfl rfl ?_
          refine WL_skip rfl rfl rfl ?_
          refine WL_skip rfl rfl rfl ?_
          refine WL_skip rfl rfl rfl ?_
          refine WL_skip rfl rfl rfl ?_
          refine WL_skip rfl rfl rfl ?_
          refine WL_skip rfl rfl rfl ?_
          refine WL_rd (Rd_pickF rfl rfl) rfl rfl rfl ?_
          refine WL_rd (Rd_assign rfl) rfl rfl rfl ?_
          refine WL_end hK39 ?_
          refine WC_ret ?_
          exact hret.goE () (Rs1 rfl rfl) (by first | (congr 1; done) | (congr 1; simp [mayM, bareM, *]; done) | (congr 1; simp [mayM, bareM, *]; omega) | (congr 1; rw [Bool.eq_iff_iff]; simp [mayM, bareM, *]; omega) | (congr 1; rw [Bool.eq_iff_iff]; simp [mayM, bareM] at * <;> omega))
      · try simp only [decide_eq_true_eq, decide_eq_false_iff_not, Bool.not_eq_true', Bool.not_eq_false', Bool.not_eq_true, Bool.not_eq_false, Int.not_lt, Int.not_le, Nat.not_lt, Nat.not_le, Decidable.not_not, ne_eq] at hc2
        refine WC_sr fun K40 hK40 => ?_
        first | refine WL_rd (Rd_eqlN (j := 4) rfl rfl) rfl rfl rfl ?_ | refine WL_rd (Rd_eql rfl rfl) rfl rfl rfl ?_
        refine WL_rd (Rd_assign rfl) rfl rfl rfl ?_
        refine WL_end hK40 ?_
        refine WC_cond rfl (fun hc3 => ?_) (fun hc3 => ?_)
        · try simp only [decide_eq_true_eq, decide_eq_false_iff_not, Bool.not_eq_true', Bool.not_eq_false', Bool.not_eq_true, Bool.not_eq_false, Int.not_lt, Int.not_le, Nat.not_lt, Nat.not_le, Decidable.not_not, ne_eq] at hc3
          refine WC_sr fun K41 hK41 => ?_
          refine WL_rd (Rd_fieldAddr rfl fo30_5) rfl rfl rfl ?_
          refine WL_rd (Rd_loadg rfl tk27) rfl rfl rfl ?_
          refine WL_rd (Rd_fieldAddr rfl fo30_5) rfl rfl rfl ?_
          refine WL_ac0 (Ac_store rfl rfl sz27) rfl rfl ?_
          rintro _ _ rfl
          refine WL_end hK41 ?_
          refine WC_region ?_
          refine WL_rd (Rd_fieldAddr rfl fo30_5) rfl rfl rfl ?_
          refine WL_rd (Rd_fieldAddr rfl fo27_1) rfl rfl rfl ?_
          refine WL_rd (Rd_load rfl tk3) rfl rfl rfl ?_
          refine WL_ac (Ac_call cf37 rfl (hs := until_ct)) rfl rfl rfl ?_
          rintro _ _ ⟨⟨⟩, rfl, hA⟩
          simp only [List.cons_append, List.nil_append] at hA
          subst hA
          refine WL_rd (Rd_assign rfl) rfl rfl rfl ?_
          refine WL_nil ?_
          refine Ps_next hK4 ?_
          refine WC_sr fun K42 hK42 => ?_
          refine WL_rd (Rd_move rfl) rfl rfl rfl ?_
          refine WL_rd (Rd_move rfl) rfl rfl rfl ?_
          refine WL_bool 91 rfl (fun hg43 => ?_) (fun hg43 => ?_)
          · try simp only [decide_eq_true_eq, decide_eq_false_iff_not, Bool.not_eq_true', Bool.not_eq_false', Bool.not_eq_true, Bool.not_eq_false, Int.not_lt, Int.not_le, Nat.not_lt, Nat.not_le, Decidable.not_not, ne_eq] at hg43
            refine WL_rd (Rd_fieldAddr rfl fo30_2) rfl rfl rfl ?_
            refine WL_rd (Rd_load rfl tk3) rfl rfl rfl ?_
            refine WL_rd (Rd_fieldAddr rfl fo30_2) rfl rfl rfl ?_
            refine WL_rd (Rd_load rfl tk3) rfl rfl rfl ?_
            first | refine WL_rd (Rd_eqlN rfl rfl) rfl rfl rfl ?_ | refine WL_rd (Rd_eql rfl rfl) rfl rfl rfl ?_
            refine WL_rd (Rd_pickT rfl rfl) rfl rfl rfl ?_
            refine WL_rd (Rd_move rfl) rfl rfl rfl ?_
            refine WL_bool 98 rfl (fun hg44 => ?_) (fun hg44 => ?_)
            · try simp only [decide_eq_true_eq, decide_eq_false_iff_not, Bool.not_eq_true', Bool.not_eq_false', Bool.not_eq_true, Bool.not_eq_false, Int.not_lt, Int.not_le, Nat.not_lt, Nat.not_le, Decidable.not_not, ne_eq] at hg44
              refine WL_rd (Rd_fieldAddr rfl fo30_3) rfl rfl rfl ?_
              refine WL_rd (Rd_load rfl tk3) rfl rfl rfl ?_
              refine WL_rd (Rd_fieldAddr rfl fo30_3) rfl rfl rfl ?_
              refine WL_rd (Rd_load rfl tk3) rfl rfl rfl ?_
              first | refine WL_rd (Rd_eqlN rfl rfl) rfl rfl rfl ?_ | refine WL_rd (Rd_eql rfl rfl) rfl rfl rfl ?_
              refine WL_rd (Rd_pickT rfl rfl) rfl rfl rfl ?_
              refine WL_rd (Rd_move rfl) rfl rfl rfl ?_
              refine WL_bool 105 rfl (fun hg45 => ?_) (fun hg45 => ?_)
              · try simp only [decide_eq_true_eq, decide_eq_false_iff_not, Bool.not_eq_true', Bool.not_eq_false', Bool.not_eq_true, Bool.not_eq_false, Int.not_lt, Int.not_le, Nat.not_lt, Nat.not_le, Decidable.not_not, ne_eq] at hg45
                refine WL_rd (Rd_fieldAddr rfl fo30_4) rfl rfl rfl ?_
                refine WL_rd (Rd_load rfl tk3) rfl rfl rfl ?_
                refine WL_rd (Rd_fieldAddr rfl fo30_4) rfl rfl rfl ?_
                refine WL_rd (Rd_load rfl tk3) rfl rfl rfl ?_
                first | refine WL_rd (Rd_eqlN rfl rfl) rfl rfl rfl ?_ | refine WL_rd (Rd_eql rfl rfl) rfl rfl rfl ?_
                refine WL_rd (Rd_pickT rfl rfl) rfl rfl rfl ?_
                refine WL_rd (Rd_move rfl) rfl rfl rfl ?_
                refine WL_bool 112 rfl (fun hg46 => ?_) (fun hg46 => ?_)
                · try simp only [decide_eq_true_eq, decide_eq_false_iff_not, Bool.not_eq_true', Bool.not_eq_false', Bool.not_eq_true, Bool.not_eq_false, Int.not_lt, Int.not_le, Nat.not_lt, Nat.not_le, Decidable.not_not, ne_eq] at hg46
                  refine WL_rd (Rd_fieldAddr rfl fo30_5) rfl rfl rfl ?_
                  refine WL_rd (Rd_loadg rfl tk27) rfl rfl rfl ?_
                  refine WL_rd (Rd_fieldAddr rfl fo30_5) rfl rfl rfl ?_
                  refine WL_rd (Rd_loadg rfl tk27) rfl rfl rfl ?_
                  refine WL_rd (Rd_eqS rfl rfl fls27 (EqL.sc tk25 rfl rfl (Eqs_int ud25 _ _) (EqL.sc tk3 rfl rfl (Eqs_int ud3 _ _) EqL.nil))) rfl rfl rfl ?_
                  refine WL_rd (Rd_pickT rfl rfl) rfl rfl rfl ?_
                  refine WL_rd (Rd_move rfl) rfl rfl rfl ?_
                  refine WL_bool 119 rfl (fun hg47 => ?_) (fun hg47 => ?_)
                  · try simp only [decide_eq_true_eq, decide_eq_false_iff_not, Bool.not_eq_true', Bool.not_eq_false', Bool.not_eq_true, Bool.not_eq_false, Int.not_lt, Int.not_le, Nat.not_lt, Nat.not_le, Decidable.not_not, ne_eq] at hg47
                    refine WL_rd (Rd_fieldAddr rfl fo30_6) rfl rfl rfl ?_
                    refine WL_rd (Rd_load rfl tk28) rfl rfl rfl ?_
                    first | refine WL_rd (Rd_len rfl rfl ud28) rfl rfl rfl ?_ | refine WL_rd (Rd_len_sv rfl rfl ud28) rfl rfl rfl ?_
                    refine WL_rd (Rd_fieldAddr rfl fo30_6) rfl rfl rfl ?_
                    refine WL_rd (Rd_load rfl tk28) rfl rfl rfl ?_
                    first | refine WL_rd (Rd_len rfl rfl ud28) rfl rfl rfl ?_ | refine WL_rd (Rd_len_sv rfl rfl ud28) rfl rfl rfl ?_
                    refine WL_rd (Rd_eqlN rfl rfl) rfl rfl rfl ?_
                    refine WL_rd (Rd_pickT rfl rfl) rfl rfl rfl ?_
                    refine WL_rd (Rd_assign rfl) rfl rfl rfl ?_
                    refine WL_end hK42 ?_
                    refine WC_ret ?_
                    exact hret.goE () (Rs1 rfl rfl) (by first | (congr 1; done) | (congr 1; simp [mayM, bareM, *]; done) | (congr 1; simp [mayM, bareM, *]; omega) | (congr 1; rw [Bool.eq_iff_iff]; simp [mayM, bareM, *]; omega) | (congr 1; rw [Bool.eq_iff_iff]; simp [mayM, bareM] at * <;> omega))
                  · try simp only [decide_eq_true_eq, decide_eq_false_iff_not, Bool.not_eq_true', Bool.not_eq_false', Bool.not_eq_true, Bool.not_eq_false, Int.not_lt, Int.not_le, Nat.not_lt, Nat.not_le, Decidable.not_not, ne_eq] at hg47
                    refine WL_skip rfl rfl rfl ?_
                    refine WL_skip rfl rfl rfl ?_
                    refine WL_skip rfl rfl rfl ?_
                    refine WL_skip rfl rfl rfl ?_
                    refine WL_skip rfl rfl rfl ?_
                    refine WL_skip rfl rfl rfl ?_
                    refine WL_skip rfl rfl rfl ?_
                    refine WL_rd (Rd_pickF rfl rfl) rfl rfl rfl ?_
                    refine WL_rd (Rd_assign rfl) rfl rfl rfl ?_
                    refine WL_end hK42 ?_
                    refine WC_ret ?_
                    exact hret.goE () (Rs1 rfl rfl) (by first | (congr 1; done) | (congr 1; simp [mayM, bareM, *]; done) | (congr 1; simp [mayM, bareM, *]; omega) | (congr 1; rw [Bool.eq_iff_iff]; simp [mayM, bareM, *]; omega) | (congr 1; rw [Bool.eq_iff_iff]; simp [mayM, bareM] at * <;> omega))
                · try simp only [decide_eq_true_eq, decide_eq_false_iff_not, Bool.not_eq_true', Bool.not_eq_false', Bool.not_eq_true, Bool.not_eq_false, Int.not_lt, Int.not_le, Nat.not_lt, Nat.not_le, Decidable.not_not, ne_eq] at hg46
                  refine WL_skip rfl rfl rfl ?_
                  refine WL_skip rfl rfl rfl ?_
                  refine WL_skip rfl rfl rfl ?_
                  refine WL_skip rfl rfl rfl ?_
                  refine WL_skip rfl rfl rfl ?_
                  refine WL_rd (Rd_pickF rfl rfl) rfl rfl rfl ?_
                  refine WL_rd (Rd_move rfl) rfl rfl rfl ?_
                  refine WL_skip rfl rfl rfl ?_
                  refine WL_skip rfl rfl rfl ?_
                  refine WL_skip rfl rfl rfl ?_
                  refine WL_skip rfl rfl rfl ?_
                  refine WL_skip rfl rfl rfl ?_
                  refine WL_skip rfl rfl rfl ?_
                  refine WL_skip rfl rfl rfl ?_
                  refine WL_rd (Rd_pickF rfl rfl) rfl rfl rfl ?_
                  refine WL_rd (Rd_assign rfl) rfl rfl rfl ?_
                  refine WL_end hK42 ?_
                  refine WC_ret ?_
                  exact hret.goE () (Rs1 rfl rfl) (by first | (congr 1; done) | (congr 1; simp [mayM, bareM, *]; done) | (congr 1; simp [mayM, bareM, *]; omega) | (congr 1; rw [Bool.eq_iff_iff]; simp [mayM, bareM, *]; omega) | (congr 1; rw [Bool.eq_iff_iff]; simp [mayM, bareM] at * <;> omega))
              · try simp only [decide_eq_true_eq, decide_eq_false_iff_not, Bool.not_eq_true', Bool.not_eq_false', Bool.not_eq_true, Bool.not_eq_false, Int.not_lt, Int.not_le, Nat.not_lt, Nat.not_le, Decidable.not_not, ne_eq] at hg45
                refine WL_skip rfl rfl rfl ?_
                refine WL_skip rfl rfl rfl ?_
                refine WL_skip rfl rfl rfl ?_
                refine WL_skip rfl rfl rfl ?_
                refine WL_skip rfl rfl rfl ?_
                refine WL_rd (Rd_pickF rfl rfl) rfl rfl rfl ?_
                refine WL_rd (Rd_move rfl) rfl rfl rfl ?_
                refine WL_skip rfl rfl rfl ?_
                refine WL_skip rfl rfl rfl ?_
                refine WL_skip rfl rfl rfl ?_
                refine WL_skip rfl rfl rfl ?_
                refine WL_skip rfl rfl rfl ?_
                refine WL_rd (Rd_pickF rfl rfl) rfl rfl rfl ?_
                refine WL_rd (Rd_move rfl) rfl rfl rfl ?_
                refine WL_skip rfl rfl rfl ?_
                refine WL_skip rfl rfl rfl ?_
                refine WL_skip rfl rfl rfl ?_
                refine WL_skip rfl rfl rfl ?_
                refine WL_skip rfl rfl rfl ?_
                refine WL_skip rfl rfl rfl ?_
                refine WL_skip rfl rfl rfl ?_
                refine WL_rd (Rd_pickF rfl rfl) rfl rfl rfl ?_
                refine WL_rd (Rd_assign rfl) rfl rfl rfl ?_
                refine WL_end hK42 ?_
                refine WC_ret ?_
                exact hret.goE () (Rs1 rfl rfl) (by first | (congr 1; done) | (congr 1; simp [mayM, bareM, *]; done) | (congr 1; simp [mayM, bareM, *]; omega) | (congr 1; rw [Bool.eq_iff_iff]; simp [mayM, bareM, *]; omega) | (congr 1; rw [Bool.eq_iff_iff]; simp [mayM, bareM] at * <;> omega))
            · try simp only [decide_eq_true_eq, decide_eq_false_iff_not, Bool.not_eq_true', Bool.not_eq_false', Bool.not_eq_true, Bool.not_eq_false, Int.not_lt, Int.not_le, Nat.not_lt, Nat.not_le, Decidable.not_not, ne_eq] at hg44
              refine WL_skip rfl rfl rfl ?_
              refine WL_skip rfl rfl rfl ?_
              refine WL_skip rfl rfl rfl ?_
              refine WL_skip rfl rfl rfl ?_
              refine WL_skip rfl rfl rfl ?_
              refine WL_rd (Rd_pickF rfl rfl) rfl rfl rfl ?_
              refine WL_rd (Rd_move rfl) rfl rfl rfl ?_
              refine WL_skip rfl rfl rfl ?_
              refine WL_skip rfl rfl rfl ?_
              refine WL_skip rfl rfl rfl ?_
              refine WL_skip rfl rfl rfl ?_
              refine WL_skip rfl rfl rfl ?_
              refine WL_rd (Rd_pickF rfl rfl) rfl rfl rfl ?_
              refine WL_rd (Rd_move rfl) rfl rfl rfl ?_
              refine WL_skip rfl rfl rfl ?_
              refine WL_skip rfl rfl rfl ?_
              refine WL_skip rfl rfl rfl ?_
              refine WL_skip rfl rfl rfl ?_
              refine WL_skip rfl rfl rfl ?_
              refine WL_rd (Rd_pickF rfl rfl) rfl rfl rfl ?_
              refine WL_rd (Rd_move rfl) rfl rfl rfl ?_
              refine WL_skip rfl rfl rfl ?_
              refine WL_skip rfl rfl rfl ?_
              refine WL_skip rfl rfl rfl ?_
              refine WL_skip rfl rfl rfl ?_
              refine WL_skip rfl rfl rfl ?_
              refine WL_skip rfl rfl rfl ?_
              refine WL_skip rfl rfl rfl ?_
              refine WL_rd (Rd_pickF rfl rfl) rfl rfl rfl ?_
              refine WL_rd (Rd_assign rfl) rfl rfl rfl ?_
              refine WL_end hK42 ?_
              refine WC_ret ?_
              exact hret.goE () (Rs1 rfl rfl) (by first | (congr 1; done) | (congr 1; simp [mayM, bareM, *]; done) | (congr 1; simp [mayM, bareM, *]; omega) | (congr 1; rw [Bool.eq_iff_iff]; simp [mayM, bareM, *]; omega) | (congr 1; rw [Bool.eq_iff_iff]; simp [mayM, bareM] at * <;> omega))
          · try simp only [decide_eq_true_eq, decide_eq_false_iff_not, Bool.not_eq_true', Bool.not_eq_false', Bool.not_eq_true, Bool.not_eq_false, Int.not_lt, Int.not_le, Nat.not_lt, Nat.not_le, Decidable.not_not, ne_eq] at hg43
            refine WL_skip rfl rfl rfl ?_
            refine WL_skip rfl rfl rfl ?_
            refine WL_skip rfl rfl rfl ?_
            refine WL_skip rfl rfl rfl ?_
            refine WL_skip rfl rfl rfl ?_
            refine WL_rd (Rd_pickF rfl rfl) rfl rfl rfl ?_
            refine WL_rd (Rd_move rfl) rfl rfl rfl ?_
            refine WL_skip rfl rfl rfl ?_
            refine WL_skip rfl rfl rfl ?_
            refine WL_skip rfl rfl rfl ?_
            refine WL_skip rfl rfl rfl ?_
            refine WL_skip rfl rfl rfl ?_
            refine WL_rd (Rd_pickF rfl rfl) rfl rfl rfl ?_
            refine WL_rd (Rd_move rfl) rfl rfl rfl ?_
            refine WL_skip rfl rfl rfl ?_
            refine WL_skip rfl rfl rfl ?_
            refine WL_skip rfl rfl rfl ?_
            refine WL_skip rfl rfl rfl ?_
            refine WL_skip rfl rfl rfl ?_
            refine WL_rd (Rd_pickF rfl rfl) rfl rfl rfl ?_
            refine WL_rd (Rd_move rfl) rfl rfl rfl ?_
            refine WL_skip rfl rfl rfl ?_
            refine WL_skip rfl rfl rfl ?_
            refine WL_skip rfl rfl rfl ?_
            refine WL_skip rfl rfl rfl ?_
            refine WL_skip rfl rfl rfl ?_
            refine WL_rd (Rd_pickF rfl rfl) rfl rfl rfl ?_
            refine WL_rd (Rd_move rfl) rfl rfl rfl ?_
            refine WL_skip rfl rfl rfl ?_
            refine WL_skip rfl rfl rfl ?_
            refine WL_skip rfl rfl rfl ?_
            refine WL_skip rfl rfl rfl ?_
            refine WL_skip rfl rfl rfl ?_
            refine WL_skip rfl rfl rfl ?_
            refine WL_skip rfl rfl rfl ?_
            refine WL_rd (Rd_pickF rfl rfl) rfl rfl rfl ?_
            refine WL_rd (Rd_assign rfl) rfl rfl rfl ?_
            refine WL_end hK42 ?_
            refine WC_ret ?_
            exact hret.goE () (Rs1 rfl rfl) (by first | (congr 1; done) | (congr 1; simp [mayM, bareM, *]; done) | (congr 1; simp [mayM, bareM, *]; omega) | (congr 1; rw [Bool.eq_iff_iff]; simp [mayM, bareM, *]; omega) | (congr 1; rw [Bool.eq_iff_iff]; simp [mayM, bareM] at * <;> omega))
        · try simp only [decide_eq_true_eq, decide_eq_false_iff_not, Bool.not_eq_true', Bool.not_eq_false', Bool.not_eq_true, Bool.not_eq_false, Int.not_lt, Int.not_le, Nat.not_lt, Nat.not_le, Decidable.not_not, ne_eq] at hc3
          refine WC_sr fun K48 hK48 => ?_
          first | refine WL_rd (Rd_eqlN (j := 5) rfl rfl) rfl rfl rfl ?_ | refine WL_rd (Rd_eql rfl rfl) rfl rfl rfl ?_
          refine WL_rd (Rd_assign rfl) rfl rfl rfl ?_
          refine WL_end hK48 ?_
          refine WC_cond rfl (fun hc4 => ?_) (fun hc4 => ?_)
          · try simp only [decide_eq_true_eq, decide_eq_false_iff_not, Bool.not_eq_true', Bool.not_eq_false', Bool.not_eq_true, Bool.not_eq_false, Int.not_lt, Int.not_le, Nat.not_lt, Nat.not_le, Decidable.not_not, ne_eq] at hc4
            refine WC_region ?_
            refine WL_rd (Rd_fieldAddr rfl fo30_5) rfl rfl rfl ?_
            refine WL_rd (Rd_fieldAddr rfl fo27_0) rfl rfl rfl ?_
            refine WL_rd (Rd_load rfl tk25) rfl rfl rfl ?_
            refine WL_rd (Rd_fieldAddr rfl fo30_5) rfl rfl rfl ?_
            refine WL_rd (Rd_fieldAddr rfl fo27_0) rfl rfl rfl ?_
            refine WL_ac0 (Ac_store1 rfl rfl sz25) rfl rfl ?_
            rintro _ _ rfl
            refine WL_nil ?_
            refine Ps_next hK4 ?_
            refine WC_sr fun K49 hK49 => ?_
            refine WL_rd (Rd_move rfl) rfl rfl rfl ?_
            refine WL_rd (Rd_move rfl) rfl rfl rfl ?_
            refine WL_rd (Rd_fieldAddr rfl fo30_2) rfl rfl rfl ?_
            refine WL_rd (Rd_load rfl tk3) rfl rfl rfl ?_
            refine WL_rd (Rd_fieldAddr rfl fo30_2) rfl rfl rfl ?_
            refine WL_rd (Rd_load rfl tk3) rfl rfl rfl ?_
            first | refine WL_rd (Rd_eqlN rfl rfl) rfl rfl rfl ?_ | refine WL_rd (Rd_eql rfl rfl) rfl rfl rfl ?_
            refine WL_rd (Rd_pickT rfl rfl) rfl rfl rfl ?_
            refine WL_rd (Rd_move rfl) rfl rfl rfl ?_
            refine WL_bool 98 rfl (fun hg50 => ?_) (fun hg50 => ?_)
            · try simp only [decide_eq_true_eq, decide_eq_false_iff_not, Bool.not_eq_true', Bool.not_eq_false', Bool.not_eq_true, Bool.not_eq_false, Int.not_lt, Int.not_le, Nat.not_lt, Nat.not_le, Decidable.not_not, ne_eq] at hg50
              refine WL_rd (Rd_fieldAddr rfl fo30_3) rfl rfl rfl ?_
              refine WL_rd (Rd_load rfl tk3) rfl rfl rfl ?_
              refine WL_rd (Rd_fieldAddr rfl fo30_3) rfl rfl rfl ?_
              refine WL_rd (Rd_load rfl tk3) rfl rfl rfl ?_
              first | refine WL_rd (Rd_eqlN rfl rfl) rfl rfl rfl ?_ | refine WL_rd (Rd_eql rfl rfl) rfl rfl rfl ?_
              refine WL_rd (Rd_pickT rfl rfl) rfl rfl rfl ?_
              refine WL_rd (Rd_move rfl) rfl rfl rfl ?_
              refine WL_bool 105 rfl (fun hg51 => ?_) (fun hg51 => ?_)
              · try simp only [decide_eq_true_eq, decide_eq_false_iff_not, Bool.not_eq_true', Bool.not_eq_false', Bool.not_eq_true, Bool.not_eq_false, Int.not_lt, Int.not_le, Nat.not_lt, Nat.not_le, Decidable.not_not, ne_eq] at hg51
                refine WL_rd (Rd_fieldAddr rfl fo30_4) rfl rfl rfl ?_
                refine WL_rd (Rd_load rfl tk3) rfl rfl rfl ?_
                refine WL_rd (Rd_fieldAddr rfl fo30_4) rfl rfl rfl ?_
                refine WL_rd (Rd_load rfl tk3) rfl rfl rfl ?_
                first | refine WL_rd (Rd_eqlN rfl rfl) rfl rfl rfl ?_ | refine WL_rd (Rd_eql rfl rfl) rfl rfl rfl ?_
                refine WL_rd (Rd_pickT rfl rfl) rfl rfl rfl ?_
                refine WL_rd (Rd_move rfl) rfl rfl rfl ?_
                refine WL_bool 112 rfl (fun hg52 => ?_) (fun hg52 => ?_)
                · try simp only [decide_eq_true_eq, decide_eq_false_iff_not, Bool.not_eq_true', Bool.not_eq_false', Bool.not_eq_true, Bool.not_eq_false, Int.not_lt, Int.not_le, Nat.not_lt, Nat.not_le, Decidable.not_not, ne_eq] at hg52
                  refine WL_rd (Rd_fieldAddr rfl fo30_5) rfl rfl rfl ?_
                  refine WL_rd (Rd_loadg rfl tk27) rfl rfl rfl ?_
                  refine WL_rd (Rd_fieldAddr rfl fo30_5) rfl rfl rfl ?_
                  refine WL_rd (Rd_loadg rfl tk27) rfl rfl rfl ?_
                  refine WL_rd (Rd_eqS rfl rfl fls27 (EqL.sc tk25 rfl rfl (Eqs_int ud25 _ _) (EqL.sc tk3 rfl rfl (Eqs_int ud3 _ _) EqL.nil))) rfl rfl rfl ?_
                  refine WL_rd (Rd_pickT rfl rfl) rfl rfl rfl ?_
                  refine WL_rd (Rd_move rfl) rfl rfl rfl ?_
                  refine WL_bool 119 rfl (fun hg53 => ?_) (fun hg53 => ?_)
                  · try simp only [decide_eq_true_eq, decide_eq_false_iff_not, Bool.not_eq_true', Bool.not_eq_false', Bool.not_eq_true, Bool.not_eq_false, Int.not_lt, Int.not_le, Nat.not_lt, Nat.not_le, Decidable.not_not, ne_eq] at hg53
                    refine WL_rd (Rd_fieldAddr rfl fo30_6) rfl rfl rfl ?_
                    refine WL_rd (Rd_load rfl tk28) rfl rfl rfl ?_
                    first | refine WL_rd (Rd_len rfl rfl ud28) rfl rfl rfl ?_ | refine WL_rd (Rd_len_sv rfl rfl ud28) rfl rfl rfl ?_
                    refine WL_rd (Rd_fieldAddr rfl fo30_6) rfl rfl rfl ?_
                    refine WL_rd (Rd_load rfl tk28) rfl rfl rfl ?_
                    first | refine WL_rd (Rd_len rfl rfl ud28) rfl rfl rfl ?_ | refine WL_rd (Rd_len_sv rfl rfl ud28) rfl rfl rfl ?_
                    refine WL_rd (Rd_eqlN rfl rfl) rfl rfl rfl ?_
                    refine WL_rd (Rd_pickT rfl rfl) rfl rfl rfl ?_
                    refine WL_rd (Rd_assign rfl) rfl rfl rfl ?_
                    refine WL_end hK49 ?_
                    refine WC_ret ?_
                    exact hret.goE () (Rs1 rfl rfl) (by first | (congr 1; done) | (congr 1; simp [mayM, bareM, *]; done) | (congr 1; simp [mayM, bareM, *]; omega) | (congr 1; rw [Bool.eq_iff_iff]; simp [mayM, bareM, *]; omega) | (congr 1; rw [Bool.eq_iff_iff]; simp [mayM, bareM] at * <;> omega))
                  · try simp only [decide_eq_true_eq, decide_eq_false_iff_not, Bool.not_eq_true', Bool.not_eq_false', Bool.not_eq_true, Bool.not_eq_false, Int.not_lt, Int.not_le, Nat.not_lt, Nat.not_le, Decidable.not_not, ne_eq] at hg53
                    refine WL_skip rfl rfl rfl ?_
                    refine WL_skip rfl rfl rfl ?_
                    refine WL_skip rfl rfl rfl ?_
                    refine WL_skip rfl rfl rfl ?_
                    refine WL_skip rfl rfl rfl ?_
                    refine WL_skip rfl rfl rfl ?_
                    refine WL_skip rfl rfl rfl ?_
                    refine WL_rd (Rd_pickF rfl rfl) rfl rfl rfl ?_
                    refine WL_rd (Rd_assign rfl) rfl rfl rfl ?_
                    refine WL_end hK49 ?_
                    refine WC_ret ?_
                    exact hret.goE () (Rs1 rfl rfl) (by first | (congr 1; done) | (congr 1; simp [mayM, bareM, *]; done) | (congr 1; simp [mayM, bareM, *]; omega) | (congr 1; rw [Bool.eq_iff_iff]; simp [mayM, bareM, *]; omega) | (congr 1; rw [Bool.eq_iff_iff]; simp [mayM, bareM] at * <;> omega))
                · try simp only [decide_eq_true_eq, decide_eq_false_iff_not, Bool.not_eq_true', Bool.not_eq_false', Bool.not_eq_true, Bool.not_eq_false, Int.not_lt, Int.not_le, Nat.not_lt, Nat.not_le, Decidable.not_not, ne_eq] at hg52
                  refine WL_skip rfl rfl rfl ?_
                  refine WL_skip rfl rfl rfl ?_
                  refine WL_skip rfl rfl rfl ?_
                  refine WL_skip rfl rfl rfl ?_
                  refine WL_skip rfl rfl rfl ?_
                  refine WL_rd (Rd_pickF rfl rfl) rfl rfl rfl ?_
                  refine WL_rd (Rd_move rfl) rfl rfl rfl ?_
                  refine WL_skip rfl rfl rfl ?_
                  refine WL_skip rfl rfl rfl ?_
                  refine WL_skip rfl rfl rfl ?_
                  refine WL_skip rfl rfl rfl ?_
                  refine WL_skip rfl rfl rfl ?_
                  refine WL_skip rfl rfl rfl ?_
                  refine WL_skip rfl rfl rfl ?_
                  refine WL_rd (Rd_pickF rfl rfl) rfl rfl rfl ?_
                  refine WL_rd (Rd_assign rfl) rfl rfl rfl ?_
                  refine WL_end hK49 ?_
                  refine WC_ret ?_
                  exact hret.goE () (Rs1 rfl rfl) (by first | (congr 1; done) | (congr 1; simp [mayM, bareM, *]; done) | (congr 1; simp [mayM, bareM, *]; omega) | (congr 1; rw [Bool.eq_iff_iff]; simp [mayM, bareM, *]; omega) | (congr 1; rw [Bool.eq_iff_iff]; simp [mayM, bareM] at * <;> omega))
              · try simp only [decide_eq_true_eq, decide_eq_false_iff_not, Bool.not_eq_true', Bool.not_eq_false', Bool.not_eq_true, Bool.not_eq_false, Int.not_lt, Int.not_le, Nat.not_lt, Nat.not_le, Decidable.not_not, ne_eq] at hg51
                refine WL_skip rfl rfl rfl ?_
                refine WL_skip rfl rfl rfl ?_
                refine WL_skip rfl rfl rfl ?_
                refine WL_skip rfl rfl rfl ?_
                refine WL_skip rfl rfl rfl ?_
                refine WL_rd (Rd_pickF rfl rfl) rfl rfl rfl ?_
                refine WL_rd (Rd_move rfl) rfl rfl rfl ?_
                refine WL_skip rfl rfl rfl ?_
                refine WL_skip rfl rfl rfl ?_
                refine WL_skip rfl rfl rfl ?_
                refine WL_skip rfl rfl rfl ?_
                refine WL_skip rfl rfl rfl ?_
                refine WL_rd (Rd_pickF rfl rfl) rfl rfl rfl ?_
                refine WL_rd (Rd_move rfl) rfl rfl rfl ?_
                refine WL_skip rfl rfl rfl ?_
                refine WL_skip rfl rfl rfl ?_
                refine WL_skip rfl rfl rfl ?_
                refine WL_skip rfl rfl rfl ?_
                refine WL_skip rfl rfl rfl ?_
                refine WL_skip rfl rfl rfl ?_
                refine WL_skip rfl rfl rfl ?_
                refine WL_rd (Rd_pickF rfl rfl) rfl rfl rfl ?_
                refine WL_rd (Rd_assign rfl) rfl rfl rfl ?_
                refine WL_end hK49 ?_
                refine WC_ret ?_
                exact hret.goE () (Rs1 rfl rfl) (by first | (congr 1; done) | (congr 1; simp [mayM, bareM, *]; done) | (congr 1; simp [mayM, bareM, *]; omega) | (congr 1; rw [Bool.eq_iff_iff]; simp [mayM, bareM, *]; omega) | (congr 1; rw [Bool.eq_iff_iff]; simp [mayM, bareM] at * <;> omega))
            · try simp only [decide_eq_true_eq, decide_eq_false_iff_not, Bool.not_eq_true', Bool.not_eq_false', Bool.not_eq_true, Bool.not_eq_false, Int.not_lt, Int.not_le, Nat.not_lt, Nat.not_le, Decidable.not_not, ne_eq] at hg50
              refine WL_skip rfl rfl rfl ?_
              refine WL_skip rfl rfl rfl ?_
              refine WL_skip rfl rfl rfl ?_
              refine WL_skip rfl rfl rfl ?_
              refine WL_skip rfl rfl rfl ?_
              refine WL_rd (Rd_pickF rfl rfl) rfl rfl rfl ?_
              refine WL_rd (Rd_move rfl) rfl rfl rfl ?_
              refine WL_skip rfl rfl rfl ?_
              refine WL_skip rfl rfl rfl ?_
              refine WL_skip rfl rfl rfl ?_
              refine WL_skip rfl rfl rfl ?_
              refine WL_skip rfl rfl rfl ?_
              refine WL_rd (Rd_pickF rfl rfl) rfl rfl rfl ?_
              refine WL_rd (Rd_move rfl) rfl rfl rfl ?_
              refine WL_skip rfl rfl rfl ?_
              refine WL_skip rfl rfl rfl ?_
              refine WL_skip rfl rfl rfl ?_
              refine WL_skip rfl rfl rfl ?_
              refine WL_skip rfl rfl rfl ?_
              refine WL_rd (Rd_pickF rfl rfl) rfl rfl rfl ?_
              refine WL_rd (Rd_move rfl) rfl rfl rfl ?_
              refine WL_skip rfl rfl rfl ?_
              refine WL_skip rfl rfl rfl ?_
              refine WL_skip rfl rfl rfl ?_
              refine WL_skip rfl rfl rfl ?_
              refine WL_skip rfl rfl rfl ?_
              refine WL_skip rfl rfl rfl ?_
              refine WL_skip rfl rfl rfl ?_
              refine WL_rd (Rd_pickF rfl rfl) rfl rfl rfl ?_
              refine WL_rd (Rd_assign rfl) rfl rfl rfl ?_
              refine WL_end hK49 ?_
              refine WC_ret ?_
              exact hret.goE () (Rs1 rfl rfl) (by first | (congr 1; done) | (congr 1; simp [mayM, bareM, *]; done) | (congr 1; simp [mayM, bareM, *]; omega) | (congr 1; rw [Bool.eq_iff_iff]; simp [mayM, bareM, *]; omega) | (congr 1; rw [Bool.eq_iff_iff]; simp [mayM, bareM] at * <;> omega))
          · try simp only [decide_eq_true_eq, decide_eq_false_iff_not, Bool.not_eq_true', Bool.not_eq_false', Bool.not_eq_true, Bool.not_eq_false, Int.not_lt, Int.not_le, Nat.not_lt, Nat.not_le, Decidable.not_not, ne_eq] at hc4
            refine WC_sr fun K54 hK54 => ?_
            refine WL_rd (Rd_assign rfl) rfl rfl rfl ?_
            refine WL_end hK54 ?_
            refine WC_ret ?_
            exact hret.goE () (Rs1 rfl rfl) (by first | (congr 1; done) | (congr 1; simp [mayM, bareM, *]; done) | (congr 1; simp [mayM, bareM, *]; omega) | (congr 1; rw [Bool.eq_iff_iff]; simp [mayM, bareM, *]; omega) | (congr 1; rw [Bool.eq_iff_iff]; simp [mayM, bareM] at * <;> omega))

theorem Mays_ct {k n f c wh un : Int} {x0 x1 x2 x3 x4 x5 x6 x7 x8 x9 x10 x11 x12 x13 x14 x15 : Int} {ao : Option Addr} {len cap : Nat}  : Ct Try.prog 3 [.agg [.int .u8 k, .int .u8 x0, .int .u8 x1, .int .u8 x2, .int .u8 x3, .int .u8 x4, .int .u8 x5, .int .u8 x6, .int .u8 x7, .int .u8 x8, .int .u8 x9, .int .u8 x10, .int .u8 x11, .int .u8 x12, .int .u8 x13, .int .u8 x14, .int .u8 x15, .int .i64 n, .int .i64 f, .int .i64 c, .int .u32 wh, .int .i64 un, .slice ao len cap].toArray] [] (fun _ : Unit => .bool true) (fun _ => []) := by
  refine Ct_body (n := 8) Try.func3 rfl rfl rfl fun F w0 Q hret hnorm hp => ?_
  change WC _ _ _ _ _ _ (F)
  refine WC_sr fun K1 hK1 => ?_
  refine WL_ac (Ac_box rfl rfl) rfl rfl rfl ?_
  rintro _ _ ⟨b1, rfl, rfl⟩
  refine WL_rd (Rd_assign rfl) rfl rfl rfl ?_
  refine WL_end hK1 ?_
  refine WC_seq fun K2 hK2 => ?_
  refine WC_draw mix [cl b1 30 [.int .u8 k, .int .u8 x0, .int .u8 x1, .int .u8 x2, .int .u8 x3, .int .u8 x4, .int .u8 x5, .int .u8 x6, .int .u8 x7, .int .u8 x8, .int .u8 x9, .int .u8 x10, .int .u8 x11, .int .u8 x12, .int .u8 x13, .int .u8 x14, .int .u8 x15, .int .i64 n, .int .i64 f, .int .i64 c, .int .u32 wh, .int .i64 un, .slice ao len cap]] (fun i => ([2, 1, 2, 1, 2, 2] : List Nat).getD i 0) ?_
  refine WJ_tk 0 (Rd_loadg rfl tk30) hp ?_ rfl (by kernel_rfl) rfl rfl rfl
  refine WJ_tk 2 (Rd_loadg rfl tk30) hp ?_ rfl (by kernel_rfl) rfl rfl rfl
  refine WJ_all (rs := [1]) (by kernel_rfl) rfl ?_
  refine WI_one ?_
  refine WI_ac rfl (Ac_call cf10 rfl (hs := mayS_ct)) rfl rfl rfl rfl ?_
  rintro _ _ ⟨⟨⟩, rfl, hA⟩
  simp only [List.cons_append, List.nil_append] at hA
  subst hA
  refine ⟨(fun _ => (by repeat (first | with_reducible exact Sub.refl | with_reducible exact Sub.nil | with_reducible refine Sub.cons (by repeat (first | with_reducible exact Ext.here | with_reducible apply Ext.there)) ?_ | with_reducible refine Sub.tail ?_))), ?_⟩
  refine WJ_all (rs := [3]) (by kernel_rfl) rfl ?_
  refine WI_one ?_
  refine WI_ac rfl (Ac_call cf11 rfl (hs := mayR_ct)) rfl rfl rfl rfl ?_
  rintro _ _ ⟨⟨⟩, rfl, hA⟩
  simp only [List.cons_append, List.nil_append] at hA
  subst hA
  refine ⟨(fun _ => (by repeat (first | with_reducible exact Sub.refl | with_reducible exact Sub.nil | with_reducible refine Sub.cons (by repeat (first | with_reducible exact Ext.here | with_reducible apply Ext.there)) ?_ | with_reducible refine Sub.tail ?_))), ?_⟩
  refine WJ_takeP 4 rfl (by kernel_rfl) (Rd_beq rfl rfl ud4) rfl rfl rfl (hp _ _) ?_
  refine WJ_takeP 5 rfl (by kernel_rfl) (Rd_assign rfl) rfl rfl rfl (hp _ _) ?_
  refine WJ_done (by kernel_rfl) ?_
  refine Ps_next hK2 ?_
  refine WC_ret ?_
  exact hret.goE () (Rs1 rfl rfl) (by simp)
end Go.Proofs.Ytcookmkklcbbnaa
