/-
  Contracts of functions that the claim reaches, or the logic and the plain laws that they rest on, or the row over them. (Conditions: none beyond the statement.)
-/
import Derived.Test.YtgkpbeikcpecbaaPxH
import Derived.Test.YtgkpbeikcpecbaaPfL
set_option linter.all false
namespace Go.Proofs.Ytgkpbeikcpecbaa
open Go.RowKit Go.SL Go.ShM
set_option maxHeartbeats 1000000
set_option maxRecDepth 20000
set_option linter.all false

def pv (p : Option Nat) : Value := .pointer (p.map fun b => ⟨b, 0, none⟩)
def eP (p : Option Nat) : List Value := [pv p]
theorem encP : Enc eP 1 := ⟨fun _ => rfl, fun x v hv => by simp [eP, pv] at hv; subst hv; rfl⟩
theorem two_of {c i : Nat} {p : Option Nat} (h : [none, some c][i]? = some p) : p = none ∨ p = some c := by
  have := List.mem_of_getElem? h
  simpa using this

theorem pnLeavesN {c : Nat}  : Ct Try.prog 86 [.pointer none] [cl c 161 [.int .i64 0, .int .i64 0, .map none]] (fun _ : Unit => .int .i64 0) (fun _ => [cl c 161 [.int .i64 0, .int .i64 0, .map none]]) := by
  refine Ct_body (n := 9) Try.func86 rfl rfl rfl fun F w0 Q hret hnorm hp => ?_
  change WC _ _ _ _ _ _ _ (_ :: F)
  refine WC_sr fun K1 hK1 => ?_
  refine WL_rd (Rd_assign rfl) rfl rfl rfl ?_
  refine WL_end hK1 ?_
  refine WC_seq fun K2 hK2 => ?_
  refine WC_sr fun K3 hK3 => ?_
  refine WL_rd (Rd_move rfl) rfl rfl rfl ?_
  refine WL_rd (Rd_peq rfl rfl ud121) rfl rfl rfl ?_
  refine WL_end hK3 ?_
  refine WC_condT rfl ?_
  refine WC_sr fun K4 hK4 => ?_
  refine WL_rd (Rd_assign rfl) rfl rfl rfl ?_
  refine WL_end hK4 ?_
  refine WC_ret ?_
  exact hret.go () (Rs1 rfl rfl)

theorem pnLeavesZ {c : Nat}  : Ct Try.prog 86 [.pointer (some ⟨c, 0, none⟩)] [cl c 161 [.int .i64 0, .int .i64 0, .map none]] (fun _ : Unit => .int .i64 0) (fun _ => [cl c 161 [.int .i64 0, .int .i64 0, .map none]]) := by
  refine Ct_body (n := 9) Try.func86 rfl rfl rfl fun F w0 Q hret hnorm hp => ?_
  change WC _ _ _ _ _ _ _ (_ :: F)
  refine WC_sr fun K1 hK1 => ?_
  refine WL_rd (Rd_assign rfl) rfl rfl rfl ?_
  refine WL_end hK1 ?_
  refine WC_seq fun K2 hK2 => ?_
  refine WC_sr fun K3 hK3 => ?_
  refine WL_rd (Rd_move rfl) rfl rfl rfl ?_
  refine WL_rd (Rd_peq rfl rfl ud121) rfl rfl rfl ?_
  refine WL_end hK3 ?_
  refine WC_condF rfl ?_
  refine WC_skip ?_
  refine Ps_next hK2 ?_
  refine WC_sr fun K4 hK4 => ?_
  refine WL_rd (Rd_move rfl) rfl rfl rfl ?_
  refine WL_rd (Rd_nilCheck rfl) rfl rfl rfl ?_
  refine WL_rd (Rd_fieldAddr rfl fo161_0) rfl rfl rfl ?_
  refine WL_rd (Rd_load rfl tk3) rfl rfl rfl ?_
  refine WL_rd (Rd_assign rfl) rfl rfl rfl ?_
  refine WL_end hK4 ?_
  refine WC_ret ?_
  exact hret.go () (Rs1 rfl rfl)

theorem pnLeavesP {c : Nat} {p : Option Nat}   (h : p = none ∨ p = some c) : Ct Try.prog 86 [pv p] [cl c 161 [.int .i64 0, .int .i64 0, .map none]] (fun _ : Unit => .int .i64 0) (fun _ => [cl c 161 [.int .i64 0, .int .i64 0, .map none]]) := by
  rcases h with rfl | rfl
  · exact pnLeavesN
  · exact pnLeavesZ

theorem pnWidthN {c : Nat}  : Ct Try.prog 75 [.pointer none] [cl c 161 [.int .i64 0, .int .i64 0, .map none]] (fun _ : Unit => .int .i64 0) (fun _ => [cl c 161 [.int .i64 0, .int .i64 0, .map none]]) := by
  refine Ct_body (n := 9) Try.func75 rfl rfl rfl fun F w0 Q hret hnorm hp => ?_
  change WC _ _ _ _ _ _ _ (_ :: F)
  refine WC_sr fun K1 hK1 => ?_
  refine WL_rd (Rd_assign rfl) rfl rfl rfl ?_
  refine WL_end hK1 ?_
  refine WC_seq fun K2 hK2 => ?_
  refine WC_sr fun K3 hK3 => ?_
  refine WL_rd (Rd_move rfl) rfl rfl rfl ?_
  refine WL_rd (Rd_peq rfl rfl ud121) rfl rfl rfl ?_
  refine WL_end hK3 ?_
  refine WC_condT rfl ?_
  refine WC_sr fun K4 hK4 => ?_
  refine WL_rd (Rd_assign rfl) rfl rfl rfl ?_
  refine WL_end hK4 ?_
  refine WC_ret ?_
  exact hret.go () (Rs1 rfl rfl)

theorem pnWidthZ {c : Nat}  : Ct Try.prog 75 [.pointer (some ⟨c, 0, none⟩)] [cl c 161 [.int .i64 0, .int .i64 0, .map none]] (fun _ : Unit => .int .i64 0) (fun _ => [cl c 161 [.int .i64 0, .int .i64 0, .map none]]) := by
  refine Ct_body (n := 9) Try.func75 rfl rfl rfl fun F w0 Q hret hnorm hp => ?_
  change WC _ _ _ _ _ _ _ (_ :: F)
  refine WC_sr fun K1 hK1 => ?_
  refine WL_rd (Rd_assign rfl) rfl rfl rfl ?_
  refine WL_end hK1 ?_
  refine WC_seq fun K2 hK2 => ?_
  refine WC_sr fun K3 hK3 => ?_
  refine WL_rd (Rd_move rfl) rfl rfl rfl ?_
  refine WL_rd (Rd_peq rfl rfl ud121) rfl rfl rfl ?_
  refine WL_end hK3 ?_
  refine WC_condF rfl ?_
  refine WC_skip ?_
  refine Ps_next hK2 ?_
  refine WC_sr fun K4 hK4 => ?_
  refine WL_rd (Rd_move rfl) rfl rfl rfl ?_
  refine WL_rd (Rd_nilCheck rfl) rfl rfl rfl ?_
  refine WL_rd (Rd_fieldAddr rfl fo161_1) rfl rfl rfl ?_
  refine WL_rd (Rd_load rfl tk3) rfl rfl rfl ?_
  refine WL_rd (Rd_assign rfl) rfl rfl rfl ?_
  refine WL_end hK4 ?_
  refine WC_ret ?_
  exact hret.go () (Rs1 rfl rfl)

theorem pnWidthP {c : Nat} {p : Option Nat}   (h : p = none ∨ p = some c) : Ct Try.prog 75 [pv p] [cl c 161 [.int .i64 0, .int .i64 0, .map none]] (fun _ : Unit => .int .i64 0) (fun _ => [cl c 161 [.int .i64 0, .int .i64 0, .map none]]) := by
  rcases h with rfl | rfl
  · exact pnWidthN
  · exact pnWidthZ

theorem pnKnownN {c : Nat} {x : Int}  : Ct Try.prog 76 [.pointer none, .int .i64 x] [cl c 161 [.int .i64 0, .int .i64 0, .map none]] (fun _ : Unit => .tuple #[aU .u8 zD.1, .bool false]) (fun _ => [cl c 161 [.int .i64 0, .int .i64 0, .map none]]) := by
  refine Ct_body (n := 22) Try.func76 rfl rfl rfl fun F w0 Q hret hnorm hp => ?_
  change WC _ _ _ _ _ _ _ (_ :: F)
  have hzD := Dg_len zD
  refine WC_sr fun K1 hK1 => ?_
  refine WL_ac (Ac_allocW (k := .u8) (w := 8) (m := 32) zr42) rfl rfl rfl ?_
  rintro _ _ ⟨b4, rfl, rfl⟩
  refine WL_rd (Rd_assign rfl) rfl rfl rfl ?_
  refine WL_end hK1 ?_
  refine WC_seq fun K2 hK2 => ?_
  refine WC_sr fun K3 hK3 => ?_
  refine WL_rd (Rd_move rfl) rfl rfl rfl ?_
  refine WL_rd (Rd_peq rfl rfl ud121) rfl rfl rfl ?_
  refine WL_end hK3 ?_
  refine WC_condT rfl ?_
  refine WC_sr fun K4 hK4 => ?_
  refine WL_rd (Rd_aU (k := .u8) (l := zD.1) (Rd_build pls42 rfl) (by rfl)) rfl rfl rfl ?_
  refine WL_ac0 (Ac_storeW rfl rfl sz42) rfl rfl ?_
  rintro _ _ rfl
  refine WL_rd (Rd_assign rfl) rfl rfl rfl ?_
  refine WL_end hK4 ?_
  refine WC_ret ?_
  exact hret.go () (Rs2cW rfl rfl rfl tk42)

theorem pnKnownZ {c : Nat} {x : Int}  : Ct Try.prog 76 [.pointer (some ⟨c, 0, none⟩), .int .i64 x] [cl c 161 [.int .i64 0, .int .i64 0, .map none]] (fun _ : Unit => .tuple #[aU .u8 zD.1, .bool false]) (fun _ => [cl c 161 [.int .i64 0, .int .i64 0, .map none]]) := by
  refine Ct_body (n := 22) Try.func76 rfl rfl rfl fun F w0 Q hret hnorm hp => ?_
  change WC _ _ _ _ _ _ _ (_ :: F)
  have hzD := Dg_len zD
  refine WC_sr fun K1 hK1 => ?_
  refine WL_ac (Ac_allocW (k := .u8) (w := 8) (m := 32) zr42) rfl rfl rfl ?_
  rintro _ _ ⟨b4, rfl, rfl⟩
  refine WL_rd (Rd_assign rfl) rfl rfl rfl ?_
  refine WL_end hK1 ?_
  refine WC_seq fun K2 hK2 => ?_
  refine WC_sr fun K3 hK3 => ?_
  refine WL_rd (Rd_move rfl) rfl rfl rfl ?_
  refine WL_rd (Rd_peq rfl rfl ud121) rfl rfl rfl ?_
  refine WL_end hK3 ?_
  refine WC_condF rfl ?_
  refine WC_skip ?_
  refine Ps_next hK2 ?_
  refine WC_sr fun K4 hK4 => ?_
  refine WL_rd (Rd_move rfl) rfl rfl rfl ?_
  refine WL_rd (Rd_nilCheck rfl) rfl rfl rfl ?_
  refine WL_rd (Rd_fieldAddr rfl fo161_2) rfl rfl rfl ?_
  refine WL_rd (Rd_load rfl tk159) rfl rfl rfl ?_
  refine WL_rd (Rd_move rfl) rfl rfl rfl ?_
  refine WL_rd (Rd_look0 (k := x) rfl rfl ud159 ud3 zvD42) rfl rfl rfl ?_
  refine WL_rd (Rd_move rfl) rfl rfl rfl ?_
  refine WL_rd (Rd_ext0 rfl) rfl rfl rfl ?_
  refine WL_rd (Rd_ext1 rfl) rfl rfl rfl ?_
  refine WL_ac (Ac_allocW (k := .u8) (w := 8) (m := 32) zr42) rfl rfl rfl ?_
  rintro _ _ ⟨b6, rfl, rfl⟩
  refine WL_ac0 (Ac_storeW rfl rfl sz42) rfl rfl ?_
  rintro _ _ rfl
  refine WL_rd (Rd_assign rfl) rfl rfl rfl ?_
  refine WL_end hK4 ?_
  refine WC_sr fun K5 hK5 => ?_
  refine WL_rd (Rd_loadW rfl tk42) rfl rfl rfl ?_
  refine WL_rd (Rd_move rfl) rfl rfl rfl ?_
  refine WL_ac0 (Ac_storeW rfl rfl sz42) rfl rfl ?_
  rintro _ _ rfl
  refine WL_rd (Rd_assign rfl) rfl rfl rfl ?_
  refine WL_end hK5 ?_
  refine WC_ret ?_
  exact hret.go () (Rs2cW rfl rfl rfl tk42)

theorem pnKnownP {c : Nat} {p : Option Nat} {x : Int}  (h : p = none ∨ p = some c) : Ct Try.prog 76 [pv p, .int .i64 x] [cl c 161 [.int .i64 0, .int .i64 0, .map none]] (fun _ : Unit => .tuple #[aU .u8 zD.1, .bool false]) (fun _ => [cl c 161 [.int .i64 0, .int .i64 0, .map none]]) := by
  rcases h with rfl | rfl
  · exact pnKnownN
  · exact pnKnownZ

theorem pnleafN {c : Nat} {x : Int}  : Ct Try.prog 148 [.pointer none, .int .i64 x] [cl c 161 [.int .i64 0, .int .i64 0, .map none]] (fun _ : Unit => .bool false) (fun _ => [cl c 161 [.int .i64 0, .int .i64 0, .map none]]) := by
  refine Ct_body (n := 13) Try.func148 rfl rfl rfl fun F w0 Q hret hnorm hp => ?_
  change WC _ _ _ _ _ _ _ (_ :: F)
  refine WC_sr fun K1 hK1 => ?_
  refine WL_rd (Rd_assign rfl) rfl rfl rfl ?_
  refine WL_end hK1 ?_
  refine WC_sr fun K2 hK2 => ?_
  refine WL_rd (Rd_move rfl) rfl rfl rfl ?_
  refine WL_rd (Rd_geq rfl rfl) rfl rfl rfl ?_
  refine WL_rd (Rd_move rfl) rfl rfl rfl ?_
  refine WL_bool 7 rfl (fun hg3 => ?_) (fun hg3 => ?_)
  · try simp only [decide_eq_true_eq, decide_eq_false_iff_not, Bool.not_eq_true', Bool.not_eq_false', Bool.not_eq_true, Bool.not_eq_false, Int.not_lt, Int.not_le, Nat.not_lt, Nat.not_le, Decidable.not_not, ne_eq] at hg3
    refine WL_rd (Rd_move rfl) rfl rfl rfl ?_
    refine WL_rd (Rd_move rfl) rfl rfl rfl ?_
    refine WL_ac (Ac_call cf86 rfl (hs := pnLeavesN)) rfl rfl rfl ?_
    rintro _ _ ⟨⟨⟩, rfl, hA⟩
    simp only [List.cons_append, List.nil_append] at hA
    replace hA := hA.symm
    subst hA
    refine WL_rd (Rd_lss rfl rfl) rfl rfl rfl ?_
    refine WL_rd (Rd_pickT rfl rfl) rfl rfl rfl ?_
    refine WL_rd (Rd_assign rfl) rfl rfl rfl ?_
    refine WL_end hK2 ?_
    refine WC_ret ?_
    first | exact hret.go () (Rs1 rfl rfl) | exact hret.goE () (Rs1 rfl rfl) (by rw [decide_eq_false (by omega)])
  · try simp only [decide_eq_true_eq, decide_eq_false_iff_not, Bool.not_eq_true', Bool.not_eq_false', Bool.not_eq_true, Bool.not_eq_false, Int.not_lt, Int.not_le, Nat.not_lt, Nat.not_le, Decidable.not_not, ne_eq] at hg3
    refine WL_skip rfl rfl rfl ?_
    refine WL_skip rfl rfl rfl ?_
    refine WL_skip rfl rfl rfl ?_
    refine WL_skip rfl rfl rfl ?_
    refine WL_rd (Rd_pickF rfl rfl) rfl rfl rfl ?_
    refine WL_rd (Rd_assign rfl) rfl rfl rfl ?_
    refine WL_end hK2 ?_
    refine WC_ret ?_
    first | exact hret.go () (Rs1 rfl rfl) | exact hret.goE () (Rs1 rfl rfl) (by rw [decide_eq_false (by omega)])

theorem pnleafZ {c : Nat} {x : Int}  : Ct Try.prog 148 [.pointer (some ⟨c, 0, none⟩), .int .i64 x] [cl c 161 [.int .i64 0, .int .i64 0, .map none]] (fun _ : Unit => .bool false) (fun _ => [cl c 161 [.int .i64 0, .int .i64 0, .map none]]) := by
  refine Ct_body (n := 13) Try.func148 rfl rfl rfl fun F w0 Q hret hnorm hp => ?_
  change WC _ _ _ _ _ _ _ (_ :: F)
  refine WC_sr fun K1 hK1 => ?_
  refine WL_rd (Rd_assign rfl) rfl rfl rfl ?_
  refine WL_end hK1 ?_
  refine WC_sr fun K2 hK2 => ?_
  refine WL_rd (Rd_move rfl) rfl rfl rfl ?_
  refine WL_rd (Rd_geq rfl rfl) rfl rfl rfl ?_
  refine WL_rd (Rd_move rfl) rfl rfl rfl ?_
  refine WL_bool 7 rfl (fun hg3 => ?_) (fun hg3 => ?_)
  · try simp only [decide_eq_true_eq, decide_eq_false_iff_not, Bool.not_eq_true', Bool.not_eq_false', Bool.not_eq_true, Bool.not_eq_false, Int.not_lt, Int.not_le, Nat.not_lt, Nat.not_le, Decidable.not_not, ne_eq] at hg3
    refine WL_rd (Rd_move rfl) rfl rfl rfl ?_
    refine WL_rd (Rd_move rfl) rfl rfl rfl ?_
    refine WL_ac (Ac_call cf86 rfl (hs := pnLeavesZ)) rfl rfl rfl ?_
    rintro _ _ ⟨⟨⟩, rfl, hA⟩
    simp only [List.cons_append, List.nil_append] at hA
    replace hA := hA.symm
    subst hA
    refine WL_rd (Rd_lss rfl rfl) rfl rfl rfl ?_
    refine WL_rd (Rd_pickT rfl rfl) rfl rfl rfl ?_
    refine WL_rd (Rd_assign rfl) rfl rfl rfl ?_
    refine WL_end hK2 ?_
    refine WC_ret ?_
    first | exact hret.go () (Rs1 rfl rfl) | exact hret.goE () (Rs1 rfl rfl) (by rw [decide_eq_false (by omega)])
  · try simp only [decide_eq_true_eq, decide_eq_false_iff_not, Bool.not_eq_true', Bool.not_eq_false', Bool.not_eq_true, Bool.not_eq_false, Int.not_lt, Int.not_le, Nat.not_lt, Nat.not_le, Decidable.not_not, ne_eq] at hg3
    refine WL_skip rfl rfl rfl ?_
    refine WL_skip rfl rfl rfl ?_
    refine WL_skip rfl rfl rfl ?_
    refine WL_skip rfl rfl rfl ?_
    refine WL_rd (Rd_pickF rfl rfl) rfl rfl rfl ?_
    refine WL_rd (Rd_assign rfl) rfl rfl rfl ?_
    refine WL_end hK2 ?_
    refine WC_ret ?_
    first | exact hret.go () (Rs1 rfl rfl) | exact hret.goE () (Rs1 rfl rfl) (by rw [decide_eq_false (by omega)])

theorem pnLeafN {c : Nat} {x : Int}  : Ct Try.prog 84 [.pointer none, .int .i64 x] [cl c 161 [.int .i64 0, .int .i64 0, .map none]] (fun _ : Unit => .tuple #[aU .u8 zD.1, .bool false]) (fun _ => [cl c 161 [.int .i64 0, .int .i64 0, .map none]]) := by
  refine Ct_body (n := 21) Try.func84 rfl rfl rfl fun F w0 Q hret hnorm hp => ?_
  change WC _ _ _ _ _ _ _ (_ :: F)
  have hzD := Dg_len zD
  refine WC_sr fun K1 hK1 => ?_
  refine WL_ac (Ac_allocW (k := .u8) (w := 8) (m := 32) zr42) rfl rfl rfl ?_
  rintro _ _ ⟨b4, rfl, rfl⟩
  refine WL_rd (Rd_assign rfl) rfl rfl rfl ?_
  refine WL_end hK1 ?_
  refine WC_seq fun K2 hK2 => ?_
  refine WC_sr fun K3 hK3 => ?_
  refine WL_rd (Rd_move rfl) rfl rfl rfl ?_
  refine WL_rd (Rd_move rfl) rfl rfl rfl ?_
  refine WL_ac (Ac_call cf148 rfl (hs := pnleafN (x := x))) rfl rfl rfl ?_
  rintro _ _ ⟨⟨⟩, rfl, hA⟩
  simp only [List.cons_append, List.nil_append] at hA
  replace hA := hA.symm
  subst hA
  refine WL_rd (Rd_not rfl) rfl rfl rfl ?_
  refine WL_end hK3 ?_
  refine WC_condT rfl ?_
  refine WC_sr fun K4 hK4 => ?_
  refine WL_rd (Rd_aU (k := .u8) (l := zD.1) (Rd_build pls42 rfl) (by rfl)) rfl rfl rfl ?_
  refine WL_ac0 (Ac_storeW rfl rfl sz42) rfl rfl ?_
  rintro _ _ rfl
  refine WL_rd (Rd_assign rfl) rfl rfl rfl ?_
  refine WL_end hK4 ?_
  refine WC_ret ?_
  exact hret.go () (Rs2cW rfl rfl rfl tk42)

theorem pnLeafZ {c : Nat} {x : Int}  : Ct Try.prog 84 [.pointer (some ⟨c, 0, none⟩), .int .i64 x] [cl c 161 [.int .i64 0, .int .i64 0, .map none]] (fun _ : Unit => .tuple #[aU .u8 zD.1, .bool false]) (fun _ => [cl c 161 [.int .i64 0, .int .i64 0, .map none]]) := by
  refine Ct_body (n := 21) Try.func84 rfl rfl rfl fun F w0 Q hret hnorm hp => ?_
  change WC _ _ _ _ _ _ _ (_ :: F)
  have hzD := Dg_len zD
  refine WC_sr fun K1 hK1 => ?_
  refine WL_ac (Ac_allocW (k := .u8) (w := 8) (m := 32) zr42) rfl rfl rfl ?_
  rintro _ _ ⟨b4, rfl, rfl⟩
  refine WL_rd (Rd_assign rfl) rfl rfl rfl ?_
  refine WL_end hK1 ?_
  refine WC_seq fun K2 hK2 => ?_
  refine WC_sr fun K3 hK3 => ?_
  refine WL_rd (Rd_move rfl) rfl rfl rfl ?_
  refine WL_rd (Rd_move rfl) rfl rfl rfl ?_
  refine WL_ac (Ac_call cf148 rfl (hs := pnleafZ (x := x))) rfl rfl rfl ?_
  rintro _ _ ⟨⟨⟩, rfl, hA⟩
  simp only [List.cons_append, List.nil_append] at hA
  replace hA := hA.symm
  subst hA
  refine WL_rd (Rd_not rfl) rfl rfl rfl ?_
  refine WL_end hK3 ?_
  refine WC_condT rfl ?_
  refine WC_sr fun K4 hK4 => ?_
  refine WL_rd (Rd_aU (k := .u8) (l := zD.1) (Rd_build pls42 rfl) (by rfl)) rfl rfl rfl ?_
  refine WL_ac0 (Ac_storeW rfl rfl sz42) rfl rfl ?_
  rintro _ _ rfl
  refine WL_rd (Rd_assign rfl) rfl rfl rfl ?_
  refine WL_end hK4 ?_
  refine WC_ret ?_
  exact hret.go () (Rs2cW rfl rfl rfl tk42)

theorem pnLeafP {c : Nat} {p : Option Nat} {x : Int}  (h : p = none ∨ p = some c) : Ct Try.prog 84 [pv p, .int .i64 x] [cl c 161 [.int .i64 0, .int .i64 0, .map none]] (fun _ : Unit => .tuple #[aU .u8 zD.1, .bool false]) (fun _ => [cl c 161 [.int .i64 0, .int .i64 0, .map none]]) := by
  rcases h with rfl | rfl
  · exact pnLeafN
  · exact pnLeafZ

theorem pnaskedN {c : Nat} {x : Int}  : Ct Try.prog 147 [.pointer none, .int .i64 x] [cl c 161 [.int .i64 0, .int .i64 0, .map none]] (fun _ : Unit => .int .i64 1) (fun _ => [cl c 161 [.int .i64 0, .int .i64 0, .map none]]) := by
  refine Ct_body (n := 14) Try.func147 rfl rfl rfl fun F w0 Q hret hnorm hp => ?_
  change WC _ _ _ _ _ _ _ (_ :: F)
  refine WC_sr fun K1 hK1 => ?_
  refine WL_rd (Rd_assign rfl) rfl rfl rfl ?_
  refine WL_end hK1 ?_
  refine WC_seq fun K2 hK2 => ?_
  refine WC_block ?_
  refine WC_sr fun K3 hK3 => ?_
  refine WL_rd (Rd_move rfl) rfl rfl rfl ?_
  refine WL_ac (Ac_call cf86 rfl (hs := pnLeavesN)) rfl rfl rfl ?_
  rintro _ _ ⟨⟨⟩, rfl, hA⟩
  simp only [List.cons_append, List.nil_append] at hA
  replace hA := hA.symm
  subst hA
  refine WL_rd (Rd_eqlN (i := 0) (j := 0) rfl rfl) rfl rfl rfl ?_
  refine WL_rd (Rd_assign rfl) rfl rfl rfl ?_
  refine WL_end hK3 ?_
  refine WC_condT rfl ?_
  refine WC_sr fun K4 hK4 => ?_
  refine WL_rd (Rd_assign rfl) rfl rfl rfl ?_
  refine WL_end hK4 ?_
  refine WC_ret ?_
  exact hret.go () (Rs1 rfl rfl)

theorem pnaskedZ {c : Nat} {x : Int}  : Ct Try.prog 147 [.pointer (some ⟨c, 0, none⟩), .int .i64 x] [cl c 161 [.int .i64 0, .int .i64 0, .map none]] (fun _ : Unit => .int .i64 1) (fun _ => [cl c 161 [.int .i64 0, .int .i64 0, .map none]]) := by
  refine Ct_body (n := 14) Try.func147 rfl rfl rfl fun F w0 Q hret hnorm hp => ?_
  change WC _ _ _ _ _ _ _ (_ :: F)
  refine WC_sr fun K1 hK1 => ?_
  refine WL_rd (Rd_assign rfl) rfl rfl rfl ?_
  refine WL_end hK1 ?_
  refine WC_seq fun K2 hK2 => ?_
  refine WC_block ?_
  refine WC_sr fun K3 hK3 => ?_
  refine WL_rd (Rd_move rfl) rfl rfl rfl ?_
  refine WL_ac (Ac_call cf86 rfl (hs := pnLeavesZ)) rfl rfl rfl ?_
  rintro _ _ ⟨⟨⟩, rfl, hA⟩
  simp only [List.cons_append, List.nil_append] at hA
  replace hA := hA.symm
  subst hA
  refine WL_rd (Rd_eqlN (i := 0) (j := 0) rfl rfl) rfl rfl rfl ?_
  refine WL_rd (Rd_assign rfl) rfl rfl rfl ?_
  refine WL_end hK3 ?_
  refine WC_condT rfl ?_
  refine WC_sr fun K4 hK4 => ?_
  refine WL_rd (Rd_assign rfl) rfl rfl rfl ?_
  refine WL_end hK4 ?_
  refine WC_ret ?_
  exact hret.go () (Rs1 rfl rfl)

theorem pnNeedsN {c : Nat} {x : Int}  : Ct Try.prog 83 [.pointer none, .int .i64 x] [cl c 161 [.int .i64 0, .int .i64 0, .map none]] (fun _ : Unit => .tuple #[sl none 0 0, .int .i64 1]) (fun _ => [cl c 161 [.int .i64 0, .int .i64 0, .map none]]) := by
  refine Ct_body (n := 54) Try.func83 rfl rfl rfl fun F w0 Q hret hnorm hp => ?_
  change WC _ _ _ _ _ _ _ (_ :: F)
  refine WC_sr fun K1 hK1 => ?_
  refine WL_ac (Ac_box rfl rfl) rfl rfl rfl ?_
  rintro _ _ ⟨b2, rfl, rfl⟩
  refine WL_rd (Rd_assign (v := sl none 0 0) rfl) rfl rfl rfl ?_
  refine WL_rd (Rd_assign rfl) rfl rfl rfl ?_
  refine WL_end hK1 ?_
  refine WC_seq fun K2 hK2 => ?_
  refine WC_sr fun K3 hK3 => ?_
  refine WL_rd (Rd_load rfl tk121) rfl rfl rfl ?_
  refine WL_rd (Rd_move rfl) rfl rfl rfl ?_
  refine WL_ac (Ac_call cf147 rfl (hs := pnaskedN (x := x))) rfl rfl rfl ?_
  rintro _ _ ⟨⟨⟩, rfl, hA⟩
  simp only [List.cons_append, List.nil_append] at hA
  replace hA := hA.symm
  subst hA
  refine WL_rd (Rd_assign rfl) rfl rfl rfl ?_
  refine WL_end hK3 ?_
  refine WC_sr fun K4 hK4 => ?_
  refine WL_rd (Rd_move rfl) rfl rfl rfl ?_
  refine WL_rd (Rd_neqN (i := 1) (j := 0) rfl rfl) rfl rfl rfl ?_
  refine WL_end hK4 ?_
  refine WC_condT rfl ?_
  refine WC_sr fun K5 hK5 => ?_
  refine WL_rd (Rd_move rfl) rfl rfl rfl ?_
  refine WL_rd (Rd_assign (v := sl none 0 0) rfl) rfl rfl rfl ?_
  refine WL_rd (Rd_assign rfl) rfl rfl rfl ?_
  refine WL_end hK5 ?_
  refine WC_ret ?_
  exact hret.go () (Rs2 rfl rfl rfl)

theorem pnNeedsZ {c : Nat} {x : Int}  : Ct Try.prog 83 [.pointer (some ⟨c, 0, none⟩), .int .i64 x] [cl c 161 [.int .i64 0, .int .i64 0, .map none]] (fun _ : Unit => .tuple #[sl none 0 0, .int .i64 1]) (fun _ => [cl c 161 [.int .i64 0, .int .i64 0, .map none]]) := by
  refine Ct_body (n := 54) Try.func83 rfl rfl rfl fun F w0 Q hret hnorm hp => ?_
  change WC _ _ _ _ _ _ _ (_ :: F)
  refine WC_sr fun K1 hK1 => ?_
  refine WL_ac (Ac_box rfl rfl) rfl rfl rfl ?_
  rintro _ _ ⟨b2, rfl, rfl⟩
  refine WL_rd (Rd_assign (v := sl none 0 0) rfl) rfl rfl rfl ?_
  refine WL_rd (Rd_assign rfl) rfl rfl rfl ?_
  refine WL_end hK1 ?_
  refine WC_seq fun K2 hK2 => ?_
  refine WC_sr fun K3 hK3 => ?_
  refine WL_rd (Rd_load rfl tk121) rfl rfl rfl ?_
  refine WL_rd (Rd_move rfl) rfl rfl rfl ?_
  refine WL_ac (Ac_call cf147 rfl (hs := pnaskedZ (x := x))) rfl rfl rfl ?_
  rintro _ _ ⟨⟨⟩, rfl, hA⟩
  simp only [List.cons_append, List.nil_append] at hA
  replace hA := hA.symm
  subst hA
  refine WL_rd (Rd_assign rfl) rfl rfl rfl ?_
  refine WL_end hK3 ?_
  refine WC_sr fun K4 hK4 => ?_
  refine WL_rd (Rd_move rfl) rfl rfl rfl ?_
  refine WL_rd (Rd_neqN (i := 1) (j := 0) rfl rfl) rfl rfl rfl ?_
  refine WL_end hK4 ?_
  refine WC_condT rfl ?_
  refine WC_sr fun K5 hK5 => ?_
  refine WL_rd (Rd_move rfl) rfl rfl rfl ?_
  refine WL_rd (Rd_assign (v := sl none 0 0) rfl) rfl rfl rfl ?_
  refine WL_rd (Rd_assign rfl) rfl rfl rfl ?_
  refine WL_end hK5 ?_
  refine WC_ret ?_
  exact hret.go () (Rs2 rfl rfl rfl)

theorem pnNeedsP {c : Nat} {p : Option Nat} {x : Int}  (h : p = none ∨ p = some c) : Ct Try.prog 83 [pv p, .int .i64 x] [cl c 161 [.int .i64 0, .int .i64 0, .map none]] (fun _ : Unit => .tuple #[sl none 0 0, .int .i64 1]) (fun _ => [cl c 161 [.int .i64 0, .int .i64 0, .map none]]) := by
  rcases h with rfl | rfl
  · exact pnNeedsN
  · exact pnNeedsZ

theorem pnChainN {c : Nat} {x : Int}  : Ct Try.prog 88 [.pointer none, .int .i64 x] [cl c 161 [.int .i64 0, .int .i64 0, .map none]] (fun _ : Unit => .tuple #[sl none 0 0, .int .i64 1]) (fun _ => [cl c 161 [.int .i64 0, .int .i64 0, .map none]]) := by
  refine Ct_body (n := 56) Try.func88 rfl rfl rfl fun F w0 Q hret hnorm hp => ?_
  change WC _ _ _ _ _ _ _ (_ :: F)
  refine WC_sr fun K1 hK1 => ?_
  refine WL_ac (Ac_box rfl rfl) rfl rfl rfl ?_
  rintro _ _ ⟨b2, rfl, rfl⟩
  refine WL_rd (Rd_assign (v := sl none 0 0) rfl) rfl rfl rfl ?_
  refine WL_rd (Rd_assign rfl) rfl rfl rfl ?_
  refine WL_end hK1 ?_
  refine WC_seq fun K2 hK2 => ?_
  refine WC_sr fun K3 hK3 => ?_
  refine WL_rd (Rd_load rfl tk121) rfl rfl rfl ?_
  refine WL_rd (Rd_move rfl) rfl rfl rfl ?_
  refine WL_ac (Ac_call cf147 rfl (hs := pnaskedN (x := x))) rfl rfl rfl ?_
  rintro _ _ ⟨⟨⟩, rfl, hA⟩
  simp only [List.cons_append, List.nil_append] at hA
  replace hA := hA.symm
  subst hA
  refine WL_rd (Rd_assign rfl) rfl rfl rfl ?_
  refine WL_end hK3 ?_
  refine WC_sr fun K4 hK4 => ?_
  refine WL_rd (Rd_move rfl) rfl rfl rfl ?_
  refine WL_rd (Rd_neqN (i := 1) (j := 0) rfl rfl) rfl rfl rfl ?_
  refine WL_end hK4 ?_
  refine WC_condT rfl ?_
  refine WC_sr fun K5 hK5 => ?_
  refine WL_rd (Rd_move rfl) rfl rfl rfl ?_
  refine WL_rd (Rd_assign (v := sl none 0 0) rfl) rfl rfl rfl ?_
  refine WL_rd (Rd_assign rfl) rfl rfl rfl ?_
  refine WL_end hK5 ?_
  refine WC_ret ?_
  exact hret.go () (Rs2 rfl rfl rfl)

theorem pnChainZ {c : Nat} {x : Int}  : Ct Try.prog 88 [.pointer (some ⟨c, 0, none⟩), .int .i64 x] [cl c 161 [.int .i64 0, .int .i64 0, .map none]] (fun _ : Unit => .tuple #[sl none 0 0, .int .i64 1]) (fun _ => [cl c 161 [.int .i64 0, .int .i64 0, .map none]]) := by
  refine Ct_body (n := 56) Try.func88 rfl rfl rfl fun F w0 Q hret hnorm hp => ?_
  change WC _ _ _ _ _ _ _ (_ :: F)
  refine WC_sr fun K1 hK1 => ?_
  refine WL_ac (Ac_box rfl rfl) rfl rfl rfl ?_
  rintro _ _ ⟨b2, rfl, rfl⟩
  refine WL_rd (Rd_assign (v := sl none 0 0) rfl) rfl rfl rfl ?_
  refine WL_rd (Rd_assign rfl) rfl rfl rfl ?_
  refine WL_end hK1 ?_
  refine WC_seq fun K2 hK2 => ?_
  refine WC_sr fun K3 hK3 => ?_
  refine WL_rd (Rd_load rfl tk121) rfl rfl rfl ?_
  refine WL_rd (Rd_move rfl) rfl rfl rfl ?_
  refine WL_ac (Ac_call cf147 rfl (hs := pnaskedZ (x := x))) rfl rfl rfl ?_
  rintro _ _ ⟨⟨⟩, rfl, hA⟩
  simp only [List.cons_append, List.nil_append] at hA
  replace hA := hA.symm
  subst hA
  refine WL_rd (Rd_assign rfl) rfl rfl rfl ?_
  refine WL_end hK3 ?_
  refine WC_sr fun K4 hK4 => ?_
  refine WL_rd (Rd_move rfl) rfl rfl rfl ?_
  refine WL_rd (Rd_neqN (i := 1) (j := 0) rfl rfl) rfl rfl rfl ?_
  refine WL_end hK4 ?_
  refine WC_condT rfl ?_
  refine WC_sr fun K5 hK5 => ?_
  refine WL_rd (Rd_move rfl) rfl rfl rfl ?_
  refine WL_rd (Rd_assign (v := sl none 0 0) rfl) rfl rfl rfl ?_
  refine WL_rd (Rd_assign rfl) rfl rfl rfl ?_
  refine WL_end hK5 ?_
  refine WC_ret ?_
  exact hret.go () (Rs2 rfl rfl rfl)

theorem pnChainP {c : Nat} {p : Option Nat} {x : Int}  (h : p = none ∨ p = some c) : Ct Try.prog 88 [pv p, .int .i64 x] [cl c 161 [.int .i64 0, .int .i64 0, .map none]] (fun _ : Unit => .tuple #[sl none 0 0, .int .i64 1]) (fun _ => [cl c 161 [.int .i64 0, .int .i64 0, .map none]]) := by
  rcases h with rfl | rfl
  · exact pnChainN
  · exact pnChainZ

theorem pnWholeN {c : Nat}  : Ct Try.prog 87 [.pointer none] [cl c 161 [.int .i64 0, .int .i64 0, .map none]] (fun _ : Unit => .bool false) (fun _ => [cl c 161 [.int .i64 0, .int .i64 0, .map none]]) := by
  refine Ct_body (n := 20) Try.func87 rfl rfl rfl fun F w0 Q hret hnorm hp => ?_
  change WC _ _ _ _ _ _ _ (_ :: F)
  refine WC_sr fun K1 hK1 => ?_
  refine WL_rd (Rd_assign rfl) rfl rfl rfl ?_
  refine WL_end hK1 ?_
  refine WC_seq fun K2 hK2 => ?_
  refine WC_drawA mix (fun i => ([2, 1, 2, 2, 2, 2, 2, 2, 2, 2, 2, 2, 2, 2, 2, 2, 2, 2] : List Nat).getD i 0) ?_
  refine WJ_takeP 0 rfl (by kernel_rfl) (Rd_move rfl) rfl rfl rfl (hp _ _) ?_
  refine WJ_all (rs := [1]) (by kernel_rfl) rfl ?_
  refine WI_one ?_
  refine WI_ac rfl (Ac_call cf86 rfl (hs := pnLeavesN)) rfl rfl rfl rfl ?_
  rintro _ _ ⟨⟨⟩, rfl, hA⟩
  simp only [List.cons_append, List.nil_append] at hA
  replace hA := hA.symm
  subst hA
  refine ⟨(fun _ => (by repeat (first | with_reducible exact Sub.refl | with_reducible exact Sub.nil | with_reducible refine Sub.cons (by repeat (first | with_reducible exact Ext.here | with_reducible apply Ext.there)) ?_ | with_reducible refine Sub.tail ?_))), ?_⟩
  refine WJ_takeP 2 rfl (by kernel_rfl) (Rd_gtrN (i := 0) (j := 0) rfl rfl) rfl rfl rfl (hp _ _) ?_
  refine WJ_takeP 3 rfl (by kernel_rfl) (Rd_move rfl) rfl rfl rfl (hp _ _) ?_
  refine WJ_skip 4 rfl (by kernel_rfl) rfl rfl rfl (hp _ _) ?_
  refine WJ_skip 5 rfl (by kernel_rfl) rfl rfl rfl (hp _ _) ?_
  refine WJ_skip 6 rfl (by kernel_rfl) rfl rfl rfl (hp _ _) ?_
  refine WJ_skip 7 rfl (by kernel_rfl) rfl rfl rfl (hp _ _) ?_
  refine WJ_skip 8 rfl (by kernel_rfl) rfl rfl rfl (hp _ _) ?_
  refine WJ_skip 9 rfl (by kernel_rfl) rfl rfl rfl (hp _ _) ?_
  refine WJ_skip 10 rfl (by kernel_rfl) rfl rfl rfl (hp _ _) ?_
  refine WJ_skip 11 rfl (by kernel_rfl) rfl rfl rfl (hp _ _) ?_
  refine WJ_skip 12 rfl (by kernel_rfl) rfl rfl rfl (hp _ _) ?_
  refine WJ_skip 13 rfl (by kernel_rfl) rfl rfl rfl (hp _ _) ?_
  refine WJ_skip 14 rfl (by kernel_rfl) rfl rfl rfl (hp _ _) ?_
  refine WJ_skip 15 rfl (by kernel_rfl) rfl rfl rfl (hp _ _) ?_
  refine WJ_takeP 16 rfl (by kernel_rfl) (Rd_pickF rfl rfl) rfl rfl rfl (hp _ _) ?_
  refine WJ_takeP 17 rfl (by kernel_rfl) (Rd_assign rfl) rfl rfl rfl (hp _ _) ?_
  refine WJ_done (by kernel_rfl) ?_
  refine Ps_next hK2 ?_
  refine WC_ret ?_
  exact hret.go () (Rs1 rfl rfl)

theorem pnWholeZ {c : Nat}  : Ct Try.prog 87 [.pointer (some ⟨c, 0, none⟩)] [cl c 161 [.int .i64 0, .int .i64 0, .map none]] (fun _ : Unit => .bool false) (fun _ => [cl c 161 [.int .i64 0, .int .i64 0, .map none]]) := by
  refine Ct_body (n := 20) Try.func87 rfl rfl rfl fun F w0 Q hret hnorm hp => ?_
  change WC _ _ _ _ _ _ _ (_ :: F)
  refine WC_sr fun K1 hK1 => ?_
  refine WL_rd (Rd_assign rfl) rfl rfl rfl ?_
  refine WL_end hK1 ?_
  refine WC_seq fun K2 hK2 => ?_
  refine WC_drawA mix (fun i => ([2, 1, 2, 2, 2, 2, 2, 2, 2, 2, 2, 2, 2, 2, 2, 2, 2, 2] : List Nat).getD i 0) ?_
  refine WJ_takeP 0 rfl (by kernel_rfl) (Rd_move rfl) rfl rfl rfl (hp _ _) ?_
  refine WJ_all (rs := [1]) (by kernel_rfl) rfl ?_
  refine WI_one ?_
  refine WI_ac rfl (Ac_call cf86 rfl (hs := pnLeavesZ)) rfl rfl rfl rfl ?_
  rintro _ _ ⟨⟨⟩, rfl, hA⟩
  simp only [List.cons_append, List.nil_append] at hA
  replace hA := hA.symm
  subst hA
  refine ⟨(fun _ => (by repeat (first | with_reducible exact Sub.refl | with_reducible exact Sub.nil | with_reducible refine Sub.cons (by repeat (first | with_reducible exact Ext.here | with_reducible apply Ext.there)) ?_ | with_reducible refine Sub.tail ?_))), ?_⟩
  refine WJ_takeP 2 rfl (by kernel_rfl) (Rd_gtrN (i := 0) (j := 0) rfl rfl) rfl rfl rfl (hp _ _) ?_
  refine WJ_takeP 3 rfl (by kernel_rfl) (Rd_move rfl) rfl rfl rfl (hp _ _) ?_
  refine WJ_skip 4 rfl (by kernel_rfl) rfl rfl rfl (hp _ _) ?_
  refine WJ_skip 5 rfl (by kernel_rfl) rfl rfl rfl (hp _ _) ?_
  refine WJ_skip 6 rfl (by kernel_rfl) rfl rfl rfl (hp _ _) ?_
  refine WJ_skip 7 rfl (by kernel_rfl) rfl rfl rfl (hp _ _) ?_
  refine WJ_skip 8 rfl (by kernel_rfl) rfl rfl rfl (hp _ _) ?_
  refine WJ_skip 9 rfl (by kernel_rfl) rfl rfl rfl (hp _ _) ?_
  refine WJ_skip 10 rfl (by kernel_rfl) rfl rfl rfl (hp _ _) ?_
  refine WJ_skip 11 rfl (by kernel_rfl) rfl rfl rfl (hp _ _) ?_
  refine WJ_skip 12 rfl (by kernel_rfl) rfl rfl rfl (hp _ _) ?_
  refine WJ_skip 13 rfl (by kernel_rfl) rfl rfl rfl (hp _ _) ?_
  refine WJ_skip 14 rfl (by kernel_rfl) rfl rfl rfl (hp _ _) ?_
  refine WJ_skip 15 rfl (by kernel_rfl) rfl rfl rfl (hp _ _) ?_
  refine WJ_takeP 16 rfl (by kernel_rfl) (Rd_pickF rfl rfl) rfl rfl rfl (hp _ _) ?_
  refine WJ_takeP 17 rfl (by kernel_rfl) (Rd_assign rfl) rfl rfl rfl (hp _ _) ?_
  refine WJ_done (by kernel_rfl) ?_
  refine Ps_next hK2 ?_
  refine WC_ret ?_
  exact hret.go () (Rs1 rfl rfl)

theorem pnWholeP {c : Nat} {p : Option Nat}   (h : p = none ∨ p = some c) : Ct Try.prog 87 [pv p] [cl c 161 [.int .i64 0, .int .i64 0, .map none]] (fun _ : Unit => .bool false) (fun _ => [cl c 161 [.int .i64 0, .int .i64 0, .map none]]) := by
  rcases h with rfl | rfl
  · exact pnWholeN
  · exact pnWholeZ

theorem pnCloneN {c : Nat}  : Ct Try.prog 80 [.pointer none] [cl c 161 [.int .i64 0, .int .i64 0, .map none]] (fun _ : Unit => .pointer none) (fun _ => [cl c 161 [.int .i64 0, .int .i64 0, .map none]]) := by
  refine Ct_body (n := 21) Try.func80 rfl rfl rfl fun F w0 Q hret hnorm hp => ?_
  change WC _ _ _ _ _ _ _ (_ :: F)
  refine WC_sr fun K1 hK1 => ?_
  refine WL_rd (Rd_assign rfl) rfl rfl rfl ?_
  refine WL_end hK1 ?_
  refine WC_seq fun K2 hK2 => ?_
  refine WC_sr fun K3 hK3 => ?_
  refine WL_rd (Rd_move rfl) rfl rfl rfl ?_
  refine WL_ac (Ac_call cf86 rfl (hs := pnLeavesN)) rfl rfl rfl ?_
  rintro _ _ ⟨⟨⟩, rfl, hA⟩
  simp only [List.cons_append, List.nil_append] at hA
  replace hA := hA.symm
  subst hA
  refine WL_rd (Rd_eqlN (i := 0) (j := 0) rfl rfl) rfl rfl rfl ?_
  refine WL_end hK3 ?_
  refine WC_condT rfl ?_
  refine WC_sr fun K4 hK4 => ?_
  refine WL_rd (Rd_assign rfl) rfl rfl rfl ?_
  refine WL_end hK4 ?_
  refine WC_ret ?_
  exact hret.go () (Rs1 rfl rfl)

theorem pnCloneZ {c : Nat}  : Ct Try.prog 80 [.pointer (some ⟨c, 0, none⟩)] [cl c 161 [.int .i64 0, .int .i64 0, .map none]] (fun _ : Unit => .pointer none) (fun _ => [cl c 161 [.int .i64 0, .int .i64 0, .map none]]) := by
  refine Ct_body (n := 21) Try.func80 rfl rfl rfl fun F w0 Q hret hnorm hp => ?_
  change WC _ _ _ _ _ _ _ (_ :: F)
  refine WC_sr fun K1 hK1 => ?_
  refine WL_rd (Rd_assign rfl) rfl rfl rfl ?_
  refine WL_end hK1 ?_
  refine WC_seq fun K2 hK2 => ?_
  refine WC_sr fun K3 hK3 => ?_
  refine WL_rd (Rd_move rfl) rfl rfl rfl ?_
  refine WL_ac (Ac_call cf86 rfl (hs := pnLeavesZ)) rfl rfl rfl ?_
  rintro _ _ ⟨⟨⟩, rfl, hA⟩
  simp only [List.cons_append, List.nil_append] at hA
  replace hA := hA.symm
  subst hA
  refine WL_rd (Rd_eqlN (i := 0) (j := 0) rfl rfl) rfl rfl rfl ?_
  refine WL_end hK3 ?_
  refine WC_condT rfl ?_
  refine WC_sr fun K4 hK4 => ?_
  refine WL_rd (Rd_assign rfl) rfl rfl rfl ?_
  refine WL_end hK4 ?_
  refine WC_ret ?_
  exact hret.go () (Rs1 rfl rfl)

theorem pnCloneP {c : Nat} {p : Option Nat}   (h : p = none ∨ p = some c) : Ct Try.prog 80 [pv p] [cl c 161 [.int .i64 0, .int .i64 0, .map none]] (fun _ : Unit => .pointer none) (fun _ => [cl c 161 [.int .i64 0, .int .i64 0, .map none]]) := by
  rcases h with rfl | rfl
  · exact pnCloneN
  · exact pnCloneZ

theorem pnPutN {c : Nat} {X : Asn} {v : Value} {l : List Nd} {ao : Option Addr} {cap2 : Nat} (hS : Sv [X] v 33 eND l ao cap2 := by assumption) : Ct Try.prog 74 [.pointer none, v] [cl c 161 [.int .i64 0, .int .i64 0, .map none], X] (fun _ : Unit => .int .i64 1) (fun _ => [cl c 161 [.int .i64 0, .int .i64 0, .map none], X]) := by
  refine Ct_body (n := 105) Try.func74 rfl rfl rfl fun F w0 Q hret hnorm hp => ?_
  change WC _ _ _ _ _ _ _ (_ :: _ :: F)
  refine WC_sr fun K1 hK1 => ?_
  refine WL_ac (Ac_box rfl rfl) rfl rfl rfl ?_
  rintro _ _ ⟨b2, rfl, rfl⟩
  refine WL_ac (Ac_alloc zr33) rfl rfl rfl ?_
  rintro _ _ ⟨b4, rfl, rfl⟩
  refine WL_end hK1 ?_
  refine WC_seq fun K2 hK2 => ?_
  refine WC_sr fun K3 hK3 => ?_
  refine WL_rd (Rd_load rfl tk121) rfl rfl rfl ?_
  refine WL_ac (Ac_call cf86 rfl (hs := pnLeavesN)) rfl rfl rfl ?_
  rintro _ _ ⟨⟨⟩, rfl, hA⟩
  simp only [List.cons_append, List.nil_append] at hA
  replace hA := hA.symm
  subst hA
  refine WL_rd (Rd_eqlN (i := 0) (j := 0) rfl rfl) rfl rfl rfl ?_
  refine WL_end hK3 ?_
  refine WC_condT rfl ?_
  refine WC_sr fun K4 hK4 => ?_
  refine WL_ac0 (Ac_store1 rfl rfl sz33) rfl rfl ?_
  rintro _ _ rfl
  refine WL_end hK4 ?_
  refine WC_ret ?_
  exact hret.go () (Rs1cs rfl rfl tk33)

theorem pnPutZ {c : Nat} {X : Asn} {v : Value} {l : List Nd} {ao : Option Addr} {cap2 : Nat} (hS : Sv [X] v 33 eND l ao cap2 := by assumption) : Ct Try.prog 74 [.pointer (some ⟨c, 0, none⟩), v] [cl c 161 [.int .i64 0, .int .i64 0, .map none], X] (fun _ : Unit => .int .i64 1) (fun _ => [cl c 161 [.int .i64 0, .int .i64 0, .map none], X]) := by
  refine Ct_body (n := 105) Try.func74 rfl rfl rfl fun F w0 Q hret hnorm hp => ?_
  change WC _ _ _ _ _ _ _ (_ :: _ :: F)
  refine WC_sr fun K1 hK1 => ?_
  refine WL_ac (Ac_box rfl rfl) rfl rfl rfl ?_
  rintro _ _ ⟨b2, rfl, rfl⟩
  refine WL_ac (Ac_alloc zr33) rfl rfl rfl ?_
  rintro _ _ ⟨b4, rfl, rfl⟩
  refine WL_end hK1 ?_
  refine WC_seq fun K2 hK2 => ?_
  refine WC_sr fun K3 hK3 => ?_
  refine WL_rd (Rd_load rfl tk121) rfl rfl rfl ?_
  refine WL_ac (Ac_call cf86 rfl (hs := pnLeavesZ)) rfl rfl rfl ?_
  rintro _ _ ⟨⟨⟩, rfl, hA⟩
  simp only [List.cons_append, List.nil_append] at hA
  replace hA := hA.symm
  subst hA
  refine WL_rd (Rd_eqlN (i := 0) (j := 0) rfl rfl) rfl rfl rfl ?_
  refine WL_end hK3 ?_
  refine WC_condT rfl ?_
  refine WC_sr fun K4 hK4 => ?_
  refine WL_ac0 (Ac_store1 rfl rfl sz33) rfl rfl ?_
  rintro _ _ rfl
  refine WL_end hK4 ?_
  refine WC_ret ?_
  exact hret.go () (Rs1cs rfl rfl tk33)

theorem pnPutP {c : Nat} {p : Option Nat} {X : Asn} {v : Value} {l : List Nd} {ao : Option Addr} {cap2 : Nat} (hS : Sv [X] v 33 eND l ao cap2 := by assumption) (h : p = none ∨ p = some c) : Ct Try.prog 74 [pv p, v] [cl c 161 [.int .i64 0, .int .i64 0, .map none], X] (fun _ : Unit => .int .i64 1) (fun _ => [cl c 161 [.int .i64 0, .int .i64 0, .map none], X]) := by
  rcases h with rfl | rfl
  · exact pnPutN
  · exact pnPutZ
end Go.Proofs.Ytgkpbeikcpecbaa
