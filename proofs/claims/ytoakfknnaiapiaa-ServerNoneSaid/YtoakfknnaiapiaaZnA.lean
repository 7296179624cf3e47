/-
  Contracts of functions that the claim reaches, or the logic and the plain laws that they rest on, or the row over them. (Conditions: none beyond the statement.)
-/
import Derived.Test.YtoakfknnaiapiaaRows
import Derived.Test.YtoakfknnaiapiaaLibR
import Derived.Test.YtoakfknnaiapiaaSlMapP
import Derived.Test.YtoakfknnaiapiaaLibA
set_option linter.all false
namespace Go.Proofs.Ytoakfknnaiapiaa
open Go.RowKit Go.SL 
set_option maxHeartbeats 1000000
set_option maxRecDepth 20000
set_option linter.all false
theorem cf9 : cfn Try.prog 9 = true := by kernel_rfl
theorem cf20 : cfn Try.prog 20 = true := by kernel_rfl
theorem cf26 : cfn Try.prog 26 = true := by kernel_rfl
theorem cf27 : cfn Try.prog 27 = true := by kernel_rfl
theorem fo40_0 : fo Try.prog 40 0 = some (0, 4) := by kernel_rfl
theorem fo40_2 : fo Try.prog 40 2 = some (2, 3) := by kernel_rfl
theorem fo40_4 : fo Try.prog 40 4 = some (4, 38) := by kernel_rfl
theorem fo45_0 : fo Try.prog 45 0 = some (0, 42) := by kernel_rfl
theorem fo45_1 : fo Try.prog 45 1 = some (1, 43) := by kernel_rfl
theorem fo45_2 : fo Try.prog 45 2 = some (2, 28) := by kernel_rfl
theorem fo54_0 : fo Try.prog 54 0 = some (0, 3) := by kernel_rfl
theorem fo54_1 : fo Try.prog 54 1 = some (1, 3) := by kernel_rfl
theorem fo54_2 : fo Try.prog 54 2 = some (2, 52) := by kernel_rfl
theorem pls40 : pls Try.prog 40 = some ([.bool false, .int .i64 0, .int .i64 0, .int .i64 0, .map none], [(0, 1), (1, 1), (2, 1), (3, 1), (4, 1)]) := by kernel_rfl
theorem pls45 : pls Try.prog 45 = some ([.int .u8 0, .slice none 0 0, .slice none 0 0], [(0, 1), (1, 1), (2, 1)]) := by kernel_rfl
theorem pls54 : pls Try.prog 54 = some ([.int .i64 0, .int .i64 0, .slice none 0 0], [(0, 1), (1, 1), (2, 1)]) := by kernel_rfl
theorem sz3 : sz Try.prog 3 = some 1 := by kernel_rfl
theorem sz45 : sz Try.prog 45 = some 3 := by kernel_rfl
theorem sz54 : sz Try.prog 54 = some 3 := by kernel_rfl
theorem tk3 : tk Try.prog 3 = some none := by kernel_rfl
theorem tk4 : tk Try.prog 4 = some none := by kernel_rfl
theorem tk28 : tk Try.prog 28 = some none := by kernel_rfl
theorem tk38 : tk Try.prog 38 = some none := by kernel_rfl
theorem tk42 : tk Try.prog 42 = some none := by kernel_rfl
theorem tk43 : tk Try.prog 43 = some none := by kernel_rfl
theorem tk45 : tk Try.prog 45 = some (some 3) := by kernel_rfl
theorem tk52 : tk Try.prog 52 = some none := by kernel_rfl
theorem tk54 : tk Try.prog 54 = some (some 3) := by kernel_rfl
theorem ud28 : Try.prog.underlying 28 = some (.slice 5) := by kernel_rfl
theorem ud33 : Try.prog.underlying 33 = some (.pointer 40) := by kernel_rfl
theorem ud38 : Try.prog.underlying 38 = some (.map 81 82) := by kernel_rfl
theorem ud43 : Try.prog.underlying 43 = some (.slice 3) := by kernel_rfl
theorem ud52 : Try.prog.underlying 52 = some (.slice 65) := by kernel_rfl
theorem zr43 : zr Try.prog 43 = some [.slice none 0 0] := by kernel_rfl
theorem zr45 : zr Try.prog 45 = some [.int .u8 0, .slice none 0 0, .slice none 0 0] := by kernel_rfl
theorem zr54 : zr Try.prog 54 = some [.int .i64 0, .int .i64 0, .slice none 0 0] := by kernel_rfl
def pv (p : Option Nat) : Value := .pointer (p.map fun b => ⟨b, 0, none⟩)
def eP (p : Option Nat) : List Value := [pv p]
theorem encP : Enc eP 1 := ⟨fun _ => rfl, fun x v hv => by simp [eP, pv] at hv; subst hv; rfl⟩
theorem two_of {c i : Nat} {p : Option Nat} (h : [none, some c][i]? = some p) : p = none ∨ p = some c := by
  have := List.mem_of_getElem? h
  simpa using this

theorem snreadyN {c : Nat}  : Ct Try.prog 27 [.pointer none] [cl c 40 [.bool false, .int .i64 0, .int .i64 0, .int .i64 0, .map none]] (fun _ : Unit => .bool false) (fun _ => [cl c 40 [.bool false, .int .i64 0, .int .i64 0, .int .i64 0, .map none]]) := by
  refine Ct_body (n := 11) Try.func27 rfl rfl rfl fun F w0 Q hret hnorm hp => ?_
  change WC _ _ _ _ _ _ _ (_ :: F)
  refine WC_sr fun K1 hK1 => ?_
  refine WL_rd (Rd_assign rfl) rfl rfl rfl ?_
  refine WL_end hK1 ?_
  refine WC_sr fun K2 hK2 => ?_
  refine WL_rd (Rd_move rfl) rfl rfl rfl ?_
  refine WL_rd (Rd_pne rfl rfl ud33) rfl rfl rfl ?_
  refine WL_rd (Rd_move rfl) rfl rfl rfl ?_
  refine WL_skip rfl rfl rfl ?_
  refine WL_skip rfl rfl rfl ?_
  refine WL_skip rfl rfl rfl ?_
  refine WL_skip rfl rfl rfl ?_
  refine WL_rd (Rd_pickF rfl rfl) rfl rfl rfl ?_
  refine WL_rd (Rd_assign rfl) rfl rfl rfl ?_
  refine WL_end hK2 ?_
  refine WC_ret ?_
  exact hret.go () (Rs1 rfl rfl)

theorem snreadyZ {c : Nat}  : Ct Try.prog 27 [.pointer (some ⟨c, 0, none⟩)] [cl c 40 [.bool false, .int .i64 0, .int .i64 0, .int .i64 0, .map none]] (fun _ : Unit => .bool false) (fun _ => [cl c 40 [.bool false, .int .i64 0, .int .i64 0, .int .i64 0, .map none]]) := by
  refine Ct_body (n := 11) Try.func27 rfl rfl rfl fun F w0 Q hret hnorm hp => ?_
  change WC _ _ _ _ _ _ _ (_ :: F)
  refine WC_sr fun K1 hK1 => ?_
  refine WL_rd (Rd_assign rfl) rfl rfl rfl ?_
  refine WL_end hK1 ?_
  refine WC_sr fun K2 hK2 => ?_
  refine WL_rd (Rd_move rfl) rfl rfl rfl ?_
  refine WL_rd (Rd_pne rfl rfl ud33) rfl rfl rfl ?_
  refine WL_rd (Rd_move rfl) rfl rfl rfl ?_
  refine WL_rd (Rd_move rfl) rfl rfl rfl ?_
  refine WL_rd (Rd_nilCheck rfl) rfl rfl rfl ?_
  refine WL_rd (Rd_fieldAddr rfl fo40_0) rfl rfl rfl ?_
  refine WL_rd (Rd_load rfl tk4) rfl rfl rfl ?_
  refine WL_rd (Rd_pickT rfl rfl) rfl rfl rfl ?_
  refine WL_rd (Rd_assign rfl) rfl rfl rfl ?_
  refine WL_end hK2 ?_
  refine WC_ret ?_
  exact hret.go () (Rs1 rfl rfl)

theorem snreadyP {c : Nat} {p : Option Nat}  (h : p = none ∨ p = some c) : Ct Try.prog 27 [pv p] [cl c 40 [.bool false, .int .i64 0, .int .i64 0, .int .i64 0, .map none]] (fun _ : Unit => .bool false) (fun _ => [cl c 40 [.bool false, .int .i64 0, .int .i64 0, .int .i64 0, .map none]]) := by
  rcases h with rfl | rfl
  · exact snreadyN
  · exact snreadyZ

theorem snTickN {c : Nat} {x : Int}  : Ct Try.prog 9 [.pointer none, .int .i64 x] [cl c 40 [.bool false, .int .i64 0, .int .i64 0, .int .i64 0, .map none]] (fun _ : Unit => .int .i64 1) (fun _ => [cl c 40 [.bool false, .int .i64 0, .int .i64 0, .int .i64 0, .map none]]) := by
  refine Ct_body (n := 58) Try.func9 rfl rfl rfl fun F w0 Q hret hnorm hp => ?_
  change WC _ _ _ _ _ _ _ (_ :: F)
  refine WC_sr fun K1 hK1 => ?_
  refine WL_rd (Rd_assign rfl) rfl rfl rfl ?_
  refine WL_end hK1 ?_
  refine WC_seq fun K2 hK2 => ?_
  refine WC_sr fun K3 hK3 => ?_
  refine WL_rd (Rd_move rfl) rfl rfl rfl ?_
  refine WL_ac (Ac_call cf27 rfl (hs := snreadyN)) rfl rfl rfl ?_
  rintro _ _ ⟨⟨⟩, rfl, hA⟩
  simp only [List.cons_append, List.nil_append] at hA
  replace hA := hA.symm
  subst hA
  refine WL_rd (Rd_not rfl) rfl rfl rfl ?_
  refine WL_end hK3 ?_
  refine WC_condT rfl ?_
  refine WC_sr fun K4 hK4 => ?_
  refine WL_rd (Rd_assign rfl) rfl rfl rfl ?_
  refine WL_end hK4 ?_
  refine WC_ret ?_
  exact hret.go () (Rs1 rfl rfl)

theorem snTickZ {c : Nat} {x : Int}  : Ct Try.prog 9 [.pointer (some ⟨c, 0, none⟩), .int .i64 x] [cl c 40 [.bool false, .int .i64 0, .int .i64 0, .int .i64 0, .map none]] (fun _ : Unit => .int .i64 1) (fun _ => [cl c 40 [.bool false, .int .i64 0, .int .i64 0, .int .i64 0, .map none]]) := by
  refine Ct_body (n := 58) Try.func9 rfl rfl rfl fun F w0 Q hret hnorm hp => ?_
  change WC _ _ _ _ _ _ _ (_ :: F)
  refine WC_sr fun K1 hK1 => ?_
  refine WL_rd (Rd_assign rfl) rfl rfl rfl ?_
  refine WL_end hK1 ?_
  refine WC_seq fun K2 hK2 => ?_
  refine WC_sr fun K3 hK3 => ?_
  refine WL_rd (Rd_move rfl) rfl rfl rfl ?_
  refine WL_ac (Ac_call cf27 rfl (hs := snreadyZ)) rfl rfl rfl ?_
  rintro _ _ ⟨⟨⟩, rfl, hA⟩
  simp only [List.cons_append, List.nil_append] at hA
  replace hA := hA.symm
  subst hA
  refine WL_rd (Rd_not rfl) rfl rfl rfl ?_
  refine WL_end hK3 ?_
  refine WC_condT rfl ?_
  refine WC_sr fun K4 hK4 => ?_
  refine WL_rd (Rd_assign rfl) rfl rfl rfl ?_
  refine WL_end hK4 ?_
  refine WC_ret ?_
  exact hret.go () (Rs1 rfl rfl)

theorem snTickP {c : Nat} {p : Option Nat} {x : Int} (h : p = none ∨ p = some c) : Ct Try.prog 9 [pv p, .int .i64 x] [cl c 40 [.bool false, .int .i64 0, .int .i64 0, .int .i64 0, .map none]] (fun _ : Unit => .int .i64 1) (fun _ => [cl c 40 [.bool false, .int .i64 0, .int .i64 0, .int .i64 0, .map none]]) := by
  rcases h with rfl | rfl
  · exact snTickN
  · exact snTickZ

theorem snDoN {c : Nat} {x : Int} {rq : List Value}  : Ct Try.prog 10 [.pointer none, .int .i64 x, .agg rq.toArray] [cl c 40 [.bool false, .int .i64 0, .int .i64 0, .int .i64 0, .map none]] (fun _ : Unit => .tuple #[.agg [.int .u8 0, .slice none 0 0, .slice none 0 0].toArray, .int .i64 1]) (fun _ => [cl c 40 [.bool false, .int .i64 0, .int .i64 0, .int .i64 0, .map none]]) := by
  refine Ct_body (n := 59) Try.func10 rfl rfl rfl fun F w0 Q hret hnorm hp => ?_
  change WC _ _ _ _ _ _ _ (_ :: F)
  refine WC_sr fun K1 hK1 => ?_
  refine WL_ac (Ac_box (xs := rq) rfl rfl) rfl rfl rfl ?_
  rintro _ _ ⟨b5, rfl, rfl⟩
  refine WL_ac (Ac_alloc zr45) rfl rfl rfl ?_
  rintro _ _ ⟨b6, rfl, rfl⟩
  refine WL_rd (Rd_assign rfl) rfl rfl rfl ?_
  refine WL_end hK1 ?_
  refine WC_seq fun K2 hK2 => ?_
  refine WC_sr fun K3 hK3 => ?_
  refine WL_rd (Rd_move rfl) rfl rfl rfl ?_
  refine WL_rd (Rd_move rfl) rfl rfl rfl ?_
  refine WL_ac (Ac_call cf9 rfl (hs := snTickN)) rfl rfl rfl ?_
  rintro _ _ ⟨⟨⟩, rfl, hA⟩
  simp only [List.cons_append, List.nil_append] at hA
  replace hA := hA.symm
  subst hA
  refine WL_rd (Rd_assign rfl) rfl rfl rfl ?_
  refine WL_end hK3 ?_
  refine WC_sr fun K4 hK4 => ?_
  refine WL_rd (Rd_move rfl) rfl rfl rfl ?_
  refine WL_rd (Rd_neqN (i := 1) (j := 0) rfl rfl) rfl rfl rfl ?_
  refine WL_end hK4 ?_
  refine WC_condT rfl ?_
  refine WC_sr fun K5 hK5 => ?_
  refine WL_rd (Rd_build pls45 rfl) rfl rfl rfl ?_
  refine WL_rd (Rd_move rfl) rfl rfl rfl ?_
  refine WL_ac0 (Ac_store rfl rfl sz45) rfl rfl ?_
  rintro _ _ rfl
  refine WL_rd (Rd_assign rfl) rfl rfl rfl ?_
  refine WL_end hK5 ?_
  refine WC_ret ?_
  exact hret.go () (Rs2ct rfl rfl rfl tk45)

theorem snDoZ {c : Nat} {x : Int} {rq : List Value}  : Ct Try.prog 10 [.pointer (some ⟨c, 0, none⟩), .int .i64 x, .agg rq.toArray] [cl c 40 [.bool false, .int .i64 0, .int .i64 0, .int .i64 0, .map none]] (fun _ : Unit => .tuple #[.agg [.int .u8 0, .slice none 0 0, .slice none 0 0].toArray, .int .i64 1]) (fun _ => [cl c 40 [.bool false, .int .i64 0, .int .i64 0, .int .i64 0, .map none]]) := by
  refine Ct_body (n := 59) Try.func10 rfl rfl rfl fun F w0 Q hret hnorm hp => ?_
  change WC _ _ _ _ _ _ _ (_ :: F)
  refine WC_sr fun K1 hK1 => ?_
  refine WL_ac (Ac_box (xs := rq) rfl rfl) rfl rfl rfl ?_
  rintro _ _ ⟨b5, rfl, rfl⟩
  refine WL_ac (Ac_alloc zr45) rfl rfl rfl ?_
  rintro _ _ ⟨b6, rfl, rfl⟩
  refine WL_rd (Rd_assign rfl) rfl rfl rfl ?_
  refine WL_end hK1 ?_
  refine WC_seq fun K2 hK2 => ?_
  refine WC_sr fun K3 hK3 => ?_
  refine WL_rd (Rd_move rfl) rfl rfl rfl ?_
  refine WL_rd (Rd_move rfl) rfl rfl rfl ?_
  refine WL_ac (Ac_call cf9 rfl (hs := snTickZ)) rfl rfl rfl ?_
  rintro _ _ ⟨⟨⟩, rfl, hA⟩
  simp only [List.cons_append, List.nil_append] at hA
  replace hA := hA.symm
  subst hA
  refine WL_rd (Rd_assign rfl) rfl rfl rfl ?_
  refine WL_end hK3 ?_
  refine WC_sr fun K4 hK4 => ?_
  refine WL_rd (Rd_move rfl) rfl rfl rfl ?_
  refine WL_rd (Rd_neqN (i := 1) (j := 0) rfl rfl) rfl rfl rfl ?_
  refine WL_end hK4 ?_
  refine WC_condT rfl ?_
  refine WC_sr fun K5 hK5 => ?_
  refine WL_rd (Rd_build pls45 rfl) rfl rfl rfl ?_
  refine WL_rd (Rd_move rfl) rfl rfl rfl ?_
  refine WL_ac0 (Ac_store rfl rfl sz45) rfl rfl ?_
  rintro _ _ rfl
  refine WL_rd (Rd_assign rfl) rfl rfl rfl ?_
  refine WL_end hK5 ?_
  refine WC_ret ?_
  exact hret.go () (Rs2ct rfl rfl rfl tk45)

theorem snDoP {c : Nat} {p : Option Nat} {x : Int} {rq : List Value} (h : p = none ∨ p = some c) : Ct Try.prog 10 [pv p, .int .i64 x, .agg rq.toArray] [cl c 40 [.bool false, .int .i64 0, .int .i64 0, .int .i64 0, .map none]] (fun _ : Unit => .tuple #[.agg [.int .u8 0, .slice none 0 0, .slice none 0 0].toArray, .int .i64 1]) (fun _ => [cl c 40 [.bool false, .int .i64 0, .int .i64 0, .int .i64 0, .map none]]) := by
  rcases h with rfl | rfl
  · exact snDoN
  · exact snDoZ

theorem snSpoilN {c : Nat} {x : Int} {ix : List Value} {v : Value}  : Ct Try.prog 12 [.pointer none, .agg ix.toArray, .int .i64 x, v] [cl c 40 [.bool false, .int .i64 0, .int .i64 0, .int .i64 0, .map none]] (fun _ : Unit => .int .i64 1) (fun _ => [cl c 40 [.bool false, .int .i64 0, .int .i64 0, .int .i64 0, .map none]]) := by
  refine Ct_body (n := 42) Try.func12 rfl rfl rfl fun F w0 Q hret hnorm hp => ?_
  change WC _ _ _ _ _ _ _ (_ :: F)
  refine WC_sr fun K1 hK1 => ?_
  refine WL_ac (Ac_box (xs := ix) rfl rfl) rfl rfl rfl ?_
  rintro _ _ ⟨b5, rfl, rfl⟩
  refine WL_rd (Rd_assign rfl) rfl rfl rfl ?_
  refine WL_end hK1 ?_
  refine WC_seq fun K2 hK2 => ?_
  refine WC_sr fun K3 hK3 => ?_
  refine WL_rd (Rd_move rfl) rfl rfl rfl ?_
  refine WL_ac (Ac_call cf27 rfl (hs := snreadyN)) rfl rfl rfl ?_
  rintro _ _ ⟨⟨⟩, rfl, hA⟩
  simp only [List.cons_append, List.nil_append] at hA
  replace hA := hA.symm
  subst hA
  refine WL_rd (Rd_not rfl) rfl rfl rfl ?_
  refine WL_end hK3 ?_
  refine WC_condT rfl ?_
  refine WC_sr fun K4 hK4 => ?_
  refine WL_rd (Rd_assign rfl) rfl rfl rfl ?_
  refine WL_end hK4 ?_
  refine WC_ret ?_
  exact hret.go () (Rs1 rfl rfl)

theorem snSpoilZ {c : Nat} {x : Int} {ix : List Value} {v : Value}  : Ct Try.prog 12 [.pointer (some ⟨c, 0, none⟩), .agg ix.toArray, .int .i64 x, v] [cl c 40 [.bool false, .int .i64 0, .int .i64 0, .int .i64 0, .map none]] (fun _ : Unit => .int .i64 1) (fun _ => [cl c 40 [.bool false, .int .i64 0, .int .i64 0, .int .i64 0, .map none]]) := by
  refine Ct_body (n := 42) Try.func12 rfl rfl rfl fun F w0 Q hret hnorm hp => ?_
  change WC _ _ _ _ _ _ _ (_ :: F)
  refine WC_sr fun K1 hK1 => ?_
  refine WL_ac (Ac_box (xs := ix) rfl rfl) rfl rfl rfl ?_
  rintro _ _ ⟨b5, rfl, rfl⟩
  refine WL_rd (Rd_assign rfl) rfl rfl rfl ?_
  refine WL_end hK1 ?_
  refine WC_seq fun K2 hK2 => ?_
  refine WC_sr fun K3 hK3 => ?_
  refine WL_rd (Rd_move rfl) rfl rfl rfl ?_
  refine WL_ac (Ac_call cf27 rfl (hs := snreadyZ)) rfl rfl rfl ?_
  rintro _ _ ⟨⟨⟩, rfl, hA⟩
  simp only [List.cons_append, List.nil_append] at hA
  replace hA := hA.symm
  subst hA
  refine WL_rd (Rd_not rfl) rfl rfl rfl ?_
  refine WL_end hK3 ?_
  refine WC_condT rfl ?_
  refine WC_sr fun K4 hK4 => ?_
  refine WL_rd (Rd_assign rfl) rfl rfl rfl ?_
  refine WL_end hK4 ?_
  refine WC_ret ?_
  exact hret.go () (Rs1 rfl rfl)

theorem snSpoilP {c : Nat} {p : Option Nat} {x : Int} {ix : List Value} {v : Value} (h : p = none ∨ p = some c) : Ct Try.prog 12 [pv p, .agg ix.toArray, .int .i64 x, v] [cl c 40 [.bool false, .int .i64 0, .int .i64 0, .int .i64 0, .map none]] (fun _ : Unit => .int .i64 1) (fun _ => [cl c 40 [.bool false, .int .i64 0, .int .i64 0, .int .i64 0, .map none]]) := by
  rcases h with rfl | rfl
  · exact snSpoilN
  · exact snSpoilZ

theorem snUsedN {c : Nat}  : Ct Try.prog 13 [.pointer none] [cl c 40 [.bool false, .int .i64 0, .int .i64 0, .int .i64 0, .map none]] (fun _ : Unit => .int .i64 0) (fun _ => [cl c 40 [.bool false, .int .i64 0, .int .i64 0, .int .i64 0, .map none]]) := by
  refine Ct_body (n := 10) Try.func13 rfl rfl rfl fun F w0 Q hret hnorm hp => ?_
  change WC _ _ _ _ _ _ _ (_ :: F)
  refine WC_sr fun K1 hK1 => ?_
  refine WL_rd (Rd_assign rfl) rfl rfl rfl ?_
  refine WL_end hK1 ?_
  refine WC_seq fun K2 hK2 => ?_
  refine WC_sr fun K3 hK3 => ?_
  refine WL_rd (Rd_move rfl) rfl rfl rfl ?_
  refine WL_ac (Ac_call cf27 rfl (hs := snreadyN)) rfl rfl rfl ?_
  rintro _ _ ⟨⟨⟩, rfl, hA⟩
  simp only [List.cons_append, List.nil_append] at hA
  replace hA := hA.symm
  subst hA
  refine WL_rd (Rd_not rfl) rfl rfl rfl ?_
  refine WL_end hK3 ?_
  refine WC_condT rfl ?_
  refine WC_sr fun K4 hK4 => ?_
  refine WL_rd (Rd_assign rfl) rfl rfl rfl ?_
  refine WL_end hK4 ?_
  refine WC_ret ?_
  exact hret.go () (Rs1 rfl rfl)

theorem snUsedZ {c : Nat}  : Ct Try.prog 13 [.pointer (some ⟨c, 0, none⟩)] [cl c 40 [.bool false, .int .i64 0, .int .i64 0, .int .i64 0, .map none]] (fun _ : Unit => .int .i64 0) (fun _ => [cl c 40 [.bool false, .int .i64 0, .int .i64 0, .int .i64 0, .map none]]) := by
  refine Ct_body (n := 10) Try.func13 rfl rfl rfl fun F w0 Q hret hnorm hp => ?_
  change WC _ _ _ _ _ _ _ (_ :: F)
  refine WC_sr fun K1 hK1 => ?_
  refine WL_rd (Rd_assign rfl) rfl rfl rfl ?_
  refine WL_end hK1 ?_
  refine WC_seq fun K2 hK2 => ?_
  refine WC_sr fun K3 hK3 => ?_
  refine WL_rd (Rd_move rfl) rfl rfl rfl ?_
  refine WL_ac (Ac_call cf27 rfl (hs := snreadyZ)) rfl rfl rfl ?_
  rintro _ _ ⟨⟨⟩, rfl, hA⟩
  simp only [List.cons_append, List.nil_append] at hA
  replace hA := hA.symm
  subst hA
  refine WL_rd (Rd_not rfl) rfl rfl rfl ?_
  refine WL_end hK3 ?_
  refine WC_condT rfl ?_
  refine WC_sr fun K4 hK4 => ?_
  refine WL_rd (Rd_assign rfl) rfl rfl rfl ?_
  refine WL_end hK4 ?_
  refine WC_ret ?_
  exact hret.go () (Rs1 rfl rfl)

theorem snUsedP {c : Nat} {p : Option Nat}  (h : p = none ∨ p = some c) : Ct Try.prog 13 [pv p] [cl c 40 [.bool false, .int .i64 0, .int .i64 0, .int .i64 0, .map none]] (fun _ : Unit => .int .i64 0) (fun _ => [cl c 40 [.bool false, .int .i64 0, .int .i64 0, .int .i64 0, .map none]]) := by
  rcases h with rfl | rfl
  · exact snUsedN
  · exact snUsedZ

theorem snStateN {c : Nat}  : Ct Try.prog 15 [.pointer none] [cl c 40 [.bool false, .int .i64 0, .int .i64 0, .int .i64 0, .map none]] (fun _ : Unit => .agg [.int .i64 0, .int .i64 0, .slice none 0 0].toArray) (fun _ => [cl c 40 [.bool false, .int .i64 0, .int .i64 0, .int .i64 0, .map none]]) := by
  refine Ct_body (n := 83) Try.func15 rfl rfl rfl fun F w0 Q hret hnorm hp => ?_
  change WC _ _ _ _ _ _ _ (_ :: F)
  refine WC_sr fun K1 hK1 => ?_
  refine WL_ac (Ac_alloc zr54) rfl rfl rfl ?_
  rintro _ _ ⟨b2, rfl, rfl⟩
  refine WL_end hK1 ?_
  refine WC_seq fun K2 hK2 => ?_
  refine WC_sr fun K3 hK3 => ?_
  refine WL_rd (Rd_move rfl) rfl rfl rfl ?_
  refine WL_ac (Ac_call cf27 rfl (hs := snreadyN)) rfl rfl rfl ?_
  rintro _ _ ⟨⟨⟩, rfl, hA⟩
  simp only [List.cons_append, List.nil_append] at hA
  replace hA := hA.symm
  subst hA
  refine WL_rd (Rd_not rfl) rfl rfl rfl ?_
  refine WL_end hK3 ?_
  refine WC_condT rfl ?_
  refine WC_sr fun K4 hK4 => ?_
  refine WL_rd (Rd_build pls54 rfl) rfl rfl rfl ?_
  refine WL_ac0 (Ac_store rfl rfl sz54) rfl rfl ?_
  rintro _ _ rfl
  refine WL_end hK4 ?_
  refine WC_ret ?_
  exact hret.go () (Rs1c rfl rfl tk54)

theorem snStateZ {c : Nat}  : Ct Try.prog 15 [.pointer (some ⟨c, 0, none⟩)] [cl c 40 [.bool false, .int .i64 0, .int .i64 0, .int .i64 0, .map none]] (fun _ : Unit => .agg [.int .i64 0, .int .i64 0, .slice none 0 0].toArray) (fun _ => [cl c 40 [.bool false, .int .i64 0, .int .i64 0, .int .i64 0, .map none]]) := by
  refine Ct_body (n := 83) Try.func15 rfl rfl rfl fun F w0 Q hret hnorm hp => ?_
  change WC _ _ _ _ _ _ _ (_ :: F)
  refine WC_sr fun K1 hK1 => ?_
  refine WL_ac (Ac_alloc zr54) rfl rfl rfl ?_
  rintro _ _ ⟨b2, rfl, rfl⟩
  refine WL_end hK1 ?_
  refine WC_seq fun K2 hK2 => ?_
  refine WC_sr fun K3 hK3 => ?_
  refine WL_rd (Rd_move rfl) rfl rfl rfl ?_
  refine WL_ac (Ac_call cf27 rfl (hs := snreadyZ)) rfl rfl rfl ?_
  rintro _ _ ⟨⟨⟩, rfl, hA⟩
  simp only [List.cons_append, List.nil_append] at hA
  replace hA := hA.symm
  subst hA
  refine WL_rd (Rd_not rfl) rfl rfl rfl ?_
  refine WL_end hK3 ?_
  refine WC_condT rfl ?_
  refine WC_sr fun K4 hK4 => ?_
  refine WL_rd (Rd_build pls54 rfl) rfl rfl rfl ?_
  refine WL_ac0 (Ac_store rfl rfl sz54) rfl rfl ?_
  rintro _ _ rfl
  refine WL_end hK4 ?_
  refine WC_ret ?_
  exact hret.go () (Rs1c rfl rfl tk54)

theorem snStateP {c : Nat} {p : Option Nat}  (h : p = none ∨ p = some c) : Ct Try.prog 15 [pv p] [cl c 40 [.bool false, .int .i64 0, .int .i64 0, .int .i64 0, .map none]] (fun _ : Unit => .agg [.int .i64 0, .int .i64 0, .slice none 0 0].toArray) (fun _ => [cl c 40 [.bool false, .int .i64 0, .int .i64 0, .int .i64 0, .map none]]) := by
  rcases h with rfl | rfl
  · exact snStateN
  · exact snStateZ

theorem snNumbersN {c : Nat} {ix : List Value}  : Ct Try.prog 16 [.pointer none, .agg ix.toArray] [cl c 40 [.bool false, .int .i64 0, .int .i64 0, .int .i64 0, .map none]] (fun g : Nat × Nat => .func (.func 44) #[] #[.pointer (some ⟨g.1, 0, none⟩), .pointer (some ⟨g.2, 0, none⟩)]) (fun g => [cl c 40 [.bool false, .int .i64 0, .int .i64 0, .int .i64 0, .map none], cl g.1 43 [.slice none 0 0], cl g.2 43 [.slice none 0 0]]) := by
  refine Ct_body (n := 37) Try.func16 rfl rfl rfl fun F w0 Q hret hnorm hp => ?_
  change WC _ _ _ _ _ _ _ (_ :: F)
  refine WC_sr fun K1 hK1 => ?_
  refine WL_ac (Ac_box (xs := ix) rfl rfl) rfl rfl rfl ?_
  rintro _ _ ⟨b5, rfl, rfl⟩
  refine WL_rd (Rd_assign rfl) rfl rfl rfl ?_
  refine WL_end hK1 ?_
  refine WC_sr fun K2 hK2 => ?_
  refine WL_ac (Ac_alloc zr43) rfl rfl rfl ?_
  rintro _ _ ⟨b5, rfl, rfl⟩
  refine WL_ac (Ac_alloc zr43) rfl rfl rfl ?_
  rintro _ _ ⟨b6, rfl, rfl⟩
  refine WL_end hK2 ?_
  refine WC_seq fun K3 hK3 => ?_
  refine WC_sr fun K4 hK4 => ?_
  refine WL_rd (Rd_move rfl) rfl rfl rfl ?_
  refine WL_ac (Ac_call cf27 rfl (hs := snreadyN)) rfl rfl rfl ?_
  rintro _ _ ⟨⟨⟩, rfl, hA⟩
  simp only [List.cons_append, List.nil_append] at hA
  replace hA := hA.symm
  subst hA
  refine WL_end hK4 ?_
  refine WC_condF rfl ?_
  refine WC_skip ?_
  refine Ps_next hK3 ?_
  refine WC_sr fun K5 hK5 => ?_
  refine WL_rd (Rd_makeFunc rfl rfl) rfl rfl rfl ?_
  refine WL_rd (Rd_assign rfl) rfl rfl rfl ?_
  refine WL_end hK5 ?_
  refine WC_ret ?_
  first | exact hret.go (b5, b6) (Rs1 rfl rfl) | exact hret.go (b5', b6) (Rs1 rfl rfl)

theorem snNumbersZ {c : Nat} {ix : List Value}  : Ct Try.prog 16 [.pointer (some ⟨c, 0, none⟩), .agg ix.toArray] [cl c 40 [.bool false, .int .i64 0, .int .i64 0, .int .i64 0, .map none]] (fun g : Nat × Nat => .func (.func 44) #[] #[.pointer (some ⟨g.1, 0, none⟩), .pointer (some ⟨g.2, 0, none⟩)]) (fun g => [cl c 40 [.bool false, .int .i64 0, .int .i64 0, .int .i64 0, .map none], cl g.1 43 [.slice none 0 0], cl g.2 43 [.slice none 0 0]]) := by
  refine Ct_body (n := 37) Try.func16 rfl rfl rfl fun F w0 Q hret hnorm hp => ?_
  change WC _ _ _ _ _ _ _ (_ :: F)
  refine WC_sr fun K1 hK1 => ?_
  refine WL_ac (Ac_box (xs := ix) rfl rfl) rfl rfl rfl ?_
  rintro _ _ ⟨b5, rfl, rfl⟩
  refine WL_rd (Rd_assign rfl) rfl rfl rfl ?_
  refine WL_end hK1 ?_
  refine WC_sr fun K2 hK2 => ?_
  refine WL_ac (Ac_alloc zr43) rfl rfl rfl ?_
  rintro _ _ ⟨b5, rfl, rfl⟩
  refine WL_ac (Ac_alloc zr43) rfl rfl rfl ?_
  rintro _ _ ⟨b6, rfl, rfl⟩
  refine WL_end hK2 ?_
  refine WC_seq fun K3 hK3 => ?_
  refine WC_sr fun K4 hK4 => ?_
  refine WL_rd (Rd_move rfl) rfl rfl rfl ?_
  refine WL_ac (Ac_call cf27 rfl (hs := snreadyZ)) rfl rfl rfl ?_
  rintro _ _ ⟨⟨⟩, rfl, hA⟩
  simp only [List.cons_append, List.nil_append] at hA
  replace hA := hA.symm
  subst hA
  refine WL_end hK4 ?_
  refine WC_condF rfl ?_
  refine WC_skip ?_
  refine Ps_next hK3 ?_
  refine WC_sr fun K5 hK5 => ?_
  refine WL_rd (Rd_makeFunc rfl rfl) rfl rfl rfl ?_
  refine WL_rd (Rd_assign rfl) rfl rfl rfl ?_
  refine WL_end hK5 ?_
  refine WC_ret ?_
  first | exact hret.go (b5, b6) (Rs1 rfl rfl) | exact hret.go (b5', b6) (Rs1 rfl rfl)

theorem snNumbersP {c : Nat} {p : Option Nat} {ix : List Value} (h : p = none ∨ p = some c) : Ct Try.prog 16 [pv p, .agg ix.toArray] [cl c 40 [.bool false, .int .i64 0, .int .i64 0, .int .i64 0, .map none]] (fun g : Nat × Nat => .func (.func 44) #[] #[.pointer (some ⟨g.1, 0, none⟩), .pointer (some ⟨g.2, 0, none⟩)]) (fun g => [cl c 40 [.bool false, .int .i64 0, .int .i64 0, .int .i64 0, .map none], cl g.1 43 [.slice none 0 0], cl g.2 43 [.slice none 0 0]]) := by
  rcases h with rfl | rfl
  · exact snNumbersN
  · exact snNumbersZ

theorem snNums2 {l u1 u2 : Nat}  : Ct Try.prog 44 [yv l, .pointer (some ⟨u1, 0, none⟩), .pointer (some ⟨u2, 0, none⟩)] [cl u1 43 [.slice none 0 0], cl u2 43 [.slice none 0 0]] (fun _ : Unit => .tuple #[]) (fun _ => [cl u1 43 [.slice none 0 0], cl u2 43 [.slice none 0 0]]) := by
  refine Ct_body (n := 22) Try.func44 rfl rfl rfl fun F w0 Q hret hnorm hp => ?_
  change WC _ _ _ _ _ _ _ (_ :: _ :: F)
  refine WC_sr fun K1 hK1 => ?_
  refine WL_rd (Rd_load rfl tk43 (v := sl none 0 0)) rfl rfl rfl ?_
  refine WL_rd (Rd_len rfl rfl ud43) rfl rfl rfl ?_
  refine WL_rd (Rd_move rfl) rfl rfl rfl ?_
  refine WL_end hK1 ?_
  refine WC_block ?_
  refine WC_loopK (σ := Unit) (fun _u => [(6, sl none 0 0), (7, .int .i64 0), (8, .int .i64 0)]) (fun _u => []) (fun _u => True) (fun _u => 0) (()) [0, 2] (by repeat (first | exact Kep.nil | apply Kep.drop rfl | apply Kep.keep rfl)) (by (try dsimp only); repeat (first | with_reducible exact Gv.nil | (with_reducible apply Gv.cons; · (repeat (first | with_reducible exact Ext.here | with_reducible apply Ext.there))))) ?_ ?_ Sub.refl ?_
  · trivial
  · (try dsimp only); exact (Wk.cons (by first | rfl | (simp only [List.length_append, List.length_cons, List.length_nil, List.length_replicate, Nat.zero_add]; rfl) | (simp; done)) (Wk.cons (by first | rfl | (simp only [List.length_append, List.length_cons, List.length_nil, List.length_replicate, Nat.zero_add]; rfl) | (simp; done)) (Wk.cons (by first | rfl | (simp only [List.length_append, List.length_cons, List.length_nil, List.length_replicate, Nat.zero_add]; rfl) | (simp; done)) Wk.nil)))
  · rintro _u _ K2 hK2
    simp only [List.cons_append, List.nil_append]
    refine WC_sr fun K3 hK3 => ?_
    refine WL_rd (Rd_lssN (i := 0) (j := 0) rfl rfl) rfl rfl rfl ?_
    refine WL_end hK3 ?_
    refine WC_seq fun K4 hK4 => ?_
    refine WC_condF rfl ?_
    refine WC_exit ?_
    exact hnorm.go () (Rs0 rfl)

theorem snNew   : Ct Try.prog 8 [.int .i64 5] [] (fun g : Nat × Nat => .tuple #[.pointer (some ⟨g.1, 0, none⟩), .int .i64 0]) (fun g => [cl g.1 40 [.bool true, .int .i64 5, .int .i64 0, .int .i64 0, .map (some g.2)], mpP g.2 (fun k : Int => Value.int .i64 k) (fun k : Int => Value.int .i64 k) []]) := by
  refine Ct_body (n := 14) Try.func8 rfl rfl rfl fun F w0 Q hret hnorm hp => ?_
  change WC _ _ _ _ _ _ _ (F)
  refine WC_sr fun K1 hK1 => ?_
  refine WL_rd (Rd_assign rfl) rfl rfl rfl ?_
  refine WL_rd (Rd_assign rfl) rfl rfl rfl ?_
  refine WL_end hK1 ?_
  refine WC_seq fun K2 hK2 => ?_
  refine WC_sr fun K3 hK3 => ?_
  refine WL_rd (Rd_move rfl) rfl rfl rfl ?_
  refine WL_rd (Rd_lssN (i := 5) (j := 0) rfl rfl) rfl rfl rfl ?_
  refine WL_rd (Rd_move rfl) rfl rfl rfl ?_
  refine WL_rd (Rd_move rfl) rfl rfl rfl ?_
  refine WL_rd (Rd_gtrN (i := 5) (j := 1073741824) rfl rfl) rfl rfl rfl ?_
  refine WL_rd (Rd_pickF rfl rfl) rfl rfl rfl ?_
  refine WL_end hK3 ?_
  refine WC_condF rfl ?_
  refine WC_skip ?_
  refine Ps_next hK2 ?_
  refine WC_sr fun K4 hK4 => ?_
  refine WL_rd (Rd_move rfl) rfl rfl rfl ?_
  refine WL_ac (Ac_makeP (fun k : Int => Value.int .i64 k) (fun k : Int => Value.int .i64 k)) rfl rfl rfl ?_
  rintro _ _ ⟨m11, rfl, rfl⟩
  refine WL_rd (Rd_build pls40 rfl) rfl rfl rfl ?_
  refine WL_ac (Ac_box rfl rfl) rfl rfl rfl ?_
  rintro _ _ ⟨b13, rfl, rfl⟩
  refine WL_rd (Rd_assign rfl) rfl rfl rfl ?_
  refine WL_rd (Rd_assign rfl) rfl rfl rfl ?_
  refine WL_end hK4 ?_
  refine WC_ret ?_
  exact hret.go (b13, m11) (Rs2 rfl rfl rfl)

theorem snReadyY {s m : Nat}  : Ct Try.prog 27 [.pointer (some ⟨s, 0, none⟩)] [cl s 40 [.bool true, .int .i64 5, .int .i64 0, .int .i64 0, .map (some m)]] (fun _ : Unit => .bool true) (fun _ => [cl s 40 [.bool true, .int .i64 5, .int .i64 0, .int .i64 0, .map (some m)]]) := by
  refine Ct_body (n := 11) Try.func27 rfl rfl rfl fun F w0 Q hret hnorm hp => ?_
  change WC _ _ _ _ _ _ _ (_ :: F)
  refine WC_sr fun K1 hK1 => ?_
  refine WL_rd (Rd_assign rfl) rfl rfl rfl ?_
  refine WL_end hK1 ?_
  refine WC_sr fun K2 hK2 => ?_
  refine WL_rd (Rd_move rfl) rfl rfl rfl ?_
  refine WL_rd (Rd_pne rfl rfl ud33) rfl rfl rfl ?_
  refine WL_rd (Rd_move rfl) rfl rfl rfl ?_
  refine WL_rd (Rd_move rfl) rfl rfl rfl ?_
  refine WL_rd (Rd_nilCheck rfl) rfl rfl rfl ?_
  refine WL_rd (Rd_fieldAddr rfl fo40_0) rfl rfl rfl ?_
  refine WL_rd (Rd_load rfl tk4) rfl rfl rfl ?_
  refine WL_rd (Rd_pickT rfl rfl) rfl rfl rfl ?_
  refine WL_rd (Rd_assign rfl) rfl rfl rfl ?_
  refine WL_end hK2 ?_
  refine WC_ret ?_
  exact hret.go () (Rs1 rfl rfl)

theorem snTickY {s m : Nat}  : Ct Try.prog 9 [.pointer (some ⟨s, 0, none⟩), .int .i64 3] [cl s 40 [.bool true, .int .i64 5, .int .i64 0, .int .i64 0, .map (some m)], mpP m (fun k : Int => Value.int .i64 k) (fun k : Int => Value.int .i64 k) []] (fun _ : Unit => .int .i64 0) (fun _ => [cl s 40 [.bool true, .int .i64 5, .int .i64 3, .int .i64 0, .map (some m)]]) := by
  refine Ct_body (n := 58) Try.func9 rfl rfl rfl fun F w0 Q hret hnorm hp => ?_
  change WC _ _ _ _ _ _ _ (_ :: _ :: F)
  refine WC_sr fun K1 hK1 => ?_
  refine WL_rd (Rd_assign rfl) rfl rfl rfl ?_
  refine WL_end hK1 ?_
  refine WC_seq fun K2 hK2 => ?_
  refine WC_sr fun K3 hK3 => ?_
  refine WL_rd (Rd_move rfl) rfl rfl rfl ?_
  refine WL_ac (Ac_call cf27 rfl (hs := snReadyY)) rfl rfl rfl ?_
  rintro _ _ ⟨⟨⟩, rfl, hA⟩
  simp only [List.cons_append, List.nil_append] at hA
  replace hA := hA.symm
  subst hA
  refine WL_rd (Rd_not rfl) rfl rfl rfl ?_
  refine WL_end hK3 ?_
  refine WC_condF rfl ?_
  refine WC_skip ?_
  refine Ps_next hK2 ?_
  refine WC_seq fun K4 hK4 => ?_
  refine WC_sr fun K5 hK5 => ?_
  refine WL_rd (Rd_move rfl) rfl rfl rfl ?_
  refine WL_rd (Rd_move rfl) rfl rfl rfl ?_
  refine WL_rd (Rd_nilCheck rfl) rfl rfl rfl ?_
  refine WL_rd (Rd_fieldAddr rfl fo40_2) rfl rfl rfl ?_
  refine WL_rd (Rd_load rfl tk3) rfl rfl rfl ?_
  first | refine WL_rd (Rd_isF (Rd_lssN (i := 3) rfl rfl)) rfl rfl rfl ?_ | refine WL_rd (Rd_isF (Rd_lss rfl rfl)) rfl rfl rfl ?_
  refine WL_rd (Rd_move rfl) rfl rfl rfl ?_
  refine WL_rd (Rd_move rfl) rfl rfl rfl ?_
  refine WL_rd (Rd_gtrN (i := 3) (j := 1099511627776) rfl rfl) rfl rfl rfl ?_
  refine WL_rd (Rd_pickF rfl rfl) rfl rfl rfl ?_
  refine WL_end hK5 ?_
  refine WC_condF rfl ?_
  refine WC_skip ?_
  refine Ps_next hK4 ?_
  refine WC_sr fun K6 hK6 => ?_
  refine WL_rd (Rd_move rfl) rfl rfl rfl ?_
  refine WL_rd (Rd_move rfl) rfl rfl rfl ?_
  refine WL_rd (Rd_nilCheck rfl) rfl rfl rfl ?_
  refine WL_rd (Rd_fieldAddr rfl fo40_2) rfl rfl rfl ?_
  refine WL_ac0 (Ac_store1 rfl rfl sz3) rfl rfl ?_
  rintro _ _ rfl
  refine WL_end hK6 ?_
  refine WC_seq fun K7 hK7 => ?_
  refine WC_sr fun K8 hK8 => ?_
  refine WL_rd (Rd_move rfl) rfl rfl rfl ?_
  refine WL_rd (Rd_nilCheck rfl) rfl rfl rfl ?_
  refine WL_rd (Rd_fieldAddr rfl fo40_4) rfl rfl rfl ?_
  refine WL_rd (Rd_load rfl tk38) rfl rfl rfl ?_
  refine WL_ac (Ac_range (κ := Int) (β := Int) rfl ud38) rfl rfl rfl ?_
  rintro _ _ ⟨r30, rfl, rfl⟩
  refine WL_end hK8 ?_
  refine WC_block ?_
  refine WC_loopK (σ := Unit) (fun _u => []) (fun _u => [mpN m r30 (fun k : Int => Value.int .i64 k) (fun k : Int => Value.int .i64 k) ([] : List (Int × Int)) [] none]) (fun _u => True) (fun _u => 0) (()) [0, 1, 4, 30] (by repeat (first | exact Kep.nil | apply Kep.drop rfl | apply Kep.keep rfl)) (by (try dsimp only); repeat (first | with_reducible exact Gv.nil | (with_reducible apply Gv.cons; · (repeat (first | with_reducible exact Ext.here | with_reducible apply Ext.there))))) ?_ ?_ Sub.refl ?_
  · trivial
  · (try dsimp only); exact Wk.nil
  · rintro _u _ K9 hK9
    simp only [List.cons_append, List.nil_append]
    refine WC_sr fun K10 hK10 => ?_
    refine WL_ac (Ac_next (κ := Int) (β := Int) (kf := fun k : Int => Value.int .i64 k) (vf := fun k : Int => Value.int .i64 k) (fun a b h => by injection h) rfl) rfl rfl rfl ?_
    rintro _ _ (⟨_, rfl, rfl⟩ | ⟨k, b, pre, post, hpp, _⟩)
    · skip
      refine WL_rd (Rd_ext0 rfl) rfl rfl rfl ?_
      refine WL_end hK10 ?_
      refine WC_seq fun K11 hK11 => ?_
      refine WC_condF rfl ?_
      refine WC_exit ?_
      refine Ps_next hK7 ?_
      refine WC_sr fun K12 hK12 => ?_
      refine WL_rd (Rd_assign rfl) rfl rfl rfl ?_
      refine WL_end hK12 ?_
      refine WC_ret ?_
      exact hret.go () (Rs1 rfl rfl)
    · skip
      simp at hpp

theorem sameInts0   : Ct Try.prog 26 [sl none 0 0, sl none 0 0] [] (fun _ : Unit => .bool true) (fun _ => []) := by
  refine Ct_body (n := 26) Try.func26 rfl rfl rfl fun F w0 Q hret hnorm hp => ?_
  change WC _ _ _ _ _ _ _ (F)
  refine WC_sr fun K1 hK1 => ?_
  refine WL_rd (Rd_assign rfl) rfl rfl rfl ?_
  refine WL_end hK1 ?_
  refine WC_seq fun K2 hK2 => ?_
  refine WC_sr fun K3 hK3 => ?_
  refine WL_rd (Rd_move rfl) rfl rfl rfl ?_
  refine WL_rd (Rd_len rfl rfl ud43) rfl rfl rfl ?_
  refine WL_rd (Rd_move rfl) rfl rfl rfl ?_
  refine WL_rd (Rd_len rfl rfl ud43) rfl rfl rfl ?_
  refine WL_rd (Rd_isF (Rd_neqN rfl rfl)) rfl rfl rfl ?_
  refine WL_end hK3 ?_
  refine WC_condF rfl ?_
  refine WC_skip ?_
  refine Ps_next hK2 ?_
  refine WC_seq fun K4 hK4 => ?_
  refine WC_sr fun K5 hK5 => ?_
  refine WL_rd (Rd_assign rfl) rfl rfl rfl ?_
  refine WL_end hK5 ?_
  refine WC_block ?_
  refine WC_loopK (σ := Unit) (fun _u => [(5, .int .i64 0)]) (fun _u => []) (fun _u => True) (fun _u => 0) (()) [0, 1] (by repeat (first | exact Kep.nil | apply Kep.drop rfl | apply Kep.keep rfl)) (by (try dsimp only); repeat (first | with_reducible exact Gv.nil | (with_reducible apply Gv.cons; · (repeat (first | with_reducible exact Ext.here | with_reducible apply Ext.there))))) ?_ ?_ Sub.refl ?_
  · trivial
  · (try dsimp only); exact (Wk.cons (by first | rfl | (simp only [List.length_append, List.length_cons, List.length_nil, List.length_replicate, Nat.zero_add]; rfl) | (simp; done)) Wk.nil)
  · rintro _u _ K6 hK6
    simp only [List.cons_append, List.nil_append]
    refine WC_seq fun K7 hK7 => ?_
    refine WC_sr fun K8 hK8 => ?_
    refine WL_rd (Rd_move rfl) rfl rfl rfl ?_
    refine WL_rd (Rd_move rfl) rfl rfl rfl ?_
    refine WL_rd (Rd_len rfl rfl ud43) rfl rfl rfl ?_
    refine WL_rd (Rd_isF (Rd_lssN (i := 0) rfl rfl)) rfl rfl rfl ?_
    refine WL_end hK8 ?_
    refine WC_condF rfl ?_
    refine WC_exit ?_
    refine Ps_next hK4 ?_
    refine WC_sr fun K9 hK9 => ?_
    refine WL_rd (Rd_assign rfl) rfl rfl rfl ?_
    refine WL_end hK9 ?_
    refine WC_ret ?_
    exact hret.go () (Rs1 rfl rfl)

theorem sameBytes0   : Ct Try.prog 20 [sl none 0 0, sl none 0 0] [] (fun _ : Unit => .bool true) (fun _ => []) := by
  refine Ct_body (n := 26) Try.func20 rfl rfl rfl fun F w0 Q hret hnorm hp => ?_
  change WC _ _ _ _ _ _ _ (F)
  refine WC_sr fun K1 hK1 => ?_
  refine WL_rd (Rd_assign rfl) rfl rfl rfl ?_
  refine WL_end hK1 ?_
  refine WC_seq fun K2 hK2 => ?_
  refine WC_sr fun K3 hK3 => ?_
  refine WL_rd (Rd_move rfl) rfl rfl rfl ?_
  refine WL_rd (Rd_len rfl rfl ud28) rfl rfl rfl ?_
  refine WL_rd (Rd_move rfl) rfl rfl rfl ?_
  refine WL_rd (Rd_len rfl rfl ud28) rfl rfl rfl ?_
  refine WL_rd (Rd_isF (Rd_neqN rfl rfl)) rfl rfl rfl ?_
  refine WL_end hK3 ?_
  refine WC_condF rfl ?_
  refine WC_skip ?_
  refine Ps_next hK2 ?_
  refine WC_seq fun K4 hK4 => ?_
  refine WC_sr fun K5 hK5 => ?_
  refine WL_rd (Rd_assign rfl) rfl rfl rfl ?_
  refine WL_end hK5 ?_
  refine WC_block ?_
  refine WC_loopK (σ := Unit) (fun _u => [(5, .int .i64 0)]) (fun _u => []) (fun _u => True) (fun _u => 0) (()) [0, 1] (by repeat (first | exact Kep.nil | apply Kep.drop rfl | apply Kep.keep rfl)) (by (try dsimp only); repeat (first | with_reducible exact Gv.nil | (with_reducible apply Gv.cons; · (repeat (first | with_reducible exact Ext.here | with_reducible apply Ext.there))))) ?_ ?_ Sub.refl ?_
  · trivial
  · (try dsimp only); exact (Wk.cons (by first | rfl | (simp only [List.length_append, List.length_cons, List.length_nil, List.length_replicate, Nat.zero_add]; rfl) | (simp; done)) Wk.nil)
  · rintro _u _ K6 hK6
    simp only [List.cons_append, List.nil_append]
    refine WC_seq fun K7 hK7 => ?_
    refine WC_sr fun K8 hK8 => ?_
    refine WL_rd (Rd_move rfl) rfl rfl rfl ?_
    refine WL_rd (Rd_move rfl) rfl rfl rfl ?_
    refine WL_rd (Rd_len rfl rfl ud28) rfl rfl rfl ?_
    refine WL_rd (Rd_isF (Rd_lssN (i := 0) rfl rfl)) rfl rfl rfl ?_
    refine WL_end hK8 ?_
    refine WC_condF rfl ?_
    refine WC_exit ?_
    refine Ps_next hK4 ?_
    refine WC_sr fun K9 hK9 => ?_
    refine WL_rd (Rd_assign rfl) rfl rfl rfl ?_
    refine WL_end hK9 ?_
    refine WC_ret ?_
    exact hret.go () (Rs1 rfl rfl)

theorem sameReply0   : Ct Try.prog 11 [.agg [.int .u8 0, .slice none 0 0, .slice none 0 0].toArray, .agg [.int .u8 0, .slice none 0 0, .slice none 0 0].toArray] [] (fun _ : Unit => .bool true) (fun _ => []) := by
  refine Ct_body (n := 24) Try.func11 rfl rfl rfl fun F w0 Q hret hnorm hp => ?_
  change WC _ _ _ _ _ _ _ (F)
  refine WC_sr fun K1 hK1 => ?_
  refine WL_ac (Ac_box (xs := [.int .u8 0, .slice none 0 0, .slice none 0 0]) rfl rfl) rfl rfl rfl ?_
  rintro _ _ ⟨b2, rfl, rfl⟩
  refine WL_ac (Ac_box (xs := [.int .u8 0, .slice none 0 0, .slice none 0 0]) rfl rfl) rfl rfl rfl ?_
  rintro _ _ ⟨b3, rfl, rfl⟩
  refine WL_rd (Rd_assign rfl) rfl rfl rfl ?_
  refine WL_end hK1 ?_
  refine WC_sr fun K2 hK2 => ?_
  refine WL_rd (Rd_fieldAddr rfl fo45_0) rfl rfl rfl ?_
  refine WL_rd (Rd_load rfl tk42) rfl rfl rfl ?_
  refine WL_rd (Rd_fieldAddr rfl fo45_0) rfl rfl rfl ?_
  refine WL_rd (Rd_load rfl tk42) rfl rfl rfl ?_
  first | refine WL_rd (Rd_isT (Rd_eqlN rfl rfl)) rfl rfl rfl ?_ | refine WL_rd (Rd_isT (Rd_eql rfl rfl)) rfl rfl rfl ?_
  refine WL_rd (Rd_move rfl) rfl rfl rfl ?_
  refine WL_rd (Rd_fieldAddr rfl fo45_1) rfl rfl rfl ?_
  refine WL_rd (Rd_load rfl tk43 (v := sl none 0 0)) rfl rfl rfl ?_
  refine WL_rd (Rd_fieldAddr rfl fo45_1) rfl rfl rfl ?_
  refine WL_rd (Rd_load rfl tk43 (v := sl none 0 0)) rfl rfl rfl ?_
  refine WL_ac (Ac_call cf26 rfl (hs := sameInts0)) rfl rfl rfl ?_
  rintro _ _ ⟨⟨⟩, rfl, hA⟩
  simp only [List.cons_append, List.nil_append] at hA
  replace hA := hA.symm
  subst hA
  refine WL_rd (Rd_pickT rfl rfl) rfl rfl rfl ?_
  refine WL_rd (Rd_move rfl) rfl rfl rfl ?_
  refine WL_rd (Rd_fieldAddr rfl fo45_2) rfl rfl rfl ?_
  refine WL_rd (Rd_load rfl tk28 (v := sl none 0 0)) rfl rfl rfl ?_
  refine WL_rd (Rd_fieldAddr rfl fo45_2) rfl rfl rfl ?_
  refine WL_rd (Rd_load rfl tk28 (v := sl none 0 0)) rfl rfl rfl ?_
  refine WL_ac (Ac_call cf20 rfl (hs := sameBytes0)) rfl rfl rfl ?_
  rintro _ _ ⟨⟨⟩, rfl, hA⟩
  simp only [List.cons_append, List.nil_append] at hA
  replace hA := hA.symm
  subst hA
  refine WL_rd (Rd_pickT rfl rfl) rfl rfl rfl ?_
  refine WL_rd (Rd_assign rfl) rfl rfl rfl ?_
  refine WL_end hK2 ?_
  refine WC_ret ?_
  exact hret.go () (Rs1 rfl rfl)

theorem sameStore0   : Ct Try.prog 14 [.agg [.int .i64 0, .int .i64 0, .slice none 0 0].toArray, .agg [.int .i64 0, .int .i64 0, .slice none 0 0].toArray] [] (fun _ : Unit => .bool true) (fun _ => []) := by
  refine Ct_body (n := 46) Try.func14 rfl rfl rfl fun F w0 Q hret hnorm hp => ?_
  change WC _ _ _ _ _ _ _ (F)
  refine WC_sr fun K1 hK1 => ?_
  refine WL_ac (Ac_box (xs := [.int .i64 0, .int .i64 0, .slice none 0 0]) rfl rfl) rfl rfl rfl ?_
  rintro _ _ ⟨b2, rfl, rfl⟩
  refine WL_ac (Ac_box (xs := [.int .i64 0, .int .i64 0, .slice none 0 0]) rfl rfl) rfl rfl rfl ?_
  rintro _ _ ⟨b3, rfl, rfl⟩
  refine WL_rd (Rd_assign rfl) rfl rfl rfl ?_
  refine WL_end hK1 ?_
  refine WC_seq fun K2 hK2 => ?_
  refine WC_sr fun K3 hK3 => ?_
  refine WL_rd (Rd_fieldAddr rfl fo54_0) rfl rfl rfl ?_
  refine WL_rd (Rd_load rfl tk3) rfl rfl rfl ?_
  refine WL_rd (Rd_fieldAddr rfl fo54_0) rfl rfl rfl ?_
  refine WL_rd (Rd_load rfl tk3) rfl rfl rfl ?_
  first | refine WL_rd (Rd_isF (Rd_neqN rfl rfl)) rfl rfl rfl ?_ | refine WL_rd (Rd_isF (Rd_neq rfl rfl)) rfl rfl rfl ?_
  refine WL_rd (Rd_move rfl) rfl rfl rfl ?_
  refine WL_rd (Rd_fieldAddr rfl fo54_1) rfl rfl rfl ?_
  refine WL_rd (Rd_load rfl tk3) rfl rfl rfl ?_
  refine WL_rd (Rd_fieldAddr rfl fo54_1) rfl rfl rfl ?_
  refine WL_rd (Rd_load rfl tk3) rfl rfl rfl ?_
  first | refine WL_rd (Rd_isF (Rd_neqN rfl rfl)) rfl rfl rfl ?_ | refine WL_rd (Rd_isF (Rd_neq rfl rfl)) rfl rfl rfl ?_
  refine WL_rd (Rd_pickF rfl rfl) rfl rfl rfl ?_
  refine WL_rd (Rd_move rfl) rfl rfl rfl ?_
  refine WL_rd (Rd_fieldAddr rfl fo54_2) rfl rfl rfl ?_
  refine WL_rd (Rd_load rfl tk52 (v := sl none 0 0)) rfl rfl rfl ?_
  refine WL_rd (Rd_len rfl rfl ud52) rfl rfl rfl ?_
  refine WL_rd (Rd_fieldAddr rfl fo54_2) rfl rfl rfl ?_
  refine WL_rd (Rd_load rfl tk52 (v := sl none 0 0)) rfl rfl rfl ?_
  refine WL_rd (Rd_len rfl rfl ud52) rfl rfl rfl ?_
  refine WL_rd (Rd_isF (Rd_neqN rfl rfl)) rfl rfl rfl ?_
  refine WL_rd (Rd_pickF rfl rfl) rfl rfl rfl ?_
  refine WL_end hK3 ?_
  refine WC_condF rfl ?_
  refine WC_skip ?_
  refine Ps_next hK2 ?_
  refine WC_seq fun K4 hK4 => ?_
  refine WC_sr fun K5 hK5 => ?_
  refine WL_rd (Rd_assign rfl) rfl rfl rfl ?_
  refine WL_end hK5 ?_
  refine WC_block ?_
  refine WC_loopK (σ := Unit) (fun _u => [(5, .int .i64 0)]) (fun _u => []) (fun _u => True) (fun _u => 0) (()) [2, 3] (by repeat (first | exact Kep.nil | apply Kep.drop rfl | apply Kep.keep rfl)) (by (try dsimp only); repeat (first | with_reducible exact Gv.nil | (with_reducible apply Gv.cons; · (repeat (first | with_reducible exact Ext.here | with_reducible apply Ext.there))))) ?_ ?_ Sub.refl ?_
  · trivial
  · (try dsimp only); exact (Wk.cons (by first | rfl | (simp only [List.length_append, List.length_cons, List.length_nil, List.length_replicate, Nat.zero_add]; rfl) | (simp; done)) Wk.nil)
  · rintro _u _ K6 hK6
    simp only [List.cons_append, List.nil_append]
    refine WC_seq fun K7 hK7 => ?_
    refine WC_sr fun K8 hK8 => ?_
    refine WL_rd (Rd_move rfl) rfl rfl rfl ?_
    refine WL_rd (Rd_fieldAddr rfl fo54_2) rfl rfl rfl ?_
    refine WL_rd (Rd_load rfl tk52 (v := sl none 0 0)) rfl rfl rfl ?_
    refine WL_rd (Rd_len rfl rfl ud52) rfl rfl rfl ?_
    refine WL_rd (Rd_isF (Rd_lssN (i := 0) rfl rfl)) rfl rfl rfl ?_
    refine WL_end hK8 ?_
    refine WC_condF rfl ?_
    refine WC_exit ?_
    refine Ps_next hK4 ?_
    refine WC_sr fun K9 hK9 => ?_
    refine WL_rd (Rd_assign rfl) rfl rfl rfl ?_
    refine WL_end hK9 ?_
    refine WC_ret ?_
    exact hret.go () (Rs1 rfl rfl)
end Go.Proofs.Ytoakfknnaiapiaa
