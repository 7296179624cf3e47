/-
  Contracts of functions that the claim reaches, or the logic and the plain laws that they rest on, or the row over them. (Conditions: none beyond the statement.)
-/
import Derived.Test.YtilmiikfjcdllaaRows
import Derived.Test.YtilmiikfjcdllaaLibA
import Derived.Test.YtilmiikfjcdllaaLibB
set_option linter.all false
namespace Go.Proofs.Ytilmiikfjcdllaa
open Go.RowKit Go.SL Go.ChangeShapes Go.WideShapes Go.ChangeAt
set_option maxHeartbeats 1000000
set_option maxRecDepth 20000
set_option linter.all false

namespace bulks
theorem one_le {H : Type} (d : DataW H) : 1 ≤ Rows.uptoBulk d := by
  cases d with
  | lit l => cases l <;> simp [Rows.uptoBulk]
  | _ => simp [Rows.uptoBulk]
theorem part_le {H : Type} {d : DataW H} {l : List (DataW H)} (h : d ∈ l) : Rows.uptoBulk d ≤ Rows.uptoBulkAll l := by
  induction l with
  | nil => cases h
  | cons x r ih =>
    simp only [Rows.uptoBulkAll]
    rcases List.mem_cons.1 h with e | e
    · subst e; omega
    · have := ih e; omega
theorem length_le {H : Type} (l : List (DataW H)) : l.length ≤ Rows.uptoBulkAll l := by
  induction l with
  | nil => simp
  | cons x r ih => have := one_le x; simp only [Rows.uptoBulkAll, List.length_cons]; omega
theorem bound {H : Type} {l : List (DataW H)} (hk : Rows.uptoSmall H l = true) : Rows.uptoBulkAll l ≤ 1048576 := of_decide_eq_true hk
theorem slice {H : Type} {d : DataW H} {l : List (DataW H)} (hk : Rows.uptoSmall H l = true) (hm : d ∈ l) : ∀ ds rs, d = .slice ds rs → ds.length ≤ 1048576 := by
  rintro ds rs rfl
  have h1 := part_le hm
  have h2 := bound hk
  have h3 := length_le ds
  simp only [Rows.uptoBulk] at h1
  omega
end bulks
theorem meas {H : Type} : Meas (H := H) Rows.uptoBulk where
  agg xs x h := by have := bulks.part_le h; simp only [Rows.uptoBulk]; omega
  len ds rs := by have := bulks.length_le ds; simp only [Rows.uptoBulk]; omega
  el ds rs d h := by have := bulks.part_le h; simp only [Rows.uptoBulk]; omega
  str s := by simp [Rows.uptoBulk]
theorem own0 : ownKnob Try.prog.godebug = none := by kernel_rfl
theorem laid0 : laidOutB Try.prog = true := by kernel_rfl

def initW : List Char := Char.ofNat 104 :: Char.ofNat 97 :: Char.ofNat 114 :: Char.ofNat 110 :: Char.ofNat 101 :: Char.ofNat 115 :: Char.ofNat 115 :: Char.ofNat 32 :: Char.ofNat 97 :: Char.ofNat 101 :: Char.ofNat 97 :: Char.ofNat 99 :: Char.ofNat 49 :: Char.ofNat 55 :: Char.ofNat 57 :: Char.ofNat 98 :: Char.ofNat 49 :: Char.ofNat 55 :: Char.ofNat 98 :: Char.ofNat 99 :: Char.ofNat 102 :: Char.ofNat 53 :: Char.ofNat 49 :: Char.ofNat 53 :: Char.ofNat 57 :: Char.ofNat 101 :: Char.ofNat 99 :: Char.ofNat 99 :: Char.ofNat 102 :: Char.ofNat 48 :: Char.ofNat 100 :: Char.ofNat 101 :: Char.ofNat 53 :: Char.ofNat 99 :: Char.ofNat 97 :: Char.ofNat 53 :: Char.ofNat 99 :: Char.ofNat 56 :: Char.ofNat 48 :: Char.ofNat 49 :: Char.ofNat 99 :: Char.ofNat 102 :: Char.ofNat 53 :: Char.ofNat 55 :: Char.ofNat 48 :: Char.ofNat 102 :: Char.ofNat 55 :: Char.ofNat 55 :: Char.ofNat 55 :: Char.ofNat 51 :: Char.ofNat 98 :: Char.ofNat 49 :: Char.ofNat 57 :: Char.ofNat 51 :: Char.ofNat 55 :: Char.ofNat 57 :: Char.ofNat 102 :: Char.ofNat 51 :: Char.ofNat 53 :: Char.ofNat 48 :: Char.ofNat 57 :: Char.ofNat 97 :: Char.ofNat 49 :: Char.ofNat 100 :: Char.ofNat 50 :: Char.ofNat 51 :: Char.ofNat 51 :: Char.ofNat 51 :: Char.ofNat 54 :: Char.ofNat 48 :: Char.ofNat 48 :: Char.ofNat 101 :: Char.ofNat 32 :: Char.ofNat 99 :: Char.ofNat 117 :: Char.ofNat 116 :: Char.ofNat 32 :: Char.ofNat 97 :: Char.ofNat 116 :: Char.ofNat 32 :: Char.ofNat 115 :: Char.ofNat 116 :: Char.ofNat 114 :: Char.ofNat 111 :: Char.ofNat 110 :: Char.ofNat 103 :: Char.ofNat 114 :: Char.ofNat 111 :: Char.ofNat 111 :: Char.ofNat 109 :: Char.ofNat 47 :: Char.ofNat 115 :: Char.ofNat 116 :: Char.ofNat 114 :: Char.ofNat 111 :: Char.ofNat 110 :: Char.ofNat 103 :: Char.ofNat 114 :: Char.ofNat 111 :: Char.ofNat 111 :: Char.ofNat 109 :: Char.ofNat 108 :: Char.ofNat 97 :: Char.ofNat 119 :: Char.ofNat 50 :: Char.ofNat 51 :: Char.ofNat 46 :: Char.ofNat 72 :: Char.ofNat 97 :: Char.ofNat 112 :: Char.ofNat 112 :: Char.ofNat 121 :: Char.ofNat 71 :: Char.ofNat 114 :: Char.ofNat 111 :: Char.ofNat 119 :: Char.ofNat 115 :: Char.ofNat 32 :: Char.ofNat 115 :: Char.ofNat 116 :: Char.ofNat 114 :: Char.ofNat 111 :: Char.ofNat 110 :: Char.ofNat 103 :: Char.ofNat 114 :: Char.ofNat 111 :: Char.ofNat 111 :: Char.ofNat 109 :: Char.ofNat 47 :: Char.ofNat 115 :: Char.ofNat 116 :: Char.ofNat 114 :: Char.ofNat 111 :: Char.ofNat 110 :: Char.ofNat 103 :: Char.ofNat 114 :: Char.ofNat 111 :: Char.ofNat 111 :: Char.ofNat 109 :: Char.ofNat 108 :: Char.ofNat 97 :: Char.ofNat 119 :: Char.ofNat 50 :: Char.ofNat 51 :: Char.ofNat 46 :: Char.ofNat 72 :: Char.ofNat 97 :: Char.ofNat 112 :: Char.ofNat 112 :: Char.ofNat 121 :: Char.ofNat 78 :: Char.ofNat 97 :: Char.ofNat 109 :: Char.ofNat 101 :: Char.ofNat 115 :: Char.ofNat 32 :: Char.ofNat 115 :: Char.ofNat 116 :: Char.ofNat 114 :: Char.ofNat 111 :: Char.ofNat 110 :: Char.ofNat 103 :: Char.ofNat 114 :: Char.ofNat 111 :: Char.ofNat 111 :: Char.ofNat 109 :: Char.ofNat 47 :: Char.ofNat 115 :: Char.ofNat 116 :: Char.ofNat 114 :: Char.ofNat 111 :: Char.ofNat 110 :: Char.ofNat 103 :: Char.ofNat 114 :: Char.ofNat 111 :: Char.ofNat 111 :: Char.ofNat 109 :: Char.ofNat 108 :: Char.ofNat 97 :: Char.ofNat 119 :: Char.ofNat 50 :: Char.ofNat 51 :: Char.ofNat 46 :: Char.ofNat 72 :: Char.ofNat 97 :: Char.ofNat 112 :: Char.ofNat 112 :: Char.ofNat 121 :: Char.ofNat 76 :: Char.ofNat 97 :: Char.ofNat 115 :: Char.ofNat 116 :: Char.ofNat 115 :: Char.ofNat 32 :: Char.ofNat 115 :: Char.ofNat 116 :: Char.ofNat 114 :: Char.ofNat 111 :: Char.ofNat 110 :: Char.ofNat 103 :: Char.ofNat 114 :: Char.ofNat 111 :: Char.ofNat 111 :: Char.ofNat 109 :: Char.ofNat 47 :: Char.ofNat 115 :: Char.ofNat 116 :: Char.ofNat 114 :: Char.ofNat 111 :: Char.ofNat 110 :: Char.ofNat 103 :: Char.ofNat 114 :: Char.ofNat 111 :: Char.ofNat 111 :: Char.ofNat 109 :: Char.ofNat 108 :: Char.ofNat 97 :: Char.ofNat 119 :: Char.ofNat 50 :: Char.ofNat 51 :: Char.ofNat 46 :: Char.ofNat 72 :: Char.ofNat 97 :: Char.ofNat 112 :: Char.ofNat 112 :: Char.ofNat 121 :: Char.ofNat 77 :: Char.ofNat 97 :: Char.ofNat 116 :: Char.ofNat 99 :: Char.ofNat 104 :: Char.ofNat 101 :: Char.ofNat 115 :: Char.ofNat 32 :: Char.ofNat 115 :: Char.ofNat 116 :: Char.ofNat 114 :: Char.ofNat 111 :: Char.ofNat 110 :: Char.ofNat 103 :: Char.ofNat 114 :: Char.ofNat 111 :: Char.ofNat 111 :: Char.ofNat 109 :: Char.ofNat 47 :: Char.ofNat 115 :: Char.ofNat 116 :: Char.ofNat 114 :: Char.ofNat 111 :: Char.ofNat 110 :: Char.ofNat 103 :: Char.ofNat 114 :: Char.ofNat 111 :: Char.ofNat 111 :: Char.ofNat 109 :: Char.ofNat 108 :: Char.ofNat 97 :: Char.ofNat 119 :: Char.ofNat 50 :: Char.ofNat 51 :: Char.ofNat 46 :: Char.ofNat 72 :: Char.ofNat 97 :: Char.ofNat 112 :: Char.ofNat 112 :: Char.ofNat 121 :: Char.ofNat 67 :: Char.ofNat 97 :: Char.ofNat 108 :: Char.ofNat 108 :: Char.ofNat 115 :: []
theorem initO : Try.prog.initOrder = "harness aeac179b17bcf5159eccf0de5ca5c801cf570f7773b19379f3509a1d2333600e cut at strongroom/strongroomlaw23.HappyGrows strongroom/strongroomlaw23.HappyNames strongroom/strongroomlaw23.HappyLasts strongroom/strongroomlaw23.HappyMatches strongroom/strongroomlaw23.HappyCalls" := by kernel_rfl
theorem initC : Try.prog.initOrder.toList = initW := by rw [initO]; exact String.toList_ofList
theorem headLifts0 : Try.prog.headLifts = [] := by unfold Program.headLifts; rw [initC]; kernel_rfl
theorem mayEnter0 : Try.prog.mayEnter = true := by
  refine enter_of initC fun Q hQ h1 h2 h3 => ?_
  unfold Program.mayEnter
  rw [hQ]
  simp only [h1, h2, h3]
  kernel_rfl
theorem lifts0 : Try.prog.liftsFinal = Rows.happyNamesRow.lifted := by unfold Program.liftsFinal Program.headLifts; rw [initC]; kernel_rfl
theorem make0 : Try.prog.make = some Rows.happyNamesRow.make := by
  refine make_of initC fun Q hQ hh => ?_
  unfold Program.make
  rw [hQ, hh, headLifts0]
  kernel_rfl
theorem stops0 : Try.prog.stops = [] := by kernel_rfl
theorem knobs0 : Try.prog.stopKnobs = [] := by kernel_rfl
theorem heard0 : Try.prog.stopsHeard = true := by kernel_rfl
theorem plainKeys0 : Try.prog.plainKeys = Rows.happyNamesRow.plainKeys := by kernel_rfl
theorem rowed0 : mapsRowed Try.prog = true := by kernel_rfl
end Go.Proofs.Ytilmiikfjcdllaa
