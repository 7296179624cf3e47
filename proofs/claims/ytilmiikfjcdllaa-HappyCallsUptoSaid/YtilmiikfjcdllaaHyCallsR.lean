/-
  Contracts of functions that the claim reaches, or the logic and the plain laws that they rest on, or the row over them. (Conditions: none beyond the statement.)
-/
import Derived.Test.YtilmiikfjcdllaaHyGg
import Derived.Test.YtilmiikfjcdllaaHyBulk
import Derived.ProofKit
set_option linter.all false
namespace Go.Proofs.Ytilmiikfjcdllaa
open Go.RowKit Go.SL Go.ShM Go.HyM Go.Fl Go.ChangeShapes Go.WideShapes Go.ChangeAt
set_option maxHeartbeats 1000000
set_option maxRecDepth 20000
set_option linter.all false

theorem cksO47 : cks Try.prog 8 47 = some [.int .i64, .slice 24, .slice 35, .int .i64] := by kernel_rfl
theorem cksO44 : cks Try.prog 9 44 = some [.slice 47] := by kernel_rfl
theorem cksO24 : cks Try.prog 8 24 = some [.int .i64, .int .i64] := by kernel_rfl
theorem cofO : Try.prog.cellsOf 47 = 4 := by kernel_rfl
theorem cofP : Try.prog.cellsOf 24 = 2 := by kernel_rfl
theorem cofF : Try.prog.cellsOf 35 = 1 := by kernel_rfl

theorem happyCalls_lifted (os : Os) (started : os.Started) (H : Type) (enc : TypeId × Value → H) (F : Stop.Interp) :
    ReturnsInHanded {} Try.checked os 7 .any ((Rows.OpenSpec.upto Rows.happyCallsSpec).pre6 enc Try.prog Try.f7 Rows.happyCallsUptoRow.domain false) (((Rows.OpenSpec.upto Rows.happyCallsSpec).at F).post enc Try.prog Try.f7 false true false false) := by
  refine returnsInHanded_of_cond (C := Try.checked) (s := Rows.OpenSpec.upto Rows.happyCallsSpec) (k := Rows.uptoSmall) rfl own0 started (by kernel_rfl) Try.func7
    (OpenSpec.witness (enc := enc) (C := Try.checked) (s := Rows.OpenSpec.upto Rows.happyCallsSpec) (k := Rows.uptoSmall) rfl false ⟨#[], #[.slice none 0 0], []⟩ 8 (by kernel_rfl) (by kernel_rfl) (by kernel_rfl) (x := ([.nil], [], [])) (by kernel_rfl) rfl (by kernel_rfl)) ?_
  intro W base args ds gs before hval hW _ hk _
  have hW' := hW
  obtain ⟨p, q, hA0, hV, rfl, hfz, hnd⟩ := hW
  have hA : DataW.TrodAll enc Try.prog W 0 (fun _ => true) true Try.f7.params.toList args.toList ds p := hA0
  rw [Try.params7] at hA hval
  clear hA0
  obtain ⟨v0, vs0, d0, ds0, p0, q0, hargs, rfl, rfl, h0, r0⟩ := trodAll_cons hA
  obtain ⟨rfl, rfl, rfl⟩ := trodAll_nil r0
  obtain rfl : args = #[v0] := by cases args; simp_all
  obtain ⟨rfl, rfl⟩ := trodVars_none hV
  obtain ⟨qs0, ao0, cap0, hS0, hQ0, hn0⟩ := open_hqs meas (N := 1048576) ud44 (hval 0 44 v0 rfl rfl) h0 cksO44 cksO47 cofO cksO24 cofP Try.underlying35 cofF (Nat.le_trans (bulks.part_le (by simp)) (bulks.bound hk))
  refine ((Calls_ct (W := W) hS0 hQ0 hn0).calls W (sat_old W)).mono fun e w' ⟨_, he, hs, hk'⟩ => ⟨_, he, ?_⟩
  have hpost : Rows.happyCallsSpec.post enc Try.prog Try.f7 false true false false W #[_] (.bool true) w' := law_post (bt := 4) laid0 (by kernel_rfl) hW' rfl rfl Try.underlying4 rfl (below_of_old hs hk')
  exact hpost
theorem happyCalls_holds : Rows.HappyCallsUptoSaid :=
  OpenClaim.holds_of_cond 7 Try.f7 rfl rfl rfl rfl rfl rfl rfl ⟨rfl, rfl, rfl, rfl, rfl⟩ rfl rfl rfl rfl rfl (by kernel_rfl) Try.func7 (facts_of (P := Try.prog) fun Q q0 q1 q2 q3 q4 q5 q6 q7 q8 q9 q10 q11 q12 q13 q14 q15 q16 q17 q18 q19 q20 q21 q22 q23 q24 q25 => by unfold joinedFacts; simp only [q0, q1, q2, q3, q4, q5, q6, q7, q8, q9, q10, q11, q12, q13, q14, q15, q16, q17, q18, q19, q20, q21, q22, q23, q24, q25]; simp only [laid0, rowed0, stops0, knobs0, plainKeys0, heard0, mayEnter0, lifts0, make0]; kernel_rfl)
    (of_decide_eq_true (by kernel_rfl)) (by unfold Func.isWrapper; first | (rw [if_pos (by decide +kernel)]; kernel_rfl) | (rw [if_neg (by decide +kernel)]; exact ⟨rfl, rfl⟩))
    (fun os started H enc _ F => happyCalls_lifted os started H enc F)
end Go.Proofs.Ytilmiikfjcdllaa
-- Names_ct
