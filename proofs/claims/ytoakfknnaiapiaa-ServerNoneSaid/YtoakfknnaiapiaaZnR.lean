/-
  Contracts of functions that the claim reaches, or the logic and the plain laws that they rest on, or the row over them. (Conditions: none beyond the statement.)
-/
import Derived.Test.YtoakfknnaiapiaaZnB
import Derived.Test.YtoakfknnaiapiaaZnBulk
import Derived.ProofKit
set_option linter.all false
namespace Go.Proofs.Ytoakfknnaiapiaa
open Go.RowKit Go.SL Go.ChangeShapes Go.WideShapes Go.ChangeAt
set_option maxHeartbeats 1000000
set_option maxRecDepth 20000
set_option linter.all false

theorem serverNone_lifted (os : Os) (started : os.Started) (H : Type) (enc : TypeId × Value → H) :
    ReturnsInHanded {} Try.checked os 3 .any (Rows.serverNoneSpec.pre6 enc Try.prog Try.f3 Rows.serverNoneRow.domain false) (Rows.serverNoneSpec.post enc Try.prog Try.f3 false true false false) := by
  refine returnsInHanded_of_change (C := Try.checked) own0 started (by kernel_rfl) Try.func3
    (ChangeSpec.witness6 (enc := enc) (C := Try.checked) false ⟨#[], #[.agg #[.int .i64 0, .int .i64 0, .int .i64 0, .int .i64 0, .int .u8 0, .int .u8 0, .int .u8 0, .int .u8 0, .int .u8 0, .int .u8 0, .int .u8 0, .int .u8 0, .int .u8 0, .int .u8 0, .int .u8 0, .int .u8 0, .int .u8 0, .int .u8 0, .int .u8 0, .int .u8 0, .int .u8 0, .int .i64 0, .int .i64 0, .int .i64 0, .int .u32 0, .int .i64 0, .slice none 0 0]], []⟩ 8 (by kernel_rfl) (by kernel_rfl) (by kernel_rfl) (by kernel_rfl)) ?_
  intro W base args ds gs before hval hW hcnd _
  have hW' := hW
  obtain ⟨p, q, hA0, hV, rfl, hfz, hnd⟩ := hW
  have hA : DataW.TrodAll enc Try.prog W 0 (fun _ => true) true Try.f3.params.toList args.toList ds p := hA0
  rw [Try.params3] at hA hval
  clear hA0
  obtain ⟨v0, vs0, d0, ds0, p0, q0, hargs, rfl, rfl, h0, r0⟩ := trodAll_cons hA
  obtain ⟨rfl, rfl, rfl⟩ := trodAll_nil r0
  obtain rfl : args = #[v0] := by cases args; simp_all
  obtain ⟨rfl, rfl⟩ := trodVars_none hV
  obtain ⟨cs0, rfl, w0⟩ := open_fits meas (N := Rows.uptoBulk d0) Try.underlying32 (hval 0 32 v0 rfl rfl) h0 (n := 9) (ks := [.int .i64, .int .i64, .int .i64, .int .i64, .int .u8, .ints .u8 16, .int .i64, .int .i64, .int .i64, .int .u32, .int .i64, .slice 5]) (by kernel_rfl) (Nat.le_refl _)
  obtain ⟨c0_0, rc0_0, rfl, wc0_0, w0⟩ := w0
  obtain ⟨c0_1, rc0_1, rfl, wc0_1, w0⟩ := w0
  obtain ⟨c0_2, rc0_2, rfl, wc0_2, w0⟩ := w0
  obtain ⟨c0_3, rc0_3, rfl, wc0_3, w0⟩ := w0
  obtain ⟨c0_4, rc0_4, rfl, wc0_4, w0⟩ := w0
  obtain ⟨lc0_5, rc0_5, rfl, ⟨nc0_5, wc0_5⟩, w0⟩ := w0
  obtain ⟨c0_5_0, lc0_5_0, rfl, nc0_5_0⟩ := unc nc0_5
  obtain ⟨c0_5_1, lc0_5_1, rfl, nc0_5_1⟩ := unc nc0_5_0
  obtain ⟨c0_5_2, lc0_5_2, rfl, nc0_5_2⟩ := unc nc0_5_1
  obtain ⟨c0_5_3, lc0_5_3, rfl, nc0_5_3⟩ := unc nc0_5_2
  obtain ⟨c0_5_4, lc0_5_4, rfl, nc0_5_4⟩ := unc nc0_5_3
  obtain ⟨c0_5_5, lc0_5_5, rfl, nc0_5_5⟩ := unc nc0_5_4
  obtain ⟨c0_5_6, lc0_5_6, rfl, nc0_5_6⟩ := unc nc0_5_5
  obtain ⟨c0_5_7, lc0_5_7, rfl, nc0_5_7⟩ := unc nc0_5_6
  obtain ⟨c0_5_8, lc0_5_8, rfl, nc0_5_8⟩ := unc nc0_5_7
  obtain ⟨c0_5_9, lc0_5_9, rfl, nc0_5_9⟩ := unc nc0_5_8
  obtain ⟨c0_5_10, lc0_5_10, rfl, nc0_5_10⟩ := unc nc0_5_9
  obtain ⟨c0_5_11, lc0_5_11, rfl, nc0_5_11⟩ := unc nc0_5_10
  obtain ⟨c0_5_12, lc0_5_12, rfl, nc0_5_12⟩ := unc nc0_5_11
  obtain ⟨c0_5_13, lc0_5_13, rfl, nc0_5_13⟩ := unc nc0_5_12
  obtain ⟨c0_5_14, lc0_5_14, rfl, nc0_5_14⟩ := unc nc0_5_13
  obtain ⟨c0_5_15, lc0_5_15, rfl, nc0_5_15⟩ := unc nc0_5_14
  obtain rfl : lc0_5_15 = [] := List.eq_nil_of_length_eq_zero nc0_5_15
  obtain ⟨c0_6, rc0_6, rfl, wc0_6, w0⟩ := w0
  obtain ⟨c0_7, rc0_7, rfl, wc0_7, w0⟩ := w0
  obtain ⟨c0_8, rc0_8, rfl, wc0_8, w0⟩ := w0
  obtain ⟨c0_9, rc0_9, rfl, wc0_9, w0⟩ := w0
  obtain ⟨c0_10, rc0_10, rfl, wc0_10, w0⟩ := w0
  obtain ⟨c0_11, rc0_11, rfl, wc0_11, w0⟩ := w0
  obtain ⟨lc0_11, aoc0_11, capc0_11, hSc0_11, hcc0_11, hnc0_11, hwc0_11⟩ := wc0_11
  simp only [Fits] at w0
  subst w0
  simp only [List.map_cons, List.map_nil, List.cons_append, List.nil_append] at *
  have e11 := hSc0_11.val
  subst e11
  refine (((None_ct (hl := rfl) (hone := by simp [Value.oneCell']) (h2 := rfl) (h21 := rfl) (h26 := rfl)).frame [old W]).calls W (sat_old W)).mono fun e w' ⟨_, he, hs, hk'⟩ => ⟨_, he, ?_⟩
  have hpost : Rows.serverNoneSpec.post enc Try.prog Try.f3 false true false false W #[_] (.bool true) w' := law_post (bt := 4) laid0 (by kernel_rfl) hW' rfl rfl Try.underlying4 rfl (below_of_old hs hk')
  exact hpost
theorem serverNone_holds : Rows.ServerNoneSaid :=
  OpenClaim.holds_of_wide 3 Try.f3 rfl rfl rfl rfl rfl rfl rfl ⟨rfl, rfl, rfl, rfl, rfl⟩ rfl rfl rfl rfl rfl (by kernel_rfl) Try.func3 (facts_of (P := Try.prog) fun Q q0 q1 q2 q3 q4 q5 q6 q7 q8 q9 q10 q11 q12 q13 q14 q15 q16 q17 q18 q19 q20 q21 q22 q23 q24 q25 => by unfold joinedFacts; simp only [q0, q1, q2, q3, q4, q5, q6, q7, q8, q9, q10, q11, q12, q13, q14, q15, q16, q17, q18, q19, q20, q21, q22, q23, q24, q25]; simp only [laid0, rowed0, stops0, knobs0, plainKeys0, heard0, mayEnter0, lifts0, make0]; kernel_rfl)
    (of_decide_eq_true (by kernel_rfl)) (by unfold Func.isWrapper; first | (rw [if_pos (by decide +kernel)]; kernel_rfl) | (rw [if_neg (by decide +kernel)]; exact ⟨rfl, rfl⟩))
    (fun os started H enc _ => serverNone_lifted os started H enc)
end Go.Proofs.Ytoakfknnaiapiaa
