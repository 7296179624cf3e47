/-
  Contracts of functions that the claim reaches, or the logic and the plain laws that they rest on, or the row over them. (Conditions: none beyond the statement.)
-/
import Derived.Test.YthkchjcodibaeaaZqRdD
import Derived.Test.YthkchjcodibaeaaZqBulkS
import Derived.ProofKit
set_option linter.all false
namespace Go.Proofs.Ythkchjcodibaeaa
open Go.RowKit Go.SL Go.ShM Go.ChangeShapes Go.WideShapes Go.ChangeAt
set_option maxHeartbeats 1000000
set_option maxRecDepth 20000
set_option linter.all false

theorem tagBack_lifted (os : Os) (started : os.Started) (H : Type) (enc : TypeId × Value → H) (F : Stop.Interp) :
    ReturnsInHanded {} Try.checked os 15 .any ((Rows.OpenSpec.upto Rows.tagBackSpec).pre6 enc Try.prog Try.f15 Rows.tagBackUptoRow.domain false) (((Rows.OpenSpec.upto Rows.tagBackSpec).at F).post enc Try.prog Try.f15 false true false false) := by
  refine returnsInHanded_of_cond (C := Try.checked) (s := Rows.OpenSpec.upto Rows.tagBackSpec) (k := Rows.uptoSmall) rfl own0 started (by kernel_rfl) Try.func15
    (OpenSpec.witness (enc := enc) (C := Try.checked) (s := Rows.OpenSpec.upto Rows.tagBackSpec) (k := Rows.uptoSmall) rfl false ⟨#[], #[.int .u8 0, .slice none 0 0, .slice none 0 0], []⟩ 8 (by kernel_rfl) (by kernel_rfl) (by kernel_rfl) (x := ([.lit (.int .u8 0), .nil, .nil], [], [])) (by kernel_rfl) rfl (by kernel_rfl)) ?_
  intro W base args ds gs before hval hW _ hk _
  have hW' := hW
  obtain ⟨p, q, hA0, hV, rfl, hfz, hnd⟩ := hW
  have hA : DataW.TrodAll enc Try.prog W 0 (fun _ => true) true Try.f15.params.toList args.toList ds p := hA0
  rw [Try.params15] at hA hval
  clear hA0
  obtain ⟨v0, vs0, d0, ds0, p0, q0, hargs, rfl, rfl, h0, r0⟩ := trodAll_cons hA
  obtain ⟨v1, vs1, d1, ds1, p1, q1, rfl, rfl, rfl, h1, r1⟩ := trodAll_cons r0
  obtain ⟨v2, vs2, d2, ds2, p2, q2, rfl, rfl, rfl, h2, r2⟩ := trodAll_cons r1
  obtain ⟨rfl, rfl, rfl⟩ := trodAll_nil r2
  obtain rfl : args = #[v0, v1, v2] := by cases args; simp_all
  obtain ⟨rfl, rfl⟩ := trodVars_none hV
  obtain ⟨a0, rfl, rfl, rfl, w0⟩ := open_int Try.underlying5 (hval 0 5 v0 rfl rfl) h0
  obtain ⟨t0, rfl⟩ := u8_of w0
  obtain ⟨qs1, ao1, cap1, hS1, hc1, hP1, hj1, hn1⟩ := open_lists measS ud27 ud32 ud5 sz32 sz5 (hval 1 27 v1 rfl rfl) h1 (N := 1048576) (Nat.le_trans (bulks.part_le (by simp)) (bulks.bound hk))
  obtain ⟨l2, ao2, cap2, hS2, hn2, hw2⟩ := open_slice_of (f := eU .u8 (w := 8)) (N := 1048576) ud32 sz5 (hval 2 32 v2 rfl rfl) h2 (el_u8 ud5) (bulks.slice hk (by simp))
  refine ((TagBack_ct (X := old W) (t := t0) (hS := hS1) (hP := fun p h => (hP1 p h).1) (hB := hS2) (hn := by omega) (hk := by omega) (hb := by omega)).calls W (sat_old W)).mono fun e w' ⟨_, he, hs, hk'⟩ => ⟨_, he, ?_⟩
  have hpost : Rows.tagBackSpec.post enc Try.prog Try.f15 false true false false W #[_, _, _] (.bool true) w' := law_post (bt := 4) laid0 (by kernel_rfl) hW' rfl rfl Try.underlying4 rfl (below_of_old hs hk')
  exact hpost
theorem tagBack_holds : Rows.TagBackUptoSaid :=
  OpenClaim.holds_of_cond 15 Try.f15 rfl rfl rfl rfl rfl rfl rfl ⟨rfl, rfl, rfl, rfl, rfl⟩ rfl rfl rfl rfl rfl (by kernel_rfl) Try.func15 (facts_of (P := Try.prog) fun Q q0 q1 q2 q3 q4 q5 q6 q7 q8 q9 q10 q11 q12 q13 q14 q15 q16 q17 q18 q19 q20 q21 q22 q23 q24 q25 => by unfold joinedFacts; simp only [q0, q1, q2, q3, q4, q5, q6, q7, q8, q9, q10, q11, q12, q13, q14, q15, q16, q17, q18, q19, q20, q21, q22, q23, q24, q25]; simp only [laid0, rowed0, stops0, knobs0, plainKeys0, heard0, mayEnter0, lifts0, make0]; kernel_rfl)
    (of_decide_eq_true (by kernel_rfl)) (by unfold Func.isWrapper; first | (rw [if_pos (by decide +kernel)]; kernel_rfl) | (rw [if_neg (by decide +kernel)]; exact ⟨rfl, rfl⟩))
    (fun os started H enc _ F => tagBack_lifted os started H enc F)
end Go.Proofs.Ythkchjcodibaeaa
