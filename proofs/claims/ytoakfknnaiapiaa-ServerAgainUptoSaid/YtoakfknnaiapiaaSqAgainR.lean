/-
  Contracts of functions that the claim reaches, or the logic and the plain laws that they rest on, or the row over them. (Conditions: none beyond the statement.)
-/
import Derived.Test.YtoakfknnaiapiaaSqD5
import Derived.Test.YtoakfknnaiapiaaSqArg
import Derived.Test.YtoakfknnaiapiaaSqBulk
import Derived.ProofKit
set_option linter.all false
namespace Go.Proofs.Ytoakfknnaiapiaa
open Go.RowKit Go.SL Go.ShM Go.SvM Go.ChangeShapes Go.WideShapes Go.ChangeAt
set_option maxHeartbeats 1000000
set_option maxRecDepth 20000
set_option linter.all false

theorem again_all {W : World} {v w1 w2 : Value} {kvs : List KV} {ao ao1 ao2 : Option Addr} {cap cap1 cap2 : Nat} {room tick : Int} {qs1 qs2 : List AcQ} (hS : Sv [old W] v 19 eKV kvs ao cap) (hK : OKst W 1048576 kvs) (hA1 : Sv [old W] w1 27 eAct qs1 ao1 cap1) (hQ1 : OKas W 1048576 qs1) (hA2 : Sv [old W] w2 27 eAct qs2 ao2 cap2) (hQ2 : OKas W 1048576 qs2) :
    Ct Try.prog 5 [.agg [.int .i64 room, .int .i64 tick, v].toArray, w1, w2] [old W] (fun _ : Unit => .bool true) (fun _ => [old W]) := by
  by_cases hwf : Wf room ⟨tick, kvs.map KV.kp⟩
  · exact again_ok hS hK.1 (by have := hK.2.1; omega) (fun k hk => by have := hK.2.2.2 k hk; omega) hwf hA1 (fun a ha => (hQ1.2 a ha).1) (by have := hQ1.1; omega) hA2 (fun a ha => (hQ2.2 a ha).1) (by have := hQ2.1; omega)
  · exact again_no hS hK.1 (by have := hK.2.1; omega) (fun k hk => by have := hK.2.2.2 k hk; omega) hwf

theorem serverAgain_lifted (os : Os) (started : os.Started) (H : Type) (enc : TypeId × Value → H) (F : Stop.Interp) :
    ReturnsInHanded {} Try.checked os 5 .any ((Rows.OpenSpec.upto Rows.serverAgainSpec).pre6 enc Try.prog Try.f5 Rows.serverAgainUptoRow.domain false) (((Rows.OpenSpec.upto Rows.serverAgainSpec).at F).post enc Try.prog Try.f5 false true false false) := by
  refine returnsInHanded_of_cond (C := Try.checked) (s := Rows.OpenSpec.upto Rows.serverAgainSpec) (k := Rows.uptoSmall) rfl own0 started (by kernel_rfl) Try.func5
    (OpenSpec.witness (enc := enc) (C := Try.checked) (s := Rows.OpenSpec.upto Rows.serverAgainSpec) (k := Rows.uptoSmall) rfl false ⟨#[], #[.agg #[.int .i64 0, .int .i64 0, .slice none 0 0], .slice none 0 0, .slice none 0 0], []⟩ 8 (by kernel_rfl) (by kernel_rfl) (by kernel_rfl) (x := ([.agg [.lit (.int .i64 0), .lit (.int .i64 0), .nil], .nil, .nil], [], [])) (by kernel_rfl) rfl (by kernel_rfl)) ?_
  intro W base args ds gs before hval hW _ hk _
  have hW' := hW
  obtain ⟨p, q, hA0, hV, rfl, hfz, hnd⟩ := hW
  have hA : DataW.TrodAll enc Try.prog W 0 (fun _ => true) true Try.f5.params.toList args.toList ds p := hA0
  rw [Try.params5] at hA hval
  clear hA0
  obtain ⟨v0, vs0, d0, ds0, p0, q0, hargs, rfl, rfl, h0, r0⟩ := trodAll_cons hA
  obtain ⟨v1, vs1, d1, ds1, p1, q1, rfl, rfl, rfl, h1, r1⟩ := trodAll_cons r0
  obtain ⟨v2, vs2, d2, ds2, p2, q2, rfl, rfl, rfl, h2, r2⟩ := trodAll_cons r1
  obtain ⟨rfl, rfl, rfl⟩ := trodAll_nil r2
  obtain rfl : args = #[v0, v1, v2] := by cases args; simp_all
  obtain ⟨rfl, rfl⟩ := trodVars_none hV
  obtain ⟨room0, tick0, vv0, kvs0, ao0, cap0, rfl, wr0, wt0, hS0, hK0⟩ := open_store meas (N := 1048576) Try.underlying54 (hval 0 54 v0 rfl rfl) h0 cksq54 cksq65 cofq65 cksq5 cofq5 cksq27 cofq27 (Nat.le_trans (bulks.part_le (by simp)) (bulks.bound hk))
  obtain ⟨qs1, ao1, cap1, hS1, hQ1⟩ := open_acts meas (N := 1048576) Try.underlying60 (hval 1 60 v1 rfl rfl) h1 cksq60 cksq32 cofq32 cksq5 cofq5 (Nat.le_trans (bulks.part_le (by simp)) (bulks.bound hk))
  obtain ⟨qs2, ao2, cap2, hS2, hQ2⟩ := open_acts meas (N := 1048576) Try.underlying60 (hval 2 60 v2 rfl rfl) h2 cksq60 cksq32 cofq32 cksq5 cofq5 (Nat.le_trans (bulks.part_le (by simp)) (bulks.bound hk))
  refine ((again_all (W := W) hS0 hK0 hS1 hQ1 hS2 hQ2).calls W (sat_old W)).mono fun e w' ⟨_, he, hs, hk'⟩ => ⟨_, he, ?_⟩
  have hpost : Rows.serverAgainSpec.post enc Try.prog Try.f5 false true false false W #[_, _, _] (.bool true) w' := law_post (bt := 4) laid0 (by kernel_rfl) hW' rfl rfl Try.underlying4 rfl (below_of_old hs hk')
  exact hpost
theorem serverAgain_holds : Rows.ServerAgainUptoSaid :=
  OpenClaim.holds_of_cond 5 Try.f5 rfl rfl rfl rfl rfl rfl rfl ⟨rfl, rfl, rfl, rfl, rfl⟩ rfl rfl rfl rfl rfl (by kernel_rfl) Try.func5 (facts_of (P := Try.prog) fun Q q0 q1 q2 q3 q4 q5 q6 q7 q8 q9 q10 q11 q12 q13 q14 q15 q16 q17 q18 q19 q20 q21 q22 q23 q24 q25 => by unfold joinedFacts; simp only [q0, q1, q2, q3, q4, q5, q6, q7, q8, q9, q10, q11, q12, q13, q14, q15, q16, q17, q18, q19, q20, q21, q22, q23, q24, q25]; simp only [laid0, rowed0, stops0, knobs0, plainKeys0, heard0, mayEnter0, lifts0, make0]; kernel_rfl)
    (of_decide_eq_true (by kernel_rfl)) (by unfold Func.isWrapper; first | (rw [if_pos (by decide +kernel)]; kernel_rfl) | (rw [if_neg (by decide +kernel)]; exact ⟨rfl, rfl⟩))
    (fun os started H enc _ F => serverAgain_lifted os started H enc F)
end Go.Proofs.Ytoakfknnaiapiaa
-- Names_ct
