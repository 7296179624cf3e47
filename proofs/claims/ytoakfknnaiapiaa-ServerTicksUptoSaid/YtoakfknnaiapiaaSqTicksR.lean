/-
  Contracts of functions that the claim reaches, or the logic and the plain laws that they rest on, or the row over them. (Conditions: none beyond the statement.)
-/
import Derived.Test.YtoakfknnaiapiaaSqD4
import Derived.Test.YtoakfknnaiapiaaSqArg
import Derived.Test.YtoakfknnaiapiaaSqBulk
import Derived.ProofKit
set_option linter.all false
namespace Go.Proofs.Ytoakfknnaiapiaa
open Go.RowKit Go.SL Go.ShM Go.SvM Go.ChangeShapes Go.WideShapes Go.ChangeAt
set_option maxHeartbeats 1000000
set_option maxRecDepth 20000
set_option linter.all false

theorem ticks_all {W : World} {v : Value} {kvs : List KV} {ao : Option Addr} {cap : Nat} {room tick steps : Int} {r : Rq} (hS : Sv [old W] v 19 eKV kvs ao cap) (hK : OKst W 1048576 kvs) (hB : Sv [old W] r.b.v 1 (eU .u8 (w := 8)) r.b.l r.b.ao r.b.cap) :
    Ct Try.prog 6 [.agg [.int .i64 room, .int .i64 tick, v].toArray, .int .i64 steps, .agg (eRq r).toArray] [old W] (fun _ : Unit => .bool true) (fun _ => [old W]) := by
  by_cases hwf : Wf room ⟨tick, kvs.map KV.kp⟩
  · exact ticks_ok hS hK.1 (by have := hK.2.1; omega) (fun k hk => by have := hK.2.2.2 k hk; omega) hwf hB
  · exact ticks_no hS hK.1 (by have := hK.2.1; omega) (fun k hk => by have := hK.2.2.2 k hk; omega) hwf

theorem serverTicks_lifted (os : Os) (started : os.Started) (H : Type) (enc : TypeId × Value → H) (F : Stop.Interp) :
    ReturnsInHanded {} Try.checked os 6 .any ((Rows.OpenSpec.upto Rows.serverTicksSpec).pre6 enc Try.prog Try.f6 Rows.serverTicksUptoRow.domain false) (((Rows.OpenSpec.upto Rows.serverTicksSpec).at F).post enc Try.prog Try.f6 false true false false) := by
  refine returnsInHanded_of_cond (C := Try.checked) (s := Rows.OpenSpec.upto Rows.serverTicksSpec) (k := Rows.uptoSmall) rfl own0 started (by kernel_rfl) Try.func6
    (OpenSpec.witness (enc := enc) (C := Try.checked) (s := Rows.OpenSpec.upto Rows.serverTicksSpec) (k := Rows.uptoSmall) rfl false ⟨#[], #[.agg #[.int .i64 0, .int .i64 0, .slice none 0 0], .int .i64 0, .agg #[.int .u8 0, .int .u8 0, .int .u8 0, .int .u8 0, .int .u8 0, .int .u8 0, .int .u8 0, .int .u8 0, .int .u8 0, .int .u8 0, .int .u8 0, .int .u8 0, .int .u8 0, .int .u8 0, .int .u8 0, .int .u8 0, .int .u8 0, .int .i64 0, .int .i64 0, .int .i64 0, .int .u32 0, .int .i64 0, .slice none 0 0]], []⟩ 8 (by kernel_rfl) (by kernel_rfl) (by kernel_rfl) (x := ([.agg [.lit (.int .i64 0), .lit (.int .i64 0), .nil], .lit (.int .i64 0), .agg [.lit (.int .u8 0), .agg [.lit (.int .u8 0), .lit (.int .u8 0), .lit (.int .u8 0), .lit (.int .u8 0), .lit (.int .u8 0), .lit (.int .u8 0), .lit (.int .u8 0), .lit (.int .u8 0), .lit (.int .u8 0), .lit (.int .u8 0), .lit (.int .u8 0), .lit (.int .u8 0), .lit (.int .u8 0), .lit (.int .u8 0), .lit (.int .u8 0), .lit (.int .u8 0)], .lit (.int .i64 0), .lit (.int .i64 0), .lit (.int .i64 0), .agg [.lit (.int .u32 0), .lit (.int .i64 0)], .nil]], [], [])) (by kernel_rfl) rfl (by kernel_rfl)) ?_
  intro W base args ds gs before hval hW _ hk _
  have hW' := hW
  obtain ⟨p, q, hA0, hV, rfl, hfz, hnd⟩ := hW
  have hA : DataW.TrodAll enc Try.prog W 0 (fun _ => true) true Try.f6.params.toList args.toList ds p := hA0
  rw [Try.params6] at hA hval
  clear hA0
  obtain ⟨v0, vs0, d0, ds0, p0, q0, hargs, rfl, rfl, h0, r0⟩ := trodAll_cons hA
  obtain ⟨v1, vs1, d1, ds1, p1, q1, rfl, rfl, rfl, h1, r1⟩ := trodAll_cons r0
  obtain ⟨v2, vs2, d2, ds2, p2, q2, rfl, rfl, rfl, h2, r2⟩ := trodAll_cons r1
  obtain ⟨rfl, rfl, rfl⟩ := trodAll_nil r2
  obtain rfl : args = #[v0, v1, v2] := by cases args; simp_all
  obtain ⟨rfl, rfl⟩ := trodVars_none hV
  obtain ⟨room0, tick0, vv0, kvs0, ao0, cap0, rfl, wr0, wt0, hS0, hK0⟩ := open_store meas (N := 1048576) Try.underlying54 (hval 0 54 v0 rfl rfl) h0 cksq54 cksq65 cofq65 cksq5 cofq5 cksq27 cofq27 (Nat.le_trans (bulks.part_le (by simp)) (bulks.bound hk))
  obtain ⟨a1, rfl, rfl, rfl, w1⟩ := open_int Try.underlying3 (hval 1 3 v1 rfl rfl) h1
  obtain ⟨r2q, rfl, hB2, hb2⟩ := open_rq meas (N := 1048576) Try.underlying30 (hval 2 30 v2 rfl rfl) h2 cksq30 cksq5 cofq5 (Nat.le_trans (bulks.part_le (by simp)) (bulks.bound hk))
  refine ((ticks_all (W := W) (steps := a1) hS0 hK0 hB2).calls W (sat_old W)).mono fun e w' ⟨_, he, hs, hk'⟩ => ⟨_, he, ?_⟩
  have hpost : Rows.serverTicksSpec.post enc Try.prog Try.f6 false true false false W #[_, _, _] (.bool true) w' := law_post (bt := 4) laid0 (by kernel_rfl) hW' rfl rfl Try.underlying4 rfl (below_of_old hs hk')
  exact hpost
theorem serverTicks_holds : Rows.ServerTicksUptoSaid :=
  OpenClaim.holds_of_cond 6 Try.f6 rfl rfl rfl rfl rfl rfl rfl ⟨rfl, rfl, rfl, rfl, rfl⟩ rfl rfl rfl rfl rfl (by kernel_rfl) Try.func6 (facts_of (P := Try.prog) fun Q q0 q1 q2 q3 q4 q5 q6 q7 q8 q9 q10 q11 q12 q13 q14 q15 q16 q17 q18 q19 q20 q21 q22 q23 q24 q25 => by unfold joinedFacts; simp only [q0, q1, q2, q3, q4, q5, q6, q7, q8, q9, q10, q11, q12, q13, q14, q15, q16, q17, q18, q19, q20, q21, q22, q23, q24, q25]; simp only [laid0, rowed0, stops0, knobs0, plainKeys0, heard0, mayEnter0, lifts0, make0]; kernel_rfl)
    (of_decide_eq_true (by kernel_rfl)) (by unfold Func.isWrapper; first | (rw [if_pos (by decide +kernel)]; kernel_rfl) | (rw [if_neg (by decide +kernel)]; exact ⟨rfl, rfl⟩))
    (fun os started H enc _ F => serverTicks_lifted os started H enc F)
end Go.Proofs.Ytoakfknnaiapiaa
-- Names_ct
