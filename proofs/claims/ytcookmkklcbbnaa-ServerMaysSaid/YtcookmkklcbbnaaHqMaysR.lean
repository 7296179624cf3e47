/-
  Contracts of functions that the claim reaches, or the row over them: the law returns true for every input of bulk at most 1048576. (Conditions: none beyond the statement.)
-/
import Derived.Test.YtcookmkklcbbnaaHqMays
import Derived.Test.YtcookmkklcbbnaaSlTyp
import Derived.ProofKit
set_option linter.all false
namespace Go.Proofs.Ytcookmkklcbbnaa
open Go.RowKit Go.SL Go.ChangeShapes Go.WideShapes Go.ChangeAt
set_option maxHeartbeats 1000000
set_option maxRecDepth 20000
set_option linter.all false

namespace bulks
theorem one_le {H : Type} (d : DataW H) : 1 ≤ Rows.uptoBulk d := by
  cases d with
  | lit l => cases l <;> simp [Rows.uptoBulk]
  | _ => simp [Rows.uptoBulk]
theorem part_le {H : Type} {d : DataW H} {l : List (DataW H)} (h : d ∈ l) : Rows.uptoBulk d ≤ Rows.uptoBulkAll l := by
  induction l with
  | nil => cases h
  | cons x r ih =>
    simp only [Rows.uptoBulkAll]
    rcases List.mem_cons.1 h with e | e
    · subst e; omega
    · have := ih e; omega
theorem length_le {H : Type} (l : List (DataW H)) : l.length ≤ Rows.uptoBulkAll l := by
  induction l with
  | nil => simp
  | cons x r ih => have := one_le x; simp only [Rows.uptoBulkAll, List.length_cons]; omega
theorem bound {H : Type} {l : List (DataW H)} (hk : Rows.uptoSmall H l = true) : Rows.uptoBulkAll l ≤ 1048576 := of_decide_eq_true hk
theorem slice {H : Type} {d : DataW H} {l : List (DataW H)} (hk : Rows.uptoSmall H l = true) (hm : d ∈ l) : ∀ ds rs, d = .slice ds rs → ds.length ≤ 1048576 := by
  rintro ds rs rfl
  have h1 := part_le hm
  have h2 := bound hk
  have h3 := length_le ds
  simp only [Rows.uptoBulk] at h1
  omega
end bulks
theorem wfu16 {a : Int} (h : (Lit.int .u16 a).wf = true) : 0 ≤ a ∧ a < 65536 := by simp [Lit.wf, IntKind.min, IntKind.max, IntKind.signed, IntKind.bits] at h; omega
theorem wfu8 {a : Int} (h : (Lit.int .u8 a).wf = true) : 0 ≤ a ∧ a < 256 := by simp [Lit.wf, IntKind.min, IntKind.max, IntKind.signed, IntKind.bits] at h; omega
theorem wfu32 {a : Int} (h : (Lit.int .u32 a).wf = true) : 0 ≤ a ∧ a < 4294967296 := by simp [Lit.wf, IntKind.min, IntKind.max, IntKind.signed, IntKind.bits] at h; omega
theorem wfi64 {a : Int} (h : (Lit.int .i64 a).wf = true) : -9223372036854775808 ≤ a ∧ a ≤ 9223372036854775807 := by simp [Lit.wf, IntKind.min, IntKind.max, IntKind.signed, IntKind.bits] at h; omega
theorem meas {H : Type} : Meas (H := H) Rows.uptoBulk where
  agg xs x h := by have := bulks.part_le h; simp only [Rows.uptoBulk]; omega
  len ds rs := by have := bulks.length_le ds; simp only [Rows.uptoBulk]; omega
  el ds rs d h := by have := bulks.part_le h; simp only [Rows.uptoBulk]; omega
  str s := by simp [Rows.uptoBulk]
theorem unc {l : List Int} {n : Nat} (h : l.length = n + 1) : ∃ x r, l = x :: r ∧ r.length = n := by cases l with
  | nil => simp at h
  | cons x r => exact ⟨x, r, rfl, by simpa using h⟩
theorem own0 : ownKnob Try.prog.godebug = none := by kernel_rfl
theorem laid0 : laidOutB Try.prog = true := by kernel_rfl

theorem serverMays_lifted (os : Os) (started : os.Started) (H : Type) (enc : TypeId × Value → H) :
    ReturnsInHanded {} Try.checked os 3 .any (Rows.serverMaysSpec.pre6 enc Try.prog Try.f3 Rows.serverMaysRow.domain false) (Rows.serverMaysSpec.post enc Try.prog Try.f3 false true false false) := by
  refine returnsInHanded_of_change (C := Try.checked) own0 started (by kernel_rfl) Try.func3
    (ChangeSpec.witness6 (enc := enc) (C := Try.checked) false ⟨#[], #[.agg #[.int .u8 0, .int .u8 0, .int .u8 0, .int .u8 0, .int .u8 0, .int .u8 0, .int .u8 0, .int .u8 0, .int .u8 0, .int .u8 0, .int .u8 0, .int .u8 0, .int .u8 0, .int .u8 0, .int .u8 0, .int .u8 0, .int .u8 0, .int .i64 0, .int .i64 0, .int .i64 0, .int .u32 0, .int .i64 0, .slice none 0 0]], []⟩ 8 (by kernel_rfl) (by kernel_rfl) (by kernel_rfl) (by kernel_rfl)) ?_
  intro W base args ds gs before hval hW hcnd _
  have hW' := hW
  obtain ⟨p, q, hA0, hV, rfl, hfz, hnd⟩ := hW
  have hA : DataW.TrodAll enc Try.prog W 0 (fun _ => true) true Try.f3.params.toList args.toList ds p := hA0
  rw [Try.params3] at hA hval
  clear hA0
  obtain ⟨v0, vs0, d0, ds0, p0, q0, hargs, rfl, rfl, h0, r0⟩ := trodAll_cons hA
  obtain ⟨rfl, rfl, rfl⟩ := trodAll_nil r0
  obtain rfl : args = #[v0] := by cases args; simp_all
  obtain ⟨rfl, rfl⟩ := trodVars_none hV
  obtain ⟨cs0, rfl, w0⟩ := open_fits meas (N := Rows.uptoBulk d0) Try.underlying30 (hval 0 30 v0 rfl rfl) h0 (n := 9) (ks := [.int .u8, .ints .u8 16, .int .i64, .int .i64, .int .i64, .int .u32, .int .i64, .slice 5]) (by kernel_rfl) (Nat.le_refl _)
  obtain ⟨c0_0, rc0_0, rfl, wc0_0, w0⟩ := w0
  obtain ⟨lc0_1, rc0_1, rfl, ⟨nc0_1, wc0_1⟩, w0⟩ := w0
  obtain ⟨c0_1_0, lc0_1_0, rfl, nc0_1_0⟩ := unc nc0_1
  obtain ⟨c0_1_1, lc0_1_1, rfl, nc0_1_1⟩ := unc nc0_1_0
  obtain ⟨c0_1_2, lc0_1_2, rfl, nc0_1_2⟩ := unc nc0_1_1
  obtain ⟨c0_1_3, lc0_1_3, rfl, nc0_1_3⟩ := unc nc0_1_2
  obtain ⟨c0_1_4, lc0_1_4, rfl, nc0_1_4⟩ := unc nc0_1_3
  obtain ⟨c0_1_5, lc0_1_5, rfl, nc0_1_5⟩ := unc nc0_1_4
  obtain ⟨c0_1_6, lc0_1_6, rfl, nc0_1_6⟩ := unc nc0_1_5
  obtain ⟨c0_1_7, lc0_1_7, rfl, nc0_1_7⟩ := unc nc0_1_6
  obtain ⟨c0_1_8, lc0_1_8, rfl, nc0_1_8⟩ := unc nc0_1_7
  obtain ⟨c0_1_9, lc0_1_9, rfl, nc0_1_9⟩ := unc nc0_1_8
  obtain ⟨c0_1_10, lc0_1_10, rfl, nc0_1_10⟩ := unc nc0_1_9
  obtain ⟨c0_1_11, lc0_1_11, rfl, nc0_1_11⟩ := unc nc0_1_10
  obtain ⟨c0_1_12, lc0_1_12, rfl, nc0_1_12⟩ := unc nc0_1_11
  obtain ⟨c0_1_13, lc0_1_13, rfl, nc0_1_13⟩ := unc nc0_1_12
  obtain ⟨c0_1_14, lc0_1_14, rfl, nc0_1_14⟩ := unc nc0_1_13
  obtain ⟨c0_1_15, lc0_1_15, rfl, nc0_1_15⟩ := unc nc0_1_14
  obtain rfl : lc0_1_15 = [] := List.eq_nil_of_length_eq_zero nc0_1_15
  obtain ⟨c0_2, rc0_2, rfl, wc0_2, w0⟩ := w0
  obtain ⟨c0_3, rc0_3, rfl, wc0_3, w0⟩ := w0
  obtain ⟨c0_4, rc0_4, rfl, wc0_4, w0⟩ := w0
  obtain ⟨c0_5, rc0_5, rfl, wc0_5, w0⟩ := w0
  obtain ⟨c0_6, rc0_6, rfl, wc0_6, w0⟩ := w0
  obtain ⟨c0_7, rc0_7, rfl, wc0_7, w0⟩ := w0
  obtain ⟨lc0_7, aoc0_7, capc0_7, hSc0_7, hcc0_7, hnc0_7, hwc0_7⟩ := wc0_7
  simp only [Fits] at w0
  subst w0
  simp only [List.map_cons, List.map_nil, List.cons_append, List.nil_append] at *
  have e7 := hSc0_7.val
  subst e7
  refine ((Mays_ct.frame [old W]).calls W (sat_old W)).mono fun e w' ⟨_, he, hs, hk'⟩ => ⟨_, he, ?_⟩
  have hpost : Rows.serverMaysSpec.post enc Try.prog Try.f3 false true false false W #[_] (.bool true) w' := law_post (bt := 4) laid0 (by kernel_rfl) hW' rfl rfl Try.underlying4 rfl (below_of_old hs hk')
  exact hpost
theorem serverMays_holds : Rows.ServerMaysSaid :=
  OpenClaim.holds_of_wide 3 Try.f3 rfl rfl rfl rfl rfl rfl rfl ⟨rfl, rfl, rfl, rfl, rfl⟩ rfl rfl rfl rfl rfl (by kernel_rfl) Try.func3 (by kernel_rfl)
    (of_decide_eq_true (by kernel_rfl)) (by unfold Func.isWrapper; first | (rw [if_pos (by decide +kernel)]; kernel_rfl) | (rw [if_neg (by decide +kernel)]; exact ⟨rfl, rfl⟩))
    (fun os started H enc _ => serverMays_lifted os started H enc)
end Go.Proofs.Ytcookmkklcbbnaa
