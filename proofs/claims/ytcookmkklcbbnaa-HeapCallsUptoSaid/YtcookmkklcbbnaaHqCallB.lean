/-
  Contracts of functions that the claim reaches, or the logic and the plain laws that they rest on, or the row over them. (Conditions: none beyond the statement.)
-/
import Derived.Test.YtcookmkklcbbnaaHqCallA
set_option linter.all false
namespace Go.Proofs.Ytcookmkklcbbnaa
open Go.RowKit Go.SL Go.HpM Go.ShM 
set_option maxHeartbeats 1000000
set_option maxRecDepth 20000
set_option linter.all false

theorem pPop_ct {by_ : Int} {b made c : Nat} {rows : List (Nat × Int)} (hm : made ≤ 900000000 := by omega) : Ct Try.prog 26 [.pointer (some ⟨b, 0, none⟩)] [hI_hpA (.func (.func 45) #[] (caO c).toArray) b rows made, JO c by_] (fun _ : Unit => .tuple #[.int .i64 ((tpV rows)), .bool (decide (rows ≠ []))]) (fun _ => [hI_hpA (.func (.func 45) #[] (caO c).toArray) b (takeM (pl (ltz by_)) () rows 0).1 made, JO c by_]) := by
  cases h : rows with
  | nil =>
    have e : (takeM (pl (ltz by_)) () ([] : List (Nat × Int)) 0).1 = [] := List.eq_nil_of_length_eq_zero (by rw [takeM_len]; rfl)
    rw [e]
    exact (hI_pop0_hp (b := b) (made := made) (lf := 45) (caps := caO c)).frame [JO c by_]
  | cons x r => exact hI_pop_hp hcfO (hlessO c by_) (s := ()) (x := x) (hx0 := rfl)
theorem pPeek_ct {by_ : Int} {b made c : Nat} {rows : List (Nat × Int)} : Ct Try.prog 39 [.pointer (some ⟨b, 0, none⟩)] [hI_hpA (.func (.func 45) #[] (caO c).toArray) b rows made] (fun _ : Unit => .tuple #[.int .i64 ((tpV rows)), .bool (decide (rows ≠ []))]) (fun _ => [hI_hpA (.func (.func 45) #[] (caO c).toArray) b rows made]) := by
  cases h : rows with
  | nil => exact hI_peek0_hp (b := b) (made := made) (lf := 45) (caps := caO c)
  | cons x r => exact hI_peek_hp (lf := 45) (caps := caO c) (x := x) (hx0 := rfl)
theorem pDrop_ct {by_ : Int} {b made c : Nat} {rows : List (Nat × Int)} {t : Int} (hm : made ≤ 900000000 := by omega) : Ct Try.prog 32 [.pointer (some ⟨b, 0, none⟩), .int .i64 t] [hI_hpA (.func (.func 45) #[] (caO c).toArray) b rows made, JO c by_] (fun _ : Unit => .tuple #[.int .i64 ((drV rows t)), .int .i64 ((drE rows t))]) (fun _ => [hI_hpA (.func (.func 45) #[] (caO c).toArray) b (drR (ltz by_) rows t) made, JO c by_]) := by
  unfold drV drE drR
  cases h : fdM rows t with
  | none => exact (hI_drop_no_hp (b := b) (made := made) (lf := 45) (caps := caO c) (t := t) (fd_none h)).frame [JO c by_]
  | some i =>
    obtain ⟨x, hx, e⟩ := fd_some h
    simp only [hx]
    exact hI_drop_hp hcfO (hlessO c by_) (s := ()) (x := x) (i := i) (t := t) (hi := hx) (ht := e.symm)
theorem pTurn_ct {by_ : Int} {b made c : Nat} {rows : List (Nat × Int)} {t z : Int} (hm : made ≤ 900000000 := by omega) : Ct Try.prog 55 [.pointer (some ⟨b, 0, none⟩), .int .i64 t, .int .i64 z] [hI_hpA (.func (.func 45) #[] (caO c).toArray) b rows made, JO c by_] (fun _ : Unit => .int .i64 ((drE rows t))) (fun _ => [hI_hpA (.func (.func 45) #[] (caO c).toArray) b (tuR (ltz by_) rows t z) made, JO c by_]) := by
  unfold drE tuR
  cases h : fdM rows t with
  | none => exact (hI_turn_no_hp (b := b) (made := made) (lf := 45) (caps := caO c) (t := t) (z := z) (fd_none h)).frame [JO c by_]
  | some i =>
    obtain ⟨x, hx, e⟩ := fd_some h
    have e2 : t.toNat = x.1 := by omega
    simp only [e2]
    exact hI_turn_hp hcfO (hlessO c by_) (s := ()) (x := x) (i := i) (t := t) (z := z) (hi := hx) (ht := e.symm)
end Go.Proofs.Ytcookmkklcbbnaa
