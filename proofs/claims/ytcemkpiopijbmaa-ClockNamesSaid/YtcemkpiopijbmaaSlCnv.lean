/-
  Conversions between whole numbers; make. (Conditions: none; generic over the program.)
-/
import Derived.Test.YtcemkpiopijbmaaSlPut
import Derived.Laws.MakeOwn
set_option linter.all false
namespace Go.SL
open Go.RowKit
def ikd (P : Program) (s t : TypeId) : Option IntKind := match P.underlying s, P.underlying t with
  | some _, some (.int k) => some k
  | _, _ => none
section
variable {P : Program} {n : Nat} {L : List (Nat × Value)} {A : List Asn} {d : Option Tmp} {ty : TypeId} {pos' : String} {af : Array Edge} {g : Option (Nat × Bool)}
theorem Rd_conv {s t : TypeId} {x : Operand} {k k' : IntKind} {i r : Int} (hx : ev L x = some (.int k i)) (h : ikd P s t = some k') (hr : k'.wrap i = r) : Rd P n ⟨d, .convert s t x, ty, pos', af, g⟩ L A (.int k' r) := fun a w hf _ => by
  unfold ikd at h
  split at h
  · rename_i D q hs ht
    simp only [Option.some.injEq] at h
    subst h; subst hr
    simp only [execOp, hf.eval hx, convert, Sem.run_bind, run_und hs, run_und ht, Result.andThen_ok, Conv.intToInt, Sem.run_pure]
  · cases h
/-- no wrap -/
theorem Rd_convN {s t : TypeId} {x : Operand} {k : IntKind} {i : Nat} (hx : ev L x = some (.int k (i : Int))) (h : ikd P s t = some .i64) (hi : i < 9223372036854775808 := by omega) : Rd P n ⟨d, .convert s t x, ty, pos', af, g⟩ L A (.int .i64 (i : Int)) :=
  Rd_conv hx h (wr64 rfl (by omega) (by omega))
theorem Rd_convZ {s t : TypeId} {x : Operand} {k : IntKind} {i : Int} (hx : ev L x = some (.int k i)) (h : ikd P s t = some .i64) (lo : -9223372036854775808 ≤ i := by omega) (hi : i ≤ 9223372036854775807 := by omega) : Rd P n ⟨d, .convert s t x, ty, pos', af, g⟩ L A (.int .i64 i) :=
  Rd_conv hx h (wr64 rfl lo hi)
theorem made_flat {zs : List Value} {e : Nat} (h : zs.length = e) (c : Nat) : (madeCells zs.toArray (c * e)).toList = (List.replicate c zs).flatMap id := by
  have hl : ((List.replicate c zs).flatMap id).length = c * e := by
    induction c with
    | zero => simp
    | succ c ih => rw [List.replicate_succ, List.flatMap_cons, List.length_append, ih]; simp only [id, h]; rw [Nat.add_mul]; omega
  apply List.ext_getElem?
  intro q
  unfold madeCells
  by_cases hq : q < c * e
  · have he : 0 < e := by rcases Nat.eq_zero_or_pos e with z | z; · subst z; simp at hq
                          · exact z
    rw [Array.toList_map, Array.toList_range, List.getElem?_map, List.getElem?_range hq, Option.map_some]
    have hlt : q % e < zs.length := by rw [h]; exact Nat.mod_lt _ he
    have hsz : zs.toArray.size = e := by simpa using h
    rw [hsz, getElem!_pos zs.toArray _ (by simpa using hlt)]
    have hg := flat_get (f := fun _ : Unit => zs) (e := e) (fun _ => h) (j := q % e) (Nat.mod_lt _ he) (List.replicate c ()) (q / e) () (by rw [List.getElem?_replicate, if_pos (Nat.div_lt_of_lt_mul (by rw [Nat.mul_comm]; exact hq))])
    rw [Nat.mul_comm, Nat.div_add_mod] at hg
    have e2 : (List.replicate c ()).flatMap (fun _ => zs) = (List.replicate c zs).flatMap id := by
      clear hl hq hg
      induction c with
      | zero => rfl
      | succ c ih => rw [List.replicate_succ, List.replicate_succ, List.flatMap_cons, List.flatMap_cons, ih]; rfl
    rw [e2] at hg
    rw [hg, List.getElem?_eq_getElem hlt]
    simp
  · rw [List.getElem?_eq_none (by simp; omega), List.getElem?_eq_none (by rw [hl]; omega)]
theorem rep_flat {α : Type} {f : α → List Value} {x0 : α} {zs : List Value} (h0 : f x0 = zs) : ∀ c : Nat, (List.replicate c zs).flatMap id = (List.replicate c x0).flatMap f
  | 0 => rfl
  | c + 1 => by rw [List.replicate_succ, List.replicate_succ, List.flatMap_cons, List.flatMap_cons, rep_flat h0 c, h0]; rfl
/-- make([]T, l, c) -/
theorem Ac_make {α : Type} {t et : TypeId} {e by_ : Nat} {zs : List Value} {f : α → List Value} {x y : Operand} {kl kc : IntKind} {l c : Nat} (hE1 : Enc f e) (x0 : α) (hx : ev L x = some (.int kl (l : Int))) (hy : ev L y = some (.int kc (c : Int))) (ht : P.underlying t = some (.slice et)) (hel : el P et = some (e, by_)) (hz : zr P et = some zs) (h0 : f x0 = zs := by rfl)
    (hlc : l ≤ c := by omega) (hc : c < 1000000000000 := by omega) (hby : Nat.ble by_ 128 = true := by rfl) :
    Ac P n ⟨d, .makeSlice t x y, ty, pos', af, g⟩ L A (fun r A' => ∃ b, r = .slice (some ⟨b, 0, none⟩) l c ∧ A' = arr (some b) c e et f (List.replicate l x0) :: A) :=
  Ac_run fun a w hfr hs => by
    unfold el at hel
    cases hi : P.info? et with
    | none => rw [hi] at hel; simp at hel
    | some ti =>
      rw [hi] at hel
      simp only [Option.bind_some] at hel
      cases hzz : ti.zero with
      | none => rw [hzz] at hel; simp at hel
      | some z =>
        rw [hzz] at hel
        simp only [Option.bind_some] at hel
        split at hel
        · rename_i hzc
          simp only [Option.some.injEq, Prod.mk.injEq] at hel
          have hzl : z.cells.toList = zs := by unfold zr at hz; rw [hi] at hz; simp [hzz] at hz; exact hz
          have hzlen : zs.length = e := by rw [← hzl, ← hel.1]; simpa using hzc
          have hby' := Nat.le_of_ble_eq_true hby
          have hm : c * by_ ≤ 281474976710656 := Nat.le_trans (Nat.mul_le_mul (show c ≤ 1000000000000 by omega) hby') (by decide)
          have hmI : (ti.bytes : Int) * (c : Int) ≤ 281474976710656 := by
            rw [hel.2, ← Int.natCast_mul, Nat.mul_comm]; clear hel hzc; revert hm; generalize c * by_ = q; intro hm; omega
          have hr := run_make (P := P) w t et ti z ht hi hzz kl kc l c (by omega) (by omega) hmI (by omega)
          simp only [Int.toNat_natCast] at hr
          refine ⟨_, _, _, .inl ?_, ⟨w.heap.size, rfl, rfl⟩, ?_, (kept_new (w := w) (o := .cells (madeCells z.cells (c * ti.size)) et))⟩
          · simp only [execOp, hfr.eval hx, hfr.eval hy, Sem.run_bind, hr, Result.andThen_ok, Sem.run_pure]
            rfl
          · have := sat_new (w := w) (w' := { w with heap := w.heap.push (.cells (madeCells z.cells (c * ti.size)) et) }) (o := .cells (madeCells z.cells (c * ti.size)) et) rfl hs
            unfold arr
            have hzA : z.cells = zs.toArray := by apply Array.ext'; rw [hzl]
            have hfl : (madeCells z.cells (c * ti.size)).toList = (List.replicate c x0).flatMap f := by
              rw [hzA, hel.1, made_flat hzlen]
              exact rep_flat h0 c
            refine sat_ex.2 ⟨(madeCells z.cells (c * ti.size)).toList, sat_and.2 ⟨⟨hE1.len, ?_, by simpa using hlc, by simp [maxLen]; omega, ?_⟩, by simpa using this⟩⟩
            · rw [hfl, flat_len hE1.len]; simp
            · rw [hfl, List.length_replicate, flat_take hE1.len, List.take_replicate, Nat.min_eq_left hlc]
        · cases hel
end
end Go.SL
