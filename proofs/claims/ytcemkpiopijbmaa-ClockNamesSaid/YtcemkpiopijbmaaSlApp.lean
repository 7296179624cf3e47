/-
  append, clear, a literal of a struct or an array, a part of a struct. (Conditions: none; generic over the program.)
-/
import Derived.Test.YtcemkpiopijbmaaSlMap
set_option linter.all false
namespace Go.SL
open Go.RowKit

/-- where append reads from: m elements, these cells -/
def Src (P : Program) (A : List Asn) (e m : Nat) (x : Value) (news : List Value) : Prop :=
  news.length = m * e ∧ (∀ w, (Builtin.lenOf x).run P w = .ok m w) ∧ ∀ w, sat w A → (Builtin.firstCells e m x).run P w = .ok news.toArray w
section
variable {P : Program}
theorem Src_cl {A : List Asn} {b i e m c : Nat} {T : TypeId} {xs news : List Value} (hA : Has A (cl b T xs)) (hl : i + m * e ≤ xs.length) (hn : (xs.drop i).take (m * e) = news) : Src P A e m (.slice (some ⟨b, i, none⟩) m c) news := by
  refine ⟨by rw [← hn]; simp; omega, fun w => rfl, fun w hs => ?_⟩
  have h := run_loadCells (P := P) (i := i) (hA.sat hs) (m * e) 0 #[] (by simpa using hl)
  simp only [Builtin.firstCells, loadCells, h]
  simp [hn]
theorem Src_none {A : List Asn} {e c : Nat} : Src P A e 0 (.slice none 0 c) [] := ⟨by simp, fun _ => rfl, fun w _ => by simp [Builtin.firstCells]⟩
theorem Src_sv {α : Type} {A : List Asn} {v : Value} {e : Nat} {f : α → List Value} {l : List α} {ao : Option Addr} {cap : Nat} (h : Sv A v e f l ao cap) : Src P A e l.length v (l.flatMap f) := by
  have hlen : ∀ l : List α, (∀ x ∈ l, (f x).length = e) → (l.flatMap f).length = l.length * e := by
    intro l
    induction l with
    | nil => simp
    | cons x r ih => intro hx; rw [List.flatMap_cons, List.length_append, hx x (by simp), ih (fun y hy => hx y (by simp [hy]))]; simp [Nat.add_mul, Nat.add_comm]
  have hget : ∀ (l : List α), (∀ x ∈ l, (f x).length = e) → ∀ (q : Nat) (u : Value), (l.flatMap f)[q]? = some u → ∃ i x j, l[i]? = some x ∧ (f x)[j]? = some u ∧ q = i * e + j := by
    intro l
    induction l with
    | nil => intro _ q u h; simp at h
    | cons x r ih =>
      intro hx q u hq
      rw [List.flatMap_cons, List.getElem?_append] at hq
      split at hq
      · exact ⟨0, x, q, rfl, hq, by simp⟩
      · rw [hx x (by simp)] at *
        obtain ⟨i, y, j, h1, h2, h3⟩ := ih (fun y hy => hx y (by simp [hy])) _ u hq
        exact ⟨i + 1, y, j, by simpa using h1, h2, by rw [Nat.add_mul]; omega⟩
  refine ⟨hlen l h.len, fun w => by rw [h.val]; rfl, fun w hs => ?_⟩
  rw [h.val]
  by_cases hl : l = []
  · subst hl
    cases ao with
    | none => simp [Builtin.firstCells]
    | some p => simp [Builtin.firstCells, loadCells, loadCellsFrom]
  · obtain ⟨b, o, rfl⟩ := h.adr hl
    refine run_firstCells_some w e l.length _ _ _ _ (hlen l h.len) fun q u hq => ?_
    obtain ⟨i, x, j, h1, h2, rfl⟩ := hget l h.len q u hq
    rw [add_off]
    exact h.cell w hs i x h1 j u h2
theorem run_append {A : List Asn} {α : Type} {t t' ty et : TypeId} {ti : TypeInfo} {z : Value} {D : TypeDesc} {e by_ : Nat} (ht : P.underlying t = some (.slice et)) (ht' : P.underlying t' = some D) (hD : ∀ k, D ≠ .int k) (hi : P.info? et = some ti) (hz : ti.zero = some z) (he : ti.size = e) (hb : ti.bytes = by_)
    (hzc : z.cells.size = e) {a : Option Nat} {cap : Nat} {f : α → List Value} {l l2 : List α} {x : Value} {R : List Asn} (hf : ∀ x, (f x).length = e) (hsrc : Src P A e l2.length x (l2.flatMap f)) (hE : Ext A (arr a cap e et f l) R)
    (h1 : ∀ u ∈ l2, ∀ v ∈ f u, v.oneCell' = true) (hfit : (l.length + l2.length) * by_ ≤ 140737488355328) (hml : l.length + l2.length ≤ maxLen) {w : World} (hs : sat w A) :
    ∃ a' cap' w', (Builtin.append_ #[t, t'] ty #[sl a l.length cap, x]).run P w = .ok (sl a' (l ++ l2).length cap') w' ∧ sat w' (arr a' cap' e et f (l ++ l2) :: R) ∧ Kept w w' ∧ (a' = none → l ++ l2 = []) := by
  subst he; subst hb
  have hs0 := sat_perm hE hs
  have hlenf : (l.flatMap f).length = l.length * ti.size := flat_len hf l
  have hlen2 : (l2.flatMap f).length = l2.length * ti.size := flat_len hf l2
  -- what stands in the old array
  by_cases hroom : l.length + l2.length ≤ cap
  · -- there is room
    cases a with
    | none =>
      obtain ⟨hc, hl⟩ := arr_none (A := arr none cap ti.size et f l :: R) Has.here hs0
      have hl2 : l2 = [] := by have : l2.length = 0 := by omega
                               exact List.eq_nil_of_length_eq_zero this
      subst hc; subst hl; subst hl2
      refine ⟨none, 0, w, ?_, by simpa using hs0, .refl _, fun _ => rfl⟩
      have hl0 := hsrc.2.1 w
      have hf0 := hsrc.2.2 w hs
      simp only [List.length_nil, List.flatMap_nil] at hl0 hf0
      simp only [Builtin.append_, sl, List.getElem?_toArray, List.getElem?_cons_zero, List.getElem?_cons_succ, Sem.run_bind, run_und ht, Result.andThen_ok, run_size (show sz P et = some ti.size by simp [sz, hi]), run_und ht', Sem.run_pure]
      cases D <;> first | exact absurd rfl (hD _) | simp [hl0, hf0]
    | some g =>
      unfold arr at hs0
      obtain ⟨cur, h2⟩ := sat_ex.1 hs0
      obtain ⟨⟨hfe, hcl, hle, hm, htk⟩, h3⟩ := sat_and.1 h2
      have hmul : l.length * ti.size + l2.length * ti.size ≤ cap * ti.size := by rw [← Nat.add_mul]; exact Nat.mul_le_mul_right _ hroom
      obtain ⟨w', hr, hh, ho, hk⟩ := run_storeCells (P := P) (i := l.length * ti.size) (l2.flatMap f) 0 cur w (sat_pt h3) (by rw [hlen2, hcl]; omega) (fun v hv => by obtain ⟨u, hu, hv⟩ := List.mem_flatMap.1 hv; exact h1 u hu v hv)
      refine ⟨some g, cap, w', ?_, ?_, hk, fun h => by cases h⟩
      · have hl0 := hsrc.2.1 w
        have hf0 := hsrc.2.2 w hs
        simp only [Builtin.append_, sl, List.getElem?_toArray, List.getElem?_cons_zero, List.getElem?_cons_succ, Sem.run_bind, run_und ht, Result.andThen_ok, run_size (show sz P et = some ti.size by simp [sz, hi]), run_und ht', Sem.run_pure]
        cases D <;> first | exact absurd rfl (hD _) | simp [hl0, hf0, hroom, add_off, hr, List.length_append]
      · unfold arr
        refine sat_ex.2 ⟨cur.take (l.length * ti.size) ++ l2.flatMap f ++ cur.drop (l.length * ti.size + (l2.flatMap f).length), sat_and.2 ⟨⟨hfe, ?_, by simpa using hroom, hm, ?_⟩, ?_⟩⟩
        · simp only [List.length_append, List.length_take, List.length_drop, hlen2, hcl]; omega
        · rw [List.length_append, Nat.add_mul, htk, List.flatMap_append]
          exact List.take_left' (by rw [List.length_append, hlenf, hlen2])
        · refine sat_upd (o := .cells cur.toArray et (0, 0)) ?_ (fun c hc x hx => by rw [ho c hc]; exact hx) h3
          simpa using hh
  · -- a new array
    have hgrow : cap < l.length + l2.length := by omega
    have hn : ¬ (l.length + l2.length ≤ cap) := hroom
    have h63' : ¬ (9223372036854775807 < ((l.length : Int) + (l2.length : Int))) := by simp only [maxLen] at hml; omega
    have h48' : ¬ (281474976710656 < Builtin.nextslicecap (l.length + l2.length) cap * ti.bytes) := by have := growslice_fits hgrow hfit; omega
    have hsd : sat w.drew A := sat_heap (w := w) rfl hs
    have hl0 := hsrc.2.1
    have hf0 := hsrc.2.2 w.drew hsd
    have hold : (Builtin.firstCells ti.size l.length (sl a l.length cap)).run P w.drew = .ok (l.flatMap f).toArray w.drew := by
      cases a with
      | none => have := (arr_none (A := arr none cap ti.size et f l :: R) Has.here hs0).2; subst this; simp [sl, Builtin.firstCells]
      | some g => exact (Src_sv (Sv_arr (A := A) ⟨R, hE⟩ hf (fun h => by cases h) (arr_cap (A := A) ⟨R, hE⟩ hsd))).2.2 _ hsd
    have hge := grownCap_ge w (l.length + l2.length) cap et
    have hcm := grownCap_le_maxLen w (l.length + l2.length) cap et hml
    refine ⟨some w.heap.size, grownCap w (l.length + l2.length) cap et, w.drew.alloc (.cells ((l.flatMap f).toArray ++ (l2.flatMap f).toArray ++ Builtin.zeroCells z.cells (grownCap w (l.length + l2.length) cap et - (l.length + l2.length))) et), ?_, ?_, ⟨rfl, rfl, rfl, by simp⟩, fun h => by cases h⟩
    · have hold' : ∀ w', w' = w.drew → (Builtin.firstCells ti.size l.length (.slice (a.map fun g => ⟨g, 0, none⟩) l.length cap)).run P w' = .ok (l.flatMap f).toArray w' := fun w' e => by rw [e]; exact hold
      simp only [sl, Builtin.append_, List.getElem?_toArray, List.getElem?_cons_zero, List.getElem?_cons_succ, Sem.run_bind, run_und ht, Result.andThen_ok, run_size (show sz P et = some ti.size by simp [sz, hi]), run_und ht', Sem.run_pure]
      cases D <;> first
        | exact absurd rfl (hD _)
        | (simp [hl0, hn, h63', h48', typeInfo, zeroValue, hi, hz, Question.forced, hold', hf0, newRow, grownCap]; congr 2; apply Array.ext'; simp [List.append_assoc])
    · have hs1 := sat_drop hs0
      have hs2 : sat w.drew R := sat_heap (w := w) rfl hs1
      have := sat_new (w := w.drew) (w' := w.drew.alloc (.cells ((l.flatMap f).toArray ++ (l2.flatMap f).toArray ++ Builtin.zeroCells z.cells (grownCap w (l.length + l2.length) cap et - (l.length + l2.length))) et)) rfl hs2
      unfold arr
      refine sat_ex.2 ⟨l.flatMap f ++ l2.flatMap f ++ (Builtin.zeroCells z.cells (grownCap w (l.length + l2.length) cap et - (l.length + l2.length))).toList, sat_and.2 ⟨⟨hf, ?_, by simpa using hge, hcm, ?_⟩, ?_⟩⟩
      · have hzl : ∀ k, (Builtin.zeroCells z.cells k).toList.length = k * ti.size := fun k => by rw [Array.length_toList, size_zeroCells, hzc]
        rw [List.length_append, List.length_append, hlenf, hlen2, hzl, ← Nat.add_mul, ← Nat.add_mul]
        congr 1; omega
      · rw [List.length_append, Nat.add_mul, List.flatMap_append]
        exact List.take_left' (by rw [List.length_append, hlenf, hlen2])
      · refine sat_imp (fun h hp => ?_) this
        have e1 : (l.flatMap f ++ l2.flatMap f ++ (Builtin.zeroCells z.cells (grownCap w (l.length + l2.length) cap et - (l.length + l2.length))).toList).toArray = (l.flatMap f).toArray ++ (l2.flatMap f).toArray ++ Builtin.zeroCells z.cells (grownCap w (l.length + l2.length) cap et - (l.length + l2.length)) := by
          apply Array.ext'; simp
        rw [e1]; exact hp
variable {n : Nat} {L : List (Nat × Value)} {A : List Asn} {d : Option Tmp} {ty : TypeId} {pos' : String} {af : Array Edge} {g : Option (Nat × Bool)}
/-- the row of the table that append asks: cells, bytes of an element; its zero value fits -/
def el (P : Program) (et : TypeId) : Option (Nat × Nat) := (P.info? et).bind fun i => i.zero.bind fun z => if z.cells.size = i.size then some (i.size, i.bytes) else none
theorem Ac_append {α : Type} {t t' et : TypeId} {D : TypeDesc} {e by_ : Nat} {x y : Operand} {a : Option Nat} {cap len : Nat} {f : α → List Value} {l : List α} {v : Value} {R : List Asn} (l2 : List α) (hx : ev L x = some (sl a len cap)) (hy : ev L y = some v) (ht : P.underlying t = some (.slice et)) (ht' : P.underlying t' = some D) (hD : (match D with | .int _ => false | _ => true) = true)
    (hel : el P et = some (e, by_)) (hf : ∀ x, (f x).length = e) (hsrc : Src P A e l2.length v (l2.flatMap f)) (hE : Ext A (arr a cap e et f l) R) (hlen : len = l.length) (h1 : ∀ u ∈ l2, ∀ v ∈ f u, v.oneCell' = true) (hfit : (l.length + l2.length) * by_ ≤ 140737488355328) (hml : l.length + l2.length ≤ maxLen) :
    Ac P n ⟨d, .call ⟨.builtin .append, #[x, y], #[t, t']⟩, ty, pos', af, g⟩ L A (fun r A' => ∃ a' cap', r = sl a' (l ++ l2).length cap' ∧ A' = arr a' cap' e et f (l ++ l2) :: R) :=
  Ac_run fun ac w hfr hs => by
    unfold el at hel
    cases hi : P.info? et with
    | none => rw [hi] at hel; simp at hel
    | some ti =>
      rw [hi] at hel
      simp only [Option.bind_some] at hel
      cases hz : ti.zero with
      | none => rw [hz] at hel; simp at hel
      | some z =>
        rw [hz] at hel
        simp only [Option.bind_some] at hel
        split at hel
        · rename_i hzc
          simp only [Option.some.injEq, Prod.mk.injEq] at hel
          subst hlen
          obtain ⟨a', cap', w', hr, hs', hk, _⟩ := run_append (P := P) (t := t) (t' := t') (ty := ty) ht ht' (fun k hk => by subst hk; simp at hD) hi hz hel.1 hel.2 (by rw [← hel.1]; exact hzc) hf hsrc hE h1 hfit hml hs
          exact ⟨_, w', _, .inl (by simp [execOp, resolve, invoke, Go.builtin, hfr.eval hx, hfr.eval hy, hr]), ⟨a', cap', rfl, rfl⟩, hs', hk⟩
        · cases hel
end
end Go.SL
