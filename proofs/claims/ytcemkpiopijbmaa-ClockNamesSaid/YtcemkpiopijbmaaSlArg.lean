/-
  What is handed in, as the logic sees it: a slice that can be read as data, its elements' cells, typed. (Conditions: none; generic over the program.)
-/
import Derived.Test.YtcemkpiopijbmaaSlRow
import Derived.Test.YtcemkpiopijbmaaSlNat
import Derived.JoinedCond
import Derived.OpenShut
set_option linter.all false
namespace Go.SL
open Go.RowKit Go.ChangeShapes Go.WideShapes
theorem old_cell {W w : World} {R : List Asn} (h : sat w (old W :: R)) {a : Addr} {v : Value} (hc : W.cell? a = some v) : w.cell? a = some v := by
  unfold World.cell? at hc ⊢
  have hlt : a.block < W.heap.size := by
    rcases Nat.lt_or_ge a.block W.heap.size with q | q
    · exact q
    · have hn : W.heap[a.block]? = none := by simpa using q
      rw [hn] at hc; simp at hc
  rw [old_block h hlt]; exact hc
section
variable {H : Type} {enc : TypeId × Value → H} {P : Program} {W : World} {base : Nat} {sp : Nat → Bool} {hd : Bool}
theorem cellsOf_sz {t : TypeId} {k : Nat} (h : sz P t = some k) : P.cellsOf t = k := by
  unfold sz at h; unfold Program.cellsOf; rw [h]; rfl
theorem list_of {α : Type} {p : Nat → α → Prop} : ∀ (len : Nat), (∀ i, i < len → ∃ c, p i c) → ∃ l : List α, l.length = len ∧ ∀ i c, l[i]? = some c → p i c
  | 0, _ => ⟨[], rfl, fun i c h => by simp at h⟩
  | len + 1, hex => by
    obtain ⟨l, h1, h2⟩ := list_of len (fun i hi => hex i (by omega))
    obtain ⟨c, h3⟩ := hex len (by omega)
    refine ⟨l ++ [c], by simp [h1], fun i d hd' => ?_⟩
    rw [List.getElem?_append] at hd'
    split at hd'
    · exact h2 i d hd'
    · have : i = len := by
        have := (List.getElem?_eq_some_iff.1 hd').1
        simp at this; omega
      subst this
      rw [h1] at hd'; simp at hd'; subst hd'
      exact h3
/-- a slice's cells as data: its elements' cells, each of which can be read -/
theorem open_slice_cells {t e : TypeId} {k fuel : Nat} {cs : List Value} {x : DataW H × List MemPlace} (ht : P.underlying t = some (.slice e)) (hk : sz P e = some (k + 1)) (h : DataW.trod enc P W base sp hd fuel t cs = some x) :
    ∃ (v : Value) (l : List (List Value)) (ao : Option Addr) (cap : Nat), cs = [v] ∧ Sv [old W] v (k + 1) id l ao cap ∧ cap ≤ maxLen ∧
      ((x.1 = .nil ∧ l = [] ∧ v = .slice none 0 0) ∨ ∃ ds rs n, x.1 = .slice ds rs ∧ ds.length = l.length ∧ ao.isSome = true ∧ (∃ n', fuel = n' + 1 ∧ n = n') ∧ ∀ (i : Nat) (c : List Value), l[i]? = some c → ∃ y, DataW.trod enc P W base sp hd n e c = some y ∧ ds[i]? = some y.1) := by
  have hce := cellsOf_sz hk
  rcases DataW.trod_slice ht h with ⟨rfl, rfl⟩ | ⟨a, len, cap, elems, rest, n, hf, rfl, rfl, _, hlc, hcm, hel, hall, _⟩
  · exact ⟨_, [], none, 0, rfl, ⟨rfl, fun h => absurd rfl h, fun x hx => by simp at hx, Nat.le_refl _, fun w _ i x hx => by simp at hx⟩, by simp, .inl ⟨rfl, rfl, rfl⟩⟩
  · rw [hce] at hall
    have hex : ∀ i, i < len → ∃ c y, W.cells? base (a.add (i * (k + 1))) (k + 1) = some c ∧ DataW.trod enc P W base sp hd n e c = some y ∧ elems[i]? = some y := fun i hi => by
      have := hall i hi
      rw [List.getElem?_eq_getElem (by omega)] at this
      obtain ⟨c, h1, h2⟩ := Option.bind_eq_some_iff.1 this
      exact ⟨c, _, h1, h2, by rw [List.getElem?_eq_getElem (by omega)]⟩
    have hl := list_of (p := fun i c => ∃ y, W.cells? base (a.add (i * (k + 1))) (k + 1) = some c ∧ DataW.trod enc P W base sp hd n e c = some y ∧ elems[i]? = some y) len hex
    obtain ⟨l, hll, hlx⟩ := hl
    have hspot : l ≠ [] → a.spot = none := fun hne => by
      obtain ⟨c, hc⟩ : ∃ c, l[0]? = some c := ⟨_, List.getElem?_eq_getElem (by rcases l with _ | ⟨x, r⟩; exact absurd rfl hne; simp)⟩
      obtain ⟨y, h1, _⟩ := hlx 0 c hc
      obtain ⟨_, hlen, hcell⟩ := World.cells?_some h1
      have h0 := hcell 0 (by omega)
      rw [List.getElem?_eq_getElem (by omega)] at h0
      have := World.cell?_spot h0
      simpa [Addr.add] using this
    refine ⟨_, l, some a, cap, rfl, ⟨by rw [hll], fun hne => ?_, fun c hc => ?_, by omega, fun w hs i c hc j u hu => ?_⟩, hcm, .inr ⟨_, _, n, rfl, by simp [hel, hll], rfl, ⟨n, hf, rfl⟩, fun i c hc => ?_⟩⟩
    · obtain ⟨b, o, s⟩ := a
      have := hspot hne
      simp at this; subst this
      exact ⟨b, o, rfl⟩
    · obtain ⟨i, hi, he⟩ := List.getElem_of_mem hc
      obtain ⟨y, h1, _⟩ := hlx i c (by rw [List.getElem?_eq_getElem hi, he])
      exact (World.cells?_some h1).2.1
    · have hne : l ≠ [] := by intro h; subst h; simp at hc
      have hsp := hspot hne
      obtain ⟨b, o, s⟩ := a
      simp at hsp; subst hsp
      obtain ⟨y, h1, _⟩ := hlx i c hc
      obtain ⟨_, hlen, hcell⟩ := World.cells?_some h1
      have hj : j < k + 1 := by have := (List.getElem?_eq_some_iff.1 hu).1; simp only [id] at this; omega
      have h0 := hcell j hj
      simp only [id] at hu
      rw [hu, add_off, add_off] at h0
      have := old_cell hs h0
      simp only [svb, svo, Option.getD_some]
      rw [← this]; congr 2; omega
    · obtain ⟨y, h1, h2, h3⟩ := hlx i c hc
      exact ⟨y, h2, by rw [List.getElem?_map, h3]; rfl⟩
/-- the elements, typed -/
theorem typed {α : Type} {f : α → List Value} {Φ : α → Prop} : ∀ {l : List (List Value)}, (∀ x ∈ l, ∃ a, x = f a ∧ Φ a) → ∃ l' : List α, l = l'.map f ∧ ∀ a ∈ l', Φ a
  | [], _ => ⟨[], rfl, fun a h => by simp at h⟩
  | x :: r, h => by
    obtain ⟨a, rfl, ha⟩ := h x (by simp)
    obtain ⟨l', rfl, hl⟩ := typed (l := r) (fun y hy => h y (by simp [hy]))
    exact ⟨a :: l', rfl, fun b hb => by rcases List.mem_cons.1 hb with rfl | hb; exact ha; exact hl b hb⟩
theorem Sv.typed {α : Type} {f : α → List Value} {A : List Asn} {v : Value} {e : Nat} {l : List α} {ao : Option Addr} {cap : Nat} (h : Sv A v e id (l.map f) ao cap) : Sv A v e f l ao cap := by
  refine ⟨by rw [h.val, List.length_map], fun hne => h.adr (by intro e; apply hne; simpa using e), fun x hx => h.len (f x) (List.mem_map.2 ⟨x, hx, rfl⟩), by have := h.le; rwa [List.length_map] at this, fun w hs i x hx j u hu => ?_⟩
  exact h.cell w hs i (f x) (by rw [List.getElem?_map, hx]; rfl) j u hu
/-- an argument that is a slice of things of a kind -/
theorem open_slice_of {α : Type} {f : α → List Value} {Φ : α → Prop} {t e : TypeId} {k : Nat} {v : Value} {d : DataW H} {ps : List MemPlace} {b0 : Nat} {r : Reach} (ht : P.underlying t = some (.slice e)) (hk : sz P e = some (k + 1)) (hval : Value.okWide P W r b0 t v)
    (h : DataW.Trod enc P W base sp hd t v d ps) (hel : ∀ n c y, DataW.trod enc P W base sp hd n e c = some y → ∃ a, c = f a ∧ Φ a) {N : Nat} (hN : ∀ ds rs, d = .slice ds rs → ds.length ≤ N) :
    ∃ (l : List α) (ao : Option Addr) (cap : Nat), Sv [old W] v (k + 1) f l ao cap ∧ l.length ≤ N ∧ ∀ a ∈ l, Φ a := by
  obtain ⟨a0, len, cap0, rfl⟩ := okWide_slice ht hval
  obtain ⟨fuel, hf⟩ := h
  obtain ⟨v', l, ao, cap, hv, hS, _, hor⟩ := open_slice_cells ht hk hf
  simp only [Value.cells, List.cons.injEq, and_true] at hv
  subst hv
  rcases hor with ⟨h1, rfl, _⟩ | ⟨ds, rs, n, h1, h2, _, _, h3⟩
  · exact ⟨[], ao, cap, Sv.typed (f := f) (l := []) hS, by simp, fun a ha => by simp at ha⟩
  · have hall : ∀ x ∈ l, ∃ a, x = f a ∧ Φ a := fun x hx => by
      obtain ⟨i, hi, he⟩ := List.getElem_of_mem hx
      obtain ⟨y, hy, _⟩ := h3 i x (by rw [List.getElem?_eq_getElem hi, he])
      exact hel n x y hy
    obtain ⟨l', rfl, hl⟩ := SL.typed hall
    refine ⟨l', ao, cap, Sv.typed hS, ?_, hl⟩
    have := hN ds rs h1
    rw [List.length_map] at h2; omega
/-! elements -/
def eInt (k : IntKind) (i : Int) : List Value := [.int k i]
def eStr (s : ByteArray) : List Value := [.string s]
def eBool (b : Bool) : List Value := [.bool b]
theorem el_int {t : TypeId} {k : IntKind} (ht : P.underlying t = some (.int k)) : ∀ n c y, DataW.trod enc P W base sp hd n t c = some y → ∃ a, c = eInt k a ∧ (Lit.int k a).wf = true := fun n c y h => by
  obtain ⟨i, rfl, _, hw⟩ := DataW.trod_int ht h
  exact ⟨i, rfl, hw⟩
theorem el_str {t : TypeId} (ht : P.underlying t = some .string) : ∀ n c y, DataW.trod enc P W base sp hd n t c = some y → ∃ a, c = eStr a ∧ a.size ≤ maxLen := fun n c y h => by
  obtain ⟨i, rfl, _, hw⟩ := DataW.trod_string ht h
  exact ⟨i, rfl, hw⟩
theorem el_bool {t : TypeId} (ht : P.underlying t = some .bool) : ∀ n c y, DataW.trod enc P W base sp hd n t c = some y → ∃ a, c = eBool a ∧ True := fun n c y h => by
  obtain ⟨i, rfl, _⟩ := DataW.trod_bool ht h
  exact ⟨i, rfl, trivial⟩
end
end Go.SL
