/-
  Contracts of functions that the claim reaches, or the logic and the plain laws that they rest on, or the row over them. (Conditions: none beyond the statement.)
-/
import Derived.Test.YtcookmkklcbbnaaLibR
import Derived.Test.YtcookmkklcbbnaaShA
import Derived.Test.YtcookmkklcbbnaaLibA
set_option linter.all false
/-
  Three hashes in turns, in plain words; a script of what is done, handed in. (Conditions: none; generic over the program.)
-/
set_option maxRecDepth 20000
namespace Go.ShM
open Go.SL Go.RowKit Go.ChangeShapes Go.WideShapes
/-- a hash, what it has taken, and the same kept as a list -/
structure It where
  b : Nat
  ha : Option Nat
  hc : Nat
  a : Option Nat
  cap : Nat
  M : List B8
structure MS where
  a : Option Nat
  cap : Nat
  M : List B8
def It.ms (it : It) : MS := ⟨it.a, it.cap, it.M⟩
def eHB (b : Nat) : List Value := [.pointer (some ⟨b, 0, none⟩)]
theorem encHB : Enc eHB 1 := ⟨fun _ => rfl, fun x v hv => by simp [eHB] at hv; subst hv; rfl⟩
def eMS (m : MS) : List Value := [sl m.a m.M.length m.cap]
theorem encMS : Enc eMS 1 := ⟨fun _ => rfl, fun x v hv => by simp [eMS, sl] at hv; subst hv; rfl⟩
/-- one call: of which hash, what, with which bytes -/
structure AP where
  on : Int
  call : Int
  p : Pt
def eAct (q : AP) : List Value := [.int .i64 q.on, .int .i64 q.call, q.p.v]
theorem encAct : Enc eAct 3 := ⟨fun _ => rfl, fun x v hv => by
  simp only [eAct, List.mem_cons, List.not_mem_nil, or_false] at hv
  rcases hv with rfl | rfl | rfl <;> rfl⟩
theorem at_i {α : Type} {l : List α} {i : Nat} (h : i < l.length) : ∃ x, l[i]? = some x := ⟨_, List.getElem?_eq_getElem h⟩
theorem set_same {α : Type} {l : List α} {i : Nat} {x : α} (h : l[i]? = some x) : l.set i x = l := by
  obtain ⟨hi, e⟩ := List.getElem?_eq_some_iff.1 h
  rw [← e, List.set_getElem_self]
theorem map_same {α β : Type} {f : α → β} {l : List α} {i : Nat} {x y : α} (h : l[i]? = some x) (he : f y = f x) : l.map f = (l.set i y).map f := by
  rw [List.map_set, he]
  exact (set_same (by rw [List.getElem?_map, h]; rfl)).symm
/-- how many bytes the first k calls have -/
def tlA (qs : List AP) (k : Nat) : Nat := (joinP ((qs.take k).map AP.p)).length
theorem tlA_succ {qs : List AP} {k : Nat} {q : AP} (h : qs[k]? = some q) : tlA qs (k + 1) = tlA qs k + q.p.l.length := by
  obtain ⟨hk, e⟩ := List.getElem?_eq_some_iff.1 h
  unfold tlA
  rw [List.take_succ_eq_append_getElem hk, e]
  simp [joinP]
theorem tlA_le (qs : List AP) (k : Nat) : tlA qs k ≤ (joinP (qs.map AP.p)).length := by
  unfold tlA
  have : qs.map AP.p = (qs.take k).map AP.p ++ (qs.drop k).map AP.p := by rw [← List.map_append, List.take_append_drop]
  have e : ∀ A B : List Pt, joinP (A ++ B) = joinP A ++ joinP B := fun A B => by simp [joinP]
  rw [this, e, List.length_append]
  omega
theorem bnd_set {its : List It} {t t' i : Nat} {y : It} (h : ∀ x ∈ its, x.M.length ≤ t) (ht : t ≤ t') (hy : y.M.length ≤ t') : ∀ x ∈ its.set i y, x.M.length ≤ t' := fun x hx => by
  rcases List.mem_or_eq_of_mem_set hx with q | rfl
  · exact Nat.le_trans (h x q) ht
  · exact hy
theorem sat_arr {α : Type} {b e n : Nat} {T : TypeId} {f : α → List Value} {l : List α} {xs : List Value} {A R : List Asn} {w : World} (hf : ∀ x, (f x).length = e) (hm : l.length ≤ maxLen) (hx : l.flatMap f = xs) (hn : l.length = n) (hE : Ext A (cl b T xs) R) (h : sat w A) : sat w (arr (some b) n e T f l :: R) := by
  subst hx; subst hn
  exact arr_of_cl hf hm (sat_perm hE h)
section
variable {H : Type} {enc : TypeId × Value → H} {P : Program} {W : World} {base : Nat} {sp : Nat → Bool} {hd : Bool}
theorem el_act {m : DataW H → Nat} (hm : Meas m) {t e : TypeId} {q : Nat} (hk : cks P q t = some [.int .i64, .int .i64, .slice e]) (he : P.underlying e = some (.int .u8)) (hz : P.cellsOf e = 1) {n : Nat} {c : List Value} {y : DataW H × List MemPlace} (h : DataW.trod enc P W base sp hd n t c = some y) :
    ∃ a : AP, c = eAct a ∧ RdP [old W] a.p ∧ a.p.cap ≤ maxLen ∧ a.p.l.length ≤ m y.1 := by
  have hf := cks_fits (N := m y.1) hm q t _ n c y hk h (Nat.le_refl _)
  simp only [Fits] at hf
  obtain ⟨i1, _, rfl, _, i2, _, rfl, _, v, _, rfl, ⟨l, ao, cap, hS, hcap, hle, hall⟩, rfl⟩ := hf
  rw [hz] at hS
  have hall' : ∀ x ∈ l, ∃ a : BitVec 8, x = eU .u8 a ∧ True := fun x hx => by
    obtain ⟨n', y', hy, _⟩ := hall x hx
    exact el_u8 he _ _ _ hy
  obtain ⟨l', rfl, _⟩ := SL.typed hall'
  have hS' := Sv.typed hS
  refine ⟨⟨i1, i2, ⟨l', ao, cap⟩⟩, ?_, ?_, hcap, by simpa using hle⟩
  · rw [hS'.val]; rfl
  · have := hS'.val; subst this; exact hS'
theorem acts_of {m : DataW H → Nat} : ∀ (l : List (List Value)) (ds : List (DataW H)), ds.length = l.length → (∀ (i : Nat) (c : List Value), l[i]? = some c → ∃ a : AP, c = eAct a ∧ RdP [old W] a.p ∧ a.p.cap ≤ maxLen ∧ ∃ d, ds[i]? = some d ∧ a.p.l.length ≤ m d) →
    ∃ qs : List AP, l = qs.map eAct ∧ (∀ q ∈ qs, RdP [old W] q.p) ∧ (joinP (qs.map AP.p)).length ≤ (ds.map m).sum
  | [], ds, _, _ => ⟨[], rfl, fun p h => by simp at h, by simp [joinP]⟩
  | c :: l, ds, hl, h => by
    cases ds with
    | nil => simp at hl
    | cons d ds =>
      obtain ⟨a, rfl, hp, _, d', hd', hle⟩ := h 0 c rfl
      simp at hd'; subst hd'
      obtain ⟨qs, rfl, h1, h2⟩ := acts_of (m := m) l ds (by simpa using hl) (fun i c hc => by have := h (i + 1) c (by simpa using hc); simpa using this)
      refine ⟨a :: qs, rfl, fun q hq => by rcases List.mem_cons.1 hq with rfl | hq; exact hp; exact h1 q hq, ?_⟩
      have : joinP ((a :: qs).map AP.p) = a.p.l ++ joinP (qs.map AP.p) := by simp [joinP]
      rw [this, List.length_append, List.map_cons, List.sum_cons]; omega
/-- an argument that is such a script -/
theorem open_acts {m : DataW H → Nat} (hm : MeasS m) {t e1 e : TypeId} {q : Nat} {v : Value} {d : DataW H} {ps : List MemPlace} {r : Reach} {b0 : Nat} (ht : P.underlying t = some (.slice e1)) (hk : cks P q e1 = some [.int .i64, .int .i64, .slice e]) (he : P.underlying e = some (.int .u8)) (hz1 : sz P e1 = some 3) (hz : P.cellsOf e = 1) (hval : Value.okWide P W r b0 t v)
    (h : DataW.Trod enc P W base sp hd t v d ps) {N : Nat} (hN : m d ≤ N) : ∃ (qs : List AP) (ao : Option Addr) (cap : Nat), Sv [old W] v 3 eAct qs ao cap ∧ (∀ q ∈ qs, RdP [old W] q.p) ∧ (joinP (qs.map AP.p)).length ≤ N ∧ qs.length ≤ N := by
  obtain ⟨a0, len, cap0, rfl⟩ := okWide_slice ht hval
  obtain ⟨fuel, hf⟩ := h
  obtain ⟨v', l, ao, cap, hv, hS, hcap, hor⟩ := open_slice_cells (k := 2) ht hz1 hf
  simp only [Value.cells, List.cons.injEq, and_true] at hv
  subst hv
  rcases hor with ⟨hnil, rfl, _⟩ | ⟨ds, rs, n', h1', h2, _, _, h3⟩
  · exact ⟨[], ao, cap, Sv.typed (f := eAct) (l := []) hS, fun p h => by simp at h, by simp [joinP], by simp⟩
  · obtain ⟨qs, rfl, hp, hj⟩ := acts_of (m := m) (W := W) l ds h2 (fun i c hc => by
      obtain ⟨y', hy, hyd⟩ := h3 i c hc
      obtain ⟨p, hcp, hr, hpc, hle⟩ := el_act hm.toMeas hk he hz hy
      exact ⟨p, hcp, hr, hpc, y'.1, hyd, hle⟩)
    have e1 := hm.sum ds rs
    have e2 := hm.len ds rs
    rw [show d = .slice ds rs from h1'] at hN
    exact ⟨qs, ao, cap, Sv.typed hS, hp, by omega, by simp at h2; omega⟩
end
end Go.ShM
