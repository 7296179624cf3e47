/-
  What is handed in, cell by cell: a type's cells as a list of kinds, a reading's cells by them. (Conditions: none; generic over the program.)
-/
import Derived.Test.YtcemkpiopijbmaaSlArg
import Derived.OpenShut
set_option linter.all false
namespace Go.SL
open Go.RowKit Go.ChangeShapes Go.WideShapes
/-- kinds of cells -/
inductive CK | int (k : IntKind) | bool | str | slice (e : TypeId) | ints (k : IntKind) (n : Nat)
/-- how much a reading holds -/
structure Meas {H : Type} (m : DataW H → Nat) : Prop where
  agg : ∀ xs x, x ∈ xs → m x ≤ m (.agg xs)
  len : ∀ ds rs, ds.length ≤ m (.slice ds rs)
  el : ∀ ds rs d, d ∈ ds → m d ≤ m (.slice ds rs)
  str : ∀ s, s.length ≤ m (.lit (.string s))
section
variable {H : Type} (enc : TypeId × Value → H) (P : Program) (W : World) (base : Nat) (sp : Nat → Bool) (hd : Bool) (m : DataW H → Nat) (N : Nat)
/-- a slice that can be read, element for element -/
def SlOf (e : TypeId) (v : Value) : Prop := ∃ l ao cap, Sv [old W] v (P.cellsOf e) id l ao cap ∧ cap ≤ maxLen ∧ l.length ≤ N ∧ ∀ c ∈ l, ∃ n y, DataW.trod enc P W base sp hd n e c = some y ∧ m y.1 ≤ N
def Fits : List CK → List Value → Prop
  | [], cs => cs = []
  | .int k :: r, cs => ∃ i cs', cs = .int k i :: cs' ∧ (Lit.int k i).wf = true ∧ Fits r cs'
  | .bool :: r, cs => ∃ b cs', cs = .bool b :: cs' ∧ Fits r cs'
  | .str :: r, cs => ∃ s cs', cs = .string s :: cs' ∧ (s.size ≤ maxLen ∧ s.size ≤ N) ∧ Fits r cs'
  | .ints k n :: r, cs => ∃ (l : List Int) (cs' : List Value), cs = l.map (Value.int k) ++ cs' ∧ (l.length = n ∧ ∀ i ∈ l, (Lit.int k i).wf = true) ∧ Fits r cs'
  | .slice e :: r, cs => ∃ v cs', cs = v :: cs' ∧ SlOf enc P W base sp hd m N e v ∧ Fits r cs'
end
/-- fields that lie one behind the other -/
def cksF (P : Program) (rec : TypeId → Option (List CK)) (tot : Nat) : Nat → List Field → Option (List CK)
  | off, [] => if off = tot then some [] else none
  | off, f :: r => if f.offset = off then (rec f.type).bind fun a => (cksF P rec tot (off + P.cellsOf f.type) r).map (a ++ ·) else none
/-- a type's cells -/
def cks (P : Program) : Nat → TypeId → Option (List CK)
  | 0, _ => none
  | n + 1, t => match P.underlying t with
    | some (.int k) => some [.int k]
    | some .bool => some [.bool]
    | some .string => some [.str]
    | some (.slice e) => if P.cellsOf e = 0 then none else (sz P e).map fun _ => [.slice e]
    | some (.struct fs) => cksF P (cks P n) (P.cellsOf t) 0 fs.toList
    | some (.array k e) => if P.cellsOf t = k * P.cellsOf e then
        match P.underlying e with
        | some (.int q) => if P.cellsOf e = 1 then some [.ints q k] else none
        | _ => (cks P n e).map fun a => (List.replicate k a).flatten
      else none
    | _ => none
section
variable {H : Type} {enc : TypeId × Value → H} {P : Program} {W : World} {base : Nat} {sp : Nat → Bool} {hd : Bool} {m : DataW H → Nat} {N : Nat}
theorem Fits.app : ∀ {a b : List CK} {xs ys : List Value}, Fits enc P W base sp hd m N a xs → Fits enc P W base sp hd m N b ys → Fits enc P W base sp hd m N (a ++ b) (xs ++ ys)
  | [], b, xs, ys, h, h' => by rw [Fits] at h; subst h; exact h'
  | .int k :: r, b, xs, ys, h, h' => by rw [Fits] at h; obtain ⟨i, cs', rfl, hw, hr⟩ := h; exact ⟨i, cs' ++ ys, rfl, hw, hr.app h'⟩
  | .bool :: r, b, xs, ys, h, h' => by rw [Fits] at h; obtain ⟨i, cs', rfl, hr⟩ := h; exact ⟨i, cs' ++ ys, rfl, hr.app h'⟩
  | .str :: r, b, xs, ys, h, h' => by rw [Fits] at h; obtain ⟨i, cs', rfl, hw, hr⟩ := h; exact ⟨i, cs' ++ ys, rfl, hw, hr.app h'⟩
  | .ints k n :: r, b, xs, ys, h, h' => by rw [Fits] at h; obtain ⟨i, cs', rfl, hw, hr⟩ := h; exact ⟨i, cs' ++ ys, by rw [List.append_assoc], hw, hr.app h'⟩
  | .slice e :: r, b, xs, ys, h, h' => by rw [Fits] at h; obtain ⟨i, cs', rfl, hw, hr⟩ := h; exact ⟨i, cs' ++ ys, rfl, hw, hr.app h'⟩
theorem cksF_fits {rec : TypeId → Option (List CK)} {n : Nat} {cs : List Value} (hrec : ∀ t ks c x, rec t = some ks → DataW.trod enc P W base sp hd n t c = some x → m x.1 ≤ N → Fits enc P W base sp hd m N ks c) :
    ∀ (l : List Field) (off : Nat) (ks : List CK), (∀ f ∈ l, ∃ x, DataW.trod enc P W base sp hd n f.type ((cs.drop f.offset).take (P.cellsOf f.type)) = some x ∧ m x.1 ≤ N) → cksF P rec cs.length off l = some ks → Fits enc P W base sp hd m N ks (cs.drop off)
  | [], off, ks, _, h => by
    unfold cksF at h
    split at h
    · rename_i e
      cases h
      rw [Fits, List.drop_of_length_le (by omega)]
    · cases h
  | f :: r, off, ks, hx, h => by
    unfold cksF at h
    split at h
    · rename_i e
      obtain ⟨a, ha, h⟩ := Option.bind_eq_some_iff.1 h
      obtain ⟨b, hb, rfl⟩ := Option.map_eq_some_iff.1 h
      obtain ⟨x, h1, h2⟩ := hx f (by simp)
      have hf := hrec _ _ _ _ ha h1 h2
      have hg := cksF_fits hrec r _ _ (fun g hg => hx g (by simp [hg])) hb
      have := hf.app hg
      rw [e, ← List.drop_drop, List.take_append_drop] at this
      exact this
    · cases h
theorem ints_fits {n e k : Nat} {q : IntKind} (he : P.underlying e = some (.int q)) : ∀ (k : Nat) (cs : List Value), cs.length = k → (∀ i, i < k → ∃ x, DataW.trod enc P W base sp hd n e ((cs.drop (i * 1)).take 1) = some x) →
    ∃ l : List Int, cs = l.map (Value.int q) ∧ l.length = k ∧ ∀ i ∈ l, (Lit.int q i).wf = true
  | 0, cs, h, _ => ⟨[], List.eq_nil_of_length_eq_zero h, rfl, fun i h => by simp at h⟩
  | k + 1, cs, h, hx => by
    cases cs with
    | nil => simp at h
    | cons c cs =>
      obtain ⟨x, h0⟩ := hx 0 (by omega)
      obtain ⟨i, h1, _, hw⟩ := DataW.trod_int he h0
      simp at h1
      subst h1
      obtain ⟨l, rfl, h2, h3⟩ := ints_fits (k := k) he k cs (by simpa using h) (fun i hi => by
        have := hx (i + 1) (by omega)
        simpa [Nat.add_mul] using this)
      exact ⟨i :: l, rfl, by simp [h2], fun j hj => by rcases List.mem_cons.1 hj with rfl | hj; exact hw; exact h3 j hj⟩
theorem rep_fits {n e : Nat} {ks : List CK} (hrec : ∀ c x, DataW.trod enc P W base sp hd n e c = some x → m x.1 ≤ N → Fits enc P W base sp hd m N ks c) (s : Nat) : ∀ (k : Nat) (cs : List Value), cs.length = k * s →
    (∀ i, i < k → ∃ x, DataW.trod enc P W base sp hd n e ((cs.drop (i * s)).take s) = some x ∧ m x.1 ≤ N) → Fits enc P W base sp hd m N (List.replicate k ks).flatten cs
  | 0, cs, h, _ => by
    have : cs = [] := List.eq_nil_of_length_eq_zero (by simpa using h)
    subst this
    simp [Fits]
  | k + 1, cs, h, hx => by
    obtain ⟨x, h0, h1⟩ := hx 0 (by omega)
    have hf := hrec _ _ h0 h1
    have hl : (cs.drop s).length = k * s := by rw [List.length_drop, h, Nat.add_mul]; omega
    have hg := rep_fits hrec s k (cs.drop s) hl (fun i hi => by
      obtain ⟨y, h2, h3⟩ := hx (i + 1) (by omega)
      refine ⟨y, ?_, h3⟩
      rw [List.drop_drop]
      rw [Nat.add_mul, Nat.one_mul, Nat.add_comm] at h2
      exact h2)
    have := hf.app hg
    simp only [Nat.zero_mul, List.drop_zero, List.take_append_drop] at this
    rw [List.replicate_succ, List.flatten_cons]
    exact this
theorem cks_fits (hm : Meas m) : ∀ (n : Nat) (t : TypeId) (ks : List CK) (fuel : Nat) (cs : List Value) (x : DataW H × List MemPlace), cks P n t = some ks → DataW.trod enc P W base sp hd fuel t cs = some x → m x.1 ≤ N → Fits enc P W base sp hd m N ks cs
  | 0, t, ks, fuel, cs, x, h, _, _ => by cases h
  | n + 1, t, ks, fuel, cs, x, h, hx, hN => by
    unfold cks at h
    split at h
    · rename_i k hu
      cases h
      obtain ⟨i, rfl, _, hw⟩ := DataW.trod_int hu hx
      exact ⟨i, [], rfl, hw, rfl⟩
    · rename_i hu
      cases h
      obtain ⟨b, rfl, _⟩ := DataW.trod_bool hu hx
      exact ⟨b, [], rfl, rfl⟩
    · rename_i hu
      cases h
      obtain ⟨s, rfl, rfl, hw⟩ := DataW.trod_string hu hx
      refine ⟨s, [], rfl, ⟨hw, ?_⟩, rfl⟩
      have := hm.str s.data.toList
      simp only [Array.length_toList] at this
      have h2 : s.size = s.data.size := rfl
      have h3 : m (.lit (.string s.data.toList)) ≤ N := hN
      omega
    · rename_i e hu
      split at h
      · cases h
      · rename_i hc
        obtain ⟨s, hs, rfl⟩ := Option.map_eq_some_iff.1 h
        have hce := cellsOf_sz hs
        obtain ⟨j, hj⟩ : ∃ j, s = j + 1 := ⟨s - 1, by omega⟩
        subst hj
        obtain ⟨v, l, ao, cap, rfl, hS, hcap, hor⟩ := open_slice_cells hu hs hx
        refine ⟨v, [], rfl, ⟨l, ao, cap, by rw [hce]; exact hS, hcap, ?_, ?_⟩, rfl⟩
        · rcases hor with ⟨_, rfl, _⟩ | ⟨ds, rs, n', h1, h2, _⟩
          · simp
          · have := hm.len ds rs
            rw [h1] at hN; omega
        · intro c hcm
          rcases hor with ⟨_, rfl, _⟩ | ⟨ds, rs, n', h1, h2, _, _, h3⟩
          · cases hcm
          · obtain ⟨i, hi, he⟩ := List.getElem_of_mem hcm
            obtain ⟨y, hy, hyd⟩ := h3 i c (by rw [List.getElem?_eq_getElem hi, he])
            refine ⟨_, y, hy, ?_⟩
            have := hm.el ds rs y.1 (List.mem_of_getElem? hyd)
            rw [h1] at hN; omega
    · rename_i fs hu
      obtain ⟨xs, n', rfl, rfl, hl, hxl, hf⟩ := DataW.trod_struct hu hx
      rw [← hl] at h
      refine cksF_fits (n := n') (cs := cs) (fun t ks c x h1 h2 h3 => cks_fits hm n t ks n' c x h1 h2 h3) fs.toList 0 ks (fun f hfm => ?_) h
      obtain ⟨i, hi, he⟩ := List.getElem_of_mem hfm
      have hif : fs[i]? = some f := by rw [Array.getElem?_eq_getElem (by simpa using hi)]; simpa using he
      have h1 := hf i f hif
      have hi2 : i < xs.length := by rw [hxl]; simpa using hi
      rw [List.getElem?_eq_getElem hi2] at h1
      exact ⟨xs[i], h1, Nat.le_trans (hm.agg _ _ (List.mem_map.2 ⟨xs[i], List.getElem_mem hi2, rfl⟩)) hN⟩
    · rename_i k e hu
      split at h
      · rename_i hc
        obtain ⟨xs, n', rfl, rfl, hl, hxl, hf⟩ := DataW.trod_array hu hx
        have hE : ∀ i, i < k → ∃ x, DataW.trod enc P W base sp hd n' e ((cs.drop (i * P.cellsOf e)).take (P.cellsOf e)) = some x ∧ m x.1 ≤ N := fun i hi => by
          have h1 := hf i hi
          have hi2 : i < xs.length := by omega
          rw [List.getElem?_eq_getElem hi2] at h1
          exact ⟨xs[i], h1, Nat.le_trans (hm.agg _ _ (List.mem_map.2 ⟨xs[i], List.getElem_mem hi2, rfl⟩)) hN⟩
        split at h
        · rename_i q hq
          split at h
          · rename_i h1
            cases h
            rw [h1] at hc hE
            obtain ⟨l, rfl, h2, h3⟩ := ints_fits (k := k) hq k cs (by omega) (fun i hi => let ⟨x, a, _⟩ := hE i hi; ⟨x, a⟩)
            exact ⟨l, [], by simp, ⟨h2, h3⟩, rfl⟩
          · cases h
        · obtain ⟨a, ha, rfl⟩ := Option.map_eq_some_iff.1 h
          exact rep_fits (n := n') (fun c x h1 h2 => cks_fits hm n e a n' c x ha h1 h2) (P.cellsOf e) k cs (by omega) hE
      · cases h
    · cases h
/-- an argument that is a struct -/
theorem open_fits (hm : Meas m) {t : TypeId} {v : Value} {d : DataW H} {ps : List MemPlace} {r : Reach} {b0 : Nat} {fs : Array Field} (ht : P.underlying t = some (.struct fs)) (hval : Value.okWide P W r b0 t v) (h : DataW.Trod enc P W base sp hd t v d ps)
    {n : Nat} {ks : List CK} (hk : cks P n t = some ks) (hN : m d ≤ N) : ∃ cs : List Value, v = .agg cs.toArray ∧ Fits enc P W base sp hd m N ks cs := by
  obtain ⟨cs, rfl, _⟩ := okWide_struct ht hval
  obtain ⟨fuel, hf⟩ := h
  exact ⟨cs.toList, by simp, cks_fits hm n t ks fuel _ _ hk hf hN⟩
/-- an argument that is an array -/
theorem open_fitsA (hm : Meas m) {t e : TypeId} {v : Value} {d : DataW H} {ps : List MemPlace} {cs : Array Value} (hval : v = .agg cs) (h : DataW.Trod enc P W base sp hd t v d ps)
    {n : Nat} {ks : List CK} (hk : cks P n t = some ks) (hN : m d ≤ N) : Fits enc P W base sp hd m N ks cs.toList := by
  subst hval
  obtain ⟨fuel, hf⟩ := h
  exact cks_fits hm n t ks fuel _ _ hk hf hN
/-- the elements, by kinds -/
theorem SlOf.cells (hm : Meas m) {e : TypeId} {v : Value} (h : SlOf enc P W base sp hd m N e v) {n : Nat} {ks : List CK} (hk : cks P n e = some ks) :
    ∃ l ao cap, Sv [old W] v (P.cellsOf e) id l ao cap ∧ cap ≤ maxLen ∧ l.length ≤ N ∧ ∀ c ∈ l, Fits enc P W base sp hd m N ks c := by
  obtain ⟨l, ao, cap, h1, h2, h3, h4⟩ := h
  refine ⟨l, ao, cap, h1, h2, h3, fun c hc => ?_⟩
  obtain ⟨n', y, hy, hyN⟩ := h4 c hc
  exact cks_fits hm n e ks n' c y hk hy hyN
/-- typed elements -/
theorem SlOf.typed (hm : Meas m) {e : TypeId} {v : Value} (h : SlOf enc P W base sp hd m N e v) {n : Nat} {ks : List CK} (hk : cks P n e = some ks) {α : Type} {f : α → List Value} {Φ : α → Prop} (hf : ∀ c, Fits enc P W base sp hd m N ks c → ∃ a, c = f a ∧ Φ a) :
    ∃ l ao cap, Sv [old W] v (P.cellsOf e) f l ao cap ∧ cap ≤ maxLen ∧ l.length ≤ N ∧ ∀ a ∈ l, Φ a := by
  obtain ⟨l, ao, cap, h1, h2, h3, h4⟩ := h.cells hm hk
  obtain ⟨l', rfl, h5⟩ := SL.typed (f := f) (Φ := Φ) (l := l) (fun c hc => hf c (h4 c hc))
  exact ⟨l', ao, cap, Sv.typed h1, h2, by simpa using h3, h5⟩
end
/-- the end of a body, its result by an equation -/
theorem End.goE {P : Program} {n : Nat} {w0 : World} {L : List (Nat × Value)} {A : List Asn} {fn : Func} {F : List Asn} {ρ : Type} {val : ρ → Value} {post : ρ → List Asn} {Q : Act → World → Prop} (h : End P fn n w0 F val post Q) (r : ρ) {v : Value} (hr : Rs P fn n L A v) (he : v = val r)
    (hs : Sub A (post r ++ F) := by simp only [List.cons_append, List.nil_append]; repeat (first | with_reducible exact Sub.refl | with_reducible exact Sub.nil | with_reducible refine Sub.cons (by repeat (first | with_reducible exact Ext.here | with_reducible apply Ext.there)) ?_ | with_reducible refine Sub.tail ?_)) : Ps Q w0 n L A := h r L A (he ▸ hr) hs
end Go.SL
