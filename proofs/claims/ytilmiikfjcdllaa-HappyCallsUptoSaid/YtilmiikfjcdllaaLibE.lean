/-
  Contracts of functions that the claim reaches, or the logic and the plain laws that they rest on, or the row over them. (Conditions: none beyond the statement.)
-/
import Derived.Test.YtilmiikfjcdllaaLibC
import Derived.Laws.BytesString
import Derived.Test.YtilmiikfjcdllaaLibS
import Derived.Lib.BytesEntry
import Derived.Test.YtilmiikfjcdllaaLibA
import Derived.Shelf.Sort.Plain
import Derived.Shelf.Slices.In.SortNone
import Derived.Test.YtilmiikfjcdllaaLibB
set_option linter.all false
/-
  What is read off: x[:n:n], a text out of bytes. (Conditions: none; generic over the program.)
-/
namespace Go.SL
open Go.RowKit
theorem sv_nilB {α : Type} {A : List Asn} {v : Value} {e : Nat} {f : α → List Value} {l : List α} {ao : Option Addr} {cap : Nat} (h : Sv A v e f l ao cap) (hn : ao.isNone = true) : l = [] := by
  rcases Nat.eq_zero_or_pos l.length with q | q
  · exact List.eq_nil_of_length_eq_zero q
  · have := h.ptr q
    rw [this] at hn; cases hn
open Go.SL Go.RowKit
section
variable {P : Program} {n : Nat} {L : List (Nat × Value)} {A : List Asn} {d : Option Tmp} {ty : TypeId} {pos : String} {af : Array Edge} {g : Option (Nat × Bool)}
end
end Go.SL
/-
  Two lists of bytes held against one another by the library's own entry. (Conditions: none; generic over the program.)
-/
set_option maxRecDepth 20000
namespace Go.ShM
open Go.SL Go.RowKit
def bz (l : List B8) : List Int := l.map fun x => (x.toNat : Int)
def ba (l : List B8) : ByteArray := ⟨(Lib.bytesOf (bz l)).toArray⟩
section
variable {P : Program} {n : Nat} {L : List (Nat × Value)} {A : List Asn} {d : Option Tmp} {ty : TypeId} {pos' : String} {af : Array Edge} {g : Option (Nat × Bool)}
end
end Go.ShM
/-
  slices.Sort at whole numbers, in the logic: the slice's cells are sorted. (Conditions: none; generic over the program.)
-/
namespace Go.SL
open Go.RowKit Go.Sort Go.Shelf Go.Proofs
variable {P : Program}
end Go.SL
/-
  slices.SortFunc at elements of several cells, slices.Sort at whole numbers, in the logic: the slice's cells are sorted, what the order reads is kept. (Conditions: a comparison that is a function of the two values, and parts whatever two are not one.)
-/
namespace Go.SL
open Go.RowKit Go.Sort Go.Shelf Go.Proofs
variable {P : Program} {α : Type} [Inhabited α]
theorem sortWorldK_heap {enc : α → List Value} {k : Nat} {w : World} {blk off m : Nat} {dk : Array α} {os : Array Obj} {c : Nat} {x : Obj} (hc : c ≠ blk) (h : w.heap[c]? = some x) : (sortWorldK enc k w blk off m dk os).heap[c]? = some x := by
  have hlt : c < w.heap.size := (Array.getElem?_eq_some_iff.1 h).1
  simp only [sortWorldK, Sort.grow, putRowK, putRow, mapBlock, Sort.ahead]
  rw [Array.getElem?_append_left (by simpa using hlt), Array.getElem?_modify, if_neg (Ne.symm hc), h]
theorem cmpLaysK_of {g k : Nat} {cb : Array Value} {enc : α → List Value} {cf : α → α → Int} {blk off size : Nat} {w : World} {X : List (Nat × Obj)} (hX : sat w (pts X)) (hne : ∀ o, (blk, o) ∉ X)
    (hc : ∀ x y, Ct P g (.agg (enc x).toArray :: .agg (enc y).toArray :: cb.toList) (pts X) (fun _ : Unit => .int .i64 (cf x y)) (fun _ => pts X)) : CmpLays P g cb enc k cf blk off size w := by
  intro m os dk _ x y
  obtain ⟨h, hw, r⟩ := hX
  have hS : sat (sortWorldK enc k w blk off m dk os) (pts X) := ⟨h, fun b o hb => sortWorldK_heap (fun e => by
    obtain ⟨o', ho'⟩ := (sep_pts r b).1 ⟨o, hb⟩
    rw [e] at ho'; exact hne _ ho') (hw b o hb), r⟩
  have h2 := sat_oldBut hS
  have e : (.agg (enc x).toArray :: .agg (enc y).toArray :: cb.toList).toArray = #[.agg (enc x).toArray, .agg (enc y).toArray] ++ cb := by apply Array.ext'; simp
  have := (hc x y).out _ _ h2
  rw [e] at this
  refine this.mono ?_
  rintro e w' ⟨r, rfl, hs', hk⟩
  exact ⟨rfl, grown_of hk fun b hb => oldBut_block hS hs' hb⟩
theorem flat_at {enc : α → List Value} {k : Nat} (hk : ∀ x, (enc x).length = k) : ∀ (l : List α) (t : Nat), t < l.length * k → (l.flatMap enc)[t]? = some ((enc l.toArray[t / k]!)[t % k]!)
  | [], t, h => by simp at h
  | x :: l, t, h => by
    have hk0 : 0 < k := by rcases Nat.eq_zero_or_pos k with e | e; (subst e; simp at h); exact e
    rw [List.flatMap_cons]
    rcases Nat.lt_or_ge t k with q | q
    · rw [List.getElem?_append_left (by rw [hk]; exact q), Nat.div_eq_of_lt q, Nat.mod_eq_of_lt q]
      simp [hk, q]
    · rw [List.getElem?_append_right (by rw [hk]; exact q), hk]
      have h' : t - k < l.length * k := by rw [List.length_cons, Nat.add_mul, Nat.one_mul] at h; omega
      rw [flat_at hk l (t - k) h']
      have e1 : t / k = (t - k) / k + 1 := by rw [← Nat.sub_add_cancel q, Nat.add_div_right _ hk0, Nat.sub_add_cancel q]
      have e2 : t % k = (t - k) % k := by rw [Nat.mod_eq_sub_mod q]
      rw [e1, e2]
      have hi : (t - k) / k < l.length := Nat.div_lt_of_lt_mul (by rw [Nat.mul_comm]; exact h')
      simp [getElem!_pos, hi]
theorem flatK_list {enc : α → List Value} {k : Nat} (hk : ∀ x, (enc x).length = k) (l : List α) : (flatK enc k l.toArray).toList = l.flatMap enc := by
  apply List.ext_getElem?
  intro t
  by_cases h : t < l.length * k
  · rw [flat_at hk l t h]
    have hs : t < (flatK enc k l.toArray).size := by simpa using h
    rw [Array.getElem?_toList, Array.getElem?_eq_getElem hs, ← get_flatK enc k l.toArray t (by simpa using h), getElem!_pos (flatK enc k l.toArray) t hs]
  · rw [List.getElem?_eq_none (by simpa using h), List.getElem?_eq_none (by rw [flat_len hk]; omega)]
theorem Ct_sortK {ρ : Ren} (L : SlLaysF0.n6 P ρ) (k : Nat) (aE : ∀ w, (isAgg (ρ.t 24)).run P w = .ok true w) (zE : ∀ w, (Go.sizeOf (ρ.t 24)).run P w = .ok k w) (enc : α → List Value) (hk : ∀ x, (enc x).length = k) (h1 : ∀ x, ∀ v ∈ enc x, v.oneCell' = true) (cf : α → α → Int) (hO : SWO (ltOf cf)) (hT : ∀ x y, (ltOf cf) x y = false → (ltOf cf) y x = false → x = y) (g : Nat) (cb : List Value) (hg : cfn P g = true) (X : List (Nat × Obj))
    (hc : ∀ x y, Ct P g (.agg (enc x).toArray :: .agg (enc y).toArray :: cb) (pts X) (fun _ : Unit => .int .i64 (cf x y)) (fun _ => pts X)) (a : Option Nat) (cap : Nat) (T : TypeId) (l : List α) (hsz : l.length < 4611686018427387904) :
    Ct P (ρ.f 6) [.slice (a.map fun b => ⟨b, 0, none⟩) l.length cap, .func (.func g) #[] cb.toArray] (arr a cap k T enc l :: pts X) (fun _ : Unit => .tuple #[]) (fun _ => arr a cap k T enc (l.mergeSort fun x y => !(ltOf cf) y x) :: pts X) := by
  refine ⟨fun F w hs => ?_⟩
  rw [List.cons_append] at hs
  by_cases hl0 : l = []
  · subst hl0
    refine (AnyF.slices_SortFunc_none L _ cap _ w).mono ?_
    rintro e w' ⟨rfl, rfl⟩
    exact ⟨(), rfl, by rw [List.cons_append]; simpa using hs, Kept.refl _⟩
  cases a with
  | none => exact absurd (arr_none (A := arr none cap k T enc l :: (pts X ++ F)) Has.here hs).2 hl0
  | some blk =>
  unfold arr at hs
  obtain ⟨cur, h2⟩ := sat_ex.1 hs
  obtain ⟨⟨hfe, hcl, hle, hm, htk⟩, h3⟩ := sat_and.1 h2
  have hb := sat_pt h3
  have hblk : blk < w.heap.size := (Array.getElem?_eq_some_iff.1 hb).1
  have hX : sat w (pts X) := sat_sub (R := F) (.refl _) (sat_drop h3)
  have hne : ∀ o, (blk, o) ∉ X := fun o ho => by
    have hs4 : sat w (pt blk (.cells cur.toArray T (0, 0)) :: pts X) := sat_sub (R := F) (by simp) h3
    obtain ⟨Y, Z, rfl⟩ := List.append_of_mem ho
    refine sat_ne (b := blk) (c := blk) (o := .cells cur.toArray T (0, 0)) (p := o) (R := pts Y ++ pts Z) (sat_perm ?_ hs4) rfl
    refine List.Perm.cons _ ?_
    unfold pts
    simp only [List.map_append, List.map_cons]
    exact List.perm_middle
  have hflen : (l.flatMap enc).length = l.length * k := flat_len hk l
  have hcur : ∀ j, j < l.length * k → cur[j]? = some ((flatK enc k l.toArray)[j]!) := fun j hj => by
    have h5 : (cur.take (l.length * k))[j]? = (l.flatMap enc)[j]? := by rw [htk]
    rw [List.getElem?_take, if_pos hj, flat_at hk l j hj] at h5
    rw [h5, get_flatK enc k l.toArray j (by simpa using hj)]
  have hH : HoldsK enc k w blk 0 l.toArray := fun j hj => by
    have hj' : j < l.length * k := by simpa using hj
    refine ⟨cell_of hb (by simpa using hcur j hj'), ?_⟩
    simp [World.frozen?, hb]
  have hcon := AnyQ.slices_SortFunc_total L k aE zE enc hk h1 cf hO g cb.toArray blk 0 cap l.toArray w (fun _ _ => run_callFunc hg _ _) (cmpLaysK_of hX hne (by simpa using hc)) hH hblk (by simpa using hsz) hT
  rw [List.size_toArray] at hcon
  refine hcon.mono ?_
  rintro e w' ⟨rfl, n, os, rfl⟩
  have hlen : (l.mergeSort fun x y => !(ltOf cf) y x).length = l.length := List.length_mergeSort _
  have hkk : Kept w (sortWorldK enc k w blk 0 n (l.mergeSort fun x y => !(ltOf cf) y x).toArray os) := ⟨rfl, rfl, rfl, by simp [sortWorldK, Sort.grow, putRowK, putRow, mapBlock, Sort.ahead], by simp [sortWorldK, Sort.grow, putRowK, putRow, mapBlock, Sort.ahead]⟩
  refine ⟨(), rfl, ?_, hkk⟩
  rw [List.cons_append]
  unfold arr
  refine sat_ex.2 ⟨(putCells id 0 (flatK enc k (l.mergeSort fun x y => !(ltOf cf) y x).toArray) cur.toArray).toList, sat_and.2 ⟨⟨hfe, by simp [putCells, hcl], by rw [hlen]; exact hle, hm, ?_⟩, sat_upd (o := .cells cur.toArray T (0, 0)) ?_ (fun c hc x hx => sortWorldK_heap hc hx) h3⟩⟩
  · rw [← flatK_list hk]
    apply List.ext_getElem?
    intro i
    rw [List.getElem?_take]
    by_cases hi : i < (l.mergeSort fun x y => !(ltOf cf) y x).length * k
    · rw [if_pos hi]
      have hi2 : i < cur.length := by rw [hcl]; rw [hlen] at hi; exact Nat.lt_of_lt_of_le hi (Nat.mul_le_mul_right _ hle)
      have hi3 : i < (flatK enc k (l.mergeSort fun x y => !(ltOf cf) y x).toArray).size := by simpa using hi
      simp only [putCells, Array.getElem?_toList, Array.getElem?_mapIdx]
      rw [List.getElem?_toArray, List.getElem?_eq_getElem hi2, Array.getElem?_eq_getElem hi3]
      simp only [Option.map_some, Nat.zero_le, true_and, Nat.zero_add, Nat.sub_zero, id]
      rw [if_pos hi3, getElem!_pos (flatK enc k (l.mergeSort fun x y => !(ltOf cf) y x).toArray) i hi3]
    · rw [if_neg hi, List.getElem?_eq_none (by simpa using hi)]
  · simp only [sortWorldK, Sort.grow, putRowK, putRow, mapBlock, Sort.ahead]
    rw [Array.getElem?_append_left (by simpa using hblk), Array.getElem?_modify, if_pos rfl, hb]
    simp [onCells]
end Go.SL
/-
  Ways that meet behind a piece of code. (Conditions: none; generic over the program.)
-/
namespace Go.SL
open Go.RowKit
theorem WC_meet {P : Program} {m : Md} {Q : Exit → Act → World → Prop} {w0 : World} {n : Nat} {L D : List (Nat × Value)} {A R B0 : List Asn} {x : Code} {σ : Type} (M : σ → List (Nat × Value)) (B : σ → List Asn) (φ : σ → Prop) (ks : List Nat) (hD : Kep ks L D) (hR : Gv A B0 R)
    (hx : (∀ s, φ s → Ps m (Q .normal) w0 n (M s ++ D) (B s ++ R)) → WC P m Q w0 n x L A) (hy : ∀ s, φ s → Ps m (Q .normal) w0 n (M s ++ D) (B s ++ R)) : WC P m Q w0 n x L A := hx hy
end Go.SL
