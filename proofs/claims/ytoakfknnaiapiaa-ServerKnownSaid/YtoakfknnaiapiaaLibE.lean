/-
  Contracts of functions that the claim reaches, or the logic and the plain laws that they rest on, or the row over them. (Conditions: none beyond the statement.)
-/
import Derived.Test.YtoakfknnaiapiaaLibC
import Derived.Laws.BytesString
import Derived.Test.YtoakfknnaiapiaaLibS
import Derived.Lib.BytesEntry
import Derived.Test.YtoakfknnaiapiaaLibA
import Derived.Shelf.Sort.Plain
import Derived.Shelf.Slices.In.SortNone
import Derived.Test.YtoakfknnaiapiaaLibB
set_option linter.all false
/-
  What is read off: x[:n:n], a text out of bytes. (Conditions: none; generic over the program.)
-/
namespace Go.SL
open Go.RowKit
theorem sv_nilB {α : Type} {A : List Asn} {v : Value} {e : Nat} {f : α → List Value} {l : List α} {ao : Option Addr} {cap : Nat} (h : Sv A v e f l ao cap) (hn : ao.isNone = true) : l = [] := by
  rcases Nat.eq_zero_or_pos l.length with q | q
  · exact List.eq_nil_of_length_eq_zero q
  · have := h.ptr q
    rw [this] at hn; cases hn
open Go.SL Go.RowKit
section
variable {P : Program} {n : Nat} {L : List (Nat × Value)} {A : List Asn} {d : Option Tmp} {ty : TypeId} {pos : String} {af : Array Edge} {g : Option (Nat × Bool)}
def strB (l : List (BitVec 8)) : ByteArray := ⟨(l.map UInt8.ofBitVec).toArray⟩
theorem strB_bsS (s : ByteArray) : strB (bsS s) = s := by
  unfold strB bsS
  rw [List.map_map]
  have : (UInt8.ofBitVec ∘ UInt8.toBitVec) = id := by funext x; rfl
  rw [this, List.map_id, Array.toArray_toList]
theorem bsS_strB (l : List (BitVec 8)) : bsS (strB l) = l := by
  unfold strB bsS
  simp only [List.map_map]
  have : (UInt8.toBitVec ∘ UInt8.ofBitVec) = id := by funext x; rfl
  rw [this, List.map_id]
theorem str_beqT {a b : ByteArray} (h : (a.toList == b.toList) = true) : a = b := by
  have h2 : a.toList = b.toList := by simpa using h
  rw [ByteArray.toList_eq, ByteArray.toList_eq] at h2
  rw [← strB_bsS a, ← strB_bsS b]
  unfold bsS
  rw [h2]
theorem fold_str : ∀ (l : List (BitVec 8)) (s : ByteArray), (l.map fun b => ((b.toNat : Nat) : Int)).foldl (fun r n => r.push (UInt8.ofNat n.toNat)) s = ⟨s.data ++ (l.map UInt8.ofBitVec).toArray⟩
  | [], s => by simp
  | b :: l, s => by
    rw [List.map_cons, List.foldl_cons, fold_str l]
    have e : UInt8.ofNat b.toNat = UInt8.ofBitVec b := by
      apply UInt8.toNat_inj.1
      simp [UInt8.toNat_ofNat']
    simp only [Int.toNat_natCast, e]
    congr 1
    simp [ByteArray.push]
theorem Rd_convBS {t t' et : TypeId} {x : Operand} {v : Value} {l : List (BitVec 8)} {ao : Option Addr} {cap : Nat} {B : List Asn} (hx : ev L x = some v) (ht : P.underlying t = some (.slice et)) (ht' : P.underlying t' = some .string) (he : P.underlying et = some (.int .u8)) (hA : Sv B v 1 (eU .u8 (w := 8)) l ao cap := by assumption) (hB : Sub A B := by repeat (first | with_reducible exact Sub.refl | with_reducible exact Sub.nil | with_reducible refine Sub.cons (by repeat (first | with_reducible exact Ext.here | with_reducible apply Ext.there)) ?_ | with_reducible refine Sub.tail ?_)) :
    Rd P n ⟨d, .convert t t' x, ty, pos, af, g⟩ L A (.string (strB l)) := fun a w hf hs => by
  have hS := hA.mono hB
  obtain ⟨h1, h2, h3⟩ := Src_sv (P := P) hS
  have hc := h3 w hs
  rw [hS.val] at hx hc
  simp only [execOp, hf.eval hx, Sem.run_bind, Sem.run_pure, Result.andThen_ok]
  rw [run_convert_bytes_string w t t' et ao l.length cap ht he ht']
  cases ao with
  | none =>
    have hl : l = [] := by
      rcases Classical.em (l = []) with q | q
      · exact q
      · obtain ⟨_, _, e⟩ := hS.adr q; cases e
    subst hl
    rfl
  | some ad =>
    have e : l.flatMap (eU .u8 (w := 8)) = (l.map fun b => ((b.toNat : Nat) : Int)).map (Value.int .u8) := by
      rw [List.map_map]
      clear hS hc h1 h2 h3 hx hA
      induction l with
      | nil => rfl
      | cons b l ih => rw [List.flatMap_cons, ih]; rfl
    simp only [Builtin.firstCells, Nat.mul_one] at hc
    rw [e] at hc
    rw [run_bytesToString w ad l.length cap _ hc, fold_str]
    unfold strB
    simp [ByteArray.empty, ByteArray.emptyWithCapacity]
    rfl
end
end Go.SL
/-
  Two lists of bytes held against one another by the library's own entry. (Conditions: none; generic over the program.)
-/
set_option maxRecDepth 20000
namespace Go.ShM
open Go.SL Go.RowKit
def bz (l : List B8) : List Int := l.map fun x => (x.toNat : Int)
def ba (l : List B8) : ByteArray := ⟨(Lib.bytesOf (bz l)).toArray⟩
theorem ba_size (l : List B8) : (ba l).size = l.length := by
  simp [ba, bz, Lib.bytesOf, ByteArray.size]
theorem ba_at {l : List B8} {i : Nat} {x : B8} (h : l[i]? = some x) : (ba l)[i]! = x.toNat.toUInt8 := by
  obtain ⟨h1, e1⟩ := List.getElem?_eq_some_iff.1 h
  have hs : i < (ba l).size := by rw [ba_size]; exact h1
  rw [getElem!_pos (ba l) i hs]
  subst e1
  simp [ba, bz, Lib.bytesOf, ByteArray.getElem_eq_getElem_data]
theorem u8_lt {x y : B8} : (x.toNat.toUInt8 < y.toNat.toUInt8) ↔ x.toNat < y.toNat := by
  have hx : x.toNat < 256 := x.isLt
  have hy : y.toNat < 256 := y.isLt
  rw [UInt8.lt_iff_toNat_lt]
  simp [Nat.mod_eq_of_lt hx, Nat.mod_eq_of_lt hy]
theorem u8_eq {x y : B8} : (x.toNat.toUInt8 = y.toNat.toUInt8) ↔ x = y := by
  have hx : x.toNat < 256 := x.isLt
  have hy : y.toNat < 256 := y.isLt
  constructor
  · intro h
    have := congrArg UInt8.toNat h
    simp [Nat.mod_eq_of_lt hx, Nat.mod_eq_of_lt hy] at this
    exact BitVec.eq_of_toNat_eq this
  · intro h; rw [h]
theorem at_b {l : List B8} {i : Nat} (h : i < l.length) : ∃ x, l[i]? = some x := ⟨_, List.getElem?_eq_getElem h⟩
theorem diff_pre {l l' : List B8} (he : l.length = l'.length) : ∀ k, k ≤ l.length → (∀ j, j < k → ∀ x y, l[j]? = some x → l'[j]? = some y → x = y) → diffL (l.drop k) (l'.drop k) = diffL l l'
  | 0, _, _ => rfl
  | k + 1, hk, h => by
    have ih := diff_pre he k (by omega) fun j hj => h j (by omega)
    obtain ⟨x, hx⟩ := at_b (l := l) (i := k) (by omega)
    obtain ⟨y, hy⟩ := at_b (l := l') (i := k) (by omega)
    rw [diffL_step hx hy, if_pos (h k (by omega) x y hx hy)] at ih
    exact ih
theorem cmp_lt {l l' : List B8} (he : l.length = l'.length) : Extern.BytealgCompare.cmp (ba l) (ba l') < 0 ↔ diffL l l' < 0 := by
  unfold Extern.BytealgCompare.cmp
  rw [ba_size, ba_size, ← he, Nat.min_self]
  split
  · rename_i i hi
    obtain ⟨h1, h2, h3⟩ := List.find?_range_eq_some.1 hi
    have hil : i < l.length := List.mem_range.1 h2
    have hp := diff_pre he i (by omega) fun j hj x y hx hy => by
      have := h3 j hj
      rw [ba_at hx, ba_at hy] at this
      simp only [Bool.not_eq_true', bne_eq_false_iff_eq] at this
      exact u8_eq.1 this
    obtain ⟨x, hx⟩ := at_b (l := l) (i := i) hil
    obtain ⟨y, hy⟩ := at_b (l := l') (i := i) (by omega)
    rw [ba_at hx, ba_at hy] at h1
    have hne : ¬ x = y := fun e => by subst e; simp at h1
    rw [diffL_step hx hy, if_neg hne] at hp
    rw [ba_at hx, ba_at hy, ← hp]
    have hn : x.toNat ≠ y.toNat := fun e => hne (BitVec.eq_of_toNat_eq e)
    by_cases hlt : x.toNat < y.toNat
    · rw [if_pos (u8_lt.2 hlt)]; omega
    · rw [if_neg (fun e => hlt (u8_lt.1 e))]; omega
  · rename_i hn
    have hp := diff_pre he l.length (Nat.le_refl _) fun j hj x y hx hy => by
      have := List.find?_range_eq_none.1 hn j hj
      rw [ba_at hx, ba_at hy] at this
      simp only [Bool.not_eq_true', bne_eq_false_iff_eq] at this
      exact u8_eq.1 this
    rw [diffL_end (Nat.le_refl _)] at hp
    rw [← hp, if_neg (Nat.lt_irrefl _), if_neg (Nat.lt_irrefl _)]
theorem run_bytesOf_sv {P : Program} {B : List Asn} {v : Value} {l : List B8} {ao : Option Addr} {cap : Nat} {w : World} (hS : Sv B v 1 (eU .u8 (w := 8)) l ao cap) (hs : sat w B) : (Extern.Bytes.bytesOf v).run P w = .ok (ba l) w := by
  rw [hS.val]
  by_cases hl : l = []
  · subst hl
    cases ao with
    | none => rfl
    | some a => rfl
  · obtain ⟨b, o, hao⟩ := hS.adr hl
    have hc := hS.cell w hs
    rw [hao] at hc ⊢
    have hr := Lib.run_loadBytesX (P := P) w (bz l) ⟨b, o, none⟩ .empty (fun j x hj => by
      unfold bz at hj
      rw [List.getElem?_map] at hj
      cases hlj : l[j]? with
      | none => rw [hlj] at hj; cases hj
      | some y =>
        rw [hlj] at hj
        have hx : ((y.toNat : Nat) : Int) = x := by simpa using hj
        have h1 := hc j y hlj 0 (.int .u8 ((y.toNat : Nat) : Int)) rfl
        rw [Nat.mul_one, Nat.add_zero] at h1
        have e : (⟨b, o, none⟩ : Addr).add j = ⟨b, o + j, none⟩ := by unfold Addr.add; split <;> simp_all
        rw [e, ← hx]
        exact h1)
    have hlen : (bz l).length = l.length := by simp [bz]
    rw [hlen] at hr
    show (Extern.Bytes.loadBytes ⟨b, o, none⟩ l.length .empty).run P w = _
    rw [hr]
    congr 1
    apply ByteArray.ext
    show (#[] : Array UInt8) ++ (Lib.bytesOf (bz l)).toArray = (Lib.bytesOf (bz l)).toArray
    simp
section
variable {P : Program} {n : Nat} {L : List (Nat × Value)} {A : List Asn} {d : Option Tmp} {ty : TypeId} {pos' : String} {af : Array Edge} {g : Option (Nat × Bool)}
theorem Ac_cmpB {f : FuncId} {xs : Array Operand} {ts : Array TypeId} {v v' : Value} {l l' : List B8} {ao ao' : Option Addr} {cap cap' : Nat} {B B' : List Asn} (hcf : ∀ (args : Array Value) (w : World), (callFunc f args).run P w = ((Extern.BytealgCompare.compare args).run P w).andThen fun v w' => .ok (.value v) w') (ha : evs L xs.toList = some [v, v'])
    (hS : Sv B v 1 (eU .u8 (w := 8)) l ao cap := by assumption) (hS' : Sv B' v' 1 (eU .u8 (w := 8)) l' ao' cap' := by assumption) (hB : Sub A B := by repeat (first | with_reducible exact Sub.refl | with_reducible exact Sub.nil | with_reducible refine Sub.cons (by repeat (first | with_reducible exact Ext.here | with_reducible apply Ext.there)) ?_ | with_reducible refine Sub.tail ?_)) (hB' : Sub A B' := by repeat (first | with_reducible exact Sub.refl | with_reducible exact Sub.nil | with_reducible refine Sub.cons (by repeat (first | with_reducible exact Ext.here | with_reducible apply Ext.there)) ?_ | with_reducible refine Sub.tail ?_)) :
    Ac P n ⟨d, .call ⟨.value (.func f), xs, ts⟩, ty, pos', af, g⟩ L A (fun r A' => r = .int .i64 (Extern.BytealgCompare.cmp (ba l) (ba l')) ∧ A' = A) :=
  Ac_run fun a w hfr hs => by
    refine ⟨_, w, A, .inl ?_, ⟨rfl, rfl⟩, hs, .refl _⟩
    have h1 := run_bytesOf_sv (P := P) hS (hB.sat hs)
    have h2 := run_bytesOf_sv (P := P) hS' (hB'.sat hs)
    have h3 : (Extern.BytealgCompare.compare #[v, v']).run P w = .ok (.int .i64 (Extern.BytealgCompare.cmp (ba l) (ba l'))) w := by
      show ((do pure (goInt (Extern.BytealgCompare.cmp (← Extern.Bytes.bytesOf v) (← Extern.Bytes.bytesOf v')))) : Sem Value).run P w = _
      simp [h1, h2, goInt]
    have e := hfr.evals ha
    have e' : xs.map a.eval = #[v, v'] := by apply Array.ext'; simp [e]
    simp [execOp, resolve, Act.eval, Deferred.ofValue, invoke, e', hcf, h3]
end
end Go.ShM
/-
  slices.Sort at whole numbers, in the logic: the slice's cells are sorted. (Conditions: none; generic over the program.)
-/
namespace Go.SL
open Go.RowKit Go.Sort Go.Shelf Go.Proofs
variable {P : Program}
theorem flatI (f : Int → List Value) (hf : ∀ x, f x = [Value.int .i64 x]) (l : List Int) : l.flatMap f = l.map (Value.int .i64) := by
  induction l with
  | nil => rfl
  | cons x l ih => rw [List.flatMap_cons, ih, hf]; rfl
theorem Ct_sortI {ρ : Ren} (L : Lays.n189 P ρ) (f : Int → List Value) (hf : ∀ x, f x = [Value.int .i64 x]) (a : Option Nat) (cap : Nat) (T : TypeId) (l : List Int) (hsz : l.length < 4611686018427387904) :
    Ct P (ρ.f 189) [.slice (a.map fun b => ⟨b, 0, none⟩) l.length cap] [arr a cap 1 T f l] (fun _ : Unit => .tuple #[]) (fun _ => [arr a cap 1 T f (l.mergeSort fun x y => decide (x ≤ y))]) := by
  refine ⟨fun F w hs => ?_⟩
  rw [List.cons_append, List.nil_append] at hs
  by_cases hl0 : l = []
  · subst hl0
    refine (Any.slices_Sort_int_none L _ cap w).mono ?_
    rintro e w' ⟨rfl, rfl⟩
    exact ⟨(), rfl, by rw [List.cons_append, List.nil_append]; simpa using hs, Kept.refl _⟩
  cases a with
  | none => exact absurd (arr_none (A := arr none cap 1 T f l :: F) Has.here hs).2 hl0
  | some blk =>
  unfold arr at hs
  obtain ⟨cur, h2⟩ := sat_ex.1 hs
  obtain ⟨⟨hfe, hcl, hle, hm, htk⟩, h3⟩ := sat_and.1 h2
  rw [Nat.mul_one] at hcl htk
  rw [flatI f hf] at htk
  have hb := sat_pt h3
  have hblk : blk < w.heap.size := (Array.getElem?_eq_some_iff.1 hb).1
  have hcur : ∀ j, j < l.length → cur[j]? = some (Value.int .i64 (l.toArray[j]!)) := fun j hj => by
    have h5 : (cur.take l.length)[j]? = (l.map (Value.int .i64))[j]? := by rw [htk]
    rw [List.getElem?_take, if_pos hj, List.getElem?_map] at h5
    rw [h5, List.getElem?_eq_getElem hj]
    simp [getElem!_pos, hj]
  have hH : Holds (Value.int .i64) w blk 0 l.toArray := fun j hj => by
    have hj' : j < l.length := by simpa using hj
    refine ⟨cell_of hb (by simpa using hcur j hj'), ?_⟩
    simp [World.frozen?, hb]
  have hcon := Any.slices_Sort_int L blk 0 cap l w hH hblk hsz
  refine hcon.mono ?_
  rintro e w' ⟨rfl, n, os, rfl⟩
  have hlen : (l.mergeSort fun x y => decide (x ≤ y)).length = l.length := List.length_mergeSort _
  have hkk : Kept w (Sort.grow (putRow (Value.int .i64) (Sort.ahead w n) blk 0 (l.mergeSort fun x y => decide (x ≤ y)).toArray) os) := ⟨rfl, rfl, rfl, by simp [Sort.grow, putRow, mapBlock, Sort.ahead], by simp [Sort.grow, putRow, mapBlock, Sort.ahead]⟩
  have hheap : ∀ c, c ≠ blk → ∀ x, w.heap[c]? = some x → (Sort.grow (putRow (Value.int .i64) (Sort.ahead w n) blk 0 (l.mergeSort fun x y => decide (x ≤ y)).toArray) os).heap[c]? = some x := fun c hc x h => by
    have hlt : c < w.heap.size := (Array.getElem?_eq_some_iff.1 h).1
    simp only [Sort.grow, putRow, mapBlock, Sort.ahead]
    rw [Array.getElem?_append_left (by simpa using hlt), Array.getElem?_modify, if_neg (Ne.symm hc), h]
  refine ⟨(), rfl, ?_, hkk⟩
  rw [List.cons_append, List.nil_append]
  unfold arr
  refine sat_ex.2 ⟨(putCells (Value.int .i64) 0 (l.mergeSort fun x y => decide (x ≤ y)).toArray cur.toArray).toList, sat_and.2 ⟨⟨hfe, by simp [putCells, hcl], by rw [hlen]; exact hle, hm, ?_⟩, sat_upd (o := .cells cur.toArray T (0, 0)) ?_ hheap h3⟩⟩
  · rw [Nat.mul_one, flatI f hf]
    apply List.ext_getElem?
    intro i
    rw [List.getElem?_take, List.getElem?_map]
    by_cases hi : i < (l.mergeSort fun x y => decide (x ≤ y)).length
    · rw [if_pos hi]
      have hi2 : i < cur.length := by rw [hcl]; omega
      simp only [putCells, Array.getElem?_toList, Array.getElem?_mapIdx]
      rw [List.getElem?_toArray, List.getElem?_eq_getElem hi2, List.getElem?_eq_getElem hi]
      simp only [Option.map_some]
      rw [if_pos (by simp; omega)]
      simp only [Nat.sub_zero]
      rw [getElem!_pos _ _ (by simpa using hi)]
      simp
    · rw [if_neg hi, List.getElem?_eq_none (by omega)]; rfl
  · simp only [Sort.grow, putRow, mapBlock, Sort.ahead]
    rw [Array.getElem?_append_left (by simpa using hblk), Array.getElem?_modify, if_pos rfl, hb]
    simp [onCells]
end Go.SL
/-
  slices.SortFunc at elements of several cells, slices.Sort at whole numbers, in the logic: the slice's cells are sorted, what the order reads is kept. (Conditions: a comparison that is a function of the two values, and parts whatever two are not one.)
-/
namespace Go.SL
open Go.RowKit Go.Sort Go.Shelf Go.Proofs
variable {P : Program} {α : Type} [Inhabited α]
theorem sortWorldK_heap {enc : α → List Value} {k : Nat} {w : World} {blk off m : Nat} {dk : Array α} {os : Array Obj} {c : Nat} {x : Obj} (hc : c ≠ blk) (h : w.heap[c]? = some x) : (sortWorldK enc k w blk off m dk os).heap[c]? = some x := by
  have hlt : c < w.heap.size := (Array.getElem?_eq_some_iff.1 h).1
  simp only [sortWorldK, Sort.grow, putRowK, putRow, mapBlock, Sort.ahead]
  rw [Array.getElem?_append_left (by simpa using hlt), Array.getElem?_modify, if_neg (Ne.symm hc), h]
theorem cmpLaysK_of {g k : Nat} {cb : Array Value} {enc : α → List Value} {cf : α → α → Int} {blk off size : Nat} {w : World} {X : List (Nat × Obj)} (hX : sat w (pts X)) (hne : ∀ o, (blk, o) ∉ X)
    (hc : ∀ x y, Ct P g (.agg (enc x).toArray :: .agg (enc y).toArray :: cb.toList) (pts X) (fun _ : Unit => .int .i64 (cf x y)) (fun _ => pts X)) : CmpLays P g cb enc k cf blk off size w := by
  intro m os dk _ x y
  obtain ⟨h, hw, r⟩ := hX
  have hS : sat (sortWorldK enc k w blk off m dk os) (pts X) := ⟨h, fun b o hb => sortWorldK_heap (fun e => by
    obtain ⟨o', ho'⟩ := (sep_pts r b).1 ⟨o, hb⟩
    rw [e] at ho'; exact hne _ ho') (hw b o hb), r⟩
  have h2 := sat_oldBut hS
  have e : (.agg (enc x).toArray :: .agg (enc y).toArray :: cb.toList).toArray = #[.agg (enc x).toArray, .agg (enc y).toArray] ++ cb := by apply Array.ext'; simp
  have := (hc x y).out _ _ h2
  rw [e] at this
  refine this.mono ?_
  rintro e w' ⟨r, rfl, hs', hk⟩
  exact ⟨rfl, grown_of hk fun b hb => oldBut_block hS hs' hb⟩
theorem flat_at {enc : α → List Value} {k : Nat} (hk : ∀ x, (enc x).length = k) : ∀ (l : List α) (t : Nat), t < l.length * k → (l.flatMap enc)[t]? = some ((enc l.toArray[t / k]!)[t % k]!)
  | [], t, h => by simp at h
  | x :: l, t, h => by
    have hk0 : 0 < k := by rcases Nat.eq_zero_or_pos k with e | e; (subst e; simp at h); exact e
    rw [List.flatMap_cons]
    rcases Nat.lt_or_ge t k with q | q
    · rw [List.getElem?_append_left (by rw [hk]; exact q), Nat.div_eq_of_lt q, Nat.mod_eq_of_lt q]
      simp [hk, q]
    · rw [List.getElem?_append_right (by rw [hk]; exact q), hk]
      have h' : t - k < l.length * k := by rw [List.length_cons, Nat.add_mul, Nat.one_mul] at h; omega
      rw [flat_at hk l (t - k) h']
      have e1 : t / k = (t - k) / k + 1 := by rw [← Nat.sub_add_cancel q, Nat.add_div_right _ hk0, Nat.sub_add_cancel q]
      have e2 : t % k = (t - k) % k := by rw [Nat.mod_eq_sub_mod q]
      rw [e1, e2]
      have hi : (t - k) / k < l.length := Nat.div_lt_of_lt_mul (by rw [Nat.mul_comm]; exact h')
      simp [getElem!_pos, hi]
theorem flatK_list {enc : α → List Value} {k : Nat} (hk : ∀ x, (enc x).length = k) (l : List α) : (flatK enc k l.toArray).toList = l.flatMap enc := by
  apply List.ext_getElem?
  intro t
  by_cases h : t < l.length * k
  · rw [flat_at hk l t h]
    have hs : t < (flatK enc k l.toArray).size := by simpa using h
    rw [Array.getElem?_toList, Array.getElem?_eq_getElem hs, ← get_flatK enc k l.toArray t (by simpa using h), getElem!_pos (flatK enc k l.toArray) t hs]
  · rw [List.getElem?_eq_none (by simpa using h), List.getElem?_eq_none (by rw [flat_len hk]; omega)]
theorem Ct_sortK {ρ : Ren} (L : SlLaysF0.n6 P ρ) (k : Nat) (aE : ∀ w, (isAgg (ρ.t 24)).run P w = .ok true w) (zE : ∀ w, (Go.sizeOf (ρ.t 24)).run P w = .ok k w) (enc : α → List Value) (hk : ∀ x, (enc x).length = k) (h1 : ∀ x, ∀ v ∈ enc x, v.oneCell' = true) (cf : α → α → Int) (hO : SWO (ltOf cf)) (hT : ∀ x y, (ltOf cf) x y = false → (ltOf cf) y x = false → x = y) (g : Nat) (cb : List Value) (hg : cfn P g = true) (X : List (Nat × Obj))
    (hc : ∀ x y, Ct P g (.agg (enc x).toArray :: .agg (enc y).toArray :: cb) (pts X) (fun _ : Unit => .int .i64 (cf x y)) (fun _ => pts X)) (a : Option Nat) (cap : Nat) (T : TypeId) (l : List α) (hsz : l.length < 4611686018427387904) :
    Ct P (ρ.f 6) [.slice (a.map fun b => ⟨b, 0, none⟩) l.length cap, .func (.func g) #[] cb.toArray] (arr a cap k T enc l :: pts X) (fun _ : Unit => .tuple #[]) (fun _ => arr a cap k T enc (l.mergeSort fun x y => !(ltOf cf) y x) :: pts X) := by
  refine ⟨fun F w hs => ?_⟩
  rw [List.cons_append] at hs
  by_cases hl0 : l = []
  · subst hl0
    refine (AnyF.slices_SortFunc_none L _ cap _ w).mono ?_
    rintro e w' ⟨rfl, rfl⟩
    exact ⟨(), rfl, by rw [List.cons_append]; simpa using hs, Kept.refl _⟩
  cases a with
  | none => exact absurd (arr_none (A := arr none cap k T enc l :: (pts X ++ F)) Has.here hs).2 hl0
  | some blk =>
  unfold arr at hs
  obtain ⟨cur, h2⟩ := sat_ex.1 hs
  obtain ⟨⟨hfe, hcl, hle, hm, htk⟩, h3⟩ := sat_and.1 h2
  have hb := sat_pt h3
  have hblk : blk < w.heap.size := (Array.getElem?_eq_some_iff.1 hb).1
  have hX : sat w (pts X) := sat_sub (R := F) (.refl _) (sat_drop h3)
  have hne : ∀ o, (blk, o) ∉ X := fun o ho => by
    have hs4 : sat w (pt blk (.cells cur.toArray T (0, 0)) :: pts X) := sat_sub (R := F) (by simp) h3
    obtain ⟨Y, Z, rfl⟩ := List.append_of_mem ho
    refine sat_ne (b := blk) (c := blk) (o := .cells cur.toArray T (0, 0)) (p := o) (R := pts Y ++ pts Z) (sat_perm ?_ hs4) rfl
    refine List.Perm.cons _ ?_
    unfold pts
    simp only [List.map_append, List.map_cons]
    exact List.perm_middle
  have hflen : (l.flatMap enc).length = l.length * k := flat_len hk l
  have hcur : ∀ j, j < l.length * k → cur[j]? = some ((flatK enc k l.toArray)[j]!) := fun j hj => by
    have h5 : (cur.take (l.length * k))[j]? = (l.flatMap enc)[j]? := by rw [htk]
    rw [List.getElem?_take, if_pos hj, flat_at hk l j hj] at h5
    rw [h5, get_flatK enc k l.toArray j (by simpa using hj)]
  have hH : HoldsK enc k w blk 0 l.toArray := fun j hj => by
    have hj' : j < l.length * k := by simpa using hj
    refine ⟨cell_of hb (by simpa using hcur j hj'), ?_⟩
    simp [World.frozen?, hb]
  have hcon := AnyQ.slices_SortFunc_total L k aE zE enc hk h1 cf hO g cb.toArray blk 0 cap l.toArray w (fun _ _ => run_callFunc hg _ _) (cmpLaysK_of hX hne (by simpa using hc)) hH hblk (by simpa using hsz) hT
  rw [List.size_toArray] at hcon
  refine hcon.mono ?_
  rintro e w' ⟨rfl, n, os, rfl⟩
  have hlen : (l.mergeSort fun x y => !(ltOf cf) y x).length = l.length := List.length_mergeSort _
  have hkk : Kept w (sortWorldK enc k w blk 0 n (l.mergeSort fun x y => !(ltOf cf) y x).toArray os) := ⟨rfl, rfl, rfl, by simp [sortWorldK, Sort.grow, putRowK, putRow, mapBlock, Sort.ahead], by simp [sortWorldK, Sort.grow, putRowK, putRow, mapBlock, Sort.ahead]⟩
  refine ⟨(), rfl, ?_, hkk⟩
  rw [List.cons_append]
  unfold arr
  refine sat_ex.2 ⟨(putCells id 0 (flatK enc k (l.mergeSort fun x y => !(ltOf cf) y x).toArray) cur.toArray).toList, sat_and.2 ⟨⟨hfe, by simp [putCells, hcl], by rw [hlen]; exact hle, hm, ?_⟩, sat_upd (o := .cells cur.toArray T (0, 0)) ?_ (fun c hc x hx => sortWorldK_heap hc hx) h3⟩⟩
  · rw [← flatK_list hk]
    apply List.ext_getElem?
    intro i
    rw [List.getElem?_take]
    by_cases hi : i < (l.mergeSort fun x y => !(ltOf cf) y x).length * k
    · rw [if_pos hi]
      have hi2 : i < cur.length := by rw [hcl]; rw [hlen] at hi; exact Nat.lt_of_lt_of_le hi (Nat.mul_le_mul_right _ hle)
      have hi3 : i < (flatK enc k (l.mergeSort fun x y => !(ltOf cf) y x).toArray).size := by simpa using hi
      simp only [putCells, Array.getElem?_toList, Array.getElem?_mapIdx]
      rw [List.getElem?_toArray, List.getElem?_eq_getElem hi2, Array.getElem?_eq_getElem hi3]
      simp only [Option.map_some, Nat.zero_le, true_and, Nat.zero_add, Nat.sub_zero, id]
      rw [if_pos hi3, getElem!_pos (flatK enc k (l.mergeSort fun x y => !(ltOf cf) y x).toArray) i hi3]
    · rw [if_neg hi, List.getElem?_eq_none (by simpa using hi)]
  · simp only [sortWorldK, Sort.grow, putRowK, putRow, mapBlock, Sort.ahead]
    rw [Array.getElem?_append_left (by simpa using hblk), Array.getElem?_modify, if_pos rfl, hb]
    simp [onCells]
end Go.SL
/-
  Ways that meet behind a piece of code. (Conditions: none; generic over the program.)
-/
namespace Go.SL
open Go.RowKit
theorem WC_meet {P : Program} {m : Md} {Q : Exit → Act → World → Prop} {w0 : World} {n : Nat} {L D : List (Nat × Value)} {A R B0 : List Asn} {x : Code} {σ : Type} (M : σ → List (Nat × Value)) (B : σ → List Asn) (φ : σ → Prop) (ks : List Nat) (hD : Kep ks L D) (hR : Gv A B0 R)
    (hx : (∀ s, φ s → Ps m (Q .normal) w0 n (M s ++ D) (B s ++ R)) → WC P m Q w0 n x L A) (hy : ∀ s, φ s → Ps m (Q .normal) w0 n (M s ++ D) (B s ++ R)) : WC P m Q w0 n x L A := hx hy
end Go.SL
