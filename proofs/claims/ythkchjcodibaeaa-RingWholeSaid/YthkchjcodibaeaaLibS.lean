/-
  Contracts of functions that the claim reaches, or the logic and the plain laws that they rest on, or the row over them. (Conditions: none beyond the statement.)
-/
import Derived.Test.YthkchjcodibaeaaLibA
import Derived.Shelf.SlSortCmp.NoneTotal
import Derived.Test.YthkchjcodibaeaaLibD
set_option linter.all false
/-
  slices.SortFunc in the logic: the slice's cells are sorted, what the order reads is kept. (Conditions: a comparison that is a function of the two values, and parts whatever two are not one.)
-/
namespace Go.SL
open Go.RowKit Go.Sort Go.Shelf Go.Proofs

def pts (X : List (Nat × Obj)) : List Asn := X.map fun x => pt x.1 x.2
theorem sep_pts : ∀ {X : List (Nat × Obj)} {h : Hp}, sep (pts X) h → ∀ b, (∃ o, h b = some o) ↔ ∃ o, (b, o) ∈ X
  | [], h, e, b => by simp [show h b = none from e b]
  | x :: X, h, ⟨h1, h2, d, e, a, r⟩, b => by
    have ih := sep_pts (X := X) r b
    rw [e b]
    by_cases hb : b = x.1
    · subst hb
      have : h1 x.1 = some x.2 := by rw [a x.1, if_pos rfl]
      rw [un_some this]
      exact ⟨fun _ => ⟨x.2, List.mem_cons_self⟩, fun _ => ⟨_, rfl⟩⟩
    · have : h1 b = none := by rw [a b, if_neg hb]
      rw [un_none this, ih]
      constructor
      · rintro ⟨o, ho⟩; exact ⟨o, List.mem_cons_of_mem _ ho⟩
      · rintro ⟨o, ho⟩
        rcases List.mem_cons.1 ho with rfl | ho
        · exact absurd rfl hb
        · exact ⟨o, ho⟩
theorem sat_pts_mem {X : List (Nat × Obj)} {R : List Asn} {w : World} (h : sat w (pts X ++ R)) {b : Nat} {o : Obj} (hm : (b, o) ∈ X) : w.heap[b]? = some o := by
  obtain ⟨Y, Z, rfl⟩ := List.append_of_mem hm
  refine sat_pt (b := b) (o := o) (R := pts Y ++ pts Z ++ R) (sat_perm ?_ h)
  unfold pts
  simp only [List.map_append, List.map_cons, List.append_assoc, List.cons_append]
  exact List.perm_middle
/-- all that lies in a world but these blocks -/
def oldBut (W : World) (X : List (Nat × Obj)) : Asn := fun h => ∀ b, ((∃ o, (b, o) ∈ X) → h b = none) ∧ ((¬ ∃ o, (b, o) ∈ X) → h b = W.heap[b]?)
theorem sat_oldBut {W : World} {X : List (Nat × Obj)} (h : sat W (pts X)) : sat W (pts X ++ [oldBut W X]) := by
  classical
  obtain ⟨h, hw, r⟩ := h
  have k := sep_pts r
  obtain ⟨h2, e2⟩ : ∃ h2 : Hp, h2 = fun b => if ∃ o, (b, o) ∈ X then none else W.heap[b]? := ⟨_, rfl⟩
  have d : dj h h2 := fun b => by
    by_cases hb : ∃ o, (b, o) ∈ X
    · exact .inr (by rw [e2]; simp only [if_pos hb])
    · cases hc : h b with
      | none => exact .inl rfl
      | some o => exact absurd ((k b).1 ⟨o, hc⟩) hb
  refine ⟨un h h2, fun b o hb => ?_, sep_app.1 ⟨h, h2, d, fun _ => rfl, r, h2, fun _ => none, fun _ => .inr rfl, fun b => ?_, fun b => ⟨fun hb => ?_, fun hb => ?_⟩, fun _ => rfl⟩⟩
  · cases hc : h b with
    | some x => rw [un_some hc] at hb; cases hb; exact hw _ _ hc
    | none =>
      rw [un_none hc, e2] at hb
      by_cases hq : ∃ o, (b, o) ∈ X
      · simp only [if_pos hq] at hb; cases hb
      · simp only [if_neg hq] at hb; exact hb
  · unfold un; cases h2 b <;> rfl
  · rw [e2]; simp only [if_pos hb]
  · rw [e2]; simp only [if_neg hb]
theorem oldBut_block {W w : World} {X : List (Nat × Obj)} {R : List Asn} (hX : sat W (pts X)) (h : sat w (pts X ++ oldBut W X :: R)) {b : Nat} (hb : b < W.heap.size) : w.heap[b]? = W.heap[b]? := by
  classical
  by_cases hq : ∃ o, (b, o) ∈ X
  · obtain ⟨o, ho⟩ := hq
    rw [sat_pts_mem h ho, sat_pts_mem (R := []) (by simpa using hX) ho]
  · obtain ⟨hh, a, h1, h2, d, e, o, _⟩ := sat_perm List.perm_middle h
    obtain ⟨x, hx⟩ : ∃ x, W.heap[b]? = some x := ⟨_, Array.getElem?_eq_getElem hb⟩
    rw [hx]
    refine a b x ?_
    rw [e]; unfold un; rw [(o b).2 hq, hx]
/-- A world that keeps all blocks of another has grown out of it. -/
theorem grown_of {W w : World} (hk : Kept W w) (hb : ∀ b, b < W.heap.size → w.heap[b]? = W.heap[b]?) : ∃ q os, w = Sort.grow (W.drewN q) os := by
  refine ⟨w.drawn - W.drawn, w.heap.extract W.heap.size w.heap.size, ?_⟩
  obtain ⟨hp, tp, dr, os, out⟩ := w
  obtain ⟨h1, h2, h3, h4, h5⟩ := hk
  simp only at h1 h2 h3 h4 h5 hb ⊢
  subst h1 h2 h3
  have e1 : W.drawn + (dr - W.drawn) = dr := by omega
  have e2 : W.heap ++ hp.extract W.heap.size hp.size = hp := by
    apply Array.ext_getElem?
    intro i
    rw [Array.getElem?_append]
    by_cases hi : i < W.heap.size
    · rw [if_pos hi, hb i hi]
    · rw [if_neg hi, Array.getElem?_extract]
      by_cases hj : i < hp.size
      · rw [if_pos (by omega)]; congr 1; omega
      · rw [if_neg (by omega)]; simp; omega
  simp [Sort.grow, World.drewN, e1, e2]
variable {P : Program} {α : Type} [Inhabited α]
theorem sortWorld_heap {enc : α → Value} {w : World} {blk off m : Nat} {dk : Array α} {os : Array Obj} {c : Nat} {x : Obj} (hc : c ≠ blk) (h : w.heap[c]? = some x) : (sortWorld enc w blk off m dk os).heap[c]? = some x := by
  have hlt : c < w.heap.size := (Array.getElem?_eq_some_iff.1 h).1
  simp only [sortWorld, Sort.grow, putRow, mapBlock, Sort.ahead]
  rw [Array.getElem?_append_left (by simpa using hlt), Array.getElem?_modify, if_neg (Ne.symm hc), h]
theorem cmpLays_of {g : Nat} {cb : Array Value} {enc : α → Value} {cf : α → α → Int} {blk off size : Nat} {w : World} {X : List (Nat × Obj)} (hX : sat w (pts X)) (hne : ∀ o, (blk, o) ∉ X)
    (hc : ∀ x y, Ct P g (enc x :: enc y :: cb.toList) (pts X) (fun _ : Unit => .int .i64 (cf x y)) (fun _ => pts X)) : CmpLays1 P g cb enc cf blk off size w := by
  intro m os dk _ x y
  obtain ⟨h, hw, r⟩ := hX
  have hS : sat (sortWorld enc w blk off m dk os) (pts X) := ⟨h, fun b o hb => sortWorld_heap (fun e => by
    obtain ⟨o', ho'⟩ := (sep_pts r b).1 ⟨o, hb⟩
    rw [e] at ho'; exact hne _ ho') (hw b o hb), r⟩
  have h2 := sat_oldBut hS
  have e : (enc x :: enc y :: cb.toList).toArray = #[enc x, enc y] ++ cb := by apply Array.ext'; simp
  have := (hc x y).out _ _ h2
  rw [e] at this
  refine this.mono ?_
  rintro e w' ⟨r, rfl, hs', hk⟩
  exact ⟨rfl, grown_of hk fun b hb => oldBut_block hS hs' hb⟩
theorem Ct.conv {f : FuncId} {args : List Value} {pre pre' : List Asn} {ρ : Type} {val : ρ → Value} {post post' : ρ → List Asn} (h : Ct P f args pre val post) (h1 : ∀ F w, sat w (pre' ++ F) → sat w (pre ++ F)) (h2 : ∀ r F w, sat w (post r ++ F) → sat w (post' r ++ F)) : Ct P f args pre' val post' := by
  refine ⟨fun F w hs => (h.out F w (h1 F w hs)).mono ?_⟩
  rintro e w' ⟨r, he, hs', hk⟩
  exact ⟨r, he, h2 r F w' hs', hk⟩
theorem Ct.reg {f : FuncId} {args : List Value} {pre : List Asn} {ρ ρ' : Type} {val : ρ → Value} {post : ρ → List Asn} {val' : ρ' → Value} {post' : ρ' → List Asn} (h : Ct P f args pre val post) (hc : ∀ r F w, sat w (post r ++ F) → ∃ r', val r = val' r' ∧ sat w (post' r' ++ F)) : Ct P f args pre val' post' := by
  refine ⟨fun F w hs => (h.out F w hs).mono ?_⟩
  rintro e w' ⟨r, he, hs', hk⟩
  obtain ⟨r', h1, h2⟩ := hc r F w' hs'
  exact ⟨r', by rw [he, h1], h2, hk⟩
theorem cl_of_arr {α : Type} {b e : Nat} {T : TypeId} {f : α → List Value} {l : List α} {R : List Asn} {w : World} (h : sat w (arr (some b) l.length e T f l :: R)) : sat w (cl b T (l.flatMap f) :: R) := by
  unfold arr at h
  obtain ⟨cur, h2⟩ := sat_ex.1 h
  obtain ⟨⟨hfe, hcl, hle, hm, htk⟩, h3⟩ := sat_and.1 h2
  rw [List.take_of_length_le (by omega)] at htk
  rw [← htk]
  exact h3
theorem arr_unmap {α β : Type} {a : Option Nat} {cap e : Nat} {T : TypeId} {f : α → List Value} {g : β → α} {l : List β} (hg : ∀ x, (f (g x)).length = e) : ∀ hp, arr a cap e T f (l.map g) hp → arr a cap e T (fun x => f (g x)) l hp := by
  intro h
  cases a with
  | none => rintro ⟨⟨h1, h2⟩, h3⟩; exact ⟨⟨h1, by simpa using h2⟩, h3⟩
  | some gb =>
    rintro ⟨cur, ⟨hfe, hcl, hle, hm, htk⟩, h3⟩
    rw [List.length_map] at hle htk
    exact ⟨cur, ⟨hg, hcl, hle, hm, by rw [htk, List.flatMap_map]⟩, h3⟩
theorem cells_one {enc : α → Value} (l : List α) : l.flatMap (fun x => [enc x]) = l.map enc := by
  induction l with
  | nil => rfl
  | cons x l ih => simp [List.flatMap_cons, ih]
theorem Ct_sort {ρ : Ren} (L : SlLaysF.n6 P ρ) (enc : α → Value) (h1 : OneCell enc) (cf : α → α → Int) (hO : SWO (ltOf cf)) (hT : ∀ x y, (ltOf cf) x y = false → (ltOf cf) y x = false → x = y) (g : Nat) (cb : List Value) (hg : cfn P g = true) (X : List (Nat × Obj))
    (hc : ∀ x y, Ct P g (enc x :: enc y :: cb) (pts X) (fun _ : Unit => .int .i64 (cf x y)) (fun _ => pts X)) (blk cap : Nat) (T : TypeId) (l : List α) (hsz : l.length < 4611686018427387904) :
    Ct P (ρ.f 6) [.slice (some ⟨blk, 0, none⟩) l.length cap, .func (.func g) #[] cb.toArray] (arr (some blk) cap 1 T (fun x => [enc x]) l :: pts X) (fun _ : Unit => .tuple #[]) (fun _ => arr (some blk) cap 1 T (fun x => [enc x]) (l.mergeSort fun x y => !(ltOf cf) y x) :: pts X) := by
  refine ⟨fun F w hs => ?_⟩
  rw [List.cons_append] at hs
  unfold arr at hs
  obtain ⟨cur, h2⟩ := sat_ex.1 hs
  obtain ⟨⟨hfe, hcl, hle, hm, htk⟩, h3⟩ := sat_and.1 h2
  rw [Nat.mul_one] at hcl htk
  rw [cells_one] at htk
  have hb := sat_pt h3
  have hblk : blk < w.heap.size := (Array.getElem?_eq_some_iff.1 hb).1
  have hX : sat w (pts X) := sat_sub (R := F) (.refl _) (sat_drop h3)
  have hne : ∀ o, (blk, o) ∉ X := fun o ho => by
    have hs4 : sat w (pt blk (.cells cur.toArray T (0, 0)) :: pts X) := sat_sub (R := F) (by simp) h3
    obtain ⟨Y, Z, rfl⟩ := List.append_of_mem ho
    refine sat_ne (b := blk) (c := blk) (o := .cells cur.toArray T (0, 0)) (p := o) (R := pts Y ++ pts Z) (sat_perm ?_ hs4) rfl
    refine List.Perm.cons _ ?_
    unfold pts
    simp only [List.map_append, List.map_cons]
    exact List.perm_middle
  have hcur : ∀ j, j < l.length → cur[j]? = some (enc (l.toArray[j]!)) := fun j hj => by
    have : (cur.take l.length)[j]? = (l.map enc)[j]? := by rw [htk]
    rw [List.getElem?_take, if_pos hj, List.getElem?_map] at this
    rw [this, List.getElem?_eq_getElem hj]
    simp [getElem!_pos, hj]
  have hH : Holds enc w blk 0 l.toArray := fun j hj => by
    have hj' : j < l.length := by simpa using hj
    refine ⟨cell_of hb (by simpa using hcur j hj'), ?_⟩
    simp [World.frozen?, hb]
  have hcon := Any.slices_SortFunc_total L enc h1 cf hO g cb.toArray blk 0 cap l.toArray w (fun _ _ => run_callFunc hg _ _) (cmpLays_of hX hne (by simpa using hc)) hH hblk (by simpa using hsz) hT
  rw [List.size_toArray] at hcon
  refine hcon.mono ?_
  rintro e w' ⟨rfl, n, os, rfl⟩
  have hlen : (l.mergeSort fun x y => !(ltOf cf) y x).length = l.length := List.length_mergeSort _
  have hk : Kept w (sortWorld enc w blk 0 n (l.mergeSort fun x y => !(ltOf cf) y x).toArray os) := ⟨rfl, rfl, rfl, by simp [sortWorld, Sort.grow, putRow, mapBlock, Sort.ahead], by simp [sortWorld, Sort.grow, putRow, mapBlock, Sort.ahead]⟩
  refine ⟨(), rfl, ?_, hk⟩
  rw [List.cons_append]
  unfold arr
  refine sat_ex.2 ⟨(putCells enc 0 (l.mergeSort fun x y => !(ltOf cf) y x).toArray cur.toArray).toList, sat_and.2 ⟨⟨hfe, by simp [putCells, hcl], by rw [hlen]; exact hle, hm, ?_⟩, sat_upd (o := .cells cur.toArray T (0, 0)) ?_ (fun c hc x hx => sortWorld_heap hc hx) h3⟩⟩
  · rw [Nat.mul_one, cells_one]
    apply List.ext_getElem?
    intro i
    rw [List.getElem?_take, List.getElem?_map]
    by_cases hi : i < (l.mergeSort fun x y => !(ltOf cf) y x).length
    · rw [if_pos hi]
      have hi2 : i < cur.length := by rw [hcl]; omega
      simp only [putCells, Array.getElem?_toList, Array.getElem?_mapIdx]
      rw [List.getElem?_toArray, List.getElem?_eq_getElem hi2, List.getElem?_eq_getElem hi]
      simp only [Option.map_some]
      rw [if_pos (by simp; omega)]
      simp only [Nat.sub_zero]
      rw [getElem!_pos _ _ (by simpa using hi)]
      simp
    · rw [if_neg hi, List.getElem?_eq_none (by omega)]; rfl
  · simp only [sortWorld, Sort.grow, putRow, mapBlock, Sort.ahead]
    rw [Array.getElem?_append_left (by simpa using hblk), Array.getElem?_modify, if_pos rfl, hb]
    simp [onCells]
end Go.SL
/-
  Servers in the order of their digests, in plain words: the comparison, the sorted list, places counted, a server more. (Conditions: none; no program in sight.)
-/
set_option maxRecDepth 20000
namespace Go.ShM
open Go.SL Go.RowKit Go.Sort Go.Shelf Go.Proofs Go.Lib
/-- bytes as a number -/
def Vb : List B8 → Nat
  | [] => 0
  | x :: l => x.toNat * 256 ^ l.length + Vb l
theorem Vb_lt : ∀ l : List B8, Vb l < 256 ^ l.length
  | [] => by simp [Vb]
  | x :: l => by
    have := Vb_lt l
    have hx : x.toNat < 256 := x.isLt
    have h2 : (x.toNat + 1) * 256 ^ l.length ≤ 256 * 256 ^ l.length := Nat.mul_le_mul_right _ hx
    rw [List.length_cons, Nat.pow_succ, Vb, Nat.mul_comm (256 ^ l.length)]
    rw [Nat.add_mul, Nat.one_mul] at h2
    omega
/-- the first difference of two lists of bytes -/
def diffL : List B8 → List B8 → Int
  | x :: a, y :: b => if x = y then diffL a b else (x.toNat : Int) - y.toNat
  | _, _ => 0
theorem diffL_V : ∀ (a b : List B8), a.length = b.length → (diffL a b < 0 ↔ Vb a < Vb b) ∧ (diffL a b = 0 ↔ Vb a = Vb b) ∧ (Vb a = Vb b ↔ a = b)
  | [], [], _ => by simp [diffL, Vb]
  | [], _ :: _, h => by simp at h
  | _ :: _, [], h => by simp at h
  | x :: a, y :: b, h => by
    have hl : a.length = b.length := by simpa using h
    obtain ⟨i1, i2, i3⟩ := diffL_V a b hl
    simp only [diffL, Vb, hl]
    by_cases hxy : x = y
    · subst hxy
      simp only [if_true]
      refine ⟨by omega, by omega, ?_⟩
      rw [Nat.add_left_cancel_iff, i3]; simp
    · rw [if_neg hxy]
      have hne : x.toNat ≠ y.toNat := fun e => hxy (BitVec.eq_of_toNat_eq e)
      have ha := Vb_lt a
      have hb := Vb_lt b
      rw [hl] at ha
      rcases (show x.toNat + 1 ≤ y.toNat ∨ y.toNat + 1 ≤ x.toNat from by omega) with q | q
      · have := Nat.mul_le_mul_right (256 ^ b.length) q
        rw [Nat.add_mul, Nat.one_mul] at this
        refine ⟨by omega, by omega, ⟨fun e => by omega, fun e => ?_⟩⟩
        exact absurd (List.cons.inj e).1 hxy
      · have := Nat.mul_le_mul_right (256 ^ b.length) q
        rw [Nat.add_mul, Nat.one_mul] at this
        refine ⟨by omega, by omega, ⟨fun e => by omega, fun e => ?_⟩⟩
        exact absurd (List.cons.inj e).1 hxy
theorem diffL_step {a b : List B8} {k : Nat} {x y : B8} (hx : a[k]? = some x) (hy : b[k]? = some y) : diffL (a.drop k) (b.drop k) = if x = y then diffL (a.drop (k + 1)) (b.drop (k + 1)) else (x.toNat : Int) - y.toNat := by
  obtain ⟨h1, e1⟩ := List.getElem?_eq_some_iff.1 hx
  obtain ⟨h2, e2⟩ := List.getElem?_eq_some_iff.1 hy
  rw [List.drop_eq_getElem_cons h1, List.drop_eq_getElem_cons h2, e1, e2]
  rfl
theorem diffL_end {a b : List B8} {k : Nat} (h : a.length ≤ k) : diffL (a.drop k) (b.drop k) = 0 := by
  rw [List.drop_eq_nil_of_le h]; rfl
/-- a stands ahead of b -/
def ltR (d : Nat → Dg) (a b : Nat) : Prop := Vb (d a).1 < Vb (d b).1 ∨ (Vb (d a).1 = Vb (d b).1 ∧ a < b)
instance (d : Nat → Dg) (a b : Nat) : Decidable (ltR d a b) := inferInstanceAs (Decidable (_ ∨ _))
def cfM (d : Nat → Dg) (a b : Nat) : Int := if diffL (d a).1 (d b).1 = 0 then (a : Int) - b else diffL (d a).1 (d b).1
theorem cfM_lt (d : Nat → Dg) (a b : Nat) : cfM d a b < 0 ↔ ltR d a b := by
  obtain ⟨h1, h2, _⟩ := diffL_V (d a).1 (d b).1 (by rw [Dg_len, Dg_len])
  unfold cfM ltR
  split
  · rename_i h; have := h2.1 h; omega
  · rename_i h
    have h3 : ¬ Vb (d a).1 = Vb (d b).1 := fun e => h (h2.2 e)
    rw [h1]; omega
theorem cfM_at {d : Nat → Dg} {a b k : Nat} {x y : B8} (h : diffL ((d a).1.drop k) ((d b).1.drop k) = diffL (d a).1 (d b).1) (hx : (d a).1[k]? = some x) (hy : (d b).1[k]? = some y) (hne : ¬ x = y) : (x.toNat : Int) - y.toNat = cfM d a b := by
  rw [diffL_step hx hy, if_neg hne] at h
  unfold cfM
  rw [← h, if_neg]
  have : x.toNat ≠ y.toNat := fun e => hne (BitVec.eq_of_toNat_eq e)
  omega
theorem cfM_end {d : Nat → Dg} {a b k : Nat} (h : diffL ((d a).1.drop k) ((d b).1.drop k) = diffL (d a).1 (d b).1) (hk : 32 ≤ k) : (a : Int) - b = cfM d a b := by
  rw [diffL_end (by rw [Dg_len]; exact hk)] at h
  unfold cfM
  rw [if_pos h.symm]
theorem diff_next {d : Nat → Dg} {a b k : Nat} {x y : B8} (h : diffL ((d a).1.drop k) ((d b).1.drop k) = diffL (d a).1 (d b).1) (hx : (d a).1[k]? = some x) (hy : (d b).1[k]? = some y) (he : x = y) : diffL ((d a).1.drop (k + 1)) ((d b).1.drop (k + 1)) = diffL (d a).1 (d b).1 := by
  rw [diffL_step hx hy, if_pos he] at h
  exact h
theorem fD_at {d : Dg} {k : Nat} (h : k < 32) : (fD d)[k]? = some (.int .u8 ((d.1.getD k 0#8).toNat : Int)) := by
  have hl : k < d.1.length := by rw [Dg_len]; exact h
  have := flat_get (f := eU .u8 (w := 8)) (e := 1) (fun _ => rfl) (j := 0) (by omega) d.1 k (d.1.getD k 0#8) (by rw [List.getD_eq_getElem?_getD, List.getElem?_eq_getElem hl]; rfl)
  rw [Nat.mul_one, Nat.add_zero] at this
  exact this
theorem ltR_irr {d : Nat → Dg} {a : Nat} : ¬ ltR d a a := by unfold ltR; omega
theorem ltR_tr {d : Nat → Dg} {a b c : Nat} : ltR d a b → ltR d b c → ltR d a c := by unfold ltR; omega
theorem ltR_nt {d : Nat → Dg} {a b c : Nat} : ¬ ltR d a b → ¬ ltR d b c → ¬ ltR d a c := by unfold ltR; omega
theorem ltR_tot {d : Nat → Dg} {a b : Nat} : ¬ ltR d a b → ¬ ltR d b a → a = b := by unfold ltR; omega
theorem ltR_as {d : Nat → Dg} {a b : Nat} : ltR d a b → ¬ ltR d b a := by unfold ltR; omega
/-- the servers in their order -/
def ordL (d : Nat → Dg) (n : Nat) : List Nat := (List.range n).mergeSort fun x y => !decide (ltR d y x)
theorem ordL_perm (d : Nat → Dg) (n : Nat) : (ordL d n).Perm (List.range n) := List.mergeSort_perm _ _
theorem ordL_len (d : Nat → Dg) (n : Nat) : (ordL d n).length = n := by rw [(ordL_perm d n).length_eq, List.length_range]
theorem ordL_mem {d : Nat → Dg} {n a : Nat} : a ∈ ordL d n ↔ a < n := by rw [(ordL_perm d n).mem_iff, List.mem_range]
theorem ordL_nodup (d : Nat → Dg) (n : Nat) : (ordL d n).Nodup := (ordL_perm d n).nodup_iff.2 List.nodup_range
theorem ordL_at {d : Nat → Dg} {n i : Nat} (h : i < n) : ∃ s, (ordL d n)[i]? = some s ∧ s < n := by
  have : i < (ordL d n).length := by rw [ordL_len]; exact h
  exact ⟨_, List.getElem?_eq_getElem this, ordL_mem.1 (List.getElem_mem this)⟩
theorem ordL_sorted (d : Nat → Dg) (n : Nat) : (ordL d n).Pairwise (ltR d) := by
  have h := List.pairwise_mergeSort (le := fun x y => !decide (ltR d y x)) (by
    intro a b c h1 h2
    simp only [Bool.not_eq_true', decide_eq_false_iff_not] at *
    exact ltR_nt h2 h1) (by
    intro a b
    simp only [Bool.or_eq_true, Bool.not_eq_true', decide_eq_false_iff_not]
    by_cases h : ltR d b a
    · exact .inr (ltR_as h)
    · exact .inl h) (List.range n)
  refine (List.Pairwise.and h (ordL_nodup d n)).imp ?_
  rintro a b ⟨h1, h2⟩
  simp only [Bool.not_eq_true', decide_eq_false_iff_not] at h1
  exact Decidable.byContradiction fun h3 => h2 (ltR_tot h3 h1)
/-- there is but one such list -/
theorem ordL_uniq {d : Nat → Dg} {n : Nat} {l : List Nat} (hp : l.Perm (List.range n)) (hs : l.Pairwise (ltR d)) : l = ordL d n :=
  List.Perm.eq_of_pairwise (le := ltR d) (fun a b _ _ h1 h2 => absurd h2 (ltR_as h1)) hs (ordL_sorted d n) (hp.trans (ordL_perm d n).symm)
/-- .. of one server more: all others stand as they did -/
theorem ordL_more (d : Nat → Dg) (n : Nat) : (ordL d (n + 1)).filter (fun x => !decide (x = n)) = ordL d n := by
  refine ordL_uniq ?_ ((ordL_sorted d (n + 1)).filter _)
  refine ((ordL_perm d (n + 1)).filter _).trans ?_
  rw [List.range_succ, List.filter_append]
  have : (List.range n).filter (fun x => !decide (x = n)) = List.range n := List.filter_eq_self.2 fun a ha => by
    have := List.mem_range.1 ha
    simp; omega
  rw [this]
  simp
/-- the sort's own list -/
theorem ordL_fin (d : Nat → Dg) (m : Nat) : ((List.finRange (m + 1)).mergeSort fun x y : Fin (m + 1) => !(ltOf (fun x y : Fin (m + 1) => cfM d x.1 y.1)) y x).map (fun x => x.1) = ordL d (m + 1) := by
  unfold ordL
  rw [List.map_mergeSort (s := fun x y => !decide (ltR d y x)) (fun a _ b _ => by unfold ltOf; simp only [cfM_lt])]
  congr 1
  apply List.ext_getElem
  · simp
  · intro i h1 h2; simp
theorem swoR (d : Nat → Dg) (m : Nat) : SWO (ltOf (fun x y : Fin m => cfM d x.1 y.1)) where
  irrefl x := by unfold ltOf; rw [decide_eq_false_iff_not, cfM_lt]; exact ltR_irr
  trans x y z := by unfold ltOf; rw [decide_eq_true_iff, decide_eq_true_iff, decide_eq_true_iff, cfM_lt, cfM_lt, cfM_lt]; exact ltR_tr
  ntrans x y z := by unfold ltOf; rw [decide_eq_false_iff_not, decide_eq_false_iff_not, decide_eq_false_iff_not, cfM_lt, cfM_lt, cfM_lt]; exact ltR_nt
theorem totR (d : Nat → Dg) (m : Nat) (x y : Fin m) (h1 : (ltOf (fun x y : Fin m => cfM d x.1 y.1)) x y = false) (h2 : (ltOf (fun x y : Fin m => cfM d x.1 y.1)) y x = false) : x = y := by
  unfold ltOf at h1 h2
  rw [decide_eq_false_iff_not, cfM_lt] at h1 h2
  exact Fin.ext (ltR_tot h1 h2)
/-! places counted -/
def aheadM (d : Nat → Dg) (a b : Nat) : Bool := decide (ltR d a b)
/-- how many of the first k stand ahead of s -/
def rkM (d : Nat → Dg) (s : Nat) : Nat → Nat
  | 0 => 0
  | k + 1 => if k ≠ s ∧ aheadM d k s = true then rkM d s k + 1 else rkM d s k
theorem rkM_le (d : Nat → Dg) (s : Nat) : ∀ k, rkM d s k ≤ k
  | 0 => Nat.le_refl _
  | k + 1 => by have := rkM_le d s k; unfold rkM; split <;> omega
theorem rkM_filter (d : Nat → Dg) (s : Nat) : ∀ k, rkM d s k = ((List.range k).filter fun t => aheadM d t s).length
  | 0 => rfl
  | k + 1 => by
    rw [List.range_succ, List.filter_append, List.length_append, ← rkM_filter d s k]
    rw [show rkM d s (k + 1) = if k ≠ s ∧ aheadM d k s = true then rkM d s k + 1 else rkM d s k from rfl]
    by_cases h : aheadM d k s = true
    · have : k ≠ s := fun e => by subst e; unfold aheadM at h; rw [decide_eq_true_iff] at h; exact ltR_irr h
      rw [if_pos ⟨this, h⟩]; simp [h]
    · rw [if_neg (fun e => h e.2)]; simp [h]
theorem rk_place {d : Nat → Dg} {l : List Nat} (hs : l.Pairwise (ltR d)) {s : Nat} (hm : s ∈ l) : l[(l.filter fun t => aheadM d t s).length]? = some s := by
  obtain ⟨l1, l2, rfl⟩ := List.append_of_mem hm
  rw [List.pairwise_append, List.pairwise_cons] at hs
  obtain ⟨_, ⟨h2, _⟩, h3⟩ := hs
  have e1 : l1.filter (fun t => aheadM d t s) = l1 := List.filter_eq_self.2 fun a ha => by unfold aheadM; rw [decide_eq_true_iff]; exact h3 a ha s List.mem_cons_self
  have e2 : l2.filter (fun t => aheadM d t s) = [] := List.filter_eq_nil_iff.2 fun a ha => by unfold aheadM; rw [decide_eq_true_iff]; exact ltR_as (h2 a ha)
  have e3 : aheadM d s s = false := by unfold aheadM; rw [decide_eq_false_iff_not]; exact ltR_irr
  rw [List.filter_append, List.filter_cons, e1, e2, e3]
  simp
theorem rk_at {d : Nat → Dg} {n s : Nat} (h : s < n) : (ordL d n)[rkM d s n]? = some s := by
  rw [rkM_filter, ← ((ordL_perm d n).filter _).length_eq]
  exact rk_place (ordL_sorted d n) (ordL_mem.2 h)
theorem rk_lt {d : Nat → Dg} {n s : Nat} (h : s < n) : rkM d s n < n := by
  have := (List.getElem?_eq_some_iff.1 (rk_at (d := d) h)).1
  rwa [ordL_len] at this
/-- the document's list, the first k servers laid -/
def docL (d : Nat → Dg) (n : Nat) : Nat → List Nat
  | 0 => List.replicate n 0
  | k + 1 => (docL d n k).set (rkM d k n) k
theorem docL_len (d : Nat → Dg) (n : Nat) : ∀ k, (docL d n k).length = n
  | 0 => by simp [docL]
  | k + 1 => by rw [docL, List.length_set, docL_len d n k]
theorem docL_at {d : Nat → Dg} {n : Nat} : ∀ k : Nat, k ≤ n → ∀ i s : Nat, (ordL d n)[i]? = some s → s < k → (docL d n k)[i]? = some s
  | 0, _, i, s, _, h => by omega
  | k + 1, hk, i, s, hi, h => by
    have hin : i < n := by have := (List.getElem?_eq_some_iff.1 hi).1; rwa [ordL_len] at this
    rw [docL, List.getElem?_set, docL_len]
    by_cases he : rkM d k n = i
    · have := rk_at (d := d) (s := k) (n := n) (by omega)
      rw [he, hi] at this
      cases this
      rw [if_pos he, if_pos (by omega)]
    · rw [if_neg he]
      have hne : s ≠ k := fun e => by
        subst e
        have h1 := rk_at (d := d) (s := s) (n := n) (by omega)
        obtain ⟨a1, a2⟩ := List.getElem?_eq_some_iff.1 h1
        obtain ⟨b1, b2⟩ := List.getElem?_eq_some_iff.1 hi
        exact he ((List.getElem_inj (ordL_nodup d n)).1 (a2.trans b2.symm))
      exact docL_at k (by omega) i s hi (by omega)
theorem docL_ord (d : Nat → Dg) (n : Nat) : docL d n n = ordL d n := by
  apply List.ext_getElem?
  intro i
  by_cases h : i < n
  · obtain ⟨s, hs, hsn⟩ := ordL_at (d := d) h
    rw [hs, docL_at n (Nat.le_refl _) i s hs hsn]
  · rw [List.getElem?_eq_none (by rw [docL_len]; omega), List.getElem?_eq_none (by rw [ordL_len]; omega)]
/-- a server's digest for an index -/
def ringD (x : List B8) (s : Nat) : Dg := ⟨tagD 9#8 [x, big32 (BitVec.ofNat 32 s)], tagD_len _ _⟩
end Go.ShM
