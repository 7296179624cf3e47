/-
  Contracts of functions that the claim reaches, or the logic and the plain laws that they rest on, or the row over them. (Conditions: none beyond the statement.)
-/
import Derived.Test.YtilmiikfjcdllaaLibB
import Derived.Test.YtilmiikfjcdllaaShA
set_option linter.all false
/-
  Many things owned, one for each of a list: one taken out, laid back, one more. Fewer places read; a list said otherwise. (Conditions: none; generic over the program.)
-/
namespace Go.SL
open Go.RowKit
def star {α : Type} (F : α → Asn) (l : List α) : Asn := sep (l.map F)
theorem erase_perm {α : Type} : ∀ (l : List α) (i : Nat) (x : α), l[i]? = some x → l.Perm (x :: l.eraseIdx i)
  | [], i, x, h => by simp at h
  | y :: l, 0, x, h => by simp at h; subst h; simp
  | y :: l, i + 1, x, h => by
    have := erase_perm l i x (by simpa using h)
    simp only [List.eraseIdx_cons_succ]
    exact (this.cons y).trans (.swap x y _)
theorem set_perm {α : Type} : ∀ (l : List α) (i : Nat) (y : α), i < l.length → (l.set i y).Perm (y :: l.eraseIdx i)
  | [], i, y, h => by simp at h
  | x :: l, 0, y, h => by simp
  | x :: l, i + 1, y, h => by
    have := set_perm l i y (by simpa using h)
    simp only [List.set_cons_succ, List.eraseIdx_cons_succ]
    exact (this.cons x).trans (.swap y x _)
section
variable {α : Type} {F : α → Asn} {l : List α} {A R : List Asn} {w : World}
theorem star_perm {l l' : List α} (p : l.Perm l') (h : sat w (star F l :: R)) : sat w (star F l' :: R) := by
  unfold star at *
  rw [sat_app] at h ⊢
  exact sat_perm (List.Perm.append_right R (p.map F)) h
theorem star_cons {x : α} : sat w (star F (x :: l) :: R) ↔ sat w (F x :: star F l :: R) := by
  unfold star
  rw [sat_app]
  constructor
  · intro h
    have h2 : sat w (F x :: (l.map F ++ R)) := h
    have h3 : sat w ((l.map F ++ R) ++ [F x]) := sat_perm (List.perm_append_comm (l₁ := [F x])) h2
    rw [List.append_assoc, ← sat_app] at h3
    refine sat_perm ?_ h3
    exact (List.Perm.cons _ (List.perm_append_comm)).trans (.swap _ _ _)
  · intro h
    have h2 := sat_perm (List.Perm.swap (sep (l.map F)) (F x) R) h
    rw [sat_app] at h2
    refine sat_perm ?_ h2
    exact List.perm_middle
theorem star_open {x : α} (i : Nat) (hx : l[i]? = some x) (h : sat w (star F l :: R)) : sat w (F x :: star F (l.eraseIdx i) :: R) := star_cons.1 (star_perm (erase_perm l i x hx) h)
theorem star_shut {y : α} (i : Nat) (hi : i < l.length) (h : sat w (F y :: star F (l.eraseIdx i) :: R)) : sat w (star F (l.set i y) :: R) := star_perm (set_perm l i y hi).symm (star_cons.2 h)
theorem star_snoc {x : α} (h : sat w (F x :: star F l :: R)) : sat w (star F (l ++ [x]) :: R) := star_perm (List.perm_append_comm (l₁ := [x])) (star_cons.2 h)
theorem star_nil (h : sat w R) : sat w (star F [] :: R) := sat_app.2 h
end
section
variable {P : Program} {m : Md} {ops : Array Oper} {Q : Exit → Act → World → Prop} {w0 : World} {n : Nat} {rest : List Oper} {L : List (Nat × Value)} {A R : List Asn} {c : Code} {α : Type} {F : α → Asn} {l : List α}
theorem WC_open (F : α → Asn) (l : List α) (i : Nat) {x : α} (hx : l[i]? = some x) (k : WC P m Q w0 n c L (F x :: star F (l.eraseIdx i) :: R)) (hE : Ext A (star F l) R := by repeat (first | with_reducible exact Ext.here | with_reducible apply Ext.there)) : WC P m Q w0 n c L A :=
  WC_imp (fun _ h => star_open i hx (sat_perm hE h)) k
theorem WC_shut (F : α → Asn) (l : List α) (i : Nat) (y : α) {R2 : List Asn} (hi : i < l.length) (k : WC P m Q w0 n c L (star F (l.set i y) :: R2)) (hE : Ext A (star F (l.eraseIdx i)) R := by repeat (first | with_reducible exact Ext.here | with_reducible apply Ext.there)) (hE2 : Ext R (F y) R2 := by repeat (first | exact Ext.here | with_reducible apply Ext.there)) : WC P m Q w0 n c L A :=
  WC_imp (fun _ h => star_shut i hi (sat_perm ((List.Perm.trans hE (List.Perm.cons _ hE2)).trans (.swap _ _ _)) h)) k
theorem WL_snoc (F : α → Asn) (l : List α) (y : α) {R2 : List Asn} (k : WL P m ops Q w0 n rest L (star F (l ++ [y]) :: R2)) (hE : Ext A (star F l) R := by repeat (first | with_reducible exact Ext.here | with_reducible apply Ext.there)) (hE2 : Ext R (F y) R2 := by repeat (first | exact Ext.here | with_reducible apply Ext.there)) : WL P m ops Q w0 n rest L A :=
  WL_imp (fun _ h => star_snoc (sat_perm ((List.Perm.trans hE (List.Perm.cons _ hE2)).trans (.swap _ _ _)) h)) k
theorem WC_snoc (F : α → Asn) (l : List α) (y : α) {R2 : List Asn} (k : WC P m Q w0 n c L (star F (l ++ [y]) :: R2)) (hE : Ext A (star F l) R := by repeat (first | with_reducible exact Ext.here | with_reducible apply Ext.there)) (hE2 : Ext R (F y) R2 := by repeat (first | exact Ext.here | with_reducible apply Ext.there)) : WC P m Q w0 n c L A :=
  WC_imp (fun _ h => star_snoc (sat_perm ((List.Perm.trans hE (List.Perm.cons _ hE2)).trans (.swap _ _ _)) h)) k
theorem WC_star0 (F : α → Asn) (k : WC P m Q w0 n c L (star F [] :: A)) : WC P m Q w0 n c L A := WC_imp (fun _ h => star_nil h) k
theorem Sv.star {β : Type} {l : List α} {x : α} (i : Nat) (hx : l[i]? = some x) {v : Value} {e : Nat} {f : β → List Value} {bs : List β} {ao : Option Addr} {cap : Nat} (h : Sv [F x] v e f bs ao cap) : Sv [star F l] v e f bs ao cap :=
  h.imp fun w hs => Sub.sat (B := [F x]) ⟨_, .refl _⟩ (star_open i hx hs)
end
theorem arr_takeN {α : Type} {a : Option Nat} {cap e : Nat} {T : TypeId} {f : α → List Value} {l l2 : List α} : ∀ h, arr a cap e T f (l ++ l2) h → arr a cap e T f l h := by
  intro h hh
  have := arr_take (a := a) (cap := cap) (e := e) (T := T) (f := f) (l := l ++ l2) l.length h hh
  rwa [List.take_left] at this
end Go.SL
/-
  append, the elder slice being kept: it may lie in the new one's array, or in its own. (Conditions: none; generic over the program.)
-/
namespace Go.SL
open Go.RowKit
section
variable {P : Program}
theorem run_appendK {A : List Asn} {α : Type} {t t' ty et : TypeId} {ti : TypeInfo} {z : Value} {D : TypeDesc} {e by_ : Nat} (ht : P.underlying t = some (.slice et)) (ht' : P.underlying t' = some D) (hD : ∀ k, D ≠ .int k) (hi : P.info? et = some ti) (hz : ti.zero = some z) (he : ti.size = e) (hb : ti.bytes = by_)
    (hzc : z.cells.size = e) {a : Option Nat} {cap : Nat} {f : α → List Value} {l l2 : List α} {x : Value} {R : List Asn} (hf : ∀ x, (f x).length = e) (hsrc : Src P A e l2.length x (l2.flatMap f)) (hE : Ext A (arr a cap e et f l) R)
    (h1 : ∀ u ∈ l2, ∀ v ∈ f u, v.oneCell' = true) (hfit : (l.length + l2.length) * by_ ≤ 140737488355328) (hml : l.length + l2.length ≤ maxLen) {w : World} (hs : sat w A) :
    ∃ a' cap' w', (Builtin.append_ #[t, t'] ty #[sl a l.length cap, x]).run P w = .ok (sl a' (l ++ l2).length cap') w' ∧ ((a' = a ∧ cap' = cap ∧ sat w' (arr a cap e et f (l ++ l2) :: R)) ∨ sat w' (arr a' cap' e et f (l ++ l2) :: arr a cap e et f l :: R)) ∧ Kept w w' := by
  subst he; subst hb
  have hs0 := sat_perm hE hs
  have hlenf : (l.flatMap f).length = l.length * ti.size := flat_len hf l
  have hlen2 : (l2.flatMap f).length = l2.length * ti.size := flat_len hf l2
  -- what stands in the old array
  by_cases hroom : l.length + l2.length ≤ cap
  · -- there is room
    cases a with
    | none =>
      obtain ⟨hc, hl⟩ := arr_none (A := arr none cap ti.size et f l :: R) Has.here hs0
      have hl2 : l2 = [] := by have : l2.length = 0 := by omega
                               exact List.eq_nil_of_length_eq_zero this
      subst hc; subst hl; subst hl2
      refine ⟨none, 0, w, ?_, .inl ⟨rfl, rfl, by simpa using hs0⟩, .refl _⟩
      have hl0 := hsrc.2.1 w
      have hf0 := hsrc.2.2 w hs
      simp only [List.length_nil, List.flatMap_nil] at hl0 hf0
      simp only [Builtin.append_, sl, List.getElem?_toArray, List.getElem?_cons_zero, List.getElem?_cons_succ, Sem.run_bind, run_und ht, Result.andThen_ok, run_size (show sz P et = some ti.size by simp [sz, hi]), run_und ht', Sem.run_pure]
      cases D <;> first | exact absurd rfl (hD _) | simp [hl0, hf0]
    | some g =>
      unfold arr at hs0
      obtain ⟨cur, h2⟩ := sat_ex.1 hs0
      obtain ⟨⟨hfe, hcl, hle, hm, htk⟩, h3⟩ := sat_and.1 h2
      have hmul : l.length * ti.size + l2.length * ti.size ≤ cap * ti.size := by rw [← Nat.add_mul]; exact Nat.mul_le_mul_right _ hroom
      obtain ⟨w', hr, hh, ho, hk⟩ := run_storeCells (P := P) (i := l.length * ti.size) (l2.flatMap f) 0 cur w (sat_pt h3) (by rw [hlen2, hcl]; omega) (fun v hv => by obtain ⟨u, hu, hv⟩ := List.mem_flatMap.1 hv; exact h1 u hu v hv)
      refine ⟨some g, cap, w', ?_, .inl ⟨rfl, rfl, ?_⟩, hk⟩
      · have hl0 := hsrc.2.1 w
        have hf0 := hsrc.2.2 w hs
        simp only [Builtin.append_, sl, List.getElem?_toArray, List.getElem?_cons_zero, List.getElem?_cons_succ, Sem.run_bind, run_und ht, Result.andThen_ok, run_size (show sz P et = some ti.size by simp [sz, hi]), run_und ht', Sem.run_pure]
        cases D <;> first | exact absurd rfl (hD _) | simp [hl0, hf0, hroom, add_off, hr, List.length_append]
      · unfold arr
        refine sat_ex.2 ⟨cur.take (l.length * ti.size) ++ l2.flatMap f ++ cur.drop (l.length * ti.size + (l2.flatMap f).length), sat_and.2 ⟨⟨hfe, ?_, by simpa using hroom, hm, ?_⟩, ?_⟩⟩
        · simp only [List.length_append, List.length_take, List.length_drop, hlen2, hcl]; omega
        · rw [List.length_append, Nat.add_mul, htk, List.flatMap_append]
          exact List.take_left' (by rw [List.length_append, hlenf, hlen2])
        · refine sat_upd (o := .cells cur.toArray et (0, 0)) ?_ (fun c hc x hx => by rw [ho c hc]; exact hx) h3
          simpa using hh
  · -- a new array
    have hgrow : cap < l.length + l2.length := by omega
    have hn : ¬ (l.length + l2.length ≤ cap) := hroom
    have h63' : ¬ (9223372036854775807 < ((l.length : Int) + (l2.length : Int))) := by simp only [maxLen] at hml; omega
    have h48' : ¬ (281474976710656 < Builtin.nextslicecap (l.length + l2.length) cap * ti.bytes) := by have := growslice_fits hgrow hfit; omega
    have hsd : sat w.drew A := sat_heap (w := w) rfl hs
    have hl0 := hsrc.2.1
    have hf0 := hsrc.2.2 w.drew hsd
    have hold : (Builtin.firstCells ti.size l.length (sl a l.length cap)).run P w.drew = .ok (l.flatMap f).toArray w.drew := by
      cases a with
      | none => have := (arr_none (A := arr none cap ti.size et f l :: R) Has.here hs0).2; subst this; simp [sl, Builtin.firstCells]
      | some g => exact (Src_sv (Sv_arr (A := A) ⟨R, hE⟩ hf (fun h => by cases h) (arr_cap (A := A) ⟨R, hE⟩ hsd))).2.2 _ hsd
    have hge := grownCap_ge w (l.length + l2.length) cap et
    have hcm := grownCap_le_maxLen w (l.length + l2.length) cap et hml
    refine ⟨some w.heap.size, grownCap w (l.length + l2.length) cap et, w.drew.alloc (.cells ((l.flatMap f).toArray ++ (l2.flatMap f).toArray ++ Builtin.zeroCells z.cells (grownCap w (l.length + l2.length) cap et - (l.length + l2.length))) et), ?_, .inr ?_, ⟨rfl, rfl, rfl, by simp, Nat.le_succ _⟩⟩
    · have hold' : ∀ w', w' = w.drew → (Builtin.firstCells ti.size l.length (.slice (a.map fun g => ⟨g, 0, none⟩) l.length cap)).run P w' = .ok (l.flatMap f).toArray w' := fun w' e => by rw [e]; exact hold
      simp only [sl, Builtin.append_, List.getElem?_toArray, List.getElem?_cons_zero, List.getElem?_cons_succ, Sem.run_bind, run_und ht, Result.andThen_ok, run_size (show sz P et = some ti.size by simp [sz, hi]), run_und ht', Sem.run_pure]
      cases D <;> first
        | exact absurd rfl (hD _)
        | (simp [hl0, hn, h63', h48', typeInfo, zeroValue, hi, hz, Question.forced, hold', hf0, newRow, grownCap]; congr 2; apply Array.ext'; simp [List.append_assoc])
    · have hs2 : sat w.drew (arr a cap ti.size et f l :: R) := sat_heap (w := w) rfl hs0
      have := sat_new (w := w.drew) (w' := w.drew.alloc (.cells ((l.flatMap f).toArray ++ (l2.flatMap f).toArray ++ Builtin.zeroCells z.cells (grownCap w (l.length + l2.length) cap et - (l.length + l2.length))) et)) rfl hs2
      unfold arr
      refine sat_ex.2 ⟨l.flatMap f ++ l2.flatMap f ++ (Builtin.zeroCells z.cells (grownCap w (l.length + l2.length) cap et - (l.length + l2.length))).toList, sat_and.2 ⟨⟨hf, ?_, by simpa using hge, hcm, ?_⟩, ?_⟩⟩
      · have hzl : ∀ k, (Builtin.zeroCells z.cells k).toList.length = k * ti.size := fun k => by rw [Array.length_toList, size_zeroCells, hzc]
        rw [List.length_append, List.length_append, hlenf, hlen2, hzl, ← Nat.add_mul, ← Nat.add_mul]
        congr 1; omega
      · rw [List.length_append, Nat.add_mul, List.flatMap_append]
        exact List.take_left' (by rw [List.length_append, hlenf, hlen2])
      · refine sat_imp (fun h hp => ?_) this
        have e1 : (l.flatMap f ++ l2.flatMap f ++ (Builtin.zeroCells z.cells (grownCap w (l.length + l2.length) cap et - (l.length + l2.length))).toList).toArray = (l.flatMap f).toArray ++ (l2.flatMap f).toArray ++ Builtin.zeroCells z.cells (grownCap w (l.length + l2.length) cap et - (l.length + l2.length)) := by
          apply Array.ext'; simp
        rw [e1]; exact hp

theorem sat_or {A B : Asn} {R : List Asn} {w : World} : sat w ((fun h => A h ∨ B h) :: R) ↔ sat w (A :: R) ∨ sat w (B :: R) := by
  constructor
  · rintro ⟨h, a, h1, h2, d, e, b, r⟩
    rcases b with b | b
    · exact .inl ⟨h, a, h1, h2, d, e, b, r⟩
    · exact .inr ⟨h, a, h1, h2, d, e, b, r⟩
  · rintro (⟨h, a, h1, h2, d, e, b, r⟩ | ⟨h, a, h1, h2, d, e, b, r⟩)
    · exact ⟨h, a, h1, h2, d, e, .inl b, r⟩
    · exact ⟨h, a, h1, h2, d, e, .inr b, r⟩
def apk {α : Type} (a : Option Nat) (cap : Nat) (a' : Option Nat) (cap' e : Nat) (T : TypeId) (f : α → List Value) (l l' : List α) : Asn :=
  fun h => (fun h => (a' = a ∧ cap' = cap) ∧ arr a cap e T f l' h) h ∨ sep [arr a' cap' e T f l', arr a cap e T f l] h
section
variable {α : Type} {a a' : Option Nat} {cap cap' e : Nat} {T : TypeId} {f : α → List Value} {l l' : List α} {R : List Asn} {w : World}
theorem apk_start (h : sat w (arr a cap e T f l :: R)) : sat w (apk a cap a cap e T f l l :: R) := sat_or.2 (.inl (sat_and.2 ⟨⟨rfl, rfl⟩, h⟩))
theorem apk_cases (h : sat w (apk a cap a' cap' e T f l l' :: R)) : (a' = a ∧ cap' = cap ∧ sat w (arr a cap e T f l' :: R)) ∨ sat w (arr a' cap' e T f l' :: arr a cap e T f l :: R) := by
  rcases sat_or.1 h with h | h
  · obtain ⟨⟨h1, h2⟩, h3⟩ := sat_and.1 h
    exact .inl ⟨h1, h2, h3⟩
  · exact .inr (sat_app.1 h)
theorem apk_inl (h1 : a' = a) (h2 : cap' = cap) (h : sat w (arr a cap e T f l' :: R)) : sat w (apk a cap a' cap' e T f l l' :: R) := sat_or.2 (.inl (sat_and.2 ⟨⟨h1, h2⟩, h⟩))
theorem apk_inr (h : sat w (arr a' cap' e T f l' :: arr a cap e T f l :: R)) : sat w (apk a cap a' cap' e T f l l' :: R) := sat_or.2 (.inr (sat_app.2 h))
theorem arr_pre (hp : l <+: l') : ∀ h, arr a cap e T f l' h → arr a cap e T f l h := by
  obtain ⟨t, rfl⟩ := hp
  exact arr_takeN
theorem apk_elder (hp : l <+: l') (h : sat w (apk a cap a' cap' e T f l l' :: R)) : sat w (arr a cap e T f l :: R) := by
  rcases apk_cases h with ⟨_, _, h⟩ | h
  · exact sat_imp (arr_pre hp) h
  · exact sat_drop h
theorem apk_new (h : sat w (apk a cap a' cap' e T f l l' :: R)) : sat w (arr a' cap' e T f l' :: R) := by
  rcases apk_cases h with ⟨rfl, rfl, h⟩ | h
  · exact h
  · exact sat_drop (sat_perm (.swap _ _ _) h)
theorem Sv_apkE (hE1 : Enc f e) (hp : l <+: l') (hn : a = none → l = []) (hc : l.length ≤ cap) : Sv [apk a cap a' cap' e T f l l'] (sl a l.length cap) e f l (a.map fun g => ⟨g, 0, none⟩) cap :=
  (Sv_own' (a := a) (cap := cap) (T := T) hE1 hn hc).imp fun w h => by
    have := apk_elder hp h
    exact Sub.sat (B := [arr a cap e T f l]) ⟨_, .refl _⟩ this
theorem Sv_apkN (hE1 : Enc f e) (hn : a' = none → l' = []) (hc : l'.length ≤ cap') : Sv [apk a cap a' cap' e T f l l'] (sl a' l'.length cap') e f l' (a'.map fun g => ⟨g, 0, none⟩) cap' :=
  (Sv_own' (a := a') (cap := cap') (T := T) hE1 hn hc).imp fun w h => by
    have := apk_new h
    exact Sub.sat (B := [arr a' cap' e T f l']) ⟨_, .refl _⟩ this
theorem apk_factsN (h : sat w (apk a cap a' cap' e T f l l' :: R)) : (a' = none → l' = []) ∧ l'.length ≤ cap' := arr_facts Has.here (apk_new h)
end
section
variable {n : Nat} {L : List (Nat × Value)} {A : List Asn} {d : Option Tmp} {ty : TypeId} {pos' : String} {af : Array Edge} {g : Option (Nat × Bool)}
theorem Ac_apk1 {α : Type} {t t' et : TypeId} {e by_ : Nat} {x y : Operand} {a a' : Option Nat} {cap cap' len b : Nat} {f : α → List Value} {l l' : List α} {xs : List Value} {R : List Asn} (hE1 : Enc f e) (u : α) (hx : ev L x = some (sl a' len cap')) (hy : ev L y = some (.slice (some ⟨b, 0, none⟩) 1 1)) (ht : P.underlying t = some (.slice et)) (ht' : P.underlying t' = some (.slice et))
    (hel : el P et = some (e, by_)) (hp : l <+: l') (hE : Ext A (apk a cap a' cap' e et f l l') R := by repeat (first | with_reducible exact Ext.here | with_reducible apply Ext.there)) (hA : Has R (cl b et xs) := by repeat (first | with_reducible exact Has.here | with_reducible refine Has.there ?_)) (hu : xs = f u := by rfl)
    (hlen : len = l'.length := by first | rfl | assumption | omega) (hb : l'.length < 1000000000000 := by omega) (hby : Nat.ble by_ 128 = true := by rfl) :
    Ac P n ⟨d, .call ⟨.builtin .append, #[x, y], #[t, t']⟩, ty, pos', af, g⟩ L A (fun r A' => ∃ a'' cap'', r = sl a'' (l'.length + 1) cap'' ∧ A' = apk a cap a'' cap'' e et f l (l' ++ [u]) :: R) :=
  Ac_run fun ac w hfr hs => by
    have hby' := Nat.le_of_ble_eq_true hby
    have hmul : (l'.length + [u].length) * by_ ≤ 140737488355328 := Nat.le_trans (Nat.mul_le_mul (show l'.length + 1 ≤ 1000000000000 by omega) hby') (by decide)
    have hml : l'.length + [u].length ≤ maxLen := by simp [maxLen]; omega
    subst hlen
    unfold el at hel
    cases hi : P.info? et with
    | none => rw [hi] at hel; simp at hel
    | some ti =>
      rw [hi] at hel
      simp only [Option.bind_some] at hel
      cases hz : ti.zero with
      | none => rw [hz] at hel; simp at hel
      | some z =>
        rw [hz] at hel
        simp only [Option.bind_some] at hel
        split at hel
        · rename_i hzc
          simp only [Option.some.injEq, Prod.mk.injEq] at hel
          have hsrc : ∀ X : Asn, Src P (X :: R) e [u].length (.slice (some ⟨b, 0, none⟩) 1 1) ([u].flatMap f) := fun X => by
            have hxe : xs.length = e := by rw [hu]; exact hE1.len u
            exact Src_cl (m := 1) (Has.there hA) (by omega) (by simp only [List.drop_zero, Nat.one_mul]; rw [List.take_of_length_le (by omega), hu]; simp)
          have hsrc2 : ∀ X Y : Asn, Src P (X :: Y :: R) e [u].length (.slice (some ⟨b, 0, none⟩) 1 1) ([u].flatMap f) := fun X Y => by
            have hxe : xs.length = e := by rw [hu]; exact hE1.len u
            exact Src_cl (m := 1) (Has.there (Has.there hA)) (by omega) (by simp only [List.drop_zero, Nat.one_mul]; rw [List.take_of_length_le (by omega), hu]; simp)
          have h1 : ∀ q ∈ [u], ∀ v ∈ f q, v.oneCell' = true := fun q _ v hv => hE1.one q v hv
          rcases apk_cases (sat_perm hE hs) with ⟨rfl, rfl, h0⟩ | h0
          · obtain ⟨a'', cap'', w', hr, hs', hk⟩ := run_appendK (P := P) (t := t) (t' := t') (ty := ty) (l2 := [u]) ht ht' (fun k hk => by cases hk) hi hz hel.1 hel.2 (by rw [← hel.1]; exact hzc) hE1.len (hsrc _) Ext.here h1 hmul hml h0
            refine ⟨sl a'' (l' ++ [u]).length cap'', w', _, .inl (by simp only [execOp, resolve, invoke, Go.builtin, List.map_toArray, List.map_cons, List.map_nil, hfr.eval hx, hfr.eval hy, Sem.run_bind, Sem.run_pure, Result.andThen_ok, hr]), ⟨a'', cap'', by rw [List.length_append]; rfl, rfl⟩, ?_, hk⟩
            rcases hs' with ⟨h2, h3, h4⟩ | h4
            · exact apk_inl h2 h3 h4
            · refine apk_inr (sat_perm (.swap _ _ _) (sat_imp (arr_pre hp) (sat_perm (.swap _ _ _) h4)))
          · obtain ⟨a'', cap'', w', hr, hs', hk, _⟩ := run_append (P := P) (t := t) (t' := t') (ty := ty) (l2 := [u]) ht ht' (fun k hk => by cases hk) hi hz hel.1 hel.2 (by rw [← hel.1]; exact hzc) hE1.len (hsrc2 _ _) Ext.here h1 hmul hml h0
            exact ⟨sl a'' (l' ++ [u]).length cap'', w', _, .inl (by simp only [execOp, resolve, invoke, Go.builtin, List.map_toArray, List.map_cons, List.map_nil, hfr.eval hx, hfr.eval hy, Sem.run_bind, Sem.run_pure, Result.andThen_ok, hr]), ⟨a'', cap'', by rw [List.length_append]; rfl, rfl⟩, apk_inr hs', hk⟩
        · cases hel
end
end
end Go.SL
/-
  Plain words for what the statements' helpers do: marks, lists laid over, a number brought into a range, equal lists. (Conditions: none; no program in sight.)
-/
set_option maxRecDepth 20000
namespace Go.ShM
open Go.SL Go.RowKit
def mkB (k i : Nat) : B8 := BitVec.ofNat 8 (151 * k + 7 * i + 1)
def mks {α : Type} (g : Nat → α) (n m : Nat) : List α := (List.range m).map fun i => g (n + i)
theorem mks_len {α : Type} (g : Nat → α) (n m : Nat) : (mks g n m).length = m := by simp [mks]
theorem mks_succ {α : Type} (g : Nat → α) (n m : Nat) : mks g n m ++ [g (n + m)] = mks g n (m + 1) := by simp [mks, List.range_succ]
theorem mks_at {α : Type} {g : Nat → α} {n m i : Nat} (h : i < m) : (mks g n m)[i]? = some (g (n + i)) := by simp [mks, h]
theorem mks_app {α : Type} (g : Nat → α) (m k : Nat) : mks g 0 m ++ mks g m k = mks g 0 (m + k) := by
  apply List.ext_getElem?
  intro i
  rw [List.getElem?_append, mks_len]
  by_cases h : i < m
  · rw [if_pos h, mks_at h, mks_at (by omega)]
  · rw [if_neg h]
    by_cases h2 : i < m + k
    · rw [mks_at (by omega), mks_at h2]; congr 2; omega
    · rw [List.getElem?_eq_none (by rw [mks_len]; omega), List.getElem?_eq_none (by rw [mks_len]; omega)]
def lentB (l : List B8) : List B8 := l ++ mks (mkB 0) l.length 70
def ovl {α : Type} (g : Nat → α) (l : List α) (i : Nat) : List α := (List.range i).map g ++ l.drop i
theorem ovl_0 {α : Type} (g : Nat → α) (l : List α) : ovl g l 0 = l := by simp [ovl]
theorem ovl_len {α : Type} (g : Nat → α) {l : List α} {i : Nat} (h : i ≤ l.length) : (ovl g l i).length = l.length := by simp [ovl]; omega
theorem ovl_set {α : Type} (g : Nat → α) {l : List α} {i : Nat} (h : i < l.length) : (ovl g l i).set i (g i) = ovl g l (i + 1) := by
  unfold ovl
  rw [List.set_append_right _ _ (by simp), List.length_map, List.length_range, Nat.sub_self, List.drop_eq_getElem_cons h, List.set_cons_zero, List.range_succ, List.map_append, List.append_assoc]
  rfl
theorem ovl_all {α : Type} (g : Nat → α) (l : List α) : ovl g l l.length = mks g 0 l.length := by simp [ovl, mks]
def overB (n : Nat) : List B8 := mks (fun i => mkB 7 (i + 3)) 0 n
theorem overB_len (n : Nat) : (overB n).length = n := mks_len _ _ _
theorem take_step {α : Type} {l l' : List α} {i : Nat} {z : α} (h : l.take i = l'.take i) (hi : i < l.length) (hl : l.length = l'.length) (he : l.getD i z = l'.getD i z) : l.take (i + 1) = l'.take (i + 1) := by
  rw [List.getD_eq_getElem?_getD, List.getD_eq_getElem?_getD, List.getElem?_eq_getElem hi, List.getElem?_eq_getElem (by omega)] at he
  rw [List.take_succ_eq_append_getElem hi, List.take_succ_eq_append_getElem (by omega), h]
  simp only [Option.getD_some] at he
  rw [he]
theorem take_snoc {α : Type} {l : List α} {i : Nat} (z : α) (hi : i < l.length) : l.take i ++ [l.getD i z] = l.take (i + 1) := by
  rw [List.getD_eq_getElem?_getD, List.getElem?_eq_getElem hi, List.take_succ_eq_append_getElem hi]; rfl
theorem take_len1 {α : Type} {l : List α} {i : Nat} (hi : i < l.length) : (l.take i).length + 1 = (l.take (i + 1)).length := by simp; omega
theorem eq_take {α : Type} {l l' : List α} (h : l.take l.length = l'.take l.length) (hl : l.length = l'.length) : l = l' := by
  rw [List.take_length] at h
  rw [hl, List.take_length] at h
  exact h
theorem bF {p : Prop} [Decidable p] (h : ¬ p) : Value.bool false = Value.bool (decide p) := by rw [decide_eq_false h]
theorem bT {p : Prop} [Decidable p] (h : p) : Value.bool true = Value.bool (decide p) := by rw [decide_eq_true h]
theorem ne_len {α : Type} {l l' : List α} (h : l.length ≠ l'.length) : ¬ l = l' := fun e => h (by rw [e])
theorem ne_at {α : Type} {l l' : List α} {i : Nat} {z : α} (h : l.getD i z ≠ l'.getD i z) : ¬ l = l' := fun e => h (by rw [e])
end Go.ShM
/-
  A text's letters as a list of bytes: a new block, marked at its end. (Conditions: none; generic over the program.)
-/
namespace Go.SL
open Go.RowKit
end Go.SL
/-
  Tags and parts in plain words: a tag's text, what parts it has, the bytes that are digested. (Conditions: none; no program in sight.)
-/
set_option maxRecDepth 20000
namespace Go.ShM
open Go.SL Go.RowKit
inductive Bd | any | most (n : Nat) (b : Nat) | just (n : Nat) (b : Nat)
def Bd.ok : Bd → Nat → Bool
  | .any, _ => true
  | .most n _, m => decide (m ≤ n)
  | .just n _, m => decide (m = n)
def bnd (t : B8) : List Bd := if t = 1#8 then [.most 64 0, .just 6 0, .most 16777216 0] else if t = 2#8 then [.just 16 0] else if t = 5#8 then [.just 32 0] else if t = 6#8 then [.just 32 0, .just 32 0] else if t = 7#8 then [.just 4 0] else if t = 9#8 then [.just 16 0, .just 4 0] else [.any]
end Go.ShM
namespace Go.ShM
open Go.SL
end Go.ShM
/-
  A fact as a thing owned; lists of lists of lists; a rule over what is owned said otherwise. (Conditions: none; generic over the program.)
-/
namespace Go.SL
open Go.RowKit Go.ShM
section
variable {P : Program} {m : Md} {ops : Array Oper} {Q : Exit → Act → World → Prop} {w0 : World} {n : Nat} {rest : List Oper} {L : List (Nat × Value)} {A R : List Asn} {c : Code} {p : Prop}
theorem Ac.imp {o : Oper} {B : List Asn} {Rr : Value → List Asn → Prop} (h : Ac P n o L B Rr) (k : ∀ w, sat w A → sat w B) : Ac P n o L A Rr := fun r0 a w K Q hf hs hk => h r0 a w K Q hf (k w hs) hk
end
structure PPt where
  l : List Pt
  ao : Option Addr
  cap : Nat
def PPt.v (p : PPt) : Value := .slice p.ao p.l.length p.cap
end Go.SL
/-
  A word array handed back with a second result; a whole array as a slice. (Conditions: none; generic over the program.)
-/
namespace Go.SL
open Go.RowKit
section
variable {P : Program} {n : Nat} {L : List (Nat × Value)} {A : List Asn} {d : Option Tmp} {ty : TypeId} {pos' : String} {af : Array Edge} {g : Option (Nat × Bool)} {t : TypeId} {x y : Operand} {k : IntKind} {w : Nat}
theorem Rd_valE {o : Oper} {u v : Value} (h : Rd P n o L A u) (e : u = v) : Rd P n o L A v := e ▸ h
end
end Go.SL
/-
  Tagged bytes tell the tag and the parts. (Conditions: lengths below two to the sixty-fourth; no program in sight.)
-/
set_option maxRecDepth 20000
namespace Go.ShM
open Go.SL
end Go.ShM
namespace Go.ShM
open Go.SL
end Go.ShM
