/-
  The rules of the logic for regions that draw their order: what only reads is taken first, as long as nobody who may come before it turns what it reads; the rest in every order that is left. (Conditions: the program follows mixed orders.)
-/
import Derived.Test.YtcemkpiopijbmaaSlCode
set_option linter.all false
namespace Go.SL
open Go.RowKit

/-- Whatever order is picked from here on; J i: 1: behind operation i the condition S holds again; 2: it leaves the world as it is; else nothing is said. -/
def anyJ (P : Program) (ops : Array Oper) (Q : Exit → Act → World → Prop) (S : World → Prop) (J : Nat → Nat) : Nat → Array Bool → Act → World → Prop
  | 0, listed, a, w => Region.ready .any ops listed = [] ∧ Q .normal a w
  | fuel + 1, listed, a, w => (Region.ready .any ops listed = [] → Q .normal a w) ∧
      ∀ i ∈ Region.ready .any ops listed, wpOp P ops Q i (fun a' w' => ((J i = 1 → S w') ∧ (J i = 2 → w' = w)) ∧ anyJ P ops Q S J fuel (listed.setIfInBounds i true) a' w') a w
section
variable {P : Program} {ops : Array Oper} {Q : Exit → Act → World → Prop} {J : Nat → Nat}
theorem any_of_J {S : World → Prop} : ∀ (fuel : Nat) (listed : Array Bool) (a : Act) (w : World), anyJ P ops Q S J fuel listed a w → wpAny P .any ops Q fuel listed a w
  | 0, _, _, _, h => h
  | fuel + 1, _, _, _, h => ⟨h.1, fun i hi => wpOp_mono (fun a' w' k => any_of_J fuel _ a' w' k.2) (h.2 i hi)⟩
/-- Number i may be taken first: T: what it asks of the world; whoever may come before it keeps that. -/
theorem anyJ_take {S T : World → Prop} {i : Nat} {oi : Oper} {v : Value} (hi : ops[i]? = some oi) (hsel : Region.noSelect ops = true) (hJi : J i = 2)
    (hQ : ∀ c a w, Q (.panic c) (a.put oi.dst v) w → Q (.panic c) a w) : ∀ (fuel : Nat) (listed : Array Bool) (a : Act) (w : World),
      (∀ j oj, ops[j]? = some oj → j ≠ i → listed.getD j true = false → (∀ e ∈ oj.after, Region.binds .any e = true → e.on ≠ i) → oi.apart ops oj = true ∧ ((∀ w, T w) ∨ J j = 2 ∨ (J j = 1 ∧ ∀ w, S w → T w))) →
      i ∈ Region.ready .any ops listed → YieldsIf P ops T oi v a → T w →
      anyJ P ops Q S J fuel (listed.setIfInBounds i true) (a.put oi.dst v) w → anyJ P ops Q S J (fuel + 1) listed a w := by
  have here : ∀ {a : Act} {w : World} {K : Act → World → Prop}, YieldsIf P ops T oi v a → T w → K (a.put oi.dst v) w → wpOp P ops Q i (fun a' w' => ((J i = 1 → S w') ∧ (J i = 2 → w' = w)) ∧ K a' w') a w :=
    fun hy hT hK => hy.wpOp hi hT ⟨⟨fun h => (by rw [hJi] at h; cases h), fun _ => rfl⟩, hK⟩
  intro fuel
  induction fuel with
  | zero =>
    intro listed a w hfree hr hy hT H
    refine ⟨fun h => absurd (h ▸ hr) (by simp), fun j hj => ?_⟩
    by_cases hji : j = i
    · subst hji; exact here hy hT H
    · have := ready_mono hj hji
      rw [H.1] at this; cases this
  | succ fuel ih =>
    intro listed a w hfree hr hy hT H
    refine ⟨fun h => absurd (h ▸ hr) (by simp), fun j hj => ?_⟩
    by_cases hji : j = i
    · subst hji; exact here hy hT H
    · have hH := H.2 j (ready_mono hj hji)
      obtain ⟨hjun, oj, hoj, hall⟩ := mem_ready.1 hj
      have hnot : ∀ e ∈ oj.after, Region.binds .any e = true → e.on ≠ i := by
        intro e he hb heq
        have hl := hall e he hb
        rw [heq] at hl
        have hi0 := (mem_ready.1 hr).1
        have hsz : i < listed.size := by
          rcases Nat.lt_or_ge i listed.size with q | q
          · exact q
          · simp [Array.getElem?_eq_none q] at hl
        simp [hsz] at hl hi0
        rw [hl] at hi0; cases hi0
      obtain ⟨hap, hkeep⟩ := hfree j oj hoj hji hjun hnot
      have hp := wpOp_putIf hoj hap (fun cs b => Region.noSelect_spec hsel i oi cs b hi) (fun cs b => Region.noSelect_spec hsel j oj cs b hoj) hQ hy hH
      refine wpOp_mono (fun a' w' h3 => ⟨h3.2.1, ih _ a' w' ?_ (ready_mono hr (Ne.symm hji)) h3.1 ?_ ?_⟩) hp
      · intro k ok hk hki hun hno
        refine hfree k ok hk hki ?_ hno
        by_cases hjk : j = k
        · subst hjk; exact hjun
        · rwa [getD_set_ne true hjk] at hun
      · rcases hkeep with q | q | q
        · exact q _
        · rw [h3.2.1.2 q]; exact hT
        · exact q.2 _ (h3.2.1.1 q.1)
      · rw [Array.setIfInBounds_comm _ _ hji]; exact h3.2.2
/-- May number i be taken first? Whoever is still to come waits for it, or leaves its slots alone and (pure: true: it reads no memory) what it reads. -/
def freeJ (ops : Array Oper) (J : Nat → Nat) (pure : Bool) (listed : Array Bool) (i : Nat) : Bool :=
  match ops[i]? with
  | none => false
  | some oi => Region.noSelect ops && Nat.beq (J i) 2 && (Region.ready .any ops listed).contains i && (List.range ops.size).all fun j => j == i || listed.getD j true || match ops[j]? with
      | some oj => oj.after.any (fun e => Region.binds .any e && e.on == i) || ((pure || Nat.beq (J j) 2 || Nat.beq (J j) 1) && oi.apart ops oj)
      | none => true
theorem freeJ_spec {pure : Bool} {listed : Array Bool} {i : Nat} {oi : Oper} (hi : ops[i]? = some oi) (h : freeJ ops J pure listed i = true) :
    Region.noSelect ops = true ∧ J i = 2 ∧ i ∈ Region.ready .any ops listed ∧ ∀ j oj, ops[j]? = some oj → j ≠ i → listed.getD j true = false → (∀ e ∈ oj.after, Region.binds .any e = true → e.on ≠ i) → oi.apart ops oj = true ∧ (pure = true ∨ J j = 2 ∨ J j = 1) := by
  simp only [freeJ, hi, Bool.and_eq_true, List.contains_iff_mem, List.all_eq_true, List.mem_range] at h
  refine ⟨h.1.1.1, Nat.eq_of_beq_eq_true h.1.1.2, h.1.2, fun j oj hj hne hun hno => ?_⟩
  have hj' := h.2 j (Array.getElem?_eq_some_iff.1 hj).1
  simp only [hj, Bool.or_eq_true, beq_iff_eq, hne, false_or, hun, Bool.false_eq_true, Bool.and_eq_true] at hj'
  rcases hj' with hj' | hj'
  · obtain ⟨e, he, hb⟩ := Array.any_eq_true'.1 hj'
    simp only [Bool.and_eq_true, beq_iff_eq] at hb
    exact absurd hb.2 (hno e he hb.1)
  · refine ⟨hj'.2, ?_⟩
    rcases hj'.1 with (q | q) | q
    · exact .inl q
    · exact .inr (.inl (Nat.eq_of_beq_eq_true q))
    · exact .inr (.inr (Nat.eq_of_beq_eq_true q))
end

/-- who has come up -/
def lst (k : Nat) : List Nat → Array Bool
  | [] => Array.replicate k false
  | i :: r => (lst k r).setIfInBounds i true
def WJ (P : Program) (ops : Array Oper) (Q : Exit → Act → World → Prop) (w0 : World) (n : Nat) (S : List Asn) (J : Nat → Nat) (fuel : Nat) (is : List Nat) (L : List (Nat × Value)) (A : List Asn) : Prop :=
  ∀ a w, Fr n L a → sat w A → Kept w0 w → anyJ P ops Q (fun w => sat w S) J fuel (lst ops.size is) a w
/-- operation number i comes up now -/
def WI (P : Program) (ops : Array Oper) (Q : Exit → Act → World → Prop) (w0 : World) (n : Nat) (S : List Asn) (J : Nat → Nat) (fuel : Nat) (is : List Nat) (L : List (Nat × Value)) (A : List Asn) (i : Nat) : Prop :=
  ∀ a w, Fr n L a → sat w A → Kept w0 w → wpOp P ops Q i (fun a' w' => ((J i = 1 → sat w' S) ∧ (J i = 2 → w' = w)) ∧ anyJ P ops Q (fun w => sat w S) J fuel (lst ops.size (i :: is)) a' w') a w
theorem sat_none (w : World) : sat w [] := ⟨fun _ => none, fun _ _ h => (by cases h), fun _ => rfl⟩
section
variable {P : Program} {ops : Array Oper} {Q : Exit → Act → World → Prop} {w0 : World} {n : Nat} {S : List Asn} {J : Nat → Nat} {fuel : Nat} {is : List Nat} {L : List (Nat × Value)} {A : List Asn} {o : Oper}
/-- the beginning: S is what is read, J i: number i leaves it -/
theorem WC_draw {id : Nat} (hm : P.follows .mixedOrders = true) (S : List Asn) (J : Nat → Nat) (h : WJ P ops Q w0 n S J ops.size [] L A) : WC P Q w0 n (.region id ops true) L A :=
  fun a w hf hs hk => wp_region_any hm (any_of_J _ _ _ _ (h a _ hf (sat_heap (w := w) rfl hs) ⟨hk.os, hk.tape, hk.output, hk.size⟩))
theorem WC_drawA {id : Nat} (hm : P.follows .mixedOrders = true) (J : Nat → Nat) (h : WJ P ops Q w0 n A J ops.size [] L A) : WC P Q w0 n (.region id ops true) L A := WC_draw hm A J h
theorem WJ_take (i : Nat) {v : Value} {d : Nat} (hi : ops[i]? = some o) (hc : freeJ ops J false (lst ops.size is) i = true) (h : Rd P n o L S v) (hw : Wt ops o L = some true) (hd : o.dst = some d) (hn : Nat.blt d n = true)
    (hQ : ∀ c a w, Q (.panic c) (a.put o.dst v) w → Q (.panic c) a w) (hS : Sub A S) (k : WJ P ops Q w0 n S J fuel (i :: is) ((d, v) :: L) A) : WJ P ops Q w0 n S J (fuel + 1) is L A := by
  intro a w hf hs hk
  obtain ⟨h1, h2, h3, h4⟩ := freeJ_spec hi hc
  refine anyJ_take (T := fun w => sat w S) hi h1 h2 hQ fuel _ a w (fun j oj hj hne hun hno => ?_) h3 (.inl ⟨Wt.wanted hw hf, fun w' hw' => h a w' hf hw'⟩) (hS.sat hs) ?_
  · obtain ⟨q1, q2⟩ := h4 j oj hj hne hun hno
    refine ⟨q1, .inr ?_⟩
    rcases q2 with q | q | q
    · cases q
    · exact .inl q
    · exact .inr ⟨q, fun _ h => h⟩
  · exact k (a.put o.dst v) w (by rw [hd]; exact hf.put hn v) hs hk
/-- what reads no memory -/
theorem WJ_takeP (i : Nat) {v : Value} {d : Nat} (hi : ops[i]? = some o) (hc : freeJ ops J true (lst ops.size is) i = true) (h : Rd P n o L [] v) (hw : Wt ops o L = some true) (hd : o.dst = some d) (hn : Nat.blt d n = true)
    (hQ : ∀ c a w, Q (.panic c) (a.put o.dst v) w → Q (.panic c) a w) (k : WJ P ops Q w0 n S J fuel (i :: is) ((d, v) :: L) A) : WJ P ops Q w0 n S J (fuel + 1) is L A := by
  intro a w hf hs hk
  obtain ⟨h1, h2, h3, h4⟩ := freeJ_spec hi hc
  refine anyJ_take (T := fun _ => True) hi h1 h2 hQ fuel _ a w (fun j oj hj hne hun hno => ⟨(h4 j oj hj hne hun hno).1, .inl fun _ => trivial⟩) h3 (.inl ⟨Wt.wanted hw hf, fun w' _ => h a w' hf (sat_none w')⟩) trivial ?_
  exact k (a.put o.dst v) w (by rw [hd]; exact hf.put hn v) hs hk
theorem WJ_skip (i : Nat) {d : Nat} (hi : ops[i]? = some o) (hc : freeJ ops J true (lst ops.size is) i = true) (hw : Wt ops o L = some false) (hd : o.dst = some d) (hn : Nat.blt d n = true)
    (hQ : ∀ c a w, Q (.panic c) (a.put o.dst undef) w → Q (.panic c) a w) (k : WJ P ops Q w0 n S J fuel (i :: is) ((d, undef) :: L) A) : WJ P ops Q w0 n S J (fuel + 1) is L A := by
  intro a w hf hs hk
  obtain ⟨h1, h2, h3, h4⟩ := freeJ_spec hi hc
  refine anyJ_take (T := fun _ => True) hi h1 h2 hQ fuel _ a w (fun j oj hj hne hun hno => ⟨(h4 j oj hj hne hun hno).1, .inl fun _ => trivial⟩) h3 (.inr ⟨Wt.wanted hw hf, rfl⟩) trivial ?_
  exact k (a.put o.dst undef) w (by rw [hd]; exact hf.put hn _) hs hk
def rdy (ops : Array Oper) (is : List Nat) : List Nat := Region.ready .any ops (lst ops.size is)
theorem WJ_all {rs : List Nat} (hr : rdy ops is = rs) (hne : rs.isEmpty = false) (h : ∀ i ∈ rs, WI P ops Q w0 n S J fuel is L A i) : WJ P ops Q w0 n S J (fuel + 1) is L A :=
  fun a w hf hs hk => ⟨fun h0 => (by rw [← hr] at hne; unfold rdy at hne; rw [h0] at hne; cases hne), fun i hi => h i (by rw [← hr]; exact hi) a w hf hs hk⟩
theorem WI_one {i : Nat} (h : WI P ops Q w0 n S J fuel is L A i) : ∀ j ∈ [i], WI P ops Q w0 n S J fuel is L A j := by simpa using h
theorem WI_cons {i : Nat} {r : List Nat} (h : WI P ops Q w0 n S J fuel is L A i) (h' : ∀ k ∈ r, WI P ops Q w0 n S J fuel is L A k) : ∀ k ∈ i :: r, WI P ops Q w0 n S J fuel is L A k := by simpa using ⟨h, h'⟩
theorem WI_ac {i : Nat} {R : Value → List Asn → Prop} {d : Nat} (hi : ops[i]? = some o) (h : Ac P n o L A R) (hw : Wt ops o L = some true) (hd : o.dst = some d) (hn : Nat.blt d n = true) (hJ2 : Nat.beq (J i) 2 = false)
    (k : ∀ v A', R v A' → (Nat.beq (J i) 1 = true → Sub A' S) ∧ WJ P ops Q w0 n S J fuel (i :: is) ((d, v) :: L) A') : WI P ops Q w0 n S J fuel is L A i := by
  intro a w hf hs hk
  unfold wpOp
  simp only [hi]
  rw [if_pos (Wt.wanted hw hf)]
  refine .inl (h a w _ Q hf hs fun v A' w' hR hs' hk' => ?_)
  obtain ⟨k1, k2⟩ := k v A' hR
  exact ⟨⟨fun hJ => (k1 (by rw [hJ]; rfl)).sat hs', fun hJ => (by rw [hJ] at hJ2; cases hJ2)⟩, k2 _ _ (by rw [hd]; exact hf.put hn v) hs' (hk.trans hk')⟩
theorem WI_ac0 {i : Nat} {R : Value → List Asn → Prop} (hi : ops[i]? = some o) (h : Ac P n o L A R) (hw : Wt ops o L = some true) (hd : o.dst = none) (hJ2 : Nat.beq (J i) 2 = false)
    (k : ∀ v A', R v A' → (Nat.beq (J i) 1 = true → Sub A' S) ∧ WJ P ops Q w0 n S J fuel (i :: is) L A') : WI P ops Q w0 n S J fuel is L A i := by
  intro a w hf hs hk
  unfold wpOp
  simp only [hi]
  rw [if_pos (Wt.wanted hw hf)]
  refine .inl (h a w _ Q hf hs fun v A' w' hR hs' hk' => ?_)
  obtain ⟨k1, k2⟩ := k v A' hR
  exact ⟨⟨fun hJ => (k1 (by rw [hJ]; rfl)).sat hs', fun hJ => (by rw [hJ] at hJ2; cases hJ2)⟩, k2 _ _ (by rw [hd]; exact hf) hs' (hk.trans hk')⟩
theorem WI_skip {i : Nat} {d : Nat} (hi : ops[i]? = some o) (hw : Wt ops o L = some false) (hd : o.dst = some d) (hn : Nat.blt d n = true)
    (hS : Nat.beq (J i) 1 = true → Sub A S) (k : WJ P ops Q w0 n S J fuel (i :: is) ((d, undef) :: L) A) : WI P ops Q w0 n S J fuel is L A i := by
  intro a w hf hs hk
  unfold wpOp
  simp only [hi]
  rw [if_neg (by rw [Wt.wanted hw hf]; simp)]
  exact ⟨⟨fun hJ => (hS (by rw [hJ]; rfl)).sat hs, fun _ => by first | rfl | trivial⟩, k _ _ (by rw [hd]; exact hf.put hn _) hs hk⟩
/-- an operation that reads what is not in S: it comes up as the others do -/
theorem WI_rd {i : Nat} {v : Value} {d : Nat} (hi : ops[i]? = some o) (h : Rd P n o L A v) (hw : Wt ops o L = some true) (hd : o.dst = some d) (hn : Nat.blt d n = true)
    (hS : Nat.beq (J i) 1 = true → Sub A S) (k : WJ P ops Q w0 n S J fuel (i :: is) ((d, v) :: L) A) : WI P ops Q w0 n S J fuel is L A i := by
  intro a w hf hs hk
  unfold wpOp
  simp only [hi]
  rw [if_pos (Wt.wanted hw hf)]
  refine .inl ?_
  simp only [Oper.wp, h a w hf hs, Oper.upon]
  exact ⟨⟨fun hJ => (hS (by rw [hJ]; rfl)).sat hs, fun _ => by first | rfl | trivial⟩, k _ _ (by rw [hd]; exact hf.put hn v) hs hk⟩
theorem WJ_done (hr : rdy ops is = []) (h : Ps (Q .normal) w0 n L A) : WJ P ops Q w0 n S J fuel is L A := by
  intro a w hf hs hk
  have hr' : Region.ready .any ops (lst ops.size is) = [] := hr
  cases fuel with
  | zero => exact ⟨hr', h a w hf hs hk⟩
  | succ f => exact ⟨fun _ => h a w hf hs hk, by rw [hr']; simp⟩
theorem WJ_wk {L' : List (Nat × Value)} {A' : List Asn} (hl : Wk L L') (ha : Sub A A') (k : WJ P ops Q w0 n S J fuel is L' A') : WJ P ops Q w0 n S J fuel is L A :=
  fun a w hf hs hk => k a w (hf.wk hl) (ha.sat hs) hk
end
end Go.SL
