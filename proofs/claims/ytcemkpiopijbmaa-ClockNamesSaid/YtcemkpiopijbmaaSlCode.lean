/-
  The rules of the logic for code: operations in the text's order, regions that draw their order, sequences, tests, blocks, loops, returns, calls. (Conditions: none; generic over the program.)
-/
import Derived.Test.YtcemkpiopijbmaaSlBase
set_option linter.all false
namespace Go.SL
open Go.RowKit

/-- An operation that only reads: it yields v. -/
def Rd (P : Program) (n : Nat) (o : Oper) (L : List (Nat × Value)) (A : List Asn) (v : Value) : Prop :=
  ∀ a w, Fr n L a → sat w A → (execOp a.eval o).run P w = .ok (.value v) w
/-- An operation that acts (allocates, stores, calls): whatever it yields, R says of it and of what is owned then. -/
def Ac (P : Program) (n : Nat) (o : Oper) (L : List (Nat × Value)) (A : List Asn) (R : Value → List Asn → Prop) : Prop :=
  ∀ a w (K : Act → World → Prop) (Q : Exit → Act → World → Prop), Fr n L a → sat w A →
    (∀ v A' w', R v A' → sat w' A' → Kept w w' → K (a.put o.dst v) w') → o.wp P a w K Q
theorem Ac_run {P : Program} {n : Nat} {o : Oper} {L : List (Nat × Value)} {A : List Asn} {R : Value → List Asn → Prop}
    (h : ∀ a w, Fr n L a → sat w A → ∃ v w' A', ((execOp a.eval o).run P w = .ok (.value v) w' ∨ ((execOp a.eval o).run P w = .ok .skip w' ∧ v = undef)) ∧ R v A' ∧ sat w' A' ∧ Kept w w') : Ac P n o L A R := by
  intro a w K Q hf hs hk
  obtain ⟨v, w', A', hr, hR, hs', hk'⟩ := h a w hf hs
  have := hk v A' w' hR hs' hk'
  rcases hr with hr | ⟨hr, rfl⟩ <;> simp only [Oper.wp, hr, Oper.upon] <;> exact this
theorem Ac_rd {P : Program} {n : Nat} {o : Oper} {L : List (Nat × Value)} {A : List Asn} {v : Value} (h : Rd P n o L A v) : Ac P n o L A (fun u B => u = v ∧ B = A) :=
  Ac_run fun a w hf hs => ⟨v, w, A, .inl (h a w hf hs), ⟨rfl, rfl⟩, hs, .refl _⟩
/-- fewer slots, fewer things owned -/
theorem Rd.mono {P : Program} {n : Nat} {o : Oper} {L L' : List (Nat × Value)} {A B : List Asn} {v : Value} (h : Rd P n o L' B v) (hl : Wk L L') (hb : Sub A B) : Rd P n o L A v :=
  fun a w hf hs => h a w (hf.wk hl) (hb.sat hs)

/-- Is the operation wanted? (its guard, looked up) -/
def Wt (ops : Array Oper) (o : Oper) (L : List (Nat × Value)) : Option Bool :=
  match o.guard with
  | none => some true
  | some (j, want) =>
    match (ops[j]?).bind (·.dst) with
    | none => some false
    | some s => match look L s with
      | some (.bool c) => some (c == want)
      | some (.tuple _) => some false
      | _ => none
theorem Wt.wanted {ops : Array Oper} {o : Oper} {L : List (Nat × Value)} {b : Bool} (h : Wt ops o L = some b) {n : Nat} {a : Act} (hf : Fr n L a) : Region.wanted o (yielded ops a.tmps) = b := by
  unfold Wt at h
  unfold Region.wanted
  split at h
  · rename_i hg; rw [hg]; simpa using h
  · rename_i j want hg
    rw [hg]
    unfold yielded
    dsimp only
    split at h
    · rename_i hd; rw [hd]; simpa using h
    · rename_i s hd
      rw [hd]
      split at h
      · rename_i c hl
        simp only [Option.bind_some, hf.2.2 _ _ hl]
        simpa using h
      · rename_i c hl
        simp only [Option.bind_some, hf.2.2 _ _ hl]
        simpa using h
      · cases h

/-! ### Operations in the text's order -/
def WL (P : Program) (ops : Array Oper) (Q : Exit → Act → World → Prop) (w0 : World) (n : Nat) (rest : List Oper) (L : List (Nat × Value)) (A : List Asn) : Prop :=
  ∀ a w, Fr n L a → sat w A → Kept w0 w → wpList P ops Q rest a w
/-- code -/
def WC (P : Program) (Q : Exit → Act → World → Prop) (w0 : World) (n : Nat) (c : Code) (L : List (Nat × Value)) (A : List Asn) : Prop :=
  ∀ a w, Fr n L a → sat w A → Kept w0 w → c.wp P Q a w
/-- a postcondition met -/
def Ps (Q : Act → World → Prop) (w0 : World) (n : Nat) (L : List (Nat × Value)) (A : List Asn) : Prop :=
  ∀ a w, Fr n L a → sat w A → Kept w0 w → Q a w
section
variable {P : Program} {ops : Array Oper} {Q : Exit → Act → World → Prop} {w0 : World} {n : Nat} {rest : List Oper} {L : List (Nat × Value)} {A : List Asn} {o : Oper}
theorem WL_nil (h : Ps (Q .normal) w0 n L A) : WL P ops Q w0 n [] L A := h
theorem WL_rd {v : Value} {d : Nat} (h : Rd P n o L A v) (hw : Wt ops o L = some true) (hd : o.dst = some d) (hn : Nat.blt d n = true)
    (k : WL P ops Q w0 n rest ((d, v) :: L) A) : WL P ops Q w0 n (o :: rest) L A := by
  intro a w hf hs hk
  unfold wpList
  rw [if_pos (Wt.wanted hw hf)]
  refine .inl ?_
  simp only [Oper.wp, h a w hf hs, Oper.upon]
  rw [hd]; exact k _ _ (hf.put hn v) hs hk
theorem WL_ac {R : Value → List Asn → Prop} {d : Nat} (h : Ac P n o L A R) (hw : Wt ops o L = some true) (hd : o.dst = some d) (hn : Nat.blt d n = true)
    (k : ∀ v A', R v A' → WL P ops Q w0 n rest ((d, v) :: L) A') : WL P ops Q w0 n (o :: rest) L A := by
  intro a w hf hs hk
  unfold wpList
  rw [if_pos (Wt.wanted hw hf)]
  refine .inl (h a w _ Q hf hs fun v A' w' hR hs' hk' => ?_)
  rw [hd]; exact k v A' hR _ _ (hf.put hn v) hs' (hk.trans hk')
theorem WL_ac0 {R : Value → List Asn → Prop} (h : Ac P n o L A R) (hw : Wt ops o L = some true) (hd : o.dst = none)
    (k : ∀ v A', R v A' → WL P ops Q w0 n rest L A') : WL P ops Q w0 n (o :: rest) L A := by
  intro a w hf hs hk
  unfold wpList
  rw [if_pos (Wt.wanted hw hf)]
  refine .inl (h a w _ Q hf hs fun v A' w' hR hs' hk' => ?_)
  rw [hd]; exact k v A' hR _ _ hf hs' (hk.trans hk')
theorem WL_skip {d : Nat} (hw : Wt ops o L = some false) (hd : o.dst = some d) (hn : Nat.blt d n = true)
    (k : WL P ops Q w0 n rest ((d, undef) :: L) A) : WL P ops Q w0 n (o :: rest) L A := by
  intro a w hf hs hk
  unfold wpList
  rw [if_neg (by rw [Wt.wanted hw hf]; simp), hd]
  exact k _ _ (hf.put hn _) hs hk
theorem WL_skip0 (hw : Wt ops o L = some false) (hd : o.dst = none)
    (k : WL P ops Q w0 n rest L A) : WL P ops Q w0 n (o :: rest) L A := by
  intro a w hf hs hk
  unfold wpList
  rw [if_neg (by rw [Wt.wanted hw hf]; simp), hd]
  exact k _ _ hf hs hk
/-- fewer slots, fewer things owned: from here on -/
theorem WL_wk {L' : List (Nat × Value)} {A' : List Asn} (hl : Wk L L') (ha : Sub A A') (k : WL P ops Q w0 n rest L' A') : WL P ops Q w0 n rest L A :=
  fun a w hf hs hk => k a w (hf.wk hl) (ha.sat hs) hk
theorem WC_wk {c : Code} {L' : List (Nat × Value)} {A' : List Asn} (hl : Wk L L') (ha : Sub A A') (k : WC P Q w0 n c L' A') : WC P Q w0 n c L A :=
  fun a w hf hs hk => k a w (hf.wk hl) (ha.sat hs) hk
theorem WC_region {id : Nat} {l : List Oper} (h : WL P l.toArray Q w0 n l L A) : WC P Q w0 n (.region id l.toArray false) L A :=
  fun a w hf hs hk => wp_region_lit (h a w hf hs hk)
/-- what comes next, kept out of sight -/
def Nxt {P : Program} {y : Code} {Q : Exit → Act → World → Prop} (K : Act → World → Prop) : Prop := ∀ a w, y.wp P Q a w → K a w
theorem WC_seq {x y : Code} (h : ∀ K : Act → World → Prop, Nxt (P := P) (y := y) (Q := Q) K → WC P (Exit.then K Q) w0 n x L A) : WC P Q w0 n (.seq x y) L A :=
  fun a w hf hs hk => wp_seq_k fun K hK => h K hK a w hf hs hk
/-- the next piece of a sequence -/
theorem Ps_next {y : Code} {K : Act → World → Prop} (hK : Nxt (P := P) (y := y) (Q := Q) K) (h : WC P Q w0 n y L A) : Ps K w0 n L A :=
  fun a w hf hs hk => hK a w (h a w hf hs hk)
theorem WC_cond {c : Operand} {x y : Code} {b : Bool} (hc : ev L c = some (.bool b)) (h1 : b = true → WC P Q w0 n x L A) (h2 : b = false → WC P Q w0 n y L A) : WC P Q w0 n (.cond c x y) L A :=
  fun a w hf hs hk => wp_cond_split (hf.eval hc) (fun hb => h1 hb a w hf hs hk) (fun hb => h2 hb a w hf hs hk)
theorem WC_condT {c : Operand} {x y : Code} (hc : ev L c = some (.bool true)) (h1 : WC P Q w0 n x L A) : WC P Q w0 n (.cond c x y) L A :=
  fun a w hf hs hk => wp_cond_true (hf.eval hc) (h1 a w hf hs hk)
theorem WC_condF {c : Operand} {x y : Code} (hc : ev L c = some (.bool false)) (h1 : WC P Q w0 n y L A) : WC P Q w0 n (.cond c x y) L A :=
  fun a w hf hs hk => wp_cond_false (hf.eval hc) (h1 a w hf hs hk)
theorem WC_skip (h : Ps (Q .normal) w0 n L A) : WC P Q w0 n .skip L A := fun a w hf hs hk => wp_skip (h a w hf hs hk)
theorem WC_ret (h : Ps (Q .ret) w0 n L A) : WC P Q w0 n .ret L A := fun a w hf hs hk => wp_ret (h a w hf hs hk)
theorem WC_exit {k : Nat} (h : Ps (Q (.exit k)) w0 n L A) : WC P Q w0 n (.exit k) L A := fun a w hf hs hk => wp_exit (h a w hf hs hk)
theorem WC_block {id : Nat} {c : Code} (h : WC P (Exit.inBlock id Q) w0 n c L A) : WC P Q w0 n (.block id c) L A := fun a w hf hs hk => wp_block (h a w hf hs hk)
/-- A loop: a ghost state s, what the slots hold, what is owned, what is known; a measure. -/
theorem WC_loop {c : Code} {σ : Type} (Li : σ → List (Nat × Value)) (Ai : σ → List Asn) (φ : σ → Prop) (μ : σ → Nat) (s0 : σ) (h0 : φ s0) (hl : Wk L (Li s0)) (ha : Sub A (Ai s0))
    (round : ∀ s, φ s → ∀ K : Act → World → Prop, (∀ s', φ s' → μ s' < μ s → Ps K w0 n (Li s') (Ai s')) → WC P (Exit.then K Q) w0 n c (Li s) (Ai s)) : WC P Q w0 n (.loop c) L A := by
  intro a w hf hs hk
  suffices H : ∀ m s, μ s < m → φ s → ∀ a w, Fr n (Li s) a → sat w (Ai s) → Kept w0 w → Code.rounds P c Q m a w from
    wp_loop_rounds (μ s0 + 1) (H _ s0 (Nat.lt_succ_self _) h0 a w (hf.wk hl) (ha.sat hs) hk)
  intro m
  induction m with
  | zero => intro s hm; omega
  | succ m ih =>
    intro s hm hφ a w hf hs hk
    rw [rounds_succ]
    exact round s hφ _ (fun s' hφ' hlt a' w' hf' hs' hk' => ih s' (by omega) hφ' a' w' hf' hs' hk') a w hf hs hk
end
end Go.SL
