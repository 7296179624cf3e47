/-
  Contracts of functions that the claim reaches, or the logic and the plain laws that they rest on, or the row over them. (Conditions: none beyond the statement.)
-/
import Derived.Test.YtoakfknnaiapiaaLibC
import Derived.RangeFuncNested
set_option linter.all false
/-
  A range over a function, as rules of the logic: what yield is; a round out of its body's walk; the statement. (Conditions: none; generic over the program.)
-/
namespace Go.SL
open Go.RowKit
theorem not_deferR {P : Program} {ρ : Operand → Value} {o : Oper} {w w' : World} {l : Nat} {f : FuncId} {tmps : Array Value} {as bd : Code} (h : (execOp ρ o).run P w = .ok (.round l f tmps as bd) w') : ∀ c, o.op ≠ .defer c := by
  intro c hc
  obtain ⟨d, op, ty, pos, af, g⟩ := o
  simp only at hc
  subst hc
  simp only [execOp, Sem.run_bind] at h
  cases hr : (resolve ρ c ty).run P w with
  | ok d w1 => rw [hr] at h; simp at h
  | halt x w1 => rw [hr] at h; simp at h
/-- a call of a loop's yield with these arguments -/
def Yd (P : Program) (l : Nat) (args : List Value) (pre : List Asn) {ρ : Type} (val : ρ → Value) (post : ρ → List Asn) : Prop :=
  ∀ (F : List Asn) (w : World), sat w (pre ++ F) → ∃ (f : FuncId) (tmps : Array Value) (as bd : Code), (Instr.yield l args.toArray).run P w = .ok (.round l f tmps as bd) w ∧
    ∀ r : Option Nat, RoundIn (fz r) 0 P l f tmps as bd w (fun e w' => ∃ q, e = .returned (val q) ∧ sat w' (post q ++ F) ∧ Kept w w')
def yv (l : Nat) : Value := .func (.yield l) #[] #[]
theorem Ac_yield {P : Program} {n : Nat} {L : List (Nat × Value)} {A : List Asn} {d : Option Tmp} {ty : TypeId} {pos' : String} {af : Array Edge} {g : Option (Nat × Bool)} {x : Operand} {xs : Array Operand} {ts : Array TypeId} {l : Nat} {args : List Value} {pre F : List Asn} {ρ : Type} {val : ρ → Value} {post : ρ → List Asn}
    (hx : ev L x = some (yv l)) (ha : evs L xs.toList = some args) (hy : Yd P l args pre val post) (hg : Gv A pre F := by repeat (first | with_reducible exact Gv.nil | (with_reducible apply Gv.cons; · (repeat (first | with_reducible exact Ext.here | with_reducible apply Ext.there))))) :
    Ac P n ⟨d, .call ⟨.value x, xs, ts⟩, ty, pos', af, g⟩ L A (fun v A' => ∃ q, v = val q ∧ A' = post q ++ F) := by
  intro r0 a w K Q hf hsat hk
  obtain ⟨f, tmps, as, bd, hrun, hround⟩ := hy F w (sat_perm hg hsat)
  have e := hf.evals ha
  have e' : xs.map a.eval = args.toArray := by apply Array.ext'; simp [e]
  have hr : (execOp a.eval ⟨d, .call ⟨.value x, xs, ts⟩, ty, pos', af, g⟩).run P w = .ok (.round l f tmps as bd) w := by
    simp [execOp, resolve, hf.eval hx, yv, Deferred.ofValue, invoke, e', hrun]
  refine ⟨fun _ _ => trivial, ?_⟩
  rw [Oper.semAt_plain _ _ _ (not_deferR hr), hr]
  refine ⟨fz_depth, RoundIn.mono (hround r0) ?_⟩
  rintro e w' ⟨q, rfl, hs', hk'⟩
  exact hk _ _ _ ⟨q, rfl, rfl⟩ hs' hk'
/-! ### a round -/
def rcB (r : Loop) : Loop := { r with state := .busy }
def rcR (r : Loop) : Loop := { r with state := .ready, pending := none }
def rcD (r : Loop) (c : Code) : Loop := { r with state := .done, pending := some c }
/-- a loop's record -/
def lp (l : Nat) (r : Loop) : Asn := pt l (.loop r)
/-- owned, for some state of which φ holds -/
def exA {σ : Type} (φ : σ → Prop) (f : σ → List Asn) : Asn := fun h => ∃ s, φ s ∧ sep (f s) h
theorem sat_exA {σ : Type} {φ : σ → Prop} {f : σ → List Asn} {R : List Asn} {w : World} : sat w (exA φ f :: R) ↔ ∃ s, φ s ∧ sat w (f s ++ R) := by
  unfold exA
  rw [sat_ex]
  constructor
  · rintro ⟨s, h⟩
    obtain ⟨h1, h2⟩ := sat_and.1 h
    exact ⟨s, h1, sat_app.1 h2⟩
  · rintro ⟨s, h1, h2⟩
    exact ⟨s, sat_and.2 ⟨h1, sat_app.2 h2⟩⟩
theorem imp_ex {σ : Type} {φ : σ → Prop} {f : σ → List Asn} {A R : List Asn} (s : σ) (hφ : φ s) (h : Sub A (f s ++ R)) : ∀ w, sat w A → sat w (exA φ f :: R) := fun _ hs => sat_exA.2 ⟨s, hφ, h.sat hs⟩
theorem imp_ex2 {σ : Type} {φ : σ → Prop} {f : σ → List Asn} {A R : List Asn} (s : σ) (hφ : φ s) (h : ∀ w, sat w A → sat w (f s ++ R)) : ∀ w, sat w A → sat w (exA φ f :: R) := fun _ hs => sat_exA.2 ⟨s, hφ, h _ hs⟩
theorem imp_exL {σ : Type} {φ : σ → Prop} {f : σ → List Asn} {A R : List Asn} {X : Asn} (s : σ) (hφ : φ s) (h : Sub A (X :: (f s ++ R))) : ∀ w, sat w A → sat w (X :: exA φ f :: R) := fun _ hs => by
  have h2 := h.sat hs
  refine sat_perm (.swap _ _ _) (sat_exA.2 ⟨s, hφ, ?_⟩)
  exact sat_perm (List.perm_middle).symm h2
section
variable {P : Program} {m : Md} {ops : Array Oper} {Q : Exit → Act → World → Prop} {w0 : World} {n : Nat} {rest : List Oper} {L : List (Nat × Value)} {A R : List Asn} {c : Code} {σ : Type} {φ : σ → Prop} {f : σ → List Asn}
theorem WL_ex (k : ∀ s, φ s → WL P m ops Q w0 n rest L (f s ++ R)) (hE : Ext A (exA φ f) R := by repeat (first | with_reducible exact Ext.here | with_reducible apply Ext.there)) : WL P m ops Q w0 n rest L A := fun a w hd hf hs hk =>
  let ⟨s, h1, h2⟩ := sat_exA.1 (sat_perm hE hs); k s h1 a w hd hf h2 hk
theorem WC_ex (k : ∀ s, φ s → WC P m Q w0 n c L (f s ++ R)) (hE : Ext A (exA φ f) R := by repeat (first | with_reducible exact Ext.here | with_reducible apply Ext.there)) : WC P m Q w0 n c L A := fun a w hd hf hs hk =>
  let ⟨s, h1, h2⟩ := sat_exA.1 (sat_perm hE hs); k s h1 a w hd hf h2 hk
theorem Yd_ex {l : Nat} {args : List Value} {pre : List Asn} {ρ : Type} {val : ρ → Value} {post : ρ → List Asn} (k : ∀ s, φ s → Yd P l args (f s ++ pre) val post) : Yd P l args (exA φ f :: pre) val post := fun F w h =>
  let ⟨s, h1, h2⟩ := sat_exA.1 h; k s h1 F w (by rw [List.append_assoc]; exact h2)
end
structure REnd (P : Program) (l : Nat) (rc : Loop) (w0 : World) (n : Nat) (F : List Asn) {ρ : Type} (val : ρ → Value) (post : ρ → List Asn) (Q : Exit → Act → World → Prop) : Prop where
  nrm : ∀ {L : List (Nat × Value)} {A B : List Asn} (q : ρ), val q = .bool true → Ext A (lp l (rcB rc)) B → (∀ w, sat w (lp l rc :: B) → sat w (post q ++ F)) → Ps ⟨some l, []⟩ (Q .normal) w0 n L A
  ret : ∀ {L : List (Nat × Value)} {A B : List Asn} (q : ρ), val q = .bool false → Ext A (lp l (rcB rc)) B → (∀ w, sat w (lp l (rcD rc .ret) :: B) → sat w (post q ++ F)) → Ps ⟨some l, []⟩ (Q .ret) w0 n L A
  exi : ∀ (k : Nat) {L : List (Nat × Value)} {A B : List Asn} (q : ρ), val q = .bool false → Ext A (lp l (rcB rc)) B → (∀ w, sat w (lp l (rcD rc (.exit k)) :: B) → sat w (post q ++ F)) → Ps ⟨some l, []⟩ (Q (.exit k)) w0 n L A
/-- the body comes -/
def RBeg (P : Program) (l : Nat) (rc : Loop) (bd : Code) (w0 : World) (n : Nat) (Q : Exit → Act → World → Prop) (K : Act → World → Prop) : Prop :=
  ∀ {L : List (Nat × Value)} {A B : List Asn}, Ext A (lp l rc) B → WC P ⟨some l, []⟩ Q w0 n bd L (lp l (rcB rc) :: B) → Ps ⟨some l, []⟩ K w0 n L A
theorem sat_loop {l : Nat} {r r' : Loop} {R : List Asn} {w : World} (h : sat w (lp l r :: R)) : sat (w.putObj l (.loop r')) (lp l r' :: R) ∧ Kept w (w.putObj l (.loop r')) := by
  have hb := sat_pt h
  have hlt := (Array.getElem?_eq_some_iff.1 hb).1
  refine ⟨sat_upd (by simp [World.putObj, hlt]) (fun c hc x hx => by simp [World.putObj, Ne.symm hc]; exact hx) h, ⟨rfl, rfl, rfl, by simp [World.putObj], by simp [World.putObj]⟩⟩
theorem fr_fold {n : Nat} : ∀ (ps : List Tmp) (vs : List Value) (tm : Array Value) (L : List (Nat × Value)), Fr n L { tmps := tm, defers := [] } → (ps.all fun p => Nat.blt p n) = true → ps.length = vs.length →
    Fr n ((ps.zip vs).reverse ++ L) { tmps := (ps.zip vs).foldl (fun tmps (t, a) => tmps.setIfInBounds t a) tm, defers := [] }
  | [], [], tm, L, h, _, _ => h
  | p :: ps, v :: vs, tm, L, h, hp, hl => by
    rw [List.all_cons, Bool.and_eq_true] at hp
    have h1 := h.put hp.1 v
    have h2 : Fr n ((p, v) :: L) { tmps := tm.setIfInBounds p v, defers := [] } := h1
    have := fr_fold ps vs _ _ h2 hp.2 (by simpa using hl)
    simpa using this
  | [], _ :: _, _, _, _, _, hl => by simp at hl
  | _ :: _, [], _, _, _, _, hl => by simp at hl
theorem Yd_of {P : Program} {l n : Nat} {rc : Loop} {L0 : List (Nat × Value)} {args : List Value} {pre : List Asn} {ρ : Type} {val : ρ → Value} {post : ρ → List Asn} {ps : Array Tmp} {as bd : Code} (hst : rc.state = .ready) (hpd : rc.pending = none) (hpa : rc.params = ps) (has : rc.assign = as) (hbd : rc.body = bd) (hfr : Fr n L0 { tmps := rc.tmps, defers := [] }) (hps : (ps.toList.all fun p => Nat.blt p n) = true) (hpl : ps.toList.length = args.length)
    (h : ∀ (F : List Asn) (w0 : World) (Q : Exit → Act → World → Prop) (K : Act → World → Prop), NoPanic Q → REnd P l rc w0 n F val post Q → RBeg P l rc bd w0 n Q K → WC P ⟨some l, []⟩ (Exit.then K (fun _ _ _ => False)) w0 n as ((ps.toList.zip args).reverse ++ L0) (lp l rc :: pre ++ F)) :
    Yd P l args (lp l rc :: pre) val post := by
  subst hpa has hbd
  intro F w hs
  have hrc : rcR rc = rc := by cases rc; simp only at hst hpd; subst hst hpd; rfl
  have hb := sat_pt hs
  have hsz : args.toArray.size = rc.params.size := by rw [List.size_toArray, ← hpl, Array.length_toList]
  refine ⟨rc.fn, (rc.params.zip args.toArray).foldl (fun tmps (t, a) => tmps.setIfInBounds t a) rc.tmps, rc.assign, rc.body, run_yield hb hsz, fun r => ?_⟩
  have hfold : (rc.params.zip args.toArray).foldl (fun tmps (t, a) => tmps.setIfInBounds t a) rc.tmps = (rc.params.toList.zip args).foldl (fun tmps (t, a) => tmps.setIfInBounds t a) rc.tmps := by
    rw [← Array.foldl_toList]; simp
  rw [hfold]
  let R : Ending → World → Prop := fun e w' => ∃ q, e = .returned (val q) ∧ sat w' (post q ++ F) ∧ Kept w w'
  show RoundIn (fz r) 0 P l rc.fn _ rc.assign rc.body w R
  refine roundIn_of_wpIn (fz_fn _ _) ?_
  have hq := h F w (roundPost P l R) (fun a₁ w₁ => ∃ w₂, (Instr.beginRound l).run P w₁ = .ok () w₂ ∧ rc.body.wpIn ((fz r).inRound l) 0 P (roundPost P l R) a₁ w₂) (fun d v c a w hq => hq) ?_ ?_
  · exact hq _ w rfl (fr_fold _ _ _ _ hfr hps hpl) hs (.refl _)
  · refine ⟨fun q hv hE hS a w' _ _ hs' hk => ?_, fun q hv hE hS a w' _ _ hs' hk => ?_, fun k L A B q hv hE hS a w' _ _ hs' hk => ?_⟩
    · have h1 := sat_perm hE hs'
      obtain ⟨h2, h3⟩ := sat_loop (r' := rcR rc) h1
      exact ⟨.bool true, w'.putObj l (.loop (rcR rc)), run_endRound (r := rcB rc) none (sat_pt h1), q, by rw [hv], hS _ (by rw [hrc] at h2 ⊢; exact h2), hk.trans h3⟩
    · have h1 := sat_perm hE hs'
      obtain ⟨h2, h3⟩ := sat_loop (r' := rcD rc .ret) h1
      exact ⟨.bool false, w'.putObj l (.loop (rcD rc .ret)), run_endRound (r := rcB rc) (some .ret) (sat_pt h1), q, by rw [hv], hS _ h2, hk.trans h3⟩
    · have h1 := sat_perm hE hs'
      obtain ⟨h2, h3⟩ := sat_loop (r' := rcD rc (.exit k)) h1
      exact ⟨.bool false, w'.putObj l (.loop (rcD rc (.exit k))), run_endRound (r := rcB rc) (some (.exit k)) (sat_pt h1), q, by rw [hv], hS _ h2, hk.trans h3⟩
  · intro L A B hE hW a w' hd hf hs' hk
    have h1 := sat_perm hE hs'
    obtain ⟨h2, h3⟩ := sat_loop (r' := rcB rc) h1
    exact ⟨w'.putObj l (.loop (rcB rc)), run_beginRound (sat_pt h1) hst, hW a _ hd hf h2 (hk.trans h3)⟩
/-- behind the statement: what is asked when the function ranged over has ended -/
def RfEnd (P : Program) (Q : Exit → Act → World → Prop) (w0 : World) (n : Nat) (m : Md) (l : Nat) (L : List (Nat × Value)) (A : List Asn) : Prop :=
  ∀ (a : Act) (w : World), a.defers = m.ds → Fr n L a → sat w A → Kept w0 w → ∃ jump w4, (Instr.endLoop l).run P w = .ok jump w4 ∧ (match jump with | none => Q .normal a w4 | some c => c.wpIn (fz m.r) 0 P Q a w4)
section
variable {P : Program} {m : Md} {l : Nat} {Q : Exit → Act → World → Prop} {w0 : World} {n : Nat} {L : List (Nat × Value)} {A B R : List Asn} {σ : Type} {φ : σ → Prop} {f : σ → List Asn}
theorem RfEnd_ex (k : ∀ s, φ s → RfEnd P Q w0 n m l L (f s ++ R)) (hE : Ext A (exA φ f) R := by repeat (first | with_reducible exact Ext.here | with_reducible apply Ext.there)) : RfEnd P Q w0 n m l L A := fun a w hd hf hs hk =>
  let ⟨s, h1, h2⟩ := sat_exA.1 (sat_perm hE hs); k s h1 a w hd hf h2 hk
theorem RfEnd_nrm {rc : Loop} (hst : rc.state = .ready) (hpd : rc.pending = none) (k : Ps m (Q .normal) w0 n L B) (hE : Ext A (lp l rc) B := by repeat (first | with_reducible exact Ext.here | with_reducible apply Ext.there)) : RfEnd P Q w0 n m l L A := fun a w hd hf hs hk => by
  have h1 := sat_perm hE hs
  obtain ⟨h2, h3⟩ := sat_loop (r' := { rc with state := .exhausted }) h1
  refine ⟨none, _, by rw [← hpd]; exact run_endLoop (sat_pt h1) (by rw [hst]; exact fun h => by cases h), ?_⟩
  exact k _ _ hd hf (sat_drop h2) (hk.trans h3)
theorem RfEnd_jmp {rc : Loop} {c : Code} (k : WC P m Q w0 n c L B) (hE : Ext A (lp l (rcD rc c)) B := by repeat (first | with_reducible exact Ext.here | with_reducible apply Ext.there)) : RfEnd P Q w0 n m l L A := fun a w hd hf hs hk => by
  have h1 := sat_perm hE hs
  obtain ⟨h2, h3⟩ := sat_loop (r' := { rcD rc c with state := .exhausted }) h1
  refine ⟨some c, _, run_endLoop (sat_pt h1) (fun h => by cases h), ?_⟩
  exact k _ _ hd hf (sat_drop h2) (hk.trans h3)
end
/-! ### the statement, where no other such loop is around; within a round of another such loop -/
theorem WC_rf {P : Program} {Q : Exit → Act → World → Prop} {w0 : World} {n : Nat} {L : List (Nat × Value)} {A : List Asn} {ds : List Deferred} {g : Operand} {ps : Array Tmp} {as bd : Code} {f : FuncId} {caps : List Value} (hg : ev L g = some (.func (.func f) #[] caps.toArray)) (hc : cfn P f = true)
    (h : ∀ (l D : Nat) (rc : Loop), rc.state = .ready → rc.pending = none → rc.params = ps → rc.assign = as → rc.body = bd → Fr n L { tmps := rc.tmps, defers := [] } → ∃ (ρ : Type) (pre F : List Asn) (val : ρ → Value) (post : ρ → List Asn), Ct P f (yv l :: caps) pre val post ∧
      (∀ w, sat w (lp l rc :: dfr D :: A) → sat w (pre ++ F)) ∧ ∀ r : ρ, RfEnd P Q w0 n ⟨none, dmk D :: ds⟩ l L (post r ++ F)) :
    WC P ⟨none, ds⟩ Q w0 n (.rangeFunc g ps as bd) L A := by
  intro a w hd hf hs hk
  refine wpIn_rangeFunc fun fn _ => ?_
  obtain ⟨tm, dfs⟩ := a
  have hd' : dfs = ds := hd
  subst hd'
  obtain ⟨ρ, pre, F, val, post, hct, hgv, hpost⟩ := h (w.heap.size + 1) w.heap.size { state := .ready, pending := none, fn := fn, tmps := tm, params := ps, assign := as, body := bd, defers := w.heap.size } rfl rfl rfl rfl rfl hf
  have s1 := sat_new (w := w) (w' := w.alloc (.deferred (some []))) (o := .deferred (some [])) rfl hs
  have s2 := sat_new (w := w.alloc (.deferred (some []))) (w' := (w.alloc (.deferred (some []))).alloc (.loop { state := .ready, pending := none, fn := fn, tmps := tm, params := ps, assign := as, body := bd, defers := w.heap.size })) (o := .loop { state := .ready, pending := none, fn := fn, tmps := tm, params := ps, assign := as, body := bd, defers := w.heap.size }) rfl s1
  have hsz : (w.alloc (.deferred (some []))).heap.size = w.heap.size + 1 := by simp
  rw [hsz] at s2
  have s3 := hgv _ s2
  have hev : (Act.mk tm dfs).eval g = .func (.func f) #[] caps.toArray := Fr.eval (a := ⟨tm, dfs⟩) hf hg
  refine ⟨w.heap.size + 1, [dmk w.heap.size], (w.alloc (.deferred (some []))).alloc (.loop { state := .ready, pending := none, fn := fn, tmps := tm, params := ps, assign := as, body := bd, defers := w.heap.size }), { target := .fn (.func f) caps.toArray, args := #[yv (w.heap.size + 1)] }, (w.alloc (.deferred (some []))).alloc (.loop { state := .ready, pending := none, fn := fn, tmps := tm, params := ps, assign := as, body := bd, defers := w.heap.size }), f, (yv (w.heap.size + 1) :: caps).toArray, (w.alloc (.deferred (some []))).alloc (.loop { state := .ready, pending := none, fn := fn, tmps := tm, params := ps, assign := as, body := bd, defers := w.heap.size }), run_enterLoop_outer fn tm ps as bd, ?_, fun _ _ => fz_fn _ _, ?_, fz_depth, fz_calls ((hct.out F _ s3).mono ?_)⟩
  · simp [rangeCall, resolve, hev, Deferred.ofValue, yv]
    rfl
  · simp [invoke, run_callFunc hc]
  · rintro e w' ⟨r, rfl, hs', hk'⟩
    have hk0 : Kept w ((w.alloc (.deferred (some []))).alloc (.loop { state := .ready, pending := none, fn := fn, tmps := tm, params := ps, assign := as, body := bd, defers := w.heap.size })) := ⟨rfl, rfl, rfl, by simp; omega, Nat.le_refl _⟩
    exact hpost r ⟨tm, dmk w.heap.size :: dfs⟩ w' rfl hf hs' (hk.trans (hk0.trans hk'))
theorem WC_rfi {P : Program} {Q : Exit → Act → World → Prop} {w0 : World} {n : Nat} {L : List (Nat × Value)} {A : List Asn} {ds : List Deferred} {l0 : Nat} {r0 : Loop} {g : Operand} {ps : Array Tmp} {as bd : Code} {f : FuncId} {caps : List Value} (hg : ev L g = some (.func (.func f) #[] caps.toArray)) (hc : cfn P f = true)
    (h : ∀ (l : Nat) (rc : Loop), rc.state = .ready → rc.pending = none → rc.params = ps → rc.assign = as → rc.body = bd → Fr n L { tmps := rc.tmps, defers := [] } → ∃ (ρ : Type) (pre F : List Asn) (val : ρ → Value) (post : ρ → List Asn), Ct P f (yv l :: caps) pre val post ∧
      (∀ w, sat w (lp l rc :: A) → sat w (pre ++ F)) ∧ ∀ r : ρ, RfEnd P Q w0 n ⟨some l0, ds⟩ l L (post r ++ F)) (hl : Has A (lp l0 r0) := by repeat (first | with_reducible exact Has.here | with_reducible refine Has.there ?_)) :
    WC P ⟨some l0, ds⟩ Q w0 n (.rangeFunc g ps as bd) L A := by
  intro a w hd hf hs hk
  refine wpIn_rangeFunc fun fn _ => ?_
  obtain ⟨tm, dfs⟩ := a
  have hd' : dfs = ds := hd
  subst hd'
  obtain ⟨ρ, pre, F, val, post, hct, hgv, hpost⟩ := h w.heap.size { state := .ready, pending := none, fn := fn, tmps := tm, params := ps, assign := as, body := bd, defers := r0.defers } rfl rfl rfl rfl rfl hf
  have s2 := sat_new (w := w) (w' := w.alloc (.loop { state := .ready, pending := none, fn := fn, tmps := tm, params := ps, assign := as, body := bd, defers := r0.defers })) (o := .loop { state := .ready, pending := none, fn := fn, tmps := tm, params := ps, assign := as, body := bd, defers := r0.defers }) rfl hs
  have s3 := hgv _ s2
  have hev : (Act.mk tm dfs).eval g = .func (.func f) #[] caps.toArray := Fr.eval (a := ⟨tm, dfs⟩) hf hg
  refine ⟨w.heap.size, [], w.alloc (.loop { state := .ready, pending := none, fn := fn, tmps := tm, params := ps, assign := as, body := bd, defers := r0.defers }), { target := .fn (.func f) caps.toArray, args := #[yv w.heap.size] }, w.alloc (.loop { state := .ready, pending := none, fn := fn, tmps := tm, params := ps, assign := as, body := bd, defers := r0.defers }), f, (yv w.heap.size :: caps).toArray, w.alloc (.loop { state := .ready, pending := none, fn := fn, tmps := tm, params := ps, assign := as, body := bd, defers := r0.defers }), run_enterLoop_inner (hl.sat hs) fn tm ps as bd, ?_, fun _ _ => fz_fn _ _, ?_, fz_depth, fz_calls ((hct.out F _ s3).mono ?_)⟩
  · simp [rangeCall, resolve, hev, Deferred.ofValue, yv]
    rfl
  · simp [invoke, run_callFunc hc]
  · rintro e w' ⟨r, rfl, hs', hk'⟩
    have hk0 : Kept w (w.alloc (.loop { state := .ready, pending := none, fn := fn, tmps := tm, params := ps, assign := as, body := bd, defers := r0.defers })) := ⟨rfl, rfl, rfl, by simp, Nat.le_refl _⟩
    exact hpost r ⟨tm, dfs⟩ w' rfl hf hs' (hk.trans (hk0.trans hk'))
/-- what is owned, said as an iterator's contract asks for it -/
theorem imp_rf {σ : Type} {φ : σ → Prop} {f : σ → List Asn} {A Y R1 R : List Asn} (s : σ) (hφ : φ s) (h1 : Gv A Y R1) (h2 : Gv R1 (f s) R) : ∀ w, sat w A → sat w ((Y ++ [exA φ f]) ++ R) := fun w h => by
  rw [List.append_assoc]
  have a1 := sat_perm (h1.trans (List.Perm.append_left Y h2)) h
  refine sat_perm (List.perm_middle).symm (sat_exA.2 ⟨s, hφ, ?_⟩)
  refine sat_perm ?_ a1
  rw [← List.append_assoc, ← List.append_assoc]
  exact List.Perm.append_right R List.perm_append_comm
theorem drun_pop {P : Program} {D : Nat} {ds : List Deferred} {A B : List Asn} {K : List Asn → Prop} (hE : Ext A (dfr D) B) (h : DRun P ds B K) : DRun P (dmk D :: ds) A K := .inl ⟨D, B, rfl, hE, h⟩
section
variable {P : Program} {n : Nat} {w0 : World} {L : List (Nat × Value)} {A B C : List Asn} {fn : Func} {F : List Asn} {ρ : Type} {val : ρ → Value} {post : ρ → List Asn} {Q : Act → World → Prop} {D D' : Nat}
theorem End.goDE (h : End P fn n w0 F val post Q) (r : ρ) {v : Value} (hr : Rs P fn n L B v) (he : v = val r) (hE : Ext A (dfr D) B := by repeat (first | with_reducible exact Ext.here | with_reducible apply Ext.there)) (hS : Sub B (post r ++ F) := by simp only [List.cons_append, List.nil_append]; repeat (first | with_reducible exact Sub.refl | with_reducible exact Sub.nil | with_reducible refine Sub.cons (by repeat (first | with_reducible exact Ext.here | with_reducible apply Ext.there)) ?_ | with_reducible refine Sub.tail ?_)) : Ps ⟨none, [dmk D]⟩ Q w0 n L A :=
  h _ _ _ rfl (drun_pop hE ⟨r, he ▸ hr, hS⟩)
theorem End.goD (h : End P fn n w0 F val post Q) (r : ρ) (hr : Rs P fn n L B (val r)) (hE : Ext A (dfr D) B := by repeat (first | with_reducible exact Ext.here | with_reducible apply Ext.there)) (hS : Sub B (post r ++ F) := by simp only [List.cons_append, List.nil_append]; repeat (first | with_reducible exact Sub.refl | with_reducible exact Sub.nil | with_reducible refine Sub.cons (by repeat (first | with_reducible exact Ext.here | with_reducible apply Ext.there)) ?_ | with_reducible refine Sub.tail ?_)) : Ps ⟨none, [dmk D]⟩ Q w0 n L A :=
  h _ _ _ rfl (drun_pop hE ⟨r, hr, hS⟩)
theorem End.goDDE (h : End P fn n w0 F val post Q) (r : ρ) {v : Value} (hr : Rs P fn n L C v) (he : v = val r) (hE : Ext A (dfr D) B := by repeat (first | with_reducible exact Ext.here | with_reducible apply Ext.there)) (hE' : Ext B (dfr D') C := by repeat (first | with_reducible exact Ext.here | with_reducible apply Ext.there)) (hS : Sub C (post r ++ F) := by simp only [List.cons_append, List.nil_append]; repeat (first | with_reducible exact Sub.refl | with_reducible exact Sub.nil | with_reducible refine Sub.cons (by repeat (first | with_reducible exact Ext.here | with_reducible apply Ext.there)) ?_ | with_reducible refine Sub.tail ?_)) : Ps ⟨none, [dmk D, dmk D']⟩ Q w0 n L A :=
  h _ _ _ rfl (drun_pop hE (drun_pop hE' ⟨r, he ▸ hr, hS⟩))
theorem End.goDD (h : End P fn n w0 F val post Q) (r : ρ) (hr : Rs P fn n L C (val r)) (hE : Ext A (dfr D) B := by repeat (first | with_reducible exact Ext.here | with_reducible apply Ext.there)) (hE' : Ext B (dfr D') C := by repeat (first | with_reducible exact Ext.here | with_reducible apply Ext.there)) (hS : Sub C (post r ++ F) := by simp only [List.cons_append, List.nil_append]; repeat (first | with_reducible exact Sub.refl | with_reducible exact Sub.nil | with_reducible refine Sub.cons (by repeat (first | with_reducible exact Ext.here | with_reducible apply Ext.there)) ?_ | with_reducible refine Sub.tail ?_)) : Ps ⟨none, [dmk D, dmk D']⟩ Q w0 n L A :=
  h _ _ _ rfl (drun_pop hE (drun_pop hE' ⟨r, hr, hS⟩))
end
end Go.SL
/-
  Loops whose rounds leave marks on the deferred calls (a range over a function within a plain loop). (Conditions: none; generic over the program.)
-/
namespace Go.SL
open Go.RowKit
theorem WC_loopD {P : Program} {Q : Exit → Act → World → Prop} {w0 : World} {n : Nat} {L : List (Nat × Value)} {A : List Asn} {r : Option Nat} {ds0 : List Deferred} {c : Code} {σ : Type} (Li : σ → List (Nat × Value)) (Ai : σ → List Asn) (φ : σ → Prop) (μ : σ → Nat) (ds : σ → List Deferred) (s0 : σ) (hds : ds0 = ds s0) (h0 : φ s0) (hl : Wk L (Li s0)) (ha : Sub A (Ai s0))
    (round : ∀ s, φ s → ∀ K : Act → World → Prop, (∀ s', φ s' → μ s' < μ s → Ps ⟨r, ds s'⟩ K w0 n (Li s') (Ai s')) → WC P ⟨r, ds s⟩ (Exit.then K Q) w0 n c (Li s) (Ai s)) : WC P ⟨r, ds0⟩ Q w0 n (.loop c) L A := by
  subst hds
  intro a w hd0 hf hs hk
  suffices H : ∀ k s, μ s < k → φ s → ∀ a w, a.defers = ds s → Fr n (Li s) a → sat w (Ai s) → Kept w0 w → Code.roundsIn (fz r) 0 P c Q k a w from
    wpIn_loop_rounds (μ s0 + 1) (H _ s0 (Nat.lt_succ_self _) h0 a w hd0 (hf.wk hl) (ha.sat hs) hk)
  intro k
  induction k with
  | zero => intro s hm; omega
  | succ k ih =>
    intro s hm hφ a w hd0 hf hs hk
    rw [roundsIn_succ]
    exact round s hφ _ (fun s' hφ' hlt a' w' hd' hf' hs' hk' => ih s' (by omega) hφ' a' w' hd' hf' hs' hk') a w hd0 hf hs hk
/-- the marks of many such rounds, run off -/
theorem drun_all {P : Program} {K : List Asn → Prop} : ∀ (Ds : List Nat) (A B : List Asn), A.Perm (Ds.map dfr ++ B) → (∀ A, A.Perm B → K A) → DRun P (Ds.map dmk) A K
  | [], A, B, h, hK => hK A h
  | D :: Ds, A, B, h, hK => .inl ⟨D, Ds.map dfr ++ B, rfl, h, drun_all Ds _ B (.refl _) hK⟩
/-- .. that keeps what it does not name -/
theorem WC_loopKD {P : Program} {Q : Exit → Act → World → Prop} {w0 : World} {n : Nat} {L D : List (Nat × Value)} {A R B0 : List Asn} {r : Option Nat} {ds0 : List Deferred} {c : Code} {σ : Type} (M : σ → List (Nat × Value)) (B : σ → List Asn) (φ : σ → Prop) (μ : σ → Nat) (ds : σ → List Deferred) (s0 : σ) (ks : List Nat) (hD : Kep ks L D) (hR : Gv A B0 R) (h0 : φ s0) (hds : ds0 = ds s0) (hl : Wk L (M s0)) (hb : Sub (B0 ++ R) (B s0 ++ R))
    (round : ∀ s, φ s → ∀ K : Act → World → Prop, (∀ s', φ s' → μ s' < μ s → Ps ⟨r, ds s'⟩ K w0 n (M s' ++ D) (B s' ++ R)) → WC P ⟨r, ds s⟩ (Exit.then K Q) w0 n c (M s ++ D) (B s ++ R)) : WC P ⟨r, ds0⟩ Q w0 n (.loop c) L A :=
  WC_loopD (fun s => M s ++ D) (fun s => B s ++ R) φ μ ds s0 hds h0 (hl.app hD.wk) (by obtain ⟨X, p⟩ := hb; exact ⟨X, List.Perm.trans hR p⟩) round
section
variable {P : Program} {n : Nat} {w0 : World} {L : List (Nat × Value)} {A B : List Asn} {fn : Func} {F : List Asn} {ρ : Type} {val : ρ → Value} {post : ρ → List Asn} {Q : Act → World → Prop} {Ds : List Nat}
/-- the marks' blocks, as one thing -/
def dfrs (Ds : List Nat) : Asn := sep (Ds.map dfr)
theorem dfrs_nil {w : World} (h : sat w A) : sat w (dfrs [] :: A) := sat_app.2 h
theorem dfrs_cons {w : World} {D : Nat} : sat w (dfrs (D :: Ds) :: A) ↔ sat w (dfr D :: dfrs Ds :: A) := by
  unfold dfrs
  exact star_cons (F := dfr)
theorem WC_dfrs0 {m : Md} {Q : Exit → Act → World → Prop} {c : Code} (k : WC P m Q w0 n c L (dfrs [] :: A)) : WC P m Q w0 n c L A := WC_imp (fun _ h => dfrs_nil h) k
theorem Ps_dfrs {m : Md} {K : Act → World → Prop} {R R2 : List Asn} {D : Nat} (k : Ps m K w0 n L (dfrs (D :: Ds) :: R2)) (hE : Ext A (dfr D) R := by repeat (first | with_reducible exact Ext.here | with_reducible apply Ext.there)) (hE2 : Ext R (dfrs Ds) R2 := by repeat (first | with_reducible exact Ext.here | with_reducible apply Ext.there)) : Ps m K w0 n L A :=
  Ps_imp (fun _ h => dfrs_cons.2 (sat_perm (List.Perm.trans hE (List.Perm.cons _ hE2)) h)) k
theorem End.goSE (h : End P fn n w0 F val post Q) (r : ρ) {v : Value} (hr : Rs P fn n L B v) (he : v = val r) (hE : Ext A (dfrs Ds) B := by repeat (first | with_reducible exact Ext.here | with_reducible apply Ext.there)) (hS : Sub B (post r ++ F) := by simp only [List.cons_append, List.nil_append]; repeat (first | with_reducible exact Sub.refl | with_reducible exact Sub.nil | with_reducible refine Sub.cons (by repeat (first | with_reducible exact Ext.here | with_reducible apply Ext.there)) ?_ | with_reducible refine Sub.tail ?_)) : Ps ⟨none, Ds.map dmk⟩ Q w0 n L A :=
  Ps_imp (A' := Ds.map dfr ++ B) (fun _ hs => (sat_app (A := Ds.map dfr)).1 (sat_perm hE hs)) (h _ _ _ rfl (drun_all Ds _ B (.refl _) fun _ hA => ⟨r, he ▸ fun a w hf hs => hr a w hf (sat_perm hA hs), by obtain ⟨R, p⟩ := hS; exact ⟨R, List.Perm.trans hA p⟩⟩))
end
end Go.SL
/-
  Naturals in int slots: exclusive or; the encoding of a list of naturals. (Conditions: none; generic over the program.)
-/
namespace Go.SL
open Go.RowKit
def eN (x : Nat) : List Value := [.int .i64 (x : Int)]
theorem encN : Enc eN 1 := ⟨fun _ => rfl, fun x v hv => by simp [eN] at hv; subst hv; rfl⟩
section
variable {P : Program} {n : Nat} {L : List (Nat × Value)} {A : List Asn} {d : Option Tmp} {ty : TypeId} {pos' : String} {af : Array Edge} {g : Option (Nat × Bool)} {t t' : TypeId} {x y : Operand}
theorem Rd_xorN {i j : Nat} (hi : i < 2 ^ 62) (hj : j < 2 ^ 62) (hx : ev L x = some (.int .i64 (i : Int))) (hy : ev L y = some (.int .i64 (j : Int))) : Rd P n ⟨d, .binOp .xor t x y t', ty, pos', af, g⟩ L A (.int .i64 ((i ^^^ j : Nat) : Int)) :=
  Rd_int hx hy fun W => by
    have h1 : i ^^^ j < 2 ^ 62 := Nat.xor_lt_two_pow hi hj
    have e : (BitVec.ofInt 64 (i : Int) ^^^ BitVec.ofInt 64 (j : Int)).toNat = i ^^^ j := by
      rw [BitVec.ofInt_natCast, BitVec.ofInt_natCast, BitVec.toNat_xor, BitVec.toNat_ofNat, BitVec.toNat_ofNat, Nat.mod_eq_of_lt (by omega), Nat.mod_eq_of_lt (by omega)]
    have e2 : IntKind.i64.wrap (((BitVec.ofInt IntKind.i64.bits (i : Int) ^^^ BitVec.ofInt IntKind.i64.bits (j : Int)).toNat : Nat) : Int) = ((i ^^^ j : Nat) : Int) := by
      have : (BitVec.ofInt IntKind.i64.bits (i : Int) ^^^ BitVec.ofInt IntKind.i64.bits (j : Int)).toNat = i ^^^ j := e
      rw [this]
      exact wr64 rfl (by omega) (by omega)
    simp only [binOp, if_true, ne_eq, not_true_eq_false, if_false, Op.intBits, e2, Sem.run_pure]
end
theorem xor1 (x : Nat) : x ^^^ 1 = if x % 2 = 0 then x + 1 else x - 1 := by
  have h1 := Nat.xor_div_two (a := x) (b := 1)
  have h2 := Nat.xor_mod_two_eq_one (a := x) (b := 1)
  have e : x / 2 ^^^ 1 / 2 = x / 2 := by simp
  rw [e] at h1
  by_cases hx : x % 2 = 0
  · rw [if_pos hx]
    have : (x ^^^ 1) % 2 = 1 := by rw [h2]; omega
    omega
  · rw [if_neg hx]
    have : ¬ (x ^^^ 1) % 2 = 1 := by rw [h2]; omega
    omega
end Go.SL
/-
  An iterator lends what it reads to the loop's rounds. (Conditions: none; generic over the program.)
-/
namespace Go.SL
open Go.RowKit
theorem exA_lend3 {σ : Type} {φ : σ → Prop} {f : σ → List Asn} {l a b c : Asn} {R : List Asn} {w : World} : sat w (exA φ (fun s => l :: a :: b :: c :: f s) :: R) ↔ sat w (a :: b :: c :: exA φ (fun s => l :: f s) :: R) := by
  have e1 : ∀ X : Asn, List.Perm (a :: b :: c :: X :: R) (X :: a :: b :: c :: R) := fun X => by
    have : a :: b :: c :: X :: R = [a, b, c] ++ X :: R := rfl
    rw [this]
    exact List.perm_middle
  have e2 : ∀ s, List.Perm ((l :: a :: b :: c :: f s) ++ R) ((l :: f s) ++ (a :: b :: c :: R)) := fun s => by
    simp only [List.cons_append]
    refine List.Perm.cons _ ?_
    have : a :: b :: c :: (f s ++ R) = [a, b, c] ++ (f s ++ R) := rfl
    rw [this]
    refine (List.perm_append_comm_assoc _ _ _).trans ?_
    exact List.Perm.refl _
  constructor
  · intro h
    obtain ⟨s, h1, h2⟩ := sat_exA.1 h
    exact sat_perm (e1 _).symm (sat_exA.2 ⟨s, h1, sat_perm (e2 s) h2⟩)
  · intro h
    obtain ⟨s, h1, h2⟩ := sat_exA.1 (sat_perm (e1 _) h)
    exact sat_exA.2 ⟨s, h1, sat_perm (e2 s).symm h2⟩
theorem sat_at {A R : List Asn} {X Y : Asn} (f : ∀ h, X h → Y h) (hE : Ext A X R) {w : World} (h : sat w A) : sat w (Y :: R) := sat_imp f (sat_perm hE h)
section
variable {P : Program} {m : Md} {ops : Array Oper} {Q : Exit → Act → World → Prop} {w0 : World} {n : Nat} {L : List (Nat × Value)} {A R1 R2 R3 R : List Asn} {X Y a b c : Asn}
theorem sat_lend (hX : ∀ R w, sat w (a :: b :: c :: Y :: R) → sat w (X :: R)) (hE1 : Ext A a R1) (hE2 : Ext R1 b R2) (hE3 : Ext R2 c R3) (hE : Ext R3 Y R) {w : World} (h : sat w A) : sat w (X :: R) :=
  hX _ _ (sat_perm (List.Perm.trans hE1 (List.Perm.cons _ (List.Perm.trans hE2 (List.Perm.cons _ (List.Perm.trans hE3 (List.Perm.cons _ hE)))))) h)
end
end Go.SL
/-
  Lists of numbers handed out, written over, longer ones made of them: in plain words, and what is owned. (Conditions: none; no program in sight.)
-/
set_option maxRecDepth 20000
namespace Go.ShM
open Go.SL Go.RowKit
theorem encZ : Enc (eInt .i64) 1 := ⟨fun _ => rfl, fun x v hv => by simp [eInt] at hv; subst hv; rfl⟩
theorem at_Z {l : List Int} {i : Nat} (h : i < l.length) : l[i]? = some (l.getD i 0) := by rw [List.getD_eq_getElem?_getD, List.getElem?_eq_getElem h]; rfl
/-- the mark of place i of list k -/
def mI (k i : Nat) : Int := ((1000003 * (k + 1) + i : Nat) : Int)
/-- a list with marks behind it -/
def lentI (l : List Int) : List Int := l ++ mks (mI 0) l.length 70
theorem lentI_len (l : List Int) : (lentI l).length = l.length + 70 := by simp [lentI, mks_len]
theorem lentI_take (l : List Int) : (lentI l).take l.length = l := by simp [lentI]
def overI (n : Nat) : List Int := mks (fun i => mI 7 (i + 3)) 0 n
theorem overI_len (n : Nat) : (overI n).length = n := mks_len _ _ _
/-- a list: where it lies, how much room, what it holds -/
structure PI where
  a : Option Nat
  cap : Nat
  l : List Int
/-- a list of n marks, and the longer one made of it -/
structure QI where
  a : Option Nat
  cap : Nat
  a' : Option Nat
  cap' : Nat
  n : Nat
  j : Nat
def ePI (p : PI) : List Value := [sl p.a p.l.length p.cap]
def eQI (q : QI) : List Value := [sl q.a' (q.n + 70) q.cap']
theorem encPI : Enc ePI 1 := ⟨fun _ => rfl, fun x v hv => by simp [ePI, sl] at hv; subst hv; rfl⟩
theorem encQI : Enc eQI 1 := ⟨fun _ => rfl, fun x v hv => by simp [eQI, sl] at hv; subst hv; rfl⟩
def FP (T : TypeId) (p : PI) : Asn := arr p.a p.cap 1 T (eInt .i64) p.l
def FQ (T : TypeId) (q : QI) : Asn := apk q.a q.cap q.a' q.cap' 1 T (eInt .i64) (mks (mI (q.j + 1)) 0 q.n) (mks (mI (q.j + 1)) 0 (q.n + 70))
/-- a list's marks laid -/
def mkP (k : Nat) (p : PI) : PI := ⟨p.a, p.cap, mks (mI (k + 1)) 0 p.l.length⟩
theorem mkP_len (k : Nat) (p : PI) : (mkP k p).l.length = p.l.length := mks_len _ _ _
/-- those of the first k lists -/
def mkd (ps : List PI) (k : Nat) : List PI := ps.mapIdx fun j p => if j < k then mkP j p else p
theorem mkd_0 (ps : List PI) : mkd ps 0 = ps := by
  unfold mkd
  apply List.ext_getElem?
  intro i
  rw [List.getElem?_mapIdx]
  cases ps[i]? <;> simp
theorem mkd_at {ps : List PI} {k j : Nat} {p : PI} (h : ps[j]? = some p) : (mkd ps k)[j]? = some (if j < k then mkP j p else p) := by
  unfold mkd; rw [List.getElem?_mapIdx, h]; rfl
theorem mkd_len (ps : List PI) (k : Nat) : (mkd ps k).length = ps.length := by simp [mkd]
theorem mkd_set {ps : List PI} {k : Nat} {p : PI} (h : ps[k]? = some p) : (mkd ps k).set k (mkP k p) = mkd ps (k + 1) := by
  have hk := (List.getElem?_eq_some_iff.1 h).1
  apply List.ext_getElem?
  intro i
  rw [List.getElem?_set, mkd_len]
  by_cases hi : k = i
  · subst hi
    rw [if_pos rfl, if_pos hk, mkd_at h, if_pos (by omega)]
  · rw [if_neg hi]
    unfold mkd
    rw [List.getElem?_mapIdx, List.getElem?_mapIdx]
    cases ps[i]? with
    | none => rfl
    | some x =>
      simp only [Option.map_some]
      by_cases h2 : i < k
      · rw [if_pos h2, if_pos (by omega)]
      · rw [if_neg h2, if_neg (by omega)]
theorem mkd_all {ps : List PI} {j : Nat} {p : PI} (h : ps[j]? = some p) : (mkd ps ps.length)[j]? = some (mkP j p) := by
  rw [mkd_at h, if_pos (List.getElem?_eq_some_iff.1 h).1]
/-- what is known of the longer ones made so far -/
def QOk (ps : List PI) (qs : List QI) : Prop := ∀ (j : Nat) (q : QI), qs[j]? = some q → q.j = j ∧ q.a' ≠ none ∧ q.n + 70 ≤ q.cap' ∧ (q.a = none → q.n = 0) ∧ q.n ≤ q.cap ∧ ∃ p, ps[j]? = some p ∧ q.a = p.a ∧ q.cap = p.cap ∧ q.n = p.l.length
theorem QOk_nil {ps : List PI} : QOk ps [] := fun j q h => by simp at h
theorem QOk_snoc {ps : List PI} {qs : List QI} {q : QI} {p : PI} (h : QOk ps qs) (hp : ps[qs.length]? = some p) (hj : q.j = qs.length) (h1 : q.a' ≠ none) (h2 : q.n + 70 ≤ q.cap') (h3 : q.a = none → q.n = 0) (h4 : q.n ≤ q.cap) (h5 : q.a = p.a) (h6 : q.cap = p.cap) (h7 : q.n = p.l.length) : QOk ps (qs ++ [q]) := by
  intro j x hx
  rw [List.getElem?_append] at hx
  split at hx
  · exact h j x hx
  · rename_i hlt
    have : j - qs.length = 0 := by
      have := (List.getElem?_eq_some_iff.1 hx).1
      simp at this; omega
    rw [this] at hx
    simp at hx
    subst hx
    have e : j = qs.length := by omega
    subst e
    exact ⟨hj, h1, h2, h3, h4, p, hp, h5, h6, h7⟩
theorem mks_pre {α : Type} (g : Nat → α) (n m : Nat) : mks g 0 n <+: mks g 0 (n + m) := ⟨mks g n m, mks_app g n m⟩
theorem mks_one {α : Type} (g : Nat → α) (n : Nat) : mks g 0 n ++ [g n] = mks g 0 (n + 1) := by
  have := mks_succ g 0 n
  rwa [Nat.zero_add] at this
section
variable {P : Program} {Q : Exit → Act → World → Prop} {m : Md} {w0 : World} {n : Nat} {c : Code} {L : List (Nat × Value)} {A R : List Asn} {α : Type}
theorem WC_drop (F : α → Asn) (l : List α) (k : Nat) {x : α} (hx : l[k]? = some x) (K : WC P m Q w0 n c L (F x :: star F (l.drop (k + 1)) :: R)) (hE : Ext A (star F (l.drop k)) R := by repeat (first | with_reducible exact Ext.here | with_reducible apply Ext.there)) : WC P m Q w0 n c L A :=
  WC_imp (fun w h => by
    have h1 := sat_perm hE h
    obtain ⟨hlt, e⟩ := List.getElem?_eq_some_iff.1 hx
    rw [List.drop_eq_getElem_cons hlt, e] at h1
    exact star_cons.1 h1) K
end
theorem WJ_factZ {P : Program} {m : Md} {ops : Array Oper} {Q : Exit → Act → World → Prop} {w0 : World} {n : Nat} {S : List Asn} {J : Nat → Nat} {fuel : Nat} {is : List Nat} {L : List (Nat × Value)} {A : List Asn} {p : Prop} (h : ∀ w, sat w A → p) (k : p → WJ P m ops Q w0 n S J fuel is L A) : WJ P m ops Q w0 n S J fuel is L A := fun a w hd hf hs hk => k (h w hs) a w hd hf hs hk
theorem sat_star3 {α : Type} {F : α → Asn} {x y z : α} {A R1 R2 R : List Asn} {w : World} (hE1 : Ext A (F x) R1) (hE2 : Ext R1 (F y) R2) (hE3 : Ext R2 (F z) R) (h : sat w A) : sat w (star F [x, y, z] :: R) := by
  have h1 : sat w (F x :: F y :: F z :: R) := sat_perm (List.Perm.trans hE1 (List.Perm.cons _ (List.Perm.trans hE2 (List.Perm.cons _ hE3)))) h
  have e : ∀ B : List Asn, sat w (F z :: B) → sat w (star F [z] :: B) := fun B h => star_cons.2 (sat_perm (.swap _ _ _) (star_nil h))
  have h2 : sat w (star F [z] :: F x :: F y :: R) := e _ (sat_perm ((List.Perm.cons _ (.swap _ _ _)).trans (.swap _ _ _)) h1)
  have h3 : sat w (star F [y, z] :: F x :: R) := star_cons.2 (sat_perm ((List.Perm.cons _ (.swap _ _ _)).trans ((List.Perm.swap _ _ _).trans (List.Perm.cons _ (.refl _)))) h2)
  exact star_cons.2 (sat_perm (.swap _ _ _) h3)
theorem Sv_pre {α : Type} {a : Option Nat} {cap e : Nat} {T : TypeId} {f : α → List Value} {l l' : List α} (hE1 : Enc f e) (hp : l <+: l') (hn : a = none → l' = []) (hc : l'.length ≤ cap) : Sv [arr a cap e T f l'] (sl a l.length cap) e f l (a.map fun g => ⟨g, 0, none⟩) cap :=
  (Sv_own' (a := a) (cap := cap) (T := T) hE1 (fun h => by have := hn h; subst this; exact List.prefix_nil.1 hp) (Nat.le_trans hp.length_le hc)).imp fun _ h => sat_imp (arr_pre hp) h
theorem Sv_FQn {T : TypeId} {q : QI} (h1 : q.a' ≠ none) (h2 : q.n + 70 ≤ q.cap') : Sv [FQ T q] (sl q.a' (q.n + 70) q.cap') 1 (eInt .i64) (mks (mI (q.j + 1)) 0 (q.n + 70)) (q.a'.map fun g => ⟨g, 0, none⟩) q.cap' := by
  have h := Sv_apkN (a := q.a) (cap := q.cap) (a' := q.a') (cap' := q.cap') (T := T) (l := mks (mI (q.j + 1)) 0 q.n) (l' := mks (mI (q.j + 1)) 0 (q.n + 70)) encZ (fun e => absurd e h1) (by rw [mks_len]; exact h2)
  rw [mks_len] at h
  exact h
theorem Sv_FQe {T : TypeId} {q : QI} (h1 : q.a = none → q.n = 0) (h2 : q.n ≤ q.cap) : Sv [FQ T q] (sl q.a q.n q.cap) 1 (eInt .i64) (mks (mI (q.j + 1)) 0 q.n) (q.a.map fun g => ⟨g, 0, none⟩) q.cap := by
  have h := Sv_apkE (a := q.a) (cap := q.cap) (a' := q.a') (cap' := q.cap') (T := T) (l := mks (mI (q.j + 1)) 0 q.n) (l' := mks (mI (q.j + 1)) 0 (q.n + 70)) encZ (mks_pre _ _ _) (fun e => by rw [h1 e]; rfl) (by rw [mks_len]; exact h2)
  rw [mks_len] at h
  exact h
end Go.ShM
