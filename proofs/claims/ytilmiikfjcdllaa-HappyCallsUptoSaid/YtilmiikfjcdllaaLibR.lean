/-
  Contracts of functions that the claim reaches, or the logic and the plain laws that they rest on, or the row over them. (Conditions: none beyond the statement.)
-/
import Derived.Test.YtilmiikfjcdllaaLibC
import Derived.RangeFuncNested
set_option linter.all false
/-
  A range over a function, as rules of the logic: what yield is; a round out of its body's walk; the statement. (Conditions: none; generic over the program.)
-/
namespace Go.SL
open Go.RowKit
theorem not_deferR {P : Program} {ρ : Operand → Value} {o : Oper} {w w' : World} {l : Nat} {f : FuncId} {tmps : Array Value} {as bd : Code} (h : (execOp ρ o).run P w = .ok (.round l f tmps as bd) w') : ∀ c, o.op ≠ .defer c := by
  intro c hc
  obtain ⟨d, op, ty, pos, af, g⟩ := o
  simp only at hc
  subst hc
  simp only [execOp, Sem.run_bind] at h
  cases hr : (resolve ρ c ty).run P w with
  | ok d w1 => rw [hr] at h; simp at h
  | halt x w1 => rw [hr] at h; simp at h
def Yd (P : Program) (l : Nat) (args : List Value) (pre : List Asn) {ρ : Type} (val : ρ → Value) (post : ρ → List Asn) : Prop :=
  ∀ (F : List Asn) (w : World), sat w (pre ++ F) → ∃ (f : FuncId) (tmps : Array Value) (as bd : Code), (Instr.yield l args.toArray).run P w = .ok (.round l f tmps as bd) w ∧
    ∀ r : Option Nat, RoundIn (fz r) 0 P l f tmps as bd w (fun e w' => ∃ q, e = .returned (val q) ∧ sat w' (post q ++ F) ∧ Kept w w')
def yv (l : Nat) : Value := .func (.yield l) #[] #[]
theorem Ac_yield {P : Program} {n : Nat} {L : List (Nat × Value)} {A : List Asn} {d : Option Tmp} {ty : TypeId} {pos' : String} {af : Array Edge} {g : Option (Nat × Bool)} {x : Operand} {xs : Array Operand} {ts : Array TypeId} {l : Nat} {args : List Value} {pre F : List Asn} {ρ : Type} {val : ρ → Value} {post : ρ → List Asn}
    (hx : ev L x = some (yv l)) (ha : evs L xs.toList = some args) (hy : Yd P l args pre val post) (hg : Gv A pre F := by repeat (first | with_reducible exact Gv.nil | (with_reducible apply Gv.cons; · (repeat (first | with_reducible exact Ext.here | with_reducible apply Ext.there))))) :
    Ac P n ⟨d, .call ⟨.value x, xs, ts⟩, ty, pos', af, g⟩ L A (fun v A' => ∃ q, v = val q ∧ A' = post q ++ F) := by
  intro r0 a w K Q hf hsat hk
  obtain ⟨f, tmps, as, bd, hrun, hround⟩ := hy F w (sat_perm hg hsat)
  have e := hf.evals ha
  have e' : xs.map a.eval = args.toArray := by apply Array.ext'; simp [e]
  have hr : (execOp a.eval ⟨d, .call ⟨.value x, xs, ts⟩, ty, pos', af, g⟩).run P w = .ok (.round l f tmps as bd) w := by
    simp [execOp, resolve, hf.eval hx, yv, Deferred.ofValue, invoke, e', hrun]
  refine ⟨fun _ _ => trivial, ?_⟩
  rw [Oper.semAt_plain _ _ _ (not_deferR hr), hr]
  refine ⟨fz_depth, RoundIn.mono (hround r0) ?_⟩
  rintro e w' ⟨q, rfl, hs', hk'⟩
  exact hk _ _ _ ⟨q, rfl, rfl⟩ hs' hk'
def rcB (r : Loop) : Loop := { r with state := .busy }
def rcR (r : Loop) : Loop := { r with state := .ready, pending := none }
def rcD (r : Loop) (c : Code) : Loop := { r with state := .done, pending := some c }
def lp (l : Nat) (r : Loop) : Asn := pt l (.loop r)
def exA {σ : Type} (φ : σ → Prop) (f : σ → List Asn) : Asn := fun h => ∃ s, φ s ∧ sep (f s) h
theorem sat_exA {σ : Type} {φ : σ → Prop} {f : σ → List Asn} {R : List Asn} {w : World} : sat w (exA φ f :: R) ↔ ∃ s, φ s ∧ sat w (f s ++ R) := by
  unfold exA
  rw [sat_ex]
  constructor
  · rintro ⟨s, h⟩
    obtain ⟨h1, h2⟩ := sat_and.1 h
    exact ⟨s, h1, sat_app.1 h2⟩
  · rintro ⟨s, h1, h2⟩
    exact ⟨s, sat_and.2 ⟨h1, sat_app.2 h2⟩⟩
theorem imp_ex {σ : Type} {φ : σ → Prop} {f : σ → List Asn} {A R : List Asn} (s : σ) (hφ : φ s) (h : Sub A (f s ++ R)) : ∀ w, sat w A → sat w (exA φ f :: R) := fun _ hs => sat_exA.2 ⟨s, hφ, h.sat hs⟩
section
variable {P : Program} {m : Md} {ops : Array Oper} {Q : Exit → Act → World → Prop} {w0 : World} {n : Nat} {rest : List Oper} {L : List (Nat × Value)} {A R : List Asn} {c : Code} {σ : Type} {φ : σ → Prop} {f : σ → List Asn}
theorem Yd_ex {l : Nat} {args : List Value} {pre : List Asn} {ρ : Type} {val : ρ → Value} {post : ρ → List Asn} (k : ∀ s, φ s → Yd P l args (f s ++ pre) val post) : Yd P l args (exA φ f :: pre) val post := fun F w h =>
  let ⟨s, h1, h2⟩ := sat_exA.1 h; k s h1 F w (by rw [List.append_assoc]; exact h2)
end
structure REnd (P : Program) (l : Nat) (rc : Loop) (w0 : World) (n : Nat) (F : List Asn) {ρ : Type} (val : ρ → Value) (post : ρ → List Asn) (Q : Exit → Act → World → Prop) : Prop where
  nrm : ∀ {L : List (Nat × Value)} {A B : List Asn} (q : ρ), val q = .bool true → Ext A (lp l (rcB rc)) B → (∀ w, sat w (lp l rc :: B) → sat w (post q ++ F)) → Ps ⟨some l, []⟩ (Q .normal) w0 n L A
  ret : ∀ {L : List (Nat × Value)} {A B : List Asn} (q : ρ), val q = .bool false → Ext A (lp l (rcB rc)) B → (∀ w, sat w (lp l (rcD rc .ret) :: B) → sat w (post q ++ F)) → Ps ⟨some l, []⟩ (Q .ret) w0 n L A
  exi : ∀ (k : Nat) {L : List (Nat × Value)} {A B : List Asn} (q : ρ), val q = .bool false → Ext A (lp l (rcB rc)) B → (∀ w, sat w (lp l (rcD rc (.exit k)) :: B) → sat w (post q ++ F)) → Ps ⟨some l, []⟩ (Q (.exit k)) w0 n L A
def RBeg (P : Program) (l : Nat) (rc : Loop) (bd : Code) (w0 : World) (n : Nat) (Q : Exit → Act → World → Prop) (K : Act → World → Prop) : Prop :=
  ∀ {L : List (Nat × Value)} {A B : List Asn}, Ext A (lp l rc) B → WC P ⟨some l, []⟩ Q w0 n bd L (lp l (rcB rc) :: B) → Ps ⟨some l, []⟩ K w0 n L A
theorem sat_loop {l : Nat} {r r' : Loop} {R : List Asn} {w : World} (h : sat w (lp l r :: R)) : sat (w.putObj l (.loop r')) (lp l r' :: R) ∧ Kept w (w.putObj l (.loop r')) := by
  have hb := sat_pt h
  have hlt := (Array.getElem?_eq_some_iff.1 hb).1
  refine ⟨sat_upd (by simp [World.putObj, hlt]) (fun c hc x hx => by simp [World.putObj, Ne.symm hc]; exact hx) h, ⟨rfl, rfl, rfl, by simp [World.putObj], by simp [World.putObj]⟩⟩
theorem fr_fold {n : Nat} : ∀ (ps : List Tmp) (vs : List Value) (tm : Array Value) (L : List (Nat × Value)), Fr n L { tmps := tm, defers := [] } → (ps.all fun p => Nat.blt p n) = true → ps.length = vs.length →
    Fr n ((ps.zip vs).reverse ++ L) { tmps := (ps.zip vs).foldl (fun tmps (t, a) => tmps.setIfInBounds t a) tm, defers := [] }
  | [], [], tm, L, h, _, _ => h
  | p :: ps, v :: vs, tm, L, h, hp, hl => by
    rw [List.all_cons, Bool.and_eq_true] at hp
    have h1 := h.put hp.1 v
    have h2 : Fr n ((p, v) :: L) { tmps := tm.setIfInBounds p v, defers := [] } := h1
    have := fr_fold ps vs _ _ h2 hp.2 (by simpa using hl)
    simpa using this
  | [], _ :: _, _, _, _, _, hl => by simp at hl
  | _ :: _, [], _, _, _, _, hl => by simp at hl
theorem Yd_of {P : Program} {l n : Nat} {rc : Loop} {L0 : List (Nat × Value)} {args : List Value} {pre : List Asn} {ρ : Type} {val : ρ → Value} {post : ρ → List Asn} {ps : Array Tmp} {as bd : Code} (hst : rc.state = .ready) (hpd : rc.pending = none) (hpa : rc.params = ps) (has : rc.assign = as) (hbd : rc.body = bd) (hfr : Fr n L0 { tmps := rc.tmps, defers := [] }) (hps : (ps.toList.all fun p => Nat.blt p n) = true) (hpl : ps.toList.length = args.length)
    (h : ∀ (F : List Asn) (w0 : World) (Q : Exit → Act → World → Prop) (K : Act → World → Prop), NoPanic Q → REnd P l rc w0 n F val post Q → RBeg P l rc bd w0 n Q K → WC P ⟨some l, []⟩ (Exit.then K (fun _ _ _ => False)) w0 n as ((ps.toList.zip args).reverse ++ L0) (lp l rc :: pre ++ F)) :
    Yd P l args (lp l rc :: pre) val post := by
  subst hpa has hbd
  intro F w hs
  have hrc : rcR rc = rc := by cases rc; simp only at hst hpd; subst hst hpd; rfl
  have hb := sat_pt hs
  have hsz : args.toArray.size = rc.params.size := by rw [List.size_toArray, ← hpl, Array.length_toList]
  refine ⟨rc.fn, (rc.params.zip args.toArray).foldl (fun tmps (t, a) => tmps.setIfInBounds t a) rc.tmps, rc.assign, rc.body, run_yield hb hsz, fun r => ?_⟩
  have hfold : (rc.params.zip args.toArray).foldl (fun tmps (t, a) => tmps.setIfInBounds t a) rc.tmps = (rc.params.toList.zip args).foldl (fun tmps (t, a) => tmps.setIfInBounds t a) rc.tmps := by
    rw [← Array.foldl_toList]; simp
  rw [hfold]
  let R : Ending → World → Prop := fun e w' => ∃ q, e = .returned (val q) ∧ sat w' (post q ++ F) ∧ Kept w w'
  show RoundIn (fz r) 0 P l rc.fn _ rc.assign rc.body w R
  refine roundIn_of_wpIn (fz_fn _ _) ?_
  have hq := h F w (roundPost P l R) (fun a₁ w₁ => ∃ w₂, (Instr.beginRound l).run P w₁ = .ok () w₂ ∧ rc.body.wpIn ((fz r).inRound l) 0 P (roundPost P l R) a₁ w₂) (fun d v c a w hq => hq) ?_ ?_
  · exact hq _ w rfl (fr_fold _ _ _ _ hfr hps hpl) hs (.refl _)
  · refine ⟨fun q hv hE hS a w' _ _ hs' hk => ?_, fun q hv hE hS a w' _ _ hs' hk => ?_, fun k L A B q hv hE hS a w' _ _ hs' hk => ?_⟩
    · have h1 := sat_perm hE hs'
      obtain ⟨h2, h3⟩ := sat_loop (r' := rcR rc) h1
      exact ⟨.bool true, w'.putObj l (.loop (rcR rc)), run_endRound (r := rcB rc) none (sat_pt h1), q, by rw [hv], hS _ (by rw [hrc] at h2 ⊢; exact h2), hk.trans h3⟩
    · have h1 := sat_perm hE hs'
      obtain ⟨h2, h3⟩ := sat_loop (r' := rcD rc .ret) h1
      exact ⟨.bool false, w'.putObj l (.loop (rcD rc .ret)), run_endRound (r := rcB rc) (some .ret) (sat_pt h1), q, by rw [hv], hS _ h2, hk.trans h3⟩
    · have h1 := sat_perm hE hs'
      obtain ⟨h2, h3⟩ := sat_loop (r' := rcD rc (.exit k)) h1
      exact ⟨.bool false, w'.putObj l (.loop (rcD rc (.exit k))), run_endRound (r := rcB rc) (some (.exit k)) (sat_pt h1), q, by rw [hv], hS _ h2, hk.trans h3⟩
  · intro L A B hE hW a w' hd hf hs' hk
    have h1 := sat_perm hE hs'
    obtain ⟨h2, h3⟩ := sat_loop (r' := rcB rc) h1
    exact ⟨w'.putObj l (.loop (rcB rc)), run_beginRound (sat_pt h1) hst, hW a _ hd hf h2 (hk.trans h3)⟩
def RfEnd (P : Program) (Q : Exit → Act → World → Prop) (w0 : World) (n : Nat) (m : Md) (l : Nat) (L : List (Nat × Value)) (A : List Asn) : Prop :=
  ∀ (a : Act) (w : World), a.defers = m.ds → Fr n L a → sat w A → Kept w0 w → ∃ jump w4, (Instr.endLoop l).run P w = .ok jump w4 ∧ (match jump with | none => Q .normal a w4 | some c => c.wpIn (fz m.r) 0 P Q a w4)
section
variable {P : Program} {m : Md} {l : Nat} {Q : Exit → Act → World → Prop} {w0 : World} {n : Nat} {L : List (Nat × Value)} {A B R : List Asn} {σ : Type} {φ : σ → Prop} {f : σ → List Asn}
theorem RfEnd_ex (k : ∀ s, φ s → RfEnd P Q w0 n m l L (f s ++ R)) (hE : Ext A (exA φ f) R := by repeat (first | with_reducible exact Ext.here | with_reducible apply Ext.there)) : RfEnd P Q w0 n m l L A := fun a w hd hf hs hk =>
  let ⟨s, h1, h2⟩ := sat_exA.1 (sat_perm hE hs); k s h1 a w hd hf h2 hk
theorem RfEnd_nrm {rc : Loop} (hst : rc.state = .ready) (hpd : rc.pending = none) (k : Ps m (Q .normal) w0 n L B) (hE : Ext A (lp l rc) B := by repeat (first | with_reducible exact Ext.here | with_reducible apply Ext.there)) : RfEnd P Q w0 n m l L A := fun a w hd hf hs hk => by
  have h1 := sat_perm hE hs
  obtain ⟨h2, h3⟩ := sat_loop (r' := { rc with state := .exhausted }) h1
  refine ⟨none, _, by rw [← hpd]; exact run_endLoop (sat_pt h1) (by rw [hst]; exact fun h => by cases h), ?_⟩
  exact k _ _ hd hf (sat_drop h2) (hk.trans h3)
end
theorem WC_rf {P : Program} {Q : Exit → Act → World → Prop} {w0 : World} {n : Nat} {L : List (Nat × Value)} {A : List Asn} {ds : List Deferred} {g : Operand} {ps : Array Tmp} {as bd : Code} {f : FuncId} {caps : List Value} (hg : ev L g = some (.func (.func f) #[] caps.toArray)) (hc : cfn P f = true)
    (h : ∀ (l D : Nat) (rc : Loop), rc.state = .ready → rc.pending = none → rc.params = ps → rc.assign = as → rc.body = bd → Fr n L { tmps := rc.tmps, defers := [] } → ∃ (ρ : Type) (pre F : List Asn) (val : ρ → Value) (post : ρ → List Asn), Ct P f (yv l :: caps) pre val post ∧
      (∀ w, sat w (lp l rc :: dfr D :: A) → sat w (pre ++ F)) ∧ ∀ r : ρ, RfEnd P Q w0 n ⟨none, dmk D :: ds⟩ l L (post r ++ F)) :
    WC P ⟨none, ds⟩ Q w0 n (.rangeFunc g ps as bd) L A := by
  intro a w hd hf hs hk
  refine wpIn_rangeFunc fun fn _ => ?_
  obtain ⟨tm, dfs⟩ := a
  have hd' : dfs = ds := hd
  subst hd'
  obtain ⟨ρ, pre, F, val, post, hct, hgv, hpost⟩ := h (w.heap.size + 1) w.heap.size { state := .ready, pending := none, fn := fn, tmps := tm, params := ps, assign := as, body := bd, defers := w.heap.size } rfl rfl rfl rfl rfl hf
  have s1 := sat_new (w := w) (w' := w.alloc (.deferred (some []))) (o := .deferred (some [])) rfl hs
  have s2 := sat_new (w := w.alloc (.deferred (some []))) (w' := (w.alloc (.deferred (some []))).alloc (.loop { state := .ready, pending := none, fn := fn, tmps := tm, params := ps, assign := as, body := bd, defers := w.heap.size })) (o := .loop { state := .ready, pending := none, fn := fn, tmps := tm, params := ps, assign := as, body := bd, defers := w.heap.size }) rfl s1
  have hsz : (w.alloc (.deferred (some []))).heap.size = w.heap.size + 1 := by simp
  rw [hsz] at s2
  have s3 := hgv _ s2
  have hev : (Act.mk tm dfs).eval g = .func (.func f) #[] caps.toArray := Fr.eval (a := ⟨tm, dfs⟩) hf hg
  refine ⟨w.heap.size + 1, [dmk w.heap.size], (w.alloc (.deferred (some []))).alloc (.loop { state := .ready, pending := none, fn := fn, tmps := tm, params := ps, assign := as, body := bd, defers := w.heap.size }), { target := .fn (.func f) caps.toArray, args := #[yv (w.heap.size + 1)] }, (w.alloc (.deferred (some []))).alloc (.loop { state := .ready, pending := none, fn := fn, tmps := tm, params := ps, assign := as, body := bd, defers := w.heap.size }), f, (yv (w.heap.size + 1) :: caps).toArray, (w.alloc (.deferred (some []))).alloc (.loop { state := .ready, pending := none, fn := fn, tmps := tm, params := ps, assign := as, body := bd, defers := w.heap.size }), run_enterLoop_outer fn tm ps as bd, ?_, fun _ _ => fz_fn _ _, ?_, fz_depth, fz_calls ((hct.out F _ s3).mono ?_)⟩
  · simp [rangeCall, resolve, hev, Deferred.ofValue, yv]
    rfl
  · simp [invoke, run_callFunc hc]
  · rintro e w' ⟨r, rfl, hs', hk'⟩
    have hk0 : Kept w ((w.alloc (.deferred (some []))).alloc (.loop { state := .ready, pending := none, fn := fn, tmps := tm, params := ps, assign := as, body := bd, defers := w.heap.size })) := ⟨rfl, rfl, rfl, by simp; omega, Nat.le_refl _⟩
    exact hpost r ⟨tm, dmk w.heap.size :: dfs⟩ w' rfl hf hs' (hk.trans (hk0.trans hk'))
theorem imp_rf {σ : Type} {φ : σ → Prop} {f : σ → List Asn} {A Y R1 R : List Asn} (s : σ) (hφ : φ s) (h1 : Gv A Y R1) (h2 : Gv R1 (f s) R) : ∀ w, sat w A → sat w ((Y ++ [exA φ f]) ++ R) := fun w h => by
  rw [List.append_assoc]
  have a1 := sat_perm (h1.trans (List.Perm.append_left Y h2)) h
  refine sat_perm (List.perm_middle).symm (sat_exA.2 ⟨s, hφ, ?_⟩)
  refine sat_perm ?_ a1
  rw [← List.append_assoc, ← List.append_assoc]
  exact List.Perm.append_right R List.perm_append_comm
theorem drun_pop {P : Program} {D : Nat} {ds : List Deferred} {A B : List Asn} {K : List Asn → Prop} (hE : Ext A (dfr D) B) (h : DRun P ds B K) : DRun P (dmk D :: ds) A K := .inl ⟨D, B, rfl, hE, h⟩
section
variable {P : Program} {n : Nat} {w0 : World} {L : List (Nat × Value)} {A B C : List Asn} {fn : Func} {F : List Asn} {ρ : Type} {val : ρ → Value} {post : ρ → List Asn} {Q : Act → World → Prop} {D D' : Nat}
theorem End.goD (h : End P fn n w0 F val post Q) (r : ρ) (hr : Rs P fn n L B (val r)) (hE : Ext A (dfr D) B := by repeat (first | with_reducible exact Ext.here | with_reducible apply Ext.there)) (hS : Sub B (post r ++ F) := by simp only [List.cons_append, List.nil_append]; repeat (first | with_reducible exact Sub.refl | with_reducible exact Sub.nil | with_reducible refine Sub.cons (by repeat (first | with_reducible exact Ext.here | with_reducible apply Ext.there)) ?_ | with_reducible refine Sub.tail ?_)) : Ps ⟨none, [dmk D]⟩ Q w0 n L A :=
  h _ _ _ rfl (drun_pop hE ⟨r, hr, hS⟩)
end
end Go.SL
/-
  Loops whose rounds leave marks on the deferred calls (a range over a function within a plain loop). (Conditions: none; generic over the program.)
-/
namespace Go.SL
open Go.RowKit
section
variable {P : Program} {n : Nat} {w0 : World} {L : List (Nat × Value)} {A B : List Asn} {fn : Func} {F : List Asn} {ρ : Type} {val : ρ → Value} {post : ρ → List Asn} {Q : Act → World → Prop} {Ds : List Nat}
end
end Go.SL
/-
  Naturals in int slots: exclusive or; the encoding of a list of naturals. (Conditions: none; generic over the program.)
-/
namespace Go.SL
open Go.RowKit
section
variable {P : Program} {n : Nat} {L : List (Nat × Value)} {A : List Asn} {d : Option Tmp} {ty : TypeId} {pos' : String} {af : Array Edge} {g : Option (Nat × Bool)} {t t' : TypeId} {x y : Operand}
end
end Go.SL
/-
  An iterator lends what it reads to the loop's rounds. (Conditions: none; generic over the program.)
-/
namespace Go.SL
open Go.RowKit
section
variable {P : Program} {m : Md} {ops : Array Oper} {Q : Exit → Act → World → Prop} {w0 : World} {n : Nat} {L : List (Nat × Value)} {A R1 R2 R3 R : List Asn} {X Y a b c : Asn}
end
end Go.SL
/-
  Lists of numbers handed out, written over, longer ones made of them: in plain words, and what is owned. (Conditions: none; no program in sight.)
-/
set_option maxRecDepth 20000
namespace Go.ShM
open Go.SL Go.RowKit
structure PI where
  a : Option Nat
  cap : Nat
  l : List Int
structure QI where
  a : Option Nat
  cap : Nat
  a' : Option Nat
  cap' : Nat
  n : Nat
  j : Nat
def eQI (q : QI) : List Value := [sl q.a' (q.n + 70) q.cap']
theorem encQI : Enc eQI 1 := ⟨fun _ => rfl, fun x v hv => by simp [eQI, sl] at hv; subst hv; rfl⟩
theorem mks_pre {α : Type} (g : Nat → α) (n m : Nat) : mks g 0 n <+: mks g 0 (n + m) := ⟨mks g n m, mks_app g n m⟩
theorem mks_one {α : Type} (g : Nat → α) (n : Nat) : mks g 0 n ++ [g n] = mks g 0 (n + 1) := by
  have := mks_succ g 0 n
  rwa [Nat.zero_add] at this
section
variable {P : Program} {Q : Exit → Act → World → Prop} {m : Md} {w0 : World} {n : Nat} {c : Code} {L : List (Nat × Value)} {A R : List Asn} {α : Type}
theorem WC_drop (F : α → Asn) (l : List α) (k : Nat) {x : α} (hx : l[k]? = some x) (K : WC P m Q w0 n c L (F x :: star F (l.drop (k + 1)) :: R)) (hE : Ext A (star F (l.drop k)) R := by repeat (first | with_reducible exact Ext.here | with_reducible apply Ext.there)) : WC P m Q w0 n c L A :=
  WC_imp (fun w h => by
    have h1 := sat_perm hE h
    obtain ⟨hlt, e⟩ := List.getElem?_eq_some_iff.1 hx
    rw [List.drop_eq_getElem_cons hlt, e] at h1
    exact star_cons.1 h1) K
end
theorem Sv_pre {α : Type} {a : Option Nat} {cap e : Nat} {T : TypeId} {f : α → List Value} {l l' : List α} (hE1 : Enc f e) (hp : l <+: l') (hn : a = none → l' = []) (hc : l'.length ≤ cap) : Sv [arr a cap e T f l'] (sl a l.length cap) e f l (a.map fun g => ⟨g, 0, none⟩) cap :=
  (Sv_own' (a := a) (cap := cap) (T := T) hE1 (fun h => by have := hn h; subst this; exact List.prefix_nil.1 hp) (Nat.le_trans hp.length_le hc)).imp fun _ h => sat_imp (arr_pre hp) h
end Go.ShM
