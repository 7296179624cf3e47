/-
  A function's contract, its proof by its body, its use at a call. (Conditions: none; generic over the program.)
-/
import Derived.Test.YtcemkpiopijbmaaSlAct
set_option linter.all false
namespace Go.SL
open Go.RowKit

/-- Called with these arguments where 'pre' is owned: it returns, and owns 'post'; all else is kept. -/
structure Ct (P : Program) (f : FuncId) (args : List Value) (pre : List Asn) {ρ : Type} (val : ρ → Value) (post : ρ → List Asn) : Prop where
  out : ∀ (F : List Asn) (w : World), sat w (pre ++ F) → Calls P f args.toArray w (fun e w' => ∃ r, e = .returned (val r) ∧ sat w' (post r ++ F) ∧ Kept w w')
/-- the arguments' slots -/
def argL : Nat → List Value → List (Nat × Value)
  | _, [] => []
  | i, v :: r => (i, v) :: argL (i + 1) r
theorem look_argL : ∀ (vs : List Value) (i x : Nat) (v : Value), look (argL i vs) x = some v → i ≤ x ∧ vs[x - i]? = some v
  | [], i, x, v, h => by simp [argL, look] at h
  | u :: r, i, x, v, h => by
    unfold argL look at h
    by_cases hx : i = x
    · subst hx; simp at h; simp [h]
    · have hb : Nat.beq i x = false := Bool.eq_false_iff.2 fun e => hx (Nat.eq_of_beq_eq_true e)
      rw [hb] at h
      have := look_argL r (i + 1) x v h
      refine ⟨by omega, ?_⟩
      rw [show x - i = (x - (i + 1)) + 1 from by omega]
      simpa using this.2
/-- what a function hands back -/
def Rs (P : Program) (fn : Func) (n : Nat) (L : List (Nat × Value)) (A : List Asn) (v : Value) : Prop :=
  ∀ a w, Fr n L a → sat w A → (results fn a.tmps).run P w = .ok v w
section
variable {P : Program} {fn : Func} {n : Nat} {L : List (Nat × Value)} {A : List Asn}
theorem getD_of_look {a : Act} (hf : Fr n L a) {t : Nat} {v : Value} (h : look L t = some v) : a.tmps.getD t undef = v := by
  simp [Array.getD_eq_getD_getElem?, hf.2.2 t v h]
theorem Rs0 (hr : fn.results = #[]) : Rs P fn n L A (.tuple #[]) := fun _ _ _ _ => results_none hr _ _ _
theorem Rs1 {t : Nat} {v : Value} (hr : fn.results = #[.tmp t]) (h : look L t = some v) : Rs P fn n L A v := fun a w hf _ => by rw [results_tmp hr, getD_of_look hf h]
theorem Rs2 {t u : Nat} {v x : Value} (hr : fn.results = #[.tmp t, .tmp u]) (h : look L t = some v) (h' : look L u = some x) : Rs P fn n L A (.tuple #[v, x]) := fun a w hf _ => by rw [results_tmp2 hr, getD_of_look hf h, getD_of_look hf h']
theorem Rs3 {t u s : Nat} {v x y : Value} (hr : fn.results = #[.tmp t, .tmp u, .tmp s]) (h : look L t = some v) (h' : look L u = some x) (h'' : look L s = some y) : Rs P fn n L A (.tuple #[v, x, y]) := fun a w hf _ => by
  simp [results, hr]; exact ⟨by simpa [Array.getD_eq_getD_getElem?] using getD_of_look hf h, by simpa [Array.getD_eq_getD_getElem?] using getD_of_look hf h', by simpa [Array.getD_eq_getD_getElem?] using getD_of_look hf h''⟩
/-- a result that lies in memory -/
theorem Rs1c {t : Nat} {ty : TypeId} {b i k : Nat} {T : TypeId} {xs vs : List Value} (hr : fn.results = #[.cell t ty]) (h : look L t = some (.pointer (some ⟨b, i, none⟩))) (ht : tk P ty = some (some k)) (hA : Has A (cl b T xs) := by repeat (first | with_reducible exact Has.here | with_reducible refine Has.there ?_)) (hl : i + k ≤ xs.length := by exact Nat.le_of_ble_eq_true rfl) (hv : (xs.drop i).take k = vs := by rfl) :
    Rs P fn n L A (.agg vs.toArray) := fun a w hf hs => by
  have e := getD_of_look hf h
  have := run_loadVar_ag (P := P) ht (i := i) (hA.sat hs) (by simpa using hl)
  simp only [results, hr, List.mapM_toArray, List.mapM_cons, List.mapM_nil, Sem.run_bind, Sem.run_map, e, asAddr, Sem.run_pure, Result.andThen_ok, this]
  simp [hv]
theorem Rs1cs {t : Nat} {ty : TypeId} {b i : Nat} {T : TypeId} {xs : List Value} {v : Value} (hr : fn.results = #[.cell t ty]) (h : look L t = some (.pointer (some ⟨b, i, none⟩))) (ht : tk P ty = some none) (hA : Has A (cl b T xs) := by repeat (first | with_reducible exact Has.here | with_reducible refine Has.there ?_)) (hv : xs[i]? = some v := by rfl) :
    Rs P fn n L A v := fun a w hf hs => by
  have e := getD_of_look hf h
  have hc : w.cell? ⟨b, i, none⟩ = some v := cell_of (hA.sat hs) (by simpa using hv)
  simp only [results, hr, List.mapM_toArray, List.mapM_cons, List.mapM_nil, Sem.run_bind, Sem.run_map, e, asAddr, Sem.run_pure, Result.andThen_ok, run_loadVar_sc ht hc]
  simp
end
section
variable {P : Program}
/-- the end of a body, kept out of sight -/
def End (P : Program) (fn : Func) (n : Nat) (w0 : World) (F : List Asn) {ρ : Type} (val : ρ → Value) (post : ρ → List Asn) (Q : Act → World → Prop) : Prop :=
  ∀ r L A, Rs P fn n L A (val r) → Sub A (post r ++ F) → Ps Q w0 n L A
def NoPanic (Q : Exit → Act → World → Prop) : Prop := ∀ d v c a w, Q (.panic c) (a.put d v) w → Q (.panic c) a w
/-- A contract by the function's body: Q is what is asked at the body's end. -/
theorem Ct_body {f : FuncId} {fn : Func} {c : Code} {args : List Value} {pre : List Asn} {ρ : Type} {val : ρ → Value} {post : ρ → List Asn} {n : Nat} (hf : P.funcs[f]? = some fn) (hb : fn.body = some c) (hn : fn.ntmps = n) (hle' : Nat.ble args.length n = true)
    (h : ∀ (F : List Asn) (w0 : World) (Q : Exit → Act → World → Prop), End P fn n w0 F val post (Q .ret) → End P fn n w0 F val post (Q .normal) → NoPanic Q → WC P Q w0 n c (argL 0 args) (pre ++ F)) : Ct P f args pre val post := by
  have hle : args.length ≤ n := Nat.le_of_ble_eq_true hle'
  refine ⟨fun F w0 hs => ?_⟩
  refine calls_of_wp hf hb ?_
  refine h F w0 (bodyPost P fn (fun e w' => ∃ r, e = .returned (val r) ∧ sat w' (post r ++ F) ∧ Kept w0 w')) ?_ ?_ ?_ _ _ ⟨?_, rfl, fun x v hx => ?_⟩ hs (.refl _)
  · intro r L A hr hA a w hfr hs' hk
    exact ⟨hfr.2.1, _, hr a w hfr hs', r, rfl, hA.sat hs', hk⟩
  · intro r L A hr hA a w hfr hs' hk
    exact ⟨hfr.2.1, _, hr a w hfr hs', r, rfl, hA.sat hs', hk⟩
  · intro d v c a w hq
    refine ⟨?_, hq.2⟩
    have := hq.1
    cases d <;> exact this
  · simp [hn]; omega
  · have := look_argL args 0 x v hx
    have hlt := (List.getElem?_eq_some_iff.1 this.2).1
    simp only [Nat.sub_zero] at hlt
    rw [Array.getElem?_append_left (by simpa using hlt)]
    simpa using this.2
/-- may the model enter it? -/
def cfn (P : Program) (f : FuncId) : Bool := match P.funcs[f]? with | some fn => !(fn.name == "runtime.NumGoroutine") && fn.body.isSome | none => false
theorem run_callFunc {f : FuncId} (h : cfn P f = true) (args : Array Value) (w : World) : (callFunc f args).run P w = .ok (.enter f args) w := by
  unfold cfn at h
  split at h
  · rename_i fn hfn
    simp only [Bool.and_eq_true, Bool.not_eq_true', beq_eq_false_iff_ne, ne_eq] at h
    have hb : fn.body ≠ none := by intro hbb; rw [hbb] at h; simp at h
    simp [callFunc, hfn, h.1, hb]
  · cases h
variable {n : Nat} {L : List (Nat × Value)} {A : List Asn} {d : Option Tmp} {ty : TypeId} {pos : String} {af : Array Edge} {g : Option (Nat × Bool)}
theorem Ac_of_calls {o : Oper} {f : FuncId} {args : List Value} {pre F : List Asn} {ρ : Type} {val : ρ → Value} {post : ρ → List Asn}
    (hr : ∀ a w, Fr n L a → sat w A → (execOp a.eval o).run P w = .ok (.enter f args.toArray) w) (hs : Ct P f args pre val post) (hg : Gv A pre F) :
    Ac P n o L A (fun v A' => ∃ r, v = val r ∧ A' = post r ++ F) := by
  intro a w K Q hf hsat hk
  simp only [Oper.wp, hr a w hf hsat, Oper.upon]
  refine (hs.out F w (sat_perm hg hsat)).mono ?_
  rintro e w' ⟨r, rfl, hs', hk'⟩
  exact hk _ _ _ ⟨r, rfl, rfl⟩ hs' hk'
/-- a call of a named function -/
theorem Ac_call {f : FuncId} {xs : Array Operand} {ts : Array TypeId} {args : List Value} {pre F : List Asn} {ρ : Type} {val : ρ → Value} {post : ρ → List Asn} (hc : cfn P f = true) (ha : evs L xs.toList = some args) (hg : Gv A pre F := by repeat (first | with_reducible exact Gv.nil | (with_reducible apply Gv.cons; · (repeat (first | with_reducible exact Ext.here | with_reducible apply Ext.there))))) (hs : Ct P f args pre val post) :
    Ac P n ⟨d, .call ⟨.value (.func f), xs, ts⟩, ty, pos, af, g⟩ L A (fun v A' => ∃ r, v = val r ∧ A' = post r ++ F) :=
  Ac_of_calls (fun a w hf _ => by
    have e := hf.evals ha
    have e' : xs.map a.eval = args.toArray := by apply Array.ext'; simp [e]
    simp [execOp, resolve, Act.eval, Deferred.ofValue, invoke, e', run_callFunc hc]) hs hg
/-- a call of a function value: its own arguments, then what it captured -/
theorem Ac_callv {f : FuncId} {x : Operand} {xs : Array Operand} {ts : Array TypeId} {args caps all : List Value} {first capt : Array Value} {pre F : List Asn} {ρ : Type} {val : ρ → Value} {post : ρ → List Asn} (hx : ev L x = some (.func (.func f) first capt)) (hc : cfn P f = true) (ha : evs L xs.toList = some args)
    (hfi : first = #[]) (hca : capt = caps.toArray) (hall : args ++ caps = all) (hg : Gv A pre F := by repeat (first | with_reducible exact Gv.nil | (with_reducible apply Gv.cons; · (repeat (first | with_reducible exact Ext.here | with_reducible apply Ext.there))))) (hs : Ct P f all pre val post) : Ac P n ⟨d, .call ⟨.value x, xs, ts⟩, ty, pos, af, g⟩ L A (fun v A' => ∃ r, v = val r ∧ A' = post r ++ F) :=
  Ac_of_calls (fun a w hf _ => by
    have e := hf.evals ha
    have e' : xs.map a.eval = args.toArray := by apply Array.ext'; simp [e]
    subst hfi; subst hca; subst hall
    simp [execOp, resolve, hf.eval hx, Deferred.ofValue, invoke, e', run_callFunc hc]) hs hg
/-- A contract with more owned beside it. -/
theorem Ct.frame {f : FuncId} {args : List Value} {pre : List Asn} {ρ : Type} {val : ρ → Value} {post : ρ → List Asn} (h : Ct P f args pre val post) (R : List Asn) : Ct P f args (pre ++ R) val (fun r => post r ++ R) := by
  refine ⟨fun F w hs => ?_⟩
  refine (h.out (R ++ F) w (by simpa using hs)).mono ?_
  rintro e w' ⟨r, he, hs', hk⟩
  exact ⟨r, he, by simpa using hs', hk⟩
theorem Ct.calls {f : FuncId} {args : List Value} {pre : List Asn} {ρ : Type} {val : ρ → Value} {post : ρ → List Asn} (h : Ct P f args pre val post) (w : World) (hs : sat w pre) :
    Calls P f args.toArray w (fun e w' => ∃ r, e = .returned (val r) ∧ sat w' (post r) ∧ Kept w w') := by
  refine (h.out [] w (by simpa using hs)).mono ?_
  rintro e w' ⟨r, he, hs', hk⟩
  exact ⟨r, he, by simpa using hs', hk⟩
end
end Go.SL
