/-
  Contracts of functions that the claim reaches, or the logic and the plain laws that they rest on, or the row over them. (Conditions: none beyond the statement.)
-/
import Derived.Test.YtgkpbeikcpecbaaLibR
import Derived.Laws.Externs
set_option linter.all false
/-
  A call that is put off to a function's end; how many keys a map has; a map's copy. (Conditions: none; generic over the program.)
-/
set_option linter.all false
namespace Go.SL
open Go.RowKit
theorem WL_defer {P : Program} {ops : Array Oper} {Q : Exit → Act → World → Prop} {w0 : World} {n : Nat} {rest : List Oper} {L : List (Nat × Value)} {A : List Asn} {ds : List Deferred} {ty : TypeId} {pos' : String} {af : Array Edge} {g : Option (Nat × Bool)} {x : Operand} {f : FuncId} {caps : List Value}
    (hx : ev L x = some (.func (.func f) #[] caps.toArray)) (hw : Wt ops ⟨none, .defer ⟨.value x, #[], #[]⟩, ty, pos', af, g⟩ L = some true)
    (k : WL P ⟨none, { target := .fn (.func f) caps.toArray, args := #[] } :: ds⟩ ops Q w0 n rest L A) : WL P ⟨none, ds⟩ ops Q w0 n (⟨none, .defer ⟨.value x, #[], #[]⟩, ty, pos', af, g⟩ :: rest) L A := by
  intro a w hd hf hs hk
  unfold wpListIn
  rw [if_pos (Wt.wanted hw hf)]
  refine ⟨fun _ _ => trivial, ?_⟩
  have e : (execOp a.eval (⟨none, .defer ⟨.value x, #[], #[]⟩, ty, pos', af, g⟩ : Oper)).run P w = .ok (.defer { target := .fn (.func f) caps.toArray, args := #[] }) w := by
    simp [execOp, resolve, hf.eval hx, Deferred.ofValue]
  have e2 : (Oper.semAt (fz none).round a.eval (⟨none, .defer ⟨.value x, #[], #[]⟩, ty, pos', af, g⟩ : Oper)).run P w = .ok (.defer { target := .fn (.func f) caps.toArray, args := #[] }) w := e
  rw [e2]
  have hd' : a.defers = ds := hd
  refine k _ w ?_ ?_ hs hk
  · show _ :: a.defers = _
    rw [hd']
  · exact ⟨hf.1, hf.2⟩
def EndD (P : Program) (fn : Func) (n : Nat) (w0 : World) (F : List Asn) {ρ : Type} (post : ρ → List Asn) (Q : Act → World → Prop) : Prop :=
  ∀ L A, (∃ r, Rs P fn n L A (.tuple #[]) ∧ Sub A (post r ++ F)) → Ps md0 Q w0 n L A
theorem EndD.go {P : Program} {fn : Func} {n : Nat} {w0 : World} {F : List Asn} {ρ : Type} {post : ρ → List Asn} {Q : Act → World → Prop} {L : List (Nat × Value)} {A : List Asn} (h : EndD P fn n w0 F post Q) (r : ρ) (hr : Rs P fn n L A (.tuple #[]))
    (hS : Sub A (post r ++ F) := by simp only [List.cons_append, List.nil_append]; repeat (first | with_reducible exact Sub.refl | with_reducible exact Sub.nil | with_reducible refine Sub.cons (by repeat (first | with_reducible exact Ext.here | with_reducible apply Ext.there)) ?_ | with_reducible refine Sub.tail ?_)) : Ps md0 Q w0 n L A := h L A ⟨r, hr, hS⟩
def bodyQD (P : Program) (fn : Func) (R : Ending → World → Prop) : Exit → Act → World → Prop
  | .normal, a, w | .ret, a, w => a.defers = [] ∧ ∃ v, (results fn a.tmps).run P w = .ok v w ∧ R (.returned v) w
  | _, _, _ => False
theorem CtD_body {P : Program} {f : FuncId} {fn : Func} {c : Code} {args : List Value} {pre : List Asn} {ρ : Type} {post : ρ → List Asn} {n : Nat} (hf : P.funcs[f]? = some fn) (hb : fn.body = some c) (hn : fn.ntmps = n) (hle' : Nat.ble args.length n = true)
    (h : ∀ (F : List Asn) (w0 : World) (Q : Exit → Act → World → Prop), EndD P fn n w0 F post (Q .ret) → EndD P fn n w0 F post (Q .normal) → NoPanic Q → WC P md0 Q w0 n c (argL 0 args) (pre ++ F)) : CtD P f args pre post := by
  have hle : args.length ≤ n := Nat.le_of_ble_eq_true hle'
  intro F w0 u hs
  let R : Ending → World → Prop := fun e w' => ∃ r v, e = .returned v ∧ sat w' (post r ++ F) ∧ Kept w0 w'
  have hend : EndD P fn n w0 F post (fun a w => a.defers = [] ∧ ∃ v, (results fn a.tmps).run P w = .ok v w ∧ R (.returned v) w) := by
    rintro L A ⟨r, hr, hS⟩ a w hd hfr hs' hk
    exact ⟨hd, _, hr a w hfr hs', r, _, rfl, hS.sat hs', hk⟩
  refine callsDIn_of_wp hf hb (fz_fn _ _) ?_
  refine wpIn_mono (Q := bodyQD P fn R) ?_ ?_
  · refine h F w0 (bodyQD P fn R) hend hend (fun d v c a w hq => hq) _ _ rfl ⟨?_, fun x v hx => ?_⟩ hs (.refl _)
    · simp [hn]; omega
    · have := look_argL args 0 x v hx
      have hlt := (List.getElem?_eq_some_iff.1 this.2).1
      have h2 := this.2
      rw [Nat.sub_zero] at h2 hlt
      rw [Array.getElem?_append_left (by simpa using hlt)]
      simpa using h2
  · intro e a w hq
    cases e <;> first | exact hq | exact hq.elim
theorem End.goC {P : Program} {n : Nat} {w0 : World} {L : List (Nat × Value)} {A R : List Asn} {fn : Func} {F : List Asn} {ρ : Type} {val : ρ → Value} {post : ρ → List Asn} {Q : Act → World → Prop} {f : FuncId} {caps : List Value} {ρ' : Type} {pre : List Asn} {post' : ρ' → List Asn} (h : End P fn n w0 F val post Q)
    (hc : CtD P f caps pre post') (hcf : cfn P f = true) (k : ∀ r', ∃ r, Rs P fn n L (post' r' ++ R) (val r) ∧ Sub (post' r' ++ R) (post r ++ F)) (hE : Gv A pre R := by repeat (first | with_reducible exact Gv.nil | (with_reducible apply Gv.cons; · (repeat (first | with_reducible exact Ext.here | with_reducible apply Ext.there))))) :
    Ps ⟨none, [{ target := .fn (.func f) caps.toArray, args := #[] }]⟩ Q w0 n L A :=
  h _ _ _ rfl (.inr ⟨.func f, caps.toArray, f, caps, ρ', pre, R, post', rfl, fun w => by simp [invoke, run_callFunc hcf], hc, hE, fun r' => k r'⟩)
theorem gt_some {l : List MapEntry} {k : Int} : (gt k l).isSome = true ↔ k ∈ l.map ky := by
  unfold gt
  cases h : pos k l with
  | none =>
    have := pos_none h
    simp
    intro e he
    exact this e he
  | some j =>
    obtain ⟨e, he, hk⟩ := pos_some h
    simp [he]
    exact ⟨e, List.mem_of_getElem? he, hk⟩
theorem MW.card {l : List MapEntry} {ck : Nat} {φ : Int → Option Value} (h : MW l ck φ) {N : Nat} (hN : ∀ k, (φ k).isSome = true → 0 ≤ k ∧ k < N) : l.length = (List.range N).countP fun k => (φ ((k : Nat) : Int)).isSome := by
  have h1 : (l.map ky).Perm (((List.range N).filter fun k => (φ ((k : Nat) : Int)).isSome).map fun k => ((k : Nat) : Int)) := by
    rw [List.perm_ext_iff_of_nodup h.nd]
    · intro k
      rw [← gt_some, h.get]
      simp only [List.mem_map, List.mem_filter, List.mem_range]
      constructor
      · intro hk
        have := hN k hk
        refine ⟨k.toNat, ⟨by omega, ?_⟩, by omega⟩
        rw [show ((k.toNat : Nat) : Int) = k by omega]; exact hk
      · rintro ⟨j, ⟨_, hj⟩, rfl⟩; exact hj
    · unfold List.Nodup
      rw [List.pairwise_map]
      have hn : List.Nodup ((List.range N).filter fun k => (φ ((k : Nat) : Int)).isSome) := List.Pairwise.filter _ List.nodup_range
      exact hn.imp fun h e => h (Int.ofNat_inj.1 e)
  have h2 := h1.length_eq
  rw [List.length_map, List.length_map] at h2
  rw [h2, List.countP_eq_length_filter]
theorem Rd_lenM {P : Program} {n : Nat} {L : List (Nat × Value)} {A : List Asn} {d : Option Tmp} {ty : TypeId} {pos' : String} {af : Array Edge} {g : Option (Nat × Bool)} {t kt et : TypeId} {ts : Array TypeId} {x : Operand} {m : Nat} {φ : Int → Option Value} (hx : ev L x = some (.map (some m))) (ht : ts[0]? = some t) (hu : P.underlying t = some (.map kt et)) (N : Nat) (hN : ∀ k, (φ k).isSome = true → 0 ≤ k ∧ k < N)
    (hA : Has A (mpI m φ) := by repeat (first | with_reducible exact Has.here | with_reducible refine Has.there ?_)) : Rd P n ⟨d, .call ⟨.builtin .len, #[x], ts⟩, ty, pos', af, g⟩ L A (.int .i64 (((List.range N).countP fun k => (φ ((k : Nat) : Int)).isSome : Nat) : Int)) := fun a w hf hs => by
  obtain ⟨R, p⟩ := hA
  obtain ⟨es, ck, hM, hs'⟩ := mpI_open (sat_perm p hs)
  have hm := sat_pt hs'
  have hc := hM.card hN
  simp [execOp, resolve, invoke, Go.builtin, Builtin.len_, hf.eval hx, ht, run_und hu, goInt, run_getObj hm, ← hc]
theorem Rd_iface {P : Program} {n : Nat} {L : List (Nat × Value)} {A : List Asn} {d : Option Tmp} {ty : TypeId} {pos' : String} {af : Array Edge} {g : Option (Nat × Bool)} {t kt et : TypeId} {x : Operand} {m : Nat} (hx : ev L x = some (.map (some m))) (hu : P.underlying t = some (.map kt et)) : Rd P n ⟨d, .makeInterface t x, ty, pos', af, g⟩ L A (.iface t (.map (some m))) := fun a w hf hs => by
  simp [execOp, hf.eval hx, Instr.makeInterface, run_und hu]
theorem Rd_assertM {P : Program} {n : Nat} {L : List (Nat × Value)} {A : List Asn} {d : Option Tmp} {ty : TypeId} {pos' : String} {af : Array Edge} {g : Option (Nat × Bool)} {t xT kt et : TypeId} {x : Operand} {v : Value} (hx : ev L x = some (.iface t v)) (hu : P.underlying t = some (.map kt et)) : Rd P n ⟨d, .typeAssert x xT t false, ty, pos', af, g⟩ L A v := fun a w hf hs => by
  simp [execOp, hf.eval hx, Instr.typeAssert, run_und hu]
theorem equal_mapnil {P : Program} {t kt et : TypeId} {m : Nat} (hu : P.underlying t = some (.map kt et)) (d : Nat) (w : World) : (Op.equalIn (d + 1) t (.map (some m)) (.map none)).run P w = .ok false w := by
  simp [Op.equalIn, run_und hu]
theorem Rd_meqN {P : Program} {n : Nat} {L : List (Nat × Value)} {A : List Asn} {d : Option Tmp} {ty t' : TypeId} {pos' : String} {af : Array Edge} {g : Option (Nat × Bool)} {t kt et : TypeId} {x y : Operand} {m : Nat} (hx : ev L x = some (.map (some m))) (hy : ev L y = some (.map none)) (hu : P.underlying t = some (.map kt et)) : Rd P n ⟨d, .binOp .eql t x y t', ty, pos', af, g⟩ L A (.bool false) := fun a w hf hs => by
  have h : (Op.equal t (.map (some m)) (.map none)).run P w = .ok false w := equal_mapnil hu 9999 w
  simp [execOp, hf.eval hx, hf.eval hy, Go.binOp, eqGuard, h]
theorem Ac_cloneM {P : Program} {n : Nat} {L : List (Nat × Value)} {A : List Asn} {d : Option Tmp} {ty : TypeId} {pos' : String} {af : Array Edge} {g : Option (Nat × Bool)} {ts : Array TypeId} {f : FuncId} {fn : Func} {x : Operand} {T : TypeId} {m : Nat} {φ : Int → Option Value} (hx : ev L x = some (.iface T (.map (some m)))) (hf' : P.funcs[f]? = some fn) (hname : (fn.name == "runtime.NumGoroutine") = false)
    (hb : fn.body.isNone = true) (hn : Extern.findNext fn = none) (he : Extern.find fn = some Extern.MapsClone.clone) (hA : Has A (mpI m φ) := by repeat (first | with_reducible exact Has.here | with_reducible refine Has.there ?_)) :
    Ac P n ⟨d, .call ⟨.value (.func f), #[x], ts⟩, ty, pos', af, g⟩ L A (fun v A' => ∃ m', v = .iface T (.map (some m')) ∧ A' = mpI m' φ :: A) :=
  Ac_run fun a w hf hs => by
    obtain ⟨R, p⟩ := hA
    obtain ⟨es, ck, hM, hs'⟩ := mpI_open (sat_perm p hs)
    have hm := sat_pt hs'
    refine ⟨.iface T (.map (some w.heap.size)), w.alloc (.map es ck), _, .inl ?_, ⟨w.heap.size, rfl, rfl⟩, mpI_shut hM (sat_new (w := w) (w' := w.alloc (.map es ck)) (o := .map es ck) rfl hs), ?_⟩
    · have e : (Extern.MapsClone.clone #[.iface T (.map (some m))]).run P w = .ok (.iface T (.map (some w.heap.size))) (w.alloc (.map es ck)) := by
        have e1 : Extern.MapsClone.clone #[.iface T (.map (some m))] = (getObj m >>= fun o => match o with
            | .map entries clock => (newObj (.map entries clock) >>= fun n => pure (.iface T (.map (some n))))
            | _ => stuck "maps.clone: a map expected") := rfl
        rw [e1]
        simp [run_getObj hm, Result.andThen, go_sem]
      have hfv : a.eval (.func f) = .func (.func f) #[] #[] := rfl
      simp [execOp, resolve, hfv, Deferred.ofValue, invoke, hf.eval hx, run_callFunc_extern hf' hname hb hn he, e]
    · exact ⟨rfl, rfl, rfl, by simp, Nat.le_refl _⟩
end Go.SL
