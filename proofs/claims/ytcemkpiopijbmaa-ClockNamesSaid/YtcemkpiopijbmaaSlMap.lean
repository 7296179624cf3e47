/-
  Maps whose keys are whole numbers, as the logic sees them: what stands under which key. Look-up, store, delete, the two halves of an assignment. (Conditions: none; generic over the program.)
-/
import Derived.Test.YtcemkpiopijbmaaSlEq
set_option linter.all false
namespace Go.SL
open Go.RowKit

def ky (e : MapEntry) : Int := match e.key with | .int _ k => k | _ => 0
def pos (k : Int) : List MapEntry → Option Nat
  | [] => none
  | e :: r => if ky e = k then some 0 else (pos k r).map (· + 1)
def gt (k : Int) (l : List MapEntry) : Option Value := (pos k l).bind fun j => l[j]?.map (·.val)
def okk (l : List MapEntry) : Prop := ∀ e ∈ l, e.key = .int .i64 (ky e)
structure MW (l : List MapEntry) (ck : Nat) (φ : Int → Option Value) : Prop where
  keys : okk l
  nd : (l.map ky).Nodup
  born : ∀ e ∈ l, e.born < ck
  bnd : (l.map (·.born)).Nodup
  get : ∀ k, gt k l = φ k
/-- the map m: under k stands φ k -/
def mpI (m : Nat) (φ : Int → Option Value) : Asn := fun h => ∃ x : Array MapEntry × Nat, MW x.1.toList x.2 φ ∧ pt m (.map x.1 x.2) h
/-- the same, between the two halves of an assignment: the entry of key k bears the stamp s -/
def mpE (m : Nat) (φ : Int → Option Value) (k : Int) (s : Int) : Asn := fun h => ∃ x : Array MapEntry × Nat, (MW x.1.toList x.2 φ ∧ ∃ j : Nat, ∃ e : MapEntry, x.1.toList[j]? = some e ∧ ky e = k ∧ (e.born : Int) = s) ∧ pt m (.map x.1 x.2) h
def upd (φ : Int → Option Value) (k : Int) (v : Option Value) : Int → Option Value := fun j => if j = k then v else φ j

theorem upd_upd (φ : Int → Option Value) (k : Int) (u v : Option Value) : upd (upd φ k u) k v = upd φ k v := by funext j; unfold upd; split <;> rfl
theorem pos_some {k : Int} : ∀ {l : List MapEntry} {j : Nat}, pos k l = some j → ∃ e, l[j]? = some e ∧ ky e = k
  | [], j, h => by simp [pos] at h
  | e :: r, j, h => by
    unfold pos at h
    split at h
    · simp at h; subst h; exact ⟨e, rfl, ‹_›⟩
    · cases hr : pos k r with
      | none => rw [hr] at h; simp at h
      | some i => rw [hr] at h; simp at h; subst h; simpa using pos_some hr
theorem pos_none {k : Int} : ∀ {l : List MapEntry}, pos k l = none → ∀ e ∈ l, ky e ≠ k
  | [], _, e, he => by simp at he
  | e :: r, h, x, hx => by
    unfold pos at h
    split at h
    · cases h
    · rcases List.mem_cons.1 hx with rfl | hx
      · assumption
      · exact pos_none (by cases hr : pos k r <;> simp_all) x hx
theorem pos_of {k : Int} {l : List MapEntry} (nd : (l.map ky).Nodup) {j : Nat} {e : MapEntry} (h : l[j]? = some e) (hk : ky e = k) : pos k l = some j := by
  cases hp : pos k l with
  | none => exact absurd hk (pos_none hp e (List.mem_of_getElem? h))
  | some i =>
    obtain ⟨e', h', hk'⟩ := pos_some hp
    obtain ⟨hi, _⟩ := List.getElem?_eq_some_iff.1 h'
    obtain ⟨hj, _⟩ := List.getElem?_eq_some_iff.1 h
    have := List.getElem_inj (h₀ := (by simpa using hi)) (h₁ := (by simpa using hj)) nd (i := i) (j := j)
    simp only [List.getElem_map] at this
    rw [(List.getElem?_eq_some_iff.1 h').2, (List.getElem?_eq_some_iff.1 h).2, hk, hk'] at this
    rw [this.1 rfl]
theorem pos_set {k : Int} : ∀ {l : List MapEntry} {j : Nat} {e e' : MapEntry}, l[j]? = some e → ky e' = ky e → pos k (l.set j e') = pos k l
  | [], j, e, e', h, _ => by simp at h
  | x :: r, 0, e, e', h, hk => by simp at h; subst h; simp [pos, hk]
  | x :: r, j + 1, e, e', h, hk => by simp at h; simp only [List.set_cons_succ, pos]; rw [pos_set h hk]
theorem pos_push {k : Int} {e : MapEntry} : ∀ {l : List MapEntry}, pos k (l ++ [e]) = match pos k l with | some j => some j | none => if ky e = k then some l.length else none
  | [] => by simp [pos]
  | x :: r => by
    simp only [List.cons_append, pos]
    split
    · rfl
    · rw [pos_push (l := r)]
      cases pos k r with
      | some j => rfl
      | none => simp
theorem gt_set {k k' : Int} {l : List MapEntry} (nd : (l.map ky).Nodup) {j : Nat} {e : MapEntry} {v : Value} {b : Nat} (h : l[j]? = some e) (hk : ky e = k) :
    gt k' (l.set j { key := .int .i64 k, val := v, born := b }) = if k' = k then some v else gt k' l := by
  have hj := (List.getElem?_eq_some_iff.1 h).1
  unfold gt
  rw [pos_set h (by simp [ky] at hk ⊢; exact hk.symm)]
  split
  · rename_i e1; subst e1; rw [pos_of nd h hk]; simp [hj]
  · rename_i hne
    cases hp : pos k' l with
    | none => rfl
    | some i =>
      obtain ⟨e', h', hk'⟩ := pos_some hp
      have : j ≠ i := by intro hji; subst hji; rw [h] at h'; cases h'; exact hne (hk'.symm.trans hk)
      simp [List.getElem?_set, this]
theorem gt_push {k k' : Int} {l : List MapEntry} {v : Value} {b : Nat} (hp : pos k l = none) :
    gt k' (l ++ [{ key := .int .i64 k, val := v, born := b }]) = if k' = k then some v else gt k' l := by
  unfold gt
  rw [pos_push]
  by_cases hne : k' = k
  · subst hne; rw [hp]; simp [ky]
  · rw [if_neg hne]
    cases h2 : pos k' l with
    | none => simp [ky, Ne.symm hne]
    | some i =>
      obtain ⟨e', h', _⟩ := pos_some h2
      have := (List.getElem?_eq_some_iff.1 h').1
      simp [List.getElem?_append, this]
theorem gt_erase {k' : Int} : ∀ {l : List MapEntry} {j : Nat} {e : MapEntry}, (l.map ky).Nodup → l[j]? = some e → gt k' (l.eraseIdx j) = if k' = ky e then none else gt k' l
  | [], j, e, _, h => by simp at h
  | x :: r, 0, e, nd, h => by
    simp at h; subst h
    simp only [List.eraseIdx_cons_zero]
    simp only [List.map_cons, List.nodup_cons] at nd
    split
    · rename_i e1
      unfold gt
      cases hp : pos k' r with
      | none => rfl
      | some i =>
        obtain ⟨e', h', hk'⟩ := pos_some hp
        exact absurd (List.mem_map.2 ⟨e', List.mem_of_getElem? h', hk'.trans e1⟩) nd.1
    · rename_i hne
      unfold gt
      simp only [pos, if_neg (Ne.symm hne)]
      cases pos k' r <;> simp
  | x :: r, j + 1, e, nd, h => by
    simp at h
    have nd' := nd
    simp only [List.map_cons, List.nodup_cons] at nd
    have ih := gt_erase (k' := k') nd.2 h
    simp only [List.eraseIdx_cons_succ]
    unfold gt at ih ⊢
    simp only [pos]
    by_cases hx : ky x = k'
    · rw [if_pos hx]
      have : k' ≠ ky e := by
        intro h2
        exact nd.1 (List.mem_map.2 ⟨e, List.mem_of_getElem? h, h2.symm.trans hx.symm⟩)
      simp [hx, this]
    · simp only [if_neg hx]
      cases h1 : pos k' (r.eraseIdx j) <;> cases h2 : pos k' r <;> rw [h1, h2] at ih <;> first | (simp; done) | (simp at ih ⊢; exact ih) | (simp at ih ⊢; omega)
section
variable {P : Program}
theorem run_findKey {t : TypeId} {ik : IntKind} (hu : P.underlying t = some (.int ik)) {k : Int} {l : List MapEntry} (hl : okk l) (w : World) :
    (Instr.findKey t (.int .i64 k) l).run P w = .ok ((pos k l).map fun j => (j, (l[j]?.map (·.val)).getD undef)) w := by
  have key : ∀ (l : List MapEntry) (i : Nat), okk l → Instr.findNow (.int ik) (.int .i64 k) l i = some ((pos k l).map fun j => (i + j, (l[j]?.map (·.val)).getD undef)) := by
    intro l
    induction l with
    | nil => intro i _; rfl
    | cons e r ih =>
      intro i h
      have he := h e (by simp)
      unfold Instr.findNow
      rw [he]
      simp only [Instr.sameNow, if_true, pos]
      by_cases hk : ky e = k
      · simp [hk]
      · have : (k == ky e) = false := by simpa using Ne.symm hk
        simp only [this, if_neg hk]
        rw [ih (i + 1) (fun x hx => h x (by simp [hx]))]
        cases pos k r with
        | none => rfl
        | some j => simp; omega
  simp only [Instr.findKey, Sem.run_bind, run_und hu, Result.andThen_ok, key l 0 hl, Sem.run_pure, Nat.zero_add]
theorem run_checkKey {t : TypeId} {ik : IntKind} (hu : P.underlying t = some (.int ik)) {b : Bool} {k : Int} (w : World) : (Instr.checkKey b 10000 t (.int .i64 k)).run P w = .ok () w := by
  have : Instr.checkKey b 10000 t (.int .i64 k) = Instr.checkKey b (9999 + 1) t (.int .i64 k) := rfl
  rw [this, Instr.checkKey]
  simp only [Sem.run_bind, run_und hu, Result.andThen_ok, Sem.run_pure]
theorem run_getObj {w : World} {m : Nat} {es : Array MapEntry} {ck : Nat} (h : w.heap[m]? = some (.map es ck)) : (getObj m).run P w = .ok (.map es ck) w := by
  simp [getObj, Sem.run, h]
theorem run_setObj {w : World} {m : Nat} {es es' : Array MapEntry} {ck ck' : Nat} (h : w.heap[m]? = some (.map es ck)) : (setObj m (.map es' ck')).run P w = .ok () { w with heap := w.heap.setIfInBounds m (.map es' ck') } := by
  simp [setObj, Sem.run, h]
theorem mpI_open {m : Nat} {φ : Int → Option Value} {R : List Asn} {w : World} (h : sat w (mpI m φ :: R)) : ∃ es ck, MW es.toList ck φ ∧ sat w (pt m (.map es ck) :: R) := by
  obtain ⟨⟨es, ck⟩, h⟩ := sat_ex.1 h
  obtain ⟨h1, h2⟩ := sat_and.1 h
  exact ⟨es, ck, h1, h2⟩
theorem mpI_shut {m : Nat} {φ : Int → Option Value} {R : List Asn} {w : World} {es : Array MapEntry} {ck : Nat} (h : MW es.toList ck φ) (hs : sat w (pt m (.map es ck) :: R)) : sat w (mpI m φ :: R) :=
  sat_ex.2 ⟨(es, ck), sat_and.2 ⟨h, hs⟩⟩
theorem set_map {w : World} {m : Nat} {o o' : Obj} {R : List Asn} (hs : sat w (pt m o :: R)) : sat { w with heap := w.heap.setIfInBounds m o' } (pt m o' :: R) := by
  have hm := sat_pt hs
  have hlt := (Array.getElem?_eq_some_iff.1 hm).1
  refine sat_upd (by simp [hlt]) (fun c hc x hx => ?_) hs
  simp [Ne.symm hc]; exact hx
theorem kept_set {w : World} {m : Nat} {o : Obj} : Kept w { w with heap := w.heap.setIfInBounds m o } := ⟨rfl, rfl, rfl, by simp⟩
theorem modify_set {α : Type} {f : α → α} : ∀ {l : List α} {j : Nat} {e : α}, l[j]? = some e → l.modify j f = l.set j (f e)
  | [], j, e, h => by simp at h
  | x :: r, 0, e, h => by simp at h; subst h; simp
  | x :: r, j + 1, e, h => by simp at h; simp [modify_set h]
theorem MW_upd {l : List MapEntry} {ck : Nat} {φ : Int → Option Value} (h : MW l ck φ) {j : Nat} {e : MapEntry} (hj : l[j]? = some e) {k : Int} (hk : ky e = k) (v : Value) : MW (l.set j { key := .int .i64 k, val := v, born := e.born }) ck (upd φ k (some v)) := by
  have hlt := (List.getElem?_eq_some_iff.1 hj).1
  have he := (List.getElem?_eq_some_iff.1 hj).2
  have hm : (l.set j { key := .int .i64 k, val := v, born := e.born }).map ky = l.map ky := by
    rw [List.map_set]
    have : ky { key := .int .i64 k, val := v, born := e.born } = (l.map ky)[j]'(by simpa using hlt) := by simp [ky, he] at hk ⊢; exact hk.symm
    rw [this, List.set_getElem_self]
  have hm2 : (l.set j { key := .int .i64 k, val := v, born := e.born }).map (·.born) = l.map (·.born) := by
    rw [List.map_set]
    have : e.born = (l.map (·.born))[j]'(by simpa using hlt) := by simp [he]
    show (l.map (·.born)).set j e.born = _
    rw [this, List.set_getElem_self]
  refine ⟨fun x hx => ?_, by rw [hm]; exact h.nd, fun x hx => ?_, by rw [hm2]; exact h.bnd, fun k' => ?_⟩
  · rcases List.mem_or_eq_of_mem_set hx with hx | rfl
    · exact h.keys x hx
    · simp [ky]
  · rcases List.mem_or_eq_of_mem_set hx with hx | rfl
    · exact h.born x hx
    · exact h.born e (List.mem_of_getElem? hj)
  · rw [gt_set h.nd hj hk]; unfold upd; split <;> simp_all [h.get]
theorem MW_push {l : List MapEntry} {ck : Nat} {φ : Int → Option Value} (h : MW l ck φ) {k : Int} (hp : pos k l = none) (v : Value) : MW (l ++ [{ key := .int .i64 k, val := v, born := ck }]) (ck + 1) (upd φ k (some v)) := by
  refine ⟨fun x hx => ?_, ?_, fun x hx => ?_, ?_, fun k' => ?_⟩
  · rcases List.mem_append.1 hx with hx | hx
    · exact h.keys x hx
    · simp at hx; subst hx; simp [ky]
  · rw [List.map_append, List.nodup_append]
    refine ⟨h.nd, by simp, fun a ha b hb => ?_⟩
    simp at hb; subst hb
    obtain ⟨e, he, rfl⟩ := List.mem_map.1 ha
    exact pos_none hp e he
  · rcases List.mem_append.1 hx with hx | hx
    · have := h.born x hx; omega
    · simp at hx; subst hx; exact Nat.lt_succ_self _
  · rw [List.map_append, List.nodup_append]
    refine ⟨h.bnd, by simp, fun a ha b hb => ?_⟩
    simp at hb; subst hb
    obtain ⟨e, he, rfl⟩ := List.mem_map.1 ha
    exact Nat.ne_of_lt (h.born e he)
  · rw [gt_push hp]; unfold upd; split <;> simp_all [h.get]
theorem MW_erase {l : List MapEntry} {ck : Nat} {φ : Int → Option Value} (h : MW l ck φ) {j : Nat} {e : MapEntry} (hj : l[j]? = some e) {k : Int} (hk : ky e = k) : MW (l.eraseIdx j) ck (upd φ k none) := by
  refine ⟨fun x hx => h.keys x ((List.eraseIdx_sublist l j).mem hx), ?_, fun x hx => h.born x ((List.eraseIdx_sublist l j).mem hx), ?_, fun k' => ?_⟩
  · exact h.nd.sublist ((List.eraseIdx_sublist l j).map ky)
  · exact h.bnd.sublist ((List.eraseIdx_sublist l j).map (·.born))
  · rw [gt_erase h.nd hj, hk]; unfold upd; split <;> simp_all [h.get]
theorem MW_none {l : List MapEntry} {ck : Nat} {φ : Int → Option Value} (h : MW l ck φ) {k : Int} : φ k = none ↔ pos k l = none := by
  rw [← h.get k]; unfold gt
  cases hp : pos k l with
  | none => simp
  | some j => obtain ⟨e, he, _⟩ := pos_some hp; simp [he]
variable {n : Nat} {L : List (Nat × Value)} {A : List Asn} {d : Option Tmp} {ty : TypeId} {pos' : String} {af : Array Edge} {g : Option (Nat × Bool)}
theorem Ac_makeMap {t : TypeId} : Ac P n ⟨d, .makeMap t none, ty, pos', af, g⟩ L A (fun v A' => ∃ m, v = .map (some m) ∧ A' = mpI m (fun _ => none) :: A) :=
  Ac_run fun a w hf hs => by
    refine ⟨_, { w with heap := w.heap.push (.map #[] 0) }, _, .inl ?_, ⟨w.heap.size, rfl, rfl⟩, ?_, kept_new⟩
    · simp [execOp, Instr.makeMap]
    · exact mpI_shut (es := #[]) (ck := 0) ⟨fun e he => by simp at he, by simp, fun e he => by simp at he, by simp, fun k => rfl⟩ (sat_new (w := w) (w' := { w with heap := w.heap.push (.map #[] 0) }) (o := .map #[] 0) rfl hs)
/-- v, ok := m[k] -/
theorem Rd_lookup2 {t kt et : TypeId} {ik : IntKind} {x y : Operand} {m : Nat} {φ : Int → Option Value} {k : Int} {z : Value} (hx : ev L x = some (.map (some m))) (hy : ev L y = some (.int .i64 k)) (hu : P.underlying t = some (.map kt et)) (hk : P.underlying kt = some (.int ik))
    (hz : ∀ w, (zeroValue et).run P w = .ok z w) (hA : Has A (mpI m φ) := by repeat (first | with_reducible exact Has.here | with_reducible refine Has.there ?_)) : Rd P n ⟨d, .lookup t x y true, ty, pos', af, g⟩ L A (.tuple #[(φ k).getD z, .bool (φ k).isSome]) := fun a w hf hs => by
  obtain ⟨R, p⟩ := hA
  obtain ⟨es, ck, hM, hs'⟩ := mpI_open (sat_perm p hs)
  have hm := sat_pt hs'
  simp only [execOp, hf.eval hx, hf.eval hy, Instr.lookup, Sem.run_bind, run_und hu, Result.andThen_ok, run_getObj hm, Sem.run_pure, run_checkKey hk, run_findKey hk hM.keys]
  rw [← hM.get k]
  unfold gt
  cases hp : pos k es.toList with
  | none => simp [hz]
  | some j => obtain ⟨e, he, _⟩ := pos_some hp; simp at he; simp [he]
theorem Rd_lookup1 {t kt et : TypeId} {ik : IntKind} {x y : Operand} {m : Nat} {φ : Int → Option Value} {k : Int} {z : Value} (hx : ev L x = some (.map (some m))) (hy : ev L y = some (.int .i64 k)) (hu : P.underlying t = some (.map kt et)) (hk : P.underlying kt = some (.int ik))
    (hz : ∀ w, (zeroValue et).run P w = .ok z w) (hA : Has A (mpI m φ) := by repeat (first | with_reducible exact Has.here | with_reducible refine Has.there ?_)) : Rd P n ⟨d, .lookup t x y false, ty, pos', af, g⟩ L A ((φ k).getD z) := fun a w hf hs => by
  obtain ⟨R, p⟩ := hA
  obtain ⟨es, ck, hM, hs'⟩ := mpI_open (sat_perm p hs)
  have hm := sat_pt hs'
  simp only [execOp, hf.eval hx, hf.eval hy, Instr.lookup, Sem.run_bind, run_und hu, Result.andThen_ok, run_getObj hm, Sem.run_pure, run_checkKey hk, run_findKey hk hM.keys]
  rw [← hM.get k]
  unfold gt
  cases hp : pos k es.toList with
  | none => simp [hz]
  | some j => obtain ⟨e, he, _⟩ := pos_some hp; simp at he; simp [he]
/-- m[k] = v -/
theorem Ac_mapUpdate {t kt et : TypeId} {ik : IntKind} {x y z : Operand} {m : Nat} {φ : Int → Option Value} {k : Int} {v : Value} {R : List Asn} (hx : ev L x = some (.map (some m))) (hy : ev L y = some (.int .i64 k)) (hz : ev L z = some v) (hu : P.underlying t = some (.map kt et)) (hk : P.underlying kt = some (.int ik))
    (hE : Ext A (mpI m φ) R := by repeat (first | with_reducible exact Ext.here | with_reducible apply Ext.there)) : Ac P n ⟨d, .mapUpdate t x y z, ty, pos', af, g⟩ L A (fun _ A' => A' = mpI m (upd φ k (some v)) :: R) :=
  Ac_run fun a w hf hs => by
    obtain ⟨es, ck, hM, hs'⟩ := mpI_open (sat_perm hE hs)
    have hm := sat_pt hs'
    cases hp : pos k es.toList with
    | some j =>
      obtain ⟨e, he, hke⟩ := pos_some hp
      have he' : es[j]? = some e := by simpa using he
      have hkey : e.key = .int .i64 k := by rw [hM.keys e (List.mem_of_getElem? he), hke]
      refine ⟨_, { w with heap := w.heap.setIfInBounds m (.map (es.modify j fun e => { e with key := .int .i64 k, val := v }) ck) }, _, .inr ⟨?_, rfl⟩, rfl, ?_, kept_set⟩
      · simp [execOp, hf.eval hx, hf.eval hy, hf.eval hz, Instr.mapUpdate, run_und hu, run_getObj hm, run_checkKey hk, run_findKey hk hM.keys, hp, he', Instr.keyThatStays, hkey, Instr.sameBits, run_setObj hm]
      · refine mpI_shut ?_ (set_map hs')
        have : (es.modify j fun e => { e with key := .int .i64 k, val := v }).toList = es.toList.set j { key := .int .i64 k, val := v, born := e.born } := by
          rw [Array.toList_modify, modify_set he]
        rw [this]
        exact MW_upd hM he hke v
    | none =>
      refine ⟨_, { w with heap := w.heap.setIfInBounds m (.map (es.push { key := .int .i64 k, val := v, born := ck }) (ck + 1)) }, _, .inr ⟨?_, rfl⟩, rfl, ?_, kept_set⟩
      · simp [execOp, hf.eval hx, hf.eval hy, hf.eval hz, Instr.mapUpdate, run_und hu, run_getObj hm, run_checkKey hk, run_findKey hk hM.keys, hp, run_setObj hm]
      · refine mpI_shut ?_ (set_map hs')
        rw [Array.toList_push]
        exact MW_push hM hp v
/-- delete(m, k) -/
theorem Ac_delete {t t' kt et : TypeId} {ik : IntKind} {x y : Operand} {m : Nat} {φ : Int → Option Value} {k : Int} {R : List Asn} (hx : ev L x = some (.map (some m))) (hy : ev L y = some (.int .i64 k)) (hu : P.underlying t = some (.map kt et)) (hk : P.underlying kt = some (.int ik))
    (hE : Ext A (mpI m φ) R := by repeat (first | with_reducible exact Ext.here | with_reducible apply Ext.there)) : Ac P n ⟨d, .call ⟨.builtin .delete, #[x, y], #[t, t']⟩, ty, pos', af, g⟩ L A (fun _ A' => A' = mpI m (upd φ k none) :: R) :=
  Ac_run fun a w hf hs => by
    obtain ⟨es, ck, hM, hs'⟩ := mpI_open (sat_perm hE hs)
    have hm := sat_pt hs'
    cases hp : pos k es.toList with
    | some j =>
      obtain ⟨e, he, hke⟩ := pos_some hp
      refine ⟨.tuple #[], { w with heap := w.heap.setIfInBounds m (.map (es.eraseIdxIfInBounds j) ck) }, _, .inl ?_, rfl, ?_, kept_set⟩
      · simp [execOp, resolve, invoke, Go.builtin, hf.eval hx, hf.eval hy, Builtin.delete_, run_und hu, run_getObj hm, run_checkKey hk, run_findKey hk hM.keys, hp, run_setObj hm]
      · refine mpI_shut ?_ (set_map hs')
        have hlt := (List.getElem?_eq_some_iff.1 he).1
        have : (es.eraseIdxIfInBounds j).toList = es.toList.eraseIdx j := by
          rw [Array.eraseIdxIfInBounds, dif_pos (by simpa using hlt)]; simp
        rw [this]
        exact MW_erase hM he hke
    | none =>
      refine ⟨.tuple #[], { w with heap := w.heap.setIfInBounds m (.map es ck) }, _, .inl ?_, rfl, ?_, kept_set⟩
      · simp [execOp, resolve, invoke, Go.builtin, hf.eval hx, hf.eval hy, Builtin.delete_, run_und hu, run_getObj hm, run_checkKey hk, run_findKey hk hM.keys, hp, run_setObj hm]
      · refine mpI_shut ⟨hM.keys, hM.nd, hM.born, hM.bnd, fun k' => ?_⟩ (set_map hs')
        rw [hM.get]; unfold upd; split
        · rename_i e1; subst e1; exact (MW_none hM).2 hp
        · rfl
/-- the first half of m[k] = v in a statement of several: the entry -/
theorem Ac_mapEntry {t kt et : TypeId} {ik : IntKind} {x y : Operand} {m : Nat} {φ : Int → Option Value} {k : Int} {z : Value} {R : List Asn} (hx : ev L x = some (.map (some m))) (hy : ev L y = some (.int .i64 k)) (hu : P.underlying t = some (.map kt et)) (hk : P.underlying kt = some (.int ik))
    (hz : ∀ w, (zeroValue et).run P w = .ok z w) (hE : Ext A (mpI m φ) R := by repeat (first | with_reducible exact Ext.here | with_reducible apply Ext.there)) : Ac P n ⟨d, .mapEntry t x y, ty, pos', af, g⟩ L A (fun v A' => ∃ s, v = .tuple #[(φ k).getD z, .int .i64 s] ∧ A' = mpE m (upd φ k (some ((φ k).getD z))) k s :: R) :=
  Ac_run fun a w hf hs => by
    obtain ⟨es, ck, hM, hs'⟩ := mpI_open (sat_perm hE hs)
    have hm := sat_pt hs'
    have hg := hM.get k
    unfold gt at hg
    cases hp : pos k es.toList with
    | some j =>
      obtain ⟨e, he, hke⟩ := pos_some hp
      have he' : es[j]? = some e := by simpa using he
      have hkey : e.key = .int .i64 k := by rw [hM.keys e (List.mem_of_getElem? he), hke]
      have hφ : φ k = some e.val := by rw [← hg, hp]; simp [he']
      have hl : (es.modify j fun e => { e with key := .int .i64 k }).toList = es.toList.set j { key := .int .i64 k, val := e.val, born := e.born } := by
        rw [Array.toList_modify, modify_set he]
      refine ⟨.tuple #[(φ k).getD z, .int .i64 e.born], { w with heap := w.heap.setIfInBounds m (.map (es.modify j fun e => { e with key := .int .i64 k }) ck) }, _, .inl ?_, ⟨e.born, rfl, rfl⟩, ?_, kept_set⟩
      · simp [execOp, hf.eval hx, hf.eval hy, Instr.mapEntry, run_und hu, run_getObj hm, run_checkKey hk, run_findKey hk hM.keys, hp, he', Instr.keyThatStays, hkey, Instr.sameBits, run_setObj hm, hφ, goInt]
      · refine sat_ex.2 ⟨(_, ck), sat_and.2 ⟨⟨?_, j, { key := .int .i64 k, val := e.val, born := e.born }, ?_, by simp [ky], rfl⟩, set_map hs'⟩⟩
        · show MW (es.modify j fun e => { e with key := .int .i64 k }).toList ck _
          rw [hl, hφ]; exact MW_upd hM he hke e.val
        · show (es.modify j fun e => { e with key := .int .i64 k }).toList[j]? = _
          rw [hl, List.getElem?_set, if_pos rfl, if_pos (List.getElem?_eq_some_iff.1 he).1]
    | none =>
      have hφ : φ k = none := (MW_none hM).2 hp
      refine ⟨.tuple #[(φ k).getD z, .int .i64 ck], { w with heap := w.heap.setIfInBounds m (.map (es.push { key := .int .i64 k, val := z, born := ck }) (ck + 1)) }, _, .inl ?_, ⟨ck, rfl, rfl⟩, ?_, kept_set⟩
      · simp [execOp, hf.eval hx, hf.eval hy, Instr.mapEntry, run_und hu, run_getObj hm, run_checkKey hk, run_findKey hk hM.keys, hp, hz, run_setObj hm, hφ, goInt]
      · refine sat_ex.2 ⟨(_, ck + 1), sat_and.2 ⟨⟨?_, es.size, { key := .int .i64 k, val := z, born := ck }, ?_, by simp [ky], rfl⟩, set_map hs'⟩⟩
        · show MW (es.push { key := .int .i64 k, val := z, born := ck }).toList (ck + 1) _
          rw [Array.toList_push, hφ]; exact MW_push hM hp z
        · simp
theorem Ac_entryStore {t : TypeId} {x y z : Operand} {m : Nat} {φ : Int → Option Value} {k s : Int} {v : Value} {R : List Asn} (hx : ev L x = some (.map (some m))) (hy : ev L y = some (.int .i64 s)) (hz : ev L z = some v) (hE : Ext A (mpE m φ k s) R := by repeat (first | with_reducible exact Ext.here | with_reducible apply Ext.there)) :
    Ac P n ⟨d, .entryStore t x y z, ty, pos', af, g⟩ L A (fun _ A' => A' = mpI m (upd φ k (some v)) :: R) :=
  Ac_run fun a w hf hs => by
    obtain ⟨⟨es, ck⟩, h1⟩ := sat_ex.1 (sat_perm hE hs)
    obtain ⟨⟨hM, j, e, he, hke, hbs⟩, hs'⟩ := sat_and.1 h1
    dsimp only at hM he hs'
    have hm := sat_pt hs'
    have hlt := (List.getElem?_eq_some_iff.1 he).1
    have he' : es[j]? = some e := by simpa using he
    have hkey : e.key = .int .i64 k := by rw [hM.keys e (List.mem_of_getElem? he), hke]
    have hfi : es.findIdx? (fun e => (e.born : Int) == s) = some j := by
      rw [Array.findIdx?_eq_some_iff_getElem]
      have hje : es[j]'(by simpa using hlt) = e := by have := (Array.getElem?_eq_some_iff.1 he').2; exact this
      refine ⟨by simpa using hlt, by rw [hje]; simpa using hbs, fun i hi => ?_⟩
      have hi' : i < es.size := by simp at hlt; omega
      intro hb
      have hb' : es[i].born = es[j].born := by rw [hje]; have : (es[i].born : Int) = s := by simpa using hb
                                               omega
      have := (List.getElem_inj (h₀ := (by simpa using hi')) (h₁ := (by simpa using hlt)) hM.bnd (i := i) (j := j)).1 (by simpa using hb')
      omega
    refine ⟨_, { w with heap := w.heap.setIfInBounds m (.map (es.modify j fun e => { e with val := v }) ck) }, _, .inr ⟨?_, rfl⟩, rfl, ?_, kept_set⟩
    · simp [execOp, hf.eval hx, hf.eval hy, hf.eval hz, Instr.entryStore, run_getObj hm, asInt, asIntOf, hfi, run_setObj hm]
    · refine mpI_shut ?_ (set_map hs')
      have : (es.modify j fun e => { e with val := v }).toList = es.toList.set j { key := .int .i64 k, val := v, born := e.born } := by
        rw [Array.toList_modify, modify_set he, hkey]
      rw [this]
      exact MW_upd hM he hke v
end
end Go.SL
