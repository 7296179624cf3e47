/-
  A literal of a struct or an array, a part of one, clear of a slice's end, a slice's literal. (Conditions: none; generic over the program.)
-/
import Derived.Test.YtcemkpiopijbmaaSlApp
set_option linter.all false
namespace Go.SL
open Go.RowKit

def setAt (off : Nat) : List Value → List Value → List Value
  | [], cs => cs
  | v :: r, cs => setAt (off + 1) r (cs.set off v)
/-- the parts laid into the cells: where a part lies, how many cells it has -/
def fillL (ps : List (Nat × Nat)) : List (Nat × Value) → List Value → Option (List Value)
  | [], cs => some cs
  | (i, v) :: r, cs => match ps[i]? with
    | none => none
    | some (off, k) => bif Nat.beq v.cells.size k && Nat.ble (off + k) cs.length then fillL ps r (setAt off v.cells.toList cs) else none
/-- the cells of a literal without parts; where its parts lie -/
def pls (P : Program) (t : TypeId) : Option (List Value × List (Nat × Nat)) :=
  (zr P t).bind fun zs => match P.underlying t with
    | some (.struct fs) => (fs.toList.mapM fun f => (sz P f.type).map fun k => (f.offset, k)).map fun ps => (zs, ps)
    | some (.array len e) => (sz P e).map fun k => (zs, (List.range len).map fun i => (i * k, k))
    | _ => none
theorem setAt_fold (off : Nat) : ∀ (vs : List Value) (j : Nat) (cs : Array Value), ((vs.zipIdx j).foldl (fun cs (x : Value × Nat) => cs.setIfInBounds (off + x.2) x.1) cs).toList = setAt (off + j) vs cs.toList
  | [], j, cs => rfl
  | v :: r, j, cs => by
    simp only [List.zipIdx_cons, List.foldl_cons, setAt]
    rw [setAt_fold off r (j + 1)]
    simp [Nat.add_assoc]
theorem fill_eq {place : Nat → Option (Nat × Nat)} {ps : List (Nat × Nat)} (hp : ∀ i x, ps[i]? = some x → place i = some x) : ∀ (l : List (Nat × Value)) (cs : Array Value) (xs : List Value), fillL ps l cs.toList = some xs → Instr.fill place cs l = some xs.toArray
  | [], cs, xs, h => by simp [fillL] at h; simp [Instr.fill, ← h]
  | (i, v) :: r, cs, xs, h => by
    unfold fillL at h
    split at h
    · cases h
    · rename_i off k hk
      rw [Bool.cond_eq_ite] at h
      split at h
      · rename_i hc
        rw [Bool.and_eq_true] at hc
        have hc1 := Nat.eq_of_beq_eq_true hc.1
        have hc2 := Nat.le_of_ble_eq_true hc.2
        rw [Array.length_toList] at hc2
        unfold Instr.fill
        rw [hp i _ hk]
        simp only
        rw [if_neg (by simp only [Bool.or_eq_true, decide_eq_true_eq]; intro h'; rcases h' with h' | h' <;> omega)]
        have := setAt_fold off v.cells.toList 0 cs
        rw [Nat.add_zero] at this
        rw [← this] at h
        have ih := fill_eq hp r _ xs h
        rw [← ih]
        congr 1
        rw [← Array.foldl_toList]
        simp
      · cases h
section
variable {P : Program} {n : Nat} {L : List (Nat × Value)} {A : List Asn} {d : Option Tmp} {ty : TypeId} {pos' : String} {af : Array Edge} {g : Option (Nat × Bool)}
theorem run_mapM_places {fs : List Field} : ∀ {ps : List (Nat × Nat)}, (fs.mapM fun f => (sz P f.type).map fun k => (f.offset, k)) = some ps → ∀ w, (fs.mapM fun f => (do pure (f.offset, ← sizeOf f.type) : Sem (Nat × Nat))).run P w = .ok ps w := by
  induction fs with
  | nil => intro ps h w; simp at h; subst h; simp
  | cons f r ih =>
    intro ps h w
    rw [List.mapM_cons] at h
    cases hz : sz P f.type with
    | none => rw [hz] at h; simp at h
    | some k =>
      rw [hz] at h
      simp only [Option.map_some, Option.bind_eq_bind, Option.bind_some, Option.pure_def] at h
      cases hr : (r.mapM fun f => (sz P f.type).map fun k => (f.offset, k)) with
      | none => rw [hr] at h; simp at h
      | some qs =>
        rw [hr] at h
        simp at h; subst h
        have := ih hr w
        simp only [List.mapM_cons, Sem.run_bind, run_size hz, Result.andThen_ok, Sem.run_pure, this]
theorem zr_cells {t : TypeId} {zs : List Value} (h : zr P t = some zs) : ∀ w, ∃ z : Value, z.cells.toList = zs ∧ (zeroValue t).run P w = .ok z w := fun w => by
  obtain ⟨z, hz, hr⟩ := run_zero h; exact ⟨z, hz, hr w⟩
def evp (L : List (Nat × Value)) : List (Nat × Operand) → Option (List (Nat × Value))
  | [] => some []
  | (i, x) :: r => match ev L x, evp L r with | some v, some vs => some ((i, v) :: vs) | _, _ => none
theorem Fr.evalp {a : Act} (h : Fr n L a) : ∀ {xs : List (Nat × Operand)} {vs : List (Nat × Value)}, evp L xs = some vs → xs.map (fun (i, x) => (i, a.eval x)) = vs
  | [], vs, e => by simp [evp] at e; simp [e]
  | (i, x) :: r, vs, e => by
    unfold evp at e
    split at e
    · rename_i v us hx hr
      simp only [Option.some.injEq] at e
      rw [← e, List.map_cons, Fr.evalp h hr]
      simp only [h.eval hx]
    · cases e
theorem range_place {len k i : Nat} {x : Nat × Nat} (h : ((List.range len).map fun i => (i * k, k))[i]? = some x) : some (i * k, k) = some x := by
  rw [List.getElem?_map] at h
  by_cases hi : i < len
  · rw [List.getElem?_range hi] at h; simpa using h
  · rw [List.getElem?_eq_none (by simpa using hi)] at h; cases h
theorem run_build {t : TypeId} {zs xs : List Value} {ps : List (Nat × Nat)} {parts : List (Nat × Value)} (hp : pls P t = some (zs, ps)) (hf : fillL ps parts zs = some xs) (w : World) : (Instr.build t parts.toArray).run P w = .ok (.agg xs.toArray) w := by
  unfold pls at hp
  cases hz : zr P t with
  | none => rw [hz] at hp; cases hp
  | some zs' =>
    rw [hz] at hp
    simp only [Option.bind_some] at hp
    obtain ⟨z, hzc, hzr⟩ := run_zero hz
    split at hp
    · rename_i fs hu
      cases hm : (fs.toList.mapM fun f => (sz P f.type).map fun k => (f.offset, k)) with
      | none => rw [hm] at hp; cases hp
      | some qs =>
        rw [hm] at hp
        simp only [Option.map_some, Option.some.injEq, Prod.mk.injEq] at hp
        obtain ⟨rfl, rfl⟩ := hp
        have h1 := run_mapM_places (P := P) hm w
        have h2 := fill_eq (place := fun i => qs.toArray[i]?) (ps := qs) (fun i x h => by simpa using h) parts z.cells xs (by rw [hzc]; exact hf)
        have h3 : (fs.mapM fun f => (do pure (f.offset, ← sizeOf f.type) : Sem (Nat × Nat))).run P w = .ok qs.toArray w := by
          rw [Array.mapM_eq_mapM_toList]
          simp only [Sem.run_map, h1, Result.andThen_ok]
        simp only [Instr.build, Sem.run_bind, hzr, Result.andThen_ok, run_und hu, h3, h2, Sem.run_pure]
    · rename_i len e hu
      cases hse : sz P e with
      | none => rw [hse] at hp; cases hp
      | some k =>
        rw [hse] at hp
        simp only [Option.map_some, Option.some.injEq, Prod.mk.injEq] at hp
        obtain ⟨rfl, rfl⟩ := hp
        have h2 := fill_eq (place := fun i => some (i * k, k)) (ps := (List.range len).map fun i => (i * k, k)) (fun i x h => range_place h) parts z.cells xs (by rw [hzc]; exact hf)
        simp only [Instr.build, Sem.run_bind, hzr, Result.andThen_ok, run_und hu, run_size hse, h2, Sem.run_pure]
    · cases hp
theorem Rd_build {t : TypeId} {zs xs : List Value} {ps : List (Nat × Nat)} {qs : Array (Nat × Operand)} {parts : List (Nat × Value)} (hp : pls P t = some (zs, ps)) (hq : evp L qs.toList = some parts) (hf : fillL ps parts zs = some xs := by simp only [fillL, setAt, List.getElem?_cons_zero, List.getElem?_cons_succ, List.length_cons, List.length_nil, Value.cells, List.set_cons_zero, List.set_cons_succ]; rfl) : Rd P n ⟨d, .build t qs, ty, pos', af, g⟩ L A (.agg xs.toArray) := fun a w hfr _ => by
  have e : qs.map (fun (i, x) => (i, a.eval x)) = parts.toArray := by apply Array.ext'; simpa using hfr.evalp hq
  have e' : (qs.map fun x => match x with | (i, x) => (i, a.eval x)) = parts.toArray := e
  simp only [execOp, e', Sem.run_bind, run_build hp hf, Result.andThen_ok, Sem.run_pure]
/-- a part of a struct -/
theorem Rd_field {t u : TypeId} {x : Operand} {f k : Nat} {cs : List Value} {v : Value} (hx : ev L x = some (.agg cs.toArray)) (h : fo P t f = some (k, u)) (hu : tk P u = some none) (hv : cs[k]? = some v := by rfl) : Rd P n ⟨d, .field t x f, ty, pos', af, g⟩ L A v := fun a w hf _ => by
  unfold fo at h
  split at h
  · rename_i fs hut
    cases hfs : fs[f]? with
    | none => rw [hfs] at h; cases h
    | some x' =>
      rw [hfs] at h
      simp only [Option.bind_some] at h
      split at h
      · simp only [Option.some.injEq, Prod.mk.injEq] at h
        obtain ⟨rfl, rfl⟩ := h
        simp [execOp, hf.eval hx, Instr.field, run_und hut, hfs, asAgg, part, tk_sc hu, hv]
      · cases h
  · cases h
theorem Rd_fieldg {t u : TypeId} {x : Operand} {f k m : Nat} {cs vs : List Value} (hx : ev L x = some (.agg cs.toArray)) (h : fo P t f = some (k, u)) (hu : tk P u = some (some m)) (hv : (cs.drop k).take m = vs := by rfl) : Rd P n ⟨d, .field t x f, ty, pos', af, g⟩ L A (.agg vs.toArray) := fun a w hf _ => by
  unfold fo at h
  split at h
  · rename_i fs hut
    cases hfs : fs[f]? with
    | none => rw [hfs] at h; cases h
    | some x' =>
      rw [hfs] at h
      simp only [Option.bind_some] at h
      split at h
      · simp only [Option.some.injEq, Prod.mk.injEq] at h
        obtain ⟨rfl, rfl⟩ := h
        simp only [execOp, hf.eval hx, Instr.field, run_und hut, hfs, asAgg, part, (tk_ag hu).1, run_size (tk_ag hu).2, Sem.run_bind, Sem.run_pure, Result.andThen_ok, if_true]
        congr 3
        apply Array.ext'
        rw [← hv]; simp [List.take_drop]
      · cases h
  · cases h
/-- []T{..} of known parts: a new array -/
theorem Ac_buildSlice {t et : TypeId} {k : Nat} {len : Nat} {zs bs xs : List Value} {qs : Array (Nat × Operand)} {parts : List (Nat × Value)} (hu : P.underlying t = some (.slice et)) (hz : zr P et = some zs) (hk : sz P et = some k) (hq : evp L qs.toList = some parts)
    (hb : ((Array.range (len * k)).map (zs.toArray[· % zs.toArray.size]!)).toList = bs) (hf : fillL ((List.range len).map fun i => (i * k, k)) parts bs = some xs) (hs : Nat.ble (len * k) 16777216 = true) :
    Ac P n ⟨d, .buildSlice t len qs, ty, pos', af, g⟩ L A (fun v A' => ∃ b, v = .slice (some ⟨b, 0, none⟩) len len ∧ A' = cl b et xs :: A) :=
  Ac_run fun a w hfr hsat => by
    have e' : (qs.map fun x => match x with | (i, x) => (i, a.eval x)) = parts.toArray := by apply Array.ext'; simpa using hfr.evalp hq
    obtain ⟨z, hzc, hzr⟩ := run_zero hz
    have hzc' : z.cells = zs.toArray := by apply Array.ext'; rw [hzc]
    have hs' : ¬ (len * k > 2 ^ 24) := by have := Nat.le_of_ble_eq_true hs; omega
    have hfe := fill_eq (place := fun i => some (i * k, k)) (ps := (List.range len).map fun i => (i * k, k)) (fun i x h => range_place h) parts ((Array.range (len * k)).map (zs.toArray[· % zs.toArray.size]!)) xs (by rw [hb]; exact hf)
    refine ⟨_, { w with heap := w.heap.push (.cells xs.toArray et) }, _, .inl ?_, ⟨w.heap.size, rfl, rfl⟩, sat_new (w := w) (w' := { w with heap := w.heap.push (.cells xs.toArray et) }) (o := .cells xs.toArray et) rfl hsat, kept_new⟩
    by_cases h0 : len * k = 0
    · have hfe' : Instr.fill (fun i => some (i * k, k)) ((Array.range (len * k)).map ((#[] : Array Value)[· % (#[] : Array Value).size]!)) parts = some xs.toArray := by
        rw [← hfe]; congr 1; rw [h0]; simp
      simp only [execOp, e', Instr.buildSlice, Sem.run_bind, run_und hu, Result.andThen_ok, run_size hk, Sem.run_ite, if_neg hs', if_pos h0, Sem.run_pure]
      rw [hfe']
      simp [newRow]
    · simp only [execOp, e', Instr.buildSlice, Sem.run_bind, run_und hu, Result.andThen_ok, run_size hk, Sem.run_ite, if_neg hs', if_neg h0, Sem.run_pure, hzr, hzc']
      rw [hfe]
      simp [newRow]
/-- clear(x[i:]) of a slice: what stands there is what a new element is -/
theorem Ac_clear {α : Type} {t et : TypeId} {e : Nat} {zs : List Value} {x : Operand} {gb cap len cc : Nat} {f : α → List Value} {l : List α} {R : List Asn} (i : Nat) (x0 : α) (hx : ev L x = some (.slice (some ⟨gb, i * e, none⟩) len cc)) (hu : P.underlying t = some (.slice et)) (hz : zr P et = some zs) (hzl : zs.length = e)
    (h0 : f x0 = zs) (h1 : ∀ v ∈ zs, v.oneCell' = true) (hE : Ext A (arr (some gb) cap e et f l) R) (hil : i + len = l.length) : Ac P n ⟨d, .call ⟨.builtin .clear, #[x], #[t]⟩, ty, pos', af, g⟩ L A (fun _ A' => A' = arr (some gb) cap e et f (l.take i ++ List.replicate len x0) :: R) :=
  Ac_run fun ac w hfr hsat => by
    have hs' := sat_perm hE hsat
    obtain ⟨z, hzc, hzr⟩ := run_zero hz
    cases len with
    | zero =>
      refine ⟨.tuple #[], w, _, .inl ?_, rfl, ?_, .refl _⟩
      · simp [execOp, resolve, invoke, Go.builtin, Builtin.clear_, hfr.eval hx, run_und hu]
      · have : l.take i ++ List.replicate 0 x0 = l := by rw [List.take_of_length_le (by omega)]; simp
        rw [this]; exact hs'
    | succ len =>
      unfold arr at hs'
      obtain ⟨cur, h2⟩ := sat_ex.1 hs'
      obtain ⟨⟨hfe, hcl, hle, hm, htk⟩, h3⟩ := sat_and.1 h2
      have hzz : (Builtin.zeroCells z.cells (len + 1)).toList = (List.replicate (len + 1) x0).flatMap f := by
        have hzs : z.cells = zs.toArray := by apply Array.ext'; rw [hzc]
        apply List.ext_getElem?
        intro q
        have hl1 : ((List.replicate (len + 1) x0).flatMap f).length = (len + 1) * e := by rw [flat_len hfe]; simp
        by_cases hq : q < (len + 1) * e
        · have hk0 : 0 < e := by
            rcases Nat.eq_zero_or_pos e with h | h
            · subst h; simp at hq
            · exact h
          have hdq : q / e < len + 1 := Nat.div_lt_of_lt_mul (by rw [Nat.mul_comm]; exact hq)
          have hfg := flat_get hfe (j := q % e) (Nat.mod_lt _ hk0) (List.replicate (len + 1) x0) (q / e) x0 (by rw [List.getElem?_replicate, if_pos hdq])
          rw [Nat.mul_comm, Nat.div_add_mod, h0] at hfg
          rw [hfg]
          have hlt : q % e < zs.length := by rw [hzl]; exact Nat.mod_lt _ hk0
          simp only [Builtin.zeroCells, hzs, Array.toList_map, Array.toList_range, List.getElem?_map, List.size_toArray, hzl, List.getElem?_range hq, Option.map_some]
          rw [List.getElem?_eq_getElem hlt]
          congr 1
          rw [getElem!_pos zs.toArray (q % e) (by simpa using hlt)]
          rfl
        · rw [List.getElem?_eq_none (by rw [Array.length_toList, size_zeroCells, hzs]; simp [hzl]; omega), List.getElem?_eq_none (by rw [hl1]; omega)]
      have hmul : i * e + (len + 1) * e ≤ cap * e := by rw [← Nat.add_mul, hil]; exact Nat.mul_le_mul_right _ hle
      have hzl2 : (Builtin.zeroCells z.cells (len + 1)).toList.length = (len + 1) * e := by rw [hzz, flat_len hfe]; simp
      obtain ⟨w', hr, hh, ho, hk⟩ := run_storeCells (P := P) (i := i * e) (Builtin.zeroCells z.cells (len + 1)).toList 0 cur w (sat_pt h3) (by rw [hzl2, hcl]; omega)
        (fun v hv => by
          rw [hzz] at hv
          obtain ⟨u, hu', hv⟩ := List.mem_flatMap.1 hv
          rw [(List.eq_of_mem_replicate hu'), h0] at hv
          exact h1 v hv)
      refine ⟨.tuple #[], w', _, .inl ?_, rfl, ?_, hk⟩
      · simp [execOp, resolve, invoke, Go.builtin, Builtin.clear_, hfr.eval hx, run_und hu, hzr, hr]
      · unfold arr
        refine sat_ex.2 ⟨cur.take (i * e) ++ (Builtin.zeroCells z.cells (len + 1)).toList ++ cur.drop (i * e + (Builtin.zeroCells z.cells (len + 1)).toList.length), sat_and.2 ⟨⟨hfe, ?_, by simp; omega, hm, ?_⟩, ?_⟩⟩
        · rw [List.length_append, List.length_append, List.length_take, List.length_drop, hzl2, hcl]; omega
        · have hi2 : i ≤ l.length := by omega
          have hlen : (l.take i ++ List.replicate (len + 1) x0).length = l.length := by simp; omega
          rw [hlen, List.flatMap_append, ← flat_take hfe, ← htk, List.take_take, ← hzz]
          have hie : i * e ≤ l.length * e := Nat.mul_le_mul_right _ hi2
          rw [Nat.min_eq_left hie]
          have : l.length * e = i * e + (len + 1) * e := by rw [← Nat.add_mul, hil]
          exact List.take_left' (by rw [List.length_append, List.length_take, hzl2, hcl]; omega)
        · refine sat_upd (o := .cells cur.toArray et (0, 0)) ?_ (fun c hc x hx => by rw [ho c hc]; exact hx) h3
          simpa using hh
/-- x[lo:] of a slice -/
theorem Rd_slice_lo {t et : TypeId} {x y : Operand} {gb k cap e : Nat} {kk : IntKind} {j : Int} (i : Nat) (hx : ev L x = some (sl (some gb) k cap)) (hy : ev L y = some (.int kk j)) (hu : P.underlying t = some (.slice et)) (hz : sz P et = some e) (hj : j = i) (hi : i ≤ k) (hc : i < cap) :
    Rd P n ⟨d, .slice t x (some y) none none, ty, pos', af, g⟩ L A (.slice (some ⟨gb, i * e, none⟩) (k - i) (cap - i)) := fun ac w hf hs => by
  subst hj
  have h0 : (0 : Int) ≤ (i : Int) ∧ (i : Int) ≤ (k : Int) := by omega
  have hne : ¬ (cap = i) := by omega
  simp [execOp, hf.eval hx, hf.eval hy, Instr.sliceAt, Instr.slice, run_und hu, sl, Instr.sliceBounds, Instr.sliceBound, asIntOf, h0.1, hi, run_size hz, hne, add_off]
end
end Go.SL
