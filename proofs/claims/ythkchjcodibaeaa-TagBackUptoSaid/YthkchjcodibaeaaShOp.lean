/-
  Contracts of functions that the claim reaches, or the logic and the plain laws that they rest on, or the row over them. (Conditions: none beyond the statement.)
-/
import Derived.Test.YthkchjcodibaeaaShLst
import Derived.Test.YthkchjcodibaeaaApB
import Derived.Test.YthkchjcodibaeaaShA
import Derived.Test.YthkchjcodibaeaaLibC
import Derived.Test.YthkchjcodibaeaaTrArg
set_option linter.all false
/-
  A script of calls of the digest's functions, in plain words, and as it is handed in. (Conditions: none; no program in sight.)
-/
set_option maxRecDepth 20000
namespace Go.ShM
open Go.SL Go.RowKit Go.ChangeShapes Go.WideShapes
/-- one call -/
structure OQ where
  call : Int
  ws : List B32
  bs : List B8
  n : Int
  p : PPt
  hw : ws.length = 8
  hb : bs.length = 64
def eOQ (q : OQ) : List Value := .int .i64 q.call :: (q.ws.flatMap (eU .u32) ++ (q.bs.flatMap (eU .u8) ++ [.int .i64 q.n, q.p.v]))
theorem eOQ_len (q : OQ) : (eOQ q).length = 75 := by
  unfold eOQ
  rw [List.length_cons, List.length_append, List.length_append, flatU_len, flatU_len, q.hw, q.hb]; rfl
theorem encOQ : Enc eOQ 75 := ⟨eOQ_len, fun q v hv => by
  unfold eOQ at hv
  rw [List.mem_cons, List.mem_append, List.mem_append] at hv
  rcases hv with rfl | hv | hv | hv
  · rfl
  · obtain ⟨a, _, ha⟩ := List.mem_flatMap.1 hv
    exact (encU .u32).one a v ha
  · obtain ⟨a, _, ha⟩ := List.mem_flatMap.1 hv
    exact (encU .u8).one a v ha
  · simp only [List.mem_cons, List.not_mem_nil, or_false] at hv
    rcases hv with rfl | rfl <;> rfl⟩
theorem eOQ_ws (q : OQ) : ((eOQ q).drop 1).take 8 = q.ws.flatMap (eU .u32) := by
  unfold eOQ
  rw [List.drop_succ_cons, List.drop_zero]
  exact List.take_left' (by rw [flatU_len, q.hw])
theorem eOQ_bs (q : OQ) : ((eOQ q).drop 9).take 64 = q.bs.flatMap (eU .u8) := by
  unfold eOQ
  rw [List.drop_succ_cons, List.drop_append_of_le_length (by rw [flatU_len, q.hw]; exact Nat.le_refl _), List.drop_of_length_le (by rw [flatU_len, q.hw]; exact Nat.le_refl _), List.nil_append]
  exact List.take_left' (by rw [flatU_len, q.hb])
theorem eOQ_end (q : OQ) : (eOQ q).drop 73 = [.int .i64 q.n, q.p.v] := by
  unfold eOQ
  rw [List.drop_succ_cons, show 72 = (q.ws.flatMap (eU .u32)).length + 64 by rw [flatU_len, q.hw], List.drop_append, List.drop_of_length_le (by omega), List.nil_append, Nat.add_sub_cancel_left, show 64 = (q.bs.flatMap (eU .u8)).length by rw [flatU_len, q.hb], List.drop_left]
theorem eOQ_n (q : OQ) : (eOQ q)[73]? = some (.int .i64 q.n) := by
  have h := List.getElem?_drop (xs := eOQ q) (i := 73) (j := 0)
  rw [eOQ_end] at h; exact h.symm
theorem eOQ_p (q : OQ) : (eOQ q)[74]? = some q.p.v := by
  have h := List.getElem?_drop (xs := eOQ q) (i := 73) (j := 1)
  rw [eOQ_end] at h; exact h.symm
/-- what is put behind so many bytes, and whether it is -/
def padL (n : Int) : List B8 := if 0 ≤ n ∧ n ≤ 1152921504606846976 then padM n.toNat else []
def padE (n : Int) : Int := if 0 ≤ n ∧ n ≤ 1152921504606846976 then 0 else 2
theorem padL_len (n : Int) : (padL n).length ≤ 72 := by
  unfold padL
  split
  · rw [padM_len]; have := padZ_lt n.toNat; omega
  · exact Nat.zero_le _
theorem padL_nat {n : Nat} (h : n ≤ 1152921504606846976) : padL (n : Int) = padM n ∧ padE (n : Int) = 0 := by
  unfold padL padE
  rw [if_pos (by omega), if_pos (by omega)]; exact ⟨rfl, rfl⟩
theorem padL_no {n : Int} (h : n < 0 ∨ 1152921504606846976 < n) : padL n = [] ∧ padE n = 2 := by
  unfold padL padE
  rw [if_neg (by omega), if_neg (by omega)]; exact ⟨rfl, rfl⟩
/-- lists that are owned and told -/
def ptB (p : PB) : Pt := ⟨p.l, p.a.map (fun g => ⟨g, 0, none⟩), p.cap⟩
def BOk (ps : List PB) : Prop := ∀ p ∈ ps, (p.a = none → p.l = []) ∧ p.l.length ≤ p.cap ∧ p.l.length ≤ 900000000000
theorem BOk_nil : BOk [] := fun p h => by cases h
theorem BOk_snoc {ps : List PB} {p : PB} (h : BOk ps) (h1 : p.a = none → p.l = []) (h2 : p.l.length ≤ p.cap) (h3 : p.l.length ≤ 900000000000) : BOk (ps ++ [p]) := fun x hx => by
  rcases List.mem_append.1 hx with q | q
  · exact h x q
  · rw [List.mem_singleton] at q; subst q; exact ⟨h1, h2, h3⟩
theorem BOk_b {ps : List PB} (h : BOk ps) : ∀ p ∈ ps, p.l.length ≤ 900000000000 := fun p hp => (h p hp).2.2
theorem BOk_bt {ps : List PB} (h : BOk ps) : ∀ p ∈ ps.map ptB, p.l.length ≤ 900000000000 := fun p hp => by
  obtain ⟨q, hq, rfl⟩ := List.mem_map.1 hp
  exact (h q hq).2.2
theorem Rd_ptB {T : TypeId} {ps : List PB} (h : BOk ps) : ∀ p ∈ ps.map ptB, RdP [star (FPB T) ps] p := fun p hp => by
  obtain ⟨q, hq, rfl⟩ := List.mem_map.1 hp
  obtain ⟨i, hi, e⟩ := List.getElem_of_mem hq
  obtain ⟨h1, h2, _⟩ := h q hq
  exact Sv.star (F := FPB T) i (by rw [List.getElem?_eq_getElem hi, e]) (Sv_own' (T := T) (encU .u8 (w := 8)) h1 h2)
section
variable {H : Type} {enc : TypeId × Value → H} {P : Program} {W : World} {base : Nat} {sp : Nat → Bool} {hd : Bool}
theorem words_u32 : ∀ l : List Int, (∀ i ∈ l, (Lit.int .u32 i).wf = true) → l.map (Value.int .u32) = (l.map (BitVec.ofInt 32)).flatMap (eU .u32)
  | [], _ => rfl
  | i :: l, h => by
    have h0 := h i (by simp)
    rw [List.map_cons, List.map_cons, List.flatMap_cons, ← words_u32 l (fun j hj => h j (by simp [hj]))]
    have hb : 0 ≤ i ∧ i < 4294967296 := by simp [Lit.wf, IntKind.min, IntKind.max, IntKind.signed, IntKind.bits] at h0; omega
    have e2 : ((BitVec.ofInt 32 i).toNat : Int) = i := by rw [BitVec.toNat_ofInt]; omega
    unfold eU
    rw [e2]; rfl
/-- what is known of a call that was handed in -/
def OKq (W : World) (N : Nat) (q : OQ) : Prop := Sv [old W] q.p.v 1 fP q.p.l q.p.ao q.p.cap ∧ (∀ p ∈ q.p.l, RdP [old W] p) ∧ (joinP q.p.l).length ≤ N ∧ q.p.l.length ≤ N
theorem el_op {m : DataW H → Nat} (hm : MeasS m) {t e2 e1 e : TypeId} {q : Nat} {fs : Array Field} (hu : P.underlying t = some (.struct fs)) {f4 : Field} (h4 : fs[4]? = some f4) (ho : f4.offset = 74) (hz4 : P.cellsOf f4.type = 1) (ht : P.underlying f4.type = some (.slice e1)) (h1 : P.underlying e1 = some (.slice e)) (he : P.underlying e = some (.int .u8)) (hz1 : sz P e1 = some 1) (hz : sz P e = some 1)
    (hk : cks P q t = some [.int .i64, .ints .u32 8, .ints .u8 64, .int .i64, .slice e2]) {n : Nat} {c : List Value} {y : DataW H × List MemPlace} (h : DataW.trod enc P W base sp hd n t c = some y) :
    ∃ a : OQ, c = eOQ a ∧ OKq W (m y.1) a := by
  have hf := cks_fits (N := m y.1) hm.toMeas q t _ n c y hk h (Nat.le_refl _)
  simp only [Fits] at hf
  obtain ⟨i1, _, rfl, _, l1, _, rfl, ⟨hl1, hw1⟩, l2, _, rfl, ⟨hl2, hw2⟩, i2, _, rfl, _, v, _, rfl, _, rfl⟩ := hf
  obtain ⟨xs, n', _, rfl, hl, hxl, hfs⟩ := DataW.trod_struct hu h
  have hx := hfs 4 f4 h4
  have h4l : 4 < xs.length := by rw [hxl]; exact (Array.getElem?_eq_some_iff.1 h4).1
  rw [List.getElem?_eq_getElem h4l, ho, hz4] at hx
  obtain ⟨v', ps, ao, cap, hv, hS, _, hp, hj, hn⟩ := el_lists hm ht h1 he hz1 hz hx
  have hle : m xs[4].1 ≤ m (DataW.agg (xs.map (·.1))) := hm.agg _ _ (List.mem_map.2 ⟨xs[4], List.getElem_mem h4l, rfl⟩)
  have hwl1 : (l1.map (BitVec.ofInt 32)).length = 8 := by simpa using hl1
  have hwl2 : (l2.map (BitVec.ofInt 8)).length = 64 := by simpa using hl2
  rw [words_u32 l1 hw1, words_of l2 hw2] at hv ⊢
  have hvv := hS.val
  let a : OQ := ⟨i1, l1.map (BitVec.ofInt 32), l2.map (BitVec.ofInt 8), i2, ⟨ps, ao, cap⟩, hwl1, hwl2⟩
  have hvx : v = v' := by
    rw [List.drop_succ_cons, show 73 = ((l1.map (BitVec.ofInt 32)).flatMap (eU .u32)).length + 65 by rw [flatU_len, hwl1], List.drop_append, List.drop_of_length_le (by omega), List.nil_append, Nat.add_sub_cancel_left, show 65 = ((l2.map (BitVec.ofInt 8)).flatMap (eU .u8)).length + 1 by rw [flatU_len, hwl2], List.drop_append, List.drop_of_length_le (by omega), List.nil_append, Nat.add_sub_cancel_left] at hv
    simpa using hv
  subst hvx
  refine ⟨a, ?_, ?_⟩
  · show _ = eOQ a
    unfold eOQ
    rw [hvv]; rfl
  · refine ⟨?_, fun p h => (hp p h).1, Nat.le_trans hj hle, Nat.le_trans hn hle⟩
    show Sv [old W] (PPt.v ⟨ps, ao, cap⟩) 1 fP ps ao cap
    unfold PPt.v
    rw [← hvv]; exact hS
/-- a struct's field: where, of what type -/
def fldAt (P : Program) (t : TypeId) (i : Nat) : Option (Nat × TypeId) := match P.underlying t with
  | some (.struct fs) => (fs[i]?).map fun f => (f.offset, f.type)
  | _ => none
theorem fldAt_of {t : TypeId} {i o : Nat} {e : TypeId} (h : fldAt P t i = some (o, e)) : ∃ (fs : Array Field) (f : Field), P.underlying t = some (.struct fs) ∧ fs[i]? = some f ∧ f.offset = o ∧ f.type = e := by
  unfold fldAt at h
  split at h
  · rename_i fs hu
    obtain ⟨f, hf, e'⟩ := Option.map_eq_some_iff.1 h
    simp only [Prod.mk.injEq] at e'
    exact ⟨fs, f, hu, hf, e'.1, e'.2⟩
  · cases h
/-- an argument that is such a script -/
theorem open_ops {m : DataW H → Nat} (hm : MeasS m) {t t1 t4 e2 e1 e : TypeId} {q : Nat} {v : Value} {d : DataW H} {ps : List MemPlace} {r : Reach} {b0 : Nat} (htt : P.underlying t = some (.slice t1)) (hzt : sz P t1 = some 75) (hfl : fldAt P t1 4 = some (74, t4)) (hz4 : P.cellsOf t4 = 1) (ht : P.underlying t4 = some (.slice e1)) (h1 : P.underlying e1 = some (.slice e)) (he : P.underlying e = some (.int .u8)) (hz1 : sz P e1 = some 1) (hz : sz P e = some 1)
    (hk : cks P q t1 = some [.int .i64, .ints .u32 8, .ints .u8 64, .int .i64, .slice e2]) (hval : Value.okWide P W r b0 t v)
    (h : DataW.Trod enc P W base sp hd t v d ps) {N : Nat} (hN : m d ≤ N) : ∃ (qs : List OQ) (ao : Option Addr) (cap : Nat), Sv [old W] v 75 eOQ qs ao cap ∧ (∀ q ∈ qs, OKq W N q) ∧ qs.length ≤ N := by
  obtain ⟨fs, f4, hu, h4, ho, rfl⟩ := fldAt_of hfl
  obtain ⟨a0, len, cap0, rfl⟩ := okWide_slice htt hval
  obtain ⟨fuel, hf⟩ := h
  obtain ⟨v', l, ao, cap, hv, hS, hcap, hor⟩ := open_slice_cells (k := 74) htt hzt hf
  simp only [Value.cells, List.cons.injEq, and_true] at hv
  subst hv
  rcases hor with ⟨hnil, rfl, _⟩ | ⟨ds, rs, n', h1', h2, _, _, h3⟩
  · exact ⟨[], ao, cap, Sv.typed (f := eOQ) (l := []) hS, fun p h => by simp at h, by simp⟩
  · rw [show d = .slice ds rs from h1'] at hN
    have hall : ∀ x ∈ l, ∃ a : OQ, x = eOQ a ∧ OKq W N a := fun x hx => by
      obtain ⟨i, hi, hxe⟩ := List.getElem_of_mem hx
      obtain ⟨y', hy, hyd⟩ := h3 i x (by rw [List.getElem?_eq_getElem hi, hxe])
      obtain ⟨a, ha, hS', hp', hj', hn'⟩ := el_op hm hu h4 ho hz4 ht h1 he hz1 hz hk hy
      have := hm.el ds rs y'.1 (List.mem_of_getElem? hyd)
      exact ⟨a, ha, hS', hp', by omega, by omega⟩
    obtain ⟨l', rfl, hall'⟩ := SL.typed hall
    have e2 := hm.len ds rs
    exact ⟨l', ao, cap, Sv.typed hS, hall', by simp at h2; omega⟩
end
theorem WI_factZ {P : Program} {m : Md} {ops : Array Oper} {Q : Exit → Act → World → Prop} {w0 : World} {n : Nat} {S : List Asn} {J : Nat → Nat} {fuel : Nat} {is : List Nat} {L : List (Nat × Value)} {A : List Asn} {i : Nat} {p : Prop} (h : ∀ w, sat w A → p) (k : p → WI P m ops Q w0 n S J fuel is L A i) : WI P m ops Q w0 n S J fuel is L A i := fun a w hd hf hs hk => k (h w hs) a w hd hf hs hk
end Go.ShM
