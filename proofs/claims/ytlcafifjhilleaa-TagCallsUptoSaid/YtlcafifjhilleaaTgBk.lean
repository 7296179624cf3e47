/-
  Contracts of functions that the claim reaches, or the logic and the plain laws that they rest on, or the row over them. (Conditions: none beyond the statement.)
-/
import Derived.Test.YtlcafifjhilleaaApL
import Derived.Test.YtlcafifjhilleaaTgOp
set_option linter.all false
/-
  The book of a script of calls: what was answered so far, what it was to be. (Conditions: none; no program in sight.)
-/
set_option maxRecDepth 20000
namespace Go.ShM
open Go.SL Go.RowKit Go.ChangeShapes Go.WideShapes
structure BK where
  ps : List PB
  pa : Option Nat
  pc : Nat
  ws : List PB
  wa : Option Nat
  wc : Nat
  os : List RL
  oa : Option Nat
  oc : Nat
  ms : List RL
  ma : Option Nat
  mc : Nat
def RLk (r : RL) : Prop := (r.a = none → r.ps = []) ∧ r.ps.length ≤ r.cap ∧ BOk r.ps
structure BKok (n z : Nat) (g : BK) : Prop where
  len : g.ps.length = g.ws.length
  eq : g.ps.map (·.l) = g.ws.map (·.l)
  b1 : BOk g.ps
  b2 : BOk g.ws
  pn : g.ps.length ≤ n
  on : g.os.length ≤ n
  ol : g.os.length = g.ms.length
  o1 : ∀ r ∈ g.os, RLk r
  m1 : ∀ r ∈ g.ms, RLk r
  oe : ∀ (j : Nat) (r m : RL), g.os[j]? = some r → g.ms[j]? = some m → r.ps.map (·.l) = (m.ps.drop 1).map (·.l)
  oz : (allP g.os).length ≤ z
theorem RLk_snoc {l : List RL} (h : ∀ r ∈ l, RLk r) {x : RL} (hx : RLk x) : ∀ r ∈ l ++ [x], RLk r := fun r hr => by
  rcases List.mem_append.1 hr with q | q
  · exact h r q
  · rw [List.mem_singleton] at q; subst q; exact hx
theorem BKok_0 : BKok 0 0 ⟨[], none, 0, [], none, 0, [], none, 0, [], none, 0⟩ :=
  ⟨rfl, rfl, BOk_nil, BOk_nil, Nat.le_refl _, Nat.le_refl _, rfl, (fun r h => by cases h), (fun r h => by cases h), (fun j r m h => by simp at h), Nat.le_refl _⟩
theorem BKok_up {n z n' z' : Nat} {g : BK} (h : BKok n z g) (hn : n ≤ n') (hz : z ≤ z') : BKok n' z' g :=
  ⟨h.len, h.eq, h.b1, h.b2, Nat.le_trans h.pn hn, Nat.le_trans h.on hn, h.ol, h.o1, h.m1, h.oe, Nat.le_trans h.oz hz⟩
theorem BKok_b {n z : Nat} {ps ws : List PB} {pa wa oa ma : Option Nat} {pc wc oc mc : Nat} {os ms : List RL} (h : BKok n z ⟨ps, pa, pc, ws, wa, wc, os, oa, oc, ms, ma, mc⟩) {x y : PB} (hxy : x.l = y.l) (x1 : x.a = none → x.l = []) (x2 : x.l.length ≤ x.cap) (x3 : x.l.length ≤ 900000000000)
    (y1 : y.a = none → y.l = []) (y2 : y.l.length ≤ y.cap) {pa' wa' : Option Nat} {pc' wc' : Nat} : BKok (n + 1) z ⟨ps ++ [x], pa', pc', ws ++ [y], wa', wc', os, oa, oc, ms, ma, mc⟩ := by
  obtain ⟨a, b, c, d, e, f, g, i, j, k, l⟩ := h
  dsimp only at *
  refine ⟨by dsimp only; simp [a], by dsimp only; rw [List.map_append, List.map_append, b]; simp [hxy], BOk_snoc c x1 x2 x3, BOk_snoc d y1 y2 (by rw [← hxy]; exact x3), by dsimp only; simp; omega, by dsimp only; omega, g, i, j, k, l⟩
theorem BKok_o {n z w : Nat} {ps ws : List PB} {pa wa oa ma : Option Nat} {pc wc oc mc : Nat} {os ms : List RL} (h : BKok n z ⟨ps, pa, pc, ws, wa, wc, os, oa, oc, ms, ma, mc⟩) {x y : RL} (hxy : x.ps.map (·.l) = (y.ps.drop 1).map (·.l)) (hx : RLk x) (hy : RLk y) (hw : x.ps.length ≤ w)
    {oa' ma' : Option Nat} {oc' mc' : Nat} : BKok (n + 1) (z + w) ⟨ps, pa, pc, ws, wa, wc, os ++ [x], oa', oc', ms ++ [y], ma', mc'⟩ := by
  obtain ⟨a, b, c, d, e, f, g, i, j, k, l⟩ := h
  dsimp only at *
  refine ⟨a, b, c, d, by dsimp only; omega, by dsimp only; simp; omega, by dsimp only; simp [g], RLk_snoc i hx, RLk_snoc j hy, ?_, by dsimp only; rw [allP_snoc, List.length_append]; omega⟩
  intro q r m hr hm
  dsimp only at hr hm
  rw [List.getElem?_append] at hr hm
  by_cases hq : q < os.length
  · rw [if_pos hq] at hr; rw [if_pos (by omega)] at hm; exact k q r m hr hm
  · rw [if_neg hq] at hr; rw [if_neg (by omega)] at hm
    have h0 : q - os.length = 0 := by have := (List.getElem?_eq_some_iff.1 hr).1; simp at this; omega
    have h1 : q - ms.length = 0 := by omega
    rw [h0] at hr; rw [h1] at hm
    simp at hr hm
    subst hr; subst hm; exact hxy
theorem Sv_drop1 {T : TypeId} {m : RL} (hm : RLk m) (hne : m.ps ≠ []) : Sv [FRL T m] (.slice (sao (m.a.map fun g => ⟨g, 0, none⟩) 1 1 m.cap) (m.ps.length - 1) (m.cap - 1)) 1 ePB (m.ps.drop 1) (sao (m.a.map fun g => ⟨g, 0, none⟩) 1 1 m.cap) (m.cap - 1) := by
  have hl : 1 ≤ m.ps.length := by cases hq : m.ps with | nil => exact absurd hq hne | cons x r => simp
  have h := (Sv_RL (T := T) hm.1 hm.2.1).sub (lo := 1) (hi := m.ps.length) hl (Nat.le_refl _)
  rw [List.take_length] at h; exact h
/-- the data of a script's calls, together -/
def szD (qs : List KQ) : Nat := (qs.map fun q => q.d.l.length).sum
theorem szD_take {qs : List KQ} {k : Nat} {q : KQ} (h : qs[k]? = some q) : szD (qs.take (k + 1)) = szD (qs.take k) + q.d.l.length := by
  obtain ⟨hk, e⟩ := List.getElem?_eq_some_iff.1 h
  unfold szD
  rw [List.take_succ_eq_append_getElem hk, List.map_append, List.sum_append, e]; simp
theorem szD_le (qs : List KQ) (k : Nat) : szD (qs.take k) ≤ szD qs := by
  have h : szD qs = szD (qs.take k) + szD (qs.drop k) := by unfold szD; rw [← List.sum_append, ← List.map_append, List.take_append_drop]
  omega
section
variable {H : Type} {enc : TypeId × Value → H} {P : Program} {W : World} {base : Nat} {sp : Nat → Bool} {hd : Bool}
theorem el_kq {m : DataW H → Nat} (hm : MeasS m) {t e3 e2 e1 e : TypeId} {z : Nat} {fs : Array Field} (hu : P.underlying t = some (.struct fs)) {f2 f3 : Field} (h2 : fs[2]? = some f2) (o2 : f2.offset = 2) (z2 : P.cellsOf f2.type = 1) (t2 : P.underlying f2.type = some (.slice e1)) (h1 : P.underlying e1 = some (.slice e)) (he : P.underlying e = some (.int .u8)) (hz1 : sz P e1 = some 1) (hz : sz P e = some 1)
    (h3 : fs[3]? = some f3) (o3 : f3.offset = 3) (z3 : P.cellsOf f3.type = 1) (t3 : P.underlying f3.type = some (.slice e))
    (hk : cks P z t = some [.int .i64, .int .u8, .slice e2, .slice e3, .int .i64, .int .i64, .int .i64, .ints .u8 16, .ints .u8 32, .ints .u8 32, .int .u32]) {n : Nat} {c : List Value} {y : DataW H × List MemPlace} (h : DataW.trod enc P W base sp hd n t c = some y) :
    ∃ a : KQ, c = eKQ a ∧ OKk W (m y.1) a := by
  have hf := cks_fits (N := m y.1) hm.toMeas z t _ n c y hk h (Nat.le_refl _)
  simp only [Fits] at hf
  obtain ⟨i0, _, rfl, _, i1, _, rfl, w1, v2, _, rfl, _, v3, _, rfl, _, i4, _, rfl, _, i5, _, rfl, _, i6, _, rfl, _, l7, _, rfl, ⟨hl7, hw7⟩, l8, _, rfl, ⟨hl8, hw8⟩, l9, _, rfl, ⟨hl9, hw9⟩, i10, _, rfl, w10, rfl⟩ := hf
  obtain ⟨xs, n', _, rfl, hl, hxl, hfs⟩ := DataW.trod_struct hu h
  have hx2 := hfs 2 f2 h2
  have hx3 := hfs 3 f3 h3
  have l2 : 2 < xs.length := by rw [hxl]; exact (Array.getElem?_eq_some_iff.1 h2).1
  have l3 : 3 < xs.length := by rw [hxl]; exact (Array.getElem?_eq_some_iff.1 h3).1
  rw [List.getElem?_eq_getElem l2, o2, z2] at hx2
  rw [List.getElem?_eq_getElem l3, o3, z3] at hx3
  obtain ⟨v', ps, ao, cap, hv, hS, _, hp, hj, hn⟩ := el_lists hm t2 h1 he hz1 hz hx2
  obtain ⟨p3, hv3, hr3, _, hn3⟩ := el_bytes hm.toMeas t3 he hz hx3
  have hle : m xs[2].1 ≤ m (DataW.agg (xs.map (·.1))) := hm.agg _ _ (List.mem_map.2 ⟨xs[2], List.getElem_mem l2, rfl⟩)
  have hle3 : m xs[3].1 ≤ m (DataW.agg (xs.map (·.1))) := hm.agg _ _ (List.mem_map.2 ⟨xs[3], List.getElem_mem l3, rfl⟩)
  have hb1 : 0 ≤ i1 ∧ i1 < 256 := by simp [Lit.wf, IntKind.min, IntKind.max, IntKind.signed, IntKind.bits] at w1; omega
  have hb10 : 0 ≤ i10 ∧ i10 < 4294967296 := by simp [Lit.wf, IntKind.min, IntKind.max, IntKind.signed, IntKind.bits] at w10; omega
  have e1' : (((BitVec.ofInt 8 i1).toNat : Nat) : Int) = i1 := by rw [BitVec.toNat_ofInt]; omega
  have e10 : (((BitVec.ofInt 32 i10).toNat : Nat) : Int) = i10 := by rw [BitVec.toNat_ofInt]; omega
  have q7 : (l7.map (BitVec.ofInt 8)).length = 16 := by simpa using hl7
  have q8 : (l8.map (BitVec.ofInt 8)).length = 32 := by simpa using hl8
  have q9 : (l9.map (BitVec.ofInt 8)).length = 32 := by simpa using hl9
  rw [words_of l7 hw7, words_of l8 hw8, words_of l9 hw9] at hv hv3 ⊢
  simp only [List.drop_succ_cons, List.drop_zero, List.take_succ_cons, List.take_zero, List.cons.injEq, and_true] at hv hv3
  have hvv := hS.val
  let a : KQ := ⟨i0, BitVec.ofInt 8 i1, ⟨ps, ao, cap⟩, p3, i4, i5, i6, l7.map (BitVec.ofInt 8), l8.map (BitVec.ofInt 8), l9.map (BitVec.ofInt 8), BitVec.ofInt 32 i10, q7, q8, q9⟩
  have hv3' : v3 = p3.v := by simpa [fP] using hv3
  subst hv
  refine ⟨a, ?_, ?_, fun p h => (hp p h).1, Nat.le_trans hj hle, Nat.le_trans hn hle, hr3, Nat.le_trans hn3 hle3⟩
  · show _ = eKQ a
    unfold eKQ
    rw [hvv, hv3', ← e1', ← e10]
    simp only [a, BitVec.ofInt_natCast, BitVec.ofNat_toNat, BitVec.setWidth_eq, List.append_assoc, List.cons_append, List.nil_append]
    rfl
  · show Sv [old W] (PPt.v ⟨ps, ao, cap⟩) 1 fP ps ao cap
    unfold PPt.v
    rw [← hvv]; exact hS
theorem kqs_of {m : DataW H → Nat} : ∀ (l : List (List Value)) (ds : List (DataW H)), ds.length = l.length → (∀ (i : Nat) (c : List Value), l[i]? = some c → ∃ a : KQ, c = eKQ a ∧ ∃ d, ds[i]? = some d ∧ OKk W (m d) a) →
    ∃ qs : List KQ, l = qs.map eKQ ∧ (∀ q ∈ qs, ∃ d ∈ ds, OKk W (m d) q) ∧ szD qs ≤ (ds.map m).sum
  | [], ds, _, _ => ⟨[], rfl, fun p h => by simp at h, by simp [szD]⟩
  | c :: l, ds, hl, h => by
    cases ds with
    | nil => simp at hl
    | cons d ds =>
      obtain ⟨p, rfl, d', hd', hle⟩ := h 0 c rfl
      simp at hd'; subst hd'
      obtain ⟨ps, rfl, h1, h2⟩ := kqs_of (m := m) l ds (by simpa using hl) (fun i c hc => by have := h (i + 1) c (by simpa using hc); simpa using this)
      refine ⟨p :: ps, rfl, fun q hq => ?_, ?_⟩
      · rcases List.mem_cons.1 hq with rfl | hq
        · exact ⟨d, by simp, hle⟩
        · obtain ⟨x, hx, k⟩ := h1 q hq
          exact ⟨x, by simp [hx], k⟩
      · have := hle.2.2.2.2.2
        unfold szD at *
        rw [List.map_cons, List.map_cons, List.sum_cons, List.sum_cons]; omega
theorem OKk.up {N N' : Nat} {q : KQ} (h : OKk W N q) (hN : N ≤ N') : OKk W N' q := ⟨h.1, h.2.1, Nat.le_trans h.2.2.1 hN, Nat.le_trans h.2.2.2.1 hN, h.2.2.2.2.1, Nat.le_trans h.2.2.2.2.2 hN⟩
/-- an argument that is such a script -/
theorem open_kqs {m : DataW H → Nat} (hm : MeasS m) {t t1 t2 t3 e3 e2 e1 e : TypeId} {z : Nat} {v : Value} {d : DataW H} {ps : List MemPlace} {r : Reach} {b0 : Nat} (htt : P.underlying t = some (.slice t1)) (hzt : sz P t1 = some 88) (hf2 : fldAt P t1 2 = some (2, t2)) (hf3 : fldAt P t1 3 = some (3, t3)) (hz2 : P.cellsOf t2 = 1) (hz3 : P.cellsOf t3 = 1) (ht2 : P.underlying t2 = some (.slice e1)) (h1 : P.underlying e1 = some (.slice e)) (he : P.underlying e = some (.int .u8)) (hz1 : sz P e1 = some 1) (hz : sz P e = some 1) (ht3 : P.underlying t3 = some (.slice e))
    (hk : cks P z t1 = some [.int .i64, .int .u8, .slice e2, .slice e3, .int .i64, .int .i64, .int .i64, .ints .u8 16, .ints .u8 32, .ints .u8 32, .int .u32]) (hval : Value.okWide P W r b0 t v)
    (h : DataW.Trod enc P W base sp hd t v d ps) {N : Nat} (hN : m d ≤ N) : ∃ (qs : List KQ) (ao : Option Addr) (cap : Nat), Sv [old W] v 88 eKQ qs ao cap ∧ (∀ q ∈ qs, OKk W N q) ∧ qs.length ≤ N ∧ szD qs ≤ N := by
  obtain ⟨fs, f2, hu, g2, o2, rfl⟩ := fldAt_of hf2
  obtain ⟨fs', f3, hu', g3, o3, rfl⟩ := fldAt_of hf3
  rw [hu] at hu'
  obtain rfl : fs = fs' := by simpa using hu'
  obtain ⟨a0, len, cap0, rfl⟩ := okWide_slice htt hval
  obtain ⟨fuel, hf⟩ := h
  obtain ⟨v', l, ao, cap, hv, hS, hcap, hor⟩ := open_slice_cells (k := 87) htt hzt hf
  simp only [Value.cells, List.cons.injEq, and_true] at hv
  subst hv
  rcases hor with ⟨hnil, rfl, _⟩ | ⟨ds, rs, n', h1', h2, _, _, h3⟩
  · exact ⟨[], ao, cap, Sv.typed (f := eKQ) (l := []) hS, fun p h => by simp at h, by simp, by simp [szD]⟩
  · rw [show d = .slice ds rs from h1'] at hN
    obtain ⟨qs, rfl, hq, hs⟩ := kqs_of (m := m) (W := W) l ds h2 (fun i c hc => by
      obtain ⟨y', hy, hyd⟩ := h3 i c hc
      obtain ⟨a, ha, hok⟩ := el_kq hm hu g2 o2 hz2 ht2 h1 he hz1 hz g3 o3 hz3 ht3 hk hy
      exact ⟨a, ha, y'.1, hyd, hok⟩)
    have e1 := hm.sum ds rs
    have e2 := hm.len ds rs
    exact ⟨qs, ao, cap, Sv.typed hS, fun q h => by
      obtain ⟨x, hx, k⟩ := hq q h
      exact k.up (Nat.le_trans (hm.el ds rs x hx) hN), by simp at h2; omega, by omega⟩
end
end Go.ShM
