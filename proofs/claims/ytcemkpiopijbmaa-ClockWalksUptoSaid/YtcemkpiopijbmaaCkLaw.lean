/-
  Contracts of functions that the claim reaches, or the logic and the plain laws that they rest on, or the row over them. (Conditions: none beyond the statement.)
-/
import Derived.Test.YtcemkpiopijbmaaHpCall
import Derived.Test.YtcemkpiopijbmaaSlRdr
set_option linter.all false
/-
  A clock's heap and the document's list beside one another; texts joined. Plain, but for one reading rule. (Conditions: none.)
-/
set_option linter.all false
namespace Go.SL
open Go.RowKit
theorem Rd_stradd {P : Program} {n : Nat} {L : List (Nat × Value)} {A : List Asn} {d : Option Tmp} {ty : TypeId} {pos' : String} {af : Array Edge} {g : Option (Nat × Bool)} {t t' : TypeId} {x y : Operand} {p q : ByteArray} (hx : ev L x = some (.string p)) (hy : ev L y = some (.string q)) (hm : p.size + q.size ≤ 1000000000) :
    Rd P n ⟨d, .binOp .add t x y t', ty, pos', af, g⟩ L A (.string (p ++ q)) := fun a w hf hs => by
  have hc : ¬ ((p.size + q.size : Nat) : Int) > IntKind.i64.max := by
    have : IntKind.i64.max = 9223372036854775807 := rfl
    rw [this]; omega
  simp only [execOp, hf.eval hx, hf.eval hy, Go.binOp, Op.stringOp, Sem.run_bind]
  rw [if_neg hc]
  simp [eqGuard]
end Go.SL
namespace Go.HpM
open Go.SL
abbrev CV := Int × Int × ByteArray
abbrev DW := Int × BitVec 32
/-- the letters of a number -/
def wordL (x : BitVec 32) : List (BitVec 8) := [x.setWidth 8, (x >>> 8).setWidth 8, (x >>> 16).setWidth 8, (x >>> 24).setWidth 8]
/-- what the text says of a number -/
def wordB (x : BitVec 32) : ByteArray := ⟨#[119]⟩ ++ strB (wordL x)
/-- what the document says of a thing that waits, as the clock holds it -/
def toD (r : Nat × DW) : Nat × CV := (r.1, ((r.1 : Int), r.2.1, wordB r.2.2))
def dlt (x y : DW) : Bool := decide (x.1 < y.1)
theorem dlt_od : Od dlt := by
  unfold dlt
  constructor
  · intro x; simp
  · intro x y z; simp; omega
  · intro x y z; simp; omega
section
variable {α : Type} {lt : α → α → Bool}
theorem Rl.pop' {rows L : List (Nat × α)} {made : Nat} (h : Rl lt rows L made) (O : Od lt) (q : 0 < L.length) : ∃ x, rows[0]? = some x ∧ L[(leastP lt L L.length).toNat]? = some x ∧ 0 ≤ leastP lt L L.length ∧ Rl lt (takeM (pl lt) () rows 0).1 (lsL lt L) made := by
  have hl := h.len
  have hr := leastP_rng (lt := lt) L L.length (Nat.le_refl _)
  obtain ⟨y, hy⟩ : ∃ y, L[(leastP lt L L.length).toNat]? = some y := ⟨_, List.getElem?_eq_getElem (by omega)⟩
  obtain ⟨x, hx⟩ : ∃ x, rows[0]? = some x := ⟨_, List.getElem?_eq_getElem (by omega)⟩
  have hxm : x ∈ L := h.pm.mem_iff.1 (List.mem_of_getElem? hx)
  have hym := List.mem_of_getElem? hy
  obtain ⟨k, hk⟩ := List.getElem?_of_mem hxm
  have h1 : ah lt x y = false := leastP_least O h.up L.length q (Nat.le_refl _) y hy k x (List.getElem?_eq_some_iff.1 hk).1 hk
  have h2 : ah lt y x = false := h.hp.top_mem O hx (h.pm.mem_iff.2 hym)
  obtain rfl : x = y := up_mem h.up hxm hym (ah_eq h1 h2)
  exact ⟨x, hx, hy, by omega, h.take O hx hy⟩
theorem takeM_nil0 (s : Unit) : (takeM (pl lt) s ([] : List (Nat × α)) 0).1 = [] := List.eq_nil_of_length_eq_zero (by rw [takeM_len]; rfl)
theorem lsL_len (L : List (Nat × α)) : (lsL lt L).length = L.length - 1 := by
  unfold lsL
  have hr := leastP_rng (lt := lt) L L.length (Nat.le_refl _)
  rcases Nat.eq_zero_or_pos L.length with q | q
  · rw [List.eq_nil_of_length_eq_zero q]; rfl
  · rw [List.length_eraseIdx, if_pos (by omega)]
theorem lsL_mem {L : List (Nat × α)} {x : Nat × α} (h : x ∈ lsL lt L) : x ∈ L := List.mem_of_mem_eraseIdx h
end
section
variable {lt : CV → CV → Bool}
def Cm (lt : CV → CV → Bool) : Prop := ∀ x y : Nat × DW, lt (toD x).2 (toD y).2 = dlt x.2 y.2
theorem ah_toD (C : Cm lt) (x y : Nat × DW) : ah lt (toD x) (toD y) = ah dlt x y := by
  unfold ah; rw [C, C]; rfl
theorem leastP_toD (C : Cm lt) (L : List (Nat × DW)) : ∀ k, leastP lt (L.map toD) k = leastP dlt L k
  | 0 => rfl
  | k + 1 => by
    unfold leastP
    rw [leastP_toD C L k, List.getElem?_map, List.getElem?_map]
    cases L[k]? with
    | none => rfl
    | some x =>
      cases L[(leastP dlt L k).toNat]? with
      | none => rfl
      | some y =>
        have e := C x y
        simp only [Option.map_some, e]
theorem erase_toD (L : List (Nat × DW)) : ∀ i, (L.map toD).eraseIdx i = (L.eraseIdx i).map toD := by
  induction L with
  | nil => intro i; rfl
  | cons x L ih =>
    intro i
    cases i with
    | zero => rfl
    | succ i => simp only [List.map_cons, List.eraseIdx_cons_succ, ih]
theorem lsL_toD (C : Cm lt) (L : List (Nat × DW)) : lsL lt (L.map toD) = (lsL dlt L).map toD := by
  unfold lsL
  rw [leastP_toD C, List.length_map, erase_toD]
theorem fdM_toD (L : List (Nat × DW)) (t : Int) : fdM (L.map toD) t = fdM L t := by
  unfold fdM
  rw [List.findIdx?_map]
  rfl
theorem srt_toD (O : Od lt) (C : Cm lt) (L : List (Nat × DW)) (hu : L.Pairwise fun x y => x.1 < y.1) : srt lt (L.map toD) = (srt dlt L).map toD := by
  symm
  refine srt_uniqU O ?_ ((srt_perm L).map toD) ?_
  · rw [List.pairwise_map]; exact hu
  · rw [List.pairwise_map]
    exact (srt_sorted dlt_od L).imp fun {a b} h => by rw [ah_toD C]; exact h
theorem toD_inj {x y : Nat × DW} (h : (toD x).1 = (toD y).1) : x.1 = y.1 := h
/-- the clock's rows are the document's list -/
structure Ck (lt : CV → CV → Bool) (rows : List (Nat × CV)) (L : List (Nat × DW)) (made : Nat) : Prop where
  rl : Rl lt rows (L.map toD) made
  tk : ∀ r ∈ L, 0 ≤ r.2.1 ∧ r.2.1 ≤ 1099511627776
theorem Ck.len {rows : List (Nat × CV)} {L : List (Nat × DW)} {made : Nat} (h : Ck lt rows L made) : rows.length = L.length := by rw [h.rl.len, List.length_map]
theorem Ck.up {rows : List (Nat × CV)} {L : List (Nat × DW)} {made : Nat} (h : Ck lt rows L made) : L.Pairwise fun x y => x.1 < y.1 := by
  have := h.rl.up
  rwa [List.pairwise_map] at this
theorem Ck.made {rows : List (Nat × CV)} {L : List (Nat × DW)} {made : Nat} (h : Ck lt rows L made) : L.length ≤ made := by rw [← h.len]; exact h.rl.gd.len
theorem Ck_nil {made : Nat} : Ck lt [] [] made := ⟨Rl_nil, by simp⟩
theorem Ck.set {rows : List (Nat × CV)} {L : List (Nat × DW)} {made : Nat} {t : Int} {v : BitVec 32} (h : Ck lt rows L made) (O : Od lt) (ht : 0 ≤ t ∧ t ≤ 1099511627776) : Ck lt (pushM (pl lt) () rows made (((made : Nat) : Int), t, wordB v)).1 (L ++ [(made, (t, v))]) (made + 1) := by
  refine ⟨?_, fun r hr => ?_⟩
  · rw [List.map_append]
    exact h.rl.push O _
  · rcases List.mem_append.1 hr with q | q
    · exact h.tk r q
    · rw [List.mem_singleton] at q; subst q; exact ht
theorem Ck.pop {rows : List (Nat × CV)} {L : List (Nat × DW)} {made : Nat} (h : Ck lt rows L made) (O : Od lt) (C : Cm lt) (q : 0 < L.length) :
    ∃ x, rows[0]? = some (toD x) ∧ L[(leastP dlt L L.length).toNat]? = some x ∧ 0 ≤ leastP dlt L L.length ∧ Ck lt (takeM (pl lt) () rows 0).1 (lsL dlt L) made := by
  obtain ⟨y, h1, h2, h3, h4⟩ := h.rl.pop' O (by rw [List.length_map]; exact q)
  rw [leastP_toD C, List.length_map] at h2 h3
  rw [lsL_toD C] at h4
  rw [List.getElem?_map, Option.map_eq_some_iff] at h2
  obtain ⟨x, hx, rfl⟩ := h2
  exact ⟨x, h1, hx, h3, h4, fun r hr => h.tk r (lsL_mem hr)⟩
theorem Ck.find {rows : List (Nat × CV)} {L : List (Nat × DW)} {made : Nat} (h : Ck lt rows L made) (O : Od lt) (t : Int) :
    (fdM rows t = none ∧ fdM L t = none) ∨ ∃ i j x, fdM rows t = some i ∧ fdM L t = some j ∧ rows[i]? = some (toD x) ∧ L[j]? = some x ∧ Ck lt (takeM (pl lt) () rows i).1 (L.eraseIdx j) made := by
  rcases h.rl.find t with ⟨a, b⟩ | ⟨i, j, y, a, b, c, d, _⟩
  · rw [fdM_toD] at b; exact .inl ⟨a, b⟩
  · rw [fdM_toD] at b
    have h4 := h.rl.take O c d
    rw [erase_toD] at h4
    rw [List.getElem?_map, Option.map_eq_some_iff] at d
    obtain ⟨x, hx, rfl⟩ := d
    exact .inr ⟨i, j, x, a, b, c, hx, h4, fun r hr => h.tk r (List.mem_of_mem_eraseIdx hr)⟩
/-! what the calls answer -/
def zCV : CV := (0, 0, ⟨#[]⟩)
def tpC (rows : List (Nat × CV)) : CV := match rows with
  | x :: _ => x.2
  | [] => zCV
def tkN (now : Int) (rows : List (Nat × CV)) : Int := match rows with
  | x :: _ => x.2.2.1
  | [] => now
def zDW : Nat × DW := (0, (0, 0))
def lsX (L : List (Nat × DW)) : Nat × DW := (L[(leastP dlt L L.length).toNat]?).getD zDW
def tkD (now : Int) (L : List (Nat × DW)) : Int := match L with
  | [] => now
  | _ :: _ => (lsX L).2.1
theorem tkD_pos {now : Int} {L : List (Nat × DW)} (h : 0 < L.length) : tkD now L = (lsX L).2.1 := by
  cases L with
  | nil => exact absurd h (by simp)
  | cons x l => rfl
theorem Ck.take {rows : List (Nat × CV)} {L : List (Nat × DW)} {made : Nat} (h : Ck lt rows L made) (O : Od lt) (C : Cm lt) (now : Int) :
    decide (rows ≠ []) = decide (L ≠ []) ∧ (L ≠ [] → tpC rows = (toD (lsX L)).2) ∧ (L = [] → tpC rows = zCV) ∧ tkN now rows = tkD now L ∧ Ck lt (takeM (pl lt) () rows 0).1 (lsL dlt L) made := by
  rcases Nat.eq_zero_or_pos L.length with q | q
  · have e1 : L = [] := List.eq_nil_of_length_eq_zero q
    have e2 : rows = [] := List.eq_nil_of_length_eq_zero (by rw [h.len]; exact q)
    subst e1; subst e2
    rw [takeM_nil0]
    exact ⟨rfl, fun e => absurd rfl e, fun _ => rfl, rfl, Ck_nil⟩
  · obtain ⟨x, h1, h2, h3, h4⟩ := h.pop O C q
    have e1 : L ≠ [] := fun e => by rw [e] at q; cases q
    have e3 : lsX L = x := by unfold lsX; rw [h2]; rfl
    cases rows with
    | nil => simp at h1
    | cons y r =>
      simp only [List.getElem?_cons_zero, Option.some.injEq] at h1
      subst h1
      refine ⟨by simp [e1], fun _ => by rw [e3]; rfl, fun e => absurd e e1, ?_, h4⟩
      rw [tkD_pos q, e3]; rfl
theorem fdZ_none {α : Type} {rows : List (Nat × α)} {t : Int} (h : fdZ rows t = -1) : fdM rows t = none := by
  unfold fdZ at h
  cases e : fdM rows t with
  | none => rfl
  | some i => rw [e] at h; dsimp only at h; omega
theorem fdZ_some {α : Type} {rows : List (Nat × α)} {t : Int} {k : Nat} (h : fdZ rows t = (k : Int)) : fdM rows t = some k := by
  unfold fdZ at h
  cases e : fdM rows t with
  | none => rw [e] at h; dsimp only at h; omega
  | some i => rw [e] at h; dsimp only at h; congr 1; omega
def fdE {α : Type} (rows : List (Nat × α)) (t : Int) : Int := match fdM rows t with
  | none => 181
  | some _ => 0
def fdC (rows : List (Nat × CV)) (t : Int) : ByteArray := match fdM rows t with
  | none => ⟨#[]⟩
  | some i => match rows[i]? with
    | some x => x.2.2.2
    | none => ⟨#[]⟩
def fdW (L : List (Nat × DW)) (t : Int) : BitVec 32 := match fdM L t with
  | none => 0
  | some i => match L[i]? with
    | some x => x.2.2
    | none => 0
theorem Ck.drop {rows : List (Nat × CV)} {L : List (Nat × DW)} {made : Nat} (h : Ck lt rows L made) (O : Od lt) (t : Int) :
    fdE rows t = fdE L t ∧ (fdE L t ≠ 0 → fdC rows t = ⟨#[]⟩) ∧ (fdE L t = 0 → fdC rows t = wordB (fdW L t)) ∧ Ck lt (drR lt rows t) (drL L t) made := by
  unfold fdE fdC fdW drR drL
  rcases h.find O t with ⟨a, b⟩ | ⟨i, j, x, a, b, c, d, e⟩
  · rw [a, b]; exact ⟨rfl, fun _ => rfl, fun e => absurd e (by decide), h⟩
  · rw [a, b]; simp only [c, d]
    refine ⟨?_, ?_, ?_, e⟩
    · trivial
    · intro q; exact absurd rfl q
    · intro q; rfl
/-- what is due up to a tick -/
def duM (tick : Int) : Nat → List (Nat × DW) → List (Nat × DW) × List (Nat × DW)
  | 0, L => ([], L)
  | n + 1, L => if 0 < L.length ∧ (lsX L).2.1 ≤ tick then (lsX L :: (duM tick n (lsL dlt L)).1, (duM tick n (lsL dlt L)).2) else ([], L)
theorem duM_go {tick : Int} {n : Nat} {L : List (Nat × DW)} (h : 0 < L.length) (h2 : (lsX L).2.1 ≤ tick) : duM tick (n + 1) L = (lsX L :: (duM tick n (lsL dlt L)).1, (duM tick n (lsL dlt L)).2) := by rw [duM, if_pos ⟨h, h2⟩]
theorem duM_stop {tick : Int} {n : Nat} {L : List (Nat × DW)} (h : 0 < L.length → tick < (lsX L).2.1) : duM tick n L = ([], L) := by
  cases n with
  | zero => rfl
  | succ n => rw [duM, if_neg (by rintro ⟨a, b⟩; have := h a; omega)]
theorem duM_len (tick : Int) : ∀ (n : Nat) (L : List (Nat × DW)), (duM tick n L).1.length + (duM tick n L).2.length ≤ L.length
  | 0, L => by simp [duM]
  | n + 1, L => by
    by_cases h : 0 < L.length ∧ (lsX L).2.1 ≤ tick
    · rw [duM_go h.1 h.2]
      have ih := duM_len tick n (lsL dlt L)
      rw [lsL_len] at ih
      simp only [List.length_cons]; omega
    · rw [duM, if_neg h]; simp
theorem Ck.until {made : Nat} (O : Od lt) (C : Cm lt) {tick : Int} (U : List (Nat × CV) → List (Nat × CV) × List (Nat × CV))
    (hgo : ∀ {rows : List (Nat × CV)} {x : Nat × CV}, rows[0]? = some x → x.2.2.1 ≤ tick → U rows = (x :: (U (takeM (pl lt) () rows 0).1).1, (U (takeM (pl lt) () rows 0).1).2))
    (hstop : ∀ {rows : List (Nat × CV)}, (∀ x, rows[0]? = some x → tick < x.2.2.1) → U rows = ([], rows)) :
    ∀ (n : Nat) (rows : List (Nat × CV)) (L : List (Nat × DW)), L.length ≤ n → Ck lt rows L made → (U rows).1 = (duM tick n L).1.map toD ∧ Ck lt (U rows).2 (duM tick n L).2 made
  | 0, rows, L, hn, h => by
    have e1 : L = [] := List.eq_nil_of_length_eq_zero (by omega)
    have e2 : rows = [] := List.eq_nil_of_length_eq_zero (by rw [h.len]; omega)
    subst e1; subst e2
    rw [hstop (by simp)]
    exact ⟨rfl, h⟩
  | n + 1, rows, L, hn, h => by
    rcases Nat.eq_zero_or_pos L.length with q | q
    · have e1 : L = [] := List.eq_nil_of_length_eq_zero q
      have e2 : rows = [] := List.eq_nil_of_length_eq_zero (by rw [h.len]; exact q)
      subst e1; subst e2
      rw [hstop (by simp), duM_stop (by simp)]
      exact ⟨rfl, h⟩
    · obtain ⟨x, h1, h2, h3, h4⟩ := h.pop O C q
      have e3 : lsX L = x := by unfold lsX; rw [h2]; rfl
      by_cases ht : x.2.1 ≤ tick
      · rw [hgo h1 ht, duM_go q (by rw [e3]; exact ht), e3]
        have ih := Ck.until O C U hgo hstop n _ _ (by rw [lsL_len]; omega) h4
        rw [ih.1]
        exact ⟨rfl, ih.2⟩
      · rw [hstop (by intro y hy; rw [h1] at hy; cases hy; show tick < x.2.1; omega), duM_stop (by intro _; rw [e3]; omega)]
        exact ⟨rfl, h⟩
theorem Ck.all {rows : List (Nat × CV)} {L : List (Nat × DW)} {made i : Nat} {x : Nat × CV} (h : Ck lt rows L made) (O : Od lt) (C : Cm lt) (hx : (srt lt (L.map toD))[i]? = some x) : ∃ y, (srt dlt L)[i]? = some y ∧ x = toD y := by
  rw [srt_toD O C L h.up, List.getElem?_map, Option.map_eq_some_iff] at hx
  obtain ⟨y, hy, e⟩ := hx
  exact ⟨y, hy, e.symm⟩
end
end Go.HpM
