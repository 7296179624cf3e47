/-
  Contracts of functions that the claim reaches, or the logic and the plain laws that they rest on, or the row over them. (Conditions: none beyond the statement.)
-/
import Derived.Test.YtcemkpiopijbmaaCqPg
set_option linter.all false
namespace Go.Proofs.Ytcemkpiopijbmaa
open Go.RowKit Go.SL Go.HpM Go.ShM 
set_option maxHeartbeats 1000000
set_option maxRecDepth 20000
set_option linter.all false

theorem dUntil_no {y made cap : Nat} {a : Option Nat} {tick : Int} {L : List (Nat × DW)} {t : Int} (h0 : laterM tick t ≠ 0) : Ct Try.prog 72 [.pointer (some ⟨y, 0, none⟩), .int .i64 t] [cl y 90 [.int .i64 tick, .int .i64 ((made : Nat) : Int), sl a L.length cap], arr a cap 3 81 eDR L] (fun _ : Unit => .tuple #[sl none 0 0, .int .i64 ((laterM tick t))]) (fun _ => [cl y 90 [.int .i64 tick, .int .i64 ((made : Nat) : Int), sl a L.length cap], arr a cap 3 81 eDR L]) := by
  refine Ct_body (n := 44) Try.func72 rfl rfl rfl fun F w0 Q hret hnorm hp => ?_
  change WC _ _ _ _ _ _ _ (_ :: _ :: F)
  refine WC_sr fun K1 hK1 => ?_
  refine WL_rd (Rd_assign (v := sl none 0 0) rfl) rfl rfl rfl ?_
  refine WL_rd (Rd_assign rfl) rfl rfl rfl ?_
  refine WL_end hK1 ?_
  refine WC_seq fun K2 hK2 => ?_
  refine WC_sr fun K3 hK3 => ?_
  refine WL_rd (Rd_move rfl) rfl rfl rfl ?_
  refine WL_ac (Ac_call cf65 rfl (hs := may_ct (t := t))) rfl rfl rfl ?_
  rintro _ _ ⟨⟨⟩, rfl, hA⟩
  simp only [List.cons_append, List.nil_append] at hA
  replace hA := hA.symm
  subst hA
  refine WL_rd (Rd_not rfl) rfl rfl rfl ?_
  refine WL_end hK3 ?_
  refine WC_cond rfl (fun hc0 => ?_) (fun hc0 => ?_)
  · try simp only [decide_eq_true_eq, decide_eq_false_iff_not, Bool.not_eq_true', Bool.not_eq_false', Bool.not_eq_true, Bool.not_eq_false, Int.not_lt, Int.not_le, Nat.not_lt, Nat.not_le, Decidable.not_not, ne_eq] at hc0
    have hq : laterM tick t = 2 := by unfold laterM; exact if_pos (mayB_f.1 (by simpa using hc0))
    rw [hq] at hret
    refine WC_sr fun K4 hK4 => ?_
    refine WL_rd (Rd_assign (v := sl none 0 0) rfl) rfl rfl rfl ?_
    refine WL_rd (Rd_assign rfl) rfl rfl rfl ?_
    refine WL_end hK4 ?_
    refine WC_ret ?_
    exact hret.go () (Rs2 rfl rfl rfl)
  · try simp only [decide_eq_true_eq, decide_eq_false_iff_not, Bool.not_eq_true', Bool.not_eq_false', Bool.not_eq_true, Bool.not_eq_false, Int.not_lt, Int.not_le, Nat.not_lt, Nat.not_le, Decidable.not_not, ne_eq] at hc0
    have hm := mayB_t.1 (show mayB t = true by simpa using hc0)
    refine WC_skip ?_
    refine Ps_next hK2 ?_
    refine WC_seq fun K5 hK5 => ?_
    refine WC_sr fun K6 hK6 => ?_
    refine WL_rd (Rd_move rfl) rfl rfl rfl ?_
    refine WL_rd (Rd_move rfl) rfl rfl rfl ?_
    refine WL_rd (Rd_nilCheck rfl) rfl rfl rfl ?_
    refine WL_rd (Rd_fieldAddr rfl fo90_0) rfl rfl rfl ?_
    refine WL_rd (Rd_load rfl tk3) rfl rfl rfl ?_
    refine WL_rd (Rd_lss rfl rfl) rfl rfl rfl ?_
    refine WL_end hK6 ?_
    refine WC_cond rfl (fun hc1 => ?_) (fun hc1 => ?_)
    · try simp only [decide_eq_true_eq, decide_eq_false_iff_not, Bool.not_eq_true', Bool.not_eq_false', Bool.not_eq_true, Bool.not_eq_false, Int.not_lt, Int.not_le, Nat.not_lt, Nat.not_le, Decidable.not_not, ne_eq] at hc1
      have hq : laterM tick t = 180 := by unfold laterM; rw [if_neg (by omega), if_pos (by omega)]
      rw [hq] at hret
      refine WC_sr fun K7 hK7 => ?_
      refine WL_rd (Rd_assign (v := sl none 0 0) rfl) rfl rfl rfl ?_
      refine WL_rd (Rd_assign rfl) rfl rfl rfl ?_
      refine WL_end hK7 ?_
      refine WC_ret ?_
      exact hret.go () (Rs2 rfl rfl rfl)
    · try simp only [decide_eq_true_eq, decide_eq_false_iff_not, Bool.not_eq_true', Bool.not_eq_false', Bool.not_eq_true, Bool.not_eq_false, Int.not_lt, Int.not_le, Nat.not_lt, Nat.not_le, Decidable.not_not, ne_eq] at hc1
      exact absurd (laterM_ok.2 ⟨hm.1, hm.2, by omega⟩) h0

theorem WJ_fact {P : Program} {m : Md} {ops : Array Oper} {Q : Exit → Act → World → Prop} {w0 : World} {n : Nat} {S : List Asn} {J : Nat → Nat} {fuel : Nat} {is : List Nat} {L : List (Nat × Value)} {A : List Asn} {p : Prop} (h : ∀ w, sat w A → p) (k : p → WJ P m ops Q w0 n S J fuel is L A) : WJ P m ops Q w0 n S J fuel is L A := fun a w hd0 hf hs hk => k (h w hs) a w hd0 hf hs hk
theorem kS_drop_u {c hb made : Nat} {now : Int} {rows : List (Nat × (Int × Int × ByteArray))} {t : Int} (hm : made ≤ 900000000 := by omega) : Ct Try.prog 28 [.pointer (some ⟨c, 0, none⟩), .int .i64 t] [cl c 121 [.int .i64 now, .int .i64 ((made : Nat) : Int), .pointer (some ⟨hb, 0, none⟩)], kS_h_hpA (.func (.func 59) #[] ([] : List Value).toArray) hb rows made, emp] (fun _ : Unit => .tuple #[.string (fdC rows t), .int .i64 ((fdE rows t))]) (fun _ => [cl c 121 [.int .i64 now, .int .i64 ((made : Nat) : Int), .pointer (some ⟨hb, 0, none⟩)], kS_h_hpA (.func (.func 59) #[] ([] : List Value).toArray) hb (drR kS_lt rows t) made, emp]) := by
  unfold fdC fdE drR
  cases h : fdM rows t with
  | none => exact kS_drop_no (fd_none h)
  | some i =>
    obtain ⟨x, hx, e⟩ := fd_some h
    simp only [hx]
    exact kS_drop (x := x) (i := i) hx e.symm
theorem kS_take_u {c hb made : Nat} {now : Int} {rows : List (Nat × (Int × Int × ByteArray))} (hm : made ≤ 900000000 := by omega) : Ct Try.prog 25 [.pointer (some ⟨c, 0, none⟩)] [cl c 121 [.int .i64 now, .int .i64 ((made : Nat) : Int), .pointer (some ⟨hb, 0, none⟩)], kS_h_hpA (.func (.func 59) #[] ([] : List Value).toArray) hb rows made, emp] (fun _ : Unit => .tuple #[.agg [.int .i64 (tpC rows).1, .int .i64 (tpC rows).2.1, .string (tpC rows).2.2].toArray, .bool (decide (rows ≠ []))]) (fun _ => [cl c 121 [.int .i64 (tkN now rows), .int .i64 ((made : Nat) : Int), .pointer (some ⟨hb, 0, none⟩)], kS_h_hpA (.func (.func 59) #[] ([] : List Value).toArray) hb (takeM (pl kS_lt) () rows 0).1 made, emp]) := by
  cases rows with
  | nil => rw [takeM_nil0]; exact kS_take0
  | cons x r => exact kS_take (x := x) (hx0 := rfl)
def unO (now t : Int) (rows : List (Nat × (Int × Int × ByteArray))) : List (Int × Int × ByteArray) := if laterM now t = 0 then (kS_untM t rows).1.map (fun r => r.2) else []
def unR (now t : Int) (rows : List (Nat × (Int × Int × ByteArray))) : List (Nat × (Int × Int × ByteArray)) := if laterM now t = 0 then (kS_untM t rows).2 else rows
def unN (now t : Int) : Int := if laterM now t = 0 then t else now
def duO (now t : Int) (L : List (Nat × DW)) : List (Nat × DW) := if laterM now t = 0 then (duM t L.length L).1 else []
def duR (now t : Int) (L : List (Nat × DW)) : List (Nat × DW) := if laterM now t = 0 then (duM t L.length L).2 else L
theorem kS_until_u {c hb made : Nat} {now : Int} {rows : List (Nat × (Int × Int × ByteArray))} {t : Int} (hm : made ≤ 900000000 := by omega) : Ct Try.prog 26 [.pointer (some ⟨c, 0, none⟩), .int .i64 t] [cl c 121 [.int .i64 now, .int .i64 ((made : Nat) : Int), .pointer (some ⟨hb, 0, none⟩)], kS_h_hpA (.func (.func 59) #[] ([] : List Value).toArray) hb rows made, emp] (fun g : Option Nat × Nat => .tuple #[sl g.1 (unO now t rows).length g.2, .int .i64 ((laterM now t))]) (fun g => [cl c 121 [.int .i64 (unN now t), .int .i64 ((made : Nat) : Int), .pointer (some ⟨hb, 0, none⟩)], kS_h_hpA (.func (.func 59) #[] ([] : List Value).toArray) hb (unR now t rows) made, emp, arr g.1 g.2 3 62 kS_eD (unO now t rows)]) := by
  unfold unO unR unN
  by_cases h : laterM now t = 0
  · simp only [if_pos h, List.length_map]; rw [h]; exact kS_until (h0 := h)
  · simp only [if_neg h]
    exact Ct_way fun F w hs => ⟨Unit, _, _, _, kS_until_no (c := c) (hb := hb) (made := made) (now := now) (rows := rows) (tick := t) (h0 := h), hs, fun r w' hw => ⟨(none, 0), rfl, by
      have h2 := sat_nil (e := 3) (T := 62) (f := kS_eD) hw
      exact sat_perm (List.perm_middle (l₁ := [cl c 121 [.int .i64 now, .int .i64 ((made : Nat) : Int), .pointer (some ⟨hb, 0, none⟩)], kS_h_hpA (.func (.func 59) #[] ([] : List Value).toArray) hb rows made, emp])).symm h2⟩⟩
theorem dUntil_ct {y made cap : Nat} {a : Option Nat} {tick : Int} {L : List (Nat × DW)} {t : Int} (hlen : L.length ≤ 100000000 := by omega) : Ct Try.prog 72 [.pointer (some ⟨y, 0, none⟩), .int .i64 t] [cl y 90 [.int .i64 tick, .int .i64 ((made : Nat) : Int), sl a L.length cap], arr a cap 3 81 eDR L] (fun g : (Option Nat × Nat) × (Option Nat × Nat) => .tuple #[sl g.2.1 (duO tick t L).length g.2.2, .int .i64 ((laterM tick t))]) (fun g => [cl y 90 [.int .i64 (unN tick t), .int .i64 ((made : Nat) : Int), sl g.1.1 (duR tick t L).length g.1.2], arr g.1.1 g.1.2 3 81 eDR (duR tick t L), arr g.2.1 g.2.2 3 81 eDR (duO tick t L)]) := by
  unfold duO duR unN
  by_cases h : laterM tick t = 0
  · simp only [if_pos h]; rw [h]; exact dUntil_ok (h0 := h) (hlen := hlen)
  · simp only [if_neg h]
    exact Ct_way fun F w hs => ⟨Unit, _, _, _, dUntil_no (y := y) (made := made) (cap := cap) (a := a) (tick := tick) (L := L) (t := t) (h0 := h), hs, fun r w' hw => ⟨((a, cap), (none, 0)), rfl, by
      have h2 := sat_nil (e := 3) (T := 81) (f := eDR) hw
      exact sat_perm (List.perm_middle (l₁ := [cl y 90 [.int .i64 tick, .int .i64 ((made : Nat) : Int), sl a L.length cap], arr a cap 3 81 eDR L])).symm h2⟩⟩
theorem ck_set {rows : List (Nat × (Int × Int × ByteArray))} {L : List (Nat × DW)} {made : Nat} {now t : Int} {v : BitVec 32} (h : Ck kS_lt rows L made) : Ck kS_lt (kS_setR now rows made t (wordB v)) (lsS now L made t v) (kS_setN now made t) := by
  unfold kS_setR lsS kS_setN
  split
  · rename_i h0
    have := laterM_ok.1 h0
    exact h.set kS_lt_od ⟨this.1, this.2.1⟩
  · exact h
theorem ck_setN {now t : Int} {made : Nat} : kS_setN now made t ≤ made + 1 := by unfold kS_setN; split <;> omega
theorem ck_next {rows : List (Nat × (Int × Int × ByteArray))} {L : List (Nat × DW)} {made : Nat} (h : Ck kS_lt rows L made) : kS_nxT rows = nxD L ∧ kS_nxB rows = decide (L ≠ []) := by
  obtain ⟨e1, _, _, e4, _⟩ := h.take kS_lt_od kS_cm 0
  cases rows with
  | nil =>
    cases L with
    | nil => exact ⟨rfl, rfl⟩
    | cons x r => simp at e1
  | cons x r =>
    cases L with
    | nil => simp at e1
    | cons y s => exact ⟨e4, rfl⟩
theorem ck_now {rows : List (Nat × (Int × Int × ByteArray))} {L : List (Nat × DW)} {made : Nat} {now : Int} (h : Ck kS_lt rows L made) (hn : 0 ≤ now ∧ now ≤ 1099511627776) : 0 ≤ tkD now L ∧ tkD now L ≤ 1099511627776 := by
  cases L with
  | nil => exact hn
  | cons x r =>
    have := lsX_at (L := x :: r) (by simp)
    exact h.tk _ (List.mem_of_getElem? this)
theorem ck_until {rows : List (Nat × (Int × Int × ByteArray))} {L : List (Nat × DW)} {made : Nat} {now t : Int} (h : Ck kS_lt rows L made) : unO now t rows = (duO now t L).map (fun r => (toD r).2) ∧ Ck kS_lt (unR now t rows) (duR now t L) made := by
  unfold unO duO unR duR
  split
  · obtain ⟨a, b⟩ := Ck.until kS_lt_od kS_cm (kS_untM t) (fun hx h => kS_untM_go hx h) (fun h => kS_untM_stop h) L.length rows L (Nat.le_refl _) h
    exact ⟨by rw [a, List.map_map]; rfl, b⟩
  · exact ⟨rfl, h⟩
theorem unN_ok {now t : Int} (hn : 0 ≤ now ∧ now ≤ 1099511627776) : 0 ≤ unN now t ∧ unN now t ≤ 1099511627776 := by
  unfold unN
  split
  · rename_i h
    have := laterM_ok.1 h; omega
  · exact hn
theorem duO_len {now t : Int} {L : List (Nat × DW)} : (duO now t L).length ≤ L.length := by
  unfold duO
  split
  · have := duM_len t L.length L; omega
  · simp
/-- a clock, the document's beside it -/
structure CS where
  rows : List (Nat × (Int × Int × ByteArray))
  L : List (Nat × DW)
  made : Nat
  now : Int
  a : Option Nat
  cap : Nat
structure CI (s : CS) : Prop where
  ck : Ck kS_lt s.rows s.L s.made
  nw : 0 ≤ s.now ∧ s.now ≤ 1099511627776
/-- the lists that were answered -/
structure KP where
  ps : List PU
  a : Option Nat
  cap : Nat
def UOk (ps : List PU) : Prop := ∀ p ∈ ps, (p.a = none → p.l = []) ∧ p.l.length ≤ p.cap ∧ p.l.length ≤ 900000000
theorem UOk_snoc {ps : List PU} {p : PU} (h : UOk ps) (h1 : p.a = none → p.l = []) (h2 : p.l.length ≤ p.cap) (h3 : p.l.length ≤ 900000000) : UOk (ps ++ [p]) := fun x hx => by
  rcases List.mem_append.1 hx with q | q
  · exact h x q
  · rw [List.mem_singleton] at q; subst q; exact ⟨h1, h2, h3⟩
structure KI (p : KP) (n : Nat) : Prop where
  ok : UOk p.ps
  ln : p.ps.length ≤ n
theorem KI.up {p : KP} {n m : Nat} (h : KI p n) (hm : n ≤ m) : KI p m := ⟨h.ok, Nat.le_trans h.ln hm⟩
theorem KI.put {p : KP} {n : Nat} {x : PU} {a : Option Nat} {cap : Nat} (h : KI p n) (h1 : x.a = none → x.l = []) (h2 : x.l.length ≤ x.cap) (h3 : x.l.length ≤ 900000000) : KI ⟨p.ps ++ [x], a, cap⟩ (n + 1) := ⟨UOk_snoc h.ok h1 h2 h3, by have := h.ln; simp; omega⟩
/-- one step -/
structure SQ where
  sec : Bool
  d : BitVec 8
  tick : Int
  v : BitVec 32
def eSQ (q : SQ) : List Value := [.bool q.sec, .int .u8 (q.d.toNat : Int), .int .i64 q.tick, .int .u32 (q.v.toNat : Int)]
theorem encSQ : Enc eSQ 4 := ⟨fun _ => rfl, fun q v hv => by simp only [eSQ, List.mem_cons, List.not_mem_nil, or_false] at hv; rcases hv with rfl | rfl | rfl | rfl <;> rfl⟩
end Go.Proofs.Ytcemkpiopijbmaa
