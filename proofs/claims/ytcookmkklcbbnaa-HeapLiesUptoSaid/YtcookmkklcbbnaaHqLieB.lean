/-
  Contracts of functions that the claim reaches, or the logic and the plain laws that they rest on, or the row over them. (Conditions: none beyond the statement.)
-/
import Derived.Test.YtcookmkklcbbnaaHqLieA
import Derived.Test.YtcookmkklcbbnaaLibB
import Derived.Test.YtcookmkklcbbnaaLibR
set_option linter.all false
namespace Go.Proofs.Ytcookmkklcbbnaa
open Go.RowKit Go.SL Go.HpM Go.ShM 
set_option maxHeartbeats 1000000
set_option maxRecDepth 20000
set_option linter.all false
theorem cf30 : cfn Try.prog 30 = true := by kernel_rfl
theorem el3 : el Try.prog 3 = some (1, 8) := by kernel_rfl
theorem sz4 : sz Try.prog 4 = some 1 := by kernel_rfl
theorem tk4 : tk Try.prog 4 = some none := by kernel_rfl
theorem tk46 : tk Try.prog 46 = some none := by kernel_rfl
theorem tk65 : tk Try.prog 65 = some none := by kernel_rfl
theorem ud46 : Try.prog.underlying 46 = some (.slice 3) := by kernel_rfl
theorem ud65 : Try.prog.underlying 65 = some (.slice 4) := by kernel_rfl
theorem zr3 : zr Try.prog 3 = some [.int .i64 0] := by kernel_rfl
theorem pick_ct {x : Int} {n : Nat} (hn : 1 ≤ n := by omega) (hn2 : n ≤ 1000000000 := by omega) : Ct Try.prog 31 [.int .i64 x, .int .i64 ((n : Nat) : Int)] [] (fun _ : Unit => .int .i64 (((pickN x n) : Nat) : Int)) (fun _ => []) := by
  refine Ct_body (n := 16) Try.func31 rfl rfl rfl fun F w0 Q hret hnorm hp => ?_
  change WC _ _ _ _ _ _ _ (F)
  have htm := tmod_abs x hn
  refine WC_sr fun K1 hK1 => ?_
  refine WL_rd (Rd_assign rfl) rfl rfl rfl ?_
  refine WL_end hK1 ?_
  refine WC_seq fun K2 hK2 => ?_
  refine WC_sr fun K3 hK3 => ?_
  refine WL_rd (Rd_move rfl) rfl rfl rfl ?_
  refine WL_rd (Rd_isF (Rd_lssN (j := 1) rfl rfl)) rfl rfl rfl ?_
  refine WL_end hK3 ?_
  refine WC_condF rfl ?_
  refine WC_skip ?_
  refine Ps_next hK2 ?_
  refine WC_sr fun K4 hK4 => ?_
  refine WL_rd (Rd_move rfl) rfl rfl rfl ?_
  refine WL_rd (Rd_move rfl) rfl rfl rfl ?_
  refine WL_rd (Rd_rem' rfl rfl (by omega) rfl) rfl rfl rfl ?_
  refine WL_rd (Rd_assign rfl) rfl rfl rfl ?_
  refine WL_end hK4 ?_
  refine WC_seq fun K5 hK5 => ?_
  refine WC_sr fun K6 hK6 => ?_
  refine WL_rd (Rd_move rfl) rfl rfl rfl ?_
  refine WL_rd (Rd_lss rfl rfl) rfl rfl rfl ?_
  refine WL_end hK6 ?_
  refine WC_cond rfl (fun hc1 => ?_) (fun hc1 => ?_)
  · try simp only [decide_eq_true_eq, decide_eq_false_iff_not, Bool.not_eq_true', Bool.not_eq_false', Bool.not_eq_true, Bool.not_eq_false, Int.not_lt, Int.not_le, Nat.not_lt, Nat.not_le, Decidable.not_not, ne_eq] at hc1
    refine WC_region ?_
    refine WL_rd (Rd_move rfl) rfl rfl rfl ?_
    refine WL_rd (Rd_move rfl) rfl rfl rfl ?_
    refine WL_rd (Rd_add' rfl rfl (wr64 rfl (by omega) (by omega))) rfl rfl rfl ?_
    refine WL_rd (Rd_assign rfl) rfl rfl rfl ?_
    refine WL_nil ?_
    refine Ps_next hK5 ?_
    refine WC_sr fun K7 hK7 => ?_
    refine WL_rd (Rd_move rfl) rfl rfl rfl ?_
    refine WL_rd (Rd_assign rfl) rfl rfl rfl ?_
    refine WL_end hK7 ?_
    refine WC_ret ?_
    first | exact hret.goE () (Rs1 rfl rfl) (by rw [pick_neg hn hc1]) | exact hret.goE () (Rs1 rfl rfl) (by rw [pick_pos hn (by omega)])
  · try simp only [decide_eq_true_eq, decide_eq_false_iff_not, Bool.not_eq_true', Bool.not_eq_false', Bool.not_eq_true, Bool.not_eq_false, Int.not_lt, Int.not_le, Nat.not_lt, Nat.not_le, Decidable.not_not, ne_eq] at hc1
    refine WC_skip ?_
    refine Ps_next hK5 ?_
    refine WC_sr fun K8 hK8 => ?_
    refine WL_rd (Rd_move rfl) rfl rfl rfl ?_
    refine WL_rd (Rd_assign rfl) rfl rfl rfl ?_
    refine WL_end hK8 ?_
    refine WC_ret ?_
    first | exact hret.goE () (Rs1 rfl rfl) (by rw [pick_neg hn hc1]) | exact hret.goE () (Rs1 rfl rfl) (by rw [pick_pos hn (by omega)])

theorem lDrop_ct {σ : Type} {J : σ → Asn} {lt : σ → Int → Int → Bool × σ} {lf : FuncId} {caps : List Value} {cost : σ → Nat} {Bd : Nat} (hcf : cfn Try.prog lf = true) (hless : ∀ s x y, cost s < Bd → Ct Try.prog lf ([.int .i64 x, .int .i64 y] ++ caps) [J s] (fun _ : Unit => .bool (lt s x y).1) (fun _ => [J (lt s x y).2])) (hco : ∀ s x y, cost (lt s x y).2 ≤ cost s + 1) {b made : Nat} {rows : List (Nat × Int)} {s : σ} {t : Int} (hm : made ≤ 900000000 := by omega) (hbd : cost s + 6 * rows.length ≤ Bd := by omega) : Ct Try.prog 32 [.pointer (some ⟨b, 0, none⟩), .int .i64 t] [hL_hpA (.func (.func lf) #[] caps.toArray) b rows made, J s] (fun _ : Unit => .tuple #[.int .i64 ((drV rows t)), .int .i64 ((drE rows t))]) (fun _ => [hL_hpA (.func (.func lf) #[] caps.toArray) b (dlR lt s rows t).1 made, J (dlR lt s rows t).2]) := by
  unfold drV drE dlR
  cases h : fdM rows t with
  | none => exact (hL_drop_no_hp (b := b) (made := made) (lf := lf) (caps := caps) (t := t) (fd_none h)).frame [J s]
  | some i =>
    obtain ⟨x, hx, e⟩ := fd_some h
    simp only [hx]
    exact hL_drop_hp hcf hless hco (s := s) (x := x) (i := i) (t := t) (hi := hx) (ht := e.symm)
theorem at_x {α : Type} {l : List α} {i : Nat} (h : i < l.length) : ∃ x, l[i]? = some x := ⟨_, List.getElem?_eq_getElem h⟩

theorem count_ct {X : Asn} {v : Value} {l : List Int} {ao : Option Addr} {cap : Nat} {x : Int} (hS : Sv [X] v 1 (eInt .i64) l ao cap := by assumption) (hl : l.length ≤ 900000000000 := by omega) : Ct Try.prog 30 [v, .int .i64 x] [X] (fun _ : Unit => .int .i64 (((cntM l x) : Nat) : Int)) (fun _ => [X]) := by
  refine Ct_body (n := 22) Try.func30 rfl rfl rfl fun F w0 Q hret hnorm hp => ?_
  change WC _ _ _ _ _ _ _ (_ :: F)
  refine WC_sr fun K1 hK1 => ?_
  refine WL_rd (Rd_assign rfl) rfl rfl rfl ?_
  refine WL_end hK1 ?_
  refine WC_sr fun K2 hK2 => ?_
  refine WL_rd (Rd_assign rfl) rfl rfl rfl ?_
  refine WL_end hK2 ?_
  refine WC_seq fun K3 hK3 => ?_
  refine WC_sr fun K4 hK4 => ?_
  refine WL_rd (Rd_assign rfl) rfl rfl rfl ?_
  refine WL_end hK4 ?_
  refine WC_block ?_
  refine WC_loopK (σ := Nat) (fun k => [(5, .int .i64 (((cntM (l.take k) x) : Nat) : Int)), (6, .int .i64 ((k : Nat) : Int))]) (fun k => []) (fun k => k ≤ l.length) (fun k => l.length - k) (0) [0, 1, 4, 21] (by repeat (first | exact Kep.nil | apply Kep.drop rfl | apply Kep.keep rfl)) (by (try dsimp only); repeat (first | with_reducible exact Gv.nil | (with_reducible apply Gv.cons; · (repeat (first | with_reducible exact Ext.here | with_reducible apply Ext.there))))) ?_ ?_ Sub.refl ?_
  · exact Nat.zero_le _
  · (try dsimp only); exact (Wk.cons (by first | rfl | (simp only [List.length_append, List.length_cons, List.length_nil, List.length_replicate, Nat.zero_add]; rfl) | (simp; done)) (Wk.cons (by first | rfl | (simp only [List.length_append, List.length_cons, List.length_nil, List.length_replicate, Nat.zero_add]; rfl) | (simp; done)) Wk.nil))
  · rintro k hk K5 hK5
    simp only [List.cons_append, List.nil_append]
    have hck := cnt_le l k x
    refine WC_seq fun K6 hK6 => ?_
    refine WC_sr fun K7 hK7 => ?_
    refine WL_rd (Rd_move rfl) rfl rfl rfl ?_
    refine WL_rd (Rd_move rfl) rfl rfl rfl ?_
    refine WL_rd (Rd_len_sv rfl rfl ud46 (hA := hS)) rfl rfl rfl ?_
    refine WL_rd (Rd_lssN rfl rfl) rfl rfl rfl ?_
    refine WL_end hK7 ?_
    refine WC_cond rfl (fun hc0 => ?_) (fun hc0 => ?_)
    · try simp only [decide_eq_true_eq, decide_eq_false_iff_not, Bool.not_eq_true', Bool.not_eq_false', Bool.not_eq_true, Bool.not_eq_false, Int.not_lt, Int.not_le, Nat.not_lt, Nat.not_le, Decidable.not_not, ne_eq] at hc0
      obtain ⟨y, hy⟩ := at_x (l := l) (i := k) (by omega)
      refine WC_skip ?_
      refine Ps_next hK6 ?_
      refine WC_seq fun K8 hK8 => ?_
      refine WC_block ?_
      refine WC_sr fun K9 hK9 => ?_
      refine WL_rd (Rd_move rfl) rfl rfl rfl ?_
      refine WL_rd (Rd_move rfl) rfl rfl rfl ?_
      refine WL_rd (Rd_index_sv k rfl rfl ud46 sz3 (hA := hS) (hi := by omega)) rfl rfl rfl ?_
      refine WL_rd (Rd_load_sv (i := k) (j := 0) rfl tk3 (hA := hS) (hl := hy)) rfl rfl rfl ?_
      refine WL_rd (Rd_move rfl) rfl rfl rfl ?_
      refine WL_rd (Rd_eql rfl rfl) rfl rfl rfl ?_
      refine WL_end hK9 ?_
      refine WC_cond rfl (fun hc1 => ?_) (fun hc1 => ?_)
      · try simp only [decide_eq_true_eq, decide_eq_false_iff_not, Bool.not_eq_true', Bool.not_eq_false', Bool.not_eq_true, Bool.not_eq_false, Int.not_lt, Int.not_le, Nat.not_lt, Nat.not_le, Decidable.not_not, ne_eq] at hc1
        rw [hc1] at hy
        refine WC_region ?_
        refine WL_rd (Rd_move rfl) rfl rfl rfl ?_
        refine WL_rd (Rd_addN (j := 1) rfl rfl) rfl rfl rfl ?_
        rw [cnt_yes hy]
        refine WL_rd (Rd_assign rfl) rfl rfl rfl ?_
        refine WL_nil ?_
        refine Ps_next hK8 ?_
        refine WC_region ?_
        refine WL_rd (Rd_move rfl) rfl rfl rfl ?_
        refine WL_rd (Rd_addN (j := 1) rfl rfl) rfl rfl rfl ?_
        refine WL_rd (Rd_assign rfl) rfl rfl rfl ?_
        refine WL_nil ?_
        refine Ps_wk (by (try simp only [List.cons_append, List.nil_append]); repeat (first | with_reducible exact Wk.nil | refine Wk.cons (by first | rfl | (simp only [List.length_append, List.length_cons, List.length_nil, List.length_replicate, Nat.zero_add]; rfl) | (simp; done)) ?_)) (by (try simp only [List.cons_append, List.nil_append]); repeat (first | with_reducible exact Sub.refl | with_reducible exact Sub.nil | with_reducible refine Sub.cons (by repeat (first | with_reducible exact Ext.here | with_reducible apply Ext.there)) ?_ | with_reducible refine Sub.tail ?_)) (hK5 (k + 1) (by omega) (by omega))
      · try simp only [decide_eq_true_eq, decide_eq_false_iff_not, Bool.not_eq_true', Bool.not_eq_false', Bool.not_eq_true, Bool.not_eq_false, Int.not_lt, Int.not_le, Nat.not_lt, Nat.not_le, Decidable.not_not, ne_eq] at hc1
        rw [cnt_no hy hc1]
        refine WC_skip ?_
        refine Ps_next hK8 ?_
        refine WC_region ?_
        refine WL_rd (Rd_move rfl) rfl rfl rfl ?_
        refine WL_rd (Rd_addN (j := 1) rfl rfl) rfl rfl rfl ?_
        refine WL_rd (Rd_assign rfl) rfl rfl rfl ?_
        refine WL_nil ?_
        refine Ps_wk (by (try simp only [List.cons_append, List.nil_append]); repeat (first | with_reducible exact Wk.nil | refine Wk.cons (by first | rfl | (simp only [List.length_append, List.length_cons, List.length_nil, List.length_replicate, Nat.zero_add]; rfl) | (simp; done)) ?_)) (by (try simp only [List.cons_append, List.nil_append]); repeat (first | with_reducible exact Sub.refl | with_reducible exact Sub.nil | with_reducible refine Sub.cons (by repeat (first | with_reducible exact Ext.here | with_reducible apply Ext.there)) ?_ | with_reducible refine Sub.tail ?_)) (hK5 (k + 1) (by omega) (by omega))
    · try simp only [decide_eq_true_eq, decide_eq_false_iff_not, Bool.not_eq_true', Bool.not_eq_false', Bool.not_eq_true, Bool.not_eq_false, Int.not_lt, Int.not_le, Nat.not_lt, Nat.not_le, Decidable.not_not, ne_eq] at hc0
      obtain rfl : k = l.length := by omega
      rw [List.take_length]
      refine WC_exit ?_
      refine Ps_next hK3 ?_
      refine WC_sr fun K10 hK10 => ?_
      refine WL_rd (Rd_move rfl) rfl rfl rfl ?_
      refine WL_rd (Rd_assign rfl) rfl rfl rfl ?_
      refine WL_end hK10 ?_
      refine WC_ret ?_
      exact hret.go () (Rs1 rfl rfl)

theorem less_ct {X : Asn} {v v' : Value} {l : List Int} {tells : List Bool} {ao ao' : Option Addr} {cap cap' : Nat} {bl bt ba bs : Nat} {s : Nat × Bool} {x y : Int} (hS : Sv [X] v 1 (eInt .i64) l ao cap := by assumption) (hT : Sv [X] v' 1 eBool tells ao' cap' := by assumption) (hl : l.length ≤ 1048576 := by omega) (ha : s.1 < 4611686018427387904) : Ct Try.prog 29 [.int .i64 x, .int .i64 y, .pointer (some ⟨bl, 0, none⟩), .pointer (some ⟨bs, 0, none⟩), .pointer (some ⟨ba, 0, none⟩), .pointer (some ⟨bt, 0, none⟩)] [cl bl 46 [v], cl bt 65 [v'], cl ba 3 [.int .i64 ((s.1 : Nat) : Int)], cl bs 4 [.bool s.2], X] (fun _ : Unit => .bool (lieM l tells s x y).1) (fun _ => [cl bl 46 [v], cl bt 65 [v'], cl ba 3 [.int .i64 (((lieM l tells s x y).2.1 : Nat) : Int)], cl bs 4 [.bool (lieM l tells s x y).2.2], X]) := by
  refine Ct_body (n := 33) Try.func29 rfl rfl rfl fun F w0 Q hret hnorm hp => ?_
  change WC _ _ _ _ _ _ _ (_ :: _ :: _ :: _ :: _ :: F)
  have hcx := cnt_len l x
  have hcy := cnt_len l y
  rw [show (lieM l tells s x y).1 = tellB tells (s.1 + 1) from rfl, show (lieM l tells s x y).2.1 = s.1 + 1 from rfl, show (lieM l tells s x y).2.2 = (s.2 || decide (cntM l x < 1) || decide (cntM l y < 1)) from rfl] at hret
  refine WC_sr fun K1 hK1 => ?_
  refine WL_rd (Rd_assign rfl) rfl rfl rfl ?_
  refine WL_end hK1 ?_
  refine WC_seq fun K2 hK2 => ?_
  refine WC_sr fun K3 hK3 => ?_
  refine WL_rd (Rd_load rfl tk46 (v := v)) rfl rfl rfl ?_
  refine WL_rd (Rd_move rfl) rfl rfl rfl ?_
  refine WL_ac (Ac_call cf30 rfl (hs := count_ct (X := X) (l := l) (x := x) (hS := hS))) rfl rfl rfl ?_
  rintro _ _ ⟨⟨⟩, rfl, hA⟩
  simp only [List.cons_append, List.nil_append] at hA
  replace hA := hA.symm
  subst hA
  refine WL_rd (Rd_lssN (j := 1) rfl rfl) rfl rfl rfl ?_
  refine WL_rd (Rd_move rfl) rfl rfl rfl ?_
  refine WL_bool 13 rfl (fun hg4 => ?_) (fun hg4 => ?_)
  · try simp only [decide_eq_true_eq, decide_eq_false_iff_not, Bool.not_eq_true', Bool.not_eq_false', Bool.not_eq_true, Bool.not_eq_false, Int.not_lt, Int.not_le, Nat.not_lt, Nat.not_le, Decidable.not_not, ne_eq] at hg4
    have q0 := hg4
    refine WL_skip rfl rfl rfl ?_
    refine WL_skip rfl rfl rfl ?_
    refine WL_skip rfl rfl rfl ?_
    refine WL_skip rfl rfl rfl ?_
    refine WL_rd (Rd_pickT rfl rfl) rfl rfl rfl ?_
    refine WL_end hK3 ?_
    refine WC_condT rfl ?_
    rw [show (s.2 || decide (cntM l x < 1) || decide (cntM l y < 1)) = true from by simp; omega] at hret
    refine WC_region ?_
    refine WL_ac0 (Ac_store1 rfl rfl sz4) rfl rfl ?_
    rintro _ _ rfl
    refine WL_nil ?_
    refine Ps_next hK2 ?_
    refine WC_sr fun K5 hK5 => ?_
    refine WL_rd (Rd_load rfl tk3) rfl rfl rfl ?_
    refine WL_rd (Rd_addN (j := 1) rfl rfl) rfl rfl rfl ?_
    refine WL_ac0 (Ac_store1 rfl rfl sz3) rfl rfl ?_
    rintro _ _ rfl
    refine WL_end hK5 ?_
    refine WC_seq fun K6 hK6 => ?_
    refine WC_drawA mix (fun i => ([2, 2, 2, 2, 2, 2, 2, 2, 2, 2, 2, 2, 2] : List Nat).getD i 0) ?_
    refine WJ_tk 0 (Rd_load rfl tk65 (v := v')) hp ?_ rfl (by kernel_rfl) rfl rfl rfl
    refine WJ_takeP 1 rfl (by kernel_rfl) (Rd_len_sv rfl rfl ud65 (hA := hT)) rfl rfl rfl (hp _ _) ?_
    refine WJ_takeP 2 rfl (by kernel_rfl) (Rd_gtrN (j := 0) rfl rfl) rfl rfl rfl (hp _ _) ?_
    refine WJ_takeP 3 rfl (by kernel_rfl) (Rd_move rfl) rfl rfl rfl (hp _ _) ?_
    refine WJ_bool 24 rfl (fun hg7 => ?_) (fun hg7 => ?_)
    · try simp only [decide_eq_true_eq, decide_eq_false_iff_not, Bool.not_eq_true', Bool.not_eq_false', Bool.not_eq_true, Bool.not_eq_false, Int.not_lt, Int.not_le, Nat.not_lt, Nat.not_le, Decidable.not_not, ne_eq] at hg7
      have q1 := hg7
      refine WJ_tk 4 (Rd_load rfl tk65 (v := v')) hp ?_ rfl (by kernel_rfl) rfl rfl rfl
      refine WJ_tk 5 (Rd_load rfl tk3) hp ?_ rfl (by kernel_rfl) rfl rfl rfl
      refine WJ_tk 6 (Rd_load rfl tk65 (v := v')) hp ?_ rfl (by kernel_rfl) rfl rfl rfl
      refine WJ_takeP 7 rfl (by kernel_rfl) (Rd_len_sv rfl rfl ud65 (hA := hT)) rfl rfl rfl (hp _ _) ?_
      refine WJ_takeP 8 rfl (by kernel_rfl) (Rd_remN rfl rfl) rfl rfl rfl (hp _ _) ?_
      refine WJ_takeP 9 rfl (by kernel_rfl) (Rd_index_sv ((s.1 + 1) % tells.length) rfl rfl ud65 sz4 (hA := hT) (hi := Nat.mod_lt _ (by omega))) rfl rfl rfl (hp _ _) ?_
      refine WJ_tk 10 (Rd_load_sv (f := eBool) (i := (s.1 + 1) % tells.length) (j := 0) rfl tk4 (hA := hT) (hl := tell_at (by omega))) hp ?_ rfl (by kernel_rfl) rfl rfl rfl
      refine WJ_takeP 11 rfl (by kernel_rfl) (Rd_pickT rfl rfl) rfl rfl rfl (hp _ _) ?_
      refine WJ_takeP 12 rfl (by kernel_rfl) (Rd_assign rfl) rfl rfl rfl (hp _ _) ?_
      refine WJ_done (by kernel_rfl) ?_
      refine Ps_next hK6 ?_
      refine WC_ret ?_
      first | exact hret.go () (Rs1 rfl rfl) | exact hret.goE () (Rs1 rfl rfl) (by rw [tell_0 (by omega)])
    · try simp only [decide_eq_true_eq, decide_eq_false_iff_not, Bool.not_eq_true', Bool.not_eq_false', Bool.not_eq_true, Bool.not_eq_false, Int.not_lt, Int.not_le, Nat.not_lt, Nat.not_le, Decidable.not_not, ne_eq] at hg7
      have q1 := hg7
      refine WJ_skip 4 rfl (by kernel_rfl) rfl rfl rfl (hp _ _) ?_
      refine WJ_skip 5 rfl (by kernel_rfl) rfl rfl rfl (hp _ _) ?_
      refine WJ_skip 6 rfl (by kernel_rfl) rfl rfl rfl (hp _ _) ?_
      refine WJ_skip 7 rfl (by kernel_rfl) rfl rfl rfl (hp _ _) ?_
      refine WJ_skip 8 rfl (by kernel_rfl) rfl rfl rfl (hp _ _) ?_
      refine WJ_skip 9 rfl (by kernel_rfl) rfl rfl rfl (hp _ _) ?_
      refine WJ_skip 10 rfl (by kernel_rfl) rfl rfl rfl (hp _ _) ?_
      refine WJ_takeP 11 rfl (by kernel_rfl) (Rd_pickF rfl rfl) rfl rfl rfl (hp _ _) ?_
      refine WJ_takeP 12 rfl (by kernel_rfl) (Rd_assign rfl) rfl rfl rfl (hp _ _) ?_
      refine WJ_done (by kernel_rfl) ?_
      refine Ps_next hK6 ?_
      refine WC_ret ?_
      first | exact hret.go () (Rs1 rfl rfl) | exact hret.goE () (Rs1 rfl rfl) (by rw [tell_0 (by omega)])
  · try simp only [decide_eq_true_eq, decide_eq_false_iff_not, Bool.not_eq_true', Bool.not_eq_false', Bool.not_eq_true, Bool.not_eq_false, Int.not_lt, Int.not_le, Nat.not_lt, Nat.not_le, Decidable.not_not, ne_eq] at hg4
    have q0 := hg4
    refine WL_rd (Rd_load rfl tk46 (v := v)) rfl rfl rfl ?_
    refine WL_rd (Rd_move rfl) rfl rfl rfl ?_
    refine WL_ac (Ac_call cf30 rfl (hs := count_ct (X := X) (l := l) (x := y) (hS := hS))) rfl rfl rfl ?_
    rintro _ _ ⟨⟨⟩, rfl, hA⟩
    simp only [List.cons_append, List.nil_append] at hA
    replace hA := hA.symm
    subst hA
    refine WL_rd (Rd_lssN (j := 1) rfl rfl) rfl rfl rfl ?_
    refine WL_rd (Rd_pickF rfl rfl) rfl rfl rfl ?_
    refine WL_end hK3 ?_
    refine WC_cond rfl (fun hc0 => ?_) (fun hc0 => ?_)
    · try simp only [decide_eq_true_eq, decide_eq_false_iff_not, Bool.not_eq_true', Bool.not_eq_false', Bool.not_eq_true, Bool.not_eq_false, Int.not_lt, Int.not_le, Nat.not_lt, Nat.not_le, Decidable.not_not, ne_eq] at hc0
      rw [show (s.2 || decide (cntM l x < 1) || decide (cntM l y < 1)) = true from by simp; omega] at hret
      refine WC_region ?_
      refine WL_ac0 (Ac_store1 rfl rfl sz4) rfl rfl ?_
      rintro _ _ rfl
      refine WL_nil ?_
      refine Ps_next hK2 ?_
      refine WC_sr fun K8 hK8 => ?_
      refine WL_rd (Rd_load rfl tk3) rfl rfl rfl ?_
      refine WL_rd (Rd_addN (j := 1) rfl rfl) rfl rfl rfl ?_
      refine WL_ac0 (Ac_store1 rfl rfl sz3) rfl rfl ?_
      rintro _ _ rfl
      refine WL_end hK8 ?_
      refine WC_seq fun K9 hK9 => ?_
      refine WC_drawA mix (fun i => ([2, 2, 2, 2, 2, 2, 2, 2, 2, 2, 2, 2, 2] : List Nat).getD i 0) ?_
      refine WJ_tk 0 (Rd_load rfl tk65 (v := v')) hp ?_ rfl (by kernel_rfl) rfl rfl rfl
      refine WJ_takeP 1 rfl (by kernel_rfl) (Rd_len_sv rfl rfl ud65 (hA := hT)) rfl rfl rfl (hp _ _) ?_
      refine WJ_takeP 2 rfl (by kernel_rfl) (Rd_gtrN (j := 0) rfl rfl) rfl rfl rfl (hp _ _) ?_
      refine WJ_takeP 3 rfl (by kernel_rfl) (Rd_move rfl) rfl rfl rfl (hp _ _) ?_
      refine WJ_bool 24 rfl (fun hg10 => ?_) (fun hg10 => ?_)
      · try simp only [decide_eq_true_eq, decide_eq_false_iff_not, Bool.not_eq_true', Bool.not_eq_false', Bool.not_eq_true, Bool.not_eq_false, Int.not_lt, Int.not_le, Nat.not_lt, Nat.not_le, Decidable.not_not, ne_eq] at hg10
        have q1 := hg10
        refine WJ_tk 4 (Rd_load rfl tk65 (v := v')) hp ?_ rfl (by kernel_rfl) rfl rfl rfl
        refine WJ_tk 5 (Rd_load rfl tk3) hp ?_ rfl (by kernel_rfl) rfl rfl rfl
        refine WJ_tk 6 (Rd_load rfl tk65 (v := v')) hp ?_ rfl (by kernel_rfl) rfl rfl rfl
        refine WJ_takeP 7 rfl (by kernel_rfl) (Rd_len_sv rfl rfl ud65 (hA := hT)) rfl rfl rfl (hp _ _) ?_
        refine WJ_takeP 8 rfl (by kernel_rfl) (Rd_remN rfl rfl) rfl rfl rfl (hp _ _) ?_
        refine WJ_takeP 9 rfl (by kernel_rfl) (Rd_index_sv ((s.1 + 1) % tells.length) rfl rfl ud65 sz4 (hA := hT) (hi := Nat.mod_lt _ (by omega))) rfl rfl rfl (hp _ _) ?_
        refine WJ_tk 10 (Rd_load_sv (f := eBool) (i := (s.1 + 1) % tells.length) (j := 0) rfl tk4 (hA := hT) (hl := tell_at (by omega))) hp ?_ rfl (by kernel_rfl) rfl rfl rfl
        refine WJ_takeP 11 rfl (by kernel_rfl) (Rd_pickT rfl rfl) rfl rfl rfl (hp _ _) ?_
        refine WJ_takeP 12 rfl (by kernel_rfl) (Rd_assign rfl) rfl rfl rfl (hp _ _) ?_
        refine WJ_done (by kernel_rfl) ?_
        refine Ps_next hK9 ?_
        refine WC_ret ?_
        first | exact hret.go () (Rs1 rfl rfl) | exact hret.goE () (Rs1 rfl rfl) (by rw [tell_0 (by omega)])
      · try simp only [decide_eq_true_eq, decide_eq_false_iff_not, Bool.not_eq_true', Bool.not_eq_false', Bool.not_eq_true, Bool.not_eq_false, Int.not_lt, Int.not_le, Nat.not_lt, Nat.not_le, Decidable.not_not, ne_eq] at hg10
        have q1 := hg10
        refine WJ_skip 4 rfl (by kernel_rfl) rfl rfl rfl (hp _ _) ?_
        refine WJ_skip 5 rfl (by kernel_rfl) rfl rfl rfl (hp _ _) ?_
        refine WJ_skip 6 rfl (by kernel_rfl) rfl rfl rfl (hp _ _) ?_
        refine WJ_skip 7 rfl (by kernel_rfl) rfl rfl rfl (hp _ _) ?_
        refine WJ_skip 8 rfl (by kernel_rfl) rfl rfl rfl (hp _ _) ?_
        refine WJ_skip 9 rfl (by kernel_rfl) rfl rfl rfl (hp _ _) ?_
        refine WJ_skip 10 rfl (by kernel_rfl) rfl rfl rfl (hp _ _) ?_
        refine WJ_takeP 11 rfl (by kernel_rfl) (Rd_pickF rfl rfl) rfl rfl rfl (hp _ _) ?_
        refine WJ_takeP 12 rfl (by kernel_rfl) (Rd_assign rfl) rfl rfl rfl (hp _ _) ?_
        refine WJ_done (by kernel_rfl) ?_
        refine Ps_next hK9 ?_
        refine WC_ret ?_
        first | exact hret.go () (Rs1 rfl rfl) | exact hret.goE () (Rs1 rfl rfl) (by rw [tell_0 (by omega)])
    · try simp only [decide_eq_true_eq, decide_eq_false_iff_not, Bool.not_eq_true', Bool.not_eq_false', Bool.not_eq_true, Bool.not_eq_false, Int.not_lt, Int.not_le, Nat.not_lt, Nat.not_le, Decidable.not_not, ne_eq] at hc0
      rw [show (s.2 || decide (cntM l x < 1) || decide (cntM l y < 1)) = s.2 from by rw [decide_eq_false (by omega), decide_eq_false (by omega)]; simp] at hret
      refine WC_skip ?_
      refine Ps_next hK2 ?_
      refine WC_sr fun K11 hK11 => ?_
      refine WL_rd (Rd_load rfl tk3) rfl rfl rfl ?_
      refine WL_rd (Rd_addN (j := 1) rfl rfl) rfl rfl rfl ?_
      refine WL_ac0 (Ac_store1 rfl rfl sz3) rfl rfl ?_
      rintro _ _ rfl
      refine WL_end hK11 ?_
      refine WC_seq fun K12 hK12 => ?_
      refine WC_drawA mix (fun i => ([2, 2, 2, 2, 2, 2, 2, 2, 2, 2, 2, 2, 2] : List Nat).getD i 0) ?_
      refine WJ_tk 0 (Rd_load rfl tk65 (v := v')) hp ?_ rfl (by kernel_rfl) rfl rfl rfl
      refine WJ_takeP 1 rfl (by kernel_rfl) (Rd_len_sv rfl rfl ud65 (hA := hT)) rfl rfl rfl (hp _ _) ?_
      refine WJ_takeP 2 rfl (by kernel_rfl) (Rd_gtrN (j := 0) rfl rfl) rfl rfl rfl (hp _ _) ?_
      refine WJ_takeP 3 rfl (by kernel_rfl) (Rd_move rfl) rfl rfl rfl (hp _ _) ?_
      refine WJ_bool 24 rfl (fun hg13 => ?_) (fun hg13 => ?_)
      · try simp only [decide_eq_true_eq, decide_eq_false_iff_not, Bool.not_eq_true', Bool.not_eq_false', Bool.not_eq_true, Bool.not_eq_false, Int.not_lt, Int.not_le, Nat.not_lt, Nat.not_le, Decidable.not_not, ne_eq] at hg13
        have q1 := hg13
        refine WJ_tk 4 (Rd_load rfl tk65 (v := v')) hp ?_ rfl (by kernel_rfl) rfl rfl rfl
        refine WJ_tk 5 (Rd_load rfl tk3) hp ?_ rfl (by kernel_rfl) rfl rfl rfl
        refine WJ_tk 6 (Rd_load rfl tk65 (v := v')) hp ?_ rfl (by kernel_rfl) rfl rfl rfl
        refine WJ_takeP 7 rfl (by kernel_rfl) (Rd_len_sv rfl rfl ud65 (hA := hT)) rfl rfl rfl (hp _ _) ?_
        refine WJ_takeP 8 rfl (by kernel_rfl) (Rd_remN rfl rfl) rfl rfl rfl (hp _ _) ?_
        refine WJ_takeP 9 rfl (by kernel_rfl) (Rd_index_sv ((s.1 + 1) % tells.length) rfl rfl ud65 sz4 (hA := hT) (hi := Nat.mod_lt _ (by omega))) rfl rfl rfl (hp _ _) ?_
        refine WJ_tk 10 (Rd_load_sv (f := eBool) (i := (s.1 + 1) % tells.length) (j := 0) rfl tk4 (hA := hT) (hl := tell_at (by omega))) hp ?_ rfl (by kernel_rfl) rfl rfl rfl
        refine WJ_takeP 11 rfl (by kernel_rfl) (Rd_pickT rfl rfl) rfl rfl rfl (hp _ _) ?_
        refine WJ_takeP 12 rfl (by kernel_rfl) (Rd_assign rfl) rfl rfl rfl (hp _ _) ?_
        refine WJ_done (by kernel_rfl) ?_
        refine Ps_next hK12 ?_
        refine WC_ret ?_
        first | exact hret.go () (Rs1 rfl rfl) | exact hret.goE () (Rs1 rfl rfl) (by rw [tell_0 (by omega)])
      · try simp only [decide_eq_true_eq, decide_eq_false_iff_not, Bool.not_eq_true', Bool.not_eq_false', Bool.not_eq_true, Bool.not_eq_false, Int.not_lt, Int.not_le, Nat.not_lt, Nat.not_le, Decidable.not_not, ne_eq] at hg13
        have q1 := hg13
        refine WJ_skip 4 rfl (by kernel_rfl) rfl rfl rfl (hp _ _) ?_
        refine WJ_skip 5 rfl (by kernel_rfl) rfl rfl rfl (hp _ _) ?_
        refine WJ_skip 6 rfl (by kernel_rfl) rfl rfl rfl (hp _ _) ?_
        refine WJ_skip 7 rfl (by kernel_rfl) rfl rfl rfl (hp _ _) ?_
        refine WJ_skip 8 rfl (by kernel_rfl) rfl rfl rfl (hp _ _) ?_
        refine WJ_skip 9 rfl (by kernel_rfl) rfl rfl rfl (hp _ _) ?_
        refine WJ_skip 10 rfl (by kernel_rfl) rfl rfl rfl (hp _ _) ?_
        refine WJ_takeP 11 rfl (by kernel_rfl) (Rd_pickF rfl rfl) rfl rfl rfl (hp _ _) ?_
        refine WJ_takeP 12 rfl (by kernel_rfl) (Rd_assign rfl) rfl rfl rfl (hp _ _) ?_
        refine WJ_done (by kernel_rfl) ?_
        refine Ps_next hK12 ?_
        refine WC_ret ?_
        first | exact hret.go () (Rs1 rfl rfl) | exact hret.goE () (Rs1 rfl rfl) (by rw [tell_0 (by omega)])

def caL (bl bs ba bt : Nat) : List Value := [.pointer (some ⟨bl, 0, none⟩), .pointer (some ⟨bs, 0, none⟩), .pointer (some ⟨ba, 0, none⟩), .pointer (some ⟨bt, 0, none⟩)]
def JL (bl bs ba bt : Nat) (v v' : Value) (X : Asn) (s : Nat × Bool) : Asn := sep [cl bl 46 [v], cl bt 65 [v'], cl ba 3 [.int .i64 ((s.1 : Nat) : Int)], cl bs 4 [.bool s.2], X]
theorem hcfL : cfn Try.prog 29 = true := by kernel_rfl
theorem hlessL {X : Asn} {v v' : Value} {l : List Int} {tells : List Bool} {ao ao' : Option Addr} {cap cap' : Nat} {bl bt ba bs : Nat} (hS : Sv [X] v 1 (eInt .i64) l ao cap) (hT : Sv [X] v' 1 eBool tells ao' cap') (hl : l.length ≤ 1048576) : ∀ (s : Nat × Bool) (x y : Int), lieC s < 4611686018427387904 → Ct Try.prog 29 ([.int .i64 x, .int .i64 y] ++ caL bl bs ba bt) [JL bl bs ba bt v v' X s] (fun _ : Unit => .bool (lieM l tells s x y).1) (fun _ => [JL bl bs ba bt v v' X (lieM l tells s x y).2]) := fun s x y hs =>
  Ct_way fun F w h => ⟨_, _, _, _, less_ct (bl := bl) (bt := bt) (ba := ba) (bs := bs) (s := s) (x := x) (y := y) hS hT hl hs, sat_app.1 h, fun r w' hw => ⟨(), rfl, sat_app.2 hw⟩⟩

theorem lSorted_ct {σ : Type} {J : σ → Asn} {lt : σ → Int → Int → Bool × σ} {lf : FuncId} {caps : List Value} {cost : σ → Nat} {Bd : Nat} {p : Int → Prop} {QQ : Nat → σ → Prop} {k : Nat} {v : Value} {l : List Int} {ao : Option Addr} {cap : Nat} {s : σ} (hcf : cfn Try.prog lf = true) (hless : ∀ s x y, cost s < Bd → Ct Try.prog lf ([.int .i64 x, .int .i64 y] ++ caps) [J s] (fun _ : Unit => .bool (lt s x y).1) (fun _ => [J (lt s x y).2])) (hco : ∀ s x y, cost (lt s x y).2 ≤ cost s + 1) (hSJ : ∀ s, Sv [J s] v 1 (eInt .i64) l ao cap) (KQ : Keeps lt p QQ) (hQc : ∀ k s, QQ k s → cost s ≤ k) (hP : ∀ x ∈ l, p x) (hq : QQ k s) (hB : k + 16777216 * l.length ≤ Bd) (hl : l.length ≤ 1048576) : Ct Try.prog 18 [v, (.func (.func lf) #[] caps.toArray)] [J s] (fun g : {g : (Option Nat × Nat) × (List Int) × σ // g.2.1.Perm l ∧ QQ (k + 16777216 * l.length) g.2.2} => .tuple #[sl g.val.1.1 g.val.2.1.length g.val.1.2, .int .i64 0]) (fun g => [J g.val.2.2, arr g.val.1.1 g.val.1.2 1 3 (eInt .i64) g.val.2.1]) := by
  refine Ct_body (n := 44) Try.func18 rfl rfl rfl fun F w0 Q hret hnorm hp => ?_
  change WC _ _ _ _ _ _ _ (_ :: F)
  refine WC_sr fun K1 hK1 => ?_
  refine WL_rd (Rd_assign (v := sl none 0 0) rfl) rfl rfl rfl ?_
  refine WL_rd (Rd_assign rfl) rfl rfl rfl ?_
  refine WL_end hK1 ?_
  refine WC_sr fun K2 hK2 => ?_
  refine WL_rd (Rd_move rfl) rfl rfl rfl ?_
  refine WL_ac (Ac_call cf24 rfl (hs := hL_new_hp (lf := lf) (caps := caps))) rfl rfl rfl ?_
  rintro _ _ ⟨hb, rfl, hA⟩
  simp only [List.cons_append, List.nil_append] at hA
  replace hA := hA.symm
  subst hA
  refine WL_rd (Rd_move rfl) rfl rfl rfl ?_
  refine WL_rd (Rd_ext0 rfl) rfl rfl rfl ?_
  refine WL_rd (Rd_ext1 rfl) rfl rfl rfl ?_
  refine WL_rd (Rd_assign rfl) rfl rfl rfl ?_
  refine WL_rd (Rd_assign rfl) rfl rfl rfl ?_
  refine WL_end hK2 ?_
  refine WC_seq fun K3 hK3 => ?_
  refine WC_sr fun K4 hK4 => ?_
  refine WL_rd (Rd_move rfl) rfl rfl rfl ?_
  refine WL_rd (Rd_neqN (i := 0) (j := 0) rfl rfl) rfl rfl rfl ?_
  refine WL_end hK4 ?_
  refine WC_condF rfl ?_
  refine WC_skip ?_
  refine Ps_next hK3 ?_
  refine WC_seq fun K5 hK5 => ?_
  refine WC_sr fun K6 hK6 => ?_
  refine WL_rd (Rd_move rfl) rfl rfl rfl ?_
  refine WL_rd (Rd_len_sv rfl rfl ud46 (hA := hSJ s)) rfl rfl rfl ?_
  refine WL_rd (Rd_move rfl) rfl rfl rfl ?_
  refine WL_end hK6 ?_
  refine WC_block ?_
  refine WC_loopK (σ := Nat × (List (Nat × Int)) × σ) (fun ⟨i', rows, s'⟩ => [(23, .int .i64 ((i' : Nat) : Int))]) (fun ⟨i', rows, s'⟩ => [hL_hpA (.func (.func lf) #[] caps.toArray) hb rows i', J s']) (fun ⟨i', rows, s'⟩ => i' ≤ l.length ∧ rows.Perm (rowsI (l.take i')) ∧ QQ (k + 8388608 * i') s') (fun ⟨i', rows, s'⟩ => l.length - i') ⟨0, [], s⟩ [4, 5, 6, 10, 11, 21, 22, 31, 32, 33, 34, 35, 36, 37, 38, 39, 40, 41, 42, 43] (by repeat (first | exact Kep.nil | apply Kep.drop rfl | apply Kep.keep rfl)) (by (try dsimp only); repeat (first | with_reducible exact Gv.nil | (with_reducible apply Gv.cons; · (repeat (first | with_reducible exact Ext.here | with_reducible apply Ext.there))))) ?_ ?_ Sub.refl ?_
  · exact ⟨Nat.zero_le _, List.Perm.refl _, hq⟩
  · (try dsimp only); exact (Wk.cons (by first | rfl | (simp only [List.length_append, List.length_cons, List.length_nil, List.length_replicate, Nat.zero_add]; rfl) | (simp; done)) Wk.nil)
  · rintro ⟨i', rows, s'⟩ ⟨hi, hpm, hq'⟩ K7 hK7
    simp only [List.cons_append, List.nil_append]
    have hpl := hpm.length_eq
    rw [rowsI_len, List.length_take] at hpl
    have hcs := hQc _ _ hq'
    refine WC_sr fun K8 hK8 => ?_
    refine WL_rd (Rd_lssN rfl rfl) rfl rfl rfl ?_
    refine WL_end hK8 ?_
    refine WC_seq fun K9 hK9 => ?_
    refine WC_cond rfl (fun hc1 => ?_) (fun hc1 => ?_)
    · try simp only [decide_eq_true_eq, decide_eq_false_iff_not, Bool.not_eq_true', Bool.not_eq_false', Bool.not_eq_true, Bool.not_eq_false, Int.not_lt, Int.not_le, Nat.not_lt, Nat.not_le, Decidable.not_not, ne_eq] at hc1
      obtain ⟨x, hx⟩ := at_x (l := l) (i := i') (by omega)
      refine WC_skip ?_
      refine Ps_next hK9 ?_
      refine WC_seq fun K10 hK10 => ?_
      refine WC_block ?_
      refine WC_sr fun K11 hK11 => ?_
      refine WL_rd (Rd_index_sv i' rfl rfl ud46 sz3 (hA := hSJ s') (hi := by omega)) rfl rfl rfl ?_
      refine WL_rd (Rd_load_sv (i := i') (j := 0) rfl tk3 (hA := hSJ s') (hl := hx)) rfl rfl rfl ?_
      refine WL_rd (Rd_assign rfl) rfl rfl rfl ?_
      refine WL_end hK11 ?_
      refine WC_region ?_
      refine WL_rd (Rd_move rfl) rfl rfl rfl ?_
      refine WL_rd (Rd_move rfl) rfl rfl rfl ?_
      refine WL_ac (Ac_call cf25 rfl (hs := hL_push_hp hcf hless hco (s := s') (x := x))) rfl rfl rfl ?_
      rintro _ _ ⟨⟨⟩, rfl, hA⟩
      simp only [List.cons_append, List.nil_append] at hA
      replace hA := hA.symm
      subst hA
      refine WL_nil ?_
      refine Ps_next hK10 ?_
      refine WC_region ?_
      refine WL_rd (Rd_addN (j := 1) rfl rfl) rfl rfl rfl ?_
      refine WL_rd (Rd_move rfl) rfl rfl rfl ?_
      refine WL_nil ?_
      refine Ps_wk (by (try simp only [List.cons_append, List.nil_append]); repeat (first | with_reducible exact Wk.nil | refine Wk.cons (by first | rfl | (simp only [List.length_append, List.length_cons, List.length_nil, List.length_replicate, Nat.zero_add]; rfl) | (simp; done)) ?_)) (by (try simp only [List.cons_append, List.nil_append]); repeat (first | with_reducible exact Sub.refl | with_reducible exact Sub.nil | with_reducible refine Sub.cons (by repeat (first | with_reducible exact Ext.here | with_reducible apply Ext.there)) ?_ | with_reducible refine Sub.tail ?_)) (hK7 ⟨i' + 1, (pushM lt s' rows i' x).1, (pushM lt s' rows i' x).2⟩ (⟨by (try dsimp only); omega, by (try dsimp only); rw [← rowsI_snoc hx]; exact (pushM_perm _ _ _ _ _).trans (List.Perm.append_right _ hpm), KQ.mono _ _ _ (by omega) (pushM_keeps KQ (all_take hP hpm) (hP x (List.mem_of_getElem? hx)) hq')⟩) (by (try dsimp only); omega))
    · try simp only [decide_eq_true_eq, decide_eq_false_iff_not, Bool.not_eq_true', Bool.not_eq_false', Bool.not_eq_true, Bool.not_eq_false, Int.not_lt, Int.not_le, Nat.not_lt, Nat.not_le, Decidable.not_not, ne_eq] at hc1
      obtain rfl : i' = l.length := by omega
      rw [List.take_length] at hpm
      refine WC_exit ?_
      refine Ps_next hK5 ?_
      refine WC_sr fun K12 hK12 => ?_
      refine WL_rd (Rd_assign (v := sl none 0 0) rfl) rfl rfl rfl ?_
      refine WL_nilarr (eInt .i64) 1 3 ?_
      refine WL_end hK12 ?_
      refine WC_seq fun K13 hK13 => ?_
      refine WC_block ?_
      rw [show arr none 0 1 3 (eInt .i64) ([] : List Int) = arr none 0 1 3 (eInt .i64) (([] : List (Nat × Int)).map (·.2)) from rfl]
      refine WC_loopK (σ := (List (Nat × Int)) × σ × (List (Nat × Int)) × (Option Nat) × Nat) (fun ⟨rows2, s2, out, a2, c2⟩ => [(10, sl a2 (out.map (·.2)).length c2)]) (fun ⟨rows2, s2, out, a2, c2⟩ => [hL_hpA (.func (.func lf) #[] caps.toArray) hb rows2 l.length, J s2, arr a2 c2 1 3 (eInt .i64) (out.map (·.2))]) (fun ⟨rows2, s2, out, a2, c2⟩ => (out ++ rows2).Perm (rowsI l) ∧ QQ (k + 8388608 * (l.length + out.length)) s2) (fun ⟨rows2, s2, out, a2, c2⟩ => rows2.length) ⟨rows, s', [], none, 0⟩ [4, 5, 6, 43] (by repeat (first | exact Kep.nil | apply Kep.drop rfl | apply Kep.keep rfl)) (by (try dsimp only); repeat (first | with_reducible exact Gv.nil | (with_reducible apply Gv.cons; · (repeat (first | with_reducible exact Ext.here | with_reducible apply Ext.there))))) ?_ ?_ Sub.refl ?_
      · exact ⟨hpm, KQ.mono _ _ _ (by simp) hq'⟩
      · (try dsimp only); exact (Wk.cons (by first | rfl | (simp only [List.length_append, List.length_cons, List.length_nil, List.length_replicate, Nat.zero_add]; rfl) | (simp; done)) Wk.nil)
      · rintro ⟨rows2, s2, out, a2, c2⟩ ⟨hO, hq2⟩ K14 hK14
        simp only [List.cons_append, List.nil_append]
        have hol := out_len hO
        have hml : (out.map (·.2)).length = out.length := List.length_map _
        have hcs2 := hQc _ _ hq2
        refine WC_seq fun K15 hK15 => ?_
        refine WC_sr fun K16 hK16 => ?_
        refine WL_rd (Rd_move rfl) rfl rfl rfl ?_
        refine WL_ac (Ac_call cf27 rfl (hs := hL_len_hp (lf := lf) (caps := caps))) rfl rfl rfl ?_
        rintro _ _ ⟨⟨⟩, rfl, hA⟩
        simp only [List.cons_append, List.nil_append] at hA
        replace hA := hA.symm
        subst hA
        refine WL_rd (Rd_gtrN (j := 0) rfl rfl) rfl rfl rfl ?_
        refine WL_end hK16 ?_
        refine WC_cond rfl (fun hc2 => ?_) (fun hc2 => ?_)
        · try simp only [decide_eq_true_eq, decide_eq_false_iff_not, Bool.not_eq_true', Bool.not_eq_false', Bool.not_eq_true, Bool.not_eq_false, Int.not_lt, Int.not_le, Nat.not_lt, Nat.not_le, Decidable.not_not, ne_eq] at hc2
          obtain ⟨x, hx⟩ := at_x (l := rows2) (i := 0) (by omega)
          refine WC_skip ?_
          refine Ps_next hK15 ?_
          refine WC_block ?_
          refine WC_sr fun K17 hK17 => ?_
          refine WL_rd (Rd_move rfl) rfl rfl rfl ?_
          refine WL_ac (Ac_call cf26 rfl (hs := hL_pop_hp hcf hless hco (s := s2) (x := x))) rfl rfl rfl ?_
          rintro _ _ ⟨⟨⟩, rfl, hA⟩
          simp only [List.cons_append, List.nil_append] at hA
          replace hA := hA.symm
          subst hA
          refine WL_rd (Rd_move rfl) rfl rfl rfl ?_
          refine WL_rd (Rd_ext0 rfl) rfl rfl rfl ?_
          refine WL_rd (Rd_ext1 rfl) rfl rfl rfl ?_
          refine WL_rd (Rd_assign rfl) rfl rfl rfl ?_
          refine WL_rd (Rd_assign rfl) rfl rfl rfl ?_
          refine WL_end hK17 ?_
          refine WC_region ?_
          refine WL_rd (Rd_move rfl) rfl rfl rfl ?_
          refine WL_rd (Rd_move rfl) rfl rfl rfl ?_
          refine WL_ac (Ac_bs1 rfl ud46 zr3 sz3) rfl rfl rfl ?_
          rintro _ _ ⟨b41, rfl, rfl⟩
          refine WL_ac (Ac_append1 (f := (eInt .i64)) encZ x.2 rfl rfl ud46 ud46 el3) rfl rfl rfl ?_
          rintro _ _ ⟨a42, cap42, rfl, rfl⟩
          rw [show out.map (·.2) ++ [x.2] = (out ++ [x]).map (·.2) from by rw [List.map_append]; rfl, show (out.map (·.2)).length + 1 = ((out ++ [x]).map (·.2)).length from by simp]
          refine WL_rd (Rd_assign rfl) rfl rfl rfl ?_
          refine WL_nil ?_
          refine Ps_wk (by (try simp only [List.cons_append, List.nil_append]); repeat (first | with_reducible exact Wk.nil | refine Wk.cons (by first | rfl | (simp only [List.length_append, List.length_cons, List.length_nil, List.length_replicate, Nat.zero_add]; rfl) | (simp; done)) ?_)) (by (try simp only [List.cons_append, List.nil_append]); repeat (first | with_reducible exact Sub.refl | with_reducible exact Sub.nil | with_reducible refine Sub.cons (by repeat (first | with_reducible exact Ext.here | with_reducible apply Ext.there)) ?_ | with_reducible refine Sub.tail ?_)) (hK14 ⟨(takeM lt s2 rows2 0).1, (takeM lt s2 rows2 0).2, out ++ [x], a42, cap42⟩ (⟨out_next hO hx, KQ.mono _ _ _ (by (try dsimp only); rw [List.length_append, List.length_singleton]; omega) (takeM_keeps KQ (by omega) (all_left hP hO) hq2)⟩) (by (try dsimp only); rw [takeM_len]; omega))
        · try simp only [decide_eq_true_eq, decide_eq_false_iff_not, Bool.not_eq_true', Bool.not_eq_false', Bool.not_eq_true, Bool.not_eq_false, Int.not_lt, Int.not_le, Nat.not_lt, Nat.not_le, Decidable.not_not, ne_eq] at hc2
          obtain rfl : rows2 = [] := List.eq_nil_of_length_eq_zero (by omega)
          refine WC_exit ?_
          refine Ps_next hK13 ?_
          refine WC_sr fun K18 hK18 => ?_
          refine WL_rd (Rd_move rfl) rfl rfl rfl ?_
          refine WL_rd (Rd_assign rfl) rfl rfl rfl ?_
          refine WL_rd (Rd_assign rfl) rfl rfl rfl ?_
          refine WL_end hK18 ?_
          refine WC_ret ?_
          exact hret.go ⟨((a2, c2), out.map (·.2), s2), out_all hO, KQ.mono _ _ _ (by omega) hq2⟩ (Rs2 rfl rfl rfl)
end Go.Proofs.Ytcookmkklcbbnaa
