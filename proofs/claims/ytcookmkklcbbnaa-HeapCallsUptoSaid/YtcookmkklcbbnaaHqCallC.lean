/-
  Contracts of functions that the claim reaches, or the logic and the plain laws that they rest on, or the row over them. (Conditions: none beyond the statement.)
-/
import Derived.Test.YtcookmkklcbbnaaHqCallB
set_option linter.all false
namespace Go.Proofs.Ytcookmkklcbbnaa
open Go.RowKit Go.SL Go.HpM Go.ShM 
set_option maxHeartbeats 1000000
set_option maxRecDepth 20000
set_option linter.all false
theorem cf67 : cfn Try.prog 67 = true := by kernel_rfl
theorem fo99_0 : fo Try.prog 99 0 = some (0, 3) := by kernel_rfl
theorem rPop_yes {by_ : Int} {b cap made : Nat} {a : Option Nat} {rows : List (Nat × Int)} {x : Nat × Int} (hlen : rows.length ≤ 100000000 := by omega) (hmd : made ≤ 100000000 := by omega) (hx : rows[(leastP (ltz by_) rows rows.length).toNat]? = some x) (hp0 : 0 ≤ (leastP (ltz by_) rows rows.length)) : Ct Try.prog 52 [.pointer (some ⟨b, 0, none⟩)] [cl b 73 [.int .i64 by_, sl a rows.length cap, .int .i64 ((made : Nat) : Int)], arr a cap 2 99 eIt rows] (fun g : Option Nat × Nat => .tuple #[.int .i64 x.2, .bool true]) (fun g => [cl b 73 [.int .i64 by_, sl g.1 (lsL (ltz by_) rows).length g.2, .int .i64 ((made : Nat) : Int)], arr g.1 g.2 2 99 eIt (lsL (ltz by_) rows)]) := by
  refine Ct_body (n := 13) Try.func52 rfl rfl rfl fun F w0 Q hret hnorm hp => ?_
  change WC _ _ _ _ _ _ _ (_ :: _ :: F)
  have hti : (leastP (ltz by_) rows rows.length) = (((leastP (ltz by_) rows rows.length).toNat : Nat) : Int) := by omega
  rw [show lsL (ltz by_) rows = rows.eraseIdx (leastP (ltz by_) rows rows.length).toNat from rfl] at hret
  refine WC_sr fun K1 hK1 => ?_
  refine WL_rd (Rd_assign rfl) rfl rfl rfl ?_
  refine WL_rd (Rd_assign rfl) rfl rfl rfl ?_
  refine WL_end hK1 ?_
  refine WC_sr fun K2 hK2 => ?_
  refine WL_rd (Rd_move rfl) rfl rfl rfl ?_
  refine WL_ac (Ac_call cf63 rfl (hs := rLeast_ct (by_ := by_) (rows := rows) (made := made))) rfl rfl rfl ?_
  rintro _ _ ⟨⟨⟩, rfl, hA⟩
  simp only [List.cons_append, List.nil_append] at hA
  replace hA := hA.symm
  subst hA
  refine WL_rd (Rd_assign rfl) rfl rfl rfl ?_
  refine WL_end hK2 ?_
  refine WC_seq fun K3 hK3 => ?_
  refine WC_sr fun K4 hK4 => ?_
  refine WL_rd (Rd_move rfl) rfl rfl rfl ?_
  refine WL_rd (Rd_lss rfl rfl) rfl rfl rfl ?_
  refine WL_end hK4 ?_
  refine WC_cond rfl (fun hc0 => ?_) (fun hc0 => ?_)
  · try simp only [decide_eq_true_eq, decide_eq_false_iff_not, Bool.not_eq_true', Bool.not_eq_false', Bool.not_eq_true, Bool.not_eq_false, Int.not_lt, Int.not_le, Nat.not_lt, Nat.not_le, Decidable.not_not, ne_eq] at hc0
    omega
  · try simp only [decide_eq_true_eq, decide_eq_false_iff_not, Bool.not_eq_true', Bool.not_eq_false', Bool.not_eq_true, Bool.not_eq_false, Int.not_lt, Int.not_le, Nat.not_lt, Nat.not_le, Decidable.not_not, ne_eq] at hc0
    refine WC_skip ?_
    refine Ps_next hK3 ?_
    refine WC_sr fun K5 hK5 => ?_
    refine WL_rd (Rd_move rfl) rfl rfl rfl ?_
    refine WL_rd (Rd_move rfl) rfl rfl rfl ?_
    rw [hti]
    refine WL_ac (Ac_call cf62 rfl (hs := rTake_ct (by_ := by_) (rows := rows) (made := made) (i := (leastP (ltz by_) rows rows.length).toNat) (x := x) (hx := hx))) rfl rfl rfl ?_
    rintro _ _ ⟨⟨a11, cap11⟩, rfl, hA⟩
    simp only [List.cons_append, List.nil_append] at hA
    replace hA := hA.symm
    subst hA
    refine WL_rd (Rd_field rfl fo99_1 tk3) rfl rfl rfl ?_
    refine WL_rd (Rd_assign rfl) rfl rfl rfl ?_
    refine WL_rd (Rd_assign rfl) rfl rfl rfl ?_
    refine WL_end hK5 ?_
    refine WC_ret ?_
    exact hret.go (a11, cap11) (Rs2 rfl rfl rfl)

theorem rPop_no {by_ : Int} {b cap made : Nat} {a : Option Nat} (hmd : made ≤ 100000000 := by omega) : Ct Try.prog 52 [.pointer (some ⟨b, 0, none⟩)] [cl b 73 [.int .i64 by_, sl a ([] : List (Nat × Int)).length cap, .int .i64 ((made : Nat) : Int)], arr a cap 2 99 eIt ([] : List (Nat × Int))] (fun _ : Unit => .tuple #[.int .i64 0, .bool false]) (fun _ => [cl b 73 [.int .i64 by_, sl a ([] : List (Nat × Int)).length cap, .int .i64 ((made : Nat) : Int)], arr a cap 2 99 eIt ([] : List (Nat × Int))]) := by
  refine Ct_body (n := 13) Try.func52 rfl rfl rfl fun F w0 Q hret hnorm hp => ?_
  change WC _ _ _ _ _ _ _ (_ :: _ :: F)
  refine WC_sr fun K1 hK1 => ?_
  refine WL_rd (Rd_assign rfl) rfl rfl rfl ?_
  refine WL_rd (Rd_assign rfl) rfl rfl rfl ?_
  refine WL_end hK1 ?_
  refine WC_sr fun K2 hK2 => ?_
  refine WL_rd (Rd_move rfl) rfl rfl rfl ?_
  refine WL_ac (Ac_call cf63 rfl (hs := rLeast_ct (by_ := by_) (rows := []) (made := made) (hlen := by simp))) rfl rfl rfl ?_
  rintro _ _ ⟨⟨⟩, rfl, hA⟩
  simp only [List.cons_append, List.nil_append] at hA
  replace hA := hA.symm
  subst hA
  refine WL_rd (Rd_assign rfl) rfl rfl rfl ?_
  refine WL_end hK2 ?_
  refine WC_seq fun K3 hK3 => ?_
  refine WC_sr fun K4 hK4 => ?_
  refine WL_rd (Rd_move rfl) rfl rfl rfl ?_
  refine WL_rd (Rd_lss rfl rfl) rfl rfl rfl ?_
  refine WL_end hK4 ?_
  refine WC_cond rfl (fun hc0 => ?_) (fun hc0 => ?_)
  · try simp only [decide_eq_true_eq, decide_eq_false_iff_not, Bool.not_eq_true', Bool.not_eq_false', Bool.not_eq_true, Bool.not_eq_false, Int.not_lt, Int.not_le, Nat.not_lt, Nat.not_le, Decidable.not_not, ne_eq] at hc0
    refine WC_sr fun K5 hK5 => ?_
    refine WL_rd (Rd_assign rfl) rfl rfl rfl ?_
    refine WL_rd (Rd_assign rfl) rfl rfl rfl ?_
    refine WL_end hK5 ?_
    refine WC_ret ?_
    exact hret.go () (Rs2 rfl rfl rfl)
  · try simp only [decide_eq_true_eq, decide_eq_false_iff_not, Bool.not_eq_true', Bool.not_eq_false', Bool.not_eq_true, Bool.not_eq_false, Int.not_lt, Int.not_le, Nat.not_lt, Nat.not_le, Decidable.not_not, ne_eq] at hc0
    exact absurd hc0 (by show ¬ (0 : Int) ≤ -1; decide)

theorem rPeek_yes {by_ : Int} {b cap made : Nat} {a : Option Nat} {rows : List (Nat × Int)} {x : Nat × Int} (hlen : rows.length ≤ 100000000 := by omega) (hmd : made ≤ 100000000 := by omega) (hx : rows[(leastP (ltz by_) rows rows.length).toNat]? = some x) (hp0 : 0 ≤ (leastP (ltz by_) rows rows.length)) : Ct Try.prog 53 [.pointer (some ⟨b, 0, none⟩)] [cl b 73 [.int .i64 by_, sl a rows.length cap, .int .i64 ((made : Nat) : Int)], arr a cap 2 99 eIt rows] (fun _ : Unit => .tuple #[.int .i64 x.2, .bool true]) (fun _ => [cl b 73 [.int .i64 by_, sl a rows.length cap, .int .i64 ((made : Nat) : Int)], arr a cap 2 99 eIt rows]) := by
  refine Ct_body (n := 17) Try.func53 rfl rfl rfl fun F w0 Q hret hnorm hp => ?_
  change WC _ _ _ _ _ _ _ (_ :: _ :: F)
  have hti : (leastP (ltz by_) rows rows.length) = (((leastP (ltz by_) rows rows.length).toNat : Nat) : Int) := by omega
  have hil := (List.getElem?_eq_some_iff.1 hx).1
  refine WC_some (a := a) (by repeat (first | with_reducible exact Has.here | with_reducible refine Has.there ?_)) (by omega) (fun gb hgb _ => ?_)
  subst hgb
  refine WC_sr fun K1 hK1 => ?_
  refine WL_rd (Rd_assign rfl) rfl rfl rfl ?_
  refine WL_rd (Rd_assign rfl) rfl rfl rfl ?_
  refine WL_end hK1 ?_
  refine WC_sr fun K2 hK2 => ?_
  refine WL_rd (Rd_move rfl) rfl rfl rfl ?_
  refine WL_ac (Ac_call cf63 rfl (hs := rLeast_ct (by_ := by_) (rows := rows) (made := made))) rfl rfl rfl ?_
  rintro _ _ ⟨⟨⟩, rfl, hA⟩
  simp only [List.cons_append, List.nil_append] at hA
  replace hA := hA.symm
  subst hA
  refine WL_rd (Rd_assign rfl) rfl rfl rfl ?_
  refine WL_end hK2 ?_
  refine WC_seq fun K3 hK3 => ?_
  refine WC_sr fun K4 hK4 => ?_
  refine WL_rd (Rd_move rfl) rfl rfl rfl ?_
  refine WL_rd (Rd_lss rfl rfl) rfl rfl rfl ?_
  refine WL_end hK4 ?_
  refine WC_cond rfl (fun hc0 => ?_) (fun hc0 => ?_)
  · try simp only [decide_eq_true_eq, decide_eq_false_iff_not, Bool.not_eq_true', Bool.not_eq_false', Bool.not_eq_true, Bool.not_eq_false, Int.not_lt, Int.not_le, Nat.not_lt, Nat.not_le, Decidable.not_not, ne_eq] at hc0
    omega
  · try simp only [decide_eq_true_eq, decide_eq_false_iff_not, Bool.not_eq_true', Bool.not_eq_false', Bool.not_eq_true, Bool.not_eq_false, Int.not_lt, Int.not_le, Nat.not_lt, Nat.not_le, Decidable.not_not, ne_eq] at hc0
    refine WC_skip ?_
    refine Ps_next hK3 ?_
    refine WC_sr fun K5 hK5 => ?_
    refine WL_rd (Rd_move rfl) rfl rfl rfl ?_
    refine WL_rd (Rd_nilCheck rfl) rfl rfl rfl ?_
    refine WL_rd (Rd_fieldAddr rfl fo73_1) rfl rfl rfl ?_
    refine WL_rd (Rd_load rfl tk71) rfl rfl rfl ?_
    refine WL_rd (Rd_move rfl) rfl rfl rfl ?_
    refine WL_rd (Rd_index (leastP (ltz by_) rows rows.length).toNat rfl rfl ud71 sz99 (hj := hti) (hi := by omega)) rfl rfl rfl ?_
    refine WL_rd (Rd_fieldAddr rfl fo99_1) rfl rfl rfl ?_
    refine WL_rd (Rd_load_arr (f := eIt) (i := (leastP (ltz by_) rows rows.length).toNat) (j := 1) rfl tk3 (hl := hx)) rfl rfl rfl ?_
    refine WL_rd (Rd_assign rfl) rfl rfl rfl ?_
    refine WL_rd (Rd_assign rfl) rfl rfl rfl ?_
    refine WL_end hK5 ?_
    refine WC_ret ?_
    exact hret.go () (Rs2 rfl rfl rfl)

theorem rPeek_no {by_ : Int} {b cap made : Nat} {a : Option Nat} (hmd : made ≤ 100000000 := by omega) : Ct Try.prog 53 [.pointer (some ⟨b, 0, none⟩)] [cl b 73 [.int .i64 by_, sl a ([] : List (Nat × Int)).length cap, .int .i64 ((made : Nat) : Int)], arr a cap 2 99 eIt ([] : List (Nat × Int))] (fun _ : Unit => .tuple #[.int .i64 0, .bool false]) (fun _ => [cl b 73 [.int .i64 by_, sl a ([] : List (Nat × Int)).length cap, .int .i64 ((made : Nat) : Int)], arr a cap 2 99 eIt ([] : List (Nat × Int))]) := by
  refine Ct_body (n := 17) Try.func53 rfl rfl rfl fun F w0 Q hret hnorm hp => ?_
  change WC _ _ _ _ _ _ _ (_ :: _ :: F)
  refine WC_sr fun K1 hK1 => ?_
  refine WL_rd (Rd_assign rfl) rfl rfl rfl ?_
  refine WL_rd (Rd_assign rfl) rfl rfl rfl ?_
  refine WL_end hK1 ?_
  refine WC_sr fun K2 hK2 => ?_
  refine WL_rd (Rd_move rfl) rfl rfl rfl ?_
  refine WL_ac (Ac_call cf63 rfl (hs := rLeast_ct (by_ := by_) (rows := []) (made := made) (hlen := by simp))) rfl rfl rfl ?_
  rintro _ _ ⟨⟨⟩, rfl, hA⟩
  simp only [List.cons_append, List.nil_append] at hA
  replace hA := hA.symm
  subst hA
  refine WL_rd (Rd_assign rfl) rfl rfl rfl ?_
  refine WL_end hK2 ?_
  refine WC_seq fun K3 hK3 => ?_
  refine WC_sr fun K4 hK4 => ?_
  refine WL_rd (Rd_move rfl) rfl rfl rfl ?_
  refine WL_rd (Rd_lss rfl rfl) rfl rfl rfl ?_
  refine WL_end hK4 ?_
  refine WC_cond rfl (fun hc0 => ?_) (fun hc0 => ?_)
  · try simp only [decide_eq_true_eq, decide_eq_false_iff_not, Bool.not_eq_true', Bool.not_eq_false', Bool.not_eq_true, Bool.not_eq_false, Int.not_lt, Int.not_le, Nat.not_lt, Nat.not_le, Decidable.not_not, ne_eq] at hc0
    refine WC_sr fun K5 hK5 => ?_
    refine WL_rd (Rd_assign rfl) rfl rfl rfl ?_
    refine WL_rd (Rd_assign rfl) rfl rfl rfl ?_
    refine WL_end hK5 ?_
    refine WC_ret ?_
    exact hret.go () (Rs2 rfl rfl rfl)
  · try simp only [decide_eq_true_eq, decide_eq_false_iff_not, Bool.not_eq_true', Bool.not_eq_false', Bool.not_eq_true, Bool.not_eq_false, Int.not_lt, Int.not_le, Nat.not_lt, Nat.not_le, Decidable.not_not, ne_eq] at hc0
    exact absurd hc0 (by show ¬ (0 : Int) ≤ -1; decide)

theorem rFind_ct {by_ : Int} {b cap made : Nat} {a : Option Nat} {rows : List (Nat × Int)} {t : Int} (hlen : rows.length ≤ 100000000 := by omega) (hmd : made ≤ 100000000 := by omega) : Ct Try.prog 67 [.pointer (some ⟨b, 0, none⟩), .int .i64 t] [cl b 73 [.int .i64 by_, sl a rows.length cap, .int .i64 ((made : Nat) : Int)], arr a cap 2 99 eIt rows] (fun _ : Unit => .int .i64 ((fdZ rows t))) (fun _ => [cl b 73 [.int .i64 by_, sl a rows.length cap, .int .i64 ((made : Nat) : Int)], arr a cap 2 99 eIt rows]) := by
  refine Ct_body (n := 26) Try.func67 rfl rfl rfl fun F w0 Q hret hnorm hp => ?_
  change WC _ _ _ _ _ _ _ (_ :: _ :: F)
  refine WC_sr fun K1 hK1 => ?_
  refine WL_rd (Rd_assign rfl) rfl rfl rfl ?_
  refine WL_end hK1 ?_
  refine WC_seq fun K2 hK2 => ?_
  refine WC_sr fun K3 hK3 => ?_
  refine WL_rd (Rd_assign rfl) rfl rfl rfl ?_
  refine WL_end hK3 ?_
  refine WC_block ?_
  refine WC_loopK (σ := Nat) (fun k => [(5, .int .i64 ((k : Nat) : Int))]) (fun k => []) (fun k => k ≤ rows.length ∧ (∀ j y, j < k → rows[j]? = some y → (y.1 : Int) ≠ t)) (fun k => rows.length - k) (0) [0, 1] (by repeat (first | exact Kep.nil | apply Kep.drop rfl | apply Kep.keep rfl)) (by (try dsimp only); repeat (first | with_reducible exact Gv.nil | (with_reducible apply Gv.cons; · (repeat (first | with_reducible exact Ext.here | with_reducible apply Ext.there))))) ?_ ?_ Sub.refl ?_
  · exact ⟨Nat.zero_le _, fun j y h => by omega⟩
  · (try dsimp only); exact (Wk.cons (by first | rfl | (simp only [List.length_append, List.length_cons, List.length_nil, List.length_replicate, Nat.zero_add]; rfl) | (simp; done)) Wk.nil)
  · rintro k ⟨hk, hbf⟩ K4 hK4
    simp only [List.cons_append, List.nil_append]
    refine WC_seq fun K5 hK5 => ?_
    refine WC_sr fun K6 hK6 => ?_
    refine WL_rd (Rd_move rfl) rfl rfl rfl ?_
    refine WL_rd (Rd_move rfl) rfl rfl rfl ?_
    refine WL_rd (Rd_nilCheck rfl) rfl rfl rfl ?_
    refine WL_rd (Rd_fieldAddr rfl fo73_1) rfl rfl rfl ?_
    refine WL_rd (Rd_load rfl tk71) rfl rfl rfl ?_
    refine WL_rd (Rd_len rfl rfl ud71) rfl rfl rfl ?_
    refine WL_rd (Rd_lssN rfl rfl) rfl rfl rfl ?_
    refine WL_end hK6 ?_
    refine WC_cond rfl (fun hc0 => ?_) (fun hc0 => ?_)
    · try simp only [decide_eq_true_eq, decide_eq_false_iff_not, Bool.not_eq_true', Bool.not_eq_false', Bool.not_eq_true, Bool.not_eq_false, Int.not_lt, Int.not_le, Nat.not_lt, Nat.not_le, Decidable.not_not, ne_eq] at hc0
      refine WC_some (a := a) (by repeat (first | with_reducible exact Has.here | with_reducible refine Has.there ?_)) (by omega) (fun gb hgb _ => ?_)
      subst hgb
      obtain ⟨x, hx⟩ := at_r (l := rows) (i := k) (by omega)
      refine WC_skip ?_
      refine Ps_next hK5 ?_
      refine WC_seq fun K7 hK7 => ?_
      refine WC_block ?_
      refine WC_sr fun K8 hK8 => ?_
      refine WL_rd (Rd_move rfl) rfl rfl rfl ?_
      refine WL_rd (Rd_nilCheck rfl) rfl rfl rfl ?_
      refine WL_rd (Rd_fieldAddr rfl fo73_1) rfl rfl rfl ?_
      refine WL_rd (Rd_load rfl tk71) rfl rfl rfl ?_
      refine WL_rd (Rd_move rfl) rfl rfl rfl ?_
      refine WL_rd (Rd_index k rfl rfl ud71 sz99 (hi := by omega)) rfl rfl rfl ?_
      refine WL_rd (Rd_fieldAddr rfl fo99_0) rfl rfl rfl ?_
      refine WL_rd (Rd_load_arr (f := eIt) (i := k) (j := 0) rfl tk3 (hl := hx)) rfl rfl rfl ?_
      refine WL_rd (Rd_move rfl) rfl rfl rfl ?_
      refine WL_rd (Rd_eql rfl rfl) rfl rfl rfl ?_
      refine WL_end hK8 ?_
      refine WC_cond rfl (fun hc1 => ?_) (fun hc1 => ?_)
      · try simp only [decide_eq_true_eq, decide_eq_false_iff_not, Bool.not_eq_true', Bool.not_eq_false', Bool.not_eq_true, Bool.not_eq_false, Int.not_lt, Int.not_le, Nat.not_lt, Nat.not_le, Decidable.not_not, ne_eq] at hc1
        rw [fd_hit hbf hx hc1] at hret
        refine WC_sr fun K9 hK9 => ?_
        refine WL_rd (Rd_move rfl) rfl rfl rfl ?_
        refine WL_rd (Rd_assign rfl) rfl rfl rfl ?_
        refine WL_end hK9 ?_
        refine WC_ret ?_
        exact hret.go () (Rs1 rfl rfl)
      · try simp only [decide_eq_true_eq, decide_eq_false_iff_not, Bool.not_eq_true', Bool.not_eq_false', Bool.not_eq_true, Bool.not_eq_false, Int.not_lt, Int.not_le, Nat.not_lt, Nat.not_le, Decidable.not_not, ne_eq] at hc1
        refine WC_skip ?_
        refine Ps_next hK7 ?_
        refine WC_region ?_
        refine WL_rd (Rd_move rfl) rfl rfl rfl ?_
        refine WL_rd (Rd_addN (j := 1) rfl rfl) rfl rfl rfl ?_
        refine WL_rd (Rd_assign rfl) rfl rfl rfl ?_
        refine WL_nil ?_
        refine Ps_wk (by (try simp only [List.cons_append, List.nil_append]); repeat (first | with_reducible exact Wk.nil | refine Wk.cons (by first | rfl | (simp only [List.length_append, List.length_cons, List.length_nil, List.length_replicate, Nat.zero_add]; rfl) | (simp; done)) ?_)) (by (try simp only [List.cons_append, List.nil_append]); repeat (first | with_reducible exact Sub.refl | with_reducible exact Sub.nil | with_reducible refine Sub.cons (by repeat (first | with_reducible exact Ext.here | with_reducible apply Ext.there)) ?_ | with_reducible refine Sub.tail ?_)) (hK4 (k + 1) (⟨by omega, fun j y hj hy => by rcases Nat.lt_or_ge j k with q | q; exact hbf j y q hy; (have e : j = k := by omega); rw [e, hx] at hy; cases hy; exact hc1⟩) (by omega))
    · try simp only [decide_eq_true_eq, decide_eq_false_iff_not, Bool.not_eq_true', Bool.not_eq_false', Bool.not_eq_true, Bool.not_eq_false, Int.not_lt, Int.not_le, Nat.not_lt, Nat.not_le, Decidable.not_not, ne_eq] at hc0
      obtain rfl : k = rows.length := by omega
      rw [fd_end hbf] at hret
      refine WC_exit ?_
      refine Ps_next hK2 ?_
      refine WC_sr fun K10 hK10 => ?_
      refine WL_rd (Rd_assign rfl) rfl rfl rfl ?_
      refine WL_end hK10 ?_
      refine WC_ret ?_
      exact hret.go () (Rs1 rfl rfl)

theorem rDrop_yes {by_ : Int} {b cap made : Nat} {a : Option Nat} {rows : List (Nat × Int)} {t : Int} {i : Nat} {x : Nat × Int} (hlen : rows.length ≤ 100000000 := by omega) (hmd : made ≤ 100000000 := by omega) (hx : rows[i]? = some x) (hf : fdZ rows t = (i : Int)) : Ct Try.prog 54 [.pointer (some ⟨b, 0, none⟩), .int .i64 t] [cl b 73 [.int .i64 by_, sl a rows.length cap, .int .i64 ((made : Nat) : Int)], arr a cap 2 99 eIt rows] (fun g : Option Nat × Nat => .tuple #[.int .i64 x.2, .int .i64 0]) (fun g => [cl b 73 [.int .i64 by_, sl g.1 (rows.eraseIdx i).length g.2, .int .i64 ((made : Nat) : Int)], arr g.1 g.2 2 99 eIt (rows.eraseIdx i)]) := by
  refine Ct_body (n := 16) Try.func54 rfl rfl rfl fun F w0 Q hret hnorm hp => ?_
  change WC _ _ _ _ _ _ _ (_ :: _ :: F)
  refine WC_sr fun K1 hK1 => ?_
  refine WL_rd (Rd_assign rfl) rfl rfl rfl ?_
  refine WL_rd (Rd_assign rfl) rfl rfl rfl ?_
  refine WL_end hK1 ?_
  refine WC_sr fun K2 hK2 => ?_
  refine WL_rd (Rd_move rfl) rfl rfl rfl ?_
  refine WL_rd (Rd_move rfl) rfl rfl rfl ?_
  refine WL_ac (Ac_call cf67 rfl (hs := rFind_ct (by_ := by_) (rows := rows) (made := made) (t := t))) rfl rfl rfl ?_
  rintro _ _ ⟨⟨⟩, rfl, hA⟩
  simp only [List.cons_append, List.nil_append] at hA
  replace hA := hA.symm
  subst hA
  rw [hf]
  refine WL_rd (Rd_assign rfl) rfl rfl rfl ?_
  refine WL_end hK2 ?_
  refine WC_seq fun K3 hK3 => ?_
  refine WC_sr fun K4 hK4 => ?_
  refine WL_rd (Rd_move rfl) rfl rfl rfl ?_
  refine WL_rd (Rd_lssN (j := 0) rfl rfl) rfl rfl rfl ?_
  refine WL_end hK4 ?_
  refine WC_cond rfl (fun hc0 => ?_) (fun hc0 => ?_)
  · try simp only [decide_eq_true_eq, decide_eq_false_iff_not, Bool.not_eq_true', Bool.not_eq_false', Bool.not_eq_true, Bool.not_eq_false, Int.not_lt, Int.not_le, Nat.not_lt, Nat.not_le, Decidable.not_not, ne_eq] at hc0
    omega
  · try simp only [decide_eq_true_eq, decide_eq_false_iff_not, Bool.not_eq_true', Bool.not_eq_false', Bool.not_eq_true, Bool.not_eq_false, Int.not_lt, Int.not_le, Nat.not_lt, Nat.not_le, Decidable.not_not, ne_eq] at hc0
    refine WC_skip ?_
    refine Ps_next hK3 ?_
    refine WC_sr fun K5 hK5 => ?_
    refine WL_rd (Rd_move rfl) rfl rfl rfl ?_
    refine WL_rd (Rd_move rfl) rfl rfl rfl ?_
    refine WL_ac (Ac_call cf62 rfl (hs := rTake_ct (by_ := by_) (rows := rows) (made := made) (i := i) (x := x) (hx := hx))) rfl rfl rfl ?_
    rintro _ _ ⟨⟨a14, cap14⟩, rfl, hA⟩
    simp only [List.cons_append, List.nil_append] at hA
    replace hA := hA.symm
    subst hA
    refine WL_rd (Rd_field rfl fo99_1 tk3) rfl rfl rfl ?_
    refine WL_rd (Rd_assign rfl) rfl rfl rfl ?_
    refine WL_rd (Rd_assign rfl) rfl rfl rfl ?_
    refine WL_end hK5 ?_
    refine WC_ret ?_
    exact hret.go (a14, cap14) (Rs2 rfl rfl rfl)

theorem rDrop_no {by_ : Int} {b cap made : Nat} {a : Option Nat} {rows : List (Nat × Int)} {t : Int} (hlen : rows.length ≤ 100000000 := by omega) (hmd : made ≤ 100000000 := by omega) (hf : fdZ rows t = -1) : Ct Try.prog 54 [.pointer (some ⟨b, 0, none⟩), .int .i64 t] [cl b 73 [.int .i64 by_, sl a rows.length cap, .int .i64 ((made : Nat) : Int)], arr a cap 2 99 eIt rows] (fun _ : Unit => .tuple #[.int .i64 0, .int .i64 171]) (fun _ => [cl b 73 [.int .i64 by_, sl a rows.length cap, .int .i64 ((made : Nat) : Int)], arr a cap 2 99 eIt rows]) := by
  refine Ct_body (n := 16) Try.func54 rfl rfl rfl fun F w0 Q hret hnorm hp => ?_
  change WC _ _ _ _ _ _ _ (_ :: _ :: F)
  refine WC_sr fun K1 hK1 => ?_
  refine WL_rd (Rd_assign rfl) rfl rfl rfl ?_
  refine WL_rd (Rd_assign rfl) rfl rfl rfl ?_
  refine WL_end hK1 ?_
  refine WC_sr fun K2 hK2 => ?_
  refine WL_rd (Rd_move rfl) rfl rfl rfl ?_
  refine WL_rd (Rd_move rfl) rfl rfl rfl ?_
  refine WL_ac (Ac_call cf67 rfl (hs := rFind_ct (by_ := by_) (rows := rows) (made := made) (t := t))) rfl rfl rfl ?_
  rintro _ _ ⟨⟨⟩, rfl, hA⟩
  simp only [List.cons_append, List.nil_append] at hA
  replace hA := hA.symm
  subst hA
  rw [hf]
  refine WL_rd (Rd_assign rfl) rfl rfl rfl ?_
  refine WL_end hK2 ?_
  refine WC_seq fun K3 hK3 => ?_
  refine WC_sr fun K4 hK4 => ?_
  refine WL_rd (Rd_move rfl) rfl rfl rfl ?_
  refine WL_rd (Rd_lss rfl rfl) rfl rfl rfl ?_
  refine WL_end hK4 ?_
  refine WC_cond rfl (fun hc0 => ?_) (fun hc0 => ?_)
  · try simp only [decide_eq_true_eq, decide_eq_false_iff_not, Bool.not_eq_true', Bool.not_eq_false', Bool.not_eq_true, Bool.not_eq_false, Int.not_lt, Int.not_le, Nat.not_lt, Nat.not_le, Decidable.not_not, ne_eq] at hc0
    refine WC_sr fun K5 hK5 => ?_
    refine WL_rd (Rd_assign rfl) rfl rfl rfl ?_
    refine WL_rd (Rd_assign rfl) rfl rfl rfl ?_
    refine WL_end hK5 ?_
    refine WC_ret ?_
    exact hret.go () (Rs2 rfl rfl rfl)
  · try simp only [decide_eq_true_eq, decide_eq_false_iff_not, Bool.not_eq_true', Bool.not_eq_false', Bool.not_eq_true, Bool.not_eq_false, Int.not_lt, Int.not_le, Nat.not_lt, Nat.not_le, Decidable.not_not, ne_eq] at hc0
    omega

theorem rTurn_yes {by_ : Int} {b cap made : Nat} {a : Option Nat} {rows : List (Nat × Int)} {t z : Int} {i : Nat} {x : Nat × Int} (hlen : rows.length ≤ 100000000 := by omega) (hmd : made ≤ 100000000 := by omega) (hx : rows[i]? = some x) (hf : fdZ rows t = (i : Int)) : Ct Try.prog 56 [.pointer (some ⟨b, 0, none⟩), .int .i64 t, .int .i64 z] [cl b 73 [.int .i64 by_, sl a rows.length cap, .int .i64 ((made : Nat) : Int)], arr a cap 2 99 eIt rows] (fun _ : Unit => .int .i64 0) (fun _ => [cl b 73 [.int .i64 by_, sl a (rows.set i (x.1, z)).length cap, .int .i64 ((made : Nat) : Int)], arr a cap 2 99 eIt (rows.set i (x.1, z))]) := by
  refine Ct_body (n := 21) Try.func56 rfl rfl rfl fun F w0 Q hret hnorm hp => ?_
  change WC _ _ _ _ _ _ _ (_ :: _ :: F)
  have hil := (List.getElem?_eq_some_iff.1 hx).1
  refine WC_some (a := a) (by repeat (first | with_reducible exact Has.here | with_reducible refine Has.there ?_)) (by omega) (fun gb hgb _ => ?_)
  subst hgb
  have hsl : (rows.set i (x.1, z)).length = rows.length := List.length_set ..
  refine WC_sr fun K1 hK1 => ?_
  refine WL_rd (Rd_assign rfl) rfl rfl rfl ?_
  refine WL_end hK1 ?_
  refine WC_sr fun K2 hK2 => ?_
  refine WL_rd (Rd_move rfl) rfl rfl rfl ?_
  refine WL_rd (Rd_move rfl) rfl rfl rfl ?_
  refine WL_ac (Ac_call cf67 rfl (hs := rFind_ct (by_ := by_) (rows := rows) (made := made) (t := t))) rfl rfl rfl ?_
  rintro _ _ ⟨⟨⟩, rfl, hA⟩
  simp only [List.cons_append, List.nil_append] at hA
  replace hA := hA.symm
  subst hA
  rw [hf]
  refine WL_rd (Rd_assign rfl) rfl rfl rfl ?_
  refine WL_end hK2 ?_
  refine WC_seq fun K3 hK3 => ?_
  refine WC_sr fun K4 hK4 => ?_
  refine WL_rd (Rd_move rfl) rfl rfl rfl ?_
  refine WL_rd (Rd_lssN (j := 0) rfl rfl) rfl rfl rfl ?_
  refine WL_end hK4 ?_
  refine WC_cond rfl (fun hc0 => ?_) (fun hc0 => ?_)
  · try simp only [decide_eq_true_eq, decide_eq_false_iff_not, Bool.not_eq_true', Bool.not_eq_false', Bool.not_eq_true, Bool.not_eq_false, Int.not_lt, Int.not_le, Nat.not_lt, Nat.not_le, Decidable.not_not, ne_eq] at hc0
    omega
  · try simp only [decide_eq_true_eq, decide_eq_false_iff_not, Bool.not_eq_true', Bool.not_eq_false', Bool.not_eq_true, Bool.not_eq_false, Int.not_lt, Int.not_le, Nat.not_lt, Nat.not_le, Decidable.not_not, ne_eq] at hc0
    refine WC_skip ?_
    refine Ps_next hK3 ?_
    refine WC_sr fun K5 hK5 => ?_
    refine WL_rd (Rd_move rfl) rfl rfl rfl ?_
    refine WL_rd (Rd_nilCheck rfl) rfl rfl rfl ?_
    refine WL_rd (Rd_fieldAddr rfl fo73_1) rfl rfl rfl ?_
    refine WL_rd (Rd_load rfl tk71) rfl rfl rfl ?_
    refine WL_rd (Rd_move rfl) rfl rfl rfl ?_
    refine WL_rd (Rd_move rfl) rfl rfl rfl ?_
    refine WL_rd (Rd_index i rfl rfl ud71 sz99 (hi := by omega)) rfl rfl rfl ?_
    refine WL_rd (Rd_fieldAddr rfl fo99_1) rfl rfl rfl ?_
    refine WL_ac0 (Ac_store_arr (x.1, z) rfl rfl sz3 (j := 1) (i := i) (hl := hx)) rfl rfl ?_
    rintro _ _ rfl
    refine WL_end hK5 ?_
    refine WC_sr fun K6 hK6 => ?_
    refine WL_rd (Rd_assign rfl) rfl rfl rfl ?_
    refine WL_end hK6 ?_
    refine WC_ret ?_
    rw [hsl] at hret
    exact hret.go () (Rs1 rfl rfl)

theorem rTurn_no {by_ : Int} {b cap made : Nat} {a : Option Nat} {rows : List (Nat × Int)} {t z : Int} (hlen : rows.length ≤ 100000000 := by omega) (hmd : made ≤ 100000000 := by omega) (hf : fdZ rows t = -1) : Ct Try.prog 56 [.pointer (some ⟨b, 0, none⟩), .int .i64 t, .int .i64 z] [cl b 73 [.int .i64 by_, sl a rows.length cap, .int .i64 ((made : Nat) : Int)], arr a cap 2 99 eIt rows] (fun _ : Unit => .int .i64 171) (fun _ => [cl b 73 [.int .i64 by_, sl a rows.length cap, .int .i64 ((made : Nat) : Int)], arr a cap 2 99 eIt rows]) := by
  refine Ct_body (n := 21) Try.func56 rfl rfl rfl fun F w0 Q hret hnorm hp => ?_
  change WC _ _ _ _ _ _ _ (_ :: _ :: F)
  refine WC_sr fun K1 hK1 => ?_
  refine WL_rd (Rd_assign rfl) rfl rfl rfl ?_
  refine WL_end hK1 ?_
  refine WC_sr fun K2 hK2 => ?_
  refine WL_rd (Rd_move rfl) rfl rfl rfl ?_
  refine WL_rd (Rd_move rfl) rfl rfl rfl ?_
  refine WL_ac (Ac_call cf67 rfl (hs := rFind_ct (by_ := by_) (rows := rows) (made := made) (t := t))) rfl rfl rfl ?_
  rintro _ _ ⟨⟨⟩, rfl, hA⟩
  simp only [List.cons_append, List.nil_append] at hA
  replace hA := hA.symm
  subst hA
  rw [hf]
  refine WL_rd (Rd_assign rfl) rfl rfl rfl ?_
  refine WL_end hK2 ?_
  refine WC_seq fun K3 hK3 => ?_
  refine WC_sr fun K4 hK4 => ?_
  refine WL_rd (Rd_move rfl) rfl rfl rfl ?_
  refine WL_rd (Rd_lss rfl rfl) rfl rfl rfl ?_
  refine WL_end hK4 ?_
  refine WC_cond rfl (fun hc0 => ?_) (fun hc0 => ?_)
  · try simp only [decide_eq_true_eq, decide_eq_false_iff_not, Bool.not_eq_true', Bool.not_eq_false', Bool.not_eq_true, Bool.not_eq_false, Int.not_lt, Int.not_le, Nat.not_lt, Nat.not_le, Decidable.not_not, ne_eq] at hc0
    refine WC_sr fun K5 hK5 => ?_
    refine WL_rd (Rd_assign rfl) rfl rfl rfl ?_
    refine WL_end hK5 ?_
    refine WC_ret ?_
    exact hret.go () (Rs1 rfl rfl)
  · try simp only [decide_eq_true_eq, decide_eq_false_iff_not, Bool.not_eq_true', Bool.not_eq_false', Bool.not_eq_true, Bool.not_eq_false, Int.not_lt, Int.not_le, Nat.not_lt, Nat.not_le, Decidable.not_not, ne_eq] at hc0
    omega

theorem rPop_ct {by_ : Int} {b cap made : Nat} {a : Option Nat} {rows : List (Nat × Int)} (hlen : rows.length ≤ 100000000 := by omega) (hmd : made ≤ 100000000 := by omega) : Ct Try.prog 52 [.pointer (some ⟨b, 0, none⟩)] [cl b 73 [.int .i64 by_, sl a rows.length cap, .int .i64 ((made : Nat) : Int)], arr a cap 2 99 eIt rows] (fun _ : Option Nat × Nat => .tuple #[.int .i64 ((lsV (ltz by_) rows)), .bool (decide (rows ≠ []))]) (fun g => [cl b 73 [.int .i64 by_, sl g.1 (lsL (ltz by_) rows).length g.2, .int .i64 ((made : Nat) : Int)], arr g.1 g.2 2 99 eIt (lsL (ltz by_) rows)]) := by
  rcases Nat.eq_zero_or_pos rows.length with q | q
  · have e : rows = [] := List.eq_nil_of_length_eq_zero q
    subst e
    exact Ct_way fun F w hs => ⟨Unit, _, _, _, rPop_no (b := b) (a := a) (cap := cap) (by_ := by_) (made := made), hs, fun r w' hw => ⟨(a, cap), rfl, hw⟩⟩
  · have hr := leastP_rng (lt := ltz by_) rows rows.length (Nat.le_refl _)
    obtain ⟨x, hx⟩ := at_r (l := rows) (i := (leastP (ltz by_) rows rows.length).toNat) (by omega)
    have h1 : rows ≠ [] := fun e => by rw [e] at q; cases q
    rw [show lsV (ltz by_) rows = x.2 from by unfold lsV; rw [hx], show decide (rows ≠ []) = true from decide_eq_true h1]
    exact rPop_yes hlen hmd hx (by omega)
theorem rPeek_ct {by_ : Int} {b cap made : Nat} {a : Option Nat} {rows : List (Nat × Int)} (hlen : rows.length ≤ 100000000 := by omega) (hmd : made ≤ 100000000 := by omega) : Ct Try.prog 53 [.pointer (some ⟨b, 0, none⟩)] [cl b 73 [.int .i64 by_, sl a rows.length cap, .int .i64 ((made : Nat) : Int)], arr a cap 2 99 eIt rows] (fun _ : Unit => .tuple #[.int .i64 ((lsV (ltz by_) rows)), .bool (decide (rows ≠ []))]) (fun _ => [cl b 73 [.int .i64 by_, sl a rows.length cap, .int .i64 ((made : Nat) : Int)], arr a cap 2 99 eIt rows]) := by
  rcases Nat.eq_zero_or_pos rows.length with q | q
  · have e : rows = [] := List.eq_nil_of_length_eq_zero q
    subst e
    exact rPeek_no
  · have hr := leastP_rng (lt := ltz by_) rows rows.length (Nat.le_refl _)
    obtain ⟨x, hx⟩ := at_r (l := rows) (i := (leastP (ltz by_) rows rows.length).toNat) (by omega)
    have h1 : rows ≠ [] := fun e => by rw [e] at q; cases q
    rw [show lsV (ltz by_) rows = x.2 from by unfold lsV; rw [hx], show decide (rows ≠ []) = true from decide_eq_true h1]
    exact rPeek_yes hlen hmd hx (by omega)
theorem rDrop_ct {by_ : Int} {b cap made : Nat} {a : Option Nat} {rows : List (Nat × Int)} {t : Int} (hlen : rows.length ≤ 100000000 := by omega) (hmd : made ≤ 100000000 := by omega) : Ct Try.prog 54 [.pointer (some ⟨b, 0, none⟩), .int .i64 t] [cl b 73 [.int .i64 by_, sl a rows.length cap, .int .i64 ((made : Nat) : Int)], arr a cap 2 99 eIt rows] (fun _ : Option Nat × Nat => .tuple #[.int .i64 ((drV rows t)), .int .i64 ((drE rows t))]) (fun g => [cl b 73 [.int .i64 by_, sl g.1 (drL rows t).length g.2, .int .i64 ((made : Nat) : Int)], arr g.1 g.2 2 99 eIt (drL rows t)]) := by
  unfold drV drE drL
  cases h : fdM rows t with
  | none => exact Ct_way fun F w hs => ⟨Unit, _, _, _, rDrop_no (b := b) (a := a) (cap := cap) (by_ := by_) (made := made) (rows := rows) (t := t) hlen hmd (by unfold fdZ; rw [h]), hs, fun r w' hw => ⟨(a, cap), rfl, hw⟩⟩
  | some i =>
    obtain ⟨x, hx, e⟩ := fd_some h
    simp only [hx]
    exact rDrop_yes hlen hmd hx (by unfold fdZ; rw [h])
theorem rTurn_ct {by_ : Int} {b cap made : Nat} {a : Option Nat} {rows : List (Nat × Int)} {t z : Int} (hlen : rows.length ≤ 100000000 := by omega) (hmd : made ≤ 100000000 := by omega) : Ct Try.prog 56 [.pointer (some ⟨b, 0, none⟩), .int .i64 t, .int .i64 z] [cl b 73 [.int .i64 by_, sl a rows.length cap, .int .i64 ((made : Nat) : Int)], arr a cap 2 99 eIt rows] (fun _ : Unit => .int .i64 ((drE rows t))) (fun _ => [cl b 73 [.int .i64 by_, sl a (tuL rows t z).length cap, .int .i64 ((made : Nat) : Int)], arr a cap 2 99 eIt (tuL rows t z)]) := by
  unfold drE tuL
  cases h : fdM rows t with
  | none => exact rTurn_no hlen hmd (by unfold fdZ; rw [h])
  | some i =>
    obtain ⟨x, hx, e⟩ := fd_some h
    have e2 : t.toNat = x.1 := by omega
    simp only [e2]
    exact rTurn_yes hlen hmd hx (by unfold fdZ; rw [h])

theorem rAllG_ct {by_ : Int} {b cap made : Nat} {a : Option Nat} {rows : List (Nat × Int)} (hU : rows.Pairwise fun x y => x.1 < y.1 := by assumption) (hlen : rows.length ≤ 100000000 := by omega) (hmd : made ≤ 100000000 := by omega) : Ct Try.prog 48 [.pointer (some ⟨b, 0, none⟩)] [cl b 73 [.int .i64 by_, sl a rows.length cap, .int .i64 ((made : Nat) : Int)], arr a cap 2 99 eIt rows] (fun g : Option Nat × Nat => sl g.1 (srt (ltz by_) rows).length g.2) (fun g => [cl b 73 [.int .i64 by_, sl a rows.length cap, .int .i64 ((made : Nat) : Int)], arr a cap 2 99 eIt rows, arr g.1 g.2 2 99 eIt (srt (ltz by_) rows)]) := by
  refine Ct_body (n := 28) Try.func48 rfl rfl rfl fun F w0 Q hret hnorm hp => ?_
  change WC _ _ _ _ _ _ _ (_ :: _ :: F)
  refine WC_imp (fun w h => sat_nil (e := 2) (T := 99) (f := eIt) h) ?_
  refine WC_fact (fun w h => arr_facts (a := a) (cap := cap) (e := 2) (T := 99) (f := eIt) (l := rows) (by repeat (first | with_reducible exact Has.here | with_reducible refine Has.there ?_)) h) (fun hRSf => ?_)
  have hRS : Sv [arr a cap 2 99 eIt rows] (sl a rows.length cap) 2 eIt rows (a.map fun g => ⟨g, 0, none⟩) cap := Sv_own' encIt hRSf.1 hRSf.2
  refine WC_sr fun K1 hK1 => ?_
  refine WL_rd (Rd_assign (v := sl none 0 0) rfl) rfl rfl rfl ?_
  refine WL_end hK1 ?_
  refine WC_sr fun K2 hK2 => ?_
  refine WL_ac (Ac_alloc zr73) rfl rfl rfl ?_
  rintro _ _ ⟨c, rfl, rfl⟩
  refine WL_end hK2 ?_
  refine WC_sr fun K3 hK3 => ?_
  refine WL_rd (Rd_move rfl) rfl rfl rfl ?_
  refine WL_rd (Rd_nilCheck rfl) rfl rfl rfl ?_
  refine WL_rd (Rd_fieldAddr rfl fo73_0) rfl rfl rfl ?_
  refine WL_rd (Rd_load rfl tk3) rfl rfl rfl ?_
  refine WL_rd (Rd_fieldAddr rfl fo73_0) rfl rfl rfl ?_
  refine WL_ac0 (Ac_store1 rfl rfl sz3) rfl rfl ?_
  rintro _ _ rfl
  refine WL_end hK3 ?_
  refine WC_seq fun K4 hK4 => ?_
  refine WC_drawA mix (fun i => ([2, 2, 2, 2, 2, 2, 0, 2, 0] : List Nat).getD i 0) ?_
  refine WJ_takeP 0 rfl (by kernel_rfl) (Rd_fieldAddr rfl fo73_1) rfl rfl rfl (hp _ _) ?_
  refine WJ_tk 1 (Rd_load rfl tk71) hp ?_ rfl (by kernel_rfl) rfl rfl rfl
  refine WJ_takeP 2 rfl (by kernel_rfl) (Rd_move rfl) rfl rfl rfl (hp _ _) ?_
  refine WJ_takeP 3 rfl (by kernel_rfl) (Rd_nilCheck rfl) rfl rfl rfl (hp _ _) ?_
  refine WJ_takeP 4 rfl (by kernel_rfl) (Rd_fieldAddr rfl fo73_1) rfl rfl rfl (hp _ _) ?_
  refine WJ_tk 5 (Rd_load rfl tk71) hp ?_ rfl (by kernel_rfl) rfl rfl rfl
  refine WJ_all (rs := [6]) (by kernel_rfl) rfl ?_
  refine WI_one ?_
  refine WI_ac rfl (Ac_appendS (f := eIt) (a := none) (cap := 0) (l := []) encIt rfl rfl ud71 ud71 el99 (hS := hRS) (hb := by simp only [List.length_nil]; omega)) rfl rfl rfl rfl ?_
  rintro _ _ ⟨a16, cap16, rfl, rfl⟩
  refine ⟨(fun h => by cases h), ?_⟩
  rw [show ([] : List (Nat × Int)) ++ rows = rows from rfl]
  simp only [List.length_nil, Nat.zero_add]
  refine WJ_takeP 7 rfl (by kernel_rfl) (Rd_fieldAddr rfl fo73_1) rfl rfl rfl (hp _ _) ?_
  refine WJ_all (rs := [8]) (by kernel_rfl) rfl ?_
  refine WI_one ?_
  refine WI_ac0 rfl (Ac_store1 rfl rfl sz71) rfl rfl rfl ?_
  rintro _ _ rfl
  refine ⟨(fun h => by cases h), ?_⟩
  refine WJ_done (by kernel_rfl) ?_
  refine Ps_next hK4 ?_
  refine WC_sr fun K5 hK5 => ?_
  refine WL_rd (Rd_assign (v := sl none 0 0) rfl) rfl rfl rfl ?_
  refine WL_nilarr eIt 2 99 ?_
  refine WL_end hK5 ?_
  refine WC_seq fun K6 hK6 => ?_
  refine WC_block ?_
  rw [show cl c 73 [.int .i64 by_, sl a16 rows.length cap16, .int .i64 0] = cl c 73 [.int .i64 by_, sl a16 rows.length cap16, .int .i64 ((0 : Nat) : Int)] from rfl]
  refine WC_loopK (σ := (List (Nat × Int)) × (List (Nat × Int)) × (Option Nat) × Nat × (Option Nat) × Nat) (fun ⟨rs, out, ca, cc, oa, oc⟩ => [(4, sl oa out.length oc)]) (fun ⟨rs, out, ca, cc, oa, oc⟩ => [cl c 73 [.int .i64 by_, sl ca rs.length cc, .int .i64 ((0 : Nat) : Int)], arr ca cc 2 99 eIt rs, arr oa oc 2 99 eIt out]) (fun ⟨rs, out, ca, cc, oa, oc⟩ => OutG (ltz by_) rows out rs ∧ rs.Pairwise fun x y => x.1 < y.1) (fun ⟨rs, out, ca, cc, oa, oc⟩ => rs.length) ⟨rows, [], a16, cap16, none, 0⟩ [2, 3, 27] (by repeat (first | exact Kep.nil | apply Kep.drop rfl | apply Kep.keep rfl)) (by (try dsimp only); repeat (first | with_reducible exact Gv.nil | (with_reducible apply Gv.cons; · (repeat (first | with_reducible exact Ext.here | with_reducible apply Ext.there))))) ?_ ?_ Sub.refl ?_
  · exact ⟨OutG_0 (List.Perm.refl _), hU⟩
  · (try dsimp only); exact (Wk.cons (by first | rfl | (simp only [List.length_append, List.length_cons, List.length_nil, List.length_replicate, Nat.zero_add]; rfl) | (simp; done)) Wk.nil)
  · rintro ⟨rs, out, ca, cc, oa, oc⟩ ⟨hO, hU2⟩ K7 hK7
    simp only [List.cons_append, List.nil_append]
    have hol := OutG_len hO
    refine WC_seq fun K8 hK8 => ?_
    refine WC_sr fun K9 hK9 => ?_
    refine WL_rd (Rd_fieldAddr rfl fo73_1) rfl rfl rfl ?_
    refine WL_rd (Rd_load rfl tk71) rfl rfl rfl ?_
    refine WL_rd (Rd_len rfl rfl ud71) rfl rfl rfl ?_
    refine WL_rd (Rd_gtrN (j := 0) rfl rfl) rfl rfl rfl ?_
    refine WL_end hK9 ?_
    refine WC_cond rfl (fun hc0 => ?_) (fun hc0 => ?_)
    · try simp only [decide_eq_true_eq, decide_eq_false_iff_not, Bool.not_eq_true', Bool.not_eq_false', Bool.not_eq_true, Bool.not_eq_false, Int.not_lt, Int.not_le, Nat.not_lt, Nat.not_le, Decidable.not_not, ne_eq] at hc0
      have hr := leastP_rng (lt := ltz by_) rs rs.length (Nat.le_refl _)
      obtain ⟨x, hx⟩ := at_r (l := rs) (i := (leastP (ltz by_) rs rs.length).toNat) (by omega)
      have hti : leastP (ltz by_) rs rs.length = (((leastP (ltz by_) rs rs.length).toNat : Nat) : Int) := by omega
      refine WC_skip ?_
      refine Ps_next hK8 ?_
      refine WC_block ?_
      refine WC_region ?_
      refine WL_rd (Rd_move rfl) rfl rfl rfl ?_
      refine WL_ac (Ac_call cf63 rfl (hs := rLeast_ct (by_ := by_) (rows := rs) (made := 0))) rfl rfl rfl ?_
      rintro _ _ ⟨⟨⟩, rfl, hA⟩
      simp only [List.cons_append, List.nil_append] at hA
      replace hA := hA.symm
      subst hA
      rw [hti]
      refine WL_ac (Ac_call cf62 rfl (hs := rTake_ct (by_ := by_) (rows := rs) (made := 0) (i := (leastP (ltz by_) rs rs.length).toNat) (x := x) (hx := hx))) rfl rfl rfl ?_
      rintro _ _ ⟨⟨a24, cap24⟩, rfl, hA⟩
      simp only [List.cons_append, List.nil_append] at hA
      replace hA := hA.symm
      subst hA
      refine WL_ac (Ac_bs1 (xs := eIt x) rfl ud71 zr99 sz99) rfl rfl rfl ?_
      rintro _ _ ⟨b25, rfl, rfl⟩
      refine WL_ac (Ac_append1 (f := eIt) encIt x rfl rfl ud71 ud71 el99) rfl rfl rfl ?_
      rintro _ _ ⟨a26, cap26, rfl, rfl⟩
      refine WL_rd (Rd_assign rfl) rfl rfl rfl ?_
      refine WL_nil ?_
      refine Ps_wk (by (try simp only [List.cons_append, List.nil_append]); repeat (first | with_reducible exact Wk.nil | refine Wk.cons (by first | rfl | (simp only [List.length_append, List.length_cons, List.length_nil, List.length_replicate, Nat.zero_add]; rfl) | (simp; done)) ?_)) (by (try simp only [List.cons_append, List.nil_append]); repeat (first | with_reducible exact Sub.refl | with_reducible exact Sub.nil | with_reducible refine Sub.cons (by repeat (first | with_reducible exact Ext.here | with_reducible apply Ext.there)) ?_ | with_reducible refine Sub.tail ?_)) (hK7 ⟨rs.eraseIdx (leastP (ltz by_) rs rs.length).toNat, out ++ [x], a24, cap24, a26, cap26⟩ (⟨OutG_list (ltz_od by_) hO hU2 (by omega) hx, up_erase _ hU2⟩) (by (try dsimp only); rw [List.length_eraseIdx]; split <;> omega))
    · try simp only [decide_eq_true_eq, decide_eq_false_iff_not, Bool.not_eq_true', Bool.not_eq_false', Bool.not_eq_true, Bool.not_eq_false, Int.not_lt, Int.not_le, Nat.not_lt, Nat.not_le, Decidable.not_not, ne_eq] at hc0
      obtain rfl : rs = [] := List.eq_nil_of_length_eq_zero (by omega)
      obtain rfl : out = srt (ltz by_) rows := OutG_end (ltz_od by_) hU hO
      refine WC_exit ?_
      refine Ps_next hK6 ?_
      refine WC_sr fun K10 hK10 => ?_
      refine WL_rd (Rd_move rfl) rfl rfl rfl ?_
      refine WL_rd (Rd_assign rfl) rfl rfl rfl ?_
      refine WL_end hK10 ?_
      refine WC_ret ?_
      exact hret.go (oa, oc) (Rs1 rfl rfl)
end Go.Proofs.Ytcookmkklcbbnaa
