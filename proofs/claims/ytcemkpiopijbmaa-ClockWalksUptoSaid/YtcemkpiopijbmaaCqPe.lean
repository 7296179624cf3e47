/-
  Contracts of functions that the claim reaches, or the logic and the plain laws that they rest on, or the row over them. (Conditions: none beyond the statement.)
-/
import Derived.Test.YtcemkpiopijbmaaCqPd
set_option linter.all false
namespace Go.Proofs.Ytcemkpiopijbmaa
open Go.RowKit Go.SL Go.HpM Go.ShM 
set_option maxHeartbeats 1000000
set_option maxRecDepth 20000
set_option linter.all false
theorem cf88 : cfn Try.prog 88 = true := by kernel_rfl
theorem cf89 : cfn Try.prog 89 = true := by kernel_rfl
theorem dDrop_ct {y made cap : Nat} {a : Option Nat} {tick : Int} {L : List (Nat × DW)} {t : Int} (hlen : L.length ≤ 100000000 := by omega) : Ct Try.prog 70 [.pointer (some ⟨y, 0, none⟩), .int .i64 t] [cl y 90 [.int .i64 tick, .int .i64 ((made : Nat) : Int), sl a L.length cap], arr a cap 3 81 eDR L] (fun g : Option Nat × Nat => .tuple #[.int .u32 (((fdW L t).toNat : Nat) : Int), .int .i64 ((fdE L t))]) (fun g => [cl y 90 [.int .i64 tick, .int .i64 ((made : Nat) : Int), sl g.1 (drL L t).length g.2], arr g.1 g.2 3 81 eDR (drL L t)]) := by
  refine Ct_body (n := 32) Try.func70 rfl rfl rfl fun F w0 Q hret hnorm hp => ?_
  change WC _ _ _ _ _ _ _ (_ :: _ :: F)
  refine WC_sr fun K1 hK1 => ?_
  refine WL_rd (Rd_assign rfl) rfl rfl rfl ?_
  refine WL_rd (Rd_assign rfl) rfl rfl rfl ?_
  refine WL_end hK1 ?_
  refine WC_seq fun K2 hK2 => ?_
  refine WC_sr fun K3 hK3 => ?_
  refine WL_rd (Rd_assign rfl) rfl rfl rfl ?_
  refine WL_end hK3 ?_
  refine WC_block ?_
  refine WC_loopK (σ := Nat) (fun k => [(6, .int .i64 ((k : Nat) : Int))]) (fun k => []) (fun k => k ≤ L.length ∧ (∀ j z, j < k → L[j]? = some z → (z.1 : Int) ≠ t)) (fun k => L.length - k) (0) [0, 1] (by repeat (first | exact Kep.nil | apply Kep.drop rfl | apply Kep.keep rfl)) (by (try dsimp only); repeat (first | with_reducible exact Gv.nil | (with_reducible apply Gv.cons; · (repeat (first | with_reducible exact Ext.here | with_reducible apply Ext.there))))) ?_ ?_ Sub.refl ?_
  · exact ⟨Nat.zero_le _, fun j y h => by omega⟩
  · (try dsimp only); exact (Wk.cons (by first | rfl | (simp only [List.length_append, List.length_cons, List.length_nil, List.length_replicate, Nat.zero_add]; rfl) | (simp; done)) Wk.nil)
  · rintro k ⟨hk, hbf⟩ K4 hK4
    simp only [List.cons_append, List.nil_append]
    refine WC_seq fun K5 hK5 => ?_
    refine WC_sr fun K6 hK6 => ?_
    refine WL_rd (Rd_move rfl) rfl rfl rfl ?_
    refine WL_rd (Rd_move rfl) rfl rfl rfl ?_
    refine WL_rd (Rd_nilCheck rfl) rfl rfl rfl ?_
    refine WL_rd (Rd_fieldAddr rfl fo90_2) rfl rfl rfl ?_
    refine WL_rd (Rd_load rfl tk75) rfl rfl rfl ?_
    refine WL_rd (Rd_len rfl rfl ud75) rfl rfl rfl ?_
    refine WL_rd (Rd_lssN rfl rfl) rfl rfl rfl ?_
    refine WL_end hK6 ?_
    refine WC_cond rfl (fun hc0 => ?_) (fun hc0 => ?_)
    · try simp only [decide_eq_true_eq, decide_eq_false_iff_not, Bool.not_eq_true', Bool.not_eq_false', Bool.not_eq_true, Bool.not_eq_false, Int.not_lt, Int.not_le, Nat.not_lt, Nat.not_le, Decidable.not_not, ne_eq] at hc0
      refine WC_some (a := a) (by repeat (first | with_reducible exact Has.here | with_reducible refine Has.there ?_)) (by omega) (fun gb hgb hcp => ?_)
      subst hgb
      obtain ⟨x, hx⟩ := at_r (l := L) (i := k) (by omega)
      refine WC_skip ?_
      refine Ps_next hK5 ?_
      refine WC_seq fun K7 hK7 => ?_
      refine WC_block ?_
      refine WC_sr fun K8 hK8 => ?_
      refine WL_rd (Rd_move rfl) rfl rfl rfl ?_
      refine WL_rd (Rd_nilCheck rfl) rfl rfl rfl ?_
      refine WL_rd (Rd_fieldAddr rfl fo90_2) rfl rfl rfl ?_
      refine WL_rd (Rd_load rfl tk75) rfl rfl rfl ?_
      refine WL_rd (Rd_move rfl) rfl rfl rfl ?_
      refine WL_rd (Rd_index k rfl rfl ud75 sz81 (hi := by omega)) rfl rfl rfl ?_
      refine WL_rd (Rd_fieldAddr rfl fo81_0) rfl rfl rfl ?_
      refine WL_rd (Rd_load_arr (f := eDR) (i := k) (j := 0) rfl tk3 (hl := hx)) rfl rfl rfl ?_
      refine WL_rd (Rd_move rfl) rfl rfl rfl ?_
      refine WL_rd (Rd_eql rfl rfl) rfl rfl rfl ?_
      refine WL_end hK8 ?_
      refine WC_cond rfl (fun hc1 => ?_) (fun hc1 => ?_)
      · try simp only [decide_eq_true_eq, decide_eq_false_iff_not, Bool.not_eq_true', Bool.not_eq_false', Bool.not_eq_true, Bool.not_eq_false, Int.not_lt, Int.not_le, Nat.not_lt, Nat.not_le, Decidable.not_not, ne_eq] at hc1
        have hfd : fdM L t = some k := fdZ_some (fd_hit hbf hx hc1)
        rw [show fdW L t = x.2.2 from by unfold fdW; rw [hfd]; dsimp only; rw [hx], show fdE L t = 0 from by unfold fdE; rw [hfd], show drL L t = L.eraseIdx k from by unfold drL; rw [hfd]] at hret
        refine WC_sr fun K9 hK9 => ?_
        refine WL_rd (Rd_move rfl) rfl rfl rfl ?_
        refine WL_rd (Rd_move rfl) rfl rfl rfl ?_
        refine WL_ac (Ac_call cf89 rfl (hs := dOut_ct (y := y) (L := L) (i := k) (x := x) (hx := hx))) rfl rfl rfl ?_
        rintro _ _ ⟨⟨a29, cap29⟩, rfl, hA⟩
        simp only [List.cons_append, List.nil_append] at hA
        replace hA := hA.symm
        subst hA
        refine WL_ac (Ac_alloc zr81) rfl rfl rfl ?_
        rintro _ _ ⟨b7, rfl, rfl⟩
        refine WL_ac0 (Ac_store (ys := eDR x) rfl rfl sz81 (h1 := encDR.one x) (hr := rfl)) rfl rfl ?_
        rintro _ _ rfl
        refine WL_end hK9 ?_
        refine WC_sr fun K10 hK10 => ?_
        refine WL_rd (Rd_fieldAddr rfl fo81_2) rfl rfl rfl ?_
        refine WL_rd (Rd_load rfl tk45 (v := .int .u32 ((x.2.2.toNat : Nat) : Int))) rfl rfl rfl ?_
        refine WL_rd (Rd_assign rfl) rfl rfl rfl ?_
        refine WL_rd (Rd_assign rfl) rfl rfl rfl ?_
        refine WL_end hK10 ?_
        refine WC_ret ?_
        first | exact hret.go (a29, cap29) (Rs2 rfl rfl rfl) | exact hret.go (a, cap) (Rs2 rfl rfl rfl)
      · try simp only [decide_eq_true_eq, decide_eq_false_iff_not, Bool.not_eq_true', Bool.not_eq_false', Bool.not_eq_true, Bool.not_eq_false, Int.not_lt, Int.not_le, Nat.not_lt, Nat.not_le, Decidable.not_not, ne_eq] at hc1
        refine WC_skip ?_
        refine Ps_next hK7 ?_
        refine WC_region ?_
        refine WL_rd (Rd_move rfl) rfl rfl rfl ?_
        refine WL_rd (Rd_addN (j := 1) rfl rfl) rfl rfl rfl ?_
        refine WL_rd (Rd_assign rfl) rfl rfl rfl ?_
        refine WL_nil ?_
        refine Ps_wk (by (try simp only [List.cons_append, List.nil_append]); repeat (first | with_reducible exact Wk.nil | refine Wk.cons (by first | rfl | (simp only [List.length_append, List.length_cons, List.length_nil, List.length_replicate, Nat.zero_add]; rfl) | (simp; done)) ?_)) (by (try simp only [List.cons_append, List.nil_append]); repeat (first | with_reducible exact Sub.refl | with_reducible exact Sub.nil | with_reducible refine Sub.cons (by repeat (first | with_reducible exact Ext.here | with_reducible apply Ext.there)) ?_ | with_reducible refine Sub.tail ?_)) (hK4 (k + 1) (⟨by omega, fun j z hj hz => by rcases Nat.lt_or_ge j k with q | q; exact hbf j z q hz; (have e : j = k := by omega); rw [e, hx] at hz; cases hz; exact hc1⟩) (by omega))
    · try simp only [decide_eq_true_eq, decide_eq_false_iff_not, Bool.not_eq_true', Bool.not_eq_false', Bool.not_eq_true, Bool.not_eq_false, Int.not_lt, Int.not_le, Nat.not_lt, Nat.not_le, Decidable.not_not, ne_eq] at hc0
      obtain rfl : k = L.length := by omega
      have hfd : fdM L t = none := fdZ_none (fd_end hbf)
      rw [show fdW L t = 0#32 from by unfold fdW; rw [hfd]; rfl, show fdE L t = 181 from by unfold fdE; rw [hfd], show drL L t = L from by unfold drL; rw [hfd]] at hret
      refine WC_exit ?_
      refine Ps_next hK2 ?_
      refine WC_sr fun K11 hK11 => ?_
      refine WL_rd (Rd_assign rfl) rfl rfl rfl ?_
      refine WL_rd (Rd_assign rfl) rfl rfl rfl ?_
      refine WL_end hK11 ?_
      refine WC_ret ?_
      first | exact hret.go (a29, cap29) (Rs2 rfl rfl rfl) | exact hret.go (a, cap) (Rs2 rfl rfl rfl)

theorem dNext_yes {y made cap : Nat} {a : Option Nat} {tick : Int} {L : List (Nat × DW)} (hlen : L.length ≤ 100000000 := by omega) (hpos : 0 < L.length) : Ct Try.prog 71 [.pointer (some ⟨y, 0, none⟩)] [cl y 90 [.int .i64 tick, .int .i64 ((made : Nat) : Int), sl a L.length cap], arr a cap 3 81 eDR L] (fun _ : Unit => .tuple #[.int .i64 ((lsX L).2.1), .bool true]) (fun _ => [cl y 90 [.int .i64 tick, .int .i64 ((made : Nat) : Int), sl a L.length cap], arr a cap 3 81 eDR L]) := by
  refine Ct_body (n := 17) Try.func71 rfl rfl rfl fun F w0 Q hret hnorm hp => ?_
  change WC _ _ _ _ _ _ _ (_ :: _ :: F)
  have hti := leP_pos hpos
  have hx := lsX_at hpos
  have hil := (List.getElem?_eq_some_iff.1 hx).1
  refine WC_some (a := a) (by repeat (first | with_reducible exact Has.here | with_reducible refine Has.there ?_)) (by omega) (fun gb hgb hcp => ?_)
  subst hgb
  refine WC_sr fun K1 hK1 => ?_
  refine WL_rd (Rd_assign rfl) rfl rfl rfl ?_
  refine WL_rd (Rd_assign rfl) rfl rfl rfl ?_
  refine WL_end hK1 ?_
  refine WC_sr fun K2 hK2 => ?_
  refine WL_rd (Rd_move rfl) rfl rfl rfl ?_
  refine WL_ac (Ac_call cf88 rfl (hs := dFirst_ct (y := y) (L := L))) rfl rfl rfl ?_
  rintro _ _ ⟨⟨⟩, rfl, hA⟩
  simp only [List.cons_append, List.nil_append] at hA
  replace hA := hA.symm
  subst hA
  refine WL_rd (Rd_assign rfl) rfl rfl rfl ?_
  refine WL_end hK2 ?_
  refine WC_seq fun K3 hK3 => ?_
  refine WC_sr fun K4 hK4 => ?_
  refine WL_rd (Rd_move rfl) rfl rfl rfl ?_
  refine WL_rd (Rd_lss rfl rfl) rfl rfl rfl ?_
  refine WL_end hK4 ?_
  refine WC_cond rfl (fun hc0 => ?_) (fun hc0 => ?_)
  · try simp only [decide_eq_true_eq, decide_eq_false_iff_not, Bool.not_eq_true', Bool.not_eq_false', Bool.not_eq_true, Bool.not_eq_false, Int.not_lt, Int.not_le, Nat.not_lt, Nat.not_le, Decidable.not_not, ne_eq] at hc0
    omega
  · try simp only [decide_eq_true_eq, decide_eq_false_iff_not, Bool.not_eq_true', Bool.not_eq_false', Bool.not_eq_true, Bool.not_eq_false, Int.not_lt, Int.not_le, Nat.not_lt, Nat.not_le, Decidable.not_not, ne_eq] at hc0
    refine WC_skip ?_
    refine Ps_next hK3 ?_
    refine WC_sr fun K5 hK5 => ?_
    refine WL_rd (Rd_move rfl) rfl rfl rfl ?_
    refine WL_rd (Rd_nilCheck rfl) rfl rfl rfl ?_
    refine WL_rd (Rd_fieldAddr rfl fo90_2) rfl rfl rfl ?_
    refine WL_rd (Rd_load rfl tk75) rfl rfl rfl ?_
    refine WL_rd (Rd_move rfl) rfl rfl rfl ?_
    refine WL_rd (Rd_index (leastP dlt L L.length).toNat rfl rfl ud75 sz81 (hi := by omega) (hj := hti)) rfl rfl rfl ?_
    refine WL_rd (Rd_fieldAddr rfl fo81_1) rfl rfl rfl ?_
    refine WL_rd (Rd_load_arr (f := eDR) (i := (leastP dlt L L.length).toNat) (j := 1) rfl tk3 (hl := hx)) rfl rfl rfl ?_
    refine WL_rd (Rd_assign rfl) rfl rfl rfl ?_
    refine WL_rd (Rd_assign rfl) rfl rfl rfl ?_
    refine WL_end hK5 ?_
    refine WC_ret ?_
    exact hret.go () (Rs2 rfl rfl rfl)

theorem dNext_no {y made cap : Nat} {a : Option Nat} {tick : Int}  : Ct Try.prog 71 [.pointer (some ⟨y, 0, none⟩)] [cl y 90 [.int .i64 tick, .int .i64 ((made : Nat) : Int), sl a ([] : List (Nat × DW)).length cap], arr a cap 3 81 eDR ([] : List (Nat × DW))] (fun _ : Unit => .tuple #[.int .i64 0, .bool false]) (fun _ => [cl y 90 [.int .i64 tick, .int .i64 ((made : Nat) : Int), sl a ([] : List (Nat × DW)).length cap], arr a cap 3 81 eDR ([] : List (Nat × DW))]) := by
  refine Ct_body (n := 17) Try.func71 rfl rfl rfl fun F w0 Q hret hnorm hp => ?_
  change WC _ _ _ _ _ _ _ (_ :: _ :: F)
  refine WC_sr fun K1 hK1 => ?_
  refine WL_rd (Rd_assign rfl) rfl rfl rfl ?_
  refine WL_rd (Rd_assign rfl) rfl rfl rfl ?_
  refine WL_end hK1 ?_
  refine WC_sr fun K2 hK2 => ?_
  refine WL_rd (Rd_move rfl) rfl rfl rfl ?_
  refine WL_ac (Ac_call cf88 rfl (hs := dFirst_ct (y := y) (L := ([] : List (Nat × DW))) (hlen := by simp))) rfl rfl rfl ?_
  rintro _ _ ⟨⟨⟩, rfl, hA⟩
  simp only [List.cons_append, List.nil_append] at hA
  replace hA := hA.symm
  subst hA
  refine WL_rd (Rd_assign rfl) rfl rfl rfl ?_
  refine WL_end hK2 ?_
  refine WC_seq fun K3 hK3 => ?_
  refine WC_sr fun K4 hK4 => ?_
  refine WL_rd (Rd_move rfl) rfl rfl rfl ?_
  refine WL_rd (Rd_lss rfl rfl) rfl rfl rfl ?_
  refine WL_end hK4 ?_
  refine WC_cond rfl (fun hc0 => ?_) (fun hc0 => ?_)
  · try simp only [decide_eq_true_eq, decide_eq_false_iff_not, Bool.not_eq_true', Bool.not_eq_false', Bool.not_eq_true, Bool.not_eq_false, Int.not_lt, Int.not_le, Nat.not_lt, Nat.not_le, Decidable.not_not, ne_eq] at hc0
    refine WC_sr fun K5 hK5 => ?_
    refine WL_rd (Rd_assign rfl) rfl rfl rfl ?_
    refine WL_rd (Rd_assign rfl) rfl rfl rfl ?_
    refine WL_end hK5 ?_
    refine WC_ret ?_
    exact hret.go () (Rs2 rfl rfl rfl)
  · try simp only [decide_eq_true_eq, decide_eq_false_iff_not, Bool.not_eq_true', Bool.not_eq_false', Bool.not_eq_true, Bool.not_eq_false, Int.not_lt, Int.not_le, Nat.not_lt, Nat.not_le, Decidable.not_not, ne_eq] at hc0
    exact absurd hc0 (by show ¬ (0 : Int) ≤ -1; decide)

theorem dTake_yes {y made cap : Nat} {a : Option Nat} {tick : Int} {L : List (Nat × DW)} (hlen : L.length ≤ 100000000 := by omega) (hpos : 0 < L.length) : Ct Try.prog 66 [.pointer (some ⟨y, 0, none⟩)] [cl y 90 [.int .i64 tick, .int .i64 ((made : Nat) : Int), sl a L.length cap], arr a cap 3 81 eDR L] (fun g : Option Nat × Nat => .tuple #[.agg (eDR (lsX L)).toArray, .bool true]) (fun g => [cl y 90 [.int .i64 (lsX L).2.1, .int .i64 ((made : Nat) : Int), sl g.1 (lsL dlt L).length g.2], arr g.1 g.2 3 81 eDR (lsL dlt L)]) := by
  refine Ct_body (n := 20) Try.func66 rfl rfl rfl fun F w0 Q hret hnorm hp => ?_
  change WC _ _ _ _ _ _ _ (_ :: _ :: F)
  have hti := leP_pos hpos
  have hx := lsX_at hpos
  rw [show lsL dlt L = L.eraseIdx (leastP dlt L L.length).toNat from rfl] at hret
  refine WC_sr fun K1 hK1 => ?_
  refine WL_ac (Ac_alloc zr81) rfl rfl rfl ?_
  rintro _ _ ⟨b2, rfl, rfl⟩
  refine WL_rd (Rd_assign rfl) rfl rfl rfl ?_
  refine WL_end hK1 ?_
  refine WC_sr fun K2 hK2 => ?_
  refine WL_rd (Rd_move rfl) rfl rfl rfl ?_
  refine WL_ac (Ac_call cf88 rfl (hs := dFirst_ct (y := y) (L := L))) rfl rfl rfl ?_
  rintro _ _ ⟨⟨⟩, rfl, hA⟩
  simp only [List.cons_append, List.nil_append] at hA
  replace hA := hA.symm
  subst hA
  refine WL_rd (Rd_assign rfl) rfl rfl rfl ?_
  refine WL_end hK2 ?_
  refine WC_seq fun K3 hK3 => ?_
  refine WC_sr fun K4 hK4 => ?_
  refine WL_rd (Rd_move rfl) rfl rfl rfl ?_
  refine WL_rd (Rd_lss rfl rfl) rfl rfl rfl ?_
  refine WL_end hK4 ?_
  refine WC_cond rfl (fun hc0 => ?_) (fun hc0 => ?_)
  · try simp only [decide_eq_true_eq, decide_eq_false_iff_not, Bool.not_eq_true', Bool.not_eq_false', Bool.not_eq_true, Bool.not_eq_false, Int.not_lt, Int.not_le, Nat.not_lt, Nat.not_le, Decidable.not_not, ne_eq] at hc0
    omega
  · try simp only [decide_eq_true_eq, decide_eq_false_iff_not, Bool.not_eq_true', Bool.not_eq_false', Bool.not_eq_true, Bool.not_eq_false, Int.not_lt, Int.not_le, Nat.not_lt, Nat.not_le, Decidable.not_not, ne_eq] at hc0
    refine WC_skip ?_
    refine Ps_next hK3 ?_
    refine WC_sr fun K5 hK5 => ?_
    refine WL_rd (Rd_move rfl) rfl rfl rfl ?_
    refine WL_rd (Rd_move rfl) rfl rfl rfl ?_
    rw [hti]
    refine WL_ac (Ac_call cf89 rfl (hs := dOut_ct (y := y) (L := L) (i := (leastP dlt L L.length).toNat) (x := lsX L) (hx := hx))) rfl rfl rfl ?_
    rintro _ _ ⟨⟨a13, cap13⟩, rfl, hA⟩
    simp only [List.cons_append, List.nil_append] at hA
    replace hA := hA.symm
    subst hA
    refine WL_ac (Ac_alloc zr81) rfl rfl rfl ?_
    rintro _ _ ⟨b5, rfl, rfl⟩
    refine WL_ac0 (Ac_store (ys := eDR (lsX L)) rfl rfl sz81 (h1 := encDR.one _) (hr := rfl)) rfl rfl ?_
    rintro _ _ rfl
    refine WL_end hK5 ?_
    refine WC_sr fun K6 hK6 => ?_
    refine WL_rd (Rd_move rfl) rfl rfl rfl ?_
    refine WL_rd (Rd_fieldAddr rfl fo81_1) rfl rfl rfl ?_
    refine WL_rd (Rd_load rfl tk3 (v := .int .i64 (lsX L).2.1)) rfl rfl rfl ?_
    refine WL_rd (Rd_nilCheck rfl) rfl rfl rfl ?_
    refine WL_rd (Rd_fieldAddr rfl fo90_0) rfl rfl rfl ?_
    refine WL_ac0 (Ac_store1 rfl rfl sz3) rfl rfl ?_
    rintro _ _ rfl
    refine WL_end hK6 ?_
    refine WC_sr fun K7 hK7 => ?_
    refine WL_rd (Rd_loadg (vs := eDR (lsX L)) rfl tk81 (hi := rfl)) rfl rfl rfl ?_
    refine WL_ac0 (Ac_store (ys := eDR (lsX L)) rfl rfl sz81 (h1 := encDR.one _) (hr := rfl)) rfl rfl ?_
    rintro _ _ rfl
    refine WL_rd (Rd_assign rfl) rfl rfl rfl ?_
    refine WL_end hK7 ?_
    refine WC_ret ?_
    exact hret.go (a13, cap13) (Rs2ct rfl rfl rfl tk81)

theorem dTake_no {y made cap : Nat} {a : Option Nat} {tick : Int}  : Ct Try.prog 66 [.pointer (some ⟨y, 0, none⟩)] [cl y 90 [.int .i64 tick, .int .i64 ((made : Nat) : Int), sl a ([] : List (Nat × DW)).length cap], arr a cap 3 81 eDR ([] : List (Nat × DW))] (fun _ : Unit => .tuple #[.agg (eDR zDW).toArray, .bool false]) (fun _ => [cl y 90 [.int .i64 tick, .int .i64 ((made : Nat) : Int), sl a ([] : List (Nat × DW)).length cap], arr a cap 3 81 eDR ([] : List (Nat × DW))]) := by
  refine Ct_body (n := 20) Try.func66 rfl rfl rfl fun F w0 Q hret hnorm hp => ?_
  change WC _ _ _ _ _ _ _ (_ :: _ :: F)
  refine WC_sr fun K1 hK1 => ?_
  refine WL_ac (Ac_alloc zr81) rfl rfl rfl ?_
  rintro _ _ ⟨b2, rfl, rfl⟩
  refine WL_rd (Rd_assign rfl) rfl rfl rfl ?_
  refine WL_end hK1 ?_
  refine WC_sr fun K2 hK2 => ?_
  refine WL_rd (Rd_move rfl) rfl rfl rfl ?_
  refine WL_ac (Ac_call cf88 rfl (hs := dFirst_ct (y := y) (L := ([] : List (Nat × DW))) (hlen := by simp))) rfl rfl rfl ?_
  rintro _ _ ⟨⟨⟩, rfl, hA⟩
  simp only [List.cons_append, List.nil_append] at hA
  replace hA := hA.symm
  subst hA
  refine WL_rd (Rd_assign rfl) rfl rfl rfl ?_
  refine WL_end hK2 ?_
  refine WC_seq fun K3 hK3 => ?_
  refine WC_sr fun K4 hK4 => ?_
  refine WL_rd (Rd_move rfl) rfl rfl rfl ?_
  refine WL_rd (Rd_lss rfl rfl) rfl rfl rfl ?_
  refine WL_end hK4 ?_
  refine WC_cond rfl (fun hc0 => ?_) (fun hc0 => ?_)
  · try simp only [decide_eq_true_eq, decide_eq_false_iff_not, Bool.not_eq_true', Bool.not_eq_false', Bool.not_eq_true, Bool.not_eq_false, Int.not_lt, Int.not_le, Nat.not_lt, Nat.not_le, Decidable.not_not, ne_eq] at hc0
    refine WC_sr fun K5 hK5 => ?_
    refine WL_rd (Rd_build pls81 rfl) rfl rfl rfl ?_
    refine WL_ac0 (Ac_store (ys := eDR zDW) rfl rfl sz81 (h1 := encDR.one zDW) (hr := rfl)) rfl rfl ?_
    rintro _ _ rfl
    refine WL_rd (Rd_assign rfl) rfl rfl rfl ?_
    refine WL_end hK5 ?_
    refine WC_ret ?_
    exact hret.go () (Rs2ct rfl rfl rfl tk81)
  · try simp only [decide_eq_true_eq, decide_eq_false_iff_not, Bool.not_eq_true', Bool.not_eq_false', Bool.not_eq_true, Bool.not_eq_false, Int.not_lt, Int.not_le, Nat.not_lt, Nat.not_le, Decidable.not_not, ne_eq] at hc0
    exact absurd hc0 (by show ¬ (0 : Int) ≤ -1; decide)

def nxD (L : List (Nat × DW)) : Int := match L with
  | [] => 0
  | _ :: _ => (lsX L).2.1
theorem dNext_ct {y made cap : Nat} {a : Option Nat} {tick : Int} {L : List (Nat × DW)} (hlen : L.length ≤ 100000000 := by omega) : Ct Try.prog 71 [.pointer (some ⟨y, 0, none⟩)] [cl y 90 [.int .i64 tick, .int .i64 ((made : Nat) : Int), sl a L.length cap], arr a cap 3 81 eDR L] (fun _ : Unit => .tuple #[.int .i64 ((nxD L)), .bool (decide (L ≠ []))]) (fun _ => [cl y 90 [.int .i64 tick, .int .i64 ((made : Nat) : Int), sl a L.length cap], arr a cap 3 81 eDR L]) := by
  cases L with
  | nil => exact dNext_no
  | cons x r => exact dNext_yes (hlen := hlen) (hpos := by simp)
theorem dTake_ct {y made cap : Nat} {a : Option Nat} {tick : Int} {L : List (Nat × DW)} (hlen : L.length ≤ 100000000 := by omega) : Ct Try.prog 66 [.pointer (some ⟨y, 0, none⟩)] [cl y 90 [.int .i64 tick, .int .i64 ((made : Nat) : Int), sl a L.length cap], arr a cap 3 81 eDR L] (fun _ : Option Nat × Nat => .tuple #[.agg (eDR (lsX L)).toArray, .bool (decide (L ≠ []))]) (fun g => [cl y 90 [.int .i64 (tkD tick L), .int .i64 ((made : Nat) : Int), sl g.1 (lsL dlt L).length g.2], arr g.1 g.2 3 81 eDR (lsL dlt L)]) := by
  cases L with
  | nil => exact Ct_way fun F w hs => ⟨Unit, _, _, _, dTake_no (y := y) (made := made) (cap := cap) (a := a) (tick := tick), hs, fun r w' hw => ⟨(a, cap), rfl, hw⟩⟩
  | cons x r => exact dTake_yes (hlen := hlen) (hpos := by simp)
def lsS (now : Int) (L : List (Nat × DW)) (made : Nat) (t : Int) (v : BitVec 32) : List (Nat × DW) := if laterM now t = 0 then L ++ [(made, (t, v))] else L
theorem dSet_ct {y made cap : Nat} {a : Option Nat} {tick : Int} {L : List (Nat × DW)} {t : Int} {v : BitVec 32} (hmd : made ≤ 100000000 := by omega) (hlen : L.length ≤ 100000000 := by omega) : Ct Try.prog 31 [.pointer (some ⟨y, 0, none⟩), .int .i64 t, .int .u32 ((v.toNat : Nat) : Int)] [cl y 90 [.int .i64 tick, .int .i64 ((made : Nat) : Int), sl a L.length cap], arr a cap 3 81 eDR L] (fun _ : Option Nat × Nat => .tuple #[.int .i64 (((kS_setV tick made t) : Nat) : Int), .int .i64 (laterM tick t)]) (fun g => [cl y 90 [.int .i64 tick, .int .i64 (((kS_setN tick made t) : Nat) : Int), sl g.1 (lsS tick L made t v).length g.2], arr g.1 g.2 3 81 eDR (lsS tick L made t v)]) := by
  unfold lsS kS_setN kS_setV
  by_cases h : laterM tick t = 0
  · simp only [if_pos h]; rw [h]; exact dSet_ok (h0 := h) (hmd := hmd) (hlen := hlen)
  · simp only [if_neg h]; exact Ct_way fun F w hs => ⟨Unit, _, _, _, dSet_no (y := y) (made := made) (cap := cap) (a := a) (tick := tick) (L := L) (t := t) (v := v) (h0 := h), hs, fun r w' hw => ⟨(a, cap), rfl, hw⟩⟩

theorem dUntil_ok {y made cap : Nat} {a : Option Nat} {tick : Int} {L : List (Nat × DW)} {t : Int} (h0 : laterM tick t = 0) (hlen : L.length ≤ 100000000 := by omega) : Ct Try.prog 72 [.pointer (some ⟨y, 0, none⟩), .int .i64 t] [cl y 90 [.int .i64 tick, .int .i64 ((made : Nat) : Int), sl a L.length cap], arr a cap 3 81 eDR L] (fun g : (Option Nat × Nat) × (Option Nat × Nat) => .tuple #[sl g.2.1 (duM t L.length L).1.length g.2.2, .int .i64 0]) (fun g => [cl y 90 [.int .i64 t, .int .i64 ((made : Nat) : Int), sl g.1.1 (duM t L.length L).2.length g.1.2], arr g.1.1 g.1.2 3 81 eDR (duM t L.length L).2, arr g.2.1 g.2.2 3 81 eDR (duM t L.length L).1]) := by
  refine Ct_body (n := 44) Try.func72 rfl rfl rfl fun F w0 Q hret hnorm hp => ?_
  change WC _ _ _ _ _ _ _ (_ :: _ :: F)
  have hl := laterM_ok.1 h0
  refine WC_sr fun K1 hK1 => ?_
  refine WL_rd (Rd_assign (v := sl none 0 0) rfl) rfl rfl rfl ?_
  refine WL_rd (Rd_assign rfl) rfl rfl rfl ?_
  refine WL_end hK1 ?_
  refine WC_seq fun K2 hK2 => ?_
  refine WC_sr fun K3 hK3 => ?_
  refine WL_rd (Rd_move rfl) rfl rfl rfl ?_
  refine WL_ac (Ac_call cf65 rfl (hs := may_ct (t := t))) rfl rfl rfl ?_
  rintro _ _ ⟨⟨⟩, rfl, hA⟩
  simp only [List.cons_append, List.nil_append] at hA
  replace hA := hA.symm
  subst hA
  rw [show mayB t = true from mayB_t.2 ⟨hl.1, hl.2.1⟩]
  refine WL_rd (Rd_not rfl) rfl rfl rfl ?_
  refine WL_end hK3 ?_
  refine WC_condF rfl ?_
  refine WC_skip ?_
  refine Ps_next hK2 ?_
  refine WC_seq fun K4 hK4 => ?_
  refine WC_sr fun K5 hK5 => ?_
  refine WL_rd (Rd_move rfl) rfl rfl rfl ?_
  refine WL_rd (Rd_move rfl) rfl rfl rfl ?_
  refine WL_rd (Rd_nilCheck rfl) rfl rfl rfl ?_
  refine WL_rd (Rd_fieldAddr rfl fo90_0) rfl rfl rfl ?_
  refine WL_rd (Rd_load rfl tk3) rfl rfl rfl ?_
  refine WL_rd (Rd_lss rfl rfl) rfl rfl rfl ?_
  refine WL_end hK5 ?_
  refine WC_cond rfl (fun hc1 => ?_) (fun hc1 => ?_)
  · try simp only [decide_eq_true_eq, decide_eq_false_iff_not, Bool.not_eq_true', Bool.not_eq_false', Bool.not_eq_true, Bool.not_eq_false, Int.not_lt, Int.not_le, Nat.not_lt, Nat.not_le, Decidable.not_not, ne_eq] at hc1
    omega
  · try simp only [decide_eq_true_eq, decide_eq_false_iff_not, Bool.not_eq_true', Bool.not_eq_false', Bool.not_eq_true, Bool.not_eq_false, Int.not_lt, Int.not_le, Nat.not_lt, Nat.not_le, Decidable.not_not, ne_eq] at hc1
    refine WC_skip ?_
    refine Ps_next hK4 ?_
    refine WC_sr fun K6 hK6 => ?_
    refine WL_rd (Rd_assign (v := sl none 0 0) rfl) rfl rfl rfl ?_
    refine WL_nilarr eDR 3 81 ?_
    refine WL_end hK6 ?_
    refine WC_block ?_
    refine WC_loopK (σ := (List (Nat × DW)) × Nat × (List (Nat × DW)) × (Option Nat) × Nat × (Option Nat) × Nat) (fun ⟨L', n', out, a', c', oa, oc⟩ => [(6, sl oa out.length oc)]) (fun ⟨L', n', out, a', c', oa, oc⟩ => [cl y 90 [.int .i64 tick, .int .i64 ((made : Nat) : Int), sl a' L'.length c'], arr a' c' 3 81 eDR L', arr oa oc 3 81 eDR out]) (fun ⟨L', n', out, a', c', oa, oc⟩ => L'.length ≤ n' ∧ L'.length ≤ L.length ∧ out.length + L'.length ≤ L.length ∧ out ++ (duM t n' L').1 = (duM t L.length L).1 ∧ (duM t n' L').2 = (duM t L.length L).2) (fun ⟨L', n', out, a', c', oa, oc⟩ => L'.length) ⟨L, L.length, [], a, cap, none, 0⟩ [0, 1] (by repeat (first | exact Kep.nil | apply Kep.drop rfl | apply Kep.keep rfl)) (by (try dsimp only); repeat (first | with_reducible exact Gv.nil | (with_reducible apply Gv.cons; · (repeat (first | with_reducible exact Ext.here | with_reducible apply Ext.there))))) ?_ ?_ Sub.refl ?_
    · exact ⟨Nat.le_refl _, Nat.le_refl _, by simp, rfl, rfl⟩
    · (try dsimp only); exact (Wk.cons (by first | rfl | (simp only [List.length_append, List.length_cons, List.length_nil, List.length_replicate, Nat.zero_add]; rfl) | (simp; done)) Wk.nil)
    · rintro ⟨L', n', out, a', c', oa, oc⟩ ⟨hn, hll, hol, ho, hr⟩ K7 hK7
      simp only [List.cons_append, List.nil_append]
      refine WC_block ?_
      refine WC_sr fun K8 hK8 => ?_
      refine WL_rd (Rd_move rfl) rfl rfl rfl ?_
      refine WL_ac (Ac_call cf88 rfl (hs := dFirst_ct (y := y) (L := L'))) rfl rfl rfl ?_
      rintro _ _ ⟨⟨⟩, rfl, hA⟩
      simp only [List.cons_append, List.nil_append] at hA
      replace hA := hA.symm
      subst hA
      refine WL_rd (Rd_assign rfl) rfl rfl rfl ?_
      refine WL_end hK8 ?_
      refine WC_seq fun K9 hK9 => ?_
      refine WC_sr fun K10 hK10 => ?_
      refine WL_rd (Rd_move rfl) rfl rfl rfl ?_
      refine WL_rd (Rd_lss rfl rfl) rfl rfl rfl ?_
      refine WL_rd (Rd_move rfl) rfl rfl rfl ?_
      refine WL_bool 21 rfl (fun hg11 => ?_) (fun hg11 => ?_)
      · try simp only [decide_eq_true_eq, decide_eq_false_iff_not, Bool.not_eq_true', Bool.not_eq_false', Bool.not_eq_true, Bool.not_eq_false, Int.not_lt, Int.not_le, Nat.not_lt, Nat.not_le, Decidable.not_not, ne_eq] at hg11
        have q0 := hg11
        obtain rfl : L' = [] := leP_0.1 q0
        refine WL_skip rfl rfl rfl ?_
        refine WL_skip rfl rfl rfl ?_
        refine WL_skip rfl rfl rfl ?_
        refine WL_skip rfl rfl rfl ?_
        refine WL_skip rfl rfl rfl ?_
        refine WL_skip rfl rfl rfl ?_
        refine WL_skip rfl rfl rfl ?_
        refine WL_skip rfl rfl rfl ?_
        refine WL_skip rfl rfl rfl ?_
        refine WL_skip rfl rfl rfl ?_
        refine WL_rd (Rd_pickT rfl rfl) rfl rfl rfl ?_
        refine WL_end hK10 ?_
        refine WC_condT rfl ?_
        first | (have hst : duM t n' L' = ([], L') := duM_stop (fun _ => by omega)) | (have hst : duM t n' ([] : List (Nat × DW)) = ([], []) := duM_stop (by simp))
        rw [hst] at ho hr
        simp only [List.append_nil] at ho
        dsimp only at hr
        rw [← ho, ← hr] at hret
        refine WC_sr fun K12 hK12 => ?_
        refine WL_rd (Rd_move rfl) rfl rfl rfl ?_
        refine WL_rd (Rd_move rfl) rfl rfl rfl ?_
        refine WL_rd (Rd_nilCheck rfl) rfl rfl rfl ?_
        refine WL_rd (Rd_fieldAddr rfl fo90_0) rfl rfl rfl ?_
        refine WL_ac0 (Ac_store1 rfl rfl sz3) rfl rfl ?_
        rintro _ _ rfl
        refine WL_end hK12 ?_
        refine WC_sr fun K13 hK13 => ?_
        refine WL_rd (Rd_move rfl) rfl rfl rfl ?_
        refine WL_rd (Rd_assign rfl) rfl rfl rfl ?_
        refine WL_rd (Rd_assign rfl) rfl rfl rfl ?_
        refine WL_end hK13 ?_
        refine WC_ret ?_
        exact hret.go ((a', c'), (oa, oc)) (Rs2 rfl rfl rfl)
      · try simp only [decide_eq_true_eq, decide_eq_false_iff_not, Bool.not_eq_true', Bool.not_eq_false', Bool.not_eq_true, Bool.not_eq_false, Int.not_lt, Int.not_le, Nat.not_lt, Nat.not_le, Decidable.not_not, ne_eq] at hg11
        have q0 := hg11
        have hp' : 0 < L'.length := Nat.pos_of_ne_zero fun e => absurd (leP_0.2 (List.eq_nil_of_length_eq_zero e)) (by omega)
        have hti := leP_pos hp'
        have hx := lsX_at hp'
        have hil := (List.getElem?_eq_some_iff.1 hx).1
        refine WL_some (a := a') (by repeat (first | with_reducible exact Has.here | with_reducible refine Has.there ?_)) (by omega) (fun gb hgb hcp => ?_)
        subst hgb
        refine WL_rd (Rd_move rfl) rfl rfl rfl ?_
        refine WL_rd (Rd_nilCheck rfl) rfl rfl rfl ?_
        refine WL_rd (Rd_fieldAddr rfl fo90_2) rfl rfl rfl ?_
        refine WL_rd (Rd_load rfl tk75) rfl rfl rfl ?_
        refine WL_rd (Rd_move rfl) rfl rfl rfl ?_
        refine WL_rd (Rd_index (leastP dlt L' L'.length).toNat rfl rfl ud75 sz81 (hi := by omega) (hj := hti)) rfl rfl rfl ?_
        refine WL_rd (Rd_fieldAddr rfl fo81_1) rfl rfl rfl ?_
        refine WL_rd (Rd_load_arr (f := eDR) (i := (leastP dlt L' L'.length).toNat) (j := 1) rfl tk3 (hl := hx)) rfl rfl rfl ?_
        refine WL_rd (Rd_move rfl) rfl rfl rfl ?_
        refine WL_rd (Rd_gtr rfl rfl) rfl rfl rfl ?_
        refine WL_rd (Rd_pickF rfl rfl) rfl rfl rfl ?_
        refine WL_end hK10 ?_
        refine WC_cond rfl (fun hc2 => ?_) (fun hc2 => ?_)
        · try simp only [decide_eq_true_eq, decide_eq_false_iff_not, Bool.not_eq_true', Bool.not_eq_false', Bool.not_eq_true, Bool.not_eq_false, Int.not_lt, Int.not_le, Nat.not_lt, Nat.not_le, Decidable.not_not, ne_eq] at hc2
          first | (have hst : duM t n' L' = ([], L') := duM_stop (fun _ => by omega)) | (have hst : duM t n' ([] : List (Nat × DW)) = ([], []) := duM_stop (by simp))
          rw [hst] at ho hr
          simp only [List.append_nil] at ho
          dsimp only at hr
          rw [← ho, ← hr] at hret
          refine WC_sr fun K14 hK14 => ?_
          refine WL_rd (Rd_move rfl) rfl rfl rfl ?_
          refine WL_rd (Rd_move rfl) rfl rfl rfl ?_
          refine WL_rd (Rd_nilCheck rfl) rfl rfl rfl ?_
          refine WL_rd (Rd_fieldAddr rfl fo90_0) rfl rfl rfl ?_
          refine WL_ac0 (Ac_store1 rfl rfl sz3) rfl rfl ?_
          rintro _ _ rfl
          refine WL_end hK14 ?_
          refine WC_sr fun K15 hK15 => ?_
          refine WL_rd (Rd_move rfl) rfl rfl rfl ?_
          refine WL_rd (Rd_assign rfl) rfl rfl rfl ?_
          refine WL_rd (Rd_assign rfl) rfl rfl rfl ?_
          refine WL_end hK15 ?_
          refine WC_ret ?_
          exact hret.go ((some gb, c'), (oa, oc)) (Rs2 rfl rfl rfl)
        · try simp only [decide_eq_true_eq, decide_eq_false_iff_not, Bool.not_eq_true', Bool.not_eq_false', Bool.not_eq_true, Bool.not_eq_false, Int.not_lt, Int.not_le, Nat.not_lt, Nat.not_le, Decidable.not_not, ne_eq] at hc2
          obtain ⟨m', rfl⟩ : ∃ m', n' = m' + 1 := ⟨n' - 1, by omega⟩
          have hgo := duM_go (n := m') hp' (by omega : (lsX L').2.1 ≤ t)
          refine WC_skip ?_
          refine Ps_next hK9 ?_
          refine WC_region ?_
          refine WL_rd (Rd_move rfl) rfl rfl rfl ?_
          refine WL_rd (Rd_move rfl) rfl rfl rfl ?_
          refine WL_rd (Rd_move rfl) rfl rfl rfl ?_
          rw [hti]
          refine WL_ac (Ac_call cf89 rfl (hs := dOut_ct (y := y) (L := L') (i := (leastP dlt L' L'.length).toNat) (x := lsX L') (hx := hx))) rfl rfl rfl ?_
          rintro _ _ ⟨⟨a41, cap41⟩, rfl, hA⟩
          simp only [List.cons_append, List.nil_append] at hA
          replace hA := hA.symm
          subst hA
          refine WL_ac (Ac_bs1 (xs := eDR (lsX L')) rfl ud75 zr81 sz81) rfl rfl rfl ?_
          rintro _ _ ⟨b42, rfl, rfl⟩
          refine WL_ac (Ac_append1 (f := eDR) encDR (lsX L') rfl rfl ud75 ud75 el81) rfl rfl rfl ?_
          rintro _ _ ⟨a43, cap43, rfl, rfl⟩
          rw [show out.length + 1 = (out ++ [lsX L']).length from by simp, show L'.eraseIdx (leastP dlt L' L'.length).toNat = lsL dlt L' from rfl]
          refine WL_rd (Rd_assign rfl) rfl rfl rfl ?_
          refine WL_nil ?_
          refine Ps_wk (by (try simp only [List.cons_append, List.nil_append]); repeat (first | with_reducible exact Wk.nil | refine Wk.cons (by first | rfl | (simp only [List.length_append, List.length_cons, List.length_nil, List.length_replicate, Nat.zero_add]; rfl) | (simp; done)) ?_)) (by (try simp only [List.cons_append, List.nil_append]); repeat (first | with_reducible exact Sub.refl | with_reducible exact Sub.nil | with_reducible refine Sub.cons (by repeat (first | with_reducible exact Ext.here | with_reducible apply Ext.there)) ?_ | with_reducible refine Sub.tail ?_)) (hK7 ⟨lsL dlt L', m', out ++ [lsX L'], a41, cap41, a43, cap43⟩ (⟨by (try dsimp only); rw [lsL_len]; omega, by (try dsimp only); rw [lsL_len]; omega, by (try dsimp only); rw [lsL_len, List.length_append, List.length_singleton]; omega, by (try dsimp only); rw [← ho, hgo]; simp, by (try dsimp only); rw [← hr, hgo]⟩) (by (try dsimp only); rw [lsL_len]; omega))
end Go.Proofs.Ytcemkpiopijbmaa
