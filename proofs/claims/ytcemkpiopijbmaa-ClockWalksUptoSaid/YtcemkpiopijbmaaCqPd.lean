/-
  Contracts of functions that the claim reaches, or the logic and the plain laws that they rest on, or the row over them. (Conditions: none beyond the statement.)
-/
import Derived.Test.YtcemkpiopijbmaaCqPc
set_option linter.all false
namespace Go.Proofs.Ytcemkpiopijbmaa
open Go.RowKit Go.SL Go.HpM Go.ShM 
set_option maxHeartbeats 1000000
set_option maxRecDepth 20000
set_option linter.all false
theorem cf65 : cfn Try.prog 65 = true := by kernel_rfl
theorem el81 : el Try.prog 81 = some (3, 24) := by kernel_rfl
theorem fo90_0 : fo Try.prog 90 0 = some (0, 3) := by kernel_rfl
theorem fo90_1 : fo Try.prog 90 1 = some (1, 3) := by kernel_rfl
theorem fo90_2 : fo Try.prog 90 2 = some (2, 75) := by kernel_rfl
theorem pls81 : pls Try.prog 81 = some ([.int .i64 0, .int .i64 0, .int .u32 0], [(0, 1), (1, 1), (2, 1)]) := by kernel_rfl
theorem pls90 : pls Try.prog 90 = some ([.int .i64 0, .int .i64 0, .slice none 0 0], [(0, 1), (1, 1), (2, 1)]) := by kernel_rfl
theorem sz75 : sz Try.prog 75 = some 1 := by kernel_rfl
theorem sz81 : sz Try.prog 81 = some 3 := by kernel_rfl
theorem tk75 : tk Try.prog 75 = some none := by kernel_rfl
theorem tk81 : tk Try.prog 81 = some (some 3) := by kernel_rfl
theorem ud75 : Try.prog.underlying 75 = some (.slice 81) := by kernel_rfl
theorem zr81 : zr Try.prog 81 = some [.int .i64 0, .int .i64 0, .int .u32 0] := by kernel_rfl
theorem may_ct {t : Int}  : Ct Try.prog 65 [.int .i64 t] [] (fun _ : Unit => .bool (mayB t)) (fun _ => []) := by
  refine Ct_body (n := 9) Try.func65 rfl rfl rfl fun F w0 Q hret hnorm hp => ?_
  change WC _ _ _ _ _ _ _ (F)
  refine WC_sr fun K1 hK1 => ?_
  refine WL_rd (Rd_assign rfl) rfl rfl rfl ?_
  refine WL_end hK1 ?_
  refine WC_sr fun K2 hK2 => ?_
  refine WL_rd (Rd_move rfl) rfl rfl rfl ?_
  refine WL_rd (Rd_geq rfl rfl) rfl rfl rfl ?_
  refine WL_rd (Rd_move rfl) rfl rfl rfl ?_
  refine WL_bool 5 rfl (fun hg3 => ?_) (fun hg3 => ?_)
  · try simp only [decide_eq_true_eq, decide_eq_false_iff_not, Bool.not_eq_true', Bool.not_eq_false', Bool.not_eq_true, Bool.not_eq_false, Int.not_lt, Int.not_le, Nat.not_lt, Nat.not_le, Decidable.not_not, ne_eq] at hg3
    have q0 := hg3
    refine WL_rd (Rd_move rfl) rfl rfl rfl ?_
    refine WL_rd (Rd_leq rfl rfl) rfl rfl rfl ?_
    refine WL_rd (Rd_pickT rfl rfl) rfl rfl rfl ?_
    refine WL_rd (Rd_assign rfl) rfl rfl rfl ?_
    refine WL_end hK2 ?_
    refine WC_ret ?_
    first | exact hret.goE () (Rs1 rfl rfl) (by unfold mayB; rw [decide_eq_true q0, Bool.true_and]) | exact hret.goE () (Rs1 rfl rfl) (by unfold mayB; rw [decide_eq_false (by omega), Bool.false_and])
  · try simp only [decide_eq_true_eq, decide_eq_false_iff_not, Bool.not_eq_true', Bool.not_eq_false', Bool.not_eq_true, Bool.not_eq_false, Int.not_lt, Int.not_le, Nat.not_lt, Nat.not_le, Decidable.not_not, ne_eq] at hg3
    have q0 := hg3
    refine WL_skip rfl rfl rfl ?_
    refine WL_skip rfl rfl rfl ?_
    refine WL_rd (Rd_pickF rfl rfl) rfl rfl rfl ?_
    refine WL_rd (Rd_assign rfl) rfl rfl rfl ?_
    refine WL_end hK2 ?_
    refine WC_ret ?_
    first | exact hret.goE () (Rs1 rfl rfl) (by unfold mayB; rw [decide_eq_true q0, Bool.true_and]) | exact hret.goE () (Rs1 rfl rfl) (by unfold mayB; rw [decide_eq_false (by omega), Bool.false_and])

theorem dNew_ct {t : Int} (h0 : 0 ≤ t) (h1 : t ≤ 1099511627776) : Ct Try.prog 29 [.int .i64 t] [] (fun g : Nat => .tuple #[.pointer (some ⟨g, 0, none⟩), .int .i64 0]) (fun g => [cl g 90 [.int .i64 t, .int .i64 ((0 : Nat) : Int), sl none ([] : List (Nat × DW)).length 0], arr none 0 3 81 eDR ([] : List (Nat × DW))]) := by
  refine Ct_body (n := 10) Try.func29 rfl rfl rfl fun F w0 Q hret hnorm hp => ?_
  change WC _ _ _ _ _ _ _ (F)
  refine WC_sr fun K1 hK1 => ?_
  refine WL_rd (Rd_assign rfl) rfl rfl rfl ?_
  refine WL_rd (Rd_assign rfl) rfl rfl rfl ?_
  refine WL_end hK1 ?_
  refine WC_seq fun K2 hK2 => ?_
  refine WC_sr fun K3 hK3 => ?_
  refine WL_rd (Rd_move rfl) rfl rfl rfl ?_
  refine WL_ac (Ac_call cf65 rfl (hs := may_ct (t := t))) rfl rfl rfl ?_
  rintro _ _ ⟨⟨⟩, rfl, hA⟩
  simp only [List.cons_append, List.nil_append] at hA
  replace hA := hA.symm
  subst hA
  rw [show mayB t = true from mayB_t.2 ⟨h0, h1⟩]
  refine WL_rd (Rd_not rfl) rfl rfl rfl ?_
  refine WL_end hK3 ?_
  refine WC_condF rfl ?_
  refine WC_skip ?_
  refine Ps_next hK2 ?_
  refine WC_sr fun K4 hK4 => ?_
  refine WL_rd (Rd_move rfl) rfl rfl rfl ?_
  refine WL_rd (Rd_build pls90 rfl) rfl rfl rfl ?_
  refine WL_ac (Ac_box (xs := [.int .i64 t, .int .i64 0, .slice none 0 0]) rfl rfl) rfl rfl rfl ?_
  rintro _ _ ⟨b9, rfl, rfl⟩
  refine WL_imp (fun w h => sat_nil (e := 3) (T := 81) (f := eDR) h) ?_
  rw [show cl b9 90 [.int .i64 t, .int .i64 0, .slice none 0 0] = cl b9 90 [.int .i64 t, .int .i64 ((0 : Nat) : Int), sl none ([] : List (Nat × DW)).length 0] from rfl]
  refine WL_rd (Rd_assign rfl) rfl rfl rfl ?_
  refine WL_rd (Rd_assign rfl) rfl rfl rfl ?_
  refine WL_end hK4 ?_
  refine WC_ret ?_
  exact hret.go b9 (Rs2 rfl rfl rfl)

theorem dNew_no {t : Int} (h0 : t < 0 ∨ 1099511627776 < t) : Ct Try.prog 29 [.int .i64 t] [] (fun _ : Unit => .tuple #[.pointer none, .int .i64 2]) (fun _ => []) := by
  refine Ct_body (n := 10) Try.func29 rfl rfl rfl fun F w0 Q hret hnorm hp => ?_
  change WC _ _ _ _ _ _ _ (F)
  refine WC_sr fun K1 hK1 => ?_
  refine WL_rd (Rd_assign rfl) rfl rfl rfl ?_
  refine WL_rd (Rd_assign rfl) rfl rfl rfl ?_
  refine WL_end hK1 ?_
  refine WC_seq fun K2 hK2 => ?_
  refine WC_sr fun K3 hK3 => ?_
  refine WL_rd (Rd_move rfl) rfl rfl rfl ?_
  refine WL_ac (Ac_call cf65 rfl (hs := may_ct (t := t))) rfl rfl rfl ?_
  rintro _ _ ⟨⟨⟩, rfl, hA⟩
  simp only [List.cons_append, List.nil_append] at hA
  replace hA := hA.symm
  subst hA
  rw [show mayB t = false from mayB_f.2 h0]
  refine WL_rd (Rd_not rfl) rfl rfl rfl ?_
  refine WL_end hK3 ?_
  refine WC_condT rfl ?_
  refine WC_sr fun K4 hK4 => ?_
  refine WL_rd (Rd_assign rfl) rfl rfl rfl ?_
  refine WL_rd (Rd_assign rfl) rfl rfl rfl ?_
  refine WL_end hK4 ?_
  refine WC_ret ?_
  exact hret.go () (Rs2 rfl rfl rfl)

theorem dSet_ok {y made cap : Nat} {a : Option Nat} {tick : Int} {L : List (Nat × DW)} {t : Int} {v : BitVec 32} (h0 : laterM tick t = 0) (hmd : made ≤ 100000000 := by omega) (hlen : L.length ≤ 100000000 := by omega) : Ct Try.prog 31 [.pointer (some ⟨y, 0, none⟩), .int .i64 t, .int .u32 ((v.toNat : Nat) : Int)] [cl y 90 [.int .i64 tick, .int .i64 ((made : Nat) : Int), sl a L.length cap], arr a cap 3 81 eDR L] (fun g : Option Nat × Nat => .tuple #[.int .i64 ((made : Nat) : Int), .int .i64 0]) (fun g => [cl y 90 [.int .i64 tick, .int .i64 (((made + 1) : Nat) : Int), sl g.1 (L ++ [(made, (t, v))]).length g.2], arr g.1 g.2 3 81 eDR (L ++ [(made, (t, v))])]) := by
  refine Ct_body (n := 43) Try.func31 rfl rfl rfl fun F w0 Q hret hnorm hp => ?_
  change WC _ _ _ _ _ _ _ (_ :: _ :: F)
  have hrl : (L ++ [(made, (t, v))]).length = L.length + 1 := by simp
  have hl := laterM_ok.1 h0
  refine WC_sr fun K1 hK1 => ?_
  refine WL_rd (Rd_assign rfl) rfl rfl rfl ?_
  refine WL_rd (Rd_assign rfl) rfl rfl rfl ?_
  refine WL_end hK1 ?_
  refine WC_seq fun K2 hK2 => ?_
  refine WC_sr fun K3 hK3 => ?_
  refine WL_rd (Rd_move rfl) rfl rfl rfl ?_
  refine WL_ac (Ac_call cf65 rfl (hs := may_ct (t := t))) rfl rfl rfl ?_
  rintro _ _ ⟨⟨⟩, rfl, hA⟩
  simp only [List.cons_append, List.nil_append] at hA
  replace hA := hA.symm
  subst hA
  rw [show mayB t = true from mayB_t.2 ⟨hl.1, hl.2.1⟩]
  refine WL_rd (Rd_not rfl) rfl rfl rfl ?_
  refine WL_end hK3 ?_
  refine WC_condF rfl ?_
  refine WC_skip ?_
  refine Ps_next hK2 ?_
  refine WC_seq fun K4 hK4 => ?_
  refine WC_sr fun K5 hK5 => ?_
  refine WL_rd (Rd_move rfl) rfl rfl rfl ?_
  refine WL_rd (Rd_move rfl) rfl rfl rfl ?_
  refine WL_rd (Rd_nilCheck rfl) rfl rfl rfl ?_
  refine WL_rd (Rd_fieldAddr rfl fo90_0) rfl rfl rfl ?_
  refine WL_rd (Rd_load rfl tk3) rfl rfl rfl ?_
  refine WL_rd (Rd_lss rfl rfl) rfl rfl rfl ?_
  refine WL_end hK5 ?_
  refine WC_cond rfl (fun hc1 => ?_) (fun hc1 => ?_)
  · try simp only [decide_eq_true_eq, decide_eq_false_iff_not, Bool.not_eq_true', Bool.not_eq_false', Bool.not_eq_true, Bool.not_eq_false, Int.not_lt, Int.not_le, Nat.not_lt, Nat.not_le, Decidable.not_not, ne_eq] at hc1
    omega
  · try simp only [decide_eq_true_eq, decide_eq_false_iff_not, Bool.not_eq_true', Bool.not_eq_false', Bool.not_eq_true, Bool.not_eq_false, Int.not_lt, Int.not_le, Nat.not_lt, Nat.not_le, Decidable.not_not, ne_eq] at hc1
    refine WC_skip ?_
    refine Ps_next hK4 ?_
    refine WC_sr fun K6 hK6 => ?_
    refine WL_rd (Rd_move rfl) rfl rfl rfl ?_
    refine WL_rd (Rd_nilCheck rfl) rfl rfl rfl ?_
    refine WL_rd (Rd_fieldAddr rfl fo90_1) rfl rfl rfl ?_
    refine WL_rd (Rd_load rfl tk3) rfl rfl rfl ?_
    refine WL_rd (Rd_assign rfl) rfl rfl rfl ?_
    refine WL_end hK6 ?_
    refine WC_sr fun K7 hK7 => ?_
    refine WL_rd (Rd_move rfl) rfl rfl rfl ?_
    refine WL_rd (Rd_nilCheck rfl) rfl rfl rfl ?_
    refine WL_rd (Rd_fieldAddr rfl fo90_1) rfl rfl rfl ?_
    refine WL_rd (Rd_load rfl tk3) rfl rfl rfl ?_
    refine WL_rd (Rd_addN (j := 1) rfl rfl) rfl rfl rfl ?_
    refine WL_rd (Rd_nilCheck rfl) rfl rfl rfl ?_
    refine WL_rd (Rd_fieldAddr rfl fo90_1) rfl rfl rfl ?_
    refine WL_ac0 (Ac_store1 rfl rfl sz3) rfl rfl ?_
    rintro _ _ rfl
    refine WL_end hK7 ?_
    refine WC_sr fun K8 hK8 => ?_
    refine WL_rd (Rd_move rfl) rfl rfl rfl ?_
    refine WL_rd (Rd_move rfl) rfl rfl rfl ?_
    refine WL_rd (Rd_nilCheck rfl) rfl rfl rfl ?_
    refine WL_rd (Rd_fieldAddr rfl fo90_2) rfl rfl rfl ?_
    refine WL_rd (Rd_load rfl tk75) rfl rfl rfl ?_
    refine WL_rd (Rd_move rfl) rfl rfl rfl ?_
    refine WL_rd (Rd_move rfl) rfl rfl rfl ?_
    refine WL_rd (Rd_move rfl) rfl rfl rfl ?_
    refine WL_rd (Rd_build pls81 rfl) rfl rfl rfl ?_
    refine WL_ac (Ac_bs1 (xs := eDR (made, (t, v))) rfl ud75 zr81 sz81) rfl rfl rfl ?_
    rintro _ _ ⟨b38, rfl, rfl⟩
    refine WL_ac (Ac_append1 (f := eDR) encDR (made, (t, v)) rfl rfl ud75 ud75 el81) rfl rfl rfl ?_
    rintro _ _ ⟨a39, cap39, rfl, rfl⟩
    rw [← hrl]
    refine WL_rd (Rd_nilCheck rfl) rfl rfl rfl ?_
    refine WL_rd (Rd_fieldAddr rfl fo90_2) rfl rfl rfl ?_
    refine WL_ac0 (Ac_store1 rfl rfl sz75) rfl rfl ?_
    rintro _ _ rfl
    refine WL_end hK8 ?_
    refine WC_sr fun K9 hK9 => ?_
    refine WL_rd (Rd_move rfl) rfl rfl rfl ?_
    refine WL_rd (Rd_assign rfl) rfl rfl rfl ?_
    refine WL_rd (Rd_assign rfl) rfl rfl rfl ?_
    refine WL_end hK9 ?_
    refine WC_ret ?_
    exact hret.go (a39, cap39) (Rs2 rfl rfl rfl)

theorem dSet_no {y made cap : Nat} {a : Option Nat} {tick : Int} {L : List (Nat × DW)} {t : Int} {v : BitVec 32} (h0 : laterM tick t ≠ 0) : Ct Try.prog 31 [.pointer (some ⟨y, 0, none⟩), .int .i64 t, .int .u32 ((v.toNat : Nat) : Int)] [cl y 90 [.int .i64 tick, .int .i64 ((made : Nat) : Int), sl a L.length cap], arr a cap 3 81 eDR L] (fun _ : Unit => .tuple #[.int .i64 0, .int .i64 (laterM tick t)]) (fun _ => [cl y 90 [.int .i64 tick, .int .i64 ((made : Nat) : Int), sl a L.length cap], arr a cap 3 81 eDR L]) := by
  refine Ct_body (n := 43) Try.func31 rfl rfl rfl fun F w0 Q hret hnorm hp => ?_
  change WC _ _ _ _ _ _ _ (_ :: _ :: F)
  refine WC_sr fun K1 hK1 => ?_
  refine WL_rd (Rd_assign rfl) rfl rfl rfl ?_
  refine WL_rd (Rd_assign rfl) rfl rfl rfl ?_
  refine WL_end hK1 ?_
  refine WC_seq fun K2 hK2 => ?_
  refine WC_sr fun K3 hK3 => ?_
  refine WL_rd (Rd_move rfl) rfl rfl rfl ?_
  refine WL_ac (Ac_call cf65 rfl (hs := may_ct (t := t))) rfl rfl rfl ?_
  rintro _ _ ⟨⟨⟩, rfl, hA⟩
  simp only [List.cons_append, List.nil_append] at hA
  replace hA := hA.symm
  subst hA
  refine WL_rd (Rd_not rfl) rfl rfl rfl ?_
  refine WL_end hK3 ?_
  refine WC_cond rfl (fun hc0 => ?_) (fun hc0 => ?_)
  · try simp only [decide_eq_true_eq, decide_eq_false_iff_not, Bool.not_eq_true', Bool.not_eq_false', Bool.not_eq_true, Bool.not_eq_false, Int.not_lt, Int.not_le, Nat.not_lt, Nat.not_le, Decidable.not_not, ne_eq] at hc0
    have hq : laterM tick t = 2 := by unfold laterM; exact if_pos (mayB_f.1 (by simpa using hc0))
    rw [hq] at hret
    refine WC_sr fun K4 hK4 => ?_
    refine WL_rd (Rd_assign rfl) rfl rfl rfl ?_
    refine WL_rd (Rd_assign rfl) rfl rfl rfl ?_
    refine WL_end hK4 ?_
    refine WC_ret ?_
    exact hret.go () (Rs2 rfl rfl rfl)
  · try simp only [decide_eq_true_eq, decide_eq_false_iff_not, Bool.not_eq_true', Bool.not_eq_false', Bool.not_eq_true, Bool.not_eq_false, Int.not_lt, Int.not_le, Nat.not_lt, Nat.not_le, Decidable.not_not, ne_eq] at hc0
    have hm := mayB_t.1 (show mayB t = true by simpa using hc0)
    refine WC_skip ?_
    refine Ps_next hK2 ?_
    refine WC_seq fun K5 hK5 => ?_
    refine WC_sr fun K6 hK6 => ?_
    refine WL_rd (Rd_move rfl) rfl rfl rfl ?_
    refine WL_rd (Rd_move rfl) rfl rfl rfl ?_
    refine WL_rd (Rd_nilCheck rfl) rfl rfl rfl ?_
    refine WL_rd (Rd_fieldAddr rfl fo90_0) rfl rfl rfl ?_
    refine WL_rd (Rd_load rfl tk3) rfl rfl rfl ?_
    refine WL_rd (Rd_lss rfl rfl) rfl rfl rfl ?_
    refine WL_end hK6 ?_
    refine WC_cond rfl (fun hc1 => ?_) (fun hc1 => ?_)
    · try simp only [decide_eq_true_eq, decide_eq_false_iff_not, Bool.not_eq_true', Bool.not_eq_false', Bool.not_eq_true, Bool.not_eq_false, Int.not_lt, Int.not_le, Nat.not_lt, Nat.not_le, Decidable.not_not, ne_eq] at hc1
      have hq : laterM tick t = 180 := by unfold laterM; rw [if_neg (by omega), if_pos (by omega)]
      rw [hq] at hret
      refine WC_sr fun K7 hK7 => ?_
      refine WL_rd (Rd_assign rfl) rfl rfl rfl ?_
      refine WL_rd (Rd_assign rfl) rfl rfl rfl ?_
      refine WL_end hK7 ?_
      refine WC_ret ?_
      exact hret.go () (Rs2 rfl rfl rfl)
    · try simp only [decide_eq_true_eq, decide_eq_false_iff_not, Bool.not_eq_true', Bool.not_eq_false', Bool.not_eq_true, Bool.not_eq_false, Int.not_lt, Int.not_le, Nat.not_lt, Nat.not_le, Decidable.not_not, ne_eq] at hc1
      exact absurd (laterM_ok.2 ⟨hm.1, hm.2, by omega⟩) h0

theorem dFirst_ct {y made cap : Nat} {a : Option Nat} {tick : Int} {L : List (Nat × DW)} (hlen : L.length ≤ 100000000 := by omega) : Ct Try.prog 88 [.pointer (some ⟨y, 0, none⟩)] [cl y 90 [.int .i64 tick, .int .i64 ((made : Nat) : Int), sl a L.length cap], arr a cap 3 81 eDR L] (fun _ : Unit => .int .i64 ((leastP dlt L L.length))) (fun _ => [cl y 90 [.int .i64 tick, .int .i64 ((made : Nat) : Int), sl a L.length cap], arr a cap 3 81 eDR L]) := by
  refine Ct_body (n := 37) Try.func88 rfl rfl rfl fun F w0 Q hret hnorm hp => ?_
  change WC _ _ _ _ _ _ _ (_ :: _ :: F)
  refine WC_sr fun K1 hK1 => ?_
  refine WL_rd (Rd_assign rfl) rfl rfl rfl ?_
  refine WL_end hK1 ?_
  refine WC_sr fun K2 hK2 => ?_
  refine WL_rd (Rd_assign rfl) rfl rfl rfl ?_
  refine WL_end hK2 ?_
  refine WC_seq fun K3 hK3 => ?_
  refine WC_sr fun K4 hK4 => ?_
  refine WL_rd (Rd_assign rfl) rfl rfl rfl ?_
  refine WL_end hK4 ?_
  refine WC_block ?_
  refine WC_loopK (σ := Nat × Int) (fun ⟨k, best⟩ => [(3, .int .i64 best), (4, .int .i64 ((k : Nat) : Int))]) (fun ⟨k, best⟩ => []) (fun ⟨k, best⟩ => k ≤ L.length ∧ best = leastP dlt L k) (fun ⟨k, best⟩ => L.length - k) ⟨0, -1⟩ [0, 2, 36] (by repeat (first | exact Kep.nil | apply Kep.drop rfl | apply Kep.keep rfl)) (by (try dsimp only); repeat (first | with_reducible exact Gv.nil | (with_reducible apply Gv.cons; · (repeat (first | with_reducible exact Ext.here | with_reducible apply Ext.there))))) ?_ ?_ Sub.refl ?_
  · exact ⟨Nat.zero_le _, rfl⟩
  · (try dsimp only); exact (Wk.cons (by first | rfl | (simp only [List.length_append, List.length_cons, List.length_nil, List.length_replicate, Nat.zero_add]; rfl) | (simp; done)) (Wk.cons (by first | rfl | (simp only [List.length_append, List.length_cons, List.length_nil, List.length_replicate, Nat.zero_add]; rfl) | (simp; done)) Wk.nil))
  · rintro ⟨k, best⟩ ⟨hk, hbe⟩ K5 hK5
    simp only [List.cons_append, List.nil_append]
    refine WC_seq fun K6 hK6 => ?_
    refine WC_sr fun K7 hK7 => ?_
    refine WL_rd (Rd_move rfl) rfl rfl rfl ?_
    refine WL_rd (Rd_move rfl) rfl rfl rfl ?_
    refine WL_rd (Rd_nilCheck rfl) rfl rfl rfl ?_
    refine WL_rd (Rd_fieldAddr rfl fo90_2) rfl rfl rfl ?_
    refine WL_rd (Rd_load rfl tk75) rfl rfl rfl ?_
    refine WL_rd (Rd_len rfl rfl ud75) rfl rfl rfl ?_
    refine WL_rd (Rd_lssN rfl rfl) rfl rfl rfl ?_
    refine WL_end hK7 ?_
    refine WC_cond rfl (fun hc0 => ?_) (fun hc0 => ?_)
    · try simp only [decide_eq_true_eq, decide_eq_false_iff_not, Bool.not_eq_true', Bool.not_eq_false', Bool.not_eq_true, Bool.not_eq_false, Int.not_lt, Int.not_le, Nat.not_lt, Nat.not_le, Decidable.not_not, ne_eq] at hc0
      have hr := leastP_rng (lt := dlt) L k (by omega)
      refine WC_some (a := a) (by repeat (first | with_reducible exact Has.here | with_reducible refine Has.there ?_)) (by omega) (fun gb hgb hcp => ?_)
      subst hgb
      obtain ⟨x, hx⟩ := at_r (l := L) (i := k) (by omega)
      obtain ⟨z, hz⟩ := at_r (l := L) (i := (leastP dlt L k).toNat) (by omega)
      have hst := leastP_step (lt := dlt) hx hz
      refine WC_skip ?_
      refine Ps_next hK6 ?_
      refine WC_seq fun K8 hK8 => ?_
      refine WC_block ?_
      refine WC_seq fun K9 hK9 => ?_
      refine WC_drawA mix (fun i => ([2, 2, 2, 2, 2, 2, 2, 2, 2, 2, 2, 2, 2, 2, 2, 2, 2, 2, 2, 2, 2] : List Nat).getD i 0) ?_
      refine WJ_takeP 0 rfl (by kernel_rfl) (Rd_move rfl) rfl rfl rfl (hp _ _) ?_
      refine WJ_takeP 1 rfl (by kernel_rfl) (Rd_lss rfl rfl) rfl rfl rfl (hp _ _) ?_
      refine WJ_takeP 2 rfl (by kernel_rfl) (Rd_move rfl) rfl rfl rfl (hp _ _) ?_
      refine WJ_bool 16 rfl (fun hg10 => ?_) (fun hg10 => ?_)
      · try simp only [decide_eq_true_eq, decide_eq_false_iff_not, Bool.not_eq_true', Bool.not_eq_false', Bool.not_eq_true, Bool.not_eq_false, Int.not_lt, Int.not_le, Nat.not_lt, Nat.not_le, Decidable.not_not, ne_eq] at hg10
        have q0 := hg10
        refine WJ_skip 3 rfl (by kernel_rfl) rfl rfl rfl (hp _ _) ?_
        refine WJ_skip 4 rfl (by kernel_rfl) rfl rfl rfl (hp _ _) ?_
        refine WJ_skip 5 rfl (by kernel_rfl) rfl rfl rfl (hp _ _) ?_
        refine WJ_skip 6 rfl (by kernel_rfl) rfl rfl rfl (hp _ _) ?_
        refine WJ_skip 7 rfl (by kernel_rfl) rfl rfl rfl (hp _ _) ?_
        refine WJ_skip 8 rfl (by kernel_rfl) rfl rfl rfl (hp _ _) ?_
        refine WJ_skip 9 rfl (by kernel_rfl) rfl rfl rfl (hp _ _) ?_
        refine WJ_skip 10 rfl (by kernel_rfl) rfl rfl rfl (hp _ _) ?_
        refine WJ_skip 11 rfl (by kernel_rfl) rfl rfl rfl (hp _ _) ?_
        refine WJ_skip 12 rfl (by kernel_rfl) rfl rfl rfl (hp _ _) ?_
        refine WJ_skip 13 rfl (by kernel_rfl) rfl rfl rfl (hp _ _) ?_
        refine WJ_skip 14 rfl (by kernel_rfl) rfl rfl rfl (hp _ _) ?_
        refine WJ_skip 15 rfl (by kernel_rfl) rfl rfl rfl (hp _ _) ?_
        refine WJ_skip 16 rfl (by kernel_rfl) rfl rfl rfl (hp _ _) ?_
        refine WJ_skip 17 rfl (by kernel_rfl) rfl rfl rfl (hp _ _) ?_
        refine WJ_skip 18 rfl (by kernel_rfl) rfl rfl rfl (hp _ _) ?_
        refine WJ_skip 19 rfl (by kernel_rfl) rfl rfl rfl (hp _ _) ?_
        refine WJ_takeP 20 rfl (by kernel_rfl) (Rd_pickT rfl rfl) rfl rfl rfl (hp _ _) ?_
        refine WJ_done (by kernel_rfl) ?_
        refine Ps_next hK9 ?_
        refine WC_condT rfl ?_
        refine WC_region ?_
        refine WL_rd (Rd_move rfl) rfl rfl rfl ?_
        refine WL_rd (Rd_assign rfl) rfl rfl rfl ?_
        refine WL_nil ?_
        refine Ps_next hK8 ?_
        refine WC_region ?_
        refine WL_rd (Rd_move rfl) rfl rfl rfl ?_
        refine WL_rd (Rd_addN (j := 1) rfl rfl) rfl rfl rfl ?_
        refine WL_rd (Rd_assign rfl) rfl rfl rfl ?_
        refine WL_nil ?_
        refine Ps_wk (by (try simp only [List.cons_append, List.nil_append]); repeat (first | with_reducible exact Wk.nil | refine Wk.cons (by first | rfl | (simp only [List.length_append, List.length_cons, List.length_nil, List.length_replicate, Nat.zero_add]; rfl) | (simp; done)) ?_)) (by (try simp only [List.cons_append, List.nil_append]); repeat (first | with_reducible exact Sub.refl | with_reducible exact Sub.nil | with_reducible refine Sub.cons (by repeat (first | with_reducible exact Ext.here | with_reducible apply Ext.there)) ?_ | with_reducible refine Sub.tail ?_)) (hK5 ⟨k + 1, (k : Int)⟩ (⟨by (try dsimp only); omega, by (try dsimp only); rw [hst, if_pos (by first | exact .inr (decide_eq_true hc1) | exact .inl (by omega))]⟩) (by (try dsimp only); omega))
      · try simp only [decide_eq_true_eq, decide_eq_false_iff_not, Bool.not_eq_true', Bool.not_eq_false', Bool.not_eq_true, Bool.not_eq_false, Int.not_lt, Int.not_le, Nat.not_lt, Nat.not_le, Decidable.not_not, ne_eq] at hg10
        have q0 := hg10
        refine WJ_takeP 3 rfl (by kernel_rfl) (Rd_move rfl) rfl rfl rfl (hp _ _) ?_
        refine WJ_takeP 4 rfl (by kernel_rfl) (Rd_nilCheck rfl) rfl rfl rfl (hp _ _) ?_
        refine WJ_takeP 5 rfl (by kernel_rfl) (Rd_fieldAddr rfl fo90_2) rfl rfl rfl (hp _ _) ?_
        refine WJ_tk 6 (Rd_load rfl tk75) hp ?_ rfl (by kernel_rfl) rfl rfl rfl
        refine WJ_takeP 7 rfl (by kernel_rfl) (Rd_move rfl) rfl rfl rfl (hp _ _) ?_
        refine WJ_takeP 8 rfl (by kernel_rfl) (Rd_index k rfl rfl ud75 sz81 (hi := by omega)) rfl rfl rfl (hp _ _) ?_
        refine WJ_takeP 9 rfl (by kernel_rfl) (Rd_fieldAddr rfl fo81_1) rfl rfl rfl (hp _ _) ?_
        refine WJ_tk 10 (Rd_load_arr (f := eDR) (i := k) (j := 1) rfl tk3 (hl := hx)) hp ?_ rfl (by kernel_rfl) rfl rfl rfl
        refine WJ_takeP 11 rfl (by kernel_rfl) (Rd_move rfl) rfl rfl rfl (hp _ _) ?_
        refine WJ_takeP 12 rfl (by kernel_rfl) (Rd_nilCheck rfl) rfl rfl rfl (hp _ _) ?_
        refine WJ_takeP 13 rfl (by kernel_rfl) (Rd_fieldAddr rfl fo90_2) rfl rfl rfl (hp _ _) ?_
        refine WJ_tk 14 (Rd_load rfl tk75) hp ?_ rfl (by kernel_rfl) rfl rfl rfl
        refine WJ_takeP 15 rfl (by kernel_rfl) (Rd_move rfl) rfl rfl rfl (hp _ _) ?_
        refine WJ_takeP 16 rfl (by kernel_rfl) (Rd_index (leastP dlt L k).toNat rfl rfl ud75 sz81 (hj := by omega) (hi := by omega)) rfl rfl rfl (hp _ _) ?_
        refine WJ_takeP 17 rfl (by kernel_rfl) (Rd_fieldAddr rfl fo81_1) rfl rfl rfl (hp _ _) ?_
        refine WJ_tk 18 (Rd_load_arr (f := eDR) (i := (leastP dlt L k).toNat) (j := 1) rfl tk3 (hl := hz)) hp ?_ rfl (by kernel_rfl) rfl rfl rfl
        refine WJ_takeP 19 rfl (by kernel_rfl) (Rd_lss rfl rfl) rfl rfl rfl (hp _ _) ?_
        refine WJ_takeP 20 rfl (by kernel_rfl) (Rd_pickF rfl rfl) rfl rfl rfl (hp _ _) ?_
        refine WJ_done (by kernel_rfl) ?_
        refine Ps_next hK9 ?_
        refine WC_cond rfl (fun hc1 => ?_) (fun hc1 => ?_)
        · try simp only [decide_eq_true_eq, decide_eq_false_iff_not, Bool.not_eq_true', Bool.not_eq_false', Bool.not_eq_true, Bool.not_eq_false, Int.not_lt, Int.not_le, Nat.not_lt, Nat.not_le, Decidable.not_not, ne_eq] at hc1
          refine WC_region ?_
          refine WL_rd (Rd_move rfl) rfl rfl rfl ?_
          refine WL_rd (Rd_assign rfl) rfl rfl rfl ?_
          refine WL_nil ?_
          refine Ps_next hK8 ?_
          refine WC_region ?_
          refine WL_rd (Rd_move rfl) rfl rfl rfl ?_
          refine WL_rd (Rd_addN (j := 1) rfl rfl) rfl rfl rfl ?_
          refine WL_rd (Rd_assign rfl) rfl rfl rfl ?_
          refine WL_nil ?_
          refine Ps_wk (by (try simp only [List.cons_append, List.nil_append]); repeat (first | with_reducible exact Wk.nil | refine Wk.cons (by first | rfl | (simp only [List.length_append, List.length_cons, List.length_nil, List.length_replicate, Nat.zero_add]; rfl) | (simp; done)) ?_)) (by (try simp only [List.cons_append, List.nil_append]); repeat (first | with_reducible exact Sub.refl | with_reducible exact Sub.nil | with_reducible refine Sub.cons (by repeat (first | with_reducible exact Ext.here | with_reducible apply Ext.there)) ?_ | with_reducible refine Sub.tail ?_)) (hK5 ⟨k + 1, (k : Int)⟩ (⟨by (try dsimp only); omega, by (try dsimp only); rw [hst, if_pos (by first | exact .inr (decide_eq_true hc1) | exact .inl (by omega))]⟩) (by (try dsimp only); omega))
        · try simp only [decide_eq_true_eq, decide_eq_false_iff_not, Bool.not_eq_true', Bool.not_eq_false', Bool.not_eq_true, Bool.not_eq_false, Int.not_lt, Int.not_le, Nat.not_lt, Nat.not_le, Decidable.not_not, ne_eq] at hc1
          refine WC_skip ?_
          refine Ps_next hK8 ?_
          refine WC_region ?_
          refine WL_rd (Rd_move rfl) rfl rfl rfl ?_
          refine WL_rd (Rd_addN (j := 1) rfl rfl) rfl rfl rfl ?_
          refine WL_rd (Rd_assign rfl) rfl rfl rfl ?_
          refine WL_nil ?_
          refine Ps_wk (by (try simp only [List.cons_append, List.nil_append]); repeat (first | with_reducible exact Wk.nil | refine Wk.cons (by first | rfl | (simp only [List.length_append, List.length_cons, List.length_nil, List.length_replicate, Nat.zero_add]; rfl) | (simp; done)) ?_)) (by (try simp only [List.cons_append, List.nil_append]); repeat (first | with_reducible exact Sub.refl | with_reducible exact Sub.nil | with_reducible refine Sub.cons (by repeat (first | with_reducible exact Ext.here | with_reducible apply Ext.there)) ?_ | with_reducible refine Sub.tail ?_)) (hK5 ⟨k + 1, best⟩ (⟨by (try dsimp only); omega, by (try dsimp only); rw [hst, if_neg (by rintro (q | q); omega; exact absurd (of_decide_eq_true q) (by omega))]; exact hbe⟩) (by (try dsimp only); omega))
    · try simp only [decide_eq_true_eq, decide_eq_false_iff_not, Bool.not_eq_true', Bool.not_eq_false', Bool.not_eq_true, Bool.not_eq_false, Int.not_lt, Int.not_le, Nat.not_lt, Nat.not_le, Decidable.not_not, ne_eq] at hc0
      obtain rfl : k = L.length := by omega
      subst hbe
      refine WC_exit ?_
      refine Ps_next hK3 ?_
      refine WC_sr fun K11 hK11 => ?_
      refine WL_rd (Rd_move rfl) rfl rfl rfl ?_
      refine WL_rd (Rd_assign rfl) rfl rfl rfl ?_
      refine WL_end hK11 ?_
      refine WC_ret ?_
      exact hret.go () (Rs1 rfl rfl)

theorem dOut_ct {y made cap : Nat} {a : Option Nat} {tick : Int} {L : List (Nat × DW)} {i : Nat} {x : Nat × DW} (hlen : L.length ≤ 100000000 := by omega) (hx : L[i]? = some x := by assumption) : Ct Try.prog 89 [.pointer (some ⟨y, 0, none⟩), .int .i64 ((i : Nat) : Int)] [cl y 90 [.int .i64 tick, .int .i64 ((made : Nat) : Int), sl a L.length cap], arr a cap 3 81 eDR L] (fun g : Option Nat × Nat => .agg (eDR x).toArray) (fun g => [cl y 90 [.int .i64 tick, .int .i64 ((made : Nat) : Int), sl g.1 (L.eraseIdx i).length g.2], arr g.1 g.2 3 81 eDR (L.eraseIdx i)]) := by
  refine Ct_body (n := 36) Try.func89 rfl rfl rfl fun F w0 Q hret hnorm hp => ?_
  change WC _ _ _ _ _ _ _ (_ :: _ :: F)
  have hil := (List.getElem?_eq_some_iff.1 hx).1
  refine WC_imp (fun w h => sat_nil (e := 3) (T := 81) (f := eDR) h) ?_
  refine WC_fact (fun w h => arr_facts (a := a) (cap := cap) (e := 3) (T := 81) (f := eDR) (l := L) (by repeat (first | with_reducible exact Has.here | with_reducible refine Has.there ?_)) h) (fun hRSf => ?_)
  have hRS : Sv [arr a cap 3 81 eDR L] (sl a L.length cap) 3 eDR L (a.map fun g => ⟨g, 0, none⟩) cap := Sv_own' encDR hRSf.1 hRSf.2
  refine WC_some (a := a) (by repeat (first | with_reducible exact Has.here | with_reducible refine Has.there ?_)) (by omega) (fun gb hgb hcp => ?_)
  subst hgb
  refine WC_sr fun K1 hK1 => ?_
  refine WL_ac (Ac_alloc zr81) rfl rfl rfl ?_
  rintro _ _ ⟨b4, rfl, rfl⟩
  refine WL_end hK1 ?_
  refine WC_sr fun K2 hK2 => ?_
  refine WL_rd (Rd_move rfl) rfl rfl rfl ?_
  refine WL_rd (Rd_nilCheck rfl) rfl rfl rfl ?_
  refine WL_rd (Rd_fieldAddr rfl fo90_2) rfl rfl rfl ?_
  refine WL_rd (Rd_load rfl tk75) rfl rfl rfl ?_
  refine WL_rd (Rd_move rfl) rfl rfl rfl ?_
  refine WL_rd (Rd_index i rfl rfl ud75 sz81 (hi := by omega)) rfl rfl rfl ?_
  refine WL_rd (Rd_loadg_arr (f := eDR) (i := i) rfl tk81 (hl := hx)) rfl rfl rfl ?_
  refine WL_ac (Ac_alloc zr81) rfl rfl rfl ?_
  rintro _ _ ⟨b5, rfl, rfl⟩
  refine WL_ac0 (Ac_store (ys := eDR x) rfl rfl sz81 (h1 := encDR.one x) (hr := rfl)) rfl rfl ?_
  rintro _ _ rfl
  refine WL_end hK2 ?_
  refine WC_sr fun K3 hK3 => ?_
  refine WL_rd (Rd_assign (v := sl none 0 0) rfl) rfl rfl rfl ?_
  refine WL_nilarr eDR 3 81 ?_
  refine WL_end hK3 ?_
  refine WC_sr fun K4 hK4 => ?_
  refine WL_rd (Rd_move rfl) rfl rfl rfl ?_
  refine WL_rd (Rd_move rfl) rfl rfl rfl ?_
  refine WL_rd (Rd_nilCheck rfl) rfl rfl rfl ?_
  refine WL_rd (Rd_fieldAddr rfl fo90_2) rfl rfl rfl ?_
  refine WL_rd (Rd_load rfl tk75) rfl rfl rfl ?_
  refine WL_rd (Rd_move rfl) rfl rfl rfl ?_
  refine WL_rd (Rd_slice_sv 0 i rfl rfl ⟨_, rfl⟩ ud75 sz81 (hA := hRS)) rfl rfl rfl ?_
  refine WL_ac (Ac_appendS (f := eDR) (a := none) (cap := 0) (l := []) encDR rfl rfl ud75 ud75 el81 (hS := hRS.sub (lo := 0) (hi := i) (by omega) (by omega)) (hb := by simp only [List.length_nil, List.length_drop, List.length_take]; omega)) rfl rfl rfl ?_
  rintro _ _ ⟨a21, cap21, rfl, rfl⟩
  rw [show ([] : List (Nat × DW)) ++ (L.take i).drop 0 = L.take i from rfl, show ([] : List (Nat × DW)).length + ((L.take i).drop 0).length = (L.take i).length from by simp]
  refine WL_rd (Rd_assign rfl) rfl rfl rfl ?_
  refine WL_end hK4 ?_
  refine WC_sr fun K5 hK5 => ?_
  refine WL_rd (Rd_move rfl) rfl rfl rfl ?_
  refine WL_rd (Rd_move rfl) rfl rfl rfl ?_
  refine WL_rd (Rd_nilCheck rfl) rfl rfl rfl ?_
  refine WL_rd (Rd_fieldAddr rfl fo90_2) rfl rfl rfl ?_
  refine WL_rd (Rd_load rfl tk75) rfl rfl rfl ?_
  refine WL_rd (Rd_move rfl) rfl rfl rfl ?_
  refine WL_rd (Rd_addN (j := 1) rfl rfl) rfl rfl rfl ?_
  refine WL_rd (Rd_slice_sv (i + 1) L.length rfl ⟨_, rfl⟩ rfl ud75 sz81 (hA := hRS)) rfl rfl rfl ?_
  refine WL_ac (Ac_appendS (f := eDR) (a := a21) (cap := cap21) (l := L.take i) encDR rfl rfl ud75 ud75 el81 (hS := hRS.sub (lo := i + 1) (hi := L.length) (by omega) (by omega)) (hb := by simp only [List.length_drop, List.length_take]; omega)) rfl rfl rfl ?_
  rintro _ _ ⟨a30, cap30, rfl, rfl⟩
  rw [List.take_length, show (L.take i).length + (L.drop (i + 1)).length = (L.eraseIdx i).length from by rw [← er_td, List.length_append], er_td]
  refine WL_rd (Rd_assign rfl) rfl rfl rfl ?_
  refine WL_end hK5 ?_
  refine WC_sr fun K6 hK6 => ?_
  refine WL_rd (Rd_move rfl) rfl rfl rfl ?_
  refine WL_rd (Rd_move rfl) rfl rfl rfl ?_
  refine WL_rd (Rd_nilCheck rfl) rfl rfl rfl ?_
  refine WL_rd (Rd_fieldAddr rfl fo90_2) rfl rfl rfl ?_
  refine WL_ac0 (Ac_store1 rfl rfl sz75) rfl rfl ?_
  rintro _ _ rfl
  refine WL_end hK6 ?_
  refine WC_sr fun K7 hK7 => ?_
  refine WL_rd (Rd_loadg (vs := eDR x) rfl tk81 (hi := rfl)) rfl rfl rfl ?_
  refine WL_ac0 (Ac_store (ys := eDR x) rfl rfl sz81 (h1 := encDR.one x) (hr := rfl)) rfl rfl ?_
  rintro _ _ rfl
  refine WL_end hK7 ?_
  refine WC_ret ?_
  exact hret.go (a30, cap30) (Rs1c rfl rfl tk81)
end Go.Proofs.Ytcemkpiopijbmaa
