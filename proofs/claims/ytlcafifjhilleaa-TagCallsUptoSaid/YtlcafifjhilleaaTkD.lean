/-
  Contracts of functions that the claim reaches, or the logic and the plain laws that they rest on, or the row over them. (Conditions: none beyond the statement.)
-/
import Derived.Test.YtlcafifjhilleaaTkC
set_option linter.all false
namespace Go.Proofs.Ytlcafifjhilleaa
open Go.RowKit Go.SL Go.ShM
set_option maxHeartbeats 1000000
set_option maxRecDepth 20000
set_option linter.all false
theorem cf83 : cfn Try.prog 83 = true := by kernel_rfl
theorem key_big {X : Asn} {v v2 : Value} {s f : List B8} {ao ao2 : Option Addr} {cap cap2 : Nat} {k n seg : Int} (hS : Sv [X] v 1 (eU .u8 (w := 8)) s ao cap := by assumption) (hF : Sv [X] v2 1 (eU .u8 (w := 8)) f ao2 cap2 := by assumption) (hs : s.length ≤ 64) (hk : 1 ≤ k) (hkn : k ≤ n) (hn : n ≤ 255) (hg1 : 1 ≤ seg) (hg2 : seg ≤ 65790) (hbig : 16777216 < f.length) (hlf : f.length ≤ 900000000000 := by omega)  : Ct Try.prog 52 [v, .int .i64 k, .int .i64 n, .int .i64 seg, v2] [X] (fun _ : Unit => .tuple #[aU .u8 (List.replicate 16 0#8), .int .i64 4]) (fun _ => [X]) := by
  refine Ct_body (n := 66) Try.func52 rfl rfl rfl fun F w0 Q hret hnorm hp => ?_
  change WC _ _ _ _ _ _ _ (_ :: F)
  refine WC_sr fun K1 hK1 => ?_
  refine WL_ac (Ac_allocW (k := .u8) (w := 8) (m := 16) zr41) rfl rfl rfl ?_
  rintro _ _ ⟨b10, rfl, rfl⟩
  refine WL_rd (Rd_assign rfl) rfl rfl rfl ?_
  refine WL_end hK1 ?_
  refine WC_seq fun K2 hK2 => ?_
  refine WC_block ?_
  refine WC_sr fun K3 hK3 => ?_
  refine WL_rd (Rd_move rfl) rfl rfl rfl ?_
  refine WL_rd (Rd_len_sv rfl rfl ud23) rfl rfl rfl ?_
  refine WL_rd (Rd_gtrN (j := 64) rfl rfl) rfl rfl rfl ?_
  refine WL_rd (Rd_move rfl) rfl rfl rfl ?_
  refine WL_bool 17 rfl (fun hg4 => ?_) (fun hg4 => ?_)
  · try simp only [decide_eq_true_eq, decide_eq_false_iff_not, Bool.not_eq_true', Bool.not_eq_false', Bool.not_eq_true, Bool.not_eq_false, Int.not_lt, Int.not_le, Nat.not_lt, Nat.not_le, Decidable.not_not, ne_eq] at hg4
    refine WL_skip rfl rfl rfl ?_
    refine WL_skip rfl rfl rfl ?_
    refine WL_rd (Rd_pickT rfl rfl) rfl rfl rfl ?_
    refine WL_rd (Rd_move rfl) rfl rfl rfl ?_
    refine WL_skip rfl rfl rfl ?_
    refine WL_skip rfl rfl rfl ?_
    refine WL_rd (Rd_pickT rfl rfl) rfl rfl rfl ?_
    refine WL_rd (Rd_move rfl) rfl rfl rfl ?_
    refine WL_skip rfl rfl rfl ?_
    refine WL_skip rfl rfl rfl ?_
    refine WL_rd (Rd_pickT rfl rfl) rfl rfl rfl ?_
    refine WL_rd (Rd_move rfl) rfl rfl rfl ?_
    refine WL_skip rfl rfl rfl ?_
    refine WL_skip rfl rfl rfl ?_
    refine WL_skip rfl rfl rfl ?_
    refine WL_rd (Rd_pickT rfl rfl) rfl rfl rfl ?_
    refine WL_rd (Rd_move rfl) rfl rfl rfl ?_
    refine WL_skip rfl rfl rfl ?_
    refine WL_skip rfl rfl rfl ?_
    refine WL_rd (Rd_pickT rfl rfl) rfl rfl rfl ?_
    refine WL_rd (Rd_move rfl) rfl rfl rfl ?_
    refine WL_skip rfl rfl rfl ?_
    refine WL_skip rfl rfl rfl ?_
    refine WL_rd (Rd_pickT rfl rfl) rfl rfl rfl ?_
    refine WL_rd (Rd_assign rfl) rfl rfl rfl ?_
    refine WL_end hK3 ?_
    refine WC_condT rfl ?_
    omega
  · try simp only [decide_eq_true_eq, decide_eq_false_iff_not, Bool.not_eq_true', Bool.not_eq_false', Bool.not_eq_true, Bool.not_eq_false, Int.not_lt, Int.not_le, Nat.not_lt, Nat.not_le, Decidable.not_not, ne_eq] at hg4
    refine WL_rd (Rd_move rfl) rfl rfl rfl ?_
    refine WL_rd (Rd_lss rfl rfl) rfl rfl rfl ?_
    refine WL_rd (Rd_pickF rfl rfl) rfl rfl rfl ?_
    refine WL_rd (Rd_move rfl) rfl rfl rfl ?_
    refine WL_bool 21 rfl (fun hg5 => ?_) (fun hg5 => ?_)
    · try simp only [decide_eq_true_eq, decide_eq_false_iff_not, Bool.not_eq_true', Bool.not_eq_false', Bool.not_eq_true, Bool.not_eq_false, Int.not_lt, Int.not_le, Nat.not_lt, Nat.not_le, Decidable.not_not, ne_eq] at hg5
      refine WL_skip rfl rfl rfl ?_
      refine WL_skip rfl rfl rfl ?_
      refine WL_rd (Rd_pickT rfl rfl) rfl rfl rfl ?_
      refine WL_rd (Rd_move rfl) rfl rfl rfl ?_
      refine WL_skip rfl rfl rfl ?_
      refine WL_skip rfl rfl rfl ?_
      refine WL_rd (Rd_pickT rfl rfl) rfl rfl rfl ?_
      refine WL_rd (Rd_move rfl) rfl rfl rfl ?_
      refine WL_skip rfl rfl rfl ?_
      refine WL_skip rfl rfl rfl ?_
      refine WL_skip rfl rfl rfl ?_
      refine WL_rd (Rd_pickT rfl rfl) rfl rfl rfl ?_
      refine WL_rd (Rd_move rfl) rfl rfl rfl ?_
      refine WL_skip rfl rfl rfl ?_
      refine WL_skip rfl rfl rfl ?_
      refine WL_rd (Rd_pickT rfl rfl) rfl rfl rfl ?_
      refine WL_rd (Rd_move rfl) rfl rfl rfl ?_
      refine WL_skip rfl rfl rfl ?_
      refine WL_skip rfl rfl rfl ?_
      refine WL_rd (Rd_pickT rfl rfl) rfl rfl rfl ?_
      refine WL_rd (Rd_assign rfl) rfl rfl rfl ?_
      refine WL_end hK3 ?_
      refine WC_condT rfl ?_
      omega
    · try simp only [decide_eq_true_eq, decide_eq_false_iff_not, Bool.not_eq_true', Bool.not_eq_false', Bool.not_eq_true, Bool.not_eq_false, Int.not_lt, Int.not_le, Nat.not_lt, Nat.not_le, Decidable.not_not, ne_eq] at hg5
      refine WL_rd (Rd_move rfl) rfl rfl rfl ?_
      refine WL_rd (Rd_gtr rfl rfl) rfl rfl rfl ?_
      refine WL_rd (Rd_pickF rfl rfl) rfl rfl rfl ?_
      refine WL_rd (Rd_move rfl) rfl rfl rfl ?_
      refine WL_bool 25 rfl (fun hg6 => ?_) (fun hg6 => ?_)
      · try simp only [decide_eq_true_eq, decide_eq_false_iff_not, Bool.not_eq_true', Bool.not_eq_false', Bool.not_eq_true, Bool.not_eq_false, Int.not_lt, Int.not_le, Nat.not_lt, Nat.not_le, Decidable.not_not, ne_eq] at hg6
        refine WL_skip rfl rfl rfl ?_
        refine WL_skip rfl rfl rfl ?_
        refine WL_rd (Rd_pickT rfl rfl) rfl rfl rfl ?_
        refine WL_rd (Rd_move rfl) rfl rfl rfl ?_
        refine WL_skip rfl rfl rfl ?_
        refine WL_skip rfl rfl rfl ?_
        refine WL_skip rfl rfl rfl ?_
        refine WL_rd (Rd_pickT rfl rfl) rfl rfl rfl ?_
        refine WL_rd (Rd_move rfl) rfl rfl rfl ?_
        refine WL_skip rfl rfl rfl ?_
        refine WL_skip rfl rfl rfl ?_
        refine WL_rd (Rd_pickT rfl rfl) rfl rfl rfl ?_
        refine WL_rd (Rd_move rfl) rfl rfl rfl ?_
        refine WL_skip rfl rfl rfl ?_
        refine WL_skip rfl rfl rfl ?_
        refine WL_rd (Rd_pickT rfl rfl) rfl rfl rfl ?_
        refine WL_rd (Rd_assign rfl) rfl rfl rfl ?_
        refine WL_end hK3 ?_
        refine WC_condT rfl ?_
        omega
      · try simp only [decide_eq_true_eq, decide_eq_false_iff_not, Bool.not_eq_true', Bool.not_eq_false', Bool.not_eq_true, Bool.not_eq_false, Int.not_lt, Int.not_le, Nat.not_lt, Nat.not_le, Decidable.not_not, ne_eq] at hg6
        refine WL_rd (Rd_move rfl) rfl rfl rfl ?_
        refine WL_rd (Rd_lss rfl rfl) rfl rfl rfl ?_
        refine WL_rd (Rd_pickF rfl rfl) rfl rfl rfl ?_
        refine WL_rd (Rd_move rfl) rfl rfl rfl ?_
        refine WL_bool 29 rfl (fun hg7 => ?_) (fun hg7 => ?_)
        · try simp only [decide_eq_true_eq, decide_eq_false_iff_not, Bool.not_eq_true', Bool.not_eq_false', Bool.not_eq_true, Bool.not_eq_false, Int.not_lt, Int.not_le, Nat.not_lt, Nat.not_le, Decidable.not_not, ne_eq] at hg7
          refine WL_skip rfl rfl rfl ?_
          refine WL_skip rfl rfl rfl ?_
          refine WL_skip rfl rfl rfl ?_
          refine WL_rd (Rd_pickT rfl rfl) rfl rfl rfl ?_
          refine WL_rd (Rd_move rfl) rfl rfl rfl ?_
          refine WL_skip rfl rfl rfl ?_
          refine WL_skip rfl rfl rfl ?_
          refine WL_rd (Rd_pickT rfl rfl) rfl rfl rfl ?_
          refine WL_rd (Rd_move rfl) rfl rfl rfl ?_
          refine WL_skip rfl rfl rfl ?_
          refine WL_skip rfl rfl rfl ?_
          refine WL_rd (Rd_pickT rfl rfl) rfl rfl rfl ?_
          refine WL_rd (Rd_assign rfl) rfl rfl rfl ?_
          refine WL_end hK3 ?_
          refine WC_condT rfl ?_
          omega
        · try simp only [decide_eq_true_eq, decide_eq_false_iff_not, Bool.not_eq_true', Bool.not_eq_false', Bool.not_eq_true, Bool.not_eq_false, Int.not_lt, Int.not_le, Nat.not_lt, Nat.not_le, Decidable.not_not, ne_eq] at hg7
          refine WL_rd (Rd_move rfl) rfl rfl rfl ?_
          refine WL_rd (Rd_move rfl) rfl rfl rfl ?_
          refine WL_rd (Rd_gtr rfl rfl) rfl rfl rfl ?_
          refine WL_rd (Rd_pickF rfl rfl) rfl rfl rfl ?_
          refine WL_rd (Rd_move rfl) rfl rfl rfl ?_
          refine WL_bool 34 rfl (fun hg8 => ?_) (fun hg8 => ?_)
          · try simp only [decide_eq_true_eq, decide_eq_false_iff_not, Bool.not_eq_true', Bool.not_eq_false', Bool.not_eq_true, Bool.not_eq_false, Int.not_lt, Int.not_le, Nat.not_lt, Nat.not_le, Decidable.not_not, ne_eq] at hg8
            refine WL_skip rfl rfl rfl ?_
            refine WL_skip rfl rfl rfl ?_
            refine WL_rd (Rd_pickT rfl rfl) rfl rfl rfl ?_
            refine WL_rd (Rd_move rfl) rfl rfl rfl ?_
            refine WL_skip rfl rfl rfl ?_
            refine WL_skip rfl rfl rfl ?_
            refine WL_rd (Rd_pickT rfl rfl) rfl rfl rfl ?_
            refine WL_rd (Rd_assign rfl) rfl rfl rfl ?_
            refine WL_end hK3 ?_
            refine WC_condT rfl ?_
            omega
          · try simp only [decide_eq_true_eq, decide_eq_false_iff_not, Bool.not_eq_true', Bool.not_eq_false', Bool.not_eq_true, Bool.not_eq_false, Int.not_lt, Int.not_le, Nat.not_lt, Nat.not_le, Decidable.not_not, ne_eq] at hg8
            refine WL_rd (Rd_move rfl) rfl rfl rfl ?_
            refine WL_rd (Rd_lss rfl rfl) rfl rfl rfl ?_
            refine WL_rd (Rd_pickF rfl rfl) rfl rfl rfl ?_
            refine WL_rd (Rd_move rfl) rfl rfl rfl ?_
            refine WL_bool 38 rfl (fun hg9 => ?_) (fun hg9 => ?_)
            · try simp only [decide_eq_true_eq, decide_eq_false_iff_not, Bool.not_eq_true', Bool.not_eq_false', Bool.not_eq_true, Bool.not_eq_false, Int.not_lt, Int.not_le, Nat.not_lt, Nat.not_le, Decidable.not_not, ne_eq] at hg9
              refine WL_skip rfl rfl rfl ?_
              refine WL_skip rfl rfl rfl ?_
              refine WL_rd (Rd_pickT rfl rfl) rfl rfl rfl ?_
              refine WL_rd (Rd_assign rfl) rfl rfl rfl ?_
              refine WL_end hK3 ?_
              refine WC_condT rfl ?_
              omega
            · try simp only [decide_eq_true_eq, decide_eq_false_iff_not, Bool.not_eq_true', Bool.not_eq_false', Bool.not_eq_true, Bool.not_eq_false, Int.not_lt, Int.not_le, Nat.not_lt, Nat.not_le, Decidable.not_not, ne_eq] at hg9
              refine WL_rd (Rd_move rfl) rfl rfl rfl ?_
              refine WL_rd (Rd_gtr rfl rfl) rfl rfl rfl ?_
              refine WL_rd (Rd_pickF rfl rfl) rfl rfl rfl ?_
              refine WL_rd (Rd_assign rfl) rfl rfl rfl ?_
              refine WL_end hK3 ?_
              refine WC_cond rfl (fun hc0 => ?_) (fun hc0 => ?_)
              · try simp only [decide_eq_true_eq, decide_eq_false_iff_not, Bool.not_eq_true', Bool.not_eq_false', Bool.not_eq_true, Bool.not_eq_false, Int.not_lt, Int.not_le, Nat.not_lt, Nat.not_le, Decidable.not_not, ne_eq] at hc0
                omega
              · try simp only [decide_eq_true_eq, decide_eq_false_iff_not, Bool.not_eq_true', Bool.not_eq_false', Bool.not_eq_true, Bool.not_eq_false, Int.not_lt, Int.not_le, Nat.not_lt, Nat.not_le, Decidable.not_not, ne_eq] at hc0
                refine WC_sr fun K10 hK10 => ?_
                refine WL_rd (Rd_move rfl) rfl rfl rfl ?_
                refine WL_rd (Rd_len_sv rfl rfl ud23) rfl rfl rfl ?_
                refine WL_rd (Rd_gtrN (j := 16777216) rfl rfl) rfl rfl rfl ?_
                refine WL_rd (Rd_assign rfl) rfl rfl rfl ?_
                refine WL_end hK10 ?_
                refine WC_cond rfl (fun hc1 => ?_) (fun hc1 => ?_)
                · try simp only [decide_eq_true_eq, decide_eq_false_iff_not, Bool.not_eq_true', Bool.not_eq_false', Bool.not_eq_true, Bool.not_eq_false, Int.not_lt, Int.not_le, Nat.not_lt, Nat.not_le, Decidable.not_not, ne_eq] at hc1
                  refine WC_sr fun K11 hK11 => ?_
                  refine WL_rd (Rd_aU (k := .u8) (l := (List.replicate 16 0#8)) (Rd_build pls41 rfl) (by rfl)) rfl rfl rfl ?_
                  refine WL_ac0 (Ac_storeW rfl rfl sz41) rfl rfl ?_
                  rintro _ _ rfl
                  refine WL_rd (Rd_assign rfl) rfl rfl rfl ?_
                  refine WL_end hK11 ?_
                  refine WC_ret ?_
                  exact hret.goE () (Rs2cW rfl rfl rfl tk41) rfl
                · try simp only [decide_eq_true_eq, decide_eq_false_iff_not, Bool.not_eq_true', Bool.not_eq_false', Bool.not_eq_true, Bool.not_eq_false, Int.not_lt, Int.not_le, Nat.not_lt, Nat.not_le, Decidable.not_not, ne_eq] at hc1
                  omega

theorem keyR_big {X : Asn} {v v2 : Value} {s f : List B8} {ao ao2 : Option Addr} {cap cap2 : Nat} {k n seg : Int} (hS : Sv [X] v 1 (eU .u8 (w := 8)) s ao cap := by assumption) (hF : Sv [X] v2 1 (eU .u8 (w := 8)) f ao2 cap2 := by assumption) (hs : s.length ≤ 64) (hk : 1 ≤ k) (hkn : k ≤ n) (hn : n ≤ 255) (hg1 : 1 ≤ seg) (hg2 : seg ≤ 65790) (hbig : 16777216 < f.length) (hlf : f.length ≤ 900000000000 := by omega)  : Ct Try.prog 53 [v, .int .i64 k, .int .i64 n, .int .i64 seg, v2] [X] (fun _ : Unit => .tuple #[aU .u8 (List.replicate 16 0#8), .int .i64 4]) (fun _ => [X]) := by
  refine Ct_body (n := 69) Try.func53 rfl rfl rfl fun F w0 Q hret hnorm hp => ?_
  change WC _ _ _ _ _ _ _ (_ :: F)
  refine WC_sr fun K1 hK1 => ?_
  refine WL_ac (Ac_allocW (k := .u8) (w := 8) (m := 16) zr41) rfl rfl rfl ?_
  rintro _ _ ⟨b10, rfl, rfl⟩
  refine WL_rd (Rd_assign rfl) rfl rfl rfl ?_
  refine WL_end hK1 ?_
  refine WC_seq fun K2 hK2 => ?_
  refine WC_sr fun K3 hK3 => ?_
  refine WL_rd (Rd_move rfl) rfl rfl rfl ?_
  refine WL_rd (Rd_len_sv rfl rfl ud23) rfl rfl rfl ?_
  refine WL_rd (Rd_gtrN (j := 64) rfl rfl) rfl rfl rfl ?_
  refine WL_rd (Rd_move rfl) rfl rfl rfl ?_
  refine WL_bool 19 rfl (fun hg4 => ?_) (fun hg4 => ?_)
  · try simp only [decide_eq_true_eq, decide_eq_false_iff_not, Bool.not_eq_true', Bool.not_eq_false', Bool.not_eq_true, Bool.not_eq_false, Int.not_lt, Int.not_le, Nat.not_lt, Nat.not_le, Decidable.not_not, ne_eq] at hg4
    refine WL_skip rfl rfl rfl ?_
    refine WL_skip rfl rfl rfl ?_
    refine WL_rd (Rd_pickT rfl rfl) rfl rfl rfl ?_
    refine WL_rd (Rd_move rfl) rfl rfl rfl ?_
    refine WL_skip rfl rfl rfl ?_
    refine WL_skip rfl rfl rfl ?_
    refine WL_skip rfl rfl rfl ?_
    refine WL_rd (Rd_pickT rfl rfl) rfl rfl rfl ?_
    refine WL_rd (Rd_move rfl) rfl rfl rfl ?_
    refine WL_skip rfl rfl rfl ?_
    refine WL_skip rfl rfl rfl ?_
    refine WL_rd (Rd_pickT rfl rfl) rfl rfl rfl ?_
    refine WL_rd (Rd_move rfl) rfl rfl rfl ?_
    refine WL_skip rfl rfl rfl ?_
    refine WL_skip rfl rfl rfl ?_
    refine WL_rd (Rd_pickT rfl rfl) rfl rfl rfl ?_
    refine WL_rd (Rd_move rfl) rfl rfl rfl ?_
    refine WL_skip rfl rfl rfl ?_
    refine WL_skip rfl rfl rfl ?_
    refine WL_rd (Rd_pickT rfl rfl) rfl rfl rfl ?_
    refine WL_end hK3 ?_
    refine WC_condT rfl ?_
    omega
  · try simp only [decide_eq_true_eq, decide_eq_false_iff_not, Bool.not_eq_true', Bool.not_eq_false', Bool.not_eq_true, Bool.not_eq_false, Int.not_lt, Int.not_le, Nat.not_lt, Nat.not_le, Decidable.not_not, ne_eq] at hg4
    refine WL_rd (Rd_move rfl) rfl rfl rfl ?_
    refine WL_rd (Rd_lss rfl rfl) rfl rfl rfl ?_
    refine WL_rd (Rd_pickF rfl rfl) rfl rfl rfl ?_
    refine WL_rd (Rd_move rfl) rfl rfl rfl ?_
    refine WL_bool 23 rfl (fun hg5 => ?_) (fun hg5 => ?_)
    · try simp only [decide_eq_true_eq, decide_eq_false_iff_not, Bool.not_eq_true', Bool.not_eq_false', Bool.not_eq_true, Bool.not_eq_false, Int.not_lt, Int.not_le, Nat.not_lt, Nat.not_le, Decidable.not_not, ne_eq] at hg5
      refine WL_skip rfl rfl rfl ?_
      refine WL_skip rfl rfl rfl ?_
      refine WL_skip rfl rfl rfl ?_
      refine WL_rd (Rd_pickT rfl rfl) rfl rfl rfl ?_
      refine WL_rd (Rd_move rfl) rfl rfl rfl ?_
      refine WL_skip rfl rfl rfl ?_
      refine WL_skip rfl rfl rfl ?_
      refine WL_rd (Rd_pickT rfl rfl) rfl rfl rfl ?_
      refine WL_rd (Rd_move rfl) rfl rfl rfl ?_
      refine WL_skip rfl rfl rfl ?_
      refine WL_skip rfl rfl rfl ?_
      refine WL_rd (Rd_pickT rfl rfl) rfl rfl rfl ?_
      refine WL_rd (Rd_move rfl) rfl rfl rfl ?_
      refine WL_skip rfl rfl rfl ?_
      refine WL_skip rfl rfl rfl ?_
      refine WL_rd (Rd_pickT rfl rfl) rfl rfl rfl ?_
      refine WL_end hK3 ?_
      refine WC_condT rfl ?_
      omega
    · try simp only [decide_eq_true_eq, decide_eq_false_iff_not, Bool.not_eq_true', Bool.not_eq_false', Bool.not_eq_true, Bool.not_eq_false, Int.not_lt, Int.not_le, Nat.not_lt, Nat.not_le, Decidable.not_not, ne_eq] at hg5
      refine WL_rd (Rd_move rfl) rfl rfl rfl ?_
      refine WL_rd (Rd_move rfl) rfl rfl rfl ?_
      refine WL_rd (Rd_gtr rfl rfl) rfl rfl rfl ?_
      refine WL_rd (Rd_pickF rfl rfl) rfl rfl rfl ?_
      refine WL_rd (Rd_move rfl) rfl rfl rfl ?_
      refine WL_bool 28 rfl (fun hg6 => ?_) (fun hg6 => ?_)
      · try simp only [decide_eq_true_eq, decide_eq_false_iff_not, Bool.not_eq_true', Bool.not_eq_false', Bool.not_eq_true, Bool.not_eq_false, Int.not_lt, Int.not_le, Nat.not_lt, Nat.not_le, Decidable.not_not, ne_eq] at hg6
        refine WL_skip rfl rfl rfl ?_
        refine WL_skip rfl rfl rfl ?_
        refine WL_rd (Rd_pickT rfl rfl) rfl rfl rfl ?_
        refine WL_rd (Rd_move rfl) rfl rfl rfl ?_
        refine WL_skip rfl rfl rfl ?_
        refine WL_skip rfl rfl rfl ?_
        refine WL_rd (Rd_pickT rfl rfl) rfl rfl rfl ?_
        refine WL_rd (Rd_move rfl) rfl rfl rfl ?_
        refine WL_skip rfl rfl rfl ?_
        refine WL_skip rfl rfl rfl ?_
        refine WL_rd (Rd_pickT rfl rfl) rfl rfl rfl ?_
        refine WL_end hK3 ?_
        refine WC_condT rfl ?_
        omega
      · try simp only [decide_eq_true_eq, decide_eq_false_iff_not, Bool.not_eq_true', Bool.not_eq_false', Bool.not_eq_true, Bool.not_eq_false, Int.not_lt, Int.not_le, Nat.not_lt, Nat.not_le, Decidable.not_not, ne_eq] at hg6
        refine WL_rd (Rd_move rfl) rfl rfl rfl ?_
        refine WL_rd (Rd_gtr rfl rfl) rfl rfl rfl ?_
        refine WL_rd (Rd_pickF rfl rfl) rfl rfl rfl ?_
        refine WL_rd (Rd_move rfl) rfl rfl rfl ?_
        refine WL_bool 32 rfl (fun hg7 => ?_) (fun hg7 => ?_)
        · try simp only [decide_eq_true_eq, decide_eq_false_iff_not, Bool.not_eq_true', Bool.not_eq_false', Bool.not_eq_true, Bool.not_eq_false, Int.not_lt, Int.not_le, Nat.not_lt, Nat.not_le, Decidable.not_not, ne_eq] at hg7
          refine WL_skip rfl rfl rfl ?_
          refine WL_skip rfl rfl rfl ?_
          refine WL_rd (Rd_pickT rfl rfl) rfl rfl rfl ?_
          refine WL_rd (Rd_move rfl) rfl rfl rfl ?_
          refine WL_skip rfl rfl rfl ?_
          refine WL_skip rfl rfl rfl ?_
          refine WL_rd (Rd_pickT rfl rfl) rfl rfl rfl ?_
          refine WL_end hK3 ?_
          refine WC_condT rfl ?_
          omega
        · try simp only [decide_eq_true_eq, decide_eq_false_iff_not, Bool.not_eq_true', Bool.not_eq_false', Bool.not_eq_true, Bool.not_eq_false, Int.not_lt, Int.not_le, Nat.not_lt, Nat.not_le, Decidable.not_not, ne_eq] at hg7
          refine WL_rd (Rd_move rfl) rfl rfl rfl ?_
          refine WL_rd (Rd_lss rfl rfl) rfl rfl rfl ?_
          refine WL_rd (Rd_pickF rfl rfl) rfl rfl rfl ?_
          refine WL_rd (Rd_move rfl) rfl rfl rfl ?_
          refine WL_bool 36 rfl (fun hg8 => ?_) (fun hg8 => ?_)
          · try simp only [decide_eq_true_eq, decide_eq_false_iff_not, Bool.not_eq_true', Bool.not_eq_false', Bool.not_eq_true, Bool.not_eq_false, Int.not_lt, Int.not_le, Nat.not_lt, Nat.not_le, Decidable.not_not, ne_eq] at hg8
            refine WL_skip rfl rfl rfl ?_
            refine WL_skip rfl rfl rfl ?_
            refine WL_rd (Rd_pickT rfl rfl) rfl rfl rfl ?_
            refine WL_end hK3 ?_
            refine WC_condT rfl ?_
            omega
          · try simp only [decide_eq_true_eq, decide_eq_false_iff_not, Bool.not_eq_true', Bool.not_eq_false', Bool.not_eq_true, Bool.not_eq_false, Int.not_lt, Int.not_le, Nat.not_lt, Nat.not_le, Decidable.not_not, ne_eq] at hg8
            refine WL_rd (Rd_move rfl) rfl rfl rfl ?_
            refine WL_rd (Rd_gtr rfl rfl) rfl rfl rfl ?_
            refine WL_rd (Rd_pickF rfl rfl) rfl rfl rfl ?_
            refine WL_end hK3 ?_
            refine WC_cond rfl (fun hc0 => ?_) (fun hc0 => ?_)
            · try simp only [decide_eq_true_eq, decide_eq_false_iff_not, Bool.not_eq_true', Bool.not_eq_false', Bool.not_eq_true, Bool.not_eq_false, Int.not_lt, Int.not_le, Nat.not_lt, Nat.not_le, Decidable.not_not, ne_eq] at hc0
              omega
            · try simp only [decide_eq_true_eq, decide_eq_false_iff_not, Bool.not_eq_true', Bool.not_eq_false', Bool.not_eq_true, Bool.not_eq_false, Int.not_lt, Int.not_le, Nat.not_lt, Nat.not_le, Decidable.not_not, ne_eq] at hc0
              refine WC_skip ?_
              refine Ps_next hK2 ?_
              refine WC_seq fun K9 hK9 => ?_
              refine WC_sr fun K10 hK10 => ?_
              refine WL_rd (Rd_move rfl) rfl rfl rfl ?_
              refine WL_rd (Rd_len_sv rfl rfl ud23) rfl rfl rfl ?_
              refine WL_rd (Rd_gtrN (j := 16777216) rfl rfl) rfl rfl rfl ?_
              refine WL_end hK10 ?_
              refine WC_cond rfl (fun hc1 => ?_) (fun hc1 => ?_)
              · try simp only [decide_eq_true_eq, decide_eq_false_iff_not, Bool.not_eq_true', Bool.not_eq_false', Bool.not_eq_true, Bool.not_eq_false, Int.not_lt, Int.not_le, Nat.not_lt, Nat.not_le, Decidable.not_not, ne_eq] at hc1
                refine WC_sr fun K11 hK11 => ?_
                refine WL_rd (Rd_aU (k := .u8) (l := (List.replicate 16 0#8)) (Rd_build pls41 rfl) (by rfl)) rfl rfl rfl ?_
                refine WL_ac0 (Ac_storeW rfl rfl sz41) rfl rfl ?_
                rintro _ _ rfl
                refine WL_rd (Rd_assign rfl) rfl rfl rfl ?_
                refine WL_end hK11 ?_
                refine WC_ret ?_
                exact hret.goE () (Rs2cW rfl rfl rfl tk41) rfl
              · try simp only [decide_eq_true_eq, decide_eq_false_iff_not, Bool.not_eq_true', Bool.not_eq_false', Bool.not_eq_true, Bool.not_eq_false, Int.not_lt, Int.not_le, Nat.not_lt, Nat.not_le, Decidable.not_not, ne_eq] at hc1
                omega

theorem key_ct {X : Asn} {v v2 : Value} {s f : List B8} {ao ao2 : Option Addr} {cap cap2 : Nat} {k n seg : Int} (hS : Sv [X] v 1 (eU .u8 (w := 8)) s ao cap := by assumption) (hF : Sv [X] v2 1 (eU .u8 (w := 8)) f ao2 cap2 := by assumption) (hs : s.length ≤ 64) (hk : 1 ≤ k) (hkn : k ≤ n) (hn : n ≤ 255) (hg1 : 1 ≤ seg) (hg2 : seg ≤ 65790) (hfl : f.length ≤ 16777216)  : Ct Try.prog 52 [v, .int .i64 k, .int .i64 n, .int .i64 seg, v2] [X] (fun _ : Unit => .tuple #[aU .u8 (keyM s f k n seg), .int .i64 0]) (fun _ => [X]) := by
  refine Ct_body (n := 66) Try.func52 rfl rfl rfl fun F w0 Q hret hnorm hp => ?_
  change WC _ _ _ _ _ _ _ (_ :: F)
  have hv0 := hS.val
  subst hv0
  have hv1 := hF.val
  subst hv1
  have h6l := sixM_len k n seg
  have htd := tagD_len 1#8 [s, (sixM k n seg), f]
  have h16 := keyM_len s f k n seg
  refine WC_sr fun K1 hK1 => ?_
  refine WL_ac (Ac_allocW (k := .u8) (w := 8) (m := 16) zr41) rfl rfl rfl ?_
  rintro _ _ ⟨b10, rfl, rfl⟩
  refine WL_rd (Rd_assign rfl) rfl rfl rfl ?_
  refine WL_end hK1 ?_
  refine WC_seq fun K2 hK2 => ?_
  refine WC_block ?_
  refine WC_sr fun K3 hK3 => ?_
  refine WL_rd (Rd_move rfl) rfl rfl rfl ?_
  refine WL_rd (Rd_len_sv rfl rfl ud23) rfl rfl rfl ?_
  refine WL_rd (Rd_gtrN (j := 64) rfl rfl) rfl rfl rfl ?_
  refine WL_rd (Rd_move rfl) rfl rfl rfl ?_
  refine WL_bool 17 rfl (fun hg4 => ?_) (fun hg4 => ?_)
  · try simp only [decide_eq_true_eq, decide_eq_false_iff_not, Bool.not_eq_true', Bool.not_eq_false', Bool.not_eq_true, Bool.not_eq_false, Int.not_lt, Int.not_le, Nat.not_lt, Nat.not_le, Decidable.not_not, ne_eq] at hg4
    refine WL_skip rfl rfl rfl ?_
    refine WL_skip rfl rfl rfl ?_
    refine WL_rd (Rd_pickT rfl rfl) rfl rfl rfl ?_
    refine WL_rd (Rd_move rfl) rfl rfl rfl ?_
    refine WL_skip rfl rfl rfl ?_
    refine WL_skip rfl rfl rfl ?_
    refine WL_rd (Rd_pickT rfl rfl) rfl rfl rfl ?_
    refine WL_rd (Rd_move rfl) rfl rfl rfl ?_
    refine WL_skip rfl rfl rfl ?_
    refine WL_skip rfl rfl rfl ?_
    refine WL_rd (Rd_pickT rfl rfl) rfl rfl rfl ?_
    refine WL_rd (Rd_move rfl) rfl rfl rfl ?_
    refine WL_skip rfl rfl rfl ?_
    refine WL_skip rfl rfl rfl ?_
    refine WL_skip rfl rfl rfl ?_
    refine WL_rd (Rd_pickT rfl rfl) rfl rfl rfl ?_
    refine WL_rd (Rd_move rfl) rfl rfl rfl ?_
    refine WL_skip rfl rfl rfl ?_
    refine WL_skip rfl rfl rfl ?_
    refine WL_rd (Rd_pickT rfl rfl) rfl rfl rfl ?_
    refine WL_rd (Rd_move rfl) rfl rfl rfl ?_
    refine WL_skip rfl rfl rfl ?_
    refine WL_skip rfl rfl rfl ?_
    refine WL_rd (Rd_pickT rfl rfl) rfl rfl rfl ?_
    refine WL_rd (Rd_assign rfl) rfl rfl rfl ?_
    refine WL_end hK3 ?_
    refine WC_condT rfl ?_
    omega
  · try simp only [decide_eq_true_eq, decide_eq_false_iff_not, Bool.not_eq_true', Bool.not_eq_false', Bool.not_eq_true, Bool.not_eq_false, Int.not_lt, Int.not_le, Nat.not_lt, Nat.not_le, Decidable.not_not, ne_eq] at hg4
    refine WL_rd (Rd_move rfl) rfl rfl rfl ?_
    refine WL_rd (Rd_lss rfl rfl) rfl rfl rfl ?_
    refine WL_rd (Rd_pickF rfl rfl) rfl rfl rfl ?_
    refine WL_rd (Rd_move rfl) rfl rfl rfl ?_
    refine WL_bool 21 rfl (fun hg5 => ?_) (fun hg5 => ?_)
    · try simp only [decide_eq_true_eq, decide_eq_false_iff_not, Bool.not_eq_true', Bool.not_eq_false', Bool.not_eq_true, Bool.not_eq_false, Int.not_lt, Int.not_le, Nat.not_lt, Nat.not_le, Decidable.not_not, ne_eq] at hg5
      refine WL_skip rfl rfl rfl ?_
      refine WL_skip rfl rfl rfl ?_
      refine WL_rd (Rd_pickT rfl rfl) rfl rfl rfl ?_
      refine WL_rd (Rd_move rfl) rfl rfl rfl ?_
      refine WL_skip rfl rfl rfl ?_
      refine WL_skip rfl rfl rfl ?_
      refine WL_rd (Rd_pickT rfl rfl) rfl rfl rfl ?_
      refine WL_rd (Rd_move rfl) rfl rfl rfl ?_
      refine WL_skip rfl rfl rfl ?_
      refine WL_skip rfl rfl rfl ?_
      refine WL_skip rfl rfl rfl ?_
      refine WL_rd (Rd_pickT rfl rfl) rfl rfl rfl ?_
      refine WL_rd (Rd_move rfl) rfl rfl rfl ?_
      refine WL_skip rfl rfl rfl ?_
      refine WL_skip rfl rfl rfl ?_
      refine WL_rd (Rd_pickT rfl rfl) rfl rfl rfl ?_
      refine WL_rd (Rd_move rfl) rfl rfl rfl ?_
      refine WL_skip rfl rfl rfl ?_
      refine WL_skip rfl rfl rfl ?_
      refine WL_rd (Rd_pickT rfl rfl) rfl rfl rfl ?_
      refine WL_rd (Rd_assign rfl) rfl rfl rfl ?_
      refine WL_end hK3 ?_
      refine WC_condT rfl ?_
      omega
    · try simp only [decide_eq_true_eq, decide_eq_false_iff_not, Bool.not_eq_true', Bool.not_eq_false', Bool.not_eq_true, Bool.not_eq_false, Int.not_lt, Int.not_le, Nat.not_lt, Nat.not_le, Decidable.not_not, ne_eq] at hg5
      refine WL_rd (Rd_move rfl) rfl rfl rfl ?_
      refine WL_rd (Rd_gtr rfl rfl) rfl rfl rfl ?_
      refine WL_rd (Rd_pickF rfl rfl) rfl rfl rfl ?_
      refine WL_rd (Rd_move rfl) rfl rfl rfl ?_
      refine WL_bool 25 rfl (fun hg6 => ?_) (fun hg6 => ?_)
      · try simp only [decide_eq_true_eq, decide_eq_false_iff_not, Bool.not_eq_true', Bool.not_eq_false', Bool.not_eq_true, Bool.not_eq_false, Int.not_lt, Int.not_le, Nat.not_lt, Nat.not_le, Decidable.not_not, ne_eq] at hg6
        refine WL_skip rfl rfl rfl ?_
        refine WL_skip rfl rfl rfl ?_
        refine WL_rd (Rd_pickT rfl rfl) rfl rfl rfl ?_
        refine WL_rd (Rd_move rfl) rfl rfl rfl ?_
        refine WL_skip rfl rfl rfl ?_
        refine WL_skip rfl rfl rfl ?_
        refine WL_skip rfl rfl rfl ?_
        refine WL_rd (Rd_pickT rfl rfl) rfl rfl rfl ?_
        refine WL_rd (Rd_move rfl) rfl rfl rfl ?_
        refine WL_skip rfl rfl rfl ?_
        refine WL_skip rfl rfl rfl ?_
        refine WL_rd (Rd_pickT rfl rfl) rfl rfl rfl ?_
        refine WL_rd (Rd_move rfl) rfl rfl rfl ?_
        refine WL_skip rfl rfl rfl ?_
        refine WL_skip rfl rfl rfl ?_
        refine WL_rd (Rd_pickT rfl rfl) rfl rfl rfl ?_
        refine WL_rd (Rd_assign rfl) rfl rfl rfl ?_
        refine WL_end hK3 ?_
        refine WC_condT rfl ?_
        omega
      · try simp only [decide_eq_true_eq, decide_eq_false_iff_not, Bool.not_eq_true', Bool.not_eq_false', Bool.not_eq_true, Bool.not_eq_false, Int.not_lt, Int.not_le, Nat.not_lt, Nat.not_le, Decidable.not_not, ne_eq] at hg6
        refine WL_rd (Rd_move rfl) rfl rfl rfl ?_
        refine WL_rd (Rd_lss rfl rfl) rfl rfl rfl ?_
        refine WL_rd (Rd_pickF rfl rfl) rfl rfl rfl ?_
        refine WL_rd (Rd_move rfl) rfl rfl rfl ?_
        refine WL_bool 29 rfl (fun hg7 => ?_) (fun hg7 => ?_)
        · try simp only [decide_eq_true_eq, decide_eq_false_iff_not, Bool.not_eq_true', Bool.not_eq_false', Bool.not_eq_true, Bool.not_eq_false, Int.not_lt, Int.not_le, Nat.not_lt, Nat.not_le, Decidable.not_not, ne_eq] at hg7
          refine WL_skip rfl rfl rfl ?_
          refine WL_skip rfl rfl rfl ?_
          refine WL_skip rfl rfl rfl ?_
          refine WL_rd (Rd_pickT rfl rfl) rfl rfl rfl ?_
          refine WL_rd (Rd_move rfl) rfl rfl rfl ?_
          refine WL_skip rfl rfl rfl ?_
          refine WL_skip rfl rfl rfl ?_
          refine WL_rd (Rd_pickT rfl rfl) rfl rfl rfl ?_
          refine WL_rd (Rd_move rfl) rfl rfl rfl ?_
          refine WL_skip rfl rfl rfl ?_
          refine WL_skip rfl rfl rfl ?_
          refine WL_rd (Rd_pickT rfl rfl) rfl rfl rfl ?_
          refine WL_rd (Rd_assign rfl) rfl rfl rfl ?_
          refine WL_end hK3 ?_
          refine WC_condT rfl ?_
          omega
        · try simp only [decide_eq_true_eq, decide_eq_false_iff_not, Bool.not_eq_true', Bool.not_eq_false', Bool.not_eq_true, Bool.not_eq_false, Int.not_lt, Int.not_le, Nat.not_lt, Nat.not_le, Decidable.not_not, ne_eq] at hg7
          refine WL_rd (Rd_move rfl) rfl rfl rfl ?_
          refine WL_rd (Rd_move rfl) rfl rfl rfl ?_
          refine WL_rd (Rd_gtr rfl rfl) rfl rfl rfl ?_
          refine WL_rd (Rd_pickF rfl rfl) rfl rfl rfl ?_
          refine WL_rd (Rd_move rfl) rfl rfl rfl ?_
          refine WL_bool 34 rfl (fun hg8 => ?_) (fun hg8 => ?_)
          · try simp only [decide_eq_true_eq, decide_eq_false_iff_not, Bool.not_eq_true', Bool.not_eq_false', Bool.not_eq_true, Bool.not_eq_false, Int.not_lt, Int.not_le, Nat.not_lt, Nat.not_le, Decidable.not_not, ne_eq] at hg8
            refine WL_skip rfl rfl rfl ?_
            refine WL_skip rfl rfl rfl ?_
            refine WL_rd (Rd_pickT rfl rfl) rfl rfl rfl ?_
            refine WL_rd (Rd_move rfl) rfl rfl rfl ?_
            refine WL_skip rfl rfl rfl ?_
            refine WL_skip rfl rfl rfl ?_
            refine WL_rd (Rd_pickT rfl rfl) rfl rfl rfl ?_
            refine WL_rd (Rd_assign rfl) rfl rfl rfl ?_
            refine WL_end hK3 ?_
            refine WC_condT rfl ?_
            omega
          · try simp only [decide_eq_true_eq, decide_eq_false_iff_not, Bool.not_eq_true', Bool.not_eq_false', Bool.not_eq_true, Bool.not_eq_false, Int.not_lt, Int.not_le, Nat.not_lt, Nat.not_le, Decidable.not_not, ne_eq] at hg8
            refine WL_rd (Rd_move rfl) rfl rfl rfl ?_
            refine WL_rd (Rd_lss rfl rfl) rfl rfl rfl ?_
            refine WL_rd (Rd_pickF rfl rfl) rfl rfl rfl ?_
            refine WL_rd (Rd_move rfl) rfl rfl rfl ?_
            refine WL_bool 38 rfl (fun hg9 => ?_) (fun hg9 => ?_)
            · try simp only [decide_eq_true_eq, decide_eq_false_iff_not, Bool.not_eq_true', Bool.not_eq_false', Bool.not_eq_true, Bool.not_eq_false, Int.not_lt, Int.not_le, Nat.not_lt, Nat.not_le, Decidable.not_not, ne_eq] at hg9
              refine WL_skip rfl rfl rfl ?_
              refine WL_skip rfl rfl rfl ?_
              refine WL_rd (Rd_pickT rfl rfl) rfl rfl rfl ?_
              refine WL_rd (Rd_assign rfl) rfl rfl rfl ?_
              refine WL_end hK3 ?_
              refine WC_condT rfl ?_
              omega
            · try simp only [decide_eq_true_eq, decide_eq_false_iff_not, Bool.not_eq_true', Bool.not_eq_false', Bool.not_eq_true, Bool.not_eq_false, Int.not_lt, Int.not_le, Nat.not_lt, Nat.not_le, Decidable.not_not, ne_eq] at hg9
              refine WL_rd (Rd_move rfl) rfl rfl rfl ?_
              refine WL_rd (Rd_gtr rfl rfl) rfl rfl rfl ?_
              refine WL_rd (Rd_pickF rfl rfl) rfl rfl rfl ?_
              refine WL_rd (Rd_assign rfl) rfl rfl rfl ?_
              refine WL_end hK3 ?_
              refine WC_cond rfl (fun hc0 => ?_) (fun hc0 => ?_)
              · try simp only [decide_eq_true_eq, decide_eq_false_iff_not, Bool.not_eq_true', Bool.not_eq_false', Bool.not_eq_true, Bool.not_eq_false, Int.not_lt, Int.not_le, Nat.not_lt, Nat.not_le, Decidable.not_not, ne_eq] at hc0
                omega
              · try simp only [decide_eq_true_eq, decide_eq_false_iff_not, Bool.not_eq_true', Bool.not_eq_false', Bool.not_eq_true, Bool.not_eq_false, Int.not_lt, Int.not_le, Nat.not_lt, Nat.not_le, Decidable.not_not, ne_eq] at hc0
                refine WC_sr fun K10 hK10 => ?_
                refine WL_rd (Rd_move rfl) rfl rfl rfl ?_
                refine WL_rd (Rd_len_sv rfl rfl ud23) rfl rfl rfl ?_
                refine WL_rd (Rd_gtrN (j := 16777216) rfl rfl) rfl rfl rfl ?_
                refine WL_rd (Rd_assign rfl) rfl rfl rfl ?_
                refine WL_end hK10 ?_
                refine WC_cond rfl (fun hc1 => ?_) (fun hc1 => ?_)
                · try simp only [decide_eq_true_eq, decide_eq_false_iff_not, Bool.not_eq_true', Bool.not_eq_false', Bool.not_eq_true, Bool.not_eq_false, Int.not_lt, Int.not_le, Nat.not_lt, Nat.not_le, Decidable.not_not, ne_eq] at hc1
                  omega
                · try simp only [decide_eq_true_eq, decide_eq_false_iff_not, Bool.not_eq_true', Bool.not_eq_false', Bool.not_eq_true, Bool.not_eq_false, Int.not_lt, Int.not_le, Nat.not_lt, Nat.not_le, Decidable.not_not, ne_eq] at hc1
                  refine WC_skip ?_
                  refine Ps_next hK2 ?_
                  refine WC_sr fun K11 hK11 => ?_
                  refine WL_rd (Rd_move rfl) rfl rfl rfl ?_
                  refine WL_rd (Rd_move rfl) rfl rfl rfl ?_
                  refine WL_rd (Rd_convZU rfl ikd3_5 (h' := uk8)) rfl rfl rfl ?_
                  refine WL_ac (Ac_call cf83 rfl (hs := bigu8_ct (x := BitVec.ofInt 8 k))) rfl rfl rfl ?_
                  rintro _ _ ⟨g51, rfl, hA⟩
                  simp only [List.cons_append, List.nil_append] at hA
                  replace hA := hA.symm
                  subst hA
                  refine WL_rd (Rd_move rfl) rfl rfl rfl ?_
                  refine WL_rd (Rd_convZU rfl ikd3_5 (h' := uk8)) rfl rfl rfl ?_
                  refine WL_ac (Ac_call cf83 rfl (hs := bigu8_ct (x := BitVec.ofInt 8 n))) rfl rfl rfl ?_
                  rintro _ _ ⟨g54, rfl, hA⟩
                  simp only [List.cons_append, List.nil_append] at hA
                  replace hA := hA.symm
                  subst hA
                  refine WL_rd (Rd_move rfl) rfl rfl rfl ?_
                  refine WL_rd (Rd_convZU rfl ikd3_44 (h' := uk32)) rfl rfl rfl ?_
                  refine WL_ac (Ac_call cf38 rfl (hs := bigu32_ct (x := BitVec.ofInt 32 seg))) rfl rfl rfl ?_
                  rintro _ _ ⟨g57, rfl, hA⟩
                  simp only [List.cons_append, List.nil_append] at hA
                  replace hA := hA.symm
                  subst hA
                  refine WL_ac (Ac_bsL (f := fP) (zs := [.slice none 0 0]) (bs := [.slice none 0 0, .slice none 0 0, .slice none 0 0]) [(⟨(big8 (BitVec.ofInt 8 k)), some ⟨g51, 0, none⟩, 1⟩ : Pt), (⟨(big8 (BitVec.ofInt 8 n)), some ⟨g54, 0, none⟩, 1⟩ : Pt), (⟨(big32 (BitVec.ofInt 32 seg)), some ⟨g57, 0, none⟩, 4⟩ : Pt)] encP ud22 zr23 sz23 rfl (by rw [Array.toList_map, Array.toList_range]; rfl) (by rfl) (by rfl) (by rfl) (by rfl)) rfl rfl rfl ?_
                  rintro _ _ ⟨b58, rfl, rfl⟩
                  have hp0 : RdP [arr (some g51) 1 1 5 (eU .u8 (w := 8)) (big8 (BitVec.ofInt 8 k))] (⟨(big8 (BitVec.ofInt 8 k)), some ⟨g51, 0, none⟩, 1⟩ : Pt) := by have h := Sv_own' (a := some g51) (cap := 1) (T := 5) (encU .u8 (w := 8)) (l := (big8 (BitVec.ofInt 8 k))) (by simp) (by first | rw [big8_eq]; exact Nat.le_refl _ | rw [big32_len]; exact Nat.le_refl _); exact h
                  have hp1 : RdP [arr (some g54) 1 1 5 (eU .u8 (w := 8)) (big8 (BitVec.ofInt 8 n))] (⟨(big8 (BitVec.ofInt 8 n)), some ⟨g54, 0, none⟩, 1⟩ : Pt) := by have h := Sv_own' (a := some g54) (cap := 1) (T := 5) (encU .u8 (w := 8)) (l := (big8 (BitVec.ofInt 8 n))) (by simp) (by first | rw [big8_eq]; exact Nat.le_refl _ | rw [big32_len]; exact Nat.le_refl _); exact h
                  have hp2 : RdP [arr (some g57) 4 1 5 (eU .u8 (w := 8)) (big32 (BitVec.ofInt 32 seg))] (⟨(big32 (BitVec.ofInt 32 seg)), some ⟨g57, 0, none⟩, 4⟩ : Pt) := by have h := Sv_own' (a := some g57) (cap := 4) (T := 5) (encU .u8 (w := 8)) (l := (big32 (BitVec.ofInt 32 seg))) (by simp) (by first | rw [big8_eq]; exact Nat.le_refl _ | rw [big32_len]; exact Nat.le_refl _); exact h
                  have hL : Sv [arr (some b58) 3 1 23 fP [(⟨(big8 (BitVec.ofInt 8 k)), some ⟨g51, 0, none⟩, 1⟩ : Pt), (⟨(big8 (BitVec.ofInt 8 n)), some ⟨g54, 0, none⟩, 1⟩ : Pt), (⟨(big32 (BitVec.ofInt 32 seg)), some ⟨g57, 0, none⟩, 4⟩ : Pt)]] (sl (some b58) 3 3) 1 fP [(⟨(big8 (BitVec.ofInt 8 k)), some ⟨g51, 0, none⟩, 1⟩ : Pt), (⟨(big8 (BitVec.ofInt 8 n)), some ⟨g54, 0, none⟩, 1⟩ : Pt), (⟨(big32 (BitVec.ofInt 32 seg)), some ⟨g57, 0, none⟩, 4⟩ : Pt)] (some ⟨b58, 0, none⟩) 3 := Sv_own' (a := some b58) (cap := 3) (T := 23) encP (l := [(⟨(big8 (BitVec.ofInt 8 k)), some ⟨g51, 0, none⟩, 1⟩ : Pt), (⟨(big8 (BitVec.ofInt 8 n)), some ⟨g54, 0, none⟩, 1⟩ : Pt), (⟨(big32 (BitVec.ofInt 32 seg)), some ⟨g57, 0, none⟩, 4⟩ : Pt)]) (by simp) (Nat.le_refl 3)
                  have hjs : joinP [(⟨(big8 (BitVec.ofInt 8 k)), some ⟨g51, 0, none⟩, 1⟩ : Pt), (⟨(big8 (BitVec.ofInt 8 n)), some ⟨g54, 0, none⟩, 1⟩ : Pt), (⟨(big32 (BitVec.ofInt 32 seg)), some ⟨g57, 0, none⟩, 4⟩ : Pt)] = (sixM k n seg) := by simp [joinP, sixM, big8_eq]
                  refine WL_ac (Ac_call cf82 rfl (hs := Ct.un0 (Xs := [arr (some b58) 3 1 23 fP [(⟨(big8 (BitVec.ofInt 8 k)), some ⟨g51, 0, none⟩, 1⟩ : Pt), (⟨(big8 (BitVec.ofInt 8 n)), some ⟨g54, 0, none⟩, 1⟩ : Pt), (⟨(big32 (BitVec.ofInt 32 seg)), some ⟨g57, 0, none⟩, 4⟩ : Pt)], arr (some g51) 1 1 5 (eU .u8 (w := 8)) (big8 (BitVec.ofInt 8 k)), arr (some g54) 1 1 5 (eU .u8 (w := 8)) (big8 (BitVec.ofInt 8 n)), arr (some g57) 4 1 5 (eU .u8 (w := 8)) (big32 (BitVec.ofInt 32 seg))]) (join_ct (X := sep [arr (some b58) 3 1 23 fP [(⟨(big8 (BitVec.ofInt 8 k)), some ⟨g51, 0, none⟩, 1⟩ : Pt), (⟨(big8 (BitVec.ofInt 8 n)), some ⟨g54, 0, none⟩, 1⟩ : Pt), (⟨(big32 (BitVec.ofInt 32 seg)), some ⟨g57, 0, none⟩, 4⟩ : Pt)], arr (some g51) 1 1 5 (eU .u8 (w := 8)) (big8 (BitVec.ofInt 8 k)), arr (some g54) 1 1 5 (eU .u8 (w := 8)) (big8 (BitVec.ofInt 8 n)), arr (some g57) 4 1 5 (eU .u8 (w := 8)) (big32 (BitVec.ofInt 32 seg))]) (ps := [(⟨(big8 (BitVec.ofInt 8 k)), some ⟨g51, 0, none⟩, 1⟩ : Pt), (⟨(big8 (BitVec.ofInt 8 n)), some ⟨g54, 0, none⟩, 1⟩ : Pt), (⟨(big32 (BitVec.ofInt 32 seg)), some ⟨g57, 0, none⟩, 4⟩ : Pt)]) (hS := hL.pk (by repeat (first | with_reducible exact Has.here | with_reducible refine Has.there ?_))) (hP := List.forall_mem_cons.2 ⟨hp0.pk (by repeat (first | with_reducible exact Has.here | with_reducible refine Has.there ?_)), List.forall_mem_cons.2 ⟨hp1.pk (by repeat (first | with_reducible exact Has.here | with_reducible refine Has.there ?_)), List.forall_mem_cons.2 ⟨hp2.pk (by repeat (first | with_reducible exact Has.here | with_reducible refine Has.there ?_)), by simp⟩⟩⟩) (hn := by rw [hjs, sixM_len]; omega) (hk := by show 3 ≤ _; omega)))) rfl rfl rfl ?_
                  rintro _ _ ⟨⟨a59, cap59⟩, rfl, hA⟩
                  simp only [List.cons_append, List.nil_append] at hA
                  replace hA := hA.symm
                  subst hA
                  rw [hjs]
                  refine WL_rd (Rd_move rfl) rfl rfl rfl ?_
                  refine WL_ac (Ac_bsL (f := fP) (zs := [.slice none 0 0]) (bs := [.slice none 0 0, .slice none 0 0, .slice none 0 0]) [(⟨s, ao, cap⟩ : Pt), (⟨(sixM k n seg), a59.map (fun g => ⟨g, 0, none⟩), cap59⟩ : Pt), (⟨f, ao2, cap2⟩ : Pt)] encP ud22 zr23 sz23 rfl (by rw [Array.toList_map, Array.toList_range]; rfl) (by rfl) (by rfl) (by rfl) (by rfl)) rfl rfl rfl ?_
                  rintro _ _ ⟨b61, rfl, rfl⟩
                  refine WL_fact (fun w h => arr_facts (a := a59) (cap := cap59) (e := 1) (T := 5) (f := eU .u8 (w := 8)) (l := (sixM k n seg)) (by repeat (first | with_reducible exact Has.here | with_reducible refine Has.there ?_)) h) (fun p6f => ?_)
                  have p6P : RdP [arr a59 cap59 1 5 (eU .u8) (sixM k n seg)] (⟨(sixM k n seg), a59.map (fun g => ⟨g, 0, none⟩), cap59⟩ : Pt) := Sv_own' (T := 5) (encU .u8 (w := 8)) p6f.1 p6f.2
                  have hpa : RdP [X] (⟨s, ao, cap⟩ : Pt) := hS
                  have hpb : RdP [X] (⟨f, ao2, cap2⟩ : Pt) := hF
                  have hLk : Sv [arr (some b61) 3 1 23 fP [(⟨s, ao, cap⟩ : Pt), (⟨(sixM k n seg), a59.map (fun g => ⟨g, 0, none⟩), cap59⟩ : Pt), (⟨f, ao2, cap2⟩ : Pt)]] (sl (some b61) 3 3) 1 fP [(⟨s, ao, cap⟩ : Pt), (⟨(sixM k n seg), a59.map (fun g => ⟨g, 0, none⟩), cap59⟩ : Pt), (⟨f, ao2, cap2⟩ : Pt)] (some ⟨b61, 0, none⟩) 3 := Sv_own' (a := some b61) (cap := 3) (T := 23) encP (l := [(⟨s, ao, cap⟩ : Pt), (⟨(sixM k n seg), a59.map (fun g => ⟨g, 0, none⟩), cap59⟩ : Pt), (⟨f, ao2, cap2⟩ : Pt)]) (by simp) (Nat.le_refl 3)
                  have hjk : (joinP [(⟨s, ao, cap⟩ : Pt), (⟨(sixM k n seg), a59.map (fun g => ⟨g, 0, none⟩), cap59⟩ : Pt), (⟨f, ao2, cap2⟩ : Pt)]).length = s.length + (sixM k n seg).length + f.length := by simp [joinP]; omega
                  have hmk : ([(⟨s, ao, cap⟩ : Pt), (⟨(sixM k n seg), a59.map (fun g => ⟨g, 0, none⟩), cap59⟩ : Pt), (⟨f, ao2, cap2⟩ : Pt)].map (·.l)) = [s, (sixM k n seg), f] := rfl
                  refine WL_ac (Ac_call cf37 rfl (hs := Ct.un0 (Xs := [arr (some b61) 3 1 23 fP [(⟨s, ao, cap⟩ : Pt), (⟨(sixM k n seg), a59.map (fun g => ⟨g, 0, none⟩), cap59⟩ : Pt), (⟨f, ao2, cap2⟩ : Pt)], arr a59 cap59 1 5 (eU .u8) (sixM k n seg), X]) (made_ct (t := 1#8) (X := sep [arr (some b61) 3 1 23 fP [(⟨s, ao, cap⟩ : Pt), (⟨(sixM k n seg), a59.map (fun g => ⟨g, 0, none⟩), cap59⟩ : Pt), (⟨f, ao2, cap2⟩ : Pt)], arr a59 cap59 1 5 (eU .u8) (sixM k n seg), X]) (ps := [(⟨s, ao, cap⟩ : Pt), (⟨(sixM k n seg), a59.map (fun g => ⟨g, 0, none⟩), cap59⟩ : Pt), (⟨f, ao2, cap2⟩ : Pt)]) (hS := hLk.pk (by repeat (first | with_reducible exact Has.here | with_reducible refine Has.there ?_))) (hP := List.forall_mem_cons.2 ⟨hpa.pk (by repeat (first | with_reducible exact Has.here | with_reducible refine Has.there ?_)), List.forall_mem_cons.2 ⟨p6P.pk (by repeat (first | with_reducible exact Has.here | with_reducible refine Has.there ?_)), List.forall_mem_cons.2 ⟨hpb.pk (by repeat (first | with_reducible exact Has.here | with_reducible refine Has.there ?_)), by simp⟩⟩⟩) (hn := by rw [hjk]; omega) (hk := by show 3 ≤ _; omega)))) rfl rfl rfl ?_
                  rintro _ _ ⟨⟨⟩, rfl, hA⟩
                  simp only [List.cons_append, List.nil_append] at hA
                  replace hA := hA.symm
                  subst hA
                  rw [hmk]
                  refine WL_ac (Ac_allocW (k := .u8) (w := 8) (m := 32) zr43) rfl rfl rfl ?_
                  rintro _ _ ⟨b12, rfl, rfl⟩
                  refine WL_ac0 (Ac_storeW rfl rfl sz43) rfl rfl ?_
                  rintro _ _ rfl
                  refine WL_end hK11 ?_
                  refine WC_sr fun K12 hK12 => ?_
                  have hD16 : Sv [arr (some b12) 32 1 43 (eU .u8 (w := 8)) (tagD 1#8 [s, (sixM k n seg), f])] (sl (some b12) 16 32) 1 (eU .u8 (w := 8)) (keyM s f k n seg) (some ⟨b12, 0, none⟩) 32 := by have h := Sv_pre (T := 43) (a := some b12) (cap := 32) (encU .u8 (w := 8)) (List.take_prefix 16 (tagD 1#8 [s, (sixM k n seg), f])) (by simp) (by omega); rw [show (tagD 1#8 [s, (sixM k n seg), f]).take 16 = keyM s f k n seg from rfl, h16] at h; exact h
                  refine WL_rd (Rd_sliceAh 16 rfl rfl ud43 sz5) rfl rfl rfl ?_
                  refine WL_rd (Rd_s2a (ao := some ⟨b12, 0, none⟩) (cap := 32) rfl ud41 (hA := hD16)) rfl rfl rfl ?_
                  refine WL_rd (Rd_valE (v := aU .u8 (keyM s f k n seg)) (Rd_loadW_sv (ao := some ⟨b12, 0, none⟩) (cap := 32) rfl tk41 (hA := hD16)) (by rw [List.take_of_length_le (by omega)])) rfl rfl rfl ?_
                  refine WL_ac0 (Ac_storeW rfl rfl sz41) rfl rfl ?_
                  rintro _ _ rfl
                  refine WL_rd (Rd_assign rfl) rfl rfl rfl ?_
                  refine WL_end hK12 ?_
                  refine WC_ret ?_
                  exact hret.goE () (Rs2cW rfl rfl rfl tk41) rfl

theorem keyR_ct {X : Asn} {v v2 : Value} {s f : List B8} {ao ao2 : Option Addr} {cap cap2 : Nat} {k n seg : Int} (hS : Sv [X] v 1 (eU .u8 (w := 8)) s ao cap := by assumption) (hF : Sv [X] v2 1 (eU .u8 (w := 8)) f ao2 cap2 := by assumption) (hs : s.length ≤ 64) (hk : 1 ≤ k) (hkn : k ≤ n) (hn : n ≤ 255) (hg1 : 1 ≤ seg) (hg2 : seg ≤ 65790) (hfl : f.length ≤ 16777216)  : Ct Try.prog 53 [v, .int .i64 k, .int .i64 n, .int .i64 seg, v2] [X] (fun _ : Unit => .tuple #[aU .u8 (keyM s f k n seg), .int .i64 0]) (fun _ => [X]) := by
  refine Ct_body (n := 69) Try.func53 rfl rfl rfl fun F w0 Q hret hnorm hp => ?_
  change WC _ _ _ _ _ _ _ (_ :: F)
  have hv0 := hS.val
  subst hv0
  have hv1 := hF.val
  subst hv1
  have h6l := sixM_len k n seg
  have htd := tagD_len 1#8 [s, (sixM k n seg), f]
  have h16 := keyM_len s f k n seg
  have hok : tagE 1#8 [s, sixM k n seg, f] = 0 := by unfold tagE; rw [if_neg (by decide), if_pos (by rw [fitM_1 rfl]; simp [lens, h6l]; omega)]
  have hw4 : BitVec.ofInt 64 seg = (BitVec.ofInt 32 seg).setWidth 64 := by apply BitVec.eq_of_toNat_eq; rw [BitVec.toNat_setWidth, BitVec.toNat_ofInt, BitVec.toNat_ofInt]; omega
  refine WC_sr fun K1 hK1 => ?_
  refine WL_ac (Ac_allocW (k := .u8) (w := 8) (m := 16) zr41) rfl rfl rfl ?_
  rintro _ _ ⟨b10, rfl, rfl⟩
  refine WL_rd (Rd_assign rfl) rfl rfl rfl ?_
  refine WL_end hK1 ?_
  refine WC_seq fun K2 hK2 => ?_
  refine WC_sr fun K3 hK3 => ?_
  refine WL_rd (Rd_move rfl) rfl rfl rfl ?_
  refine WL_rd (Rd_len_sv rfl rfl ud23) rfl rfl rfl ?_
  refine WL_rd (Rd_gtrN (j := 64) rfl rfl) rfl rfl rfl ?_
  refine WL_rd (Rd_move rfl) rfl rfl rfl ?_
  refine WL_bool 19 rfl (fun hg4 => ?_) (fun hg4 => ?_)
  · try simp only [decide_eq_true_eq, decide_eq_false_iff_not, Bool.not_eq_true', Bool.not_eq_false', Bool.not_eq_true, Bool.not_eq_false, Int.not_lt, Int.not_le, Nat.not_lt, Nat.not_le, Decidable.not_not, ne_eq] at hg4
    refine WL_skip rfl rfl rfl ?_
    refine WL_skip rfl rfl rfl ?_
    refine WL_rd (Rd_pickT rfl rfl) rfl rfl rfl ?_
    refine WL_rd (Rd_move rfl) rfl rfl rfl ?_
    refine WL_skip rfl rfl rfl ?_
    refine WL_skip rfl rfl rfl ?_
    refine WL_skip rfl rfl rfl ?_
    refine WL_rd (Rd_pickT rfl rfl) rfl rfl rfl ?_
    refine WL_rd (Rd_move rfl) rfl rfl rfl ?_
    refine WL_skip rfl rfl rfl ?_
    refine WL_skip rfl rfl rfl ?_
    refine WL_rd (Rd_pickT rfl rfl) rfl rfl rfl ?_
    refine WL_rd (Rd_move rfl) rfl rfl rfl ?_
    refine WL_skip rfl rfl rfl ?_
    refine WL_skip rfl rfl rfl ?_
    refine WL_rd (Rd_pickT rfl rfl) rfl rfl rfl ?_
    refine WL_rd (Rd_move rfl) rfl rfl rfl ?_
    refine WL_skip rfl rfl rfl ?_
    refine WL_skip rfl rfl rfl ?_
    refine WL_rd (Rd_pickT rfl rfl) rfl rfl rfl ?_
    refine WL_end hK3 ?_
    refine WC_condT rfl ?_
    omega
  · try simp only [decide_eq_true_eq, decide_eq_false_iff_not, Bool.not_eq_true', Bool.not_eq_false', Bool.not_eq_true, Bool.not_eq_false, Int.not_lt, Int.not_le, Nat.not_lt, Nat.not_le, Decidable.not_not, ne_eq] at hg4
    refine WL_rd (Rd_move rfl) rfl rfl rfl ?_
    refine WL_rd (Rd_lss rfl rfl) rfl rfl rfl ?_
    refine WL_rd (Rd_pickF rfl rfl) rfl rfl rfl ?_
    refine WL_rd (Rd_move rfl) rfl rfl rfl ?_
    refine WL_bool 23 rfl (fun hg5 => ?_) (fun hg5 => ?_)
    · try simp only [decide_eq_true_eq, decide_eq_false_iff_not, Bool.not_eq_true', Bool.not_eq_false', Bool.not_eq_true, Bool.not_eq_false, Int.not_lt, Int.not_le, Nat.not_lt, Nat.not_le, Decidable.not_not, ne_eq] at hg5
      refine WL_skip rfl rfl rfl ?_
      refine WL_skip rfl rfl rfl ?_
      refine WL_skip rfl rfl rfl ?_
      refine WL_rd (Rd_pickT rfl rfl) rfl rfl rfl ?_
      refine WL_rd (Rd_move rfl) rfl rfl rfl ?_
      refine WL_skip rfl rfl rfl ?_
      refine WL_skip rfl rfl rfl ?_
      refine WL_rd (Rd_pickT rfl rfl) rfl rfl rfl ?_
      refine WL_rd (Rd_move rfl) rfl rfl rfl ?_
      refine WL_skip rfl rfl rfl ?_
      refine WL_skip rfl rfl rfl ?_
      refine WL_rd (Rd_pickT rfl rfl) rfl rfl rfl ?_
      refine WL_rd (Rd_move rfl) rfl rfl rfl ?_
      refine WL_skip rfl rfl rfl ?_
      refine WL_skip rfl rfl rfl ?_
      refine WL_rd (Rd_pickT rfl rfl) rfl rfl rfl ?_
      refine WL_end hK3 ?_
      refine WC_condT rfl ?_
      omega
    · try simp only [decide_eq_true_eq, decide_eq_false_iff_not, Bool.not_eq_true', Bool.not_eq_false', Bool.not_eq_true, Bool.not_eq_false, Int.not_lt, Int.not_le, Nat.not_lt, Nat.not_le, Decidable.not_not, ne_eq] at hg5
      refine WL_rd (Rd_move rfl) rfl rfl rfl ?_
      refine WL_rd (Rd_move rfl) rfl rfl rfl ?_
      refine WL_rd (Rd_gtr rfl rfl) rfl rfl rfl ?_
      refine WL_rd (Rd_pickF rfl rfl) rfl rfl rfl ?_
      refine WL_rd (Rd_move rfl) rfl rfl rfl ?_
      refine WL_bool 28 rfl (fun hg6 => ?_) (fun hg6 => ?_)
      · try simp only [decide_eq_true_eq, decide_eq_false_iff_not, Bool.not_eq_true', Bool.not_eq_false', Bool.not_eq_true, Bool.not_eq_false, Int.not_lt, Int.not_le, Nat.not_lt, Nat.not_le, Decidable.not_not, ne_eq] at hg6
        refine WL_skip rfl rfl rfl ?_
        refine WL_skip rfl rfl rfl ?_
        refine WL_rd (Rd_pickT rfl rfl) rfl rfl rfl ?_
        refine WL_rd (Rd_move rfl) rfl rfl rfl ?_
        refine WL_skip rfl rfl rfl ?_
        refine WL_skip rfl rfl rfl ?_
        refine WL_rd (Rd_pickT rfl rfl) rfl rfl rfl ?_
        refine WL_rd (Rd_move rfl) rfl rfl rfl ?_
        refine WL_skip rfl rfl rfl ?_
        refine WL_skip rfl rfl rfl ?_
        refine WL_rd (Rd_pickT rfl rfl) rfl rfl rfl ?_
        refine WL_end hK3 ?_
        refine WC_condT rfl ?_
        omega
      · try simp only [decide_eq_true_eq, decide_eq_false_iff_not, Bool.not_eq_true', Bool.not_eq_false', Bool.not_eq_true, Bool.not_eq_false, Int.not_lt, Int.not_le, Nat.not_lt, Nat.not_le, Decidable.not_not, ne_eq] at hg6
        refine WL_rd (Rd_move rfl) rfl rfl rfl ?_
        refine WL_rd (Rd_gtr rfl rfl) rfl rfl rfl ?_
        refine WL_rd (Rd_pickF rfl rfl) rfl rfl rfl ?_
        refine WL_rd (Rd_move rfl) rfl rfl rfl ?_
        refine WL_bool 32 rfl (fun hg7 => ?_) (fun hg7 => ?_)
        · try simp only [decide_eq_true_eq, decide_eq_false_iff_not, Bool.not_eq_true', Bool.not_eq_false', Bool.not_eq_true, Bool.not_eq_false, Int.not_lt, Int.not_le, Nat.not_lt, Nat.not_le, Decidable.not_not, ne_eq] at hg7
          refine WL_skip rfl rfl rfl ?_
          refine WL_skip rfl rfl rfl ?_
          refine WL_rd (Rd_pickT rfl rfl) rfl rfl rfl ?_
          refine WL_rd (Rd_move rfl) rfl rfl rfl ?_
          refine WL_skip rfl rfl rfl ?_
          refine WL_skip rfl rfl rfl ?_
          refine WL_rd (Rd_pickT rfl rfl) rfl rfl rfl ?_
          refine WL_end hK3 ?_
          refine WC_condT rfl ?_
          omega
        · try simp only [decide_eq_true_eq, decide_eq_false_iff_not, Bool.not_eq_true', Bool.not_eq_false', Bool.not_eq_true, Bool.not_eq_false, Int.not_lt, Int.not_le, Nat.not_lt, Nat.not_le, Decidable.not_not, ne_eq] at hg7
          refine WL_rd (Rd_move rfl) rfl rfl rfl ?_
          refine WL_rd (Rd_lss rfl rfl) rfl rfl rfl ?_
          refine WL_rd (Rd_pickF rfl rfl) rfl rfl rfl ?_
          refine WL_rd (Rd_move rfl) rfl rfl rfl ?_
          refine WL_bool 36 rfl (fun hg8 => ?_) (fun hg8 => ?_)
          · try simp only [decide_eq_true_eq, decide_eq_false_iff_not, Bool.not_eq_true', Bool.not_eq_false', Bool.not_eq_true, Bool.not_eq_false, Int.not_lt, Int.not_le, Nat.not_lt, Nat.not_le, Decidable.not_not, ne_eq] at hg8
            refine WL_skip rfl rfl rfl ?_
            refine WL_skip rfl rfl rfl ?_
            refine WL_rd (Rd_pickT rfl rfl) rfl rfl rfl ?_
            refine WL_end hK3 ?_
            refine WC_condT rfl ?_
            omega
          · try simp only [decide_eq_true_eq, decide_eq_false_iff_not, Bool.not_eq_true', Bool.not_eq_false', Bool.not_eq_true, Bool.not_eq_false, Int.not_lt, Int.not_le, Nat.not_lt, Nat.not_le, Decidable.not_not, ne_eq] at hg8
            refine WL_rd (Rd_move rfl) rfl rfl rfl ?_
            refine WL_rd (Rd_gtr rfl rfl) rfl rfl rfl ?_
            refine WL_rd (Rd_pickF rfl rfl) rfl rfl rfl ?_
            refine WL_end hK3 ?_
            refine WC_cond rfl (fun hc0 => ?_) (fun hc0 => ?_)
            · try simp only [decide_eq_true_eq, decide_eq_false_iff_not, Bool.not_eq_true', Bool.not_eq_false', Bool.not_eq_true, Bool.not_eq_false, Int.not_lt, Int.not_le, Nat.not_lt, Nat.not_le, Decidable.not_not, ne_eq] at hc0
              omega
            · try simp only [decide_eq_true_eq, decide_eq_false_iff_not, Bool.not_eq_true', Bool.not_eq_false', Bool.not_eq_true, Bool.not_eq_false, Int.not_lt, Int.not_le, Nat.not_lt, Nat.not_le, Decidable.not_not, ne_eq] at hc0
              refine WC_skip ?_
              refine Ps_next hK2 ?_
              refine WC_seq fun K9 hK9 => ?_
              refine WC_sr fun K10 hK10 => ?_
              refine WL_rd (Rd_move rfl) rfl rfl rfl ?_
              refine WL_rd (Rd_len_sv rfl rfl ud23) rfl rfl rfl ?_
              refine WL_rd (Rd_gtrN (j := 16777216) rfl rfl) rfl rfl rfl ?_
              refine WL_end hK10 ?_
              refine WC_cond rfl (fun hc1 => ?_) (fun hc1 => ?_)
              · try simp only [decide_eq_true_eq, decide_eq_false_iff_not, Bool.not_eq_true', Bool.not_eq_false', Bool.not_eq_true, Bool.not_eq_false, Int.not_lt, Int.not_le, Nat.not_lt, Nat.not_le, Decidable.not_not, ne_eq] at hc1
                omega
              · try simp only [decide_eq_true_eq, decide_eq_false_iff_not, Bool.not_eq_true', Bool.not_eq_false', Bool.not_eq_true, Bool.not_eq_false, Int.not_lt, Int.not_le, Nat.not_lt, Nat.not_le, Decidable.not_not, ne_eq] at hc1
                refine WC_skip ?_
                refine Ps_next hK9 ?_
                refine WC_sr fun K11 hK11 => ?_
                refine WL_rd (Rd_move rfl) rfl rfl rfl ?_
                refine WL_rd (Rd_convZU rfl ikd3_5 (h' := uk8)) rfl rfl rfl ?_
                refine WL_rd (Rd_move rfl) rfl rfl rfl ?_
                refine WL_rd (Rd_convZU rfl ikd3_5 (h' := uk8)) rfl rfl rfl ?_
                refine WL_ac (Ac_bsL (f := (eU .u8 (w := 8))) (zs := [.int .u8 0]) (bs := [.int .u8 0, .int .u8 0]) [BitVec.ofInt 8 k, BitVec.ofInt 8 n] (encU .u8) ud23 zr5 sz5 rfl (by rw [Array.toList_map, Array.toList_range]; rfl) (by rfl) (by rfl) (by rfl) (by rfl)) rfl rfl rfl ?_
                rintro _ _ ⟨b49, rfl, rfl⟩
                refine WL_rd (Rd_move rfl) rfl rfl rfl ?_
                refine WL_rd (Rd_convZU rfl ikd3_58 (h' := uk64)) rfl rfl rfl ?_
                rw [hw4]
                refine WL_ac (Ac_call cf78 rfl (hs := bigR4_ct (x := BitVec.ofInt 32 seg))) rfl rfl rfl ?_
                rintro _ _ ⟨⟨⟨g52, c52⟩, hc52⟩, rfl, hA⟩
                simp only [List.cons_append, List.nil_append] at hA
                replace hA := hA.symm
                subst hA
                dsimp only at hc52 ⊢
                have hSb : Sv [arr (some g52) c52 1 5 (eU .u8 (w := 8)) (big32 (BitVec.ofInt 32 seg))] (sl (some g52) 4 c52) 1 (eU .u8 (w := 8)) (big32 (BitVec.ofInt 32 seg)) (some ⟨g52, 0, none⟩) c52 := by have h := Sv_own' (T := 5) (a := some g52) (cap := c52) (encU .u8 (w := 8)) (l := (big32 (BitVec.ofInt 32 seg))) (by simp) (by rw [big32_len]; exact hc52); rw [big32_len] at h; exact h
                refine WL_ac (Ac_appendS (f := (eU .u8 (w := 8))) (encU .u8) rfl rfl ud23 ud23 el5 (hS := hSb) (hb := by rw [big32_len]; simp)) rfl rfl rfl ?_
                rintro _ _ ⟨a53, cap53, rfl, rfl⟩
                rw [show [BitVec.ofInt 8 k, BitVec.ofInt 8 n] ++ (big32 (BitVec.ofInt 32 seg)) = (sixM k n seg) from rfl]
                try rw [show [BitVec.ofInt 8 k, BitVec.ofInt 8 n].length + 4 = (sixM k n seg).length from by rw [h6l]; rfl]
                refine WL_rd (Rd_assign rfl) rfl rfl rfl ?_
                refine WL_end hK11 ?_
                refine WC_sr fun K12 hK12 => ?_
                refine WL_rd (Rd_move rfl) rfl rfl rfl ?_
                refine WL_rd (Rd_move rfl) rfl rfl rfl ?_
                refine WL_rd (Rd_move rfl) rfl rfl rfl ?_
                refine WL_ac (Ac_bsL (f := fP) (zs := [.slice none 0 0]) (bs := [.slice none 0 0, .slice none 0 0, .slice none 0 0]) [(⟨s, ao, cap⟩ : Pt), (⟨(sixM k n seg), a53.map (fun g => ⟨g, 0, none⟩), cap53⟩ : Pt), (⟨f, ao2, cap2⟩ : Pt)] encP ud22 zr23 sz23 rfl (by rw [Array.toList_map, Array.toList_range]; rfl) (by rfl) (by rfl) (by rfl) (by rfl)) rfl rfl rfl ?_
                rintro _ _ ⟨b57, rfl, rfl⟩
                refine WL_fact (fun w h => arr_facts (a := a53) (cap := cap53) (e := 1) (T := 5) (f := eU .u8 (w := 8)) (l := (sixM k n seg)) (by repeat (first | with_reducible exact Has.here | with_reducible refine Has.there ?_)) h) (fun p6f => ?_)
                have p6P : RdP [arr a53 cap53 1 5 (eU .u8) (sixM k n seg)] (⟨(sixM k n seg), a53.map (fun g => ⟨g, 0, none⟩), cap53⟩ : Pt) := Sv_own' (T := 5) (encU .u8 (w := 8)) p6f.1 p6f.2
                have hpa : RdP [X] (⟨s, ao, cap⟩ : Pt) := hS
                have hpb : RdP [X] (⟨f, ao2, cap2⟩ : Pt) := hF
                have hLk : Sv [arr (some b57) 3 1 23 fP [(⟨s, ao, cap⟩ : Pt), (⟨(sixM k n seg), a53.map (fun g => ⟨g, 0, none⟩), cap53⟩ : Pt), (⟨f, ao2, cap2⟩ : Pt)]] (sl (some b57) 3 3) 1 fP [(⟨s, ao, cap⟩ : Pt), (⟨(sixM k n seg), a53.map (fun g => ⟨g, 0, none⟩), cap53⟩ : Pt), (⟨f, ao2, cap2⟩ : Pt)] (some ⟨b57, 0, none⟩) 3 := Sv_own' (a := some b57) (cap := 3) (T := 23) encP (l := [(⟨s, ao, cap⟩ : Pt), (⟨(sixM k n seg), a53.map (fun g => ⟨g, 0, none⟩), cap53⟩ : Pt), (⟨f, ao2, cap2⟩ : Pt)]) (by simp) (Nat.le_refl 3)
                have hjk : (joinP [(⟨s, ao, cap⟩ : Pt), (⟨(sixM k n seg), a53.map (fun g => ⟨g, 0, none⟩), cap53⟩ : Pt), (⟨f, ao2, cap2⟩ : Pt)]).length = s.length + (sixM k n seg).length + f.length := by simp [joinP]; omega
                have hmk : ([(⟨s, ao, cap⟩ : Pt), (⟨(sixM k n seg), a53.map (fun g => ⟨g, 0, none⟩), cap53⟩ : Pt), (⟨f, ao2, cap2⟩ : Pt)].map (·.l)) = [s, (sixM k n seg), f] := rfl
                refine WL_ac (Ac_call cf84 rfl (hs := Ct.un0 (Xs := [arr (some b57) 3 1 23 fP [(⟨s, ao, cap⟩ : Pt), (⟨(sixM k n seg), a53.map (fun g => ⟨g, 0, none⟩), cap53⟩ : Pt), (⟨f, ao2, cap2⟩ : Pt)], arr a53 cap53 1 5 (eU .u8) (sixM k n seg), X]) (digestR_ct (t := 1#8) (X := sep [arr (some b57) 3 1 23 fP [(⟨s, ao, cap⟩ : Pt), (⟨(sixM k n seg), a53.map (fun g => ⟨g, 0, none⟩), cap53⟩ : Pt), (⟨f, ao2, cap2⟩ : Pt)], arr a53 cap53 1 5 (eU .u8) (sixM k n seg), X]) (ps := [(⟨s, ao, cap⟩ : Pt), (⟨(sixM k n seg), a53.map (fun g => ⟨g, 0, none⟩), cap53⟩ : Pt), (⟨f, ao2, cap2⟩ : Pt)]) (hS := hLk.pk (by repeat (first | with_reducible exact Has.here | with_reducible refine Has.there ?_))) (hP := List.forall_mem_cons.2 ⟨hpa.pk (by repeat (first | with_reducible exact Has.here | with_reducible refine Has.there ?_)), List.forall_mem_cons.2 ⟨p6P.pk (by repeat (first | with_reducible exact Has.here | with_reducible refine Has.there ?_)), List.forall_mem_cons.2 ⟨hpb.pk (by repeat (first | with_reducible exact Has.here | with_reducible refine Has.there ?_)), by simp⟩⟩⟩) (hn := by rw [hjk]; omega) (hk := by show 3 ≤ _; omega) (hok := hok)))) rfl rfl rfl ?_
                rintro _ _ ⟨⟨⟩, rfl, hA⟩
                simp only [List.cons_append, List.nil_append] at hA
                replace hA := hA.symm
                subst hA
                rw [hmk]
                refine WL_ac (Ac_allocW (k := .u8) (w := 8) (m := 32) zr43) rfl rfl rfl ?_
                rintro _ _ ⟨b13, rfl, rfl⟩
                refine WL_ac0 (Ac_storeW rfl rfl sz43) rfl rfl ?_
                rintro _ _ rfl
                refine WL_end hK12 ?_
                refine WC_sr fun K13 hK13 => ?_
                refine WL_ac (Ac_allocW (k := .u8) (w := 8) (m := 16) zr41) rfl rfl rfl ?_
                rintro _ _ ⟨b14, rfl, rfl⟩
                refine WL_end hK13 ?_
                refine WC_seq fun K14 hK14 => ?_
                refine WC_sr fun K15 hK15 => ?_
                refine WL_rd (Rd_assign rfl) rfl rfl rfl ?_
                refine WL_end hK15 ?_
                refine WC_block ?_
                rw [show arr (some b14) 16 1 41 (eU .u8 (w := 8)) (List.replicate 16 0#8) = arr (some b14) 16 1 41 (eU .u8 (w := 8)) (cpL (tagD 1#8 [s, (sixM k n seg), f]) 0) from by rw [cpL_0]]
                refine WC_loopK (σ := Nat) (fun i' => [(15, .int .i64 ((i' : Nat) : Int))]) (fun i' => [arr (some b14) 16 1 41 (eU .u8 (w := 8)) (cpL (tagD 1#8 [s, (sixM k n seg), f]) i')]) (fun i' => i' ≤ 16) (fun i' => 16 - i') (0) [10, 11, 13, 14, 68] (by repeat (first | exact Kep.nil | apply Kep.drop rfl | apply Kep.keep rfl)) (by (try dsimp only); repeat (first | with_reducible exact Gv.nil | (with_reducible apply Gv.cons; · (repeat (first | with_reducible exact Ext.here | with_reducible apply Ext.there))))) ?_ ?_ Sub.refl ?_
                · exact Nat.zero_le _
                · (try dsimp only); exact (Wk.cons (by first | rfl | (simp only [List.length_append, List.length_cons, List.length_nil, List.length_replicate, Nat.zero_add]; rfl) | (simp; done)) Wk.nil)
                · rintro i' hi K16 hK16
                  simp only [List.cons_append, List.nil_append]
                  have hcl := cpL_len (l := (tagD 1#8 [s, (sixM k n seg), f])) htd hi
                  refine WC_seq fun K17 hK17 => ?_
                  refine WC_sr fun K18 hK18 => ?_
                  refine WL_rd (Rd_move rfl) rfl rfl rfl ?_
                  refine WL_rd (Rd_lssN (j := 16) rfl rfl) rfl rfl rfl ?_
                  refine WL_end hK18 ?_
                  refine WC_cond rfl (fun hc2 => ?_) (fun hc2 => ?_)
                  · try simp only [decide_eq_true_eq, decide_eq_false_iff_not, Bool.not_eq_true', Bool.not_eq_false', Bool.not_eq_true, Bool.not_eq_false, Int.not_lt, Int.not_le, Nat.not_lt, Nat.not_le, Decidable.not_not, ne_eq] at hc2
                    refine WC_skip ?_
                    refine Ps_next hK17 ?_
                    refine WC_seq fun K19 hK19 => ?_
                    refine WC_block ?_
                    refine WC_region ?_
                    refine WL_rd (Rd_move rfl) rfl rfl rfl ?_
                    refine WL_rd (Rd_move rfl) rfl rfl rfl ?_
                    refine WL_rd (Rd_ixA _ rfl rfl ud43 sz5) rfl rfl rfl ?_
                    refine WL_rd (Rd_loadU rfl tk5) rfl rfl rfl ?_
                    refine WL_rd (Rd_ixA _ rfl rfl ud41 sz5) rfl rfl rfl ?_
                    refine WL_ac0 (Ac_storeU rfl rfl sz5) rfl rfl ?_
                    rintro _ _ rfl
                    rw [cpL_set htd (by omega)]
                    refine WL_nil ?_
                    refine Ps_next hK19 ?_
                    refine WC_region ?_
                    refine WL_rd (Rd_move rfl) rfl rfl rfl ?_
                    refine WL_rd (Rd_addN (j := 1) rfl rfl) rfl rfl rfl ?_
                    refine WL_rd (Rd_assign rfl) rfl rfl rfl ?_
                    refine WL_nil ?_
                    refine Ps_wk (by (try simp only [List.cons_append, List.nil_append]); repeat (first | with_reducible exact Wk.nil | refine Wk.cons (by first | rfl | (simp only [List.length_append, List.length_cons, List.length_nil, List.length_replicate, Nat.zero_add]; rfl) | (simp; done)) ?_)) (by (try simp only [List.cons_append, List.nil_append]); repeat (first | with_reducible exact Sub.refl | with_reducible exact Sub.nil | with_reducible refine Sub.cons (by repeat (first | with_reducible exact Ext.here | with_reducible apply Ext.there)) ?_ | with_reducible refine Sub.tail ?_)) (hK16 (i' + 1) (by omega) (by omega))
                  · try simp only [decide_eq_true_eq, decide_eq_false_iff_not, Bool.not_eq_true', Bool.not_eq_false', Bool.not_eq_true, Bool.not_eq_false, Int.not_lt, Int.not_le, Nat.not_lt, Nat.not_le, Decidable.not_not, ne_eq] at hc2
                    obtain rfl : i' = 16 := by omega
                    rw [cpL_16, show (tagD 1#8 [s, sixM k n seg, f]).take 16 = keyM s f k n seg from rfl]
                    refine WC_exit ?_
                    refine Ps_next hK14 ?_
                    refine WC_sr fun K20 hK20 => ?_
                    refine WL_rd (Rd_loadW rfl tk41) rfl rfl rfl ?_
                    refine WL_ac0 (Ac_storeW rfl rfl sz41) rfl rfl ?_
                    rintro _ _ rfl
                    refine WL_rd (Rd_assign rfl) rfl rfl rfl ?_
                    refine WL_end hK20 ?_
                    refine WC_ret ?_
                    exact hret.goE () (Rs2cW rfl rfl rfl tk41) rfl
end Go.Proofs.Ytlcafifjhilleaa
