/-
  Contracts of functions that the claim reaches, or the logic and the plain laws that they rest on, or the row over them. (Conditions: none beyond the statement.)
-/
import Derived.Test.YtlcafifjhilleaaPqRdA
import Derived.Test.YtlcafifjhilleaaShOp
set_option linter.all false
namespace Go.Proofs.Ytlcafifjhilleaa
open Go.RowKit Go.SL Go.ShM
set_option maxHeartbeats 1000000
set_option maxRecDepth 20000
set_option linter.all false

theorem long2_ct {X : Asn} {v : Value} {r : List B8} {ao : Option Addr} {cap2 c : Nat} (hS : Sv [X] v 1 (eU .u8 (w := 8)) r ao cap2 := by assumption) (hl : r.length ≤ 900000000000 := by omega) : Ct Try.prog 20 [.pointer (some ⟨c, 0, none⟩)] [cl c 90 [v, .bool true, .bool false], X] (fun _ : {g : Value × Bool // (g.2 = true ∧ r.length < 8) ∨ (g.2 = false ∧ 8 ≤ r.length ∧ g.1 = (.slice (sao ao 8 1 cap2) (r.length - 8) (cap2 - 8)))} => .int .u64 (((lgM r).toNat : Nat) : Int)) (fun g => [cl c 90 [g.val.1, .bool true, .bool g.val.2], X]) := by
  rcases Nat.lt_or_ge r.length 8 with h | h
  · rw [lgM_no h]
    exact Ct_way fun F w hs => ⟨Unit, _, _, _, long_no (X := X) (v := v) (r := r) (hS := hS), hs, fun _ w' hw => ⟨⟨(v, true), .inl ⟨rfl, h⟩⟩, rfl, hw⟩⟩
  · rw [lgM_ok h]
    exact Ct_way fun F w hs => ⟨Unit, _, _, _, long_ct (X := X) (v := v) (r := r) (hS := hS), hs, fun _ w' hw => ⟨⟨((.slice (sao ao 8 1 cap2) (r.length - 8) (cap2 - 8)), false), .inr ⟨rfl, h, rfl⟩⟩, rfl, hw⟩⟩
theorem left2_ct {X : Asn} {v : Value} {r : List B8} {ao : Option Addr} {cap2 c : Nat} {ft : Bool} (h : ft = false → Sv [X] v 1 (eU .u8 (w := 8)) r ao cap2) (hl : r.length ≤ 900000000000 := by omega) : Ct Try.prog 21 [.pointer (some ⟨c, 0, none⟩)] [cl c 90 [v, .bool true, .bool ft], X] (fun _ : Unit => .int .i64 (((lfM ft r.length) : Nat) : Int)) (fun _ => [cl c 90 [v, .bool true, .bool ft], X]) := by
  cases ft with
  | true => exact (left_no (v := v) (c := c)).frame [X]
  | false => exact left_ct (X := X) (v := v) (r := r) (hS := h rfl)

theorem clone2_ct {X : Asn} {v : Value} {ps : List PB} {ao : Option Addr} {cap2 : Nat} (hS : Sv [X] v 1 ePB ps ao cap2 := by assumption) (hl : ps.length ≤ 900000000000 := by omega) : Ct Try.prog 23 [v] [X] (fun g : Option Nat × Nat => sl g.1 ps.length g.2) (fun g => [X, arr g.1 g.2 1 23 ePB ps]) := by
  refine Ct_body (n := 8) Try.func23 rfl rfl rfl fun F w0 Q hret hnorm hp => ?_
  change WC _ _ _ _ _ _ _ (_ :: F)
  have hv0 := hS.val
  subst hv0
  refine WC_sr fun K1 hK1 => ?_
  refine WL_rd (Rd_assign (v := sl none 0 0) rfl) rfl rfl rfl ?_
  refine WL_end hK1 ?_
  refine WC_seq fun K2 hK2 => ?_
  refine WC_sr fun K3 hK3 => ?_
  refine WL_rd (Rd_move rfl) rfl rfl rfl ?_
  refine WL_rd (Rd_seq rfl rfl ud22) rfl rfl rfl ?_
  refine WL_end hK3 ?_
  refine WC_cond rfl (fun hc0 => ?_) (fun hc0 => ?_)
  · try simp only [decide_eq_true_eq, decide_eq_false_iff_not, Bool.not_eq_true', Bool.not_eq_false', Bool.not_eq_true, Bool.not_eq_false, Int.not_lt, Int.not_le, Nat.not_lt, Nat.not_le, Decidable.not_not, ne_eq] at hc0
    have hnil := sv_nilB hS hc0
    subst hnil
    refine WC_imp (fun w h => sat_nil (e := 1) (T := 23) (f := ePB) h) ?_
    refine WC_sr fun K4 hK4 => ?_
    refine WL_rd (Rd_assign (v := sl none 0 0) rfl) rfl rfl rfl ?_
    refine WL_end hK4 ?_
    refine WC_ret ?_
    first | exact hret.go (none, 0) (Rs1 rfl rfl) | exact hret.go (a7, cap7) (Rs1 rfl rfl)
  · try simp only [decide_eq_true_eq, decide_eq_false_iff_not, Bool.not_eq_true', Bool.not_eq_false', Bool.not_eq_true, Bool.not_eq_false, Int.not_lt, Int.not_le, Nat.not_lt, Nat.not_le, Decidable.not_not, ne_eq] at hc0
    refine WC_skip ?_
    refine Ps_next hK2 ?_
    refine WC_sr fun K5 hK5 => ?_
    refine WL_ac (Ac_bsL (f := ePB) (zs := [.slice none 0 0]) (bs := []) [] encPB ud22 zr23 sz23 rfl (by rw [Array.toList_map, Array.toList_range]; rfl) (by rfl) (by rfl) (by rfl) (by rfl)) rfl rfl rfl ?_
    rintro _ _ ⟨b5, rfl, rfl⟩
    refine WL_rd (Rd_move rfl) rfl rfl rfl ?_
    refine WL_ac (Ac_appendS (f := ePB) encPB rfl rfl ud22 ud22 el23 (hS := hS) (hb := by simp only [List.length_nil]; omega)) rfl rfl rfl ?_
    rintro _ _ ⟨a7, cap7, rfl, rfl⟩
    rw [show ([] : List PB).length + ps.length = ps.length from Nat.zero_add _, List.nil_append]
    refine WL_rd (Rd_assign rfl) rfl rfl rfl ?_
    refine WL_end hK5 ?_
    refine WC_ret ?_
    first | exact hret.go (none, 0) (Rs1 rfl rfl) | exact hret.go (a7, cap7) (Rs1 rfl rfl)

structure RG where
  a : Option Nat
  cap : Nat
  ps : List PB
end Go.Proofs.Ytlcafifjhilleaa
