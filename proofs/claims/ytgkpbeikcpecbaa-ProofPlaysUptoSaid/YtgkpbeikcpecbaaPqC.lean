/-
  Contracts of functions that the claim reaches, or the logic and the plain laws that they rest on, or the row over them. (Conditions: none beyond the statement.)
-/
import Derived.Test.YtgkpbeikcpecbaaPqB
import Derived.Test.YtgkpbeikcpecbaaLibC
set_option linter.all false
namespace Go.Proofs.Ytgkpbeikcpecbaa
open Go.RowKit Go.SL Go.ShM
set_option maxHeartbeats 1000000
set_option maxRecDepth 20000
set_option linter.all false
theorem ikd3_5 : ikd Try.prog 3 5 = some .u8 := by kernel_rfl
end Go.Proofs.Ytgkpbeikcpecbaa
namespace Go.Proofs.Ytgkpbeikcpecbaa
open Go.RowKit Go.SL Go.ShM
set_option maxHeartbeats 1000000
set_option maxRecDepth 20000
set_option linter.all false

end Go.Proofs.Ytgkpbeikcpecbaa
namespace Go.Proofs.Ytgkpbeikcpecbaa
open Go.RowKit Go.SL Go.ShM
set_option maxHeartbeats 1000000
set_option maxRecDepth 20000
set_option linter.all false
theorem cf190 : cfn Try.prog 190 = true := by kernel_rfl
theorem cf191 : cfn Try.prog 191 = true := by kernel_rfl
theorem cf192 : cfn Try.prog 192 = true := by kernel_rfl
theorem cf195 : cfn Try.prog 195 = true := by kernel_rfl
theorem cf196 : cfn Try.prog 196 = true := by kernel_rfl
theorem sz216 : sz Try.prog 216 = some 1 := by kernel_rfl
theorem ud214 : Try.prog.underlying 214 = some (.slice 216) := by kernel_rfl
theorem zr216 : zr Try.prog 216 = some [.nilFunc] := by kernel_rfl
theorem word_ct {t : B8}  : Ct Try.prog 54 [.int .u8 ((t.toNat : Nat) : Int)] [] (fun _ : Unit => .string (wordS t)) (fun _ => []) := by
 refine Ct_body (n := 22) Try.func54 rfl rfl rfl fun F w0 Q hret hnorm hp => ?_
 change WC _ _ _ _ _ _ _ (F)
 refine WC_sr fun K1 hK1 => ?_
 refine WL_r (Rd_assign rfl) rfl ?_
 refine WL_end hK1 ?_
 refine WC_seq fun K2 hK2 => ?_
 refine WC_sr fun K3 hK3 => ?_
 refine WL_r (Rd_move rfl) rfl ?_
 refine WL_end hK3 ?_
 refine WC_block ?_
 refine WC_sr fun K4 hK4 => ?_
 refine WL_r (Rd_eqlU (b := 1#8) rfl rfl) rfl ?_
 refine WL_r (Rd_assign rfl) rfl ?_
 refine WL_end hK4 ?_
 refine WC_cond rfl (fun hc0 => ?_) (fun hc0 => ?_)
 ·try simp only [dz, ne_eq] at hc0
  refine WC_sr fun K5 hK5 => ?_
  refine WL_r (Rd_assign rfl) rfl ?_
  refine WL_end hK5 ?_
  refine WC_ret ?_
  exact hret.goE () (Rs1 rfl rfl) (by unfold wordS; (repeat (first | rw [if_pos (by assumption)] | rw [if_neg (by assumption)])); try rfl)
 ·try simp only [dz, ne_eq] at hc0
  refine WC_sr fun K6 hK6 => ?_
  refine WL_r (Rd_eqlU (b := 2#8) rfl rfl) rfl ?_
  refine WL_r (Rd_assign rfl) rfl ?_
  refine WL_end hK6 ?_
  refine WC_cond rfl (fun hc1 => ?_) (fun hc1 => ?_)
  ·try simp only [dz, ne_eq] at hc1
   refine WC_sr fun K7 hK7 => ?_
   refine WL_r (Rd_assign rfl) rfl ?_
   refine WL_end hK7 ?_
   refine WC_ret ?_
   exact hret.goE () (Rs1 rfl rfl) (by unfold wordS; (repeat (first | rw [if_pos (by assumption)] | rw [if_neg (by assumption)])); try rfl)
  ·try simp only [dz, ne_eq] at hc1
   refine WC_sr fun K8 hK8 => ?_
   refine WL_r (Rd_eqlU (b := 3#8) rfl rfl) rfl ?_
   refine WL_r (Rd_assign rfl) rfl ?_
   refine WL_end hK8 ?_
   refine WC_cond rfl (fun hc2 => ?_) (fun hc2 => ?_)
   ·try simp only [dz, ne_eq] at hc2
    refine WC_sr fun K9 hK9 => ?_
    refine WL_r (Rd_assign rfl) rfl ?_
    refine WL_end hK9 ?_
    refine WC_ret ?_
    exact hret.goE () (Rs1 rfl rfl) (by unfold wordS; (repeat (first | rw [if_pos (by assumption)] | rw [if_neg (by assumption)])); try rfl)
   ·try simp only [dz, ne_eq] at hc2
    refine WC_sr fun K10 hK10 => ?_
    refine WL_r (Rd_eqlU (b := 4#8) rfl rfl) rfl ?_
    refine WL_r (Rd_assign rfl) rfl ?_
    refine WL_end hK10 ?_
    refine WC_cond rfl (fun hc3 => ?_) (fun hc3 => ?_)
    ·try simp only [dz, ne_eq] at hc3
     refine WC_sr fun K11 hK11 => ?_
     refine WL_r (Rd_assign rfl) rfl ?_
     refine WL_end hK11 ?_
     refine WC_ret ?_
     exact hret.goE () (Rs1 rfl rfl) (by unfold wordS; (repeat (first | rw [if_pos (by assumption)] | rw [if_neg (by assumption)])); try rfl)
    ·try simp only [dz, ne_eq] at hc3
     refine WC_sr fun K12 hK12 => ?_
     refine WL_r (Rd_eqlU (b := 5#8) rfl rfl) rfl ?_
     refine WL_r (Rd_assign rfl) rfl ?_
     refine WL_end hK12 ?_
     refine WC_cond rfl (fun hc4 => ?_) (fun hc4 => ?_)
     ·try simp only [dz, ne_eq] at hc4
      refine WC_sr fun K13 hK13 => ?_
      refine WL_r (Rd_assign rfl) rfl ?_
      refine WL_end hK13 ?_
      refine WC_ret ?_
      exact hret.goE () (Rs1 rfl rfl) (by unfold wordS; (repeat (first | rw [if_pos (by assumption)] | rw [if_neg (by assumption)])); try rfl)
     ·try simp only [dz, ne_eq] at hc4
      refine WC_sr fun K14 hK14 => ?_
      refine WL_r (Rd_eqlU (b := 6#8) rfl rfl) rfl ?_
      refine WL_r (Rd_assign rfl) rfl ?_
      refine WL_end hK14 ?_
      refine WC_cond rfl (fun hc5 => ?_) (fun hc5 => ?_)
      ·try simp only [dz, ne_eq] at hc5
       refine WC_sr fun K15 hK15 => ?_
       refine WL_r (Rd_assign rfl) rfl ?_
       refine WL_end hK15 ?_
       refine WC_ret ?_
       exact hret.goE () (Rs1 rfl rfl) (by unfold wordS; (repeat (first | rw [if_pos (by assumption)] | rw [if_neg (by assumption)])); try rfl)
      ·try simp only [dz, ne_eq] at hc5
       refine WC_sr fun K16 hK16 => ?_
       refine WL_r (Rd_eqlU (b := 7#8) rfl rfl) rfl ?_
       refine WL_r (Rd_assign rfl) rfl ?_
       refine WL_end hK16 ?_
       refine WC_cond rfl (fun hc6 => ?_) (fun hc6 => ?_)
       ·try simp only [dz, ne_eq] at hc6
        refine WC_sr fun K17 hK17 => ?_
        refine WL_r (Rd_assign rfl) rfl ?_
        refine WL_end hK17 ?_
        refine WC_ret ?_
        exact hret.goE () (Rs1 rfl rfl) (by unfold wordS; (repeat (first | rw [if_pos (by assumption)] | rw [if_neg (by assumption)])); try rfl)
       ·try simp only [dz, ne_eq] at hc6
        refine WC_sr fun K18 hK18 => ?_
        refine WL_r (Rd_eqlU (b := 8#8) rfl rfl) rfl ?_
        refine WL_r (Rd_assign rfl) rfl ?_
        refine WL_end hK18 ?_
        refine WC_cond rfl (fun hc7 => ?_) (fun hc7 => ?_)
        ·try simp only [dz, ne_eq] at hc7
         refine WC_sr fun K19 hK19 => ?_
         refine WL_r (Rd_assign rfl) rfl ?_
         refine WL_end hK19 ?_
         refine WC_ret ?_
         exact hret.goE () (Rs1 rfl rfl) (by unfold wordS; (repeat (first | rw [if_pos (by assumption)] | rw [if_neg (by assumption)])); try rfl)
        ·try simp only [dz, ne_eq] at hc7
         refine WC_sr fun K20 hK20 => ?_
         refine WL_r (Rd_eqlU (b := 9#8) rfl rfl) rfl ?_
         refine WL_r (Rd_assign rfl) rfl ?_
         refine WL_end hK20 ?_
         refine WC_cond rfl (fun hc8 => ?_) (fun hc8 => ?_)
         ·try simp only [dz, ne_eq] at hc8
          refine WC_sr fun K21 hK21 => ?_
          refine WL_r (Rd_assign rfl) rfl ?_
          refine WL_end hK21 ?_
          refine WC_ret ?_
          exact hret.goE () (Rs1 rfl rfl) (by unfold wordS; (repeat (first | rw [if_pos (by assumption)] | rw [if_neg (by assumption)])); try rfl)
         ·try simp only [dz, ne_eq] at hc8
          refine WC_skip ?_
          refine Ps_next hK2 ?_
          refine WC_sr fun K22 hK22 => ?_
          refine WL_r (Rd_assign rfl) rfl ?_
          refine WL_end hK22 ?_
          refine WC_ret ?_
          exact hret.goE () (Rs1 rfl rfl) (by unfold wordS; (repeat (first | rw [if_pos (by assumption)] | rw [if_neg (by assumption)])); try rfl)

theorem wordR_ct {t : B8}  : Ct Try.prog 123 [.int .u8 ((t.toNat : Nat) : Int)] [] (fun _ : Unit => .string (wordS t)) (fun _ => []) := by
 refine Ct_body (n := 22) Try.func123 rfl rfl rfl fun F w0 Q hret hnorm hp => ?_
 change WC _ _ _ _ _ _ _ (F)
 refine WC_sr fun K1 hK1 => ?_
 refine WL_r (Rd_assign rfl) rfl ?_
 refine WL_end hK1 ?_
 refine WC_seq fun K2 hK2 => ?_
 refine WC_sr fun K3 hK3 => ?_
 refine WL_r (Rd_move rfl) rfl ?_
 refine WL_end hK3 ?_
 refine WC_block ?_
 refine WC_sr fun K4 hK4 => ?_
 refine WL_r (Rd_eqlU (b := 1#8) rfl rfl) rfl ?_
 refine WL_r (Rd_assign rfl) rfl ?_
 refine WL_end hK4 ?_
 refine WC_cond rfl (fun hc0 => ?_) (fun hc0 => ?_)
 ·try simp only [dz, ne_eq] at hc0
  refine WC_sr fun K5 hK5 => ?_
  refine WL_r (Rd_assign rfl) rfl ?_
  refine WL_end hK5 ?_
  refine WC_ret ?_
  exact hret.goE () (Rs1 rfl rfl) (by unfold wordS; (repeat (first | rw [if_pos (by assumption)] | rw [if_neg (by assumption)])); try rfl)
 ·try simp only [dz, ne_eq] at hc0
  refine WC_sr fun K6 hK6 => ?_
  refine WL_r (Rd_eqlU (b := 2#8) rfl rfl) rfl ?_
  refine WL_r (Rd_assign rfl) rfl ?_
  refine WL_end hK6 ?_
  refine WC_cond rfl (fun hc1 => ?_) (fun hc1 => ?_)
  ·try simp only [dz, ne_eq] at hc1
   refine WC_sr fun K7 hK7 => ?_
   refine WL_r (Rd_assign rfl) rfl ?_
   refine WL_end hK7 ?_
   refine WC_ret ?_
   exact hret.goE () (Rs1 rfl rfl) (by unfold wordS; (repeat (first | rw [if_pos (by assumption)] | rw [if_neg (by assumption)])); try rfl)
  ·try simp only [dz, ne_eq] at hc1
   refine WC_sr fun K8 hK8 => ?_
   refine WL_r (Rd_eqlU (b := 3#8) rfl rfl) rfl ?_
   refine WL_r (Rd_assign rfl) rfl ?_
   refine WL_end hK8 ?_
   refine WC_cond rfl (fun hc2 => ?_) (fun hc2 => ?_)
   ·try simp only [dz, ne_eq] at hc2
    refine WC_sr fun K9 hK9 => ?_
    refine WL_r (Rd_assign rfl) rfl ?_
    refine WL_end hK9 ?_
    refine WC_ret ?_
    exact hret.goE () (Rs1 rfl rfl) (by unfold wordS; (repeat (first | rw [if_pos (by assumption)] | rw [if_neg (by assumption)])); try rfl)
   ·try simp only [dz, ne_eq] at hc2
    refine WC_sr fun K10 hK10 => ?_
    refine WL_r (Rd_eqlU (b := 4#8) rfl rfl) rfl ?_
    refine WL_r (Rd_assign rfl) rfl ?_
    refine WL_end hK10 ?_
    refine WC_cond rfl (fun hc3 => ?_) (fun hc3 => ?_)
    ·try simp only [dz, ne_eq] at hc3
     refine WC_sr fun K11 hK11 => ?_
     refine WL_r (Rd_assign rfl) rfl ?_
     refine WL_end hK11 ?_
     refine WC_ret ?_
     exact hret.goE () (Rs1 rfl rfl) (by unfold wordS; (repeat (first | rw [if_pos (by assumption)] | rw [if_neg (by assumption)])); try rfl)
    ·try simp only [dz, ne_eq] at hc3
     refine WC_sr fun K12 hK12 => ?_
     refine WL_r (Rd_eqlU (b := 5#8) rfl rfl) rfl ?_
     refine WL_r (Rd_assign rfl) rfl ?_
     refine WL_end hK12 ?_
     refine WC_cond rfl (fun hc4 => ?_) (fun hc4 => ?_)
     ·try simp only [dz, ne_eq] at hc4
      refine WC_sr fun K13 hK13 => ?_
      refine WL_r (Rd_assign rfl) rfl ?_
      refine WL_end hK13 ?_
      refine WC_ret ?_
      exact hret.goE () (Rs1 rfl rfl) (by unfold wordS; (repeat (first | rw [if_pos (by assumption)] | rw [if_neg (by assumption)])); try rfl)
     ·try simp only [dz, ne_eq] at hc4
      refine WC_sr fun K14 hK14 => ?_
      refine WL_r (Rd_eqlU (b := 6#8) rfl rfl) rfl ?_
      refine WL_r (Rd_assign rfl) rfl ?_
      refine WL_end hK14 ?_
      refine WC_cond rfl (fun hc5 => ?_) (fun hc5 => ?_)
      ·try simp only [dz, ne_eq] at hc5
       refine WC_sr fun K15 hK15 => ?_
       refine WL_r (Rd_assign rfl) rfl ?_
       refine WL_end hK15 ?_
       refine WC_ret ?_
       exact hret.goE () (Rs1 rfl rfl) (by unfold wordS; (repeat (first | rw [if_pos (by assumption)] | rw [if_neg (by assumption)])); try rfl)
      ·try simp only [dz, ne_eq] at hc5
       refine WC_sr fun K16 hK16 => ?_
       refine WL_r (Rd_eqlU (b := 7#8) rfl rfl) rfl ?_
       refine WL_r (Rd_assign rfl) rfl ?_
       refine WL_end hK16 ?_
       refine WC_cond rfl (fun hc6 => ?_) (fun hc6 => ?_)
       ·try simp only [dz, ne_eq] at hc6
        refine WC_sr fun K17 hK17 => ?_
        refine WL_r (Rd_assign rfl) rfl ?_
        refine WL_end hK17 ?_
        refine WC_ret ?_
        exact hret.goE () (Rs1 rfl rfl) (by unfold wordS; (repeat (first | rw [if_pos (by assumption)] | rw [if_neg (by assumption)])); try rfl)
       ·try simp only [dz, ne_eq] at hc6
        refine WC_sr fun K18 hK18 => ?_
        refine WL_r (Rd_eqlU (b := 8#8) rfl rfl) rfl ?_
        refine WL_r (Rd_assign rfl) rfl ?_
        refine WL_end hK18 ?_
        refine WC_cond rfl (fun hc7 => ?_) (fun hc7 => ?_)
        ·try simp only [dz, ne_eq] at hc7
         refine WC_sr fun K19 hK19 => ?_
         refine WL_r (Rd_assign rfl) rfl ?_
         refine WL_end hK19 ?_
         refine WC_ret ?_
         exact hret.goE () (Rs1 rfl rfl) (by unfold wordS; (repeat (first | rw [if_pos (by assumption)] | rw [if_neg (by assumption)])); try rfl)
        ·try simp only [dz, ne_eq] at hc7
         refine WC_sr fun K20 hK20 => ?_
         refine WL_r (Rd_eqlU (b := 9#8) rfl rfl) rfl ?_
         refine WL_r (Rd_assign rfl) rfl ?_
         refine WL_end hK20 ?_
         refine WC_cond rfl (fun hc8 => ?_) (fun hc8 => ?_)
         ·try simp only [dz, ne_eq] at hc8
          refine WC_sr fun K21 hK21 => ?_
          refine WL_r (Rd_assign rfl) rfl ?_
          refine WL_end hK21 ?_
          refine WC_ret ?_
          exact hret.goE () (Rs1 rfl rfl) (by unfold wordS; (repeat (first | rw [if_pos (by assumption)] | rw [if_neg (by assumption)])); try rfl)
         ·try simp only [dz, ne_eq] at hc8
          refine WC_skip ?_
          refine Ps_next hK2 ?_
          refine WC_sr fun K22 hK22 => ?_
          refine WL_r (Rd_assign rfl) rfl ?_
          refine WL_end hK22 ?_
          refine WC_ret ?_
          exact hret.goE () (Rs1 rfl rfl) (by unfold wordS; (repeat (first | rw [if_pos (by assumption)] | rw [if_neg (by assumption)])); try rfl)

theorem any_ct {k : Nat}  : Ct Try.prog 190 [.int .i64 ((k : Nat) : Int)] [] (fun _ : Unit => .bool true) (fun _ => []) := by
 refine Ct_body (n := 3) Try.func190 rfl rfl rfl fun F w0 Q hret hnorm hp => ?_
 change WC _ _ _ _ _ _ _ (F)
 refine WC_sr fun K1 hK1 => ?_
 refine WL_r (Rd_assign rfl) rfl ?_
 refine WL_end hK1 ?_
 refine WC_sr fun K2 hK2 => ?_
 refine WL_r (Rd_assign rfl) rfl ?_
 refine WL_end hK2 ?_
 refine WC_ret ?_
 exact hret.go () (Rs1 rfl rfl)

theorem mostf_ct {k n b : Nat}  : Ct Try.prog 195 [.int .i64 ((k : Nat) : Int), .pointer (some ⟨b, 0, none⟩)] [cl b 3 [.int .i64 ((n : Nat) : Int)]] (fun _ : Unit => .bool (decide (k ≤ n))) (fun _ => [cl b 3 [.int .i64 ((n : Nat) : Int)]]) := by
 refine Ct_body (n := 7) Try.func195 rfl rfl rfl fun F w0 Q hret hnorm hp => ?_
 change WC _ _ _ _ _ _ _ (_ :: F)
 refine WC_sr fun K1 hK1 => ?_
 refine WL_r (Rd_assign rfl) rfl ?_
 refine WL_end hK1 ?_
 refine WC_sr fun K2 hK2 => ?_
 refine WL_r (Rd_move rfl) rfl ?_
 refine WL_r (Rd_load rfl tk3 (v := .int .i64 ((n : Nat) : Int))) rfl ?_
 refine WL_r (Rd_leqN rfl rfl) rfl ?_
 refine WL_r (Rd_assign rfl) rfl ?_
 refine WL_end hK2 ?_
 refine WC_ret ?_
 exact hret.go () (Rs1 rfl rfl)

theorem justf_ct {k n b : Nat}  : Ct Try.prog 196 [.int .i64 ((k : Nat) : Int), .pointer (some ⟨b, 0, none⟩)] [cl b 3 [.int .i64 ((n : Nat) : Int)]] (fun _ : Unit => .bool (decide (k = n))) (fun _ => [cl b 3 [.int .i64 ((n : Nat) : Int)]]) := by
 refine Ct_body (n := 7) Try.func196 rfl rfl rfl fun F w0 Q hret hnorm hp => ?_
 change WC _ _ _ _ _ _ _ (_ :: F)
 refine WC_sr fun K1 hK1 => ?_
 refine WL_r (Rd_assign rfl) rfl ?_
 refine WL_end hK1 ?_
 refine WC_sr fun K2 hK2 => ?_
 refine WL_r (Rd_move rfl) rfl ?_
 refine WL_r (Rd_load rfl tk3 (v := .int .i64 ((n : Nat) : Int))) rfl ?_
 refine WL_r (Rd_eqlN rfl rfl) rfl ?_
 refine WL_r (Rd_assign rfl) rfl ?_
 refine WL_end hK2 ?_
 refine WC_ret ?_
 exact hret.go () (Rs1 rfl rfl)

theorem most_ct {n : Nat}  : Ct Try.prog 191 [.int .i64 ((n : Nat) : Int)] [] (fun b : Nat => .func (.func 195) #[] #[.pointer (some ⟨b, 0, none⟩)]) (fun b => [cl b 3 [.int .i64 ((n : Nat) : Int)]]) := by
 refine Ct_body (n := 4) Try.func191 rfl rfl rfl fun F w0 Q hret hnorm hp => ?_
 change WC _ _ _ _ _ _ _ (F)
 refine WC_sr fun K1 hK1 => ?_
 refine WL_ac (Ac_box (xs := [.int .i64 ((n : Nat) : Int)]) rfl rfl) rfl rfl rfl ?_
 rintro _ _ ⟨b1, rfl, rfl⟩
 refine WL_r (Rd_assign rfl) rfl ?_
 refine WL_end hK1 ?_
 refine WC_sr fun K2 hK2 => ?_
 refine WL_r (Rd_makeFunc rfl rfl) rfl ?_
 refine WL_r (Rd_assign rfl) rfl ?_
 refine WL_end hK2 ?_
 refine WC_ret ?_
 exact hret.go b1 (Rs1 rfl rfl)

theorem just_ct {n : Nat}  : Ct Try.prog 192 [.int .i64 ((n : Nat) : Int)] [] (fun b : Nat => .func (.func 196) #[] #[.pointer (some ⟨b, 0, none⟩)]) (fun b => [cl b 3 [.int .i64 ((n : Nat) : Int)]]) := by
 refine Ct_body (n := 4) Try.func192 rfl rfl rfl fun F w0 Q hret hnorm hp => ?_
 change WC _ _ _ _ _ _ _ (F)
 refine WC_sr fun K1 hK1 => ?_
 refine WL_ac (Ac_box (xs := [.int .i64 ((n : Nat) : Int)]) rfl rfl) rfl rfl rfl ?_
 rintro _ _ ⟨b1, rfl, rfl⟩
 refine WL_r (Rd_assign rfl) rfl ?_
 refine WL_end hK1 ?_
 refine WC_sr fun K2 hK2 => ?_
 refine WL_r (Rd_makeFunc rfl rfl) rfl ?_
 refine WL_r (Rd_assign rfl) rfl ?_
 refine WL_end hK2 ?_
 refine WC_ret ?_
 exact hret.go b1 (Rs1 rfl rfl)

def Bd.v : Bd → Value
  | .any => .func (.func 190) #[] #[]
  | .most _ b => .func (.func 195) #[] #[.pointer (some ⟨b, 0, none⟩)]
  | .just _ b => .func (.func 196) #[] #[.pointer (some ⟨b, 0, none⟩)]
def fBd (b : Bd) : List Value := [Bd.v b]
theorem encBd : Enc fBd 1 := ⟨fun _ => rfl, fun x v hv => by cases x <;> simp [fBd, Bd.v] at hv <;> subst hv <;> rfl⟩
def bdA : Bd → Asn
  | .any => sep []
  | .most n b => cl b 3 [.int .i64 ((n : Nat) : Int)]
  | .just n b => cl b 3 [.int .i64 ((n : Nat) : Int)]
theorem sat_bd {bds : List Bd} {i : Nat} {bd : Bd} {R : List Asn} {w : World} (hb : bds[i]? = some bd) (h : sat w (bdA bd :: star bdA (bds.eraseIdx i) :: R)) : sat w (star bdA bds :: R) := by
  have hi := (List.getElem?_eq_some_iff.1 hb).1
  have := star_shut i hi h
  have he : bds[i] = bd := by rw [List.getElem?_eq_getElem hi] at hb; exact Option.some.inj hb
  subst he
  rwa [List.set_getElem_self] at this
theorem Ac_bd {n : Nat} {L : List (Nat × Value)} {A R : List Asn} {d : Option Tmp} {ty : TypeId} {pos' : String} {af : Array Edge} {g : Option (Nat × Bool)} {ts : Array TypeId} {x y : Operand} {bds : List Bd} {i k : Nat} {bd : Bd} (hx : ev L x = some (Bd.v bd)) (hy : ev L y = some (.int .i64 ((k : Nat) : Int))) (hb : bds[i]? = some bd)
    (hE : Ext A (star bdA bds) R := by repeat (first | with_reducible exact Ext.here | with_reducible apply Ext.there)) : Ac Try.prog n ⟨d, .call ⟨.value x, #[y], ts⟩, ty, pos', af, g⟩ L A (fun v A' => v = .bool (bd.ok k) ∧ A' = star bdA bds :: R) := by
  refine Ac.imp (B := star bdA bds :: R) ?_ (fun w h => sat_perm hE h)
  have hyl : evs L [y] = some [.int .i64 ((k : Nat) : Int)] := by simp [evs, hy]
  cases bd with
  | any =>
    refine Ac.mono (Ac_callv (f := 190) hx cf190 hyl rfl (caps := []) rfl rfl (hs := any_ct) (F := star bdA bds :: R) (hg := Gv.nil)) ?_
    rintro v A' ⟨r, rfl, rfl⟩
    exact ⟨_, ⟨rfl, rfl⟩, fun w h => h⟩
  | most n b =>
    refine Ac.imp (B := cl b 3 [.int .i64 ((n : Nat) : Int)] :: star bdA (bds.eraseIdx i) :: R) ?_ (fun w h => star_open (F := bdA) i hb h)
    refine Ac.mono (Ac_callv (f := 195) hx cf195 hyl rfl (caps := [.pointer (some ⟨b, 0, none⟩)]) rfl rfl (hs := mostf_ct (k := k) (n := n) (b := b)) (F := star bdA (bds.eraseIdx i) :: R) (hg := Gv.cons Ext.here Gv.nil)) ?_
    rintro v A' ⟨r, rfl, rfl⟩
    exact ⟨_, ⟨rfl, rfl⟩, fun w h => sat_bd hb h⟩
  | just n b =>
    refine Ac.imp (B := cl b 3 [.int .i64 ((n : Nat) : Int)] :: star bdA (bds.eraseIdx i) :: R) ?_ (fun w h => star_open (F := bdA) i hb h)
    refine Ac.mono (Ac_callv (f := 196) hx cf196 hyl rfl (caps := [.pointer (some ⟨b, 0, none⟩)]) rfl rfl (hs := justf_ct (k := k) (n := n) (b := b)) (F := star bdA (bds.eraseIdx i) :: R) (hg := Gv.cons Ext.here Gv.nil)) ?_
    rintro v A' ⟨r, rfl, rfl⟩
    exact ⟨_, ⟨rfl, rfl⟩, fun w h => sat_bd hb h⟩

theorem bounds_ct {t : B8}  : Ct Try.prog 162 [.int .u8 ((t.toNat : Nat) : Int)] [] (fun g : Nat × List Bd => sl (some g.1) (bnd t).length (bnd t).length) (fun g => [arr (some g.1) (bnd t).length 1 216 fBd g.2, star bdA g.2, pureA (g.2.map Bd.kd = bnd t)]) := by
 refine Ct_body (n := 35) Try.func162 rfl rfl rfl fun F w0 Q hret hnorm hp => ?_
 change WC _ _ _ _ _ _ _ (F)
 refine WC_sr fun K1 hK1 => ?_
 refine WL_r (Rd_assign (v := sl none 0 0) rfl) rfl ?_
 refine WL_end hK1 ?_
 refine WC_sr fun K2 hK2 => ?_
 refine WL_r (Rd_assign rfl) rfl ?_
 refine WL_end hK2 ?_
 refine WC_seq fun K3 hK3 => ?_
 refine WC_sr fun K4 hK4 => ?_
 refine WL_r (Rd_move rfl) rfl ?_
 refine WL_end hK4 ?_
 refine WC_block ?_
 refine WC_sr fun K5 hK5 => ?_
 refine WL_r (Rd_eqlU (b := 1#8) rfl rfl) rfl ?_
 refine WL_r (Rd_assign rfl) rfl ?_
 refine WL_end hK5 ?_
 refine WC_cond rfl (fun hc0 => ?_) (fun hc0 => ?_)
 ·try simp only [dz, ne_eq] at hc0
  refine WC_sr fun K6 hK6 => ?_
  refine WL_ac (Ac_call cf191 rfl (hs := most_ct (n := 64))) rfl rfl rfl ?_
  rintro _ _ ⟨b7, rfl, hA⟩
  simp only [List.cons_append, List.nil_append] at hA
  replace hA := hA.symm
  subst hA
  refine WL_ac (Ac_call cf192 rfl (hs := just_ct (n := 6))) rfl rfl rfl ?_
  rintro _ _ ⟨b8, rfl, hA⟩
  simp only [List.cons_append, List.nil_append] at hA
  replace hA := hA.symm
  subst hA
  refine WL_ac (Ac_call cf191 rfl (hs := most_ct (n := 16777216))) rfl rfl rfl ?_
  rintro _ _ ⟨b9, rfl, hA⟩
  simp only [List.cons_append, List.nil_append] at hA
  replace hA := hA.symm
  subst hA
  refine WL_ac (Ac_bsL (f := fBd) (zs := [.nilFunc]) (bs := [.nilFunc, .nilFunc, .nilFunc]) [.most 64 b7, .just 6 b8, .most 16777216 b9] encBd ud214 zr216 sz216 rfl (by rw [Array.toList_map, Array.toList_range]; rfl) (by rfl) (by rfl) (by rfl) (by rfl)) rfl rfl rfl ?_
  rintro _ _ ⟨g10, rfl, rfl⟩
  refine WL_star0 bdA ?_
  refine WL_snoc bdA [] (.most 64 b7) ?_
  refine WL_snoc bdA ([] ++ [.most 64 b7]) (.just 6 b8) ?_
  refine WL_snoc bdA (([] ++ [.most 64 b7]) ++ [.just 6 b8]) (.most 16777216 b9) ?_
  simp only [List.nil_append, List.cons_append]
  refine WL_r (Rd_assign rfl) rfl ?_
  refine WL_end hK6 ?_
  refine WC_ret ?_
  first | (have hbd : bnd t = [Bd.most 64 0, Bd.just 6 0, Bd.most 16777216 0] := (by unfold bnd; (repeat (first | rw [if_pos (by assumption)] | rw [if_neg (by assumption)]))); rw [hbd] at hret; simp only [List.length_cons, List.length_nil, Nat.zero_add, Nat.reduceAdd] at hret; exact Ps_pure (p := ([.most 64 b7, .just 6 b8, .most 16777216 b9] : List Bd).map Bd.kd = [.most 64 0, .just 6 0, .most 16777216 0]) rfl (hret.go (g10, [.most 64 b7, .just 6 b8, .most 16777216 b9]) (Rs1 rfl rfl))) | (have hbd : bnd t = [Bd.just 16 0] := (by unfold bnd; (repeat (first | rw [if_pos (by assumption)] | rw [if_neg (by assumption)]))); rw [hbd] at hret; simp only [List.length_cons, List.length_nil, Nat.zero_add, Nat.reduceAdd] at hret; exact Ps_pure (p := ([.just 16 b13] : List Bd).map Bd.kd = [.just 16 0]) rfl (hret.go (g14, [.just 16 b13]) (Rs1 rfl rfl))) | (have hbd : bnd t = [Bd.just 32 0] := (by unfold bnd; (repeat (first | rw [if_pos (by assumption)] | rw [if_neg (by assumption)]))); rw [hbd] at hret; simp only [List.length_cons, List.length_nil, Nat.zero_add, Nat.reduceAdd] at hret; exact Ps_pure (p := ([.just 32 b17] : List Bd).map Bd.kd = [.just 32 0]) rfl (hret.go (g18, [.just 32 b17]) (Rs1 rfl rfl))) | (have hbd : bnd t = [Bd.just 32 0, Bd.just 32 0] := (by unfold bnd; (repeat (first | rw [if_pos (by assumption)] | rw [if_neg (by assumption)]))); rw [hbd] at hret; simp only [List.length_cons, List.length_nil, Nat.zero_add, Nat.reduceAdd] at hret; exact Ps_pure (p := ([.just 32 b21, .just 32 b22] : List Bd).map Bd.kd = [.just 32 0, .just 32 0]) rfl (hret.go (g23, [.just 32 b21, .just 32 b22]) (Rs1 rfl rfl))) | (have hbd : bnd t = [Bd.just 4 0] := (by unfold bnd; (repeat (first | rw [if_pos (by assumption)] | rw [if_neg (by assumption)]))); rw [hbd] at hret; simp only [List.length_cons, List.length_nil, Nat.zero_add, Nat.reduceAdd] at hret; exact Ps_pure (p := ([.just 4 b26] : List Bd).map Bd.kd = [.just 4 0]) rfl (hret.go (g27, [.just 4 b26]) (Rs1 rfl rfl))) | (have hbd : bnd t = [Bd.just 16 0, Bd.just 4 0] := (by unfold bnd; (repeat (first | rw [if_pos (by assumption)] | rw [if_neg (by assumption)]))); rw [hbd] at hret; simp only [List.length_cons, List.length_nil, Nat.zero_add, Nat.reduceAdd] at hret; exact Ps_pure (p := ([.just 16 b30, .just 4 b31] : List Bd).map Bd.kd = [.just 16 0, .just 4 0]) rfl (hret.go (g32, [.just 16 b30, .just 4 b31]) (Rs1 rfl rfl))) | (have hbd : bnd t = [Bd.any] := (by unfold bnd; (repeat (first | rw [if_pos (by assumption)] | rw [if_neg (by assumption)]))); rw [hbd] at hret; simp only [List.length_cons, List.length_nil, Nat.zero_add, Nat.reduceAdd] at hret; exact Ps_pure (p := ([.any] : List Bd).map Bd.kd = [.any]) rfl (hret.go (g34, [.any]) (Rs1 rfl rfl)))
 ·try simp only [dz, ne_eq] at hc0
  refine WC_sr fun K7 hK7 => ?_
  refine WL_r (Rd_eqlU (b := 2#8) rfl rfl) rfl ?_
  refine WL_r (Rd_assign rfl) rfl ?_
  refine WL_end hK7 ?_
  refine WC_cond rfl (fun hc1 => ?_) (fun hc1 => ?_)
  ·try simp only [dz, ne_eq] at hc1
   refine WC_sr fun K8 hK8 => ?_
   refine WL_ac (Ac_call cf192 rfl (hs := just_ct (n := 16))) rfl rfl rfl ?_
   rintro _ _ ⟨b13, rfl, hA⟩
   simp only [List.cons_append, List.nil_append] at hA
   replace hA := hA.symm
   subst hA
   refine WL_ac (Ac_bsL (f := fBd) (zs := [.nilFunc]) (bs := [.nilFunc]) [.just 16 b13] encBd ud214 zr216 sz216 rfl (by rw [Array.toList_map, Array.toList_range]; rfl) (by rfl) (by rfl) (by rfl) (by rfl)) rfl rfl rfl ?_
   rintro _ _ ⟨g14, rfl, rfl⟩
   refine WL_star0 bdA ?_
   refine WL_snoc bdA [] (.just 16 b13) ?_
   simp only [List.nil_append, List.cons_append]
   refine WL_r (Rd_assign rfl) rfl ?_
   refine WL_end hK8 ?_
   refine WC_ret ?_
   first | (have hbd : bnd t = [Bd.most 64 0, Bd.just 6 0, Bd.most 16777216 0] := (by unfold bnd; (repeat (first | rw [if_pos (by assumption)] | rw [if_neg (by assumption)]))); rw [hbd] at hret; simp only [List.length_cons, List.length_nil, Nat.zero_add, Nat.reduceAdd] at hret; exact Ps_pure (p := ([.most 64 b7, .just 6 b8, .most 16777216 b9] : List Bd).map Bd.kd = [.most 64 0, .just 6 0, .most 16777216 0]) rfl (hret.go (g10, [.most 64 b7, .just 6 b8, .most 16777216 b9]) (Rs1 rfl rfl))) | (have hbd : bnd t = [Bd.just 16 0] := (by unfold bnd; (repeat (first | rw [if_pos (by assumption)] | rw [if_neg (by assumption)]))); rw [hbd] at hret; simp only [List.length_cons, List.length_nil, Nat.zero_add, Nat.reduceAdd] at hret; exact Ps_pure (p := ([.just 16 b13] : List Bd).map Bd.kd = [.just 16 0]) rfl (hret.go (g14, [.just 16 b13]) (Rs1 rfl rfl))) | (have hbd : bnd t = [Bd.just 32 0] := (by unfold bnd; (repeat (first | rw [if_pos (by assumption)] | rw [if_neg (by assumption)]))); rw [hbd] at hret; simp only [List.length_cons, List.length_nil, Nat.zero_add, Nat.reduceAdd] at hret; exact Ps_pure (p := ([.just 32 b17] : List Bd).map Bd.kd = [.just 32 0]) rfl (hret.go (g18, [.just 32 b17]) (Rs1 rfl rfl))) | (have hbd : bnd t = [Bd.just 32 0, Bd.just 32 0] := (by unfold bnd; (repeat (first | rw [if_pos (by assumption)] | rw [if_neg (by assumption)]))); rw [hbd] at hret; simp only [List.length_cons, List.length_nil, Nat.zero_add, Nat.reduceAdd] at hret; exact Ps_pure (p := ([.just 32 b21, .just 32 b22] : List Bd).map Bd.kd = [.just 32 0, .just 32 0]) rfl (hret.go (g23, [.just 32 b21, .just 32 b22]) (Rs1 rfl rfl))) | (have hbd : bnd t = [Bd.just 4 0] := (by unfold bnd; (repeat (first | rw [if_pos (by assumption)] | rw [if_neg (by assumption)]))); rw [hbd] at hret; simp only [List.length_cons, List.length_nil, Nat.zero_add, Nat.reduceAdd] at hret; exact Ps_pure (p := ([.just 4 b26] : List Bd).map Bd.kd = [.just 4 0]) rfl (hret.go (g27, [.just 4 b26]) (Rs1 rfl rfl))) | (have hbd : bnd t = [Bd.just 16 0, Bd.just 4 0] := (by unfold bnd; (repeat (first | rw [if_pos (by assumption)] | rw [if_neg (by assumption)]))); rw [hbd] at hret; simp only [List.length_cons, List.length_nil, Nat.zero_add, Nat.reduceAdd] at hret; exact Ps_pure (p := ([.just 16 b30, .just 4 b31] : List Bd).map Bd.kd = [.just 16 0, .just 4 0]) rfl (hret.go (g32, [.just 16 b30, .just 4 b31]) (Rs1 rfl rfl))) | (have hbd : bnd t = [Bd.any] := (by unfold bnd; (repeat (first | rw [if_pos (by assumption)] | rw [if_neg (by assumption)]))); rw [hbd] at hret; simp only [List.length_cons, List.length_nil, Nat.zero_add, Nat.reduceAdd] at hret; exact Ps_pure (p := ([.any] : List Bd).map Bd.kd = [.any]) rfl (hret.go (g34, [.any]) (Rs1 rfl rfl)))
  ·try simp only [dz, ne_eq] at hc1
   refine WC_sr fun K9 hK9 => ?_
   refine WL_r (Rd_eqlU (b := 5#8) rfl rfl) rfl ?_
   refine WL_r (Rd_assign rfl) rfl ?_
   refine WL_end hK9 ?_
   refine WC_cond rfl (fun hc2 => ?_) (fun hc2 => ?_)
   ·try simp only [dz, ne_eq] at hc2
    refine WC_sr fun K10 hK10 => ?_
    refine WL_ac (Ac_call cf192 rfl (hs := just_ct (n := 32))) rfl rfl rfl ?_
    rintro _ _ ⟨b17, rfl, hA⟩
    simp only [List.cons_append, List.nil_append] at hA
    replace hA := hA.symm
    subst hA
    refine WL_ac (Ac_bsL (f := fBd) (zs := [.nilFunc]) (bs := [.nilFunc]) [.just 32 b17] encBd ud214 zr216 sz216 rfl (by rw [Array.toList_map, Array.toList_range]; rfl) (by rfl) (by rfl) (by rfl) (by rfl)) rfl rfl rfl ?_
    rintro _ _ ⟨g18, rfl, rfl⟩
    refine WL_star0 bdA ?_
    refine WL_snoc bdA [] (.just 32 b17) ?_
    simp only [List.nil_append, List.cons_append]
    refine WL_r (Rd_assign rfl) rfl ?_
    refine WL_end hK10 ?_
    refine WC_ret ?_
    first | (have hbd : bnd t = [Bd.most 64 0, Bd.just 6 0, Bd.most 16777216 0] := (by unfold bnd; (repeat (first | rw [if_pos (by assumption)] | rw [if_neg (by assumption)]))); rw [hbd] at hret; simp only [List.length_cons, List.length_nil, Nat.zero_add, Nat.reduceAdd] at hret; exact Ps_pure (p := ([.most 64 b7, .just 6 b8, .most 16777216 b9] : List Bd).map Bd.kd = [.most 64 0, .just 6 0, .most 16777216 0]) rfl (hret.go (g10, [.most 64 b7, .just 6 b8, .most 16777216 b9]) (Rs1 rfl rfl))) | (have hbd : bnd t = [Bd.just 16 0] := (by unfold bnd; (repeat (first | rw [if_pos (by assumption)] | rw [if_neg (by assumption)]))); rw [hbd] at hret; simp only [List.length_cons, List.length_nil, Nat.zero_add, Nat.reduceAdd] at hret; exact Ps_pure (p := ([.just 16 b13] : List Bd).map Bd.kd = [.just 16 0]) rfl (hret.go (g14, [.just 16 b13]) (Rs1 rfl rfl))) | (have hbd : bnd t = [Bd.just 32 0] := (by unfold bnd; (repeat (first | rw [if_pos (by assumption)] | rw [if_neg (by assumption)]))); rw [hbd] at hret; simp only [List.length_cons, List.length_nil, Nat.zero_add, Nat.reduceAdd] at hret; exact Ps_pure (p := ([.just 32 b17] : List Bd).map Bd.kd = [.just 32 0]) rfl (hret.go (g18, [.just 32 b17]) (Rs1 rfl rfl))) | (have hbd : bnd t = [Bd.just 32 0, Bd.just 32 0] := (by unfold bnd; (repeat (first | rw [if_pos (by assumption)] | rw [if_neg (by assumption)]))); rw [hbd] at hret; simp only [List.length_cons, List.length_nil, Nat.zero_add, Nat.reduceAdd] at hret; exact Ps_pure (p := ([.just 32 b21, .just 32 b22] : List Bd).map Bd.kd = [.just 32 0, .just 32 0]) rfl (hret.go (g23, [.just 32 b21, .just 32 b22]) (Rs1 rfl rfl))) | (have hbd : bnd t = [Bd.just 4 0] := (by unfold bnd; (repeat (first | rw [if_pos (by assumption)] | rw [if_neg (by assumption)]))); rw [hbd] at hret; simp only [List.length_cons, List.length_nil, Nat.zero_add, Nat.reduceAdd] at hret; exact Ps_pure (p := ([.just 4 b26] : List Bd).map Bd.kd = [.just 4 0]) rfl (hret.go (g27, [.just 4 b26]) (Rs1 rfl rfl))) | (have hbd : bnd t = [Bd.just 16 0, Bd.just 4 0] := (by unfold bnd; (repeat (first | rw [if_pos (by assumption)] | rw [if_neg (by assumption)]))); rw [hbd] at hret; simp only [List.length_cons, List.length_nil, Nat.zero_add, Nat.reduceAdd] at hret; exact Ps_pure (p := ([.just 16 b30, .just 4 b31] : List Bd).map Bd.kd = [.just 16 0, .just 4 0]) rfl (hret.go (g32, [.just 16 b30, .just 4 b31]) (Rs1 rfl rfl))) | (have hbd : bnd t = [Bd.any] := (by unfold bnd; (repeat (first | rw [if_pos (by assumption)] | rw [if_neg (by assumption)]))); rw [hbd] at hret; simp only [List.length_cons, List.length_nil, Nat.zero_add, Nat.reduceAdd] at hret; exact Ps_pure (p := ([.any] : List Bd).map Bd.kd = [.any]) rfl (hret.go (g34, [.any]) (Rs1 rfl rfl)))
   ·try simp only [dz, ne_eq] at hc2
    refine WC_sr fun K11 hK11 => ?_
    refine WL_r (Rd_eqlU (b := 6#8) rfl rfl) rfl ?_
    refine WL_r (Rd_assign rfl) rfl ?_
    refine WL_end hK11 ?_
    refine WC_cond rfl (fun hc3 => ?_) (fun hc3 => ?_)
    ·try simp only [dz, ne_eq] at hc3
     refine WC_sr fun K12 hK12 => ?_
     refine WL_ac (Ac_call cf192 rfl (hs := just_ct (n := 32))) rfl rfl rfl ?_
     rintro _ _ ⟨b21, rfl, hA⟩
     simp only [List.cons_append, List.nil_append] at hA
     replace hA := hA.symm
     subst hA
     refine WL_ac (Ac_call cf192 rfl (hs := just_ct (n := 32))) rfl rfl rfl ?_
     rintro _ _ ⟨b22, rfl, hA⟩
     simp only [List.cons_append, List.nil_append] at hA
     replace hA := hA.symm
     subst hA
     refine WL_ac (Ac_bsL (f := fBd) (zs := [.nilFunc]) (bs := [.nilFunc, .nilFunc]) [.just 32 b21, .just 32 b22] encBd ud214 zr216 sz216 rfl (by rw [Array.toList_map, Array.toList_range]; rfl) (by rfl) (by rfl) (by rfl) (by rfl)) rfl rfl rfl ?_
     rintro _ _ ⟨g23, rfl, rfl⟩
     refine WL_star0 bdA ?_
     refine WL_snoc bdA [] (.just 32 b21) ?_
     refine WL_snoc bdA ([] ++ [.just 32 b21]) (.just 32 b22) ?_
     simp only [List.nil_append, List.cons_append]
     refine WL_r (Rd_assign rfl) rfl ?_
     refine WL_end hK12 ?_
     refine WC_ret ?_
     first | (have hbd : bnd t = [Bd.most 64 0, Bd.just 6 0, Bd.most 16777216 0] := (by unfold bnd; (repeat (first | rw [if_pos (by assumption)] | rw [if_neg (by assumption)]))); rw [hbd] at hret; simp only [List.length_cons, List.length_nil, Nat.zero_add, Nat.reduceAdd] at hret; exact Ps_pure (p := ([.most 64 b7, .just 6 b8, .most 16777216 b9] : List Bd).map Bd.kd = [.most 64 0, .just 6 0, .most 16777216 0]) rfl (hret.go (g10, [.most 64 b7, .just 6 b8, .most 16777216 b9]) (Rs1 rfl rfl))) | (have hbd : bnd t = [Bd.just 16 0] := (by unfold bnd; (repeat (first | rw [if_pos (by assumption)] | rw [if_neg (by assumption)]))); rw [hbd] at hret; simp only [List.length_cons, List.length_nil, Nat.zero_add, Nat.reduceAdd] at hret; exact Ps_pure (p := ([.just 16 b13] : List Bd).map Bd.kd = [.just 16 0]) rfl (hret.go (g14, [.just 16 b13]) (Rs1 rfl rfl))) | (have hbd : bnd t = [Bd.just 32 0] := (by unfold bnd; (repeat (first | rw [if_pos (by assumption)] | rw [if_neg (by assumption)]))); rw [hbd] at hret; simp only [List.length_cons, List.length_nil, Nat.zero_add, Nat.reduceAdd] at hret; exact Ps_pure (p := ([.just 32 b17] : List Bd).map Bd.kd = [.just 32 0]) rfl (hret.go (g18, [.just 32 b17]) (Rs1 rfl rfl))) | (have hbd : bnd t = [Bd.just 32 0, Bd.just 32 0] := (by unfold bnd; (repeat (first | rw [if_pos (by assumption)] | rw [if_neg (by assumption)]))); rw [hbd] at hret; simp only [List.length_cons, List.length_nil, Nat.zero_add, Nat.reduceAdd] at hret; exact Ps_pure (p := ([.just 32 b21, .just 32 b22] : List Bd).map Bd.kd = [.just 32 0, .just 32 0]) rfl (hret.go (g23, [.just 32 b21, .just 32 b22]) (Rs1 rfl rfl))) | (have hbd : bnd t = [Bd.just 4 0] := (by unfold bnd; (repeat (first | rw [if_pos (by assumption)] | rw [if_neg (by assumption)]))); rw [hbd] at hret; simp only [List.length_cons, List.length_nil, Nat.zero_add, Nat.reduceAdd] at hret; exact Ps_pure (p := ([.just 4 b26] : List Bd).map Bd.kd = [.just 4 0]) rfl (hret.go (g27, [.just 4 b26]) (Rs1 rfl rfl))) | (have hbd : bnd t = [Bd.just 16 0, Bd.just 4 0] := (by unfold bnd; (repeat (first | rw [if_pos (by assumption)] | rw [if_neg (by assumption)]))); rw [hbd] at hret; simp only [List.length_cons, List.length_nil, Nat.zero_add, Nat.reduceAdd] at hret; exact Ps_pure (p := ([.just 16 b30, .just 4 b31] : List Bd).map Bd.kd = [.just 16 0, .just 4 0]) rfl (hret.go (g32, [.just 16 b30, .just 4 b31]) (Rs1 rfl rfl))) | (have hbd : bnd t = [Bd.any] := (by unfold bnd; (repeat (first | rw [if_pos (by assumption)] | rw [if_neg (by assumption)]))); rw [hbd] at hret; simp only [List.length_cons, List.length_nil, Nat.zero_add, Nat.reduceAdd] at hret; exact Ps_pure (p := ([.any] : List Bd).map Bd.kd = [.any]) rfl (hret.go (g34, [.any]) (Rs1 rfl rfl)))
    ·try simp only [dz, ne_eq] at hc3
     refine WC_sr fun K13 hK13 => ?_
     refine WL_r (Rd_eqlU (b := 7#8) rfl rfl) rfl ?_
     refine WL_r (Rd_assign rfl) rfl ?_
     refine WL_end hK13 ?_
     refine WC_cond rfl (fun hc4 => ?_) (fun hc4 => ?_)
     ·try simp only [dz, ne_eq] at hc4
      refine WC_sr fun K14 hK14 => ?_
      refine WL_ac (Ac_call cf192 rfl (hs := just_ct (n := 4))) rfl rfl rfl ?_
      rintro _ _ ⟨b26, rfl, hA⟩
      simp only [List.cons_append, List.nil_append] at hA
      replace hA := hA.symm
      subst hA
      refine WL_ac (Ac_bsL (f := fBd) (zs := [.nilFunc]) (bs := [.nilFunc]) [.just 4 b26] encBd ud214 zr216 sz216 rfl (by rw [Array.toList_map, Array.toList_range]; rfl) (by rfl) (by rfl) (by rfl) (by rfl)) rfl rfl rfl ?_
      rintro _ _ ⟨g27, rfl, rfl⟩
      refine WL_star0 bdA ?_
      refine WL_snoc bdA [] (.just 4 b26) ?_
      simp only [List.nil_append, List.cons_append]
      refine WL_r (Rd_assign rfl) rfl ?_
      refine WL_end hK14 ?_
      refine WC_ret ?_
      first | (have hbd : bnd t = [Bd.most 64 0, Bd.just 6 0, Bd.most 16777216 0] := (by unfold bnd; (repeat (first | rw [if_pos (by assumption)] | rw [if_neg (by assumption)]))); rw [hbd] at hret; simp only [List.length_cons, List.length_nil, Nat.zero_add, Nat.reduceAdd] at hret; exact Ps_pure (p := ([.most 64 b7, .just 6 b8, .most 16777216 b9] : List Bd).map Bd.kd = [.most 64 0, .just 6 0, .most 16777216 0]) rfl (hret.go (g10, [.most 64 b7, .just 6 b8, .most 16777216 b9]) (Rs1 rfl rfl))) | (have hbd : bnd t = [Bd.just 16 0] := (by unfold bnd; (repeat (first | rw [if_pos (by assumption)] | rw [if_neg (by assumption)]))); rw [hbd] at hret; simp only [List.length_cons, List.length_nil, Nat.zero_add, Nat.reduceAdd] at hret; exact Ps_pure (p := ([.just 16 b13] : List Bd).map Bd.kd = [.just 16 0]) rfl (hret.go (g14, [.just 16 b13]) (Rs1 rfl rfl))) | (have hbd : bnd t = [Bd.just 32 0] := (by unfold bnd; (repeat (first | rw [if_pos (by assumption)] | rw [if_neg (by assumption)]))); rw [hbd] at hret; simp only [List.length_cons, List.length_nil, Nat.zero_add, Nat.reduceAdd] at hret; exact Ps_pure (p := ([.just 32 b17] : List Bd).map Bd.kd = [.just 32 0]) rfl (hret.go (g18, [.just 32 b17]) (Rs1 rfl rfl))) | (have hbd : bnd t = [Bd.just 32 0, Bd.just 32 0] := (by unfold bnd; (repeat (first | rw [if_pos (by assumption)] | rw [if_neg (by assumption)]))); rw [hbd] at hret; simp only [List.length_cons, List.length_nil, Nat.zero_add, Nat.reduceAdd] at hret; exact Ps_pure (p := ([.just 32 b21, .just 32 b22] : List Bd).map Bd.kd = [.just 32 0, .just 32 0]) rfl (hret.go (g23, [.just 32 b21, .just 32 b22]) (Rs1 rfl rfl))) | (have hbd : bnd t = [Bd.just 4 0] := (by unfold bnd; (repeat (first | rw [if_pos (by assumption)] | rw [if_neg (by assumption)]))); rw [hbd] at hret; simp only [List.length_cons, List.length_nil, Nat.zero_add, Nat.reduceAdd] at hret; exact Ps_pure (p := ([.just 4 b26] : List Bd).map Bd.kd = [.just 4 0]) rfl (hret.go (g27, [.just 4 b26]) (Rs1 rfl rfl))) | (have hbd : bnd t = [Bd.just 16 0, Bd.just 4 0] := (by unfold bnd; (repeat (first | rw [if_pos (by assumption)] | rw [if_neg (by assumption)]))); rw [hbd] at hret; simp only [List.length_cons, List.length_nil, Nat.zero_add, Nat.reduceAdd] at hret; exact Ps_pure (p := ([.just 16 b30, .just 4 b31] : List Bd).map Bd.kd = [.just 16 0, .just 4 0]) rfl (hret.go (g32, [.just 16 b30, .just 4 b31]) (Rs1 rfl rfl))) | (have hbd : bnd t = [Bd.any] := (by unfold bnd; (repeat (first | rw [if_pos (by assumption)] | rw [if_neg (by assumption)]))); rw [hbd] at hret; simp only [List.length_cons, List.length_nil, Nat.zero_add, Nat.reduceAdd] at hret; exact Ps_pure (p := ([.any] : List Bd).map Bd.kd = [.any]) rfl (hret.go (g34, [.any]) (Rs1 rfl rfl)))
     ·try simp only [dz, ne_eq] at hc4
      refine WC_sr fun K15 hK15 => ?_
      refine WL_r (Rd_eqlU (b := 9#8) rfl rfl) rfl ?_
      refine WL_r (Rd_assign rfl) rfl ?_
      refine WL_end hK15 ?_
      refine WC_cond rfl (fun hc5 => ?_) (fun hc5 => ?_)
      ·try simp only [dz, ne_eq] at hc5
       refine WC_sr fun K16 hK16 => ?_
       refine WL_ac (Ac_call cf192 rfl (hs := just_ct (n := 16))) rfl rfl rfl ?_
       rintro _ _ ⟨b30, rfl, hA⟩
       simp only [List.cons_append, List.nil_append] at hA
       replace hA := hA.symm
       subst hA
       refine WL_ac (Ac_call cf192 rfl (hs := just_ct (n := 4))) rfl rfl rfl ?_
       rintro _ _ ⟨b31, rfl, hA⟩
       simp only [List.cons_append, List.nil_append] at hA
       replace hA := hA.symm
       subst hA
       refine WL_ac (Ac_bsL (f := fBd) (zs := [.nilFunc]) (bs := [.nilFunc, .nilFunc]) [.just 16 b30, .just 4 b31] encBd ud214 zr216 sz216 rfl (by rw [Array.toList_map, Array.toList_range]; rfl) (by rfl) (by rfl) (by rfl) (by rfl)) rfl rfl rfl ?_
       rintro _ _ ⟨g32, rfl, rfl⟩
       refine WL_star0 bdA ?_
       refine WL_snoc bdA [] (.just 16 b30) ?_
       refine WL_snoc bdA ([] ++ [.just 16 b30]) (.just 4 b31) ?_
       simp only [List.nil_append, List.cons_append]
       refine WL_r (Rd_assign rfl) rfl ?_
       refine WL_end hK16 ?_
       refine WC_ret ?_
       first | (have hbd : bnd t = [Bd.most 64 0, Bd.just 6 0, Bd.most 16777216 0] := (by unfold bnd; (repeat (first | rw [if_pos (by assumption)] | rw [if_neg (by assumption)]))); rw [hbd] at hret; simp only [List.length_cons, List.length_nil, Nat.zero_add, Nat.reduceAdd] at hret; exact Ps_pure (p := ([.most 64 b7, .just 6 b8, .most 16777216 b9] : List Bd).map Bd.kd = [.most 64 0, .just 6 0, .most 16777216 0]) rfl (hret.go (g10, [.most 64 b7, .just 6 b8, .most 16777216 b9]) (Rs1 rfl rfl))) | (have hbd : bnd t = [Bd.just 16 0] := (by unfold bnd; (repeat (first | rw [if_pos (by assumption)] | rw [if_neg (by assumption)]))); rw [hbd] at hret; simp only [List.length_cons, List.length_nil, Nat.zero_add, Nat.reduceAdd] at hret; exact Ps_pure (p := ([.just 16 b13] : List Bd).map Bd.kd = [.just 16 0]) rfl (hret.go (g14, [.just 16 b13]) (Rs1 rfl rfl))) | (have hbd : bnd t = [Bd.just 32 0] := (by unfold bnd; (repeat (first | rw [if_pos (by assumption)] | rw [if_neg (by assumption)]))); rw [hbd] at hret; simp only [List.length_cons, List.length_nil, Nat.zero_add, Nat.reduceAdd] at hret; exact Ps_pure (p := ([.just 32 b17] : List Bd).map Bd.kd = [.just 32 0]) rfl (hret.go (g18, [.just 32 b17]) (Rs1 rfl rfl))) | (have hbd : bnd t = [Bd.just 32 0, Bd.just 32 0] := (by unfold bnd; (repeat (first | rw [if_pos (by assumption)] | rw [if_neg (by assumption)]))); rw [hbd] at hret; simp only [List.length_cons, List.length_nil, Nat.zero_add, Nat.reduceAdd] at hret; exact Ps_pure (p := ([.just 32 b21, .just 32 b22] : List Bd).map Bd.kd = [.just 32 0, .just 32 0]) rfl (hret.go (g23, [.just 32 b21, .just 32 b22]) (Rs1 rfl rfl))) | (have hbd : bnd t = [Bd.just 4 0] := (by unfold bnd; (repeat (first | rw [if_pos (by assumption)] | rw [if_neg (by assumption)]))); rw [hbd] at hret; simp only [List.length_cons, List.length_nil, Nat.zero_add, Nat.reduceAdd] at hret; exact Ps_pure (p := ([.just 4 b26] : List Bd).map Bd.kd = [.just 4 0]) rfl (hret.go (g27, [.just 4 b26]) (Rs1 rfl rfl))) | (have hbd : bnd t = [Bd.just 16 0, Bd.just 4 0] := (by unfold bnd; (repeat (first | rw [if_pos (by assumption)] | rw [if_neg (by assumption)]))); rw [hbd] at hret; simp only [List.length_cons, List.length_nil, Nat.zero_add, Nat.reduceAdd] at hret; exact Ps_pure (p := ([.just 16 b30, .just 4 b31] : List Bd).map Bd.kd = [.just 16 0, .just 4 0]) rfl (hret.go (g32, [.just 16 b30, .just 4 b31]) (Rs1 rfl rfl))) | (have hbd : bnd t = [Bd.any] := (by unfold bnd; (repeat (first | rw [if_pos (by assumption)] | rw [if_neg (by assumption)]))); rw [hbd] at hret; simp only [List.length_cons, List.length_nil, Nat.zero_add, Nat.reduceAdd] at hret; exact Ps_pure (p := ([.any] : List Bd).map Bd.kd = [.any]) rfl (hret.go (g34, [.any]) (Rs1 rfl rfl)))
      ·try simp only [dz, ne_eq] at hc5
       refine WC_skip ?_
       refine Ps_next hK3 ?_
       refine WC_sr fun K17 hK17 => ?_
       refine WL_r (Rd_move rfl) rfl ?_
       refine WL_ac (Ac_bsL (f := fBd) (zs := [.nilFunc]) (bs := [.nilFunc]) [.any] encBd ud214 zr216 sz216 rfl (by rw [Array.toList_map, Array.toList_range]; rfl) (by rfl) (by rfl) (by rfl) (by rfl)) rfl rfl rfl ?_
       rintro _ _ ⟨g34, rfl, rfl⟩
       refine WL_star0 bdA ?_
       refine WL_pk0 ?_
       refine WL_snoc bdA [] (.any) ?_
       simp only [List.nil_append, List.cons_append]
       refine WL_r (Rd_assign rfl) rfl ?_
       refine WL_end hK17 ?_
       refine WC_ret ?_
       first | (have hbd : bnd t = [Bd.most 64 0, Bd.just 6 0, Bd.most 16777216 0] := (by unfold bnd; (repeat (first | rw [if_pos (by assumption)] | rw [if_neg (by assumption)]))); rw [hbd] at hret; simp only [List.length_cons, List.length_nil, Nat.zero_add, Nat.reduceAdd] at hret; exact Ps_pure (p := ([.most 64 b7, .just 6 b8, .most 16777216 b9] : List Bd).map Bd.kd = [.most 64 0, .just 6 0, .most 16777216 0]) rfl (hret.go (g10, [.most 64 b7, .just 6 b8, .most 16777216 b9]) (Rs1 rfl rfl))) | (have hbd : bnd t = [Bd.just 16 0] := (by unfold bnd; (repeat (first | rw [if_pos (by assumption)] | rw [if_neg (by assumption)]))); rw [hbd] at hret; simp only [List.length_cons, List.length_nil, Nat.zero_add, Nat.reduceAdd] at hret; exact Ps_pure (p := ([.just 16 b13] : List Bd).map Bd.kd = [.just 16 0]) rfl (hret.go (g14, [.just 16 b13]) (Rs1 rfl rfl))) | (have hbd : bnd t = [Bd.just 32 0] := (by unfold bnd; (repeat (first | rw [if_pos (by assumption)] | rw [if_neg (by assumption)]))); rw [hbd] at hret; simp only [List.length_cons, List.length_nil, Nat.zero_add, Nat.reduceAdd] at hret; exact Ps_pure (p := ([.just 32 b17] : List Bd).map Bd.kd = [.just 32 0]) rfl (hret.go (g18, [.just 32 b17]) (Rs1 rfl rfl))) | (have hbd : bnd t = [Bd.just 32 0, Bd.just 32 0] := (by unfold bnd; (repeat (first | rw [if_pos (by assumption)] | rw [if_neg (by assumption)]))); rw [hbd] at hret; simp only [List.length_cons, List.length_nil, Nat.zero_add, Nat.reduceAdd] at hret; exact Ps_pure (p := ([.just 32 b21, .just 32 b22] : List Bd).map Bd.kd = [.just 32 0, .just 32 0]) rfl (hret.go (g23, [.just 32 b21, .just 32 b22]) (Rs1 rfl rfl))) | (have hbd : bnd t = [Bd.just 4 0] := (by unfold bnd; (repeat (first | rw [if_pos (by assumption)] | rw [if_neg (by assumption)]))); rw [hbd] at hret; simp only [List.length_cons, List.length_nil, Nat.zero_add, Nat.reduceAdd] at hret; exact Ps_pure (p := ([.just 4 b26] : List Bd).map Bd.kd = [.just 4 0]) rfl (hret.go (g27, [.just 4 b26]) (Rs1 rfl rfl))) | (have hbd : bnd t = [Bd.just 16 0, Bd.just 4 0] := (by unfold bnd; (repeat (first | rw [if_pos (by assumption)] | rw [if_neg (by assumption)]))); rw [hbd] at hret; simp only [List.length_cons, List.length_nil, Nat.zero_add, Nat.reduceAdd] at hret; exact Ps_pure (p := ([.just 16 b30, .just 4 b31] : List Bd).map Bd.kd = [.just 16 0, .just 4 0]) rfl (hret.go (g32, [.just 16 b30, .just 4 b31]) (Rs1 rfl rfl))) | (have hbd : bnd t = [Bd.any] := (by unfold bnd; (repeat (first | rw [if_pos (by assumption)] | rw [if_neg (by assumption)]))); rw [hbd] at hret; simp only [List.length_cons, List.length_nil, Nat.zero_add, Nat.reduceAdd] at hret; exact Ps_pure (p := ([.any] : List Bd).map Bd.kd = [.any]) rfl (hret.go (g34, [.any]) (Rs1 rfl rfl)))
end Go.Proofs.Ytgkpbeikcpecbaa
namespace Go.Proofs.Ytgkpbeikcpecbaa
open Go.RowKit Go.SL Go.ShM
set_option maxHeartbeats 1000000
set_option maxRecDepth 20000
set_option linter.all false
theorem cf162 : cfn Try.prog 162 = true := by kernel_rfl
theorem tk216 : tk Try.prog 216 = some none := by kernel_rfl
theorem lens_at {ps : List Pt} {i : Nat} {p : Pt} (h : ps[i]? = some p) : (lens (ps.map (·.l)))[i]? = some p.l.length := by simp [lens, h]
theorem lens_len (ps : List Pt) : (lens (ps.map (·.l))).length = ps.length := by simp [lens]

theorem fit_ct {t : B8} {X : Asn} {v : Value} {ps : List Pt} {ao : Option Addr} {cap : Nat} (hS : Sv [X] v 1 fP ps ao cap := by assumption) (hP : ∀ p ∈ ps, RdP [X] p := by assumption) (hk : ps.length ≤ 10000000000 := by omega) : Ct Try.prog 109 [.int .u8 ((t.toNat : Nat) : Int), v] [X] (fun _ : Unit => .bool (fitM t (lens (ps.map (·.l))))) (fun _ => [X]) := by
 refine Ct_body (n := 31) Try.func109 rfl rfl rfl fun F w0 Q hret hnorm hp => ?_
 change WC _ _ _ _ _ _ _ (_ :: F)
 have hll := lens_len ps
 refine WC_sr fun K1 hK1 => ?_
 refine WL_r (Rd_assign rfl) rfl ?_
 refine WL_end hK1 ?_
 refine WC_sr fun K2 hK2 => ?_
 refine WL_r (Rd_move rfl) rfl ?_
 refine WL_ac (Ac_call cf162 rfl (hs := bounds_ct)) rfl rfl rfl ?_
 rintro _ _ ⟨⟨g9, bds9⟩, rfl, hA⟩
 simp only [List.cons_append, List.nil_append] at hA
 replace hA := hA.symm
 subst hA
 refine WL_unp (bds9.map Bd.kd = bnd t) (fun hkd => ?_)
 have hbl : bds9.length = (bnd t).length := by rw [← hkd]; simp
 have hfm : fitM t (lens (ps.map (·.l))) = fitL bds9 (lens (ps.map (·.l))) := by unfold fitM; rw [← hkd, fitL_kd]
 refine WL_r (Rd_assign rfl) rfl ?_
 refine WL_end hK2 ?_
 refine WC_seq fun K3 hK3 => ?_
 refine WC_sr fun K4 hK4 => ?_
 refine WL_r (Rd_move rfl) rfl ?_
 refine WL_r (Rd_len rfl rfl ud214) rfl ?_
 refine WL_r (Rd_move rfl) rfl ?_
 refine WL_r (Rd_len_sv rfl rfl ud27) rfl ?_
 refine WL_r (Rd_neqN rfl rfl) rfl ?_
 refine WL_end hK4 ?_
 refine WC_cond rfl (fun hc0 => ?_) (fun hc0 => ?_)
 ·try simp only [dz, ne_eq] at hc0
  refine WC_sr fun K5 hK5 => ?_
  refine WL_r (Rd_assign rfl) rfl ?_
  refine WL_end hK5 ?_
  refine WC_ret ?_
  first | exact hret.goE () (Rs1 rfl rfl) (by rw [hfm, fitL_len (by omega)]) | exact hret.goE () (Rs1 rfl rfl) (by rw [hfm, fitL_drop hbd (lens_at hpt) hc2]) | exact hret.goE () (Rs1 rfl rfl) (by have h := hi.2; rw [← hbl, List.take_length, show bds9.length = (lens (ps.map (·.l))).length from by omega, List.take_length] at h; rw [hfm, h])
 ·try simp only [dz, ne_eq] at hc0
  refine WC_skip ?_
  refine Ps_next hK3 ?_
  refine WC_seq fun K6 hK6 => ?_
  refine WC_sr fun K7 hK7 => ?_
  refine WL_r (Rd_move rfl) rfl ?_
  refine WL_r (Rd_len rfl rfl ud214) rfl ?_
  refine WL_r (Rd_move rfl) rfl ?_
  refine WL_end hK7 ?_
  refine WC_block ?_
  refine WC_loopK (σ := Nat) (fun i' => [(17, .int .i64 ((i' : Nat) : Int))]) (fun i' => []) (fun i' => i' ≤ (bnd t).length ∧ fitL (bds9.take i') ((lens (ps.map (·.l))).take i') = true) (fun i' => (bnd t).length - i') (0) [1, 15, 16] kpA (by (try dsimp only); repeat (first | with_reducible exact Gv.nil | (with_reducible apply Gv.cons; · (repeat (first | with_reducible exact Ext.here | with_reducible apply Ext.there))))) ?_ ?_ Sub.refl ?_
  ·exact ⟨Nat.zero_le _, rfl⟩
  ·(try dsimp only); exact (Wk.cons lkA Wk.nil)
  ·rintro i' hi K8 hK8
   simp only [List.cons_append, List.nil_append]
   refine WC_sr fun K9 hK9 => ?_
   refine WL_r (Rd_lssN rfl rfl) rfl ?_
   refine WL_end hK9 ?_
   refine WC_seq fun K10 hK10 => ?_
   refine WC_cond rfl (fun hc1 => ?_) (fun hc1 => ?_)
   ·try simp only [dz, ne_eq] at hc1
    obtain ⟨bd, hbd⟩ : ∃ b, bds9[i']? = some b := ⟨_, List.getElem?_eq_getElem (by omega)⟩
    obtain ⟨pt, hpt⟩ : ∃ p, ps[i']? = some p := ⟨_, List.getElem?_eq_getElem (by omega)⟩
    have hptS : Sv [X] pt.v 1 (eU .u8 (w := 8)) pt.l pt.ao pt.cap := hP pt (List.mem_of_getElem? hpt)
    refine WC_skip ?_
    refine Ps_next hK10 ?_
    refine WC_seq fun K11 hK11 => ?_
    refine WC_block ?_
    refine WC_sr fun K12 hK12 => ?_
    refine WL_r (Rd_move rfl) rfl ?_
    refine WL_r (Rd_index _ rfl rfl ud214 sz216) rfl ?_
    refine WL_r (Rd_load_arr (i := i') (j := 0) rfl tk216 (hl := hbd)) rfl ?_
    refine WL_r (Rd_assign rfl) rfl ?_
    refine WL_r (Rd_assign rfl) rfl ?_
    refine WL_end hK12 ?_
    refine WC_sr fun K13 hK13 => ?_
    refine WL_r (Rd_move rfl) rfl ?_
    refine WL_r (Rd_move rfl) rfl ?_
    refine WL_r (Rd_move rfl) rfl ?_
    refine WL_r (Rd_index_sv i' rfl rfl ud27 sz32 (hA := hS) (hi := by omega)) rfl ?_
    refine WL_r (Rd_load_sv (i := i') (j := 0) rfl tk32 (hA := hS) (hl := hpt)) rfl ?_
    refine WL_r (Rd_len_sv rfl rfl ud32) rfl ?_
    refine WL_ac (Ac_bd (k := pt.l.length) rfl rfl hbd) rfl rfl rfl ?_
    rintro _ _ ⟨rfl, rfl⟩
    refine WL_r (Rd_not rfl) rfl ?_
    refine WL_end hK13 ?_
    refine WC_cond rfl (fun hc2 => ?_) (fun hc2 => ?_)
    ·try simp only [dz, ne_eq] at hc2
     refine WC_sr fun K14 hK14 => ?_
     refine WL_r (Rd_assign rfl) rfl ?_
     refine WL_end hK14 ?_
     refine WC_ret ?_
     first | exact hret.goE () (Rs1 rfl rfl) (by rw [hfm, fitL_len (by omega)]) | exact hret.goE () (Rs1 rfl rfl) (by rw [hfm, fitL_drop hbd (lens_at hpt) hc2]) | exact hret.goE () (Rs1 rfl rfl) (by have h := hi.2; rw [← hbl, List.take_length, show bds9.length = (lens (ps.map (·.l))).length from by omega, List.take_length] at h; rw [hfm, h])
    ·try simp only [dz, ne_eq] at hc2
     refine WC_skip ?_
     refine Ps_next hK11 ?_
     refine WC_region ?_
     refine WL_r (Rd_addN (j := 1) rfl rfl) rfl ?_
     refine WL_r (Rd_move rfl) rfl ?_
     refine WL_nil ?_
     refine Ps_wkA (hK8 (i' + 1) (⟨by omega, by rw [fitL_take hbd (lens_at hpt), hi.2, hc2]; rfl⟩) (by omega))
   ·try simp only [dz, ne_eq] at hc1
    obtain rfl : i' = (bnd t).length := by omega
    refine WC_exit ?_
    refine Ps_next hK6 ?_
    refine WC_sr fun K15 hK15 => ?_
    refine WL_r (Rd_assign rfl) rfl ?_
    refine WL_end hK15 ?_
    refine WC_ret ?_
    first | exact hret.goE () (Rs1 rfl rfl) (by rw [hfm, fitL_len (by omega)]) | exact hret.goE () (Rs1 rfl rfl) (by rw [hfm, fitL_drop hbd (lens_at hpt) hc2]) | exact hret.goE () (Rs1 rfl rfl) (by have h := hi.2; rw [← hbl, List.take_length, show bds9.length = (lens (ps.map (·.l))).length from by omega, List.take_length] at h; rw [hfm, h])
end Go.Proofs.Ytgkpbeikcpecbaa
namespace Go.Proofs.Ytgkpbeikcpecbaa
open Go.RowKit Go.SL Go.ShM
set_option maxHeartbeats 1000000
set_option maxRecDepth 20000
set_option linter.all false
theorem cf163 : cfn Try.prog 163 = true := by kernel_rfl
theorem el32 : el Try.prog 32 = some (1, 24) := by kernel_rfl
theorem sz27 : sz Try.prog 27 = some 1 := by kernel_rfl
theorem tk27 : tk Try.prog 27 = some none := by kernel_rfl
theorem ud89 : Try.prog.underlying 89 = some (.slice 27) := by kernel_rfl
theorem joinP_flat (ps : List Pt) : joinP ps = (ps.map (·.l)).flatten := by simp [joinP, List.flatMap_def]
theorem frM_take {ps : List Pt} {i : Nat} {p : Pt} (h : ps[i]? = some p) : (frM ((ps.take i).map (·.l)) ++ big64 (BitVec.ofNat 64 p.l.length)) ++ p.l = frM ((ps.take (i + 1)).map (·.l)) := by
  rw [List.take_add_one, h, List.map_append, List.append_assoc, show big64 (BitVec.ofNat 64 p.l.length) ++ p.l = frm p.l from rfl, frM_snoc]; rfl
theorem frP_len {ps : List Pt} {i : Nat} (h : i ≤ ps.length) : (frM ((ps.take i).map (·.l))).length = (joinP (ps.take i)).length + 8 * i := by
  rw [frM_len, ← joinP_flat, List.length_map, List.length_take, Nat.min_eq_left h]
theorem frP_all {ps : List Pt} : (frM (ps.map (·.l))).length = (joinP ps).length + 8 * ps.length := by
  have := frP_len (ps := ps) (Nat.le_refl ps.length)
  rwa [List.take_length] at this
theorem word_eq0 (t : B8) : ((wordS t).toList == (⟨#[]⟩ : ByteArray).toList) = decide ((wordS t).size = 0) := by
  unfold wordS
  repeat' split
  all_goals decide +kernel

theorem framed_ct {X : Asn} {v : Value} {ps : List Pt} {ao : Option Addr} {cap : Nat} (hS : Sv [X] v 1 fP ps ao cap := by assumption) (hP : ∀ p ∈ ps, RdP [X] p := by assumption) (hn : (joinP ps).length ≤ 500000000000 := by omega) (hk : ps.length ≤ 10000000000 := by omega) : Ct Try.prog 110 [v] [X] (fun g : Option Nat × Nat => sl g.1 (frM (ps.map (·.l))).length g.2) (fun g => [X, arr g.1 g.2 1 5 (eU .u8) (frM (ps.map (·.l)))]) := by
 refine Ct_body (n := 23) Try.func110 rfl rfl rfl fun F w0 Q hret hnorm hp => ?_
 change WC _ _ _ _ _ _ _ (_ :: F)
 refine WC_sr fun K1 hK1 => ?_
 refine WL_r (Rd_assign (v := sl none 0 0) rfl) rfl ?_
 refine WL_end hK1 ?_
 refine WC_sr fun K2 hK2 => ?_
 refine WL_r (Rd_assign (v := sl none 0 0) rfl) rfl ?_
 refine WL_nilarr (eU .u8 (w := 8)) 1 5 ?_
 refine WL_end hK2 ?_
 refine WC_seq fun K3 hK3 => ?_
 refine WC_sr fun K4 hK4 => ?_
 refine WL_r (Rd_move rfl) rfl ?_
 refine WL_r (Rd_len_sv rfl rfl ud27) rfl ?_
 refine WL_r (Rd_move rfl) rfl ?_
 refine WL_end hK4 ?_
 refine WC_block ?_
 rw [show ([] : List B8) = frM ((ps.take 0).map (·.l)) from rfl]
 refine WC_loopK (σ := Nat × (Option Nat) × Nat) (fun ⟨i', a, c⟩ => [(3, sl a (frM ((ps.take i').map (·.l))).length c), (8, .int .i64 ((i' : Nat) : Int))]) (fun ⟨i', a, c⟩ => [arr a c 1 5 (eU .u8) (frM ((ps.take i').map (·.l)))]) (fun ⟨i', a, c⟩ => i' ≤ ps.length) (fun ⟨i', a, c⟩ => ps.length - i') ⟨0, none, 0⟩ [2, 6, 7, 22] kpA (by (try dsimp only); repeat (first | with_reducible exact Gv.nil | (with_reducible apply Gv.cons; · (repeat (first | with_reducible exact Ext.here | with_reducible apply Ext.there))))) ?_ ?_ Sub.refl ?_
 ·exact Nat.zero_le _
 ·(try dsimp only); exact (Wk.cons lkA (Wk.cons lkA Wk.nil))
 ·rintro ⟨i', a, c⟩ hi K5 hK5
  simp only [List.cons_append, List.nil_append]
  refine WC_sr fun K6 hK6 => ?_
  refine WL_r (Rd_lssN rfl rfl) rfl ?_
  refine WL_end hK6 ?_
  refine WC_seq fun K7 hK7 => ?_
  refine WC_cond rfl (fun hc0 => ?_) (fun hc0 => ?_)
  ·try simp only [dz, ne_eq] at hc0
   obtain ⟨pt, hpt⟩ : ∃ p, ps[i']? = some p := ⟨_, List.getElem?_eq_getElem (by omega)⟩
   have hptS : Sv [X] pt.v 1 (eU .u8 (w := 8)) pt.l pt.ao pt.cap := hP pt (List.mem_of_getElem? hpt)
   have hfl := frP_len hi
   have hle := joinP_le ps i'
   have hle2 := joinP_le ps (i' + 1)
   have hfl2 := frP_len (show i' + 1 ≤ ps.length from by omega)
   have hpl := joinP_len hpt
   have hbl8 := big64_len (BitVec.ofNat 64 pt.l.length)
   have hfb : ((frM ((ps.take i').map (·.l))) ++ big64 (BitVec.ofNat 64 pt.l.length)).length = (frM ((ps.take i').map (·.l))).length + (big64 (BitVec.ofNat 64 pt.l.length)).length := List.length_append
   have hft := frM_take hpt
   have hfe : ((frM ((ps.take i').map (·.l))) ++ big64 (BitVec.ofNat 64 pt.l.length)).length + pt.l.length = (frM ((ps.take (i' + 1)).map (·.l))).length := by rw [← hft]; exact List.length_append.symm
   refine WC_skip ?_
   refine Ps_next hK7 ?_
   refine WC_seq fun K8 hK8 => ?_
   refine WC_block ?_
   refine WC_sr fun K9 hK9 => ?_
   refine WL_r (Rd_index_sv i' rfl rfl ud27 sz32 (hA := hS) (hi := by omega)) rfl ?_
   refine WL_r (Rd_load_sv (i := i') (j := 0) rfl tk32 (hA := hS) (hl := hpt)) rfl ?_
   refine WL_r (Rd_assign rfl) rfl ?_
   refine WL_end hK9 ?_
   refine WC_sr fun K10 hK10 => ?_
   refine WL_r (Rd_move rfl) rfl ?_
   refine WL_r (Rd_move rfl) rfl ?_
   refine WL_r (Rd_len_sv rfl rfl ud32 (hA := hptS)) rfl ?_
   refine WL_r (Rd_convNU rfl ikd3_39 (h' := uk64)) rfl ?_
   refine WL_ac (Ac_call cf100 rfl (hs := bigu64_ct (x := (BitVec.ofNat 64 pt.l.length)))) rfl rfl rfl ?_
   rintro _ _ ⟨g16, rfl, hA⟩
   simp only [List.cons_append, List.nil_append] at hA
   replace hA := hA.symm
   subst hA
   have hSg : Sv [arr (some g16) 8 1 5 (eU .u8) (big64 (BitVec.ofNat 64 pt.l.length))] (sl (some g16) 8 8) 1 (eU .u8 (w := 8)) (big64 (BitVec.ofNat 64 pt.l.length)) (some ⟨g16, 0, none⟩) 8 := by have h := Sv_own' (a := some g16) (cap := 8) (T := 5) (encU .u8 (w := 8)) (l := big64 (BitVec.ofNat 64 pt.l.length)) (by simp) (by rw [hbl8]; exact Nat.le_refl _); rw [hbl8] at h; exact h
   refine WL_ac (Ac_appendS (f := (eU .u8 (w := 8))) (encU .u8) rfl rfl ud32 ud32 el5 (hS := hSg)) rfl rfl rfl ?_
   rintro _ _ ⟨a17, cap17, rfl, rfl⟩
   refine WL_r (Rd_assign rfl) rfl ?_
   refine WL_end hK10 ?_
   refine WC_region ?_
   refine WL_r (Rd_move rfl) rfl ?_
   refine WL_r (Rd_move rfl) rfl ?_
   refine WL_ac (Ac_appendS (f := (eU .u8 (w := 8))) (encU .u8) rfl rfl ud32 ud32 el5 (hS := hptS)) rfl rfl rfl ?_
   rintro _ _ ⟨a19, cap19, rfl, rfl⟩
   rw [hft, hfe]
   refine WL_r (Rd_assign rfl) rfl ?_
   refine WL_nil ?_
   refine Ps_next hK8 ?_
   refine WC_region ?_
   refine WL_r (Rd_addN (j := 1) rfl rfl) rfl ?_
   refine WL_r (Rd_move rfl) rfl ?_
   refine WL_nil ?_
   refine Ps_wkA (hK5 ⟨i' + 1, a19, cap19⟩ (by dsimp only; omega) (by dsimp only; omega))
  ·try simp only [dz, ne_eq] at hc0
   obtain rfl : i' = ps.length := by omega
   rw [List.take_length]
   refine WC_exit ?_
   refine Ps_next hK3 ?_
   refine WC_sr fun K11 hK11 => ?_
   refine WL_r (Rd_move rfl) rfl ?_
   refine WL_r (Rd_assign rfl) rfl ?_
   refine WL_end hK11 ?_
   refine WC_ret ?_
   exact hret.go (a, c) (Rs1 rfl rfl)

theorem grow2_ct {n : Nat} (hn : n ≤ 900000000000 := by omega) : Ct Try.prog 163 [sl none 0 0, .int .i64 ((n : Nat) : Int)] [] (fun g : Option Nat × Nat => sl g.1 0 g.2) (fun g => [arr g.1 g.2 1 32 fP ([] : List Pt)]) := by
 refine Ct_body (n := 27) Try.func163 rfl rfl rfl fun F w0 Q hret hnorm hp => ?_
 change WC _ _ _ _ _ _ _ (F)
 refine WC_sr fun K1 hK1 => ?_
 refine WL_r (Rd_assign (v := sl none 0 0) rfl) rfl ?_
 refine WL_end hK1 ?_
 refine WC_seq fun K2 hK2 => ?_
 refine WC_sr fun K3 hK3 => ?_
 refine WL_r (Rd_move rfl) rfl ?_
 refine WL_r (Rd_isF (Rd_lssN (j := 0) rfl rfl)) rfl ?_
 refine WL_end hK3 ?_
 refine WC_condF rfl ?_
 refine WC_skip ?_
 refine Ps_next hK2 ?_
 refine WC_seq fun K4 hK4 => ?_
 refine WC_sr fun K5 hK5 => ?_
 refine WL_r (Rd_move rfl) rfl ?_
 refine WL_r (Rd_move rfl) rfl ?_
 refine WL_r (Rd_cap rfl rfl ud27) rfl ?_
 refine WL_r (Rd_move rfl) rfl ?_
 refine WL_r (Rd_len rfl rfl ud27) rfl ?_
 refine WL_r (Rd_subN rfl rfl) rfl ?_
 refine WL_r (Rd_subN rfl rfl) rfl ?_
 refine WL_r (Rd_assign rfl) rfl ?_
 refine WL_end hK5 ?_
 refine WC_sr fun K6 hK6 => ?_
 refine WL_r (Rd_move rfl) rfl ?_
 refine WL_r (Rd_gtrN (j := 0) rfl rfl) rfl ?_
 refine WL_end hK6 ?_
 refine WC_cond rfl (fun hc1 => ?_) (fun hc1 => ?_)
 ·try simp only [dz, ne_eq] at hc1
  refine WC_region ?_
  refine WL_r (Rd_move rfl) rfl ?_
  refine WL_r (Rd_move rfl) rfl ?_
  refine WL_r (Rd_cap rfl rfl ud27) rfl ?_
  refine WL_r (Rd_slice_hi 0 rfl rfl ud27 sz32) rfl ?_
  refine WL_r (Rd_move rfl) rfl ?_
  refine WL_ac (Ac_appendZ (f := fP) (⟨[], none, 0⟩ : Pt) encP rfl rfl rfl ud27 ud3 el32 zr32) rfl rfl rfl ?_
  rintro _ _ ⟨b22, c22, rfl, rfl⟩
  refine WL_r (Rd_move rfl) rfl ?_
  refine WL_r (Rd_len rfl rfl ud27) rfl ?_
  refine WL_r (Rd_slice_hi _ rfl rfl ud27 sz32) rfl ?_
  refine WL_take 0 (by repeat (first | with_reducible exact Ext.here | with_reducible apply Ext.there)) ?_
  rw [List.take_zero]
  refine WL_r (Rd_assign rfl) rfl ?_
  refine WL_nil ?_
  refine Ps_next hK4 ?_
  refine WC_sr fun K7 hK7 => ?_
  refine WL_r (Rd_move rfl) rfl ?_
  refine WL_r (Rd_assign rfl) rfl ?_
  refine WL_end hK7 ?_
  refine WC_ret ?_
  first | exact hret.go (some b22, c22) (Rs1 rfl rfl) | exact hret.go (none, 0) (Rs1 rfl rfl)
 ·try simp only [dz, ne_eq] at hc1
  refine WC_imp (fun w h => sat_nil (e := 1) (T := 32) (f := fP) h) ?_
  refine WC_skip ?_
  refine Ps_next hK4 ?_
  refine WC_sr fun K8 hK8 => ?_
  refine WL_r (Rd_move rfl) rfl ?_
  refine WL_r (Rd_assign rfl) rfl ?_
  refine WL_end hK8 ?_
  refine WC_ret ?_
  first | exact hret.go (some b22, c22) (Rs1 rfl rfl) | exact hret.go (none, 0) (Rs1 rfl rfl)

theorem concat2_ct {X : Asn} {v : Value} {qs : List PPt} {ao : Option Addr} {cap2 : Nat} (hS : Sv [X] v 1 fPP qs ao cap2 := by assumption) (hQ : ∀ q ∈ qs, Sv [X] q.v 1 fP q.l q.ao q.cap := by assumption) (hn : (catP qs).length ≤ 900000000000 := by omega) (hk : qs.length ≤ 900000000000 := by omega) : Ct Try.prog 111 [v] [X] (fun g : Option Nat × Nat => sl g.1 (catP qs).length g.2) (fun g => [X, arr g.1 g.2 1 32 fP (catP qs)]) := by
 refine Ct_body (n := 36) Try.func111 rfl rfl rfl fun F w0 Q hret hnorm hp => ?_
 change WC _ _ _ _ _ _ _ (_ :: F)
 have hcn : (catP (qs.take 0)).length = 0 := rfl
 refine WC_sr fun K1 hK1 => ?_
 refine WL_r (Rd_assign (v := sl none 0 0) rfl) rfl ?_
 refine WL_end hK1 ?_
 refine WC_sr fun K2 hK2 => ?_
 refine WL_r (Rd_assign rfl) rfl ?_
 refine WL_end hK2 ?_
 refine WC_seq fun K3 hK3 => ?_
 refine WC_sr fun K4 hK4 => ?_
 refine WL_r (Rd_move rfl) rfl ?_
 refine WL_r (Rd_len_sv rfl rfl ud89) rfl ?_
 refine WL_r (Rd_move rfl) rfl ?_
 refine WL_end hK4 ?_
 refine WC_block ?_
 refine WC_loopK (σ := Nat) (fun i' => [(3, .int .i64 (((catP (qs.take i')).length : Nat) : Int)), (11, .int .i64 ((i' : Nat) : Int))]) (fun i' => []) (fun i' => i' ≤ qs.length) (fun i' => qs.length - i') (0) [0, 2, 6, 8, 9, 10, 23, 24, 25, 26, 27, 28, 29, 30, 31, 32, 33, 34, 35] kpA (by (try dsimp only); repeat (first | with_reducible exact Gv.nil | (with_reducible apply Gv.cons; · (repeat (first | with_reducible exact Ext.here | with_reducible apply Ext.there))))) ?_ ?_ Sub.refl ?_
 ·exact Nat.zero_le _
 ·(try dsimp only); exact (Wk.cons lkA (Wk.cons lkA Wk.nil))
 ·rintro i' hi K5 hK5
  simp only [List.cons_append, List.nil_append]
  refine WC_sr fun K6 hK6 => ?_
  refine WL_r (Rd_lssN rfl rfl) rfl ?_
  refine WL_end hK6 ?_
  refine WC_seq fun K7 hK7 => ?_
  refine WC_cond rfl (fun hc0 => ?_) (fun hc0 => ?_)
  ·try simp only [dz, ne_eq] at hc0
   obtain ⟨qt, hqt⟩ : ∃ q, qs[i']? = some q := ⟨_, List.getElem?_eq_getElem (by omega)⟩
   have hqtS : Sv [X] qt.v 1 fP qt.l qt.ao qt.cap := hQ qt (List.mem_of_getElem? hqt)
   have hpl := catP_len hqt
   have hle := catP_le qs (i' + 1)
   refine WC_skip ?_
   refine Ps_next hK7 ?_
   refine WC_seq fun K8 hK8 => ?_
   refine WC_block ?_
   refine WC_sr fun K9 hK9 => ?_
   refine WL_r (Rd_index_sv i' rfl rfl ud89 sz27 (hA := hS) (hi := by omega)) rfl ?_
   refine WL_r (Rd_load_sv (i := i') (j := 0) rfl tk27 (hA := hS) (hl := hqt)) rfl ?_
   refine WL_r (Rd_assign rfl) rfl ?_
   refine WL_end hK9 ?_
   refine WC_sr fun K10 hK10 => ?_
   refine WL_r (Rd_move rfl) rfl ?_
   refine WL_r (Rd_move rfl) rfl ?_
   refine WL_r (Rd_len_sv rfl rfl ud27 (hA := hqtS)) rfl ?_
   refine WL_r (Rd_addN rfl rfl) rfl ?_
   rw [hpl]
   refine WL_r (Rd_assign rfl) rfl ?_
   refine WL_end hK10 ?_
   refine WC_sr fun K11 hK11 => ?_
   refine WL_r (Rd_move rfl) rfl ?_
   refine WL_r (Rd_isF (Rd_lssN (j := 0) rfl rfl)) rfl ?_
   refine WL_end hK11 ?_
   refine WC_condF rfl ?_
   refine WC_skip ?_
   refine Ps_next hK8 ?_
   refine WC_region ?_
   refine WL_r (Rd_addN (j := 1) rfl rfl) rfl ?_
   refine WL_r (Rd_move rfl) rfl ?_
   refine WL_nil ?_
   refine Ps_wkA (hK5 (i' + 1) (by omega) (by omega))
  ·try simp only [dz, ne_eq] at hc0
   obtain rfl : i' = qs.length := by omega
   have hle := catP_le qs qs.length
   refine WC_exit ?_
   refine Ps_next hK3 ?_
   refine WC_sr fun K12 hK12 => ?_
   refine WL_r (Rd_move rfl) rfl ?_
   refine WL_ac (Ac_call cf163 rfl (hs := grow2_ct (n := (catP (qs.take qs.length)).length))) rfl rfl rfl ?_
   rintro _ _ ⟨⟨a24, cap24⟩, rfl, hA⟩
   simp only [List.cons_append, List.nil_append] at hA
   replace hA := hA.symm
   subst hA
   refine WL_r (Rd_assign rfl) rfl ?_
   refine WL_end hK12 ?_
   refine WC_seq fun K13 hK13 => ?_
   refine WC_sr fun K14 hK14 => ?_
   refine WL_r (Rd_move rfl) rfl ?_
   refine WL_r (Rd_len_sv rfl rfl ud89) rfl ?_
   refine WL_r (Rd_move rfl) rfl ?_
   refine WL_end hK14 ?_
   refine WC_block ?_
   rw [show ([] : List Pt) = catP (qs.take 0) from rfl]
   refine WC_loopK (σ := Nat × (Option Nat) × Nat) (fun ⟨i2, a2, cap3⟩ => [(6, sl a2 (catP (qs.take i2)).length cap3), (27, .int .i64 ((i2 : Nat) : Int))]) (fun ⟨i2, a2, cap3⟩ => [arr a2 cap3 1 32 fP (catP (qs.take i2))]) (fun ⟨i2, a2, cap3⟩ => i2 ≤ qs.length) (fun ⟨i2, a2, cap3⟩ => qs.length - i2) ⟨0, a24, cap24⟩ [2, 25, 26, 35] kpA (by (try dsimp only); repeat (first | with_reducible exact Gv.nil | (with_reducible apply Gv.cons; · (repeat (first | with_reducible exact Ext.here | with_reducible apply Ext.there))))) ?_ ?_ Sub.refl ?_
   ·exact Nat.zero_le _
   ·(try dsimp only); exact (Wk.cons lkA (Wk.cons lkA Wk.nil))
   ·rintro ⟨i2, a2, cap3⟩ hj K15 hK15
    simp only [List.cons_append, List.nil_append]
    refine WC_sr fun K16 hK16 => ?_
    refine WL_r (Rd_lssN rfl rfl) rfl ?_
    refine WL_end hK16 ?_
    refine WC_seq fun K17 hK17 => ?_
    refine WC_cond rfl (fun hc2 => ?_) (fun hc2 => ?_)
    ·try simp only [dz, ne_eq] at hc2
     obtain ⟨qt, hqt⟩ : ∃ q, qs[i2]? = some q := ⟨_, List.getElem?_eq_getElem (by omega)⟩
     have hqtS : Sv [X] qt.v 1 fP qt.l qt.ao qt.cap := hQ qt (List.mem_of_getElem? hqt)
     have hpl := catP_len hqt
     have hle := catP_le qs (i2 + 1)
     refine WC_skip ?_
     refine Ps_next hK17 ?_
     refine WC_seq fun K18 hK18 => ?_
     refine WC_block ?_
     refine WC_sr fun K19 hK19 => ?_
     refine WL_r (Rd_index_sv i2 rfl rfl ud89 sz27 (hA := hS) (hi := by omega)) rfl ?_
     refine WL_r (Rd_load_sv (i := i2) (j := 0) rfl tk27 (hA := hS) (hl := hqt)) rfl ?_
     refine WL_r (Rd_assign rfl) rfl ?_
     refine WL_end hK19 ?_
     refine WC_region ?_
     refine WL_r (Rd_move rfl) rfl ?_
     refine WL_r (Rd_move rfl) rfl ?_
     refine WL_ac (Ac_appendS (f := fP) encP rfl rfl ud27 ud27 el32 (hS := hqtS)) rfl rfl rfl ?_
     rintro _ _ ⟨a33, cap33, rfl, rfl⟩
     rw [hpl, catP_take hqt]
     refine WL_r (Rd_assign rfl) rfl ?_
     refine WL_nil ?_
     refine Ps_next hK18 ?_
     refine WC_region ?_
     refine WL_r (Rd_addN (j := 1) rfl rfl) rfl ?_
     refine WL_r (Rd_move rfl) rfl ?_
     refine WL_nil ?_
     refine Ps_wkA (hK15 ⟨i2 + 1, a33, cap33⟩ (by dsimp only; omega) (by dsimp only; omega))
    ·try simp only [dz, ne_eq] at hc2
     obtain rfl : i2 = qs.length := by omega
     rw [catP_all (Nat.le_refl _)]
     refine WC_exit ?_
     refine Ps_next hK13 ?_
     refine WC_sr fun K20 hK20 => ?_
     refine WL_r (Rd_move rfl) rfl ?_
     refine WL_r (Rd_assign rfl) rfl ?_
     refine WL_end hK20 ?_
     refine WC_ret ?_
     exact hret.go (a2, cap3) (Rs1 rfl rfl)
end Go.Proofs.Ytgkpbeikcpecbaa
namespace Go.Proofs.Ytgkpbeikcpecbaa
open Go.RowKit Go.SL Go.ShM
set_option maxHeartbeats 1000000
set_option maxRecDepth 20000
set_option linter.all false
theorem cf54 : cfn Try.prog 54 = true := by kernel_rfl
theorem cf109 : cfn Try.prog 109 = true := by kernel_rfl
theorem cf110 : cfn Try.prog 110 = true := by kernel_rfl
theorem cf111 : cfn Try.prog 111 = true := by kernel_rfl
theorem ud9 : Try.prog.underlying 9 = some (.string) := by kernel_rfl
theorem zr27 : zr Try.prog 27 = some [.slice none 0 0] := by kernel_rfl
theorem tag50 {t : B8} {ls : List (List B8)} (h : (wordS t).size = 0) : tagB t ls = [] ∧ tagE t ls = 50 := by unfold tagB tagE; rw [if_pos h, if_pos h]; exact ⟨rfl, rfl⟩
theorem tag51 {t : B8} {ls : List (List B8)} (h : ¬ (wordS t).size = 0) (h' : fitM t (lens ls) = false) : tagB t ls = [] ∧ tagE t ls = 51 := by unfold tagB tagE; rw [if_neg h, if_neg h, h']; exact ⟨rfl, rfl⟩
theorem tag0 {t : B8} {ls : List (List B8)} (h : ¬ (wordS t).size = 0) (h' : fitM t (lens ls) = true) : tagB t ls = frM (bsS (wordS t) :: ls) ∧ tagE t ls = 0 := by unfold tagB tagE; rw [if_neg h, if_neg h, h']; exact ⟨rfl, rfl⟩

theorem Rd_isEq {n : Nat} {o : Oper} {L : List (Nat × Value)} {A : List Asn} {b c : Bool} (e : b = c) (h : Rd Try.prog n o L A (.bool b)) : Rd Try.prog n o L A (.bool c) := e ▸ h

theorem bytes_ct {t : B8} {X : Asn} {v : Value} {ps : List Pt} {ao : Option Addr} {cap : Nat} (hS : Sv [X] v 1 fP ps ao cap := by assumption) (hP : ∀ p ∈ ps, RdP [X] p := by assumption) (hn : (joinP ps).length ≤ 400000000000 := by omega) (hk : ps.length ≤ 1000000000 := by omega) : Ct Try.prog 51 [.int .u8 ((t.toNat : Nat) : Int), v] [X] (fun g : Option Nat × Nat => .tuple #[sl g.1 (tagB t (ps.map (·.l))).length g.2, .int .i64 ((tagE t (ps.map (·.l)) : Nat) : Int)]) (fun g => [X, arr g.1 g.2 1 5 (eU .u8) (tagB t (ps.map (·.l)))]) := by
 refine Ct_body (n := 23) Try.func51 rfl rfl rfl fun F w0 Q hret hnorm hp => ?_
 change WC _ _ _ _ _ _ _ (_ :: F)
 obtain rfl := hS.val
 have hwl := bsS_le t
 refine WC_sr fun K1 hK1 => ?_
 refine WL_r (Rd_assign (v := sl none 0 0) rfl) rfl ?_
 refine WL_r (Rd_assign rfl) rfl ?_
 refine WL_end hK1 ?_
 refine WC_seq fun K2 hK2 => ?_
 refine WC_block ?_
 refine WC_sr fun K3 hK3 => ?_
 refine WL_r (Rd_move rfl) rfl ?_
 refine WL_ac (Ac_call cf54 rfl (hs := word_ct)) rfl rfl rfl ?_
 rintro _ _ ⟨⟨⟩, rfl, hA⟩
 simp only [List.cons_append, List.nil_append] at hA
 replace hA := hA.symm
 subst hA
 refine WL_r (Rd_isEq (word_eq0 t) (Rd_streq rfl rfl)) rfl ?_
 refine WL_r (Rd_assign rfl) rfl ?_
 refine WL_end hK3 ?_
 refine WC_cond rfl (fun hc0 => ?_) (fun hc0 => ?_)
 ·try simp only [dz, ne_eq] at hc0
  obtain ⟨e50a, e50b⟩ := tag50 (ls := ps.map (·.l)) hc0
  rw [e50a] at hret
  refine WC_imp (fun w h => sat_nil (e := 1) (T := 5) (f := eU .u8 (w := 8)) h) ?_
  refine WC_sr fun K4 hK4 => ?_
  refine WL_r (Rd_assign (v := sl none 0 0) rfl) rfl ?_
  refine WL_r (Rd_assign rfl) rfl ?_
  refine WL_end hK4 ?_
  refine WC_ret ?_
  first | exact hret.goE (none, 0) (Rs2 rfl rfl rfl) (by rw [e50b]; rfl) | exact hret.goE (none, 0) (Rs2 rfl rfl rfl) (by rw [e51b]; rfl) | exact hret.goE (a22, cap22) (Rs2 rfl rfl rfl) (by rw [e0b]; rfl)
 ·try simp only [dz, ne_eq] at hc0
  refine WC_sr fun K5 hK5 => ?_
  refine WL_r (Rd_move rfl) rfl ?_
  refine WL_r (Rd_move rfl) rfl ?_
  refine WL_ac (Ac_call cf109 rfl (hs := fit_ct (t := t) (ps := ps))) rfl rfl rfl ?_
  rintro _ _ ⟨⟨⟩, rfl, hA⟩
  simp only [List.cons_append, List.nil_append] at hA
  replace hA := hA.symm
  subst hA
  refine WL_r (Rd_not rfl) rfl ?_
  refine WL_r (Rd_assign rfl) rfl ?_
  refine WL_end hK5 ?_
  refine WC_cond rfl (fun hc1 => ?_) (fun hc1 => ?_)
  ·try simp only [dz, ne_eq] at hc1
   obtain ⟨e51a, e51b⟩ := tag51 (ls := ps.map (·.l)) hc0 hc1
   rw [e51a] at hret
   refine WC_imp (fun w h => sat_nil (e := 1) (T := 5) (f := eU .u8 (w := 8)) h) ?_
   refine WC_sr fun K6 hK6 => ?_
   refine WL_r (Rd_assign (v := sl none 0 0) rfl) rfl ?_
   refine WL_r (Rd_assign rfl) rfl ?_
   refine WL_end hK6 ?_
   refine WC_ret ?_
   first | exact hret.goE (none, 0) (Rs2 rfl rfl rfl) (by rw [e50b]; rfl) | exact hret.goE (none, 0) (Rs2 rfl rfl rfl) (by rw [e51b]; rfl) | exact hret.goE (a22, cap22) (Rs2 rfl rfl rfl) (by rw [e0b]; rfl)
  ·try simp only [dz, ne_eq] at hc1
   obtain ⟨e0a, e0b⟩ := tag0 (ls := ps.map (·.l)) hc0 hc1
   rw [e0a] at hret
   have hfq := frP_all (ps := ps)
   refine WC_skip ?_
   refine Ps_next hK2 ?_
   refine WC_sr fun K7 hK7 => ?_
   refine WL_r (Rd_move rfl) rfl ?_
   refine WL_ac (Ac_call cf54 rfl (hs := word_ct)) rfl rfl rfl ?_
   rintro _ _ ⟨⟨⟩, rfl, hA⟩
   simp only [List.cons_append, List.nil_append] at hA
   replace hA := hA.symm
   subst hA
   refine WL_ac (Ac_convSB rfl ud9 ud32 ud5 (by omega) (by have := wordS_size t; omega)) rfl rfl rfl ?_
   rintro _ _ ⟨b17, cap17, rfl, rfl⟩
   refine WL_ac (Ac_bsL (f := fP) (zs := [.slice none 0 0]) (bs := [.slice none 0 0]) [(⟨bsS (wordS t), some ⟨b17, 0, none⟩, cap17⟩ : Pt)] encP ud27 zr32 sz32 rfl (by rw [Array.toList_map, Array.toList_range]; rfl) (by rfl) (by rfl) (by rfl) (by rfl)) rfl rfl rfl ?_
   rintro _ _ ⟨b18, rfl, rfl⟩
   refine WL_r (Rd_move rfl) rfl ?_
   refine WL_ac (Ac_bsL (f := fPP) (zs := [.slice none 0 0]) (bs := [.slice none 0 0, .slice none 0 0]) [(⟨[(⟨bsS (wordS t), some ⟨b17, 0, none⟩, cap17⟩ : Pt)], some ⟨b18, 0, none⟩, 1⟩ : PPt), (⟨ps, ao, cap⟩ : PPt)] encPP ud89 zr27 sz27 rfl (by rw [Array.toList_map, Array.toList_range]; rfl) (by rfl) (by rfl) (by rfl) (by rfl)) rfl rfl rfl ?_
   rintro _ _ ⟨b20, rfl, rfl⟩
   refine WL_fact (fun w h => frA_cap (b := b17) (cap := cap17) (e := 1) (T := 5) (f := eU .u8 (w := 8)) (l := (bsS (wordS t))) hasA h) (fun hcw => ?_)
   have hW : RdP [frA b17 cap17 1 5 (eU .u8 (w := 8)) (bsS (wordS t))] (⟨bsS (wordS t), some ⟨b17, 0, none⟩, cap17⟩ : Pt) := Sv_fr (encU .u8 (w := 8)) hcw
   have h18 : Sv [arr (some b18) 1 1 32 fP [(⟨bsS (wordS t), some ⟨b17, 0, none⟩, cap17⟩ : Pt)]] (sl (some b18) 1 1) 1 fP [(⟨bsS (wordS t), some ⟨b17, 0, none⟩, cap17⟩ : Pt)] (some ⟨b18, 0, none⟩) 1 := Sv_own' (a := some b18) (cap := 1) (T := 32) encP (l := [(⟨bsS (wordS t), some ⟨b17, 0, none⟩, cap17⟩ : Pt)]) (by simp) (Nat.le_refl 1)
   have h20 : Sv [arr (some b20) 2 1 27 fPP [(⟨[(⟨bsS (wordS t), some ⟨b17, 0, none⟩, cap17⟩ : Pt)], some ⟨b18, 0, none⟩, 1⟩ : PPt), (⟨ps, ao, cap⟩ : PPt)]] (sl (some b20) 2 2) 1 fPP [(⟨[(⟨bsS (wordS t), some ⟨b17, 0, none⟩, cap17⟩ : Pt)], some ⟨b18, 0, none⟩, 1⟩ : PPt), (⟨ps, ao, cap⟩ : PPt)] (some ⟨b20, 0, none⟩) 2 := Sv_own' (a := some b20) (cap := 2) (T := 27) encPP (l := [(⟨[(⟨bsS (wordS t), some ⟨b17, 0, none⟩, cap17⟩ : Pt)], some ⟨b18, 0, none⟩, 1⟩ : PPt), (⟨ps, ao, cap⟩ : PPt)]) (by simp) (Nat.le_refl 2)
   have hcat : catP [(⟨[(⟨bsS (wordS t), some ⟨b17, 0, none⟩, cap17⟩ : Pt)], some ⟨b18, 0, none⟩, 1⟩ : PPt), (⟨ps, ao, cap⟩ : PPt)] = ((⟨bsS (wordS t), some ⟨b17, 0, none⟩, cap17⟩ : Pt) :: ps) := by simp [catP]
   refine WL_ac (Ac_call cf111 rfl (hs := Ct.un0 (Xs := [arr (some b20) 2 1 27 fPP [(⟨[(⟨bsS (wordS t), some ⟨b17, 0, none⟩, cap17⟩ : Pt)], some ⟨b18, 0, none⟩, 1⟩ : PPt), (⟨ps, ao, cap⟩ : PPt)], arr (some b18) 1 1 32 fP [(⟨bsS (wordS t), some ⟨b17, 0, none⟩, cap17⟩ : Pt)], frA b17 cap17 1 5 (eU .u8 (w := 8)) (bsS (wordS t)), X]) (concat2_ct (X := sep [arr (some b20) 2 1 27 fPP [(⟨[(⟨bsS (wordS t), some ⟨b17, 0, none⟩, cap17⟩ : Pt)], some ⟨b18, 0, none⟩, 1⟩ : PPt), (⟨ps, ao, cap⟩ : PPt)], arr (some b18) 1 1 32 fP [(⟨bsS (wordS t), some ⟨b17, 0, none⟩, cap17⟩ : Pt)], frA b17 cap17 1 5 (eU .u8 (w := 8)) (bsS (wordS t)), X]) (qs := [(⟨[(⟨bsS (wordS t), some ⟨b17, 0, none⟩, cap17⟩ : Pt)], some ⟨b18, 0, none⟩, 1⟩ : PPt), (⟨ps, ao, cap⟩ : PPt)]) (hS := h20.pk hasA) (hQ := List.forall_mem_cons.2 ⟨h18.pk hasA, List.forall_mem_cons.2 ⟨hS.pk hasA, by simp⟩⟩) (hn := by rw [hcat, List.length_cons]; omega) (hk := by show 2 ≤ _; omega)))) rfl rfl rfl ?_
   rintro _ _ ⟨⟨a21, cap21⟩, rfl, hA⟩
   simp only [List.cons_append, List.nil_append] at hA
   replace hA := hA.symm
   subst hA
   rw [hcat]
   refine WL_fact (fun w h => arr_facts (a := a21) (cap := cap21) (e := 1) (T := 32) (f := fP) (l := ((⟨bsS (wordS t), some ⟨b17, 0, none⟩, cap17⟩ : Pt) :: ps)) hasA h) (fun h21f => ?_)
   have h21 : Sv [arr a21 cap21 1 32 fP ((⟨bsS (wordS t), some ⟨b17, 0, none⟩, cap17⟩ : Pt) :: ps)] (sl a21 ((⟨bsS (wordS t), some ⟨b17, 0, none⟩, cap17⟩ : Pt) :: ps).length cap21) 1 fP ((⟨bsS (wordS t), some ⟨b17, 0, none⟩, cap17⟩ : Pt) :: ps) (a21.map fun g => ⟨g, 0, none⟩) cap21 := Sv_own' encP h21f.1 h21f.2
   have hjp : (joinP ((⟨bsS (wordS t), some ⟨b17, 0, none⟩, cap17⟩ : Pt) :: ps)).length = (bsS (wordS t)).length + (joinP ps).length := by simp [joinP]
   have hls : (((⟨bsS (wordS t), some ⟨b17, 0, none⟩, cap17⟩ : Pt) :: ps).map (·.l)) = (bsS (wordS t)) :: ps.map (·.l) := rfl
   refine WL_ac (Ac_call cf110 rfl (hs := Ct.un0 (Xs := [arr a21 cap21 1 32 fP ((⟨bsS (wordS t), some ⟨b17, 0, none⟩, cap17⟩ : Pt) :: ps), arr (some b20) 2 1 27 fPP [(⟨[(⟨bsS (wordS t), some ⟨b17, 0, none⟩, cap17⟩ : Pt)], some ⟨b18, 0, none⟩, 1⟩ : PPt), (⟨ps, ao, cap⟩ : PPt)], arr (some b18) 1 1 32 fP [(⟨bsS (wordS t), some ⟨b17, 0, none⟩, cap17⟩ : Pt)], frA b17 cap17 1 5 (eU .u8 (w := 8)) (bsS (wordS t)), X]) (framed_ct (X := sep [arr a21 cap21 1 32 fP ((⟨bsS (wordS t), some ⟨b17, 0, none⟩, cap17⟩ : Pt) :: ps), arr (some b20) 2 1 27 fPP [(⟨[(⟨bsS (wordS t), some ⟨b17, 0, none⟩, cap17⟩ : Pt)], some ⟨b18, 0, none⟩, 1⟩ : PPt), (⟨ps, ao, cap⟩ : PPt)], arr (some b18) 1 1 32 fP [(⟨bsS (wordS t), some ⟨b17, 0, none⟩, cap17⟩ : Pt)], frA b17 cap17 1 5 (eU .u8 (w := 8)) (bsS (wordS t)), X]) (ps := ((⟨bsS (wordS t), some ⟨b17, 0, none⟩, cap17⟩ : Pt) :: ps)) (hS := h21.pk hasA) (hP := List.forall_mem_cons.2 ⟨hW.pk hasA, fun p h => (hP p h).pk hasA⟩) (hn := by rw [hjp]; omega) (hk := by rw [List.length_cons]; omega)))) rfl rfl rfl ?_
   rintro _ _ ⟨⟨a22, cap22⟩, rfl, hA⟩
   simp only [List.cons_append, List.nil_append] at hA
   replace hA := hA.symm
   subst hA
   rw [hls]
   refine WL_r (Rd_assign rfl) rfl ?_
   refine WL_r (Rd_assign rfl) rfl ?_
   refine WL_end hK7 ?_
   refine WC_ret ?_
   first | exact hret.goE (none, 0) (Rs2 rfl rfl rfl) (by rw [e50b]; rfl) | exact hret.goE (none, 0) (Rs2 rfl rfl rfl) (by rw [e51b]; rfl) | exact hret.goE (a22, cap22) (Rs2 rfl rfl rfl) (by rw [e0b]; rfl)
end Go.Proofs.Ytgkpbeikcpecbaa
namespace Go.Proofs.Ytgkpbeikcpecbaa
open Go.RowKit Go.SL Go.ShM
set_option maxHeartbeats 1000000
set_option maxRecDepth 20000
set_option linter.all false
theorem cf51 : cfn Try.prog 51 = true := by kernel_rfl
theorem cf53 : cfn Try.prog 53 = true := by kernel_rfl
theorem cf161 : cfn Try.prog 161 = true := by kernel_rfl
theorem digest_ct {t : B8} {X : Asn} {v : Value} {ps : List Pt} {ao : Option Addr} {cap : Nat} (hS : Sv [X] v 1 fP ps ao cap := by assumption) (hP : ∀ p ∈ ps, RdP [X] p := by assumption) (hn : (joinP ps).length ≤ 400000000000 := by omega) (hk : ps.length ≤ 1000000000 := by omega) : Ct Try.prog 53 [.int .u8 ((t.toNat : Nat) : Int), v] [X] (fun _ : Unit => .tuple #[aU .u8 (tagD t (ps.map (·.l))), .int .i64 ((tagE t (ps.map (·.l)) : Nat) : Int)]) (fun _ => [X]) := by
 refine Ct_body (n := 21) Try.func53 rfl rfl rfl fun F w0 Q hret hnorm hp => ?_
 change WC _ _ _ _ _ _ _ (_ :: F)
 have htl := tagB_len t (ps.map (·.l))
 rw [← joinP_flat, List.length_map] at htl
 have hdl := dgM_len (tagB t (ps.map (·.l)))
 have htd := tagD_len t (ps.map (·.l))
 have hz32 : (List.replicate 32 0#8).length = 32 := rfl
 refine WC_sr fun K1 hK1 => ?_
 refine WL_ac (Ac_allocW (k := .u8) (w := 8) (m := 32) zr42) rfl rfl rfl ?_
 rintro _ _ ⟨b4, rfl, rfl⟩
 refine WL_r (Rd_assign rfl) rfl ?_
 refine WL_end hK1 ?_
 refine WC_sr fun K2 hK2 => ?_
 refine WL_r (Rd_move rfl) rfl ?_
 refine WL_r (Rd_move rfl) rfl ?_
 refine WL_ac (Ac_call cf51 rfl (hs := bytes_ct (X := X) (t := t) (ps := ps) (hS := hS) (hP := hP))) rfl rfl rfl ?_
 rintro _ _ ⟨⟨a11, cap11⟩, rfl, hA⟩
 simp only [List.cons_append, List.nil_append] at hA
 replace hA := hA.symm
 subst hA
 refine WL_r (Rd_move rfl) rfl ?_
 refine WL_r (Rd_ext0 rfl) rfl ?_
 refine WL_r (Rd_ext1 rfl) rfl ?_
 refine WL_r (Rd_assign rfl) rfl ?_
 refine WL_r (Rd_assign rfl) rfl ?_
 refine WL_end hK2 ?_
 refine WC_seq fun K3 hK3 => ?_
 refine WC_sr fun K4 hK4 => ?_
 refine WL_r (Rd_move rfl) rfl ?_
 refine WL_r (Rd_neqN (j := 0) rfl rfl) rfl ?_
 refine WL_end hK4 ?_
 refine WC_cond rfl (fun hc0 => ?_) (fun hc0 => ?_)
 ·try simp only [dz, ne_eq] at hc0
  rw [tagD_no hc0] at hret
  refine WC_sr fun K5 hK5 => ?_
  refine WL_r (Rd_aU (k := .u8) (l := (List.replicate 32 0#8)) (Rd_build pls42 rfl) (by rfl)) rfl ?_
  refine WL_r (Rd_move rfl) rfl ?_
  refine WL_ac0 (Ac_storeW rfl rfl sz42) rfl rfl ?_
  rintro _ _ rfl
  refine WL_r (Rd_assign rfl) rfl ?_
  refine WL_end hK5 ?_
  refine WC_ret ?_
  exact hret.goE () (Rs2cW rfl rfl rfl tk42) rfl
 ·try simp only [dz, ne_eq] at hc0
  rw [tagD_ok hc0, hc0] at hret
  refine WC_skip ?_
  refine Ps_next hK3 ?_
  refine WC_sr fun K6 hK6 => ?_
  refine WL_r (Rd_move rfl) rfl ?_
  refine WL_ac (Ac_bsL (f := fP) (zs := [.slice none 0 0]) (bs := [.slice none 0 0]) [(⟨(tagB t (ps.map (·.l))), a11.map (fun g => ⟨g, 0, none⟩), cap11⟩ : Pt)] encP ud27 zr32 sz32 rfl (by rw [Array.toList_map, Array.toList_range]; rfl) (by rfl) (by rfl) (by rfl) (by rfl)) rfl rfl rfl ?_
  rintro _ _ ⟨b19, rfl, rfl⟩
  refine WL_fact (fun w h => arr_facts (a := a11) (cap := cap11) (e := 1) (T := 5) (f := eU .u8 (w := 8)) (l := (tagB t (ps.map (·.l)))) hasA h) (fun hSwf => ?_)
  have hSw : Sv [arr a11 cap11 1 5 (eU .u8) (tagB t (ps.map (·.l)))] (sl a11 (tagB t (ps.map (·.l))).length cap11) 1 (eU .u8 (w := 8)) (tagB t (ps.map (·.l))) (a11.map fun g => ⟨g, 0, none⟩) cap11 := Sv_own' (encU .u8 (w := 8)) hSwf.1 hSwf.2
  refine WL_ac (Ac_call cf36 rfl (hs := sum1_ct (X := arr a11 cap11 1 5 (eU .u8) (tagB t (ps.map (·.l)))) (l := (tagB t (ps.map (·.l)))) (hS := hSw))) rfl rfl rfl ?_
  rintro _ _ ⟨⟨⟩, rfl, hA⟩
  simp only [List.cons_append, List.nil_append] at hA
  replace hA := hA.symm
  subst hA
  refine WL_ac0 (Ac_storeW rfl rfl sz42) rfl rfl ?_
  rintro _ _ rfl
  refine WL_r (Rd_assign rfl) rfl ?_
  refine WL_end hK6 ?_
  refine WC_ret ?_
  exact hret.goE () (Rs2cW rfl rfl rfl tk42) rfl

theorem made_ct {t : B8} {X : Asn} {v : Value} {ps : List Pt} {ao : Option Addr} {cap : Nat} (hS : Sv [X] v 1 fP ps ao cap := by assumption) (hP : ∀ p ∈ ps, RdP [X] p := by assumption) (hn : (joinP ps).length ≤ 400000000000 := by omega) (hk : ps.length ≤ 1000000000 := by omega) : Ct Try.prog 161 [.int .u8 ((t.toNat : Nat) : Int), v] [X] (fun _ : Unit => aU .u8 (tagD t (ps.map (·.l)))) (fun _ => [X]) := by
 refine Ct_body (n := 14) Try.func161 rfl rfl rfl fun F w0 Q hret hnorm hp => ?_
 change WC _ _ _ _ _ _ _ (_ :: F)
 have htd := tagD_len t (ps.map (·.l))
 refine WC_sr fun K1 hK1 => ?_
 refine WL_ac (Ac_allocW (k := .u8) (w := 8) (m := 32) zr42) rfl rfl rfl ?_
 rintro _ _ ⟨b4, rfl, rfl⟩
 refine WL_end hK1 ?_
 refine WC_sr fun K2 hK2 => ?_
 refine WL_r (Rd_move rfl) rfl ?_
 refine WL_r (Rd_move rfl) rfl ?_
 refine WL_ac (Ac_call cf53 rfl (hs := digest_ct (X := X) (t := t) (ps := ps) (hS := hS) (hP := hP))) rfl rfl rfl ?_
 rintro _ _ ⟨⟨⟩, rfl, hA⟩
 simp only [List.cons_append, List.nil_append] at hA
 replace hA := hA.symm
 subst hA
 refine WL_r (Rd_move rfl) rfl ?_
 refine WL_r (Rd_ext0 rfl) rfl ?_
 refine WL_r (Rd_ext1 rfl) rfl ?_
 refine WL_ac (Ac_allocW (k := .u8) (w := 8) (m := 32) zr42) rfl rfl rfl ?_
 rintro _ _ ⟨b5, rfl, rfl⟩
 refine WL_ac0 (Ac_storeW rfl rfl sz42) rfl rfl ?_
 rintro _ _ rfl
 refine WL_r (Rd_assign rfl) rfl ?_
 refine WL_end hK2 ?_
 refine WC_sr fun K3 hK3 => ?_
 refine WL_r (Rd_loadW rfl tk42) rfl ?_
 refine WL_ac0 (Ac_storeW rfl rfl sz42) rfl rfl ?_
 rintro _ _ rfl
 refine WL_end hK3 ?_
 refine WC_ret ?_
 exact hret.go () (Rs1W rfl rfl tk42)

theorem padT_ct {x : B32}  : Ct Try.prog 108 [.int .u32 ((x.toNat : Nat) : Int)] [] (fun _ : Unit => aU .u8 (tagD 7#8 [big32 x])) (fun _ => []) := by
 refine Ct_body (n := 7) Try.func108 rfl rfl rfl fun F w0 Q hret hnorm hp => ?_
 change WC _ _ _ _ _ _ _ (F)
 have hb4 := big32_len x
 have htd := tagD_len 7#8 [big32 x]
 refine WC_sr fun K1 hK1 => ?_
 refine WL_ac (Ac_allocW (k := .u8) (w := 8) (m := 32) zr42) rfl rfl rfl ?_
 rintro _ _ ⟨b2, rfl, rfl⟩
 refine WL_end hK1 ?_
 refine WC_sr fun K2 hK2 => ?_
 refine WL_r (Rd_move rfl) rfl ?_
 refine WL_ac (Ac_call cf107 rfl (hs := bigu32_ct (x := x))) rfl rfl rfl ?_
 rintro _ _ ⟨g4, rfl, hA⟩
 simp only [List.cons_append, List.nil_append] at hA
 replace hA := hA.symm
 subst hA
 refine WL_ac (Ac_bsL (f := fP) (zs := [.slice none 0 0]) (bs := [.slice none 0 0]) [(⟨(big32 x), some ⟨g4, 0, none⟩, 4⟩ : Pt)] encP ud27 zr32 sz32 rfl (by rw [Array.toList_map, Array.toList_range]; rfl) (by rfl) (by rfl) (by rfl) (by rfl)) rfl rfl rfl ?_
 rintro _ _ ⟨b5, rfl, rfl⟩
 have hp0 : RdP [arr (some g4) 4 1 5 (eU .u8 (w := 8)) (big32 x)] (⟨(big32 x), some ⟨g4, 0, none⟩, 4⟩ : Pt) := by have h := Sv_own' (a := some g4) (cap := 4) (T := 5) (encU .u8 (w := 8)) (l := (big32 x)) (by simp) (by rw [hb4]; exact Nat.le_refl _); exact h
 have hL : Sv [arr (some b5) 1 1 32 fP [(⟨(big32 x), some ⟨g4, 0, none⟩, 4⟩ : Pt)]] (sl (some b5) 1 1) 1 fP [(⟨(big32 x), some ⟨g4, 0, none⟩, 4⟩ : Pt)] (some ⟨b5, 0, none⟩) 1 := Sv_own' (a := some b5) (cap := 1) (T := 32) encP (l := [(⟨(big32 x), some ⟨g4, 0, none⟩, 4⟩ : Pt)]) (by simp) (Nat.le_refl 1)
 have hmp : ([(⟨(big32 x), some ⟨g4, 0, none⟩, 4⟩ : Pt)].map (·.l)) = [(big32 x)] := rfl
 have hjl : (joinP [(⟨(big32 x), some ⟨g4, 0, none⟩, 4⟩ : Pt)]).length = (big32 x).length := by simp [joinP]
 refine WL_ac (Ac_call cf161 rfl (hs := Ct.un0 (Xs := [arr (some b5) 1 1 32 fP [(⟨(big32 x), some ⟨g4, 0, none⟩, 4⟩ : Pt)], arr (some g4) 4 1 5 (eU .u8 (w := 8)) (big32 x)]) (made_ct (t := 7#8) (X := sep [arr (some b5) 1 1 32 fP [(⟨(big32 x), some ⟨g4, 0, none⟩, 4⟩ : Pt)], arr (some g4) 4 1 5 (eU .u8 (w := 8)) (big32 x)]) (ps := [(⟨(big32 x), some ⟨g4, 0, none⟩, 4⟩ : Pt)]) (hS := hL.pk hasA) (hP := List.forall_mem_cons.2 ⟨hp0.pk hasA, by simp⟩) (hn := by rw [hjl]; omega) (hk := by show 1 ≤ _; omega)))) rfl rfl rfl ?_
 rintro _ _ ⟨⟨⟩, rfl, hA⟩
 simp only [List.cons_append, List.nil_append] at hA
 replace hA := hA.symm
 subst hA
 rw [hmp]
 refine WL_ac0 (Ac_storeW rfl rfl sz42) rfl rfl ?_
 rintro _ _ rfl
 refine WL_end hK2 ?_
 refine WC_ret ?_
 exact hret.go () (Rs1W rfl rfl tk42)
end Go.Proofs.Ytgkpbeikcpecbaa
namespace Go.Proofs.Ytgkpbeikcpecbaa
open Go.RowKit Go.SL Go.ShM
set_option maxHeartbeats 1000000
set_option maxRecDepth 20000
set_option linter.all false
theorem cf45 : cfn Try.prog 45 = true := by kernel_rfl
theorem cf108 : cfn Try.prog 108 = true := by kernel_rfl
end Go.Proofs.Ytgkpbeikcpecbaa
