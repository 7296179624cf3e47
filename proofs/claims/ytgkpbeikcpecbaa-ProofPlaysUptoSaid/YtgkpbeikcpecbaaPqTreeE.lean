/-
  Contracts of functions that the claim reaches, or the logic and the plain laws that they rest on, or the row over them. (Conditions: none beyond the statement.)
-/
import Derived.Test.YtgkpbeikcpecbaaPqTreeD
import Derived.Test.YtgkpbeikcpecbaaLibR
import Derived.Test.YtgkpbeikcpecbaaTrChain
set_option linter.all false
namespace Go.Proofs.Ytgkpbeikcpecbaa
open Go.RowKit Go.SL Go.ShM
set_option maxHeartbeats 1000000
set_option maxRecDepth 20000
set_option linter.all false
theorem cf125 : cfn Try.prog 125 = true := by kernel_rfl
theorem cf126 : cfn Try.prog 126 = true := by kernel_rfl
theorem cf184 : cfn Try.prog 184 = true := by kernel_rfl
theorem el3 : el Try.prog 3 = some (1, 8) := by kernel_rfl
theorem sz101 : sz Try.prog 101 = some 1 := by kernel_rfl
theorem tk101 : tk Try.prog 101 = some none := by kernel_rfl
theorem ud101 : Try.prog.underlying 101 = some (.slice 3) := by kernel_rfl
theorem zr3 : zr Try.prog 3 = some [.int .i64 0] := by kernel_rfl
theorem zr101 : zr Try.prog 101 = some [.slice none 0 0] := by kernel_rfl
theorem nodeT_ct {n l : Int}  : Ct Try.prog 125 [.int .i64 n, .int .i64 l] [] (fun _ : Unit => .tuple #[.int .i64 (((ndM n l) : Nat) : Int), .int .i64 (((ndE n l) : Nat) : Int)]) (fun _ => []) := by
 refine Ct_body (n := 28) Try.func125 rfl rfl rfl fun F w0 Q hret hnorm hp => ?_
 change WC _ _ _ _ _ _ _ (F)
 refine WC_sr fun K1 hK1 => ?_
 refine WL_r (Rd_assign rfl) rfl ?_
 refine WL_r (Rd_assign rfl) rfl ?_
 refine WL_end hK1 ?_
 refine WC_sr fun K2 hK2 => ?_
 refine WL_r (Rd_move rfl) rfl ?_
 refine WL_ac (Ac_call cf112 rfl (hs := width_ct (n := n))) rfl rfl rfl ?_
 rintro _ _ ⟨⟨⟩, rfl, hA⟩
 simp only [List.cons_append, List.nil_append] at hA
 replace hA := hA.symm
 subst hA
 refine WL_r (Rd_move rfl) rfl ?_
 refine WL_r (Rd_ext0 rfl) rfl ?_
 refine WL_r (Rd_ext1 rfl) rfl ?_
 refine WL_r (Rd_assign rfl) rfl ?_
 refine WL_r (Rd_assign rfl) rfl ?_
 refine WL_end hK2 ?_
 refine WC_seq fun K3 hK3 => ?_
 refine WC_block ?_
 refine WC_sr fun K4 hK4 => ?_
 refine WL_r (Rd_move rfl) rfl ?_
 refine WL_r (Rd_neqN (j := 0) rfl rfl) rfl ?_
 refine WL_r (Rd_assign rfl) rfl ?_
 refine WL_end hK4 ?_
 refine WC_cond rfl (fun hc0 => ?_) (fun hc0 => ?_)
 ·try simp only [dz, ne_eq] at hc0
  obtain ⟨e1, e2⟩ := nd_w (l := l) hc0
  rw [e1, e2] at hret
  refine WC_sr fun K5 hK5 => ?_
  refine WL_r (Rd_move rfl) rfl ?_
  refine WL_r (Rd_assign rfl) rfl ?_
  refine WL_r (Rd_assign rfl) rfl ?_
  refine WL_end hK5 ?_
  refine WC_ret ?_
  exact hret.go () (Rs2 rfl rfl rfl)
 ·try simp only [dz, ne_eq] at hc0
  have hw0 := wdE_iff.1 hc0
  refine WC_sr fun K6 hK6 => ?_
  refine WL_r (Rd_move rfl) rfl ?_
  refine WL_r (Rd_lss rfl rfl) rfl ?_
  refine WL_r (Rd_move rfl) rfl ?_
  refine WL_bool 20 rfl (fun hg7 => ?_) (fun hg7 => ?_)
  ·try simp only [dz, ne_eq] at hg7
   have q0 := hg7
   refine WL_skip rfl rfl rfl ?_
   refine WL_skip rfl rfl rfl ?_
   refine WL_skip rfl rfl rfl ?_
   refine WL_r (Rd_pickT rfl rfl) rfl ?_
   refine WL_r (Rd_assign rfl) rfl ?_
   refine WL_end hK6 ?_
   refine WC_condT rfl ?_
   obtain ⟨e1, e2⟩ := nd_l (n := n) (l := l) hc0 (by omega)
   rw [e1, e2] at hret
   refine WC_sr fun K8 hK8 => ?_
   refine WL_r (Rd_assign rfl) rfl ?_
   refine WL_r (Rd_assign rfl) rfl ?_
   refine WL_end hK8 ?_
   refine WC_ret ?_
   exact hret.go () (Rs2 rfl rfl rfl)
  ·try simp only [dz, ne_eq] at hg7
   have q0 := hg7
   refine WL_r (Rd_move rfl) rfl ?_
   refine WL_r (Rd_move rfl) rfl ?_
   refine WL_r (Rd_geq rfl rfl) rfl ?_
   refine WL_r (Rd_pickF rfl rfl) rfl ?_
   refine WL_r (Rd_assign rfl) rfl ?_
   refine WL_end hK6 ?_
   refine WC_cond rfl (fun hc1 => ?_) (fun hc1 => ?_)
   ·try simp only [dz, ne_eq] at hc1
    obtain ⟨e1, e2⟩ := nd_l (n := n) (l := l) hc0 (by omega)
    rw [e1, e2] at hret
    refine WC_sr fun K9 hK9 => ?_
    refine WL_r (Rd_assign rfl) rfl ?_
    refine WL_r (Rd_assign rfl) rfl ?_
    refine WL_end hK9 ?_
    refine WC_ret ?_
    exact hret.go () (Rs2 rfl rfl rfl)
   ·try simp only [dz, ne_eq] at hc1
    obtain ⟨e1, e2⟩ := nd_ok (n := n) (l := l) hc0 (by omega) (by omega)
    rw [e1, e2] at hret
    have hwo := wd_ok (n := n.toNat) (by omega) (by omega)
    refine WC_skip ?_
    refine Ps_next hK3 ?_
    refine WC_sr fun K10 hK10 => ?_
    refine WL_r (Rd_move rfl) rfl ?_
    refine WL_r (Rd_move rfl) rfl ?_
    refine WL_r (Rd_add' (r := ((wdM n.toNat + l.toNat : Nat) : Int)) rfl rfl (wr64 (by omega) (by omega) (by omega))) rfl ?_
    refine WL_r (Rd_assign rfl) rfl ?_
    refine WL_r (Rd_assign rfl) rfl ?_
    refine WL_end hK10 ?_
    refine WC_ret ?_
    exact hret.go () (Rs2 rfl rfl rfl)

theorem up1_ct {l c m : Nat} {X : Nat → Asn} {J : Asn} (hy : ∀ i : Nat, 1 ≤ i → i ≤ 1024 → Yd Try.prog l [.int .i64 ((i : Nat) : Int)] [X i] (fun b : Bool => .bool b) (fun b => [bif b then X (i / 2) else J])) (hm : m ≤ 1024) : Ct Try.prog 184 [yv l, .pointer (some ⟨c, 0, none⟩)] [cl c 3 [.int .i64 ((m : Nat) : Int)], X m] (fun b : Bool => .tuple #[]) (fun b => [cl c 3 [.int .i64 ((m : Nat) : Int)], bif b then X 0 else J]) := by
 refine Ct_body (n := 13) Try.func184 rfl rfl rfl fun F w0 Q hret hnorm hp => ?_
 change WC _ _ _ _ _ _ _ (_ :: _ :: F)
 refine WC_sr fun K1 hK1 => ?_
 refine WL_r (Rd_load rfl tk3) rfl ?_
 refine WL_r (Rd_assign rfl) rfl ?_
 refine WL_end hK1 ?_
 refine WC_block ?_
 refine WC_loopK (σ := Nat) (fun i' => [(3, .int .i64 ((i' : Nat) : Int))]) (fun i' => [X i']) (fun i' => i' ≤ 1024) (fun i' => i') (m) [0] kpA (by (try dsimp only); repeat (first | with_reducible exact Gv.nil | (with_reducible apply Gv.cons; · (repeat (first | with_reducible exact Ext.here | with_reducible apply Ext.there))))) ?_ ?_ Sub.refl ?_
 ·exact hm
 ·(try dsimp only); exact (Wk.cons lkA Wk.nil)
 ·rintro i' hi K2 hK2
  simp only [List.cons_append, List.nil_append]
  refine WC_seq fun K3 hK3 => ?_
  refine WC_sr fun K4 hK4 => ?_
  refine WL_r (Rd_move rfl) rfl ?_
  refine WL_r (Rd_geqN (j := 1) rfl rfl) rfl ?_
  refine WL_end hK4 ?_
  refine WC_cond rfl (fun hc0 => ?_) (fun hc0 => ?_)
  ·try simp only [dz, ne_eq] at hc0
   refine WC_skip ?_
   refine Ps_next hK3 ?_
   refine WC_seq fun K5 hK5 => ?_
   refine WC_block ?_
   refine WC_sr fun K6 hK6 => ?_
   refine WL_r (Rd_move rfl) rfl ?_
   refine WL_r (Rd_move rfl) rfl ?_
   refine WL_ac (Ac_yield rfl rfl (hy i' (by omega) hi)) rfl rfl rfl ?_
   rintro _ _ ⟨b', rfl, hA⟩
   simp only [List.cons_append, List.nil_append] at hA
   replace hA := hA.symm
   subst hA
   refine WL_r (Rd_not rfl) rfl ?_
   refine WL_end hK6 ?_
   refine WC_cond rfl (fun hc1 => ?_) (fun hc1 => ?_)
   ·try simp only [dz, ne_eq] at hc1
    obtain rfl : b' = false := by revert hc1; cases b' <;> simp
    simp only [cond_false]
    have hstop : True := trivial
    refine WC_ret ?_
    first | (have := hstop; exact hret.go false (Rs0 rfl) (by simp only [List.cons_append, List.nil_append, cond_false]; repeat (first | with_reducible exact Sub.refl | with_reducible exact Sub.nil | with_reducible refine Sub.cons (by repeat (first | with_reducible exact Ext.here | with_reducible apply Ext.there)) ?_ | with_reducible refine Sub.tail ?_))) | exact hret.go true (Rs0 rfl) (by simp only [List.cons_append, List.nil_append, cond_true]; repeat (first | with_reducible exact Sub.refl | with_reducible exact Sub.nil | with_reducible refine Sub.cons (by repeat (first | with_reducible exact Ext.here | with_reducible apply Ext.there)) ?_ | with_reducible refine Sub.tail ?_))
   ·try simp only [dz, ne_eq] at hc1
    obtain rfl : b' = true := by revert hc1; cases b' <;> simp
    simp only [cond_true]
    refine WC_skip ?_
    refine Ps_next hK5 ?_
    refine WC_region ?_
    refine WL_r (Rd_move rfl) rfl ?_
    refine WL_r (Rd_quoN (j := 2) rfl rfl) rfl ?_
    refine WL_r (Rd_assign rfl) rfl ?_
    refine WL_nil ?_
    refine Ps_wkA (hK2 (i' / 2) (by omega) (by omega))
  ·try simp only [dz, ne_eq] at hc0
   obtain rfl : i' = 0 := by omega
   refine WC_exit ?_
   first | (have := hstop; exact hnorm.go false (Rs0 rfl) (by simp only [List.cons_append, List.nil_append, cond_false]; repeat (first | with_reducible exact Sub.refl | with_reducible exact Sub.nil | with_reducible refine Sub.cons (by repeat (first | with_reducible exact Ext.here | with_reducible apply Ext.there)) ?_ | with_reducible refine Sub.tail ?_))) | exact hnorm.go true (Rs0 rfl) (by simp only [List.cons_append, List.nil_append, cond_true]; repeat (first | with_reducible exact Sub.refl | with_reducible exact Sub.nil | with_reducible refine Sub.cons (by repeat (first | with_reducible exact Ext.here | with_reducible apply Ext.there)) ?_ | with_reducible refine Sub.tail ?_))

theorem up_ct {n l : Int}  : Ct Try.prog 126 [.int .i64 n, .int .i64 l] [] (fun g : Nat => .func (.func 184) #[] #[.pointer (some ⟨g, 0, none⟩)]) (fun g => [cl g 3 [.int .i64 (((ndM n l) : Nat) : Int)]]) := by
 refine Ct_body (n := 14) Try.func126 rfl rfl rfl fun F w0 Q hret hnorm hp => ?_
 change WC _ _ _ _ _ _ _ (F)
 refine WC_sr fun K1 hK1 => ?_
 refine WL_r (Rd_assign rfl) rfl ?_
 refine WL_end hK1 ?_
 refine WC_sr fun K2 hK2 => ?_
 refine WL_r (Rd_move rfl) rfl ?_
 refine WL_r (Rd_move rfl) rfl ?_
 refine WL_ac (Ac_call cf125 rfl (hs := nodeT_ct (n := n) (l := l))) rfl rfl rfl ?_
 rintro _ _ ⟨⟨⟩, rfl, hA⟩
 simp only [List.cons_append, List.nil_append] at hA
 replace hA := hA.symm
 subst hA
 refine WL_r (Rd_move rfl) rfl ?_
 refine WL_r (Rd_ext0 rfl) rfl ?_
 refine WL_r (Rd_ext1 rfl) rfl ?_
 refine WL_ac (Ac_alloc zr3) rfl rfl rfl ?_
 rintro _ _ ⟨b5, rfl, rfl⟩
 refine WL_ac0 (Ac_store1 rfl rfl sz3) rfl rfl ?_
 rintro _ _ rfl
 refine WL_r (Rd_assign rfl) rfl ?_
 refine WL_end hK2 ?_
 refine WC_sr fun K3 hK3 => ?_
 refine WL_r (Rd_makeFunc rfl rfl) rfl ?_
 refine WL_r (Rd_assign rfl) rfl ?_
 refine WL_end hK3 ?_
 refine WC_ret ?_
 exact hret.go b5 (Rs1 rfl rfl)

end Go.Proofs.Ytgkpbeikcpecbaa
