/-
  Contracts of functions that the claim reaches, or the logic and the plain laws that they rest on, or the row over them. (Conditions: none beyond the statement.)
-/
import Derived.Test.YtlcafifjhilleaaPqLst
import Derived.Test.YtlcafifjhilleaaPqApB
import Derived.Test.YtlcafifjhilleaaSlRdr
import Derived.Test.YtlcafifjhilleaaTgRead
set_option linter.all false
namespace Go.Proofs.Ytlcafifjhilleaa
open Go.RowKit Go.SL Go.ShM
set_option maxHeartbeats 1000000
set_option maxRecDepth 20000
set_option linter.all false
theorem cf45 : cfn Try.prog 45 = true := by kernel_rfl
theorem cf46 : cfn Try.prog 46 = true := by kernel_rfl
theorem cf47 : cfn Try.prog 47 = true := by kernel_rfl
theorem cf77 : cfn Try.prog 77 = true := by kernel_rfl
theorem fo90_0 : fo Try.prog 90 0 = some (0, 23) := by kernel_rfl
theorem fo90_1 : fo Try.prog 90 1 = some (1, 4) := by kernel_rfl
theorem fo90_2 : fo Try.prog 90 2 = some (2, 4) := by kernel_rfl
theorem ikd5_58 : ikd Try.prog 5 58 = some .u64 := by kernel_rfl
theorem pls90 : pls Try.prog 90 = some ([.slice none 0 0, .bool false, .bool false], [(0, 1), (1, 1), (2, 1)]) := by kernel_rfl
theorem sz4 : sz Try.prog 4 = some 1 := by kernel_rfl
theorem ud56 : Try.prog.underlying 56 = some (.pointer 90) := by kernel_rfl
theorem cloneB_ct {X : Asn} {v : Value} {l : List B8} {ao : Option Addr} {cap2 : Nat} (hS : Sv [X] v 1 (eU .u8 (w := 8)) l ao cap2 := by assumption) (hl : l.length ≤ 900000000000 := by omega) : Ct Try.prog 45 [v] [X] (fun g : Option Nat × Nat => sl g.1 l.length g.2) (fun g => [X, arr g.1 g.2 1 5 (eU .u8) l]) := by
  refine Ct_body (n := 8) Try.func45 rfl rfl rfl fun F w0 Q hret hnorm hp => ?_
  change WC _ _ _ _ _ _ _ (_ :: F)
  have hv0 := hS.val
  subst hv0
  refine WC_sr fun K1 hK1 => ?_
  refine WL_rd (Rd_assign (v := sl none 0 0) rfl) rfl rfl rfl ?_
  refine WL_end hK1 ?_
  refine WC_seq fun K2 hK2 => ?_
  refine WC_sr fun K3 hK3 => ?_
  refine WL_rd (Rd_move rfl) rfl rfl rfl ?_
  refine WL_rd (Rd_seq rfl rfl ud23) rfl rfl rfl ?_
  refine WL_end hK3 ?_
  refine WC_cond rfl (fun hc0 => ?_) (fun hc0 => ?_)
  · try simp only [decide_eq_true_eq, decide_eq_false_iff_not, Bool.not_eq_true', Bool.not_eq_false', Bool.not_eq_true, Bool.not_eq_false, Int.not_lt, Int.not_le, Nat.not_lt, Nat.not_le, Decidable.not_not, ne_eq] at hc0
    have hnil := sv_nilB hS hc0
    subst hnil
    refine WC_imp (fun w h => sat_nil (e := 1) (T := 5) (f := (eU .u8 (w := 8))) h) ?_
    refine WC_sr fun K4 hK4 => ?_
    refine WL_rd (Rd_assign (v := sl none 0 0) rfl) rfl rfl rfl ?_
    refine WL_end hK4 ?_
    refine WC_ret ?_
    first | exact hret.go (none, 0) (Rs1 rfl rfl) | exact hret.go (a7, cap7) (Rs1 rfl rfl)
  · try simp only [decide_eq_true_eq, decide_eq_false_iff_not, Bool.not_eq_true', Bool.not_eq_false', Bool.not_eq_true, Bool.not_eq_false, Int.not_lt, Int.not_le, Nat.not_lt, Nat.not_le, Decidable.not_not, ne_eq] at hc0
    refine WC_skip ?_
    refine Ps_next hK2 ?_
    refine WC_sr fun K5 hK5 => ?_
    refine WL_ac (Ac_bsL (f := (eU .u8 (w := 8))) (zs := [.int .u8 0]) (bs := []) [] (encU .u8) ud23 zr5 sz5 rfl (by rw [Array.toList_map, Array.toList_range]; rfl) (by rfl) (by rfl) (by rfl) (by rfl)) rfl rfl rfl ?_
    rintro _ _ ⟨b5, rfl, rfl⟩
    refine WL_rd (Rd_move rfl) rfl rfl rfl ?_
    refine WL_ac (Ac_appendS (f := (eU .u8 (w := 8))) (encU .u8) rfl rfl ud23 ud23 el5 (hS := hS) (hb := by simp only [List.length_nil]; omega)) rfl rfl rfl ?_
    rintro _ _ ⟨a7, cap7, rfl, rfl⟩
    rw [show ([] : List B8).length + l.length = l.length from Nat.zero_add _, List.nil_append]
    refine WL_rd (Rd_assign rfl) rfl rfl rfl ?_
    refine WL_end hK5 ?_
    refine WC_ret ?_
    first | exact hret.go (none, 0) (Rs1 rfl rfl) | exact hret.go (a7, cap7) (Rs1 rfl rfl)

theorem newRd_ct {X : Asn} {v : Value} {l : List B8} {ao : Option Addr} {cap2 : Nat} (hS : Sv [X] v 1 (eU .u8 (w := 8)) l ao cap2 := by assumption) (hl : l.length ≤ 900000000000 := by omega) : Ct Try.prog 19 [v] [X] (fun g : Nat × Option Nat × Nat => .pointer (some ⟨g.1, 0, none⟩)) (fun g => [X, cl g.1 90 [(sl g.2.1 l.length g.2.2), .bool true, .bool false], arr g.2.1 g.2.2 1 5 (eU .u8) l]) := by
  refine Ct_body (n := 7) Try.func19 rfl rfl rfl fun F w0 Q hret hnorm hp => ?_
  change WC _ _ _ _ _ _ _ (_ :: F)
  refine WC_sr fun K1 hK1 => ?_
  refine WL_rd (Rd_assign rfl) rfl rfl rfl ?_
  refine WL_end hK1 ?_
  refine WC_sr fun K2 hK2 => ?_
  refine WL_rd (Rd_move rfl) rfl rfl rfl ?_
  refine WL_ac (Ac_call cf45 rfl (hs := cloneB_ct (X := X) (l := l) (hS := hS))) rfl rfl rfl ?_
  rintro _ _ ⟨⟨a4, cap4⟩, rfl, hA⟩
  simp only [List.cons_append, List.nil_append] at hA
  replace hA := hA.symm
  subst hA
  refine WL_rd (Rd_build pls90 rfl) rfl rfl rfl ?_
  refine WL_ac (Ac_box (xs := [sl a4 l.length cap4, .bool true, .bool false]) rfl rfl) rfl rfl rfl ?_
  rintro _ _ ⟨b6, rfl, rfl⟩
  refine WL_rd (Rd_assign rfl) rfl rfl rfl ?_
  refine WL_end hK2 ?_
  refine WC_ret ?_
  exact hret.go (b6, a4, cap4) (Rs1 rfl rfl)

theorem take_ct {X : Asn} {v : Value} {r : List B8} {ao : Option Addr} {cap2 c : Nat} {n : Nat} (hS : Sv [X] v 1 (eU .u8 (w := 8)) r ao cap2 := by assumption) (hl : r.length ≤ 900000000000 := by omega) (hn : n ≤ r.length := by omega) : Ct Try.prog 47 [.pointer (some ⟨c, 0, none⟩), .int .i64 ((n : Nat) : Int)] [cl c 90 [v, .bool true, .bool false], X] (fun _ : Unit => .tuple #[.slice (sao ao 0 1 n) n n, .bool true]) (fun _ => [cl c 90 [(.slice (sao ao n 1 cap2) (r.length - n) (cap2 - n)), .bool true, .bool false], X]) := by
  refine Ct_body (n := 53) Try.func47 rfl rfl rfl fun F w0 Q hret hnorm hp => ?_
  change WC _ _ _ _ _ _ _ (_ :: _ :: F)
  refine WC_sr fun K1 hK1 => ?_
  refine WL_rd (Rd_assign (v := sl none 0 0) rfl) rfl rfl rfl ?_
  refine WL_rd (Rd_assign rfl) rfl rfl rfl ?_
  refine WL_end hK1 ?_
  refine WC_seq fun K2 hK2 => ?_
  refine WC_sr fun K3 hK3 => ?_
  refine WL_rd (Rd_move rfl) rfl rfl rfl ?_
  refine WL_rd (Rd_peq rfl rfl ud56) rfl rfl rfl ?_
  refine WL_rd (Rd_move rfl) rfl rfl rfl ?_
  refine WL_rd (Rd_move rfl) rfl rfl rfl ?_
  refine WL_rd (Rd_nilCheck rfl) rfl rfl rfl ?_
  refine WL_rd (Rd_fieldAddr rfl fo90_1) rfl rfl rfl ?_
  refine WL_rd (Rd_load rfl tk4) rfl rfl rfl ?_
  refine WL_rd (Rd_not rfl) rfl rfl rfl ?_
  refine WL_rd (Rd_pickF rfl rfl) rfl rfl rfl ?_
  refine WL_rd (Rd_move rfl) rfl rfl rfl ?_
  refine WL_rd (Rd_move rfl) rfl rfl rfl ?_
  refine WL_rd (Rd_nilCheck rfl) rfl rfl rfl ?_
  refine WL_rd (Rd_fieldAddr rfl fo90_2) rfl rfl rfl ?_
  refine WL_rd (Rd_load rfl tk4) rfl rfl rfl ?_
  refine WL_rd (Rd_pickF rfl rfl) rfl rfl rfl ?_
  refine WL_end hK3 ?_
  refine WC_condF rfl ?_
  refine WC_skip ?_
  refine Ps_next hK2 ?_
  refine WC_seq fun K4 hK4 => ?_
  refine WC_sr fun K5 hK5 => ?_
  refine WL_rd (Rd_move rfl) rfl rfl rfl ?_
  refine WL_rd (Rd_isF (Rd_lssN (j := 0) rfl rfl)) rfl rfl rfl ?_
  refine WL_rd (Rd_move rfl) rfl rfl rfl ?_
  refine WL_rd (Rd_move rfl) rfl rfl rfl ?_
  refine WL_rd (Rd_move rfl) rfl rfl rfl ?_
  refine WL_rd (Rd_nilCheck rfl) rfl rfl rfl ?_
  refine WL_rd (Rd_fieldAddr rfl fo90_0) rfl rfl rfl ?_
  refine WL_rd (Rd_load rfl tk23 (v := v)) rfl rfl rfl ?_
  refine WL_rd (Rd_len_sv rfl rfl ud23) rfl rfl rfl ?_
  refine WL_rd (Rd_isF (Rd_gtrN rfl rfl)) rfl rfl rfl ?_
  refine WL_rd (Rd_pickF rfl rfl) rfl rfl rfl ?_
  refine WL_end hK5 ?_
  refine WC_condF rfl ?_
  refine WC_skip ?_
  refine Ps_next hK4 ?_
  refine WC_sr fun K6 hK6 => ?_
  refine WL_rd (Rd_move rfl) rfl rfl rfl ?_
  refine WL_rd (Rd_nilCheck rfl) rfl rfl rfl ?_
  refine WL_rd (Rd_fieldAddr rfl fo90_0) rfl rfl rfl ?_
  refine WL_rd (Rd_load rfl tk23 (v := v)) rfl rfl rfl ?_
  refine WL_rd (Rd_move rfl) rfl rfl rfl ?_
  refine WL_rd (Rd_move rfl) rfl rfl rfl ?_
  refine WL_rd (Rd_slice3 n rfl rfl rfl ud23 sz5 (hA := hS) (h2 := by omega)) rfl rfl rfl ?_
  refine WL_rd (Rd_assign rfl) rfl rfl rfl ?_
  refine WL_end hK6 ?_
  refine WC_sr fun K7 hK7 => ?_
  refine WL_rd (Rd_move rfl) rfl rfl rfl ?_
  refine WL_rd (Rd_move rfl) rfl rfl rfl ?_
  refine WL_rd (Rd_nilCheck rfl) rfl rfl rfl ?_
  refine WL_rd (Rd_fieldAddr rfl fo90_0) rfl rfl rfl ?_
  refine WL_rd (Rd_load rfl tk23 (v := v)) rfl rfl rfl ?_
  refine WL_rd (Rd_move rfl) rfl rfl rfl ?_
  refine WL_rd (Rd_slice_sv n r.length rfl ⟨_, rfl⟩ rfl ud23 sz5 (hA := hS)) rfl rfl rfl ?_
  refine WL_rd (Rd_nilCheck rfl) rfl rfl rfl ?_
  refine WL_rd (Rd_fieldAddr rfl fo90_0) rfl rfl rfl ?_
  refine WL_ac0 (Ac_store1 rfl rfl sz23) rfl rfl ?_
  rintro _ _ rfl
  refine WL_end hK7 ?_
  refine WC_sr fun K8 hK8 => ?_
  refine WL_rd (Rd_move rfl) rfl rfl rfl ?_
  refine WL_rd (Rd_assign rfl) rfl rfl rfl ?_
  refine WL_rd (Rd_assign rfl) rfl rfl rfl ?_
  refine WL_end hK8 ?_
  refine WC_ret ?_
  exact hret.go () (Rs2 rfl rfl rfl)

theorem take_no {X : Asn} {v : Value} {r : List B8} {ao : Option Addr} {cap2 c : Nat} {n : Nat} (hS : Sv [X] v 1 (eU .u8 (w := 8)) r ao cap2 := by assumption) (hl : r.length ≤ 900000000000 := by omega) (hn : r.length < n := by omega) : Ct Try.prog 47 [.pointer (some ⟨c, 0, none⟩), .int .i64 ((n : Nat) : Int)] [cl c 90 [v, .bool true, .bool false], X] (fun _ : Unit => .tuple #[sl none 0 0, .bool false]) (fun _ => [cl c 90 [v, .bool true, .bool true], X]) := by
  refine Ct_body (n := 53) Try.func47 rfl rfl rfl fun F w0 Q hret hnorm hp => ?_
  change WC _ _ _ _ _ _ _ (_ :: _ :: F)
  refine WC_sr fun K1 hK1 => ?_
  refine WL_rd (Rd_assign (v := sl none 0 0) rfl) rfl rfl rfl ?_
  refine WL_rd (Rd_assign rfl) rfl rfl rfl ?_
  refine WL_end hK1 ?_
  refine WC_seq fun K2 hK2 => ?_
  refine WC_sr fun K3 hK3 => ?_
  refine WL_rd (Rd_move rfl) rfl rfl rfl ?_
  refine WL_rd (Rd_peq rfl rfl ud56) rfl rfl rfl ?_
  refine WL_rd (Rd_move rfl) rfl rfl rfl ?_
  refine WL_rd (Rd_move rfl) rfl rfl rfl ?_
  refine WL_rd (Rd_nilCheck rfl) rfl rfl rfl ?_
  refine WL_rd (Rd_fieldAddr rfl fo90_1) rfl rfl rfl ?_
  refine WL_rd (Rd_load rfl tk4) rfl rfl rfl ?_
  refine WL_rd (Rd_not rfl) rfl rfl rfl ?_
  refine WL_rd (Rd_pickF rfl rfl) rfl rfl rfl ?_
  refine WL_rd (Rd_move rfl) rfl rfl rfl ?_
  refine WL_rd (Rd_move rfl) rfl rfl rfl ?_
  refine WL_rd (Rd_nilCheck rfl) rfl rfl rfl ?_
  refine WL_rd (Rd_fieldAddr rfl fo90_2) rfl rfl rfl ?_
  refine WL_rd (Rd_load rfl tk4) rfl rfl rfl ?_
  refine WL_rd (Rd_pickF rfl rfl) rfl rfl rfl ?_
  refine WL_end hK3 ?_
  refine WC_condF rfl ?_
  refine WC_skip ?_
  refine Ps_next hK2 ?_
  refine WC_seq fun K4 hK4 => ?_
  refine WC_sr fun K5 hK5 => ?_
  refine WL_rd (Rd_move rfl) rfl rfl rfl ?_
  refine WL_rd (Rd_isF (Rd_lssN (j := 0) rfl rfl)) rfl rfl rfl ?_
  refine WL_rd (Rd_move rfl) rfl rfl rfl ?_
  refine WL_rd (Rd_move rfl) rfl rfl rfl ?_
  refine WL_rd (Rd_move rfl) rfl rfl rfl ?_
  refine WL_rd (Rd_nilCheck rfl) rfl rfl rfl ?_
  refine WL_rd (Rd_fieldAddr rfl fo90_0) rfl rfl rfl ?_
  refine WL_rd (Rd_load rfl tk23 (v := v)) rfl rfl rfl ?_
  refine WL_rd (Rd_len_sv rfl rfl ud23) rfl rfl rfl ?_
  refine WL_rd (Rd_isT (Rd_gtrN rfl rfl)) rfl rfl rfl ?_
  refine WL_rd (Rd_pickF rfl rfl) rfl rfl rfl ?_
  refine WL_end hK5 ?_
  refine WC_condT rfl ?_
  refine WC_sr fun K6 hK6 => ?_
  refine WL_rd (Rd_move rfl) rfl rfl rfl ?_
  refine WL_rd (Rd_nilCheck rfl) rfl rfl rfl ?_
  refine WL_rd (Rd_fieldAddr rfl fo90_2) rfl rfl rfl ?_
  refine WL_ac0 (Ac_store1 rfl rfl sz4) rfl rfl ?_
  rintro _ _ rfl
  refine WL_end hK6 ?_
  refine WC_sr fun K7 hK7 => ?_
  refine WL_rd (Rd_assign (v := sl none 0 0) rfl) rfl rfl rfl ?_
  refine WL_rd (Rd_assign rfl) rfl rfl rfl ?_
  refine WL_end hK7 ?_
  refine WC_ret ?_
  exact hret.go () (Rs2 rfl rfl rfl)

theorem small_ct {X : Asn} {v : Value} {l : List B8} {ao : Option Addr} {cap2 : Nat} (hS : Sv [X] v 1 (eU .u8 (w := 8)) l ao cap2 := by assumption) (h8 : l.length = 8 := by omega) : Ct Try.prog 77 [v] [X] (fun _ : Unit => .tuple #[.int .u64 (((smM l).toNat : Nat) : Int), .int .i64 0]) (fun _ => [X]) := by
  refine Ct_body (n := 32) Try.func77 rfl rfl rfl fun F w0 Q hret hnorm hp => ?_
  change WC _ _ _ _ _ _ _ (_ :: F)
  refine WC_sr fun K1 hK1 => ?_
  refine WL_rd (Rd_assign rfl) rfl rfl rfl ?_
  refine WL_rd (Rd_assign rfl) rfl rfl rfl ?_
  refine WL_end hK1 ?_
  refine WC_seq fun K2 hK2 => ?_
  refine WC_sr fun K3 hK3 => ?_
  refine WL_ac (Ac_call cf76 rfl (hs := widthu64_ct)) rfl rfl rfl ?_
  rintro _ _ ⟨⟨⟩, rfl, hA⟩
  simp only [List.cons_append, List.nil_append] at hA
  replace hA := hA.symm
  subst hA
  refine WL_rd (Rd_assign rfl) rfl rfl rfl ?_
  refine WL_end hK3 ?_
  refine WC_block ?_
  refine WC_sr fun K4 hK4 => ?_
  refine WL_rd (Rd_move rfl) rfl rfl rfl ?_
  refine WL_rd (Rd_len_sv rfl rfl ud23) rfl rfl rfl ?_
  refine WL_rd (Rd_move rfl) rfl rfl rfl ?_
  refine WL_rd (Rd_isF (Rd_lssN (j := 8) rfl rfl)) rfl rfl rfl ?_
  refine WL_rd (Rd_assign rfl) rfl rfl rfl ?_
  refine WL_end hK4 ?_
  refine WC_condF rfl ?_
  refine WC_sr fun K5 hK5 => ?_
  refine WL_rd (Rd_move rfl) rfl rfl rfl ?_
  refine WL_rd (Rd_len_sv rfl rfl ud23) rfl rfl rfl ?_
  refine WL_rd (Rd_move rfl) rfl rfl rfl ?_
  refine WL_rd (Rd_isF (Rd_gtrN (j := 8) rfl rfl)) rfl rfl rfl ?_
  refine WL_rd (Rd_assign rfl) rfl rfl rfl ?_
  refine WL_end hK5 ?_
  refine WC_condF rfl ?_
  refine WC_skip ?_
  refine Ps_next hK2 ?_
  refine WC_sr fun K6 hK6 => ?_
  refine WL_rd (Rd_assign rfl) rfl rfl rfl ?_
  refine WL_end hK6 ?_
  refine WC_seq fun K7 hK7 => ?_
  refine WC_sr fun K8 hK8 => ?_
  refine WL_rd (Rd_move rfl) rfl rfl rfl ?_
  refine WL_rd (Rd_len_sv rfl rfl ud23) rfl rfl rfl ?_
  refine WL_rd (Rd_move rfl) rfl rfl rfl ?_
  refine WL_end hK8 ?_
  refine WC_block ?_
  refine WC_loopK (σ := Nat) (fun i' => [(5, .int .u64 (((smM (l.take i')).toNat : Nat) : Int)), (21, .int .i64 ((i' : Nat) : Int))]) (fun i' => []) (fun i' => i' ≤ 8) (fun i' => 8 - i') (0) [2, 3, 19, 20, 31] (by repeat (first | exact Kep.nil | apply Kep.drop rfl | apply Kep.keep rfl)) (by (try dsimp only); repeat (first | with_reducible exact Gv.nil | (with_reducible apply Gv.cons; · (repeat (first | with_reducible exact Ext.here | with_reducible apply Ext.there))))) ?_ ?_ Sub.refl ?_
  · exact Nat.zero_le _
  · (try dsimp only); exact (Wk.cons (by first | rfl | (simp only [List.length_append, List.length_cons, List.length_nil, List.length_replicate, Nat.zero_add]; rfl) | (simp; done)) (Wk.cons (by first | rfl | (simp only [List.length_append, List.length_cons, List.length_nil, List.length_replicate, Nat.zero_add]; rfl) | (simp; done)) Wk.nil))
  · rintro i' hi K9 hK9
    simp only [List.cons_append, List.nil_append]
    refine WC_sr fun K10 hK10 => ?_
    refine WL_rd (Rd_lssN rfl rfl) rfl rfl rfl ?_
    refine WL_end hK10 ?_
    refine WC_seq fun K11 hK11 => ?_
    refine WC_cond rfl (fun hc2 => ?_) (fun hc2 => ?_)
    · try simp only [decide_eq_true_eq, decide_eq_false_iff_not, Bool.not_eq_true', Bool.not_eq_false', Bool.not_eq_true, Bool.not_eq_false, Int.not_lt, Int.not_le, Nat.not_lt, Nat.not_le, Decidable.not_not, ne_eq] at hc2
      refine WC_skip ?_
      refine Ps_next hK11 ?_
      refine WC_seq fun K12 hK12 => ?_
      refine WC_block ?_
      refine WC_sr fun K13 hK13 => ?_
      refine WL_rd (Rd_index_sv _ rfl rfl ud23 sz5) rfl rfl rfl ?_
      refine WL_rd (Rd_load_sv (i := i') (j := 0) rfl tk5 (hA := hS) (hl := at_B8 (by omega))) rfl rfl rfl ?_
      refine WL_rd (Rd_assign rfl) rfl rfl rfl ?_
      refine WL_end hK13 ?_
      refine WC_region ?_
      refine WL_rd (Rd_move rfl) rfl rfl rfl ?_
      refine WL_rd (Rd_shlU (j := 8) rfl rfl) rfl rfl rfl ?_
      refine WL_rd (Rd_move rfl) rfl rfl rfl ?_
      refine WL_rd (Rd_convU rfl ikd5_58 (h' := uk64)) rfl rfl rfl ?_
      refine WL_rd (Rd_orU rfl rfl) rfl rfl rfl ?_
      rw [show (smM (l.take i') <<< 8 ||| (l.getD i' 0#8).setWidth 64) = smM (l.take (i' + 1)) from smM_snoc (by omega)]
      refine WL_rd (Rd_assign rfl) rfl rfl rfl ?_
      refine WL_nil ?_
      refine Ps_next hK12 ?_
      refine WC_region ?_
      refine WL_rd (Rd_addN (j := 1) rfl rfl) rfl rfl rfl ?_
      refine WL_rd (Rd_move rfl) rfl rfl rfl ?_
      refine WL_nil ?_
      refine Ps_wk (by (try simp only [List.cons_append, List.nil_append]); repeat (first | with_reducible exact Wk.nil | refine Wk.cons (by first | rfl | (simp only [List.length_append, List.length_cons, List.length_nil, List.length_replicate, Nat.zero_add]; rfl) | (simp; done)) ?_)) (by (try simp only [List.cons_append, List.nil_append]); repeat (first | with_reducible exact Sub.refl | with_reducible exact Sub.nil | with_reducible refine Sub.cons (by repeat (first | with_reducible exact Ext.here | with_reducible apply Ext.there)) ?_ | with_reducible refine Sub.tail ?_)) (hK9 (i' + 1) (by omega) (by omega))
    · try simp only [decide_eq_true_eq, decide_eq_false_iff_not, Bool.not_eq_true', Bool.not_eq_false', Bool.not_eq_true, Bool.not_eq_false, Int.not_lt, Int.not_le, Nat.not_lt, Nat.not_le, Decidable.not_not, ne_eq] at hc2
      obtain rfl : i' = 8 := by omega
      rw [show l.take 8 = l from List.take_of_length_le (by omega)]
      refine WC_exit ?_
      refine Ps_next hK7 ?_
      refine WC_sr fun K14 hK14 => ?_
      refine WL_rd (Rd_move rfl) rfl rfl rfl ?_
      refine WL_rd (Rd_assign rfl) rfl rfl rfl ?_
      refine WL_rd (Rd_assign rfl) rfl rfl rfl ?_
      refine WL_end hK14 ?_
      refine WC_ret ?_
      exact hret.go () (Rs2 rfl rfl rfl)

theorem num_ct {X : Asn} {v : Value} {r : List B8} {ao : Option Addr} {cap2 c : Nat} (hS : Sv [X] v 1 (eU .u8 (w := 8)) r ao cap2 := by assumption) (hl : r.length ≤ 900000000000 := by omega) (hn : 8 ≤ r.length := by omega) : Ct Try.prog 46 [.pointer (some ⟨c, 0, none⟩)] [cl c 90 [v, .bool true, .bool false], X] (fun _ : Unit => .int .u64 (((smM (r.take 8)).toNat : Nat) : Int)) (fun _ => [cl c 90 [(.slice (sao ao 8 1 cap2) (r.length - 8) (cap2 - 8)), .bool true, .bool false], X]) := by
  refine Ct_body (n := 21) Try.func46 rfl rfl rfl fun F w0 Q hret hnorm hp => ?_
  change WC _ _ _ _ _ _ _ (_ :: _ :: F)
  refine WC_sr fun K1 hK1 => ?_
  refine WL_rd (Rd_assign rfl) rfl rfl rfl ?_
  refine WL_end hK1 ?_
  refine WC_sr fun K2 hK2 => ?_
  refine WL_rd (Rd_move rfl) rfl rfl rfl ?_
  refine WL_ac (Ac_call cf76 rfl (hs := widthu64_ct)) rfl rfl rfl ?_
  rintro _ _ ⟨⟨⟩, rfl, hA⟩
  simp only [List.cons_append, List.nil_append] at hA
  replace hA := hA.symm
  subst hA
  refine WL_ac (Ac_call cf47 rfl (hs := take_ct (X := X) (v := v) (r := r) (n := 8) (hS := hS))) rfl rfl rfl ?_
  rintro _ _ ⟨⟨⟩, rfl, hA⟩
  simp only [List.cons_append, List.nil_append] at hA
  replace hA := hA.symm
  subst hA
  refine WL_rd (Rd_move rfl) rfl rfl rfl ?_
  refine WL_rd (Rd_ext0 rfl) rfl rfl rfl ?_
  refine WL_rd (Rd_ext1 rfl) rfl rfl rfl ?_
  refine WL_rd (Rd_assign rfl) rfl rfl rfl ?_
  refine WL_rd (Rd_assign rfl) rfl rfl rfl ?_
  refine WL_end hK2 ?_
  refine WC_seq fun K3 hK3 => ?_
  refine WC_sr fun K4 hK4 => ?_
  refine WL_rd (Rd_move rfl) rfl rfl rfl ?_
  refine WL_rd (Rd_not rfl) rfl rfl rfl ?_
  refine WL_end hK4 ?_
  refine WC_condF rfl ?_
  refine WC_skip ?_
  refine Ps_next hK3 ?_
  refine WC_sr fun K5 hK5 => ?_
  refine WL_rd (Rd_move rfl) rfl rfl rfl ?_
  refine WL_ac (Ac_call cf77 rfl (hs := small_ct (X := X) (l := r.take 8) (hS := hS.sub3 (by omega)) (h8 := by rw [List.length_take]; omega))) rfl rfl rfl ?_
  rintro _ _ ⟨⟨⟩, rfl, hA⟩
  simp only [List.cons_append, List.nil_append] at hA
  replace hA := hA.symm
  subst hA
  refine WL_rd (Rd_move rfl) rfl rfl rfl ?_
  refine WL_rd (Rd_ext0 rfl) rfl rfl rfl ?_
  refine WL_rd (Rd_ext1 rfl) rfl rfl rfl ?_
  refine WL_rd (Rd_assign rfl) rfl rfl rfl ?_
  refine WL_rd (Rd_assign rfl) rfl rfl rfl ?_
  refine WL_end hK5 ?_
  refine WC_sr fun K6 hK6 => ?_
  refine WL_rd (Rd_move rfl) rfl rfl rfl ?_
  refine WL_rd (Rd_assign rfl) rfl rfl rfl ?_
  refine WL_end hK6 ?_
  refine WC_ret ?_
  exact hret.go () (Rs1 rfl rfl)

theorem num_no {X : Asn} {v : Value} {r : List B8} {ao : Option Addr} {cap2 c : Nat} (hS : Sv [X] v 1 (eU .u8 (w := 8)) r ao cap2 := by assumption) (hl : r.length ≤ 900000000000 := by omega) (hn : r.length < 8 := by omega) : Ct Try.prog 46 [.pointer (some ⟨c, 0, none⟩)] [cl c 90 [v, .bool true, .bool false], X] (fun _ : Unit => .int .u64 (((0#64).toNat : Nat) : Int)) (fun _ => [cl c 90 [v, .bool true, .bool true], X]) := by
  refine Ct_body (n := 21) Try.func46 rfl rfl rfl fun F w0 Q hret hnorm hp => ?_
  change WC _ _ _ _ _ _ _ (_ :: _ :: F)
  refine WC_sr fun K1 hK1 => ?_
  refine WL_rd (Rd_assign rfl) rfl rfl rfl ?_
  refine WL_end hK1 ?_
  refine WC_sr fun K2 hK2 => ?_
  refine WL_rd (Rd_move rfl) rfl rfl rfl ?_
  refine WL_ac (Ac_call cf76 rfl (hs := widthu64_ct)) rfl rfl rfl ?_
  rintro _ _ ⟨⟨⟩, rfl, hA⟩
  simp only [List.cons_append, List.nil_append] at hA
  replace hA := hA.symm
  subst hA
  refine WL_ac (Ac_call cf47 rfl (hs := take_no (X := X) (v := v) (r := r) (n := 8) (hS := hS))) rfl rfl rfl ?_
  rintro _ _ ⟨⟨⟩, rfl, hA⟩
  simp only [List.cons_append, List.nil_append] at hA
  replace hA := hA.symm
  subst hA
  refine WL_rd (Rd_move rfl) rfl rfl rfl ?_
  refine WL_rd (Rd_ext0 rfl) rfl rfl rfl ?_
  refine WL_rd (Rd_ext1 rfl) rfl rfl rfl ?_
  refine WL_rd (Rd_assign rfl) rfl rfl rfl ?_
  refine WL_rd (Rd_assign rfl) rfl rfl rfl ?_
  refine WL_end hK2 ?_
  refine WC_seq fun K3 hK3 => ?_
  refine WC_sr fun K4 hK4 => ?_
  refine WL_rd (Rd_move rfl) rfl rfl rfl ?_
  refine WL_rd (Rd_not rfl) rfl rfl rfl ?_
  refine WL_end hK4 ?_
  refine WC_condT rfl ?_
  refine WC_sr fun K5 hK5 => ?_
  refine WL_rd (Rd_assign rfl) rfl rfl rfl ?_
  refine WL_end hK5 ?_
  refine WC_ret ?_
  exact hret.go () (Rs1 rfl rfl)

theorem long_ct {X : Asn} {v : Value} {r : List B8} {ao : Option Addr} {cap2 c : Nat} (hS : Sv [X] v 1 (eU .u8 (w := 8)) r ao cap2 := by assumption) (hl : r.length ≤ 900000000000 := by omega) (hn : 8 ≤ r.length := by omega) : Ct Try.prog 20 [.pointer (some ⟨c, 0, none⟩)] [cl c 90 [v, .bool true, .bool false], X] (fun _ : Unit => .int .u64 (((smM (r.take 8)).toNat : Nat) : Int)) (fun _ => [cl c 90 [(.slice (sao ao 8 1 cap2) (r.length - 8) (cap2 - 8)), .bool true, .bool false], X]) := by
  refine Ct_body (n := 5) Try.func20 rfl rfl rfl fun F w0 Q hret hnorm hp => ?_
  change WC _ _ _ _ _ _ _ (_ :: _ :: F)
  refine WC_sr fun K1 hK1 => ?_
  refine WL_rd (Rd_assign rfl) rfl rfl rfl ?_
  refine WL_end hK1 ?_
  refine WC_sr fun K2 hK2 => ?_
  refine WL_rd (Rd_move rfl) rfl rfl rfl ?_
  refine WL_ac (Ac_call cf46 rfl (hs := num_ct (X := X) (v := v) (r := r) (hS := hS))) rfl rfl rfl ?_
  rintro _ _ ⟨⟨⟩, rfl, hA⟩
  simp only [List.cons_append, List.nil_append] at hA
  replace hA := hA.symm
  subst hA
  refine WL_rd (Rd_assign rfl) rfl rfl rfl ?_
  refine WL_end hK2 ?_
  refine WC_ret ?_
  exact hret.go () (Rs1 rfl rfl)

theorem long_no {X : Asn} {v : Value} {r : List B8} {ao : Option Addr} {cap2 c : Nat} (hS : Sv [X] v 1 (eU .u8 (w := 8)) r ao cap2 := by assumption) (hl : r.length ≤ 900000000000 := by omega) (hn : r.length < 8 := by omega) : Ct Try.prog 20 [.pointer (some ⟨c, 0, none⟩)] [cl c 90 [v, .bool true, .bool false], X] (fun _ : Unit => .int .u64 (((0#64).toNat : Nat) : Int)) (fun _ => [cl c 90 [v, .bool true, .bool true], X]) := by
  refine Ct_body (n := 5) Try.func20 rfl rfl rfl fun F w0 Q hret hnorm hp => ?_
  change WC _ _ _ _ _ _ _ (_ :: _ :: F)
  refine WC_sr fun K1 hK1 => ?_
  refine WL_rd (Rd_assign rfl) rfl rfl rfl ?_
  refine WL_end hK1 ?_
  refine WC_sr fun K2 hK2 => ?_
  refine WL_rd (Rd_move rfl) rfl rfl rfl ?_
  refine WL_ac (Ac_call cf46 rfl (hs := num_no (X := X) (v := v) (r := r) (hS := hS))) rfl rfl rfl ?_
  rintro _ _ ⟨⟨⟩, rfl, hA⟩
  simp only [List.cons_append, List.nil_append] at hA
  replace hA := hA.symm
  subst hA
  refine WL_rd (Rd_assign rfl) rfl rfl rfl ?_
  refine WL_end hK2 ?_
  refine WC_ret ?_
  exact hret.go () (Rs1 rfl rfl)

theorem left_ct {X : Asn} {v : Value} {r : List B8} {ao : Option Addr} {cap2 c : Nat} (hS : Sv [X] v 1 (eU .u8 (w := 8)) r ao cap2 := by assumption) (hl : r.length ≤ 900000000000 := by omega) : Ct Try.prog 21 [.pointer (some ⟨c, 0, none⟩)] [cl c 90 [v, .bool true, .bool false], X] (fun _ : Unit => .int .i64 ((r.length : Nat) : Int)) (fun _ => [cl c 90 [v, .bool true, .bool false], X]) := by
  refine Ct_body (n := 23) Try.func21 rfl rfl rfl fun F w0 Q hret hnorm hp => ?_
  change WC _ _ _ _ _ _ _ (_ :: _ :: F)
  refine WC_sr fun K1 hK1 => ?_
  refine WL_rd (Rd_assign rfl) rfl rfl rfl ?_
  refine WL_end hK1 ?_
  refine WC_seq fun K2 hK2 => ?_
  refine WC_sr fun K3 hK3 => ?_
  refine WL_rd (Rd_move rfl) rfl rfl rfl ?_
  refine WL_rd (Rd_peq rfl rfl ud56) rfl rfl rfl ?_
  refine WL_rd (Rd_move rfl) rfl rfl rfl ?_
  refine WL_rd (Rd_move rfl) rfl rfl rfl ?_
  refine WL_rd (Rd_nilCheck rfl) rfl rfl rfl ?_
  refine WL_rd (Rd_fieldAddr rfl fo90_1) rfl rfl rfl ?_
  refine WL_rd (Rd_load rfl tk4) rfl rfl rfl ?_
  refine WL_rd (Rd_not rfl) rfl rfl rfl ?_
  refine WL_rd (Rd_pickF rfl rfl) rfl rfl rfl ?_
  refine WL_rd (Rd_move rfl) rfl rfl rfl ?_
  refine WL_rd (Rd_move rfl) rfl rfl rfl ?_
  refine WL_rd (Rd_nilCheck rfl) rfl rfl rfl ?_
  refine WL_rd (Rd_fieldAddr rfl fo90_2) rfl rfl rfl ?_
  refine WL_rd (Rd_load rfl tk4) rfl rfl rfl ?_
  refine WL_rd (Rd_pickF rfl rfl) rfl rfl rfl ?_
  refine WL_end hK3 ?_
  refine WC_condF rfl ?_
  refine WC_skip ?_
  refine Ps_next hK2 ?_
  refine WC_sr fun K4 hK4 => ?_
  refine WL_rd (Rd_move rfl) rfl rfl rfl ?_
  refine WL_rd (Rd_nilCheck rfl) rfl rfl rfl ?_
  refine WL_rd (Rd_fieldAddr rfl fo90_0) rfl rfl rfl ?_
  refine WL_rd (Rd_load rfl tk23 (v := v)) rfl rfl rfl ?_
  refine WL_rd (Rd_len_sv rfl rfl ud23 (hA := hS)) rfl rfl rfl ?_
  refine WL_rd (Rd_assign rfl) rfl rfl rfl ?_
  refine WL_end hK4 ?_
  refine WC_ret ?_
  exact hret.go () (Rs1 rfl rfl)

theorem left_no {v : Value} {c : Nat}  : Ct Try.prog 21 [.pointer (some ⟨c, 0, none⟩)] [cl c 90 [v, .bool true, .bool true]] (fun _ : Unit => .int .i64 0) (fun _ => [cl c 90 [v, .bool true, .bool true]]) := by
  refine Ct_body (n := 23) Try.func21 rfl rfl rfl fun F w0 Q hret hnorm hp => ?_
  change WC _ _ _ _ _ _ _ (_ :: F)
  refine WC_sr fun K1 hK1 => ?_
  refine WL_rd (Rd_assign rfl) rfl rfl rfl ?_
  refine WL_end hK1 ?_
  refine WC_seq fun K2 hK2 => ?_
  refine WC_sr fun K3 hK3 => ?_
  refine WL_rd (Rd_move rfl) rfl rfl rfl ?_
  refine WL_rd (Rd_peq rfl rfl ud56) rfl rfl rfl ?_
  refine WL_rd (Rd_move rfl) rfl rfl rfl ?_
  refine WL_rd (Rd_move rfl) rfl rfl rfl ?_
  refine WL_rd (Rd_nilCheck rfl) rfl rfl rfl ?_
  refine WL_rd (Rd_fieldAddr rfl fo90_1) rfl rfl rfl ?_
  refine WL_rd (Rd_load rfl tk4) rfl rfl rfl ?_
  refine WL_rd (Rd_not rfl) rfl rfl rfl ?_
  refine WL_rd (Rd_pickF rfl rfl) rfl rfl rfl ?_
  refine WL_rd (Rd_move rfl) rfl rfl rfl ?_
  refine WL_rd (Rd_move rfl) rfl rfl rfl ?_
  refine WL_rd (Rd_nilCheck rfl) rfl rfl rfl ?_
  refine WL_rd (Rd_fieldAddr rfl fo90_2) rfl rfl rfl ?_
  refine WL_rd (Rd_load rfl tk4) rfl rfl rfl ?_
  refine WL_rd (Rd_pickF rfl rfl) rfl rfl rfl ?_
  refine WL_end hK3 ?_
  refine WC_condT rfl ?_
  refine WC_sr fun K4 hK4 => ?_
  refine WL_rd (Rd_assign rfl) rfl rfl rfl ?_
  refine WL_end hK4 ?_
  refine WC_ret ?_
  exact hret.go () (Rs1 rfl rfl)

theorem rbytes_ct {X : Asn} {v : Value} {r : List B8} {ao : Option Addr} {cap2 c : Nat} {n : Nat} (hS : Sv [X] v 1 (eU .u8 (w := 8)) r ao cap2 := by assumption) (hl : r.length ≤ 900000000000 := by omega) (hn : n ≤ r.length := by omega) : Ct Try.prog 22 [.pointer (some ⟨c, 0, none⟩), .int .i64 ((n : Nat) : Int)] [cl c 90 [v, .bool true, .bool false], X] (fun g : Option Nat × Nat => sl g.1 n g.2) (fun g => [cl c 90 [(.slice (sao ao n 1 cap2) (r.length - n) (cap2 - n)), .bool true, .bool false], X, arr g.1 g.2 1 5 (eU .u8) (r.take n)]) := by
  refine Ct_body (n := 15) Try.func22 rfl rfl rfl fun F w0 Q hret hnorm hp => ?_
  change WC _ _ _ _ _ _ _ (_ :: _ :: F)
  have hrt : (r.take n).length = n := by rw [List.length_take]; omega
  refine WC_sr fun K1 hK1 => ?_
  refine WL_rd (Rd_assign (v := sl none 0 0) rfl) rfl rfl rfl ?_
  refine WL_end hK1 ?_
  refine WC_sr fun K2 hK2 => ?_
  refine WL_rd (Rd_move rfl) rfl rfl rfl ?_
  refine WL_rd (Rd_move rfl) rfl rfl rfl ?_
  refine WL_ac (Ac_call cf47 rfl (hs := take_ct (X := X) (v := v) (r := r) (n := n) (hS := hS))) rfl rfl rfl ?_
  rintro _ _ ⟨⟨⟩, rfl, hA⟩
  simp only [List.cons_append, List.nil_append] at hA
  replace hA := hA.symm
  subst hA
  refine WL_rd (Rd_move rfl) rfl rfl rfl ?_
  refine WL_rd (Rd_ext0 rfl) rfl rfl rfl ?_
  refine WL_rd (Rd_ext1 rfl) rfl rfl rfl ?_
  refine WL_rd (Rd_assign rfl) rfl rfl rfl ?_
  refine WL_rd (Rd_assign rfl) rfl rfl rfl ?_
  refine WL_end hK2 ?_
  refine WC_sr fun K3 hK3 => ?_
  refine WL_rd (Rd_move rfl) rfl rfl rfl ?_
  refine WL_ac (Ac_call cf45 rfl (hs := cloneB_ct (X := X) (l := r.take n) (hS := hS.sub3 hn))) rfl rfl rfl ?_
  rintro _ _ ⟨⟨a14, cap14⟩, rfl, hA⟩
  simp only [List.cons_append, List.nil_append] at hA
  replace hA := hA.symm
  subst hA
  rw [hrt]
  refine WL_rd (Rd_assign rfl) rfl rfl rfl ?_
  refine WL_end hK3 ?_
  refine WC_ret ?_
  exact hret.go (a14, cap14) (Rs1 rfl rfl)
end Go.Proofs.Ytlcafifjhilleaa
