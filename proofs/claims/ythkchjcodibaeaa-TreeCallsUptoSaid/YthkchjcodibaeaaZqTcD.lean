/-
  Contracts of functions that the claim reaches, or the logic and the plain laws that they rest on, or the row over them. (Conditions: none beyond the statement.)
-/
import Derived.Test.YthkchjcodibaeaaZqTcI
import Derived.Test.YthkchjcodibaeaaTrScr
set_option linter.all false
namespace Go.Proofs.Ythkchjcodibaeaa
open Go.RowKit Go.SL Go.ShM
set_option maxHeartbeats 1000000
set_option maxRecDepth 20000
set_option linter.all false
theorem cf114 : cfn Try.prog 114 = true := by kernel_rfl
theorem cf125 : cfn Try.prog 125 = true := by kernel_rfl
theorem cf165 : cfn Try.prog 165 = true := by kernel_rfl
theorem el76 : el Try.prog 76 = some (1, 24) := by kernel_rfl
theorem sz76 : sz Try.prog 76 = some 1 := by kernel_rfl
theorem tk76 : tk Try.prog 76 = some none := by kernel_rfl
theorem ud108 : Try.prog.underlying 108 = some (.slice 76) := by kernel_rfl
theorem zr76 : zr Try.prog 76 = some [.slice none 0 0] := by kernel_rfl
theorem dgK_ct {k i : Nat} (hk : k ≤ 10000000000 := by omega) (hi : i ≤ 10000000000000 := by omega) : Ct Try.prog 165 [.int .i64 ((k : Nat) : Int), .int .i64 ((i : Nat) : Int)] [] (fun _ : Unit => aU .u8 (mkD k i).1) (fun _ => []) := by
  refine Ct_body (n := 18) Try.func165 rfl rfl rfl fun F w0 Q hret hnorm hp => ?_
  change WC _ _ _ _ _ _ _ (F)
  have hq1 : ((List.replicate 32 0#8).set 0 (BitVec.ofNat 8 k)).length = 32 := by simp
  have hq2 : (((List.replicate 32 0#8).set 0 (BitVec.ofNat 8 k)).set 1 (BitVec.ofNat 8 i)).length = 32 := by simp
  have hq3 : ((((List.replicate 32 0#8).set 0 (BitVec.ofNat 8 k)).set 1 (BitVec.ofNat 8 i)).set 2 (BitVec.ofNat 8 (i / 256))).length = 32 := by simp
  have hq4 : (((((List.replicate 32 0#8).set 0 (BitVec.ofNat 8 k)).set 1 (BitVec.ofNat 8 i)).set 2 (BitVec.ofNat 8 (i / 256))).set 3 77#8).length = 32 := by simp
  rw [show (mkD k i).1 = (((((List.replicate 32 0#8).set 0 (BitVec.ofNat 8 k)).set 1 (BitVec.ofNat 8 i)).set 2 (BitVec.ofNat 8 (i / 256))).set 3 77#8) from rfl] at hret
  refine WC_sr fun K1 hK1 => ?_
  refine WL_ac (Ac_allocW (k := .u8) (w := 8) (m := 32) zr42) rfl rfl rfl ?_
  rintro _ _ ⟨b4, rfl, rfl⟩
  refine WL_end hK1 ?_
  refine WC_sr fun K2 hK2 => ?_
  refine WL_ac (Ac_allocW (k := .u8) (w := 8) (m := 32) zr42) rfl rfl rfl ?_
  rintro _ _ ⟨b5, rfl, rfl⟩
  refine WL_end hK2 ?_
  refine WC_sr fun K3 hK3 => ?_
  refine WL_rd (Rd_move rfl) rfl rfl rfl ?_
  refine WL_rd (Rd_convNU rfl ikd3_5 (h' := uk8)) rfl rfl rfl ?_
  refine WL_rd (Rd_ixA 0 rfl rfl ud42 sz5) rfl rfl rfl ?_
  refine WL_ac0 (Ac_storeU rfl rfl sz5) rfl rfl ?_
  rintro _ _ rfl
  refine WL_end hK3 ?_
  refine WC_sr fun K4 hK4 => ?_
  refine WL_rd (Rd_move rfl) rfl rfl rfl ?_
  refine WL_rd (Rd_convNU rfl ikd3_5 (h' := uk8)) rfl rfl rfl ?_
  refine WL_rd (Rd_ixA 1 rfl rfl ud42 sz5) rfl rfl rfl ?_
  refine WL_ac0 (Ac_storeU rfl rfl sz5) rfl rfl ?_
  rintro _ _ rfl
  refine WL_end hK4 ?_
  refine WC_sr fun K5 hK5 => ?_
  refine WL_rd (Rd_move rfl) rfl rfl rfl ?_
  refine WL_rd (Rd_quoN (j := 256) rfl rfl) rfl rfl rfl ?_
  refine WL_rd (Rd_convNU rfl ikd3_5 (h' := uk8)) rfl rfl rfl ?_
  refine WL_rd (Rd_ixA 2 rfl rfl ud42 sz5) rfl rfl rfl ?_
  refine WL_ac0 (Ac_storeU rfl rfl sz5) rfl rfl ?_
  rintro _ _ rfl
  refine WL_end hK5 ?_
  refine WC_sr fun K6 hK6 => ?_
  refine WL_rd (Rd_ixA 3 rfl rfl ud42 sz5) rfl rfl rfl ?_
  refine WL_ac0 (Ac_storeU (a := 77#8) rfl rfl sz5) rfl rfl ?_
  rintro _ _ rfl
  refine WL_end hK6 ?_
  refine WC_sr fun K7 hK7 => ?_
  refine WL_rd (Rd_loadW rfl tk42) rfl rfl rfl ?_
  refine WL_ac0 (Ac_storeW rfl rfl sz42) rfl rfl ?_
  rintro _ _ rfl
  refine WL_end hK7 ?_
  refine WC_ret ?_
  exact hret.go () (Rs1W rfl rfl tk42)

theorem markD_ct {k i : Nat} (hk : k ≤ 10000000000 := by omega) (hi : i ≤ 10000000000000 := by omega) : Ct Try.prog 125 [.int .i64 ((k : Nat) : Int), .int .i64 ((i : Nat) : Int)] [] (fun _ : Unit => aU .u8 (mkD k i).1) (fun _ => []) := by
  refine Ct_body (n := 8) Try.func125 rfl rfl rfl fun F w0 Q hret hnorm hp => ?_
  change WC _ _ _ _ _ _ _ (F)
  have hml := Dg_len (mkD k i)
  refine WC_sr fun K1 hK1 => ?_
  refine WL_ac (Ac_allocW (k := .u8) (w := 8) (m := 32) zr42) rfl rfl rfl ?_
  rintro _ _ ⟨b4, rfl, rfl⟩
  refine WL_end hK1 ?_
  refine WC_sr fun K2 hK2 => ?_
  refine WL_rd (Rd_move rfl) rfl rfl rfl ?_
  refine WL_rd (Rd_move rfl) rfl rfl rfl ?_
  refine WL_ac (Ac_call cf165 rfl (hs := dgK_ct (k := k) (i := i))) rfl rfl rfl ?_
  rintro _ _ ⟨⟨⟩, rfl, hA⟩
  simp only [List.cons_append, List.nil_append] at hA
  replace hA := hA.symm
  subst hA
  refine WL_ac0 (Ac_storeW rfl rfl sz42) rfl rfl ?_
  rintro _ _ rfl
  refine WL_end hK2 ?_
  refine WC_ret ?_
  exact hret.go () (Rs1W rfl rfl tk42)

theorem lentD_ct {X : Asn} {v : Value} {l : List Dg} {ao : Option Addr} {cap : Nat} (hS : Sv [X] v 32 fD l ao cap := by assumption) (hl : l.length ≤ 900000000000 := by omega) : Ct Try.prog 114 [v] [X] (fun g : Option Nat × Nat => sl g.1 (lentD l).length g.2) (fun g => [X, arr g.1 g.2 32 42 fD (lentD l)]) := by
  refine Ct_body (n := 32) Try.func114 rfl rfl rfl fun F w0 Q hret hnorm hp => ?_
  change WC _ _ _ _ _ _ _ (_ :: F)
  refine WC_sr fun K1 hK1 => ?_
  refine WL_rd (Rd_assign (v := sl none 0 0) rfl) rfl rfl rfl ?_
  refine WL_end hK1 ?_
  refine WC_sr fun K2 hK2 => ?_
  refine WL_rd (Rd_assign (v := sl none 0 0) rfl) rfl rfl rfl ?_
  refine WL_nilarr fD 32 42 ?_
  refine WL_end hK2 ?_
  refine WC_seq fun K3 hK3 => ?_
  refine WC_sr fun K4 hK4 => ?_
  refine WL_rd (Rd_assign rfl) rfl rfl rfl ?_
  refine WL_end hK4 ?_
  refine WC_block ?_
  rw [show ([] : List Dg) = l.take 0 from rfl]
  refine WC_loopK (σ := Nat × (Option Nat) × Nat) (fun ⟨i', a, c⟩ => [(3, sl a (l.take i').length c), (4, .int .i64 ((i' : Nat) : Int))]) (fun ⟨i', a, c⟩ => [arr a c 32 42 fD (l.take i')]) (fun ⟨i', a, c⟩ => i' ≤ l.length) (fun ⟨i', a, c⟩ => l.length - i') ⟨0, none, 0⟩ [0, 2, 5, 19, 20, 21, 22, 23, 24, 25, 26, 27, 28, 29, 30, 31] (by repeat (first | exact Kep.nil | apply Kep.drop rfl | apply Kep.keep rfl)) (by (try dsimp only); repeat (first | with_reducible exact Gv.nil | (with_reducible apply Gv.cons; · (repeat (first | with_reducible exact Ext.here | with_reducible apply Ext.there))))) ?_ ?_ Sub.refl ?_
  · exact Nat.zero_le _
  · (try dsimp only); exact (Wk.cons (by first | rfl | (simp only [List.length_append, List.length_cons, List.length_nil, List.length_replicate, Nat.zero_add]; rfl) | (simp; done)) (Wk.cons (by first | rfl | (simp only [List.length_append, List.length_cons, List.length_nil, List.length_replicate, Nat.zero_add]; rfl) | (simp; done)) Wk.nil))
  · rintro ⟨i', a, c⟩ hi K5 hK5
    simp only [List.cons_append, List.nil_append]
    have htl := List.length_take (i := i') (l := l)
    have hgd := Dg_len (l.getD i' zD)
    refine WC_seq fun K6 hK6 => ?_
    refine WC_sr fun K7 hK7 => ?_
    refine WL_rd (Rd_move rfl) rfl rfl rfl ?_
    refine WL_rd (Rd_move rfl) rfl rfl rfl ?_
    refine WL_rd (Rd_len_sv rfl rfl ud76) rfl rfl rfl ?_
    refine WL_rd (Rd_lssN rfl rfl) rfl rfl rfl ?_
    refine WL_end hK7 ?_
    refine WC_cond rfl (fun hc0 => ?_) (fun hc0 => ?_)
    · try simp only [decide_eq_true_eq, decide_eq_false_iff_not, Bool.not_eq_true', Bool.not_eq_false', Bool.not_eq_true, Bool.not_eq_false, Int.not_lt, Int.not_le, Nat.not_lt, Nat.not_le, Decidable.not_not, ne_eq] at hc0
      refine WC_skip ?_
      refine Ps_next hK6 ?_
      refine WC_seq fun K8 hK8 => ?_
      refine WC_block ?_
      refine WC_region ?_
      refine WL_rd (Rd_move rfl) rfl rfl rfl ?_
      refine WL_rd (Rd_move rfl) rfl rfl rfl ?_
      refine WL_rd (Rd_move rfl) rfl rfl rfl ?_
      refine WL_rd (Rd_index_sv (i') rfl rfl ud76 sz42 (hA := hS) (hj := by omega) (hi := by omega)) rfl rfl rfl ?_
      refine WL_rd (Rd_aU (k := .u8) (l := ((l).getD (i') zD).1) (Rd_loadg_sv (i := i') rfl tk42 (hA := hS) (hl := at_of (by omega))) rfl) rfl rfl rfl ?_
      refine WL_ac (Ac_bs1 (xs := fD (l.getD i' zD)) rfl ud76 zr42 sz42 (hl := encD.len _)) rfl rfl rfl ?_
      rintro _ _ ⟨b17, rfl, rfl⟩
      refine WL_ac (Ac_append1 (f := fD) encD (l.getD i' zD) rfl rfl ud76 ud76 el42) rfl rfl rfl ?_
      rintro _ _ ⟨a18, cap18, rfl, rfl⟩
      rw [take_snoc zD (by omega), take_len1 (by omega)]
      refine WL_rd (Rd_assign rfl) rfl rfl rfl ?_
      refine WL_nil ?_
      refine Ps_next hK8 ?_
      refine WC_region ?_
      refine WL_rd (Rd_move rfl) rfl rfl rfl ?_
      refine WL_rd (Rd_addN (j := 1) rfl rfl) rfl rfl rfl ?_
      refine WL_rd (Rd_assign rfl) rfl rfl rfl ?_
      refine WL_nil ?_
      refine Ps_wk (by (try simp only [List.cons_append, List.nil_append]); repeat (first | with_reducible exact Wk.nil | refine Wk.cons (by first | rfl | (simp only [List.length_append, List.length_cons, List.length_nil, List.length_replicate, Nat.zero_add]; rfl) | (simp; done)) ?_)) (by (try simp only [List.cons_append, List.nil_append]); repeat (first | with_reducible exact Sub.refl | with_reducible exact Sub.nil | with_reducible refine Sub.cons (by repeat (first | with_reducible exact Ext.here | with_reducible apply Ext.there)) ?_ | with_reducible refine Sub.tail ?_)) (hK5 ⟨i' + 1, a18, cap18⟩ (by dsimp only; omega) (by dsimp only; omega))
    · try simp only [decide_eq_true_eq, decide_eq_false_iff_not, Bool.not_eq_true', Bool.not_eq_false', Bool.not_eq_true, Bool.not_eq_false, Int.not_lt, Int.not_le, Nat.not_lt, Nat.not_le, Decidable.not_not, ne_eq] at hc0
      obtain rfl : i' = l.length := by omega
      rw [List.take_length]
      rw [show arr a c 32 42 fD l = arr a c 32 42 fD (l ++ mks (mkD 0) l.length 0) from by simp [mks]]
      refine WC_exit ?_
      refine Ps_next hK3 ?_
      refine WC_seq fun K9 hK9 => ?_
      refine WC_sr fun K10 hK10 => ?_
      refine WL_rd (Rd_assign rfl) rfl rfl rfl ?_
      refine WL_end hK10 ?_
      refine WC_block ?_
      have hl0 : l ++ mks (mkD 0) l.length 0 = l := by simp [mks]
      refine WC_loopK (σ := Nat × (Option Nat) × Nat) (fun ⟨j, a2, c2⟩ => [(3, sl a2 (l.length + j) c2), (5, .int .i64 ((j : Nat) : Int))]) (fun ⟨j, a2, c2⟩ => [arr a2 c2 32 42 fD (l ++ mks (mkD 0) l.length j)]) (fun ⟨j, a2, c2⟩ => j ≤ 70) (fun ⟨j, a2, c2⟩ => 70 - j) ⟨0, a, c⟩ [0, 2, 31] (by repeat (first | exact Kep.nil | apply Kep.drop rfl | apply Kep.keep rfl)) (by (try dsimp only); repeat (first | with_reducible exact Gv.nil | (with_reducible apply Gv.cons; · (repeat (first | with_reducible exact Ext.here | with_reducible apply Ext.there))))) ?_ ?_ Sub.refl ?_
      · exact Nat.zero_le _
      · (try dsimp only); exact (Wk.cons (by first | rfl | (simp only [List.length_append, List.length_cons, List.length_nil, List.length_replicate, Nat.zero_add]; rfl) | (simp; done)) (Wk.cons (by first | rfl | (simp only [List.length_append, List.length_cons, List.length_nil, List.length_replicate, Nat.zero_add]; rfl) | (simp; done)) Wk.nil))
      · rintro ⟨j, a2, c2⟩ hj K11 hK11
        simp only [List.cons_append, List.nil_append]
        have hml := mks_len (mkD 0) l.length j
        have hmj : (l ++ mks (mkD 0) l.length j).length = l.length + j := by rw [List.length_append, hml]
        have hmd := Dg_len (mkD 0 (l.length + j))
        refine WC_seq fun K12 hK12 => ?_
        refine WC_sr fun K13 hK13 => ?_
        refine WL_rd (Rd_move rfl) rfl rfl rfl ?_
        refine WL_rd (Rd_lssN (j := 70) rfl rfl) rfl rfl rfl ?_
        refine WL_end hK13 ?_
        refine WC_cond rfl (fun hc1 => ?_) (fun hc1 => ?_)
        · try simp only [decide_eq_true_eq, decide_eq_false_iff_not, Bool.not_eq_true', Bool.not_eq_false', Bool.not_eq_true, Bool.not_eq_false, Int.not_lt, Int.not_le, Nat.not_lt, Nat.not_le, Decidable.not_not, ne_eq] at hc1
          refine WC_skip ?_
          refine Ps_next hK12 ?_
          refine WC_seq fun K14 hK14 => ?_
          refine WC_block ?_
          refine WC_region ?_
          refine WL_rd (Rd_move rfl) rfl rfl rfl ?_
          refine WL_rd (Rd_move rfl) rfl rfl rfl ?_
          refine WL_rd (Rd_len_sv rfl rfl ud76) rfl rfl rfl ?_
          refine WL_rd (Rd_move rfl) rfl rfl rfl ?_
          refine WL_rd (Rd_addN rfl rfl) rfl rfl rfl ?_
          refine WL_ac (Ac_call cf125 rfl (hs := markD_ct (k := 0) (i := l.length + j))) rfl rfl rfl ?_
          rintro _ _ ⟨⟨⟩, rfl, hA⟩
          simp only [List.cons_append, List.nil_append] at hA
          replace hA := hA.symm
          subst hA
          refine WL_ac (Ac_bs1 (xs := fD (mkD 0 (l.length + j))) rfl ud76 zr42 sz42 (hl := encD.len _)) rfl rfl rfl ?_
          rintro _ _ ⟨b29, rfl, rfl⟩
          refine WL_ac (Ac_append1 (f := fD) encD (mkD 0 (l.length + j)) rfl rfl ud76 ud76 el42) rfl rfl rfl ?_
          rintro _ _ ⟨a30, cap30, rfl, rfl⟩
          rw [hmj, List.append_assoc, mks_succ]
          refine WL_rd (Rd_assign rfl) rfl rfl rfl ?_
          refine WL_nil ?_
          refine Ps_next hK14 ?_
          refine WC_region ?_
          refine WL_rd (Rd_move rfl) rfl rfl rfl ?_
          refine WL_rd (Rd_addN (j := 1) rfl rfl) rfl rfl rfl ?_
          refine WL_rd (Rd_assign rfl) rfl rfl rfl ?_
          refine WL_nil ?_
          refine Ps_wk (by (try simp only [List.cons_append, List.nil_append]); repeat (first | with_reducible exact Wk.nil | refine Wk.cons (by first | rfl | (simp only [List.length_append, List.length_cons, List.length_nil, List.length_replicate, Nat.zero_add]; rfl) | (simp; done)) ?_)) (by (try simp only [List.cons_append, List.nil_append]); repeat (first | with_reducible exact Sub.refl | with_reducible exact Sub.nil | with_reducible refine Sub.cons (by repeat (first | with_reducible exact Ext.here | with_reducible apply Ext.there)) ?_ | with_reducible refine Sub.tail ?_)) (hK11 ⟨j + 1, a30, cap30⟩ (by dsimp only; omega) (by dsimp only; omega))
        · try simp only [decide_eq_true_eq, decide_eq_false_iff_not, Bool.not_eq_true', Bool.not_eq_false', Bool.not_eq_true, Bool.not_eq_false, Int.not_lt, Int.not_le, Nat.not_lt, Nat.not_le, Decidable.not_not, ne_eq] at hc1
          obtain rfl : j = 70 := by omega
          rw [show l ++ mks (mkD 0) l.length 70 = lentD l from rfl]
          have hll := lentD_len l
          refine WC_exit ?_
          refine Ps_next hK9 ?_
          refine WC_sr fun K15 hK15 => ?_
          refine WL_rd (Rd_move rfl) rfl rfl rfl ?_
          refine WL_rd (Rd_assign rfl) rfl rfl rfl ?_
          refine WL_end hK15 ?_
          refine WC_ret ?_
          exact hret.goE (a2, c2) (Rs1 rfl rfl) (by dsimp only; rw [hll])

theorem keptD_ct {X : Asn} {v v' : Value} {l l' : List Dg} {ao ao' : Option Addr} {cap cap' : Nat} (hS : Sv [X] v 32 fD l ao cap := by assumption) (hS' : Sv [X] v' 32 fD l' ao' cap' := by assumption) (hl : l.length ≤ 900000000000 := by omega) (hl' : l'.length ≤ 900000000000 := by omega) : Ct Try.prog 123 [v, v'] [X] (fun _ : Unit => .bool (decide (l = lentD l'))) (fun _ => [X]) := by
  refine Ct_body (n := 9) Try.func123 rfl rfl rfl fun F w0 Q hret hnorm hp => ?_
  change WC _ _ _ _ _ _ _ (_ :: F)
  refine WC_sr fun K1 hK1 => ?_
  refine WL_rd (Rd_assign rfl) rfl rfl rfl ?_
  refine WL_end hK1 ?_
  refine WC_sr fun K2 hK2 => ?_
  refine WL_rd (Rd_move rfl) rfl rfl rfl ?_
  refine WL_rd (Rd_move rfl) rfl rfl rfl ?_
  refine WL_ac (Ac_call cf114 rfl (hs := lentD_ct (hS := hS'))) rfl rfl rfl ?_
  rintro _ _ ⟨⟨a7, cap7⟩, rfl, hA⟩
  simp only [List.cons_append, List.nil_append] at hA
  replace hA := hA.symm
  subst hA
  refine WL_fact (fun w h => arr_facts (a := a7) (cap := cap7) (e := 32) (T := 42) (f := fD) (l := (lentD l')) (by repeat (first | with_reducible exact Has.here | with_reducible refine Has.there ?_)) h) (fun hSwf => ?_)
  have hSw : Sv [arr a7 cap7 32 42 fD (lentD l')] (sl a7 (lentD l').length cap7) 32 fD (lentD l') (a7.map fun g => ⟨g, 0, none⟩) cap7 := Sv_own' encD hSwf.1 hSwf.2
  refine WL_ac (Ac_call cf56 rfl (hs := Ct.un0 (Xs := [arr a7 cap7 32 42 fD (lentD l'), X]) (sameD_ct (X := sep [arr a7 cap7 32 42 fD (lentD l'), X]) (l := l) (l' := lentD l') (hS := hS.pk (by repeat (first | with_reducible exact Has.here | with_reducible refine Has.there ?_))) (hS' := hSw.pk (by repeat (first | with_reducible exact Has.here | with_reducible refine Has.there ?_)))))) rfl rfl rfl ?_
  rintro _ _ ⟨⟨⟩, rfl, hA⟩
  simp only [List.cons_append, List.nil_append] at hA
  replace hA := hA.symm
  subst hA
  refine WL_rd (Rd_assign rfl) rfl rfl rfl ?_
  refine WL_end hK2 ?_
  refine WC_ret ?_
  exact hret.go () (Rs1 rfl rfl)

theorem overD_ct {l : List Dg} {a : Option Nat} {cap : Nat} (hl : l.length ≤ 900000000000 := by omega) : Ct Try.prog 124 [sl a l.length cap] [arr a cap 32 42 fD l] (fun _ : Unit => .tuple #[]) (fun _ => [arr a cap 32 42 fD (overD l.length)]) := by
  refine Ct_body (n := 15) Try.func124 rfl rfl rfl fun F w0 Q hret hnorm hp => ?_
  change WC _ _ _ _ _ _ _ (_ :: F)
  refine WC_sr fun K1 hK1 => ?_
  refine WL_rd (Rd_assign rfl) rfl rfl rfl ?_
  refine WL_end hK1 ?_
  refine WC_block ?_
  rw [show arr a cap 32 42 fD l = arr a cap 32 42 fD (ovl (fun i => mkD 7 (i + 3)) l 0) from by rw [ovl_0]]
  refine WC_loopK (σ := Nat) (fun i' => [(2, .int .i64 ((i' : Nat) : Int))]) (fun i' => [arr a cap 32 42 fD (ovl (fun i => mkD 7 (i + 3)) l i')]) (fun i' => i' ≤ l.length) (fun i' => l.length - i') (0) [0] (by repeat (first | exact Kep.nil | apply Kep.drop rfl | apply Kep.keep rfl)) (by (try dsimp only); repeat (first | with_reducible exact Gv.nil | (with_reducible apply Gv.cons; · (repeat (first | with_reducible exact Ext.here | with_reducible apply Ext.there))))) ?_ ?_ Sub.refl ?_
  · exact Nat.zero_le _
  · (try dsimp only); exact (Wk.cons (by first | rfl | (simp only [List.length_append, List.length_cons, List.length_nil, List.length_replicate, Nat.zero_add]; rfl) | (simp; done)) Wk.nil)
  · rintro i' hi K2 hK2
    simp only [List.cons_append, List.nil_append]
    have hol := ovl_len (fun i => mkD 7 (i + 3)) hi
    refine WC_seq fun K3 hK3 => ?_
    refine WC_sr fun K4 hK4 => ?_
    refine WL_rd (Rd_move rfl) rfl rfl rfl ?_
    refine WL_rd (Rd_move rfl) rfl rfl rfl ?_
    refine WL_rd (Rd_len rfl rfl ud76) rfl rfl rfl ?_
    refine WL_rd (Rd_lssN rfl rfl) rfl rfl rfl ?_
    refine WL_end hK4 ?_
    refine WC_cond rfl (fun hc0 => ?_) (fun hc0 => ?_)
    · try simp only [decide_eq_true_eq, decide_eq_false_iff_not, Bool.not_eq_true', Bool.not_eq_false', Bool.not_eq_true, Bool.not_eq_false, Int.not_lt, Int.not_le, Nat.not_lt, Nat.not_le, Decidable.not_not, ne_eq] at hc0
      refine WC_some (a := a) (by repeat (first | with_reducible exact Has.here | with_reducible refine Has.there ?_)) (by omega) (fun gb hgb hcp => ?_)
      subst hgb
      refine WC_skip ?_
      refine Ps_next hK3 ?_
      refine WC_seq fun K5 hK5 => ?_
      refine WC_block ?_
      refine WC_region ?_
      refine WL_rd (Rd_move rfl) rfl rfl rfl ?_
      refine WL_rd (Rd_move rfl) rfl rfl rfl ?_
      refine WL_rd (Rd_move rfl) rfl rfl rfl ?_
      refine WL_rd (Rd_addN (j := 3) rfl rfl) rfl rfl rfl ?_
      refine WL_ac (Ac_call cf125 rfl (hs := markD_ct (k := 7) (i := i' + 3))) rfl rfl rfl ?_
      rintro _ _ ⟨⟨⟩, rfl, hA⟩
      simp only [List.cons_append, List.nil_append] at hA
      replace hA := hA.symm
      subst hA
      refine WL_rd (Rd_index _ rfl rfl ud76 sz42) rfl rfl rfl ?_
      refine WL_ac0 (Ac_storeD (mkD 7 (i' + 3)) rfl rfl sz42) rfl rfl ?_
      rintro _ _ rfl
      rw [ovl_set (fun i => mkD 7 (i + 3)) (by omega)]
      refine WL_nil ?_
      refine Ps_next hK5 ?_
      refine WC_region ?_
      refine WL_rd (Rd_move rfl) rfl rfl rfl ?_
      refine WL_rd (Rd_addN (j := 1) rfl rfl) rfl rfl rfl ?_
      refine WL_rd (Rd_assign rfl) rfl rfl rfl ?_
      refine WL_nil ?_
      refine Ps_wk (by (try simp only [List.cons_append, List.nil_append]); repeat (first | with_reducible exact Wk.nil | refine Wk.cons (by first | rfl | (simp only [List.length_append, List.length_cons, List.length_nil, List.length_replicate, Nat.zero_add]; rfl) | (simp; done)) ?_)) (by (try simp only [List.cons_append, List.nil_append]); repeat (first | with_reducible exact Sub.refl | with_reducible exact Sub.nil | with_reducible refine Sub.cons (by repeat (first | with_reducible exact Ext.here | with_reducible apply Ext.there)) ?_ | with_reducible refine Sub.tail ?_)) (hK2 (i' + 1) (by omega) (by omega))
    · try simp only [decide_eq_true_eq, decide_eq_false_iff_not, Bool.not_eq_true', Bool.not_eq_false', Bool.not_eq_true, Bool.not_eq_false, Int.not_lt, Int.not_le, Nat.not_lt, Nat.not_le, Decidable.not_not, ne_eq] at hc0
      obtain rfl : i' = l.length := by omega
      rw [ovl_all]
      rw [show mks (fun i => mkD 7 (i + 3)) 0 l.length = overD l.length from rfl]
      refine WC_exit ?_
      exact hnorm.go () (Rs0 rfl)

theorem apartD_ct {X : Asn} {v : Value} {ps : List PD} {ao : Option Addr} {cap : Nat} (hS : Sv [X] v 1 ePD ps ao cap := by assumption) (hn : ps.length ≤ 100000000 := by omega) (hb : ∀ p ∈ ps, p.l.length ≤ 900000000000 := by assumption) : Ct Try.prog 68 [v] [X, star (FPD 42) ps] (fun _ : Unit => .bool true) (fun _ => [X]) := by
  refine Ct_body (n := 116) Try.func68 rfl rfl rfl fun F w0 Q hret hnorm hp => ?_
  change WC _ _ _ _ _ _ _ (_ :: _ :: F)
  refine WC_sr fun K1 hK1 => ?_
  refine WL_rd (Rd_assign rfl) rfl rfl rfl ?_
  refine WL_end hK1 ?_
  refine WC_seq fun K2 hK2 => ?_
  refine WC_sr fun K3 hK3 => ?_
  refine WL_rd (Rd_assign rfl) rfl rfl rfl ?_
  refine WL_end hK3 ?_
  refine WC_block ?_
  rw [show star (FPD 42) ps = star (FPD 42) (mkdD ps 0) from by rw [mkdD_0]]
  refine WC_loopK (σ := Nat) (fun k => [(3, .int .i64 ((k : Nat) : Int))]) (fun k => [star (FPD 42) (mkdD ps k)]) (fun k => k ≤ ps.length) (fun k => ps.length - k) (0) [0, 2, 5, 6, 7, 8, 9, 10, 11, 37, 38, 39, 40, 41, 42, 43, 44, 45, 46, 47, 48, 49, 50, 51, 52, 53, 54, 55, 56, 57, 58, 59, 60, 61, 62, 63, 64, 65, 66, 67, 68, 69, 70, 71, 72, 73, 74, 75, 76, 77, 78, 79, 80, 81, 82, 83, 84, 85, 86, 87, 88, 89, 90, 91, 92, 93, 94, 95, 96, 97, 98, 99, 100, 101, 102, 103, 104, 105, 106, 107, 108, 109, 110, 111, 112, 113, 114, 115] (by repeat (first | exact Kep.nil | apply Kep.drop rfl | apply Kep.keep rfl)) (by (try dsimp only); repeat (first | with_reducible exact Gv.nil | (with_reducible apply Gv.cons; · (repeat (first | with_reducible exact Ext.here | with_reducible apply Ext.there))))) ?_ ?_ Sub.refl ?_
  · exact Nat.zero_le _
  · (try dsimp only); exact (Wk.cons (by first | rfl | (simp only [List.length_append, List.length_cons, List.length_nil, List.length_replicate, Nat.zero_add]; rfl) | (simp; done)) Wk.nil)
  · rintro k hk K4 hK4
    simp only [List.cons_append, List.nil_append]
    refine WC_seq fun K5 hK5 => ?_
    refine WC_sr fun K6 hK6 => ?_
    refine WL_rd (Rd_move rfl) rfl rfl rfl ?_
    refine WL_rd (Rd_move rfl) rfl rfl rfl ?_
    refine WL_rd (Rd_len_sv rfl rfl ud108) rfl rfl rfl ?_
    refine WL_rd (Rd_lssN rfl rfl) rfl rfl rfl ?_
    refine WL_end hK6 ?_
    refine WC_cond rfl (fun hc0 => ?_) (fun hc0 => ?_)
    · try simp only [decide_eq_true_eq, decide_eq_false_iff_not, Bool.not_eq_true', Bool.not_eq_false', Bool.not_eq_true, Bool.not_eq_false, Int.not_lt, Int.not_le, Nat.not_lt, Nat.not_le, Decidable.not_not, ne_eq] at hc0
      obtain ⟨⟨pa, pc, pl⟩, hpk⟩ : ∃ p, ps[k]? = some p := ⟨_, List.getElem?_eq_getElem (by omega)⟩
      have hpb := hb _ (List.mem_of_getElem? hpk)
      dsimp only at hpb
      refine WC_open (FPD 42) (mkdD ps k) k (x := ⟨pa, pc, pl⟩) (by rw [mkdD_at hpk, if_neg (by omega)]) ?_
      rw [show FPD 42 ⟨pa, pc, pl⟩ = arr pa pc 32 42 fD pl from rfl]
      refine WC_skip ?_
      refine Ps_next hK5 ?_
      refine WC_seq fun K7 hK7 => ?_
      refine WC_block ?_
      refine WC_sr fun K8 hK8 => ?_
      refine WL_rd (Rd_assign rfl) rfl rfl rfl ?_
      refine WL_end hK8 ?_
      refine WC_block ?_
      rw [show arr pa pc 32 42 fD pl = arr pa pc 32 42 fD (ovl (mkD (k + 1)) pl 0) from by rw [ovl_0]]
      refine WC_loopK (σ := Nat) (fun i' => [(4, .int .i64 ((i' : Nat) : Int))]) (fun i' => [arr pa pc 32 42 fD (ovl (mkD (k + 1)) pl i')]) (fun i' => i' ≤ pl.length) (fun i' => pl.length - i') (0) [0, 2, 3, 5, 6, 7, 8, 9, 10, 11, 12, 13, 14, 15, 16, 17, 37, 38, 39, 40, 41, 42, 43, 44, 45, 46, 47, 48, 49, 50, 51, 52, 53, 54, 55, 56, 57, 58, 59, 60, 61, 62, 63, 64, 65, 66, 67, 68, 69, 70, 71, 72, 73, 74, 75, 76, 77, 78, 79, 80, 81, 82, 83, 84, 85, 86, 87, 88, 89, 90, 91, 92, 93, 94, 95, 96, 97, 98, 99, 100, 101, 102, 103, 104, 105, 106, 107, 108, 109, 110, 111, 112, 113, 114, 115] (by repeat (first | exact Kep.nil | apply Kep.drop rfl | apply Kep.keep rfl)) (by (try dsimp only); repeat (first | with_reducible exact Gv.nil | (with_reducible apply Gv.cons; · (repeat (first | with_reducible exact Ext.here | with_reducible apply Ext.there))))) ?_ ?_ Sub.refl ?_
      · exact Nat.zero_le _
      · (try dsimp only); exact (Wk.cons (by first | rfl | (simp only [List.length_append, List.length_cons, List.length_nil, List.length_replicate, Nat.zero_add]; rfl) | (simp; done)) Wk.nil)
      · rintro i' hi K9 hK9
        simp only [List.cons_append, List.nil_append]
        have hol := ovl_len (mkD (k + 1)) hi
        refine WC_seq fun K10 hK10 => ?_
        refine WC_sr fun K11 hK11 => ?_
        refine WL_rd (Rd_move rfl) rfl rfl rfl ?_
        refine WL_rd (Rd_move rfl) rfl rfl rfl ?_
        refine WL_rd (Rd_move rfl) rfl rfl rfl ?_
        refine WL_rd (Rd_index_sv k rfl rfl ud108 sz76 (hA := hS) (hi := by omega)) rfl rfl rfl ?_
        refine WL_rd (Rd_load_sv (i := k) (j := 0) (u := sl pa pl.length pc) rfl tk76 (hA := hS) (hl := hpk)) rfl rfl rfl ?_
        refine WL_rd (Rd_len rfl rfl ud76) rfl rfl rfl ?_
        refine WL_rd (Rd_lssN rfl rfl) rfl rfl rfl ?_
        refine WL_end hK11 ?_
        refine WC_cond rfl (fun hc1 => ?_) (fun hc1 => ?_)
        · try simp only [decide_eq_true_eq, decide_eq_false_iff_not, Bool.not_eq_true', Bool.not_eq_false', Bool.not_eq_true, Bool.not_eq_false, Int.not_lt, Int.not_le, Nat.not_lt, Nat.not_le, Decidable.not_not, ne_eq] at hc1
          refine WC_some (a := pa) (by repeat (first | with_reducible exact Has.here | with_reducible refine Has.there ?_)) (by omega) (fun gb hgb hcp => ?_)
          subst hgb
          refine WC_skip ?_
          refine Ps_next hK10 ?_
          refine WC_seq fun K12 hK12 => ?_
          refine WC_block ?_
          refine WC_drawA mix (fun i => ([2, 2, 2, 2, 2, 2, 2, 2, 1, 2, 0] : List Nat).getD i 0) ?_
          refine WJ_takeP 0 rfl (by kernel_rfl) (Rd_move rfl) rfl rfl rfl (hp _ _) ?_
          refine WJ_takeP 1 rfl (by kernel_rfl) (Rd_move rfl) rfl rfl rfl (hp _ _) ?_
          refine WJ_takeP 2 rfl (by kernel_rfl) (Rd_index_sv k rfl rfl ud108 sz76 (hA := hS) (hi := by omega)) rfl rfl rfl (hp _ _) ?_
          refine WJ_tk 3 (Rd_load_sv (i := k) (j := 0) (u := sl (some gb) pl.length pc) rfl tk76 (hA := hS) (hl := hpk)) hp ?_ rfl (by kernel_rfl) rfl rfl rfl
          refine WJ_takeP 4 rfl (by kernel_rfl) (Rd_move rfl) rfl rfl rfl (hp _ _) ?_
          refine WJ_takeP 5 rfl (by kernel_rfl) (Rd_move rfl) rfl rfl rfl (hp _ _) ?_
          refine WJ_takeP 6 rfl (by kernel_rfl) (Rd_addN (j := 1) rfl rfl) rfl rfl rfl (hp _ _) ?_
          refine WJ_takeP 7 rfl (by kernel_rfl) (Rd_move rfl) rfl rfl rfl (hp _ _) ?_
          refine WJ_all (rs := [8]) (by kernel_rfl) rfl ?_
          refine WI_one ?_
          refine WI_ac rfl (Ac_call cf125 rfl (hs := markD_ct (k := k + 1) (i := i'))) rfl rfl rfl rfl ?_
          rintro _ _ ⟨⟨⟩, rfl, hA⟩
          simp only [List.cons_append, List.nil_append] at hA
          replace hA := hA.symm
          subst hA
          refine ⟨(fun _ => (by repeat (first | with_reducible exact Sub.refl | with_reducible exact Sub.nil | with_reducible refine Sub.cons (by repeat (first | with_reducible exact Ext.here | with_reducible apply Ext.there)) ?_ | with_reducible refine Sub.tail ?_))), ?_⟩
          refine WJ_takeP 9 rfl (by kernel_rfl) (Rd_index _ rfl rfl ud76 sz42) rfl rfl rfl (hp _ _) ?_
          refine WJ_all (rs := [10]) (by kernel_rfl) rfl ?_
          refine WI_one ?_
          refine WI_ac0 rfl (Ac_storeD (mkD (k + 1) i') rfl rfl sz42) rfl rfl rfl ?_
          rintro _ _ rfl
          refine ⟨(fun h => by cases h), ?_⟩
          rw [ovl_set (mkD (k + 1)) (by omega)]
          refine WJ_done (by kernel_rfl) ?_
          refine Ps_next hK12 ?_
          refine WC_region ?_
          refine WL_rd (Rd_move rfl) rfl rfl rfl ?_
          refine WL_rd (Rd_addN (j := 1) rfl rfl) rfl rfl rfl ?_
          refine WL_rd (Rd_assign rfl) rfl rfl rfl ?_
          refine WL_nil ?_
          refine Ps_wk (by (try simp only [List.cons_append, List.nil_append]); repeat (first | with_reducible exact Wk.nil | refine Wk.cons (by first | rfl | (simp only [List.length_append, List.length_cons, List.length_nil, List.length_replicate, Nat.zero_add]; rfl) | (simp; done)) ?_)) (by (try simp only [List.cons_append, List.nil_append]); repeat (first | with_reducible exact Sub.refl | with_reducible exact Sub.nil | with_reducible refine Sub.cons (by repeat (first | with_reducible exact Ext.here | with_reducible apply Ext.there)) ?_ | with_reducible refine Sub.tail ?_)) (hK9 (i' + 1) (by omega) (by omega))
        · try simp only [decide_eq_true_eq, decide_eq_false_iff_not, Bool.not_eq_true', Bool.not_eq_false', Bool.not_eq_true, Bool.not_eq_false, Int.not_lt, Int.not_le, Nat.not_lt, Nat.not_le, Decidable.not_not, ne_eq] at hc1
          obtain rfl : i' = pl.length := by omega
          rw [ovl_all]
          rw [show arr pa pc 32 42 fD (mks (mkD (k + 1)) 0 pl.length) = FPD 42 (mkPD k ⟨pa, pc, pl⟩) from rfl]
          refine WC_shut (FPD 42) (mkdD ps k) k (mkPD k ⟨pa, pc, pl⟩) (by rw [mkdD_len]; omega) ?_
          rw [mkdD_set hpk]
          refine WC_exit ?_
          refine Ps_next hK7 ?_
          refine WC_region ?_
          refine WL_rd (Rd_move rfl) rfl rfl rfl ?_
          refine WL_rd (Rd_addN (j := 1) rfl rfl) rfl rfl rfl ?_
          refine WL_rd (Rd_assign rfl) rfl rfl rfl ?_
          refine WL_nil ?_
          refine Ps_wk (by (try simp only [List.cons_append, List.nil_append]); repeat (first | with_reducible exact Wk.nil | refine Wk.cons (by first | rfl | (simp only [List.length_append, List.length_cons, List.length_nil, List.length_replicate, Nat.zero_add]; rfl) | (simp; done)) ?_)) (by (try simp only [List.cons_append, List.nil_append]); repeat (first | with_reducible exact Sub.refl | with_reducible exact Sub.nil | with_reducible refine Sub.cons (by repeat (first | with_reducible exact Ext.here | with_reducible apply Ext.there)) ?_ | with_reducible refine Sub.tail ?_)) (hK4 (k + 1) (by omega) (by omega))
    · try simp only [decide_eq_true_eq, decide_eq_false_iff_not, Bool.not_eq_true', Bool.not_eq_false', Bool.not_eq_true, Bool.not_eq_false, Int.not_lt, Int.not_le, Nat.not_lt, Nat.not_le, Decidable.not_not, ne_eq] at hc0
      obtain rfl : k = ps.length := by omega
      rw [show star (FPD 42) (mkdD ps ps.length) = star (FPD 42) ((mkdD ps ps.length).drop 0) from rfl]
      refine WC_imp (fun w h => sat_nil (e := 1) (T := 76) (f := eQI) h) ?_
      refine WC_exit ?_
      refine Ps_next hK2 ?_
      refine WC_sr fun K13 hK13 => ?_
      refine WL_rd (Rd_assign (v := sl none 0 0) rfl) rfl rfl rfl ?_
      refine WL_nilarr eQI 1 76 ?_
      refine WL_end hK13 ?_
      refine WC_seq fun K14 hK14 => ?_
      refine WC_sr fun K15 hK15 => ?_
      refine WL_rd (Rd_assign rfl) rfl rfl rfl ?_
      refine WL_end hK15 ?_
      refine WC_block ?_
      refine WC_star0 (FQD 42) ?_
      refine WC_loopK (σ := Nat × (List QI) × (Option Nat) × Nat) (fun ⟨k, qs, go, gc⟩ => [(5, sl go qs.length gc), (6, .int .i64 ((k : Nat) : Int))]) (fun ⟨k, qs, go, gc⟩ => [star (FQD 42) qs, star (FPD 42) ((mkdD ps ps.length).drop k), arr go gc 1 76 eQI qs]) (fun ⟨k, qs, go, gc⟩ => k ≤ ps.length ∧ qs.length = k ∧ QOkD ps qs) (fun ⟨k, qs, go, gc⟩ => ps.length - k) ⟨0, [], none, 0⟩ [0, 2, 9, 10, 11, 68, 69, 70, 71, 72, 73, 74, 75, 76, 77, 78, 79, 80, 81, 82, 83, 84, 85, 86, 87, 88, 89, 90, 91, 92, 93, 94, 95, 96, 97, 98, 99, 100, 101, 102, 103, 104, 105, 106, 107, 108, 109, 110, 111, 112, 113, 114, 115] (by repeat (first | exact Kep.nil | apply Kep.drop rfl | apply Kep.keep rfl)) (by (try dsimp only); repeat (first | with_reducible exact Gv.nil | (with_reducible apply Gv.cons; · (repeat (first | with_reducible exact Ext.here | with_reducible apply Ext.there))))) ?_ ?_ Sub.refl ?_
      · exact ⟨Nat.zero_le _, rfl, QOkD_nil⟩
      · (try dsimp only); exact (Wk.cons (by first | rfl | (simp only [List.length_append, List.length_cons, List.length_nil, List.length_replicate, Nat.zero_add]; rfl) | (simp; done)) (Wk.cons (by first | rfl | (simp only [List.length_append, List.length_cons, List.length_nil, List.length_replicate, Nat.zero_add]; rfl) | (simp; done)) Wk.nil))
      · rintro ⟨k, qs, go, gc⟩ ⟨hk, hql, hQ⟩ K16 hK16
        simp only [List.cons_append, List.nil_append]
        refine WC_seq fun K17 hK17 => ?_
        refine WC_sr fun K18 hK18 => ?_
        refine WL_rd (Rd_move rfl) rfl rfl rfl ?_
        refine WL_rd (Rd_move rfl) rfl rfl rfl ?_
        refine WL_rd (Rd_len_sv rfl rfl ud108) rfl rfl rfl ?_
        refine WL_rd (Rd_lssN rfl rfl) rfl rfl rfl ?_
        refine WL_end hK18 ?_
        refine WC_cond rfl (fun hc2 => ?_) (fun hc2 => ?_)
        · try simp only [decide_eq_true_eq, decide_eq_false_iff_not, Bool.not_eq_true', Bool.not_eq_false', Bool.not_eq_true, Bool.not_eq_false, Int.not_lt, Int.not_le, Nat.not_lt, Nat.not_le, Decidable.not_not, ne_eq] at hc2
          obtain ⟨⟨pa, pc, pl⟩, hpk⟩ : ∃ p, ps[k]? = some p := ⟨_, List.getElem?_eq_getElem (by omega)⟩
          have hpb := hb _ (List.mem_of_getElem? hpk)
          dsimp only at hpb
          refine WC_drop (FPD 42) (mkdD ps ps.length) k (x := mkPD k ⟨pa, pc, pl⟩) (mkdD_all hpk) ?_
          rw [show FPD 42 (mkPD k ⟨pa, pc, pl⟩) = arr pa pc 32 42 fD (mks (mkD (k + 1)) 0 pl.length) from rfl]
          refine WC_fact (fun w h => arr_facts (a := pa) (cap := pc) (e := 32) (T := 42) (f := fD) (l := mks (mkD (k + 1)) 0 pl.length) (by repeat (first | with_reducible exact Has.here | with_reducible refine Has.there ?_)) h) (fun hpf => ?_)
          rw [mks_len] at hpf
          refine WC_imp (fun w h => apk_start h) ?_
          refine WC_skip ?_
          refine Ps_next hK17 ?_
          refine WC_seq fun K19 hK19 => ?_
          refine WC_block ?_
          refine WC_sr fun K20 hK20 => ?_
          refine WL_rd (Rd_move rfl) rfl rfl rfl ?_
          refine WL_rd (Rd_move rfl) rfl rfl rfl ?_
          refine WL_rd (Rd_index_sv k rfl rfl ud108 sz76 (hA := hS) (hi := by omega)) rfl rfl rfl ?_
          refine WL_rd (Rd_load_sv (i := k) (j := 0) (u := sl pa pl.length pc) rfl tk76 (hA := hS) (hl := hpk)) rfl rfl rfl ?_
          refine WL_rd (Rd_assign rfl) rfl rfl rfl ?_
          refine WL_end hK20 ?_
          refine WC_seq fun K21 hK21 => ?_
          refine WC_sr fun K22 hK22 => ?_
          refine WL_rd (Rd_assign rfl) rfl rfl rfl ?_
          refine WL_end hK22 ?_
          refine WC_block ?_
          rw [show apk pa pc pa pc 32 42 fD (mks (mkD (k + 1)) 0 pl.length) (mks (mkD (k + 1)) 0 pl.length) = apk pa pc pa pc 32 42 fD (mks (mkD (k + 1)) 0 pl.length) (mks (mkD (k + 1)) 0 (pl.length + 0)) from rfl]
          refine WC_loopK (σ := Nat × (Option Nat) × Nat) (fun ⟨i', a', c'⟩ => [(7, sl a' (pl.length + i') c'), (8, .int .i64 ((i' : Nat) : Int))]) (fun ⟨i', a', c'⟩ => [apk pa pc a' c' 32 42 fD (mks (mkD (k + 1)) 0 pl.length) (mks (mkD (k + 1)) 0 (pl.length + i'))]) (fun ⟨i', a', c'⟩ => i' ≤ 70) (fun ⟨i', a', c'⟩ => 70 - i') ⟨0, pa, pc⟩ [0, 2, 5, 6, 9, 10, 11, 37, 38, 39, 40, 41, 42, 43, 44, 45, 46, 64, 65, 66, 67, 68, 69, 70, 71, 72, 73, 74, 75, 76, 77, 78, 79, 80, 81, 82, 83, 84, 85, 86, 87, 88, 89, 90, 91, 92, 93, 94, 95, 96, 97, 98, 99, 100, 101, 102, 103, 104, 105, 106, 107, 108, 109, 110, 111, 112, 113, 114, 115] (by repeat (first | exact Kep.nil | apply Kep.drop rfl | apply Kep.keep rfl)) (by (try dsimp only); repeat (first | with_reducible exact Gv.nil | (with_reducible apply Gv.cons; · (repeat (first | with_reducible exact Ext.here | with_reducible apply Ext.there))))) ?_ ?_ Sub.refl ?_
          · exact Nat.zero_le _
          · (try dsimp only); exact (Wk.cons (by first | rfl | (simp only [List.length_append, List.length_cons, List.length_nil, List.length_replicate, Nat.zero_add]; rfl) | (simp; done)) (Wk.cons (by first | rfl | (simp only [List.length_append, List.length_cons, List.length_nil, List.length_replicate, Nat.zero_add]; rfl) | (simp; done)) Wk.nil))
          · rintro ⟨i', a', c'⟩ hi K23 hK23
            simp only [List.cons_append, List.nil_append]
            have hml := mks_len (mkD (k + 1)) 0 (pl.length + i')
            refine WC_seq fun K24 hK24 => ?_
            refine WC_sr fun K25 hK25 => ?_
            refine WL_rd (Rd_move rfl) rfl rfl rfl ?_
            refine WL_rd (Rd_lssN (j := 70) rfl rfl) rfl rfl rfl ?_
            refine WL_end hK25 ?_
            refine WC_cond rfl (fun hc3 => ?_) (fun hc3 => ?_)
            · try simp only [decide_eq_true_eq, decide_eq_false_iff_not, Bool.not_eq_true', Bool.not_eq_false', Bool.not_eq_true, Bool.not_eq_false, Int.not_lt, Int.not_le, Nat.not_lt, Nat.not_le, Decidable.not_not, ne_eq] at hc3
              refine WC_skip ?_
              refine Ps_next hK24 ?_
              refine WC_seq fun K26 hK26 => ?_
              refine WC_block ?_
              refine WC_region ?_
              refine WL_rd (Rd_move rfl) rfl rfl rfl ?_
              refine WL_rd (Rd_move rfl) rfl rfl rfl ?_
              refine WL_rd (Rd_addN (j := 1) rfl rfl) rfl rfl rfl ?_
              refine WL_rd (Rd_move rfl) rfl rfl rfl ?_
              refine WL_rd (Rd_move rfl) rfl rfl rfl ?_
              refine WL_rd (Rd_index_sv k rfl rfl ud108 sz76 (hA := hS) (hi := by omega)) rfl rfl rfl ?_
              refine WL_rd (Rd_load_sv (i := k) (j := 0) (u := sl pa pl.length pc) rfl tk76 (hA := hS) (hl := hpk)) rfl rfl rfl ?_
              refine WL_rd (Rd_len rfl rfl ud76) rfl rfl rfl ?_
              refine WL_rd (Rd_move rfl) rfl rfl rfl ?_
              refine WL_rd (Rd_addN rfl rfl) rfl rfl rfl ?_
              refine WL_ac (Ac_call cf125 rfl (hs := markD_ct (k := k + 1) (i := pl.length + i'))) rfl rfl rfl ?_
              rintro _ _ ⟨⟨⟩, rfl, hA⟩
              simp only [List.cons_append, List.nil_append] at hA
              replace hA := hA.symm
              subst hA
              refine WL_ac (Ac_bs1 (xs := fD (mkD (k + 1) (pl.length + i'))) rfl ud76 zr42 sz42 (hl := encD.len _)) rfl rfl rfl ?_
              rintro _ _ ⟨b62, rfl, rfl⟩
              refine WL_ac (Ac_apk1 (l := mks (mkD (k + 1)) 0 pl.length) (l' := mks (mkD (k + 1)) 0 (pl.length + i')) encD (mkD (k + 1) (pl.length + i')) rfl rfl ud76 ud76 el42 (mks_pre _ _ _) (hlen := by rw [mks_len])) rfl rfl rfl ?_
              rintro _ _ ⟨a63, cap63, rfl, rfl⟩
              rw [mks_len, mks_one, Nat.add_assoc]
              refine WL_rd (Rd_assign rfl) rfl rfl rfl ?_
              refine WL_nil ?_
              refine Ps_next hK26 ?_
              refine WC_region ?_
              refine WL_rd (Rd_move rfl) rfl rfl rfl ?_
              refine WL_rd (Rd_addN (j := 1) rfl rfl) rfl rfl rfl ?_
              refine WL_rd (Rd_assign rfl) rfl rfl rfl ?_
              refine WL_nil ?_
              refine Ps_wk (by (try simp only [List.cons_append, List.nil_append]); repeat (first | with_reducible exact Wk.nil | refine Wk.cons (by first | rfl | (simp only [List.length_append, List.length_cons, List.length_nil, List.length_replicate, Nat.zero_add]; rfl) | (simp; done)) ?_)) (by (try simp only [List.cons_append, List.nil_append]); repeat (first | with_reducible exact Sub.refl | with_reducible exact Sub.nil | with_reducible refine Sub.cons (by repeat (first | with_reducible exact Ext.here | with_reducible apply Ext.there)) ?_ | with_reducible refine Sub.tail ?_)) (hK23 ⟨i' + 1, a63, cap63⟩ (by dsimp only; omega) (by dsimp only; omega))
            · try simp only [decide_eq_true_eq, decide_eq_false_iff_not, Bool.not_eq_true', Bool.not_eq_false', Bool.not_eq_true, Bool.not_eq_false, Int.not_lt, Int.not_le, Nat.not_lt, Nat.not_le, Decidable.not_not, ne_eq] at hc3
              obtain rfl : i' = 70 := by omega
              refine WC_fact (fun w h => apk_factsN (a := pa) (cap := pc) (a' := a') (cap' := c') (e := 32) (T := 42) (f := fD) (l := mks (mkD (k + 1)) 0 pl.length) (l' := mks (mkD (k + 1)) 0 (pl.length + 70)) h) (fun hqf => ?_)
              rw [mks_len] at hqf
              have hq1 : a' ≠ none := fun e => by have := congrArg List.length (hqf.1 e); rw [mks_len] at this; simp at this
              have hq2 : pl.length + 70 ≤ c' := hqf.2
              have hq3 : pa = none → pl.length = 0 := fun e => by have := congrArg List.length (hpf.1 e); rw [mks_len] at this; exact this
              have hq4 : pl.length ≤ pc := hpf.2
              rw [show apk pa pc a' c' 32 42 fD (mks (mkD (k + 1)) 0 pl.length) (mks (mkD (k + 1)) 0 (pl.length + 70)) = FQD 42 ⟨pa, pc, a', c', pl.length, k⟩ from rfl]
              refine WC_snoc (FQD 42) qs ⟨pa, pc, a', c', pl.length, k⟩ ?_
              refine WC_exit ?_
              refine Ps_next hK21 ?_
              refine WC_region ?_
              refine WL_rd (Rd_move rfl) rfl rfl rfl ?_
              refine WL_rd (Rd_move rfl) rfl rfl rfl ?_
              refine WL_ac (Ac_bs1 (xs := [sl a' (pl.length + 70) c']) rfl ud108 zr76 sz76) rfl rfl rfl ?_
              rintro _ _ ⟨b66, rfl, rfl⟩
              refine WL_ac (Ac_append1 (f := eQI) encQI ⟨pa, pc, a', c', pl.length, k⟩ rfl rfl ud108 ud108 el76) rfl rfl rfl ?_
              rintro _ _ ⟨a67, cap67, rfl, rfl⟩
              refine WL_rd (Rd_assign rfl) rfl rfl rfl ?_
              refine WL_nil ?_
              refine Ps_next hK19 ?_
              refine WC_region ?_
              refine WL_rd (Rd_move rfl) rfl rfl rfl ?_
              refine WL_rd (Rd_addN (j := 1) rfl rfl) rfl rfl rfl ?_
              refine WL_rd (Rd_assign rfl) rfl rfl rfl ?_
              refine WL_nil ?_
              refine Ps_wk (by (try simp only [List.cons_append, List.nil_append]); repeat (first | with_reducible exact Wk.nil | refine Wk.cons (by first | rfl | (simp only [List.length_append, List.length_cons, List.length_nil, List.length_replicate, Nat.zero_add]; rfl) | (simp; done)) ?_)) (by (try simp only [List.cons_append, List.nil_append]); repeat (first | with_reducible exact Sub.refl | with_reducible exact Sub.nil | with_reducible refine Sub.cons (by repeat (first | with_reducible exact Ext.here | with_reducible apply Ext.there)) ?_ | with_reducible refine Sub.tail ?_)) (hK16 ⟨k + 1, qs ++ [⟨pa, pc, a', c', pl.length, k⟩], a67, cap67⟩ (⟨by (try dsimp only); omega, by (try dsimp only); rw [List.length_append, List.length_singleton]; omega, QOkD_snoc hQ (p := ⟨pa, pc, pl⟩) (by rw [hql]; exact hpk) (by (try dsimp only); omega) hq1 hq2 hq3 hq4 rfl rfl rfl⟩) (by (try dsimp only); omega))
        · try simp only [decide_eq_true_eq, decide_eq_false_iff_not, Bool.not_eq_true', Bool.not_eq_false', Bool.not_eq_true, Bool.not_eq_false, Int.not_lt, Int.not_le, Nat.not_lt, Nat.not_le, Decidable.not_not, ne_eq] at hc2
          obtain rfl : k = ps.length := by omega
          refine WC_exit ?_
          refine Ps_next hK14 ?_
          refine WC_seq fun K27 hK27 => ?_
          refine WC_sr fun K28 hK28 => ?_
          refine WL_rd (Rd_assign rfl) rfl rfl rfl ?_
          refine WL_end hK28 ?_
          refine WC_block ?_
          refine WC_loopK (σ := Nat) (fun k2 => [(9, .int .i64 ((k2 : Nat) : Int))]) (fun k2 => []) (fun k2 => k2 ≤ ps.length) (fun k2 => ps.length - k2) (0) [0, 5] (by repeat (first | exact Kep.nil | apply Kep.drop rfl | apply Kep.keep rfl)) (by (try dsimp only); repeat (first | with_reducible exact Gv.nil | (with_reducible apply Gv.cons; · (repeat (first | with_reducible exact Ext.here | with_reducible apply Ext.there))))) ?_ ?_ Sub.refl ?_
          · exact Nat.zero_le _
          · (try dsimp only); exact (Wk.cons (by first | rfl | (simp only [List.length_append, List.length_cons, List.length_nil, List.length_replicate, Nat.zero_add]; rfl) | (simp; done)) Wk.nil)
          · rintro k2 hk2 K29 hK29
            simp only [List.cons_append, List.nil_append]
            refine WC_seq fun K30 hK30 => ?_
            refine WC_sr fun K31 hK31 => ?_
            refine WL_rd (Rd_move rfl) rfl rfl rfl ?_
            refine WL_rd (Rd_move rfl) rfl rfl rfl ?_
            refine WL_rd (Rd_len_sv rfl rfl ud108) rfl rfl rfl ?_
            refine WL_rd (Rd_lssN rfl rfl) rfl rfl rfl ?_
            refine WL_end hK31 ?_
            refine WC_cond rfl (fun hc4 => ?_) (fun hc4 => ?_)
            · try simp only [decide_eq_true_eq, decide_eq_false_iff_not, Bool.not_eq_true', Bool.not_eq_false', Bool.not_eq_true, Bool.not_eq_false, Int.not_lt, Int.not_le, Nat.not_lt, Nat.not_le, Decidable.not_not, ne_eq] at hc4
              refine WC_some (a := go) (by repeat (first | with_reducible exact Has.here | with_reducible refine Has.there ?_)) (by omega) (fun gb hgb hcg => ?_)
              subst hgb
              obtain ⟨q, hq⟩ : ∃ q, qs[k2]? = some q := ⟨_, List.getElem?_eq_getElem (by omega)⟩
              obtain ⟨hqj, hqa, hqc, hqn, hqm, ⟨qa, qcp, ql⟩, hpk, hea, hec, hel⟩ := hQ k2 q hq
              dsimp only at hea hec hel
              have hpb := hb _ (List.mem_of_getElem? hpk)
              dsimp only at hpb
              have hsn := Sv.star (F := FQD 42) k2 hq (Sv_FQDn (T := 42) hqa hqc)
              have hse := Sv.star (F := FQD 42) k2 hq (Sv_FQDe (T := 42) hqn hqm)
              rw [hqj] at hsn hse
              have hse' := hse
              rw [hea, hec, hel] at hse'
              refine WC_skip ?_
              refine Ps_next hK30 ?_
              refine WC_seq fun K32 hK32 => ?_
              refine WC_block ?_
              refine WC_sr fun K33 hK33 => ?_
              refine WL_rd (Rd_assign rfl) rfl rfl rfl ?_
              refine WL_end hK33 ?_
              refine WC_block ?_
              refine WC_loopK (σ := Nat) (fun i2 => [(10, .int .i64 ((i2 : Nat) : Int))]) (fun i2 => []) (fun i2 => i2 ≤ q.n + 70) (fun i2 => q.n + 70 - i2) (0) [0, 5, 9, 68, 69, 70, 71, 72, 73] (by repeat (first | exact Kep.nil | apply Kep.drop rfl | apply Kep.keep rfl)) (by (try dsimp only); repeat (first | with_reducible exact Gv.nil | (with_reducible apply Gv.cons; · (repeat (first | with_reducible exact Ext.here | with_reducible apply Ext.there))))) ?_ ?_ Sub.refl ?_
              · exact Nat.zero_le _
              · (try dsimp only); exact (Wk.cons (by first | rfl | (simp only [List.length_append, List.length_cons, List.length_nil, List.length_replicate, Nat.zero_add]; rfl) | (simp; done)) Wk.nil)
              · rintro i2 hi2 K34 hK34
                simp only [List.cons_append, List.nil_append]
                refine WC_seq fun K35 hK35 => ?_
                refine WC_sr fun K36 hK36 => ?_
                refine WL_rd (Rd_move rfl) rfl rfl rfl ?_
                refine WL_rd (Rd_move rfl) rfl rfl rfl ?_
                refine WL_rd (Rd_move rfl) rfl rfl rfl ?_
                refine WL_rd (Rd_index k2 rfl rfl ud108 sz76 (hi := by omega)) rfl rfl rfl ?_
                refine WL_rd (Rd_load_arr (f := eQI) (i := k2) (j := 0) rfl tk76 (hl := hq)) rfl rfl rfl ?_
                refine WL_rd (Rd_len rfl rfl ud76) rfl rfl rfl ?_
                refine WL_rd (Rd_lssN rfl rfl) rfl rfl rfl ?_
                refine WL_end hK36 ?_
                refine WC_cond rfl (fun hc5 => ?_) (fun hc5 => ?_)
                · try simp only [decide_eq_true_eq, decide_eq_false_iff_not, Bool.not_eq_true', Bool.not_eq_false', Bool.not_eq_true, Bool.not_eq_false, Int.not_lt, Int.not_le, Nat.not_lt, Nat.not_le, Decidable.not_not, ne_eq] at hc5
                  have hm1 := Dg_len (mkD (k2 + 1) i2)
                  have hm2 := Dg_len (mkD (k2 + 1) (0 + i2))
                  refine WC_skip ?_
                  refine Ps_next hK35 ?_
                  refine WC_seq fun K37 hK37 => ?_
                  refine WC_block ?_
                  refine WC_sr fun K38 hK38 => ?_
                  refine WL_rd (Rd_move rfl) rfl rfl rfl ?_
                  refine WL_rd (Rd_addN (j := 1) rfl rfl) rfl rfl rfl ?_
                  refine WL_rd (Rd_move rfl) rfl rfl rfl ?_
                  refine WL_ac (Ac_call cf125 rfl (hs := markD_ct (k := k2 + 1) (i := i2))) rfl rfl rfl ?_
                  rintro _ _ ⟨⟨⟩, rfl, hA⟩
                  simp only [List.cons_append, List.nil_append] at hA
                  replace hA := hA.symm
                  subst hA
                  refine WL_ac (Ac_allocW (k := .u8) (w := 8) (m := 32) zr42) rfl rfl rfl ?_
                  rintro _ _ ⟨b11, rfl, rfl⟩
                  refine WL_ac0 (Ac_storeW rfl rfl sz42) rfl rfl ?_
                  rintro _ _ rfl
                  refine WL_end hK38 ?_
                  refine WC_seq fun K39 hK39 => ?_
                  refine WC_drawA mix (fun i => ([2, 2, 2, 2, 2, 2, 2, 2, 2, 2, 2, 2, 2, 2, 2, 2, 2, 2, 2, 2, 2, 2, 2, 2, 2, 2, 2, 2, 2] : List Nat).getD i 0) ?_
                  refine WJ_takeP 0 rfl (by kernel_rfl) (Rd_move rfl) rfl rfl rfl (hp _ _) ?_
                  refine WJ_takeP 1 rfl (by kernel_rfl) (Rd_move rfl) rfl rfl rfl (hp _ _) ?_
                  refine WJ_takeP 2 rfl (by kernel_rfl) (Rd_index k2 rfl rfl ud108 sz76 (hi := by omega)) rfl rfl rfl (hp _ _) ?_
                  refine WJ_tk 3 (Rd_load_arr (f := eQI) (i := k2) (j := 0) rfl tk76 (hl := hq)) hp ?_ rfl (by kernel_rfl) rfl rfl rfl
                  refine WJ_takeP 4 rfl (by kernel_rfl) (Rd_move rfl) rfl rfl rfl (hp _ _) ?_
                  refine WJ_takeP 5 rfl (by kernel_rfl) (Rd_index_sv i2 rfl rfl ud76 sz42 (hA := hsn) (hi := by rw [mks_len]; omega)) rfl rfl rfl (hp _ _) ?_
                  refine WJ_tk 6 (Rd_aU (k := .u8) (l := (mkD (k2 + 1) (0 + i2)).1) (Rd_loadg_sv (i := i2) rfl tk42 (hA := hsn) (hl := mks_at (by omega))) rfl) hp ?_ rfl (by kernel_rfl) rfl rfl rfl
                  refine WJ_tk 7 (Rd_loadW rfl tk42) hp ?_ rfl (by kernel_rfl) rfl rfl rfl
                  refine WJ_takeP 8 rfl (by kernel_rfl) (Rd_isF (Rd_neW rfl rfl ais42)) rfl rfl rfl (hp _ _) ?_
                  refine WJ_takeP 9 rfl (by kernel_rfl) (Rd_move rfl) rfl rfl rfl (hp _ _) ?_
                  refine WJ_takeP 10 rfl (by kernel_rfl) (Rd_move rfl) rfl rfl rfl (hp _ _) ?_
                  refine WJ_takeP 11 rfl (by kernel_rfl) (Rd_move rfl) rfl rfl rfl (hp _ _) ?_
                  refine WJ_takeP 12 rfl (by kernel_rfl) (Rd_move rfl) rfl rfl rfl (hp _ _) ?_
                  refine WJ_takeP 13 rfl (by kernel_rfl) (Rd_index_sv k2 rfl rfl ud108 sz76 (hA := hS) (hi := by omega)) rfl rfl rfl (hp _ _) ?_
                  refine WJ_tk 14 (Rd_load_sv (i := k2) (j := 0) (u := sl qa ql.length qcp) rfl tk76 (hA := hS) (hl := hpk)) hp ?_ rfl (by kernel_rfl) rfl rfl rfl
                  refine WJ_takeP 15 rfl (by kernel_rfl) (Rd_len rfl rfl ud76) rfl rfl rfl (hp _ _) ?_
                  refine WJ_takeP 16 rfl (by kernel_rfl) (Rd_lssN rfl rfl) rfl rfl rfl (hp _ _) ?_
                  refine WJ_takeP 17 rfl (by kernel_rfl) (Rd_move rfl) rfl rfl rfl (hp _ _) ?_
                  refine WJ_bool 104 rfl (fun hg40 => ?_) (fun hg40 => ?_)
                  · try simp only [decide_eq_true_eq, decide_eq_false_iff_not, Bool.not_eq_true', Bool.not_eq_false', Bool.not_eq_true, Bool.not_eq_false, Int.not_lt, Int.not_le, Nat.not_lt, Nat.not_le, Decidable.not_not, ne_eq] at hg40
                    refine WJ_takeP 18 rfl (by kernel_rfl) (Rd_move rfl) rfl rfl rfl (hp _ _) ?_
                    refine WJ_takeP 19 rfl (by kernel_rfl) (Rd_move rfl) rfl rfl rfl (hp _ _) ?_
                    refine WJ_takeP 20 rfl (by kernel_rfl) (Rd_index_sv k2 rfl rfl ud108 sz76 (hA := hS) (hi := by omega)) rfl rfl rfl (hp _ _) ?_
                    refine WJ_tk 21 (Rd_load_sv (i := k2) (j := 0) (u := sl qa ql.length qcp) rfl tk76 (hA := hS) (hl := hpk)) hp ?_ rfl (by kernel_rfl) rfl rfl rfl
                    refine WJ_takeP 22 rfl (by kernel_rfl) (Rd_move rfl) rfl rfl rfl (hp _ _) ?_
                    refine WJ_takeP 23 rfl (by kernel_rfl) (Rd_index_sv i2 rfl rfl ud76 sz42 (hA := hse') (hi := by rw [mks_len]; omega)) rfl rfl rfl (hp _ _) ?_
                    refine WJ_tk 24 (Rd_aU (k := .u8) (l := (mkD (k2 + 1) (0 + i2)).1) (Rd_loadg_sv (i := i2) rfl tk42 (hA := hse') (hl := mks_at (by omega))) rfl) hp ?_ rfl (by kernel_rfl) rfl rfl rfl
                    refine WJ_tk 25 (Rd_loadW rfl tk42) hp ?_ rfl (by kernel_rfl) rfl rfl rfl
                    refine WJ_takeP 26 rfl (by kernel_rfl) (Rd_isF (Rd_neW rfl rfl ais42)) rfl rfl rfl (hp _ _) ?_
                    refine WJ_takeP 27 rfl (by kernel_rfl) (Rd_pickT rfl rfl) rfl rfl rfl (hp _ _) ?_
                    refine WJ_takeP 28 rfl (by kernel_rfl) (Rd_pickF rfl rfl) rfl rfl rfl (hp _ _) ?_
                    refine WJ_done (by kernel_rfl) ?_
                    refine Ps_next hK39 ?_
                    refine WC_condF rfl ?_
                    refine WC_skip ?_
                    refine Ps_next hK37 ?_
                    refine WC_region ?_
                    refine WL_rd (Rd_move rfl) rfl rfl rfl ?_
                    refine WL_rd (Rd_addN (j := 1) rfl rfl) rfl rfl rfl ?_
                    refine WL_rd (Rd_assign rfl) rfl rfl rfl ?_
                    refine WL_nil ?_
                    refine Ps_wk (by (try simp only [List.cons_append, List.nil_append]); repeat (first | with_reducible exact Wk.nil | refine Wk.cons (by first | rfl | (simp only [List.length_append, List.length_cons, List.length_nil, List.length_replicate, Nat.zero_add]; rfl) | (simp; done)) ?_)) (by (try simp only [List.cons_append, List.nil_append]); repeat (first | with_reducible exact Sub.refl | with_reducible exact Sub.nil | with_reducible refine Sub.cons (by repeat (first | with_reducible exact Ext.here | with_reducible apply Ext.there)) ?_ | with_reducible refine Sub.tail ?_)) (hK34 (i2 + 1) (by omega) (by omega))
                  · try simp only [decide_eq_true_eq, decide_eq_false_iff_not, Bool.not_eq_true', Bool.not_eq_false', Bool.not_eq_true, Bool.not_eq_false, Int.not_lt, Int.not_le, Nat.not_lt, Nat.not_le, Decidable.not_not, ne_eq] at hg40
                    refine WJ_skip 18 rfl (by kernel_rfl) rfl rfl rfl (hp _ _) ?_
                    refine WJ_skip 19 rfl (by kernel_rfl) rfl rfl rfl (hp _ _) ?_
                    refine WJ_skip 20 rfl (by kernel_rfl) rfl rfl rfl (hp _ _) ?_
                    refine WJ_skip 21 rfl (by kernel_rfl) rfl rfl rfl (hp _ _) ?_
                    refine WJ_skip 22 rfl (by kernel_rfl) rfl rfl rfl (hp _ _) ?_
                    refine WJ_skip 23 rfl (by kernel_rfl) rfl rfl rfl (hp _ _) ?_
                    refine WJ_skip 24 rfl (by kernel_rfl) rfl rfl rfl (hp _ _) ?_
                    refine WJ_skip 25 rfl (by kernel_rfl) rfl rfl rfl (hp _ _) ?_
                    refine WJ_skip 26 rfl (by kernel_rfl) rfl rfl rfl (hp _ _) ?_
                    refine WJ_takeP 27 rfl (by kernel_rfl) (Rd_pickF rfl rfl) rfl rfl rfl (hp _ _) ?_
                    refine WJ_takeP 28 rfl (by kernel_rfl) (Rd_pickF rfl rfl) rfl rfl rfl (hp _ _) ?_
                    refine WJ_done (by kernel_rfl) ?_
                    refine Ps_next hK39 ?_
                    refine WC_condF rfl ?_
                    refine WC_skip ?_
                    refine Ps_next hK37 ?_
                    refine WC_region ?_
                    refine WL_rd (Rd_move rfl) rfl rfl rfl ?_
                    refine WL_rd (Rd_addN (j := 1) rfl rfl) rfl rfl rfl ?_
                    refine WL_rd (Rd_assign rfl) rfl rfl rfl ?_
                    refine WL_nil ?_
                    refine Ps_wk (by (try simp only [List.cons_append, List.nil_append]); repeat (first | with_reducible exact Wk.nil | refine Wk.cons (by first | rfl | (simp only [List.length_append, List.length_cons, List.length_nil, List.length_replicate, Nat.zero_add]; rfl) | (simp; done)) ?_)) (by (try simp only [List.cons_append, List.nil_append]); repeat (first | with_reducible exact Sub.refl | with_reducible exact Sub.nil | with_reducible refine Sub.cons (by repeat (first | with_reducible exact Ext.here | with_reducible apply Ext.there)) ?_ | with_reducible refine Sub.tail ?_)) (hK34 (i2 + 1) (by omega) (by omega))
                · try simp only [decide_eq_true_eq, decide_eq_false_iff_not, Bool.not_eq_true', Bool.not_eq_false', Bool.not_eq_true, Bool.not_eq_false, Int.not_lt, Int.not_le, Nat.not_lt, Nat.not_le, Decidable.not_not, ne_eq] at hc5
                  refine WC_exit ?_
                  refine Ps_next hK32 ?_
                  refine WC_region ?_
                  refine WL_rd (Rd_move rfl) rfl rfl rfl ?_
                  refine WL_rd (Rd_addN (j := 1) rfl rfl) rfl rfl rfl ?_
                  refine WL_rd (Rd_assign rfl) rfl rfl rfl ?_
                  refine WL_nil ?_
                  refine Ps_wk (by (try simp only [List.cons_append, List.nil_append]); repeat (first | with_reducible exact Wk.nil | refine Wk.cons (by first | rfl | (simp only [List.length_append, List.length_cons, List.length_nil, List.length_replicate, Nat.zero_add]; rfl) | (simp; done)) ?_)) (by (try simp only [List.cons_append, List.nil_append]); repeat (first | with_reducible exact Sub.refl | with_reducible exact Sub.nil | with_reducible refine Sub.cons (by repeat (first | with_reducible exact Ext.here | with_reducible apply Ext.there)) ?_ | with_reducible refine Sub.tail ?_)) (hK29 (k2 + 1) (by omega) (by omega))
            · try simp only [decide_eq_true_eq, decide_eq_false_iff_not, Bool.not_eq_true', Bool.not_eq_false', Bool.not_eq_true, Bool.not_eq_false, Int.not_lt, Int.not_le, Nat.not_lt, Nat.not_le, Decidable.not_not, ne_eq] at hc4
              refine WC_exit ?_
              refine Ps_next hK27 ?_
              refine WC_sr fun K41 hK41 => ?_
              refine WL_rd (Rd_assign rfl) rfl rfl rfl ?_
              refine WL_end hK41 ?_
              refine WC_ret ?_
              exact hret.go () (Rs1 rfl rfl)
end Go.Proofs.Ythkchjcodibaeaa
