/-
  Contracts of functions that the claim reaches, or the logic and the plain laws that they rest on, or the row over them. (Conditions: none beyond the statement.)
-/
import Derived.Test.YtcookmkklcbbnaaHqLieB
set_option linter.all false
namespace Go.Proofs.Ytcookmkklcbbnaa
open Go.RowKit Go.SL Go.HpM Go.ShM 
set_option maxHeartbeats 1000000
set_option maxRecDepth 20000
set_option linter.all false
theorem cf18 : cfn Try.prog 18 = true := by kernel_rfl
theorem cf31 : cfn Try.prog 31 = true := by kernel_rfl
theorem cf32 : cfn Try.prog 32 = true := by kernel_rfl
theorem el4 : el Try.prog 4 = some (1, 1) := by kernel_rfl
theorem zr4 : zr Try.prog 4 = some [.bool false] := by kernel_rfl
theorem Lies_ct {X : Asn} {v v' : Value} {l : List Int} {tells : List Bool} {ao ao' : Option Addr} {cap cap' : Nat} {v2 : Value} {ds : List Int} {ao2 : Option Addr} {cap2 : Nat} (hS : Sv [X] v 1 (eInt .i64) l ao cap := by assumption) (hT : Sv [X] v' 1 eBool tells ao' cap' := by assumption) (hl : l.length ≤ 1048576 := by omega) (hD : Sv [X] v2 1 (eInt .i64) ds ao2 cap2) (hd : ds.length ≤ 1048576) : Ct Try.prog 7 [v, v', v2] [X] (fun _ : Unit => .bool true) (fun _ => [X]) := by
  refine Ct_body (n := 203) Try.func7 rfl rfl rfl fun F w0 Q hret hnorm hp => ?_
  change WC _ _ _ _ _ _ _ (_ :: F)
  refine WC_sr fun K1 hK1 => ?_
  refine WL_ac (Ac_box (xs := [v]) rfl (by rw [hS.val]; rfl)) rfl rfl rfl ?_
  rintro _ _ ⟨bl, rfl, rfl⟩
  refine WL_ac (Ac_box (xs := [v']) rfl (by rw [hT.val]; rfl)) rfl rfl rfl ?_
  rintro _ _ ⟨bt, rfl, rfl⟩
  refine WL_rd (Rd_assign rfl) rfl rfl rfl ?_
  refine WL_end hK1 ?_
  refine WC_seq fun K2 hK2 => ?_
  refine WC_sr fun K3 hK3 => ?_
  refine WL_ac (Ac_call cf12 rfl (hs := lives_ct)) rfl rfl rfl ?_
  rintro _ _ ⟨⟨⟩, rfl, hA⟩
  simp only [List.cons_append, List.nil_append] at hA
  replace hA := hA.symm
  subst hA
  refine WL_rd (Rd_not rfl) rfl rfl rfl ?_
  refine WL_end hK3 ?_
  refine WC_condF rfl ?_
  refine WC_skip ?_
  refine Ps_next hK2 ?_
  refine WC_sr fun K4 hK4 => ?_
  refine WL_ac (Ac_alloc zr3) rfl rfl rfl ?_
  rintro _ _ ⟨ba, rfl, rfl⟩
  refine WL_ac0 (Ac_store1 rfl rfl sz3) rfl rfl ?_
  rintro _ _ rfl
  refine WL_end hK4 ?_
  refine WC_sr fun K5 hK5 => ?_
  refine WL_ac (Ac_alloc zr4) rfl rfl rfl ?_
  rintro _ _ ⟨bs, rfl, rfl⟩
  refine WL_ac0 (Ac_store1 rfl rfl sz4) rfl rfl ?_
  rintro _ _ rfl
  refine WL_end hK5 ?_
  refine WC_sr fun K6 hK6 => ?_
  refine WL_rd (Rd_makeFunc rfl rfl) rfl rfl rfl ?_
  refine WL_rd (Rd_assign rfl) rfl rfl rfl ?_
  refine WL_end hK6 ?_
  refine WC_sr fun K7 hK7 => ?_
  refine WL_rd (Rd_move rfl) rfl rfl rfl ?_
  refine WL_ac (Ac_call cf24 rfl (hs := hL_new_hp (lf := 29) (caps := (caL bl bs ba bt)))) rfl rfl rfl ?_
  rintro _ _ ⟨hb, rfl, hA⟩
  simp only [List.cons_append, List.nil_append] at hA
  replace hA := hA.symm
  subst hA
  refine WL_rd (Rd_move rfl) rfl rfl rfl ?_
  refine WL_rd (Rd_ext0 rfl) rfl rfl rfl ?_
  refine WL_rd (Rd_ext1 rfl) rfl rfl rfl ?_
  refine WL_rd (Rd_assign rfl) rfl rfl rfl ?_
  refine WL_rd (Rd_assign rfl) rfl rfl rfl ?_
  refine WL_end hK7 ?_
  refine WC_sr fun K8 hK8 => ?_
  refine WL_rd (Rd_load rfl tk46 (v := v)) rfl rfl rfl ?_
  refine WL_rd (Rd_move rfl) rfl rfl rfl ?_
  rw [show cl ba 3 [.int .i64 0] = cl ba 3 [.int .i64 ((((0 : Nat), false).1 : Nat) : Int)] from rfl]
  rw [show cl bs 4 [.bool false] = cl bs 4 [.bool ((0 : Nat), false).2] from rfl]
  refine WL_pk0 ?_
  refine WL_pull (X) ?_
  refine WL_pull (cl bs 4 [.bool ((0 : Nat), false).2]) ?_
  refine WL_pull (cl ba 3 [.int .i64 ((((0 : Nat), false).1 : Nat) : Int)]) ?_
  refine WL_pull (cl bt 65 [v']) ?_
  refine WL_pull (cl bl 46 [v]) ?_
  rw [show sep [cl bl 46 [v], cl bt 65 [v'], cl ba 3 [.int .i64 ((((0 : Nat), false).1 : Nat) : Int)], cl bs 4 [.bool ((0 : Nat), false).2], X] = JL bl bs ba bt v v' X ((0 : Nat), false) from rfl]
  have hSJ : ∀ s, Sv [JL bl bs ba bt v v' X s] v 1 (eInt .i64) l ao cap := fun s => hS.pk (Xs := [cl bl 46 [v], cl bt 65 [v'], cl ba 3 [.int .i64 ((s.1 : Nat) : Int)], cl bs 4 [.bool s.2], X]) (by repeat (first | with_reducible exact Has.here | with_reducible refine Has.there ?_))
  refine WL_ac (Ac_call cf18 rfl (hs := lSorted_ct hcfL (hlessL hS hT hl) lie_cost (v := v) (l := l) (s := ((0 : Nat), false)) (k := 0) (hSJ := hSJ) (KQ := (lie_keeps (l := l) (tells := tells))) (hQc := fun _ _ h => lieQ_cost h) (hP := (fun x hx => cnt_mem hx)) (hq := ⟨Nat.le_refl _, rfl⟩) (hB := by omega) (hl := hl))) rfl rfl rfl ?_
  rintro _ _ ⟨⟨gs, hgp, hgq⟩, rfl, hA⟩
  simp only [List.cons_append, List.nil_append] at hA
  replace hA := hA.symm
  subst hA
  have hgl := hgp.length_eq
  rw [Nat.zero_add] at hgq
  dsimp only
  rw [show JL bl bs ba bt v v' X gs.2.2 = sep [cl bl 46 [v], cl bt 65 [v'], cl ba 3 [.int .i64 ((gs.2.2.1 : Nat) : Int)], cl bs 4 [.bool gs.2.2.2], X] from rfl]
  refine WL_unpk [cl bl 46 [v], cl bt 65 [v'], cl ba 3 [.int .i64 ((gs.2.2.1 : Nat) : Int)], cl bs 4 [.bool gs.2.2.2], X] ?_
  simp only [List.cons_append, List.nil_append]
  refine WL_rd (Rd_move rfl) rfl rfl rfl ?_
  refine WL_rd (Rd_ext0 rfl) rfl rfl rfl ?_
  refine WL_rd (Rd_ext1 rfl) rfl rfl rfl ?_
  refine WL_rd (Rd_assign rfl) rfl rfl rfl ?_
  refine WL_rd (Rd_assign rfl) rfl rfl rfl ?_
  refine WL_end hK8 ?_
  refine WC_seq fun K9 hK9 => ?_
  refine WC_sr fun K10 hK10 => ?_
  refine WL_rd (Rd_move rfl) rfl rfl rfl ?_
  refine WL_rd (Rd_neqN (i := 0) (j := 0) rfl rfl) rfl rfl rfl ?_
  refine WL_rd (Rd_move rfl) rfl rfl rfl ?_
  refine WL_rd (Rd_move rfl) rfl rfl rfl ?_
  refine WL_rd (Rd_neqN (i := 0) (j := 0) rfl rfl) rfl rfl rfl ?_
  refine WL_rd (Rd_pickF rfl rfl) rfl rfl rfl ?_
  refine WL_rd (Rd_move rfl) rfl rfl rfl ?_
  refine WL_rd (Rd_move rfl) rfl rfl rfl ?_
  refine WL_rd (Rd_peq rfl rfl ud55) rfl rfl rfl ?_
  refine WL_rd (Rd_pickF rfl rfl) rfl rfl rfl ?_
  refine WL_rd (Rd_move rfl) rfl rfl rfl ?_
  refine WL_rd (Rd_move rfl) rfl rfl rfl ?_
  refine WL_rd (Rd_len rfl rfl ud46) rfl rfl rfl ?_
  refine WL_rd (Rd_load rfl tk46 (v := v)) rfl rfl rfl ?_
  refine WL_rd (Rd_len_sv rfl rfl ud46 (hA := hS)) rfl rfl rfl ?_
  refine WL_rd (Rd_isF (Rd_neqN rfl rfl)) rfl rfl rfl ?_
  refine WL_rd (Rd_pickF rfl rfl) rfl rfl rfl ?_
  refine WL_end hK10 ?_
  refine WC_condF rfl ?_
  refine WC_skip ?_
  refine Ps_next hK9 ?_
  refine WC_seq fun K11 hK11 => ?_
  refine WC_sr fun K12 hK12 => ?_
  refine WL_rd (Rd_assign rfl) rfl rfl rfl ?_
  refine WL_end hK12 ?_
  refine WC_block ?_
  refine WC_loopK (σ := Nat × (List (Nat × Int)) × (Nat × Bool)) (fun ⟨i', rows, s1⟩ => [(14, .int .i64 ((i' : Nat) : Int))]) (fun ⟨i', rows, s1⟩ => [hL_hpA (.func (.func 29) #[] (caL bl bs ba bt).toArray) hb rows i', cl ba 3 [.int .i64 ((s1.1 : Nat) : Int)], cl bs 4 [.bool s1.2]]) (fun ⟨i', rows, s1⟩ => i' ≤ l.length ∧ rows.Perm (rowsI (l.take i')) ∧ lieQ (16777216 * l.length + 8388608 * i') s1) (fun ⟨i', rows, s1⟩ => l.length - i') ⟨0, [], gs.2.2⟩ [2, 3, 8, 10, 12, 17, 18, 19, 20, 21, 22, 23, 24, 25, 26, 87, 88, 89, 90, 91, 92, 93, 94, 95, 96, 97, 98, 99, 100, 101, 102, 103, 104, 105, 106, 107, 108, 109, 110, 111, 112, 113, 114, 115, 116, 117, 118, 119, 120, 121, 122, 123, 124, 125, 126, 127, 128, 129, 130, 131, 132, 133, 134, 135, 136, 137, 138, 139, 140, 141, 142, 143, 144, 145, 146, 147, 148, 149, 150, 151, 152, 153, 154, 155, 156, 157, 158, 159, 160, 161, 162, 163, 164, 165, 166, 167, 168, 169, 170, 171, 172, 173, 174, 175, 176, 177, 178, 179, 180, 181, 182, 183, 184, 185, 186, 187, 188, 189, 190, 191, 192, 193, 194, 195, 196, 197, 198, 199, 200, 201, 202] (by repeat (first | exact Kep.nil | apply Kep.drop rfl | apply Kep.keep rfl)) (by (try dsimp only); repeat (first | with_reducible exact Gv.nil | (with_reducible apply Gv.cons; · (repeat (first | with_reducible exact Ext.here | with_reducible apply Ext.there))))) ?_ ?_ Sub.refl ?_
  · exact ⟨Nat.zero_le _, List.Perm.refl _, hgq⟩
  · (try dsimp only); exact (Wk.cons (by first | rfl | (simp only [List.length_append, List.length_cons, List.length_nil, List.length_replicate, Nat.zero_add]; rfl) | (simp; done)) Wk.nil)
  · rintro ⟨i', rows, s1⟩ ⟨hi, hpm, hq1⟩ K13 hK13
    simp only [List.cons_append, List.nil_append]
    have hpl := hpm.length_eq
    rw [rowsI_len, List.length_take] at hpl
    have hcs : lieC s1 ≤ _ := hq1.1
    refine WC_seq fun K14 hK14 => ?_
    refine WC_sr fun K15 hK15 => ?_
    refine WL_rd (Rd_move rfl) rfl rfl rfl ?_
    refine WL_rd (Rd_load rfl tk46 (v := v)) rfl rfl rfl ?_
    refine WL_rd (Rd_len_sv rfl rfl ud46 (hA := hS)) rfl rfl rfl ?_
    refine WL_rd (Rd_lssN rfl rfl) rfl rfl rfl ?_
    refine WL_end hK15 ?_
    refine WC_cond rfl (fun hc2 => ?_) (fun hc2 => ?_)
    · try simp only [decide_eq_true_eq, decide_eq_false_iff_not, Bool.not_eq_true', Bool.not_eq_false', Bool.not_eq_true, Bool.not_eq_false, Int.not_lt, Int.not_le, Nat.not_lt, Nat.not_le, Decidable.not_not, ne_eq] at hc2
      obtain ⟨x, hx⟩ := at_x (l := l) (i := i') (by omega)
      refine WC_skip ?_
      refine Ps_next hK14 ?_
      refine WC_seq fun K16 hK16 => ?_
      refine WC_block ?_
      refine WC_sr fun K17 hK17 => ?_
      refine WL_rd (Rd_move rfl) rfl rfl rfl ?_
      refine WL_rd (Rd_load rfl tk46 (v := v)) rfl rfl rfl ?_
      refine WL_rd (Rd_move rfl) rfl rfl rfl ?_
      refine WL_rd (Rd_index_sv i' rfl rfl ud46 sz3 (hA := hS) (hi := by omega)) rfl rfl rfl ?_
      refine WL_rd (Rd_load_sv (i := i') (j := 0) rfl tk3 (hA := hS) (hl := hx)) rfl rfl rfl ?_
      refine WL_pk0 ?_
      refine WL_pull (X) ?_
      refine WL_pull (cl bs 4 [.bool s1.2]) ?_
      refine WL_pull (cl ba 3 [.int .i64 ((s1.1 : Nat) : Int)]) ?_
      refine WL_pull (cl bt 65 [v']) ?_
      refine WL_pull (cl bl 46 [v]) ?_
      rw [show sep [cl bl 46 [v], cl bt 65 [v'], cl ba 3 [.int .i64 ((s1.1 : Nat) : Int)], cl bs 4 [.bool s1.2], X] = JL bl bs ba bt v v' X s1 from rfl]
      refine WL_ac (Ac_call cf25 rfl (hs := hL_push_hp hcfL (hlessL hS hT hl) lie_cost (b := hb) (s := s1) (rows := rows) (made := i') (x := x))) rfl rfl rfl ?_
      rintro _ _ ⟨⟨⟩, rfl, hA⟩
      simp only [List.cons_append, List.nil_append] at hA
      replace hA := hA.symm
      subst hA
      have hpl2 : (pushM (lieM l tells) s1 rows i' x).1.length = rows.length + 1 := by rw [(pushM_perm _ _ _ _ _).length_eq]; simp
      rw [show JL bl bs ba bt v v' X (pushM (lieM l tells) s1 rows i' x).2 = sep [cl bl 46 [v], cl bt 65 [v'], cl ba 3 [.int .i64 (((pushM (lieM l tells) s1 rows i' x).2.1 : Nat) : Int)], cl bs 4 [.bool (pushM (lieM l tells) s1 rows i' x).2.2], X] from rfl]
      refine WL_unpk [cl bl 46 [v], cl bt 65 [v'], cl ba 3 [.int .i64 (((pushM (lieM l tells) s1 rows i' x).2.1 : Nat) : Int)], cl bs 4 [.bool (pushM (lieM l tells) s1 rows i' x).2.2], X] ?_
      simp only [List.cons_append, List.nil_append]
      refine WL_rd (Rd_move rfl) rfl rfl rfl ?_
      refine WL_rd (Rd_ext0 rfl) rfl rfl rfl ?_
      refine WL_rd (Rd_ext1 rfl) rfl rfl rfl ?_
      refine WL_rd (Rd_assign rfl) rfl rfl rfl ?_
      refine WL_rd (Rd_assign rfl) rfl rfl rfl ?_
      refine WL_end hK17 ?_
      refine WC_sr fun K18 hK18 => ?_
      refine WL_rd (Rd_move rfl) rfl rfl rfl ?_
      refine WL_rd (Rd_neqN (i := 0) (j := 0) rfl rfl) rfl rfl rfl ?_
      refine WL_rd (Rd_move rfl) rfl rfl rfl ?_
      refine WL_rd (Rd_move rfl) rfl rfl rfl ?_
      refine WL_rd (Rd_move rfl) rfl rfl rfl ?_
      refine WL_rd (Rd_isF (Rd_neqN rfl rfl)) rfl rfl rfl ?_
      refine WL_rd (Rd_pickF rfl rfl) rfl rfl rfl ?_
      refine WL_rd (Rd_move rfl) rfl rfl rfl ?_
      refine WL_rd (Rd_move rfl) rfl rfl rfl ?_
      refine WL_ac (Ac_call cf27 rfl (hs := hL_len_hp (b := hb) (lf := 29) (caps := (caL bl bs ba bt)))) rfl rfl rfl ?_
      rintro _ _ ⟨⟨⟩, rfl, hA⟩
      simp only [List.cons_append, List.nil_append] at hA
      replace hA := hA.symm
      subst hA
      refine WL_rd (Rd_move rfl) rfl rfl rfl ?_
      refine WL_rd (Rd_addN (j := 1) rfl rfl) rfl rfl rfl ?_
      refine WL_rd (Rd_isF (Rd_neqN rfl rfl)) rfl rfl rfl ?_
      refine WL_rd (Rd_pickF rfl rfl) rfl rfl rfl ?_
      refine WL_end hK18 ?_
      refine WC_condF rfl ?_
      refine WC_skip ?_
      refine Ps_next hK16 ?_
      refine WC_region ?_
      refine WL_rd (Rd_move rfl) rfl rfl rfl ?_
      refine WL_rd (Rd_addN (j := 1) rfl rfl) rfl rfl rfl ?_
      refine WL_rd (Rd_assign rfl) rfl rfl rfl ?_
      refine WL_nil ?_
      refine Ps_wk (by (try simp only [List.cons_append, List.nil_append]); repeat (first | with_reducible exact Wk.nil | refine Wk.cons (by first | rfl | (simp only [List.length_append, List.length_cons, List.length_nil, List.length_replicate, Nat.zero_add]; rfl) | (simp; done)) ?_)) (by (try simp only [List.cons_append, List.nil_append]); repeat (first | with_reducible exact Sub.refl | with_reducible exact Sub.nil | with_reducible refine Sub.cons (by repeat (first | with_reducible exact Ext.here | with_reducible apply Ext.there)) ?_ | with_reducible refine Sub.tail ?_)) (hK13 ⟨i' + 1, (pushM (lieM l tells) s1 rows i' x).1, (pushM (lieM l tells) s1 rows i' x).2⟩ (⟨by (try dsimp only); omega, by (try dsimp only); rw [← rowsI_snoc hx]; exact (pushM_perm _ _ _ _ _).trans (List.Perm.append_right _ hpm), (lie_keeps (l := l) (tells := tells)).mono _ _ _ (by omega) (pushM_keeps (lie_keeps (l := l) (tells := tells)) (all_take (fun x hx => cnt_mem hx) hpm) (cnt_mem (List.mem_of_getElem? hx)) hq1)⟩) (by (try dsimp only); omega))
    · try simp only [decide_eq_true_eq, decide_eq_false_iff_not, Bool.not_eq_true', Bool.not_eq_false', Bool.not_eq_true, Bool.not_eq_false, Int.not_lt, Int.not_le, Nat.not_lt, Nat.not_le, Decidable.not_not, ne_eq] at hc2
      obtain rfl : i' = l.length := by omega
      rw [List.take_length] at hpm
      refine WC_exit ?_
      refine Ps_next hK11 ?_
      refine WC_sr fun K19 hK19 => ?_
      refine WL_rd (Rd_assign (v := sl none 0 0) rfl) rfl rfl rfl ?_
      refine WL_nilarr (eInt .i64) 1 3 ?_
      refine WL_end hK19 ?_
      refine WC_sr fun K20 hK20 => ?_
      refine WL_rd (Rd_load rfl tk46 (v := v)) rfl rfl rfl ?_
      refine WL_rd (Rd_len_sv rfl rfl ud46 (hA := hS)) rfl rfl rfl ?_
      refine WL_rd (Rd_addN (j := 1) rfl rfl) rfl rfl rfl ?_
      refine WL_ac (Ac_make (f := eBool) enc_bool false (l := l.length + 1) (c := l.length + 1) rfl rfl ud65 el4 zr4) rfl rfl rfl ?_
      rintro _ _ ⟨b90, rfl, rfl⟩
      refine WL_rd (Rd_assign rfl) rfl rfl rfl ?_
      refine WL_end hK20 ?_
      refine WC_seq fun K21 hK21 => ?_
      refine WC_sr fun K22 hK22 => ?_
      refine WL_rd (Rd_assign rfl) rfl rfl rfl ?_
      refine WL_end hK22 ?_
      refine WC_block ?_
      rw [show arr none 0 1 3 (eInt .i64) ([] : List Int) = arr none 0 1 3 (eInt .i64) (([] : List (Nat × Int)).map (·.2)) from rfl]
      refine WC_loopK (σ := Nat × (List (Nat × Int)) × (Nat × Bool) × (List (Nat × Int)) × (Option Nat) × Nat × (List Bool)) (fun ⟨j, rows2, s2, out, a2, c2, gn⟩ => [(17, sl a2 (out.map (·.2)).length c2), (19, .int .i64 ((j : Nat) : Int))]) (fun ⟨j, rows2, s2, out, a2, c2, gn⟩ => [hL_hpA (.func (.func 29) #[] (caL bl bs ba bt).toArray) hb rows2 l.length, cl ba 3 [.int .i64 ((s2.1 : Nat) : Int)], cl bs 4 [.bool s2.2], arr a2 c2 1 3 (eInt .i64) (out.map (·.2)), arr (some b90) (l.length + 1) 1 4 eBool gn]) (fun ⟨j, rows2, s2, out, a2, c2, gn⟩ => j ≤ ds.length ∧ (out ++ rows2).Perm (rowsI l) ∧ lieQ (25165824 * l.length + 8388608 * j) s2 ∧ GO l.length rows2 gn) (fun ⟨j, rows2, s2, out, a2, c2, gn⟩ => ds.length - j) ⟨0, rows, s1, [], none, 0, List.replicate (l.length + 1) false⟩ [2, 3, 8, 10, 12, 18, 23, 24, 25, 26, 140, 141, 142, 143, 144, 145, 146, 147, 148, 149, 150, 151, 152, 153, 154, 155, 156, 157, 158, 159, 160, 161, 162, 163, 164, 165, 166, 167, 168, 169, 170, 171, 172, 173, 174, 175, 176, 177, 178, 179, 180, 181, 182, 183, 184, 185, 186, 187, 188, 189, 190, 191, 192, 193, 194, 195, 196, 197, 198, 199, 200, 201, 202] (by repeat (first | exact Kep.nil | apply Kep.drop rfl | apply Kep.keep rfl)) (by (try dsimp only); repeat (first | with_reducible exact Gv.nil | (with_reducible apply Gv.cons; · (repeat (first | with_reducible exact Ext.here | with_reducible apply Ext.there))))) ?_ ?_ Sub.refl ?_
      · exact ⟨Nat.zero_le _, hpm, (lie_keeps (l := l) (tells := tells)).mono _ _ _ (by omega) hq1, GO_0 hpm⟩
      · (try dsimp only); exact (Wk.cons (by first | rfl | (simp only [List.length_append, List.length_cons, List.length_nil, List.length_replicate, Nat.zero_add]; rfl) | (simp; done)) (Wk.cons (by first | rfl | (simp only [List.length_append, List.length_cons, List.length_nil, List.length_replicate, Nat.zero_add]; rfl) | (simp; done)) Wk.nil))
      · rintro ⟨j, rows2, s2, out, a2, c2, gn⟩ ⟨hj, hO, hq2, hG⟩ K23 hK23
        simp only [List.cons_append, List.nil_append]
        have hol := out_len hO
        have hml : (out.map (·.2)).length = out.length := List.length_map _
        have hcs : lieC s2 ≤ _ := hq2.1
        have hgn := hG.1
        refine WC_seq fun K24 hK24 => ?_
        refine WC_sr fun K25 hK25 => ?_
        refine WL_rd (Rd_move rfl) rfl rfl rfl ?_
        refine WL_rd (Rd_move rfl) rfl rfl rfl ?_
        refine WL_rd (Rd_len_sv rfl rfl ud46 (hA := hD)) rfl rfl rfl ?_
        refine WL_rd (Rd_lssN rfl rfl) rfl rfl rfl ?_
        refine WL_end hK25 ?_
        refine WC_cond rfl (fun hc4 => ?_) (fun hc4 => ?_)
        · try simp only [decide_eq_true_eq, decide_eq_false_iff_not, Bool.not_eq_true', Bool.not_eq_false', Bool.not_eq_true, Bool.not_eq_false, Int.not_lt, Int.not_le, Nat.not_lt, Nat.not_le, Decidable.not_not, ne_eq] at hc4
          obtain ⟨dj, hdj⟩ := at_x (l := ds) (i := j) (by omega)
          refine WC_skip ?_
          refine Ps_next hK24 ?_
          refine WC_seq fun K26 hK26 => ?_
          refine WC_block ?_
          refine WC_seq fun K27 hK27 => ?_
          refine WC_drawA mix (fun i => ([2, 2, 2, 2, 2, 2, 2, 1, 2] : List Nat).getD i 0) ?_
          refine WJ_takeP 0 rfl (by kernel_rfl) (Rd_move rfl) rfl rfl rfl (hp _ _) ?_
          refine WJ_takeP 1 rfl (by kernel_rfl) (Rd_move rfl) rfl rfl rfl (hp _ _) ?_
          refine WJ_takeP 2 rfl (by kernel_rfl) (Rd_index_sv j rfl rfl ud46 sz3 (hA := hD) (hi := by omega)) rfl rfl rfl (hp _ _) ?_
          refine WJ_tk 3 (Rd_load_sv (i := j) (j := 0) rfl tk3 (hA := hD) (hl := hdj)) hp ?_ rfl (by kernel_rfl) rfl rfl rfl
          refine WJ_tk 4 (Rd_load rfl tk46 (v := v)) hp ?_ rfl (by kernel_rfl) rfl rfl rfl
          refine WJ_takeP 5 rfl (by kernel_rfl) (Rd_len_sv rfl rfl ud46 (hA := hS)) rfl rfl rfl (hp _ _) ?_
          refine WJ_takeP 6 rfl (by kernel_rfl) (Rd_addN (j := 1) rfl rfl) rfl rfl rfl (hp _ _) ?_
          refine WJ_all (rs := [7]) (by kernel_rfl) rfl ?_
          refine WI_one ?_
          refine WI_ac rfl (Ac_call cf31 rfl (hs := pick_ct (x := dj) (n := l.length + 1))) rfl rfl rfl rfl ?_
          rintro _ _ ⟨⟨⟩, rfl, hA⟩
          simp only [List.cons_append, List.nil_append] at hA
          replace hA := hA.symm
          subst hA
          have hpk := pickN_lt (x := dj) (n := l.length + 1) (by omega)
          generalize pickN dj (l.length + 1) = t at hpk ⊢
          refine ⟨(fun _ => (by repeat (first | with_reducible exact Sub.refl | with_reducible exact Sub.nil | with_reducible refine Sub.cons (by repeat (first | with_reducible exact Ext.here | with_reducible apply Ext.there)) ?_ | with_reducible refine Sub.tail ?_))), ?_⟩
          refine WJ_takeP 8 rfl (by kernel_rfl) (Rd_assign rfl) rfl rfl rfl (hp _ _) ?_
          refine WJ_done (by kernel_rfl) ?_
          refine Ps_next hK27 ?_
          refine WC_sr fun K28 hK28 => ?_
          refine WL_rd (Rd_move rfl) rfl rfl rfl ?_
          refine WL_rd (Rd_move rfl) rfl rfl rfl ?_
          refine WL_pk0 ?_
          refine WL_pull (X) ?_
          refine WL_pull (cl bs 4 [.bool s2.2]) ?_
          refine WL_pull (cl ba 3 [.int .i64 ((s2.1 : Nat) : Int)]) ?_
          refine WL_pull (cl bt 65 [v']) ?_
          refine WL_pull (cl bl 46 [v]) ?_
          rw [show sep [cl bl 46 [v], cl bt 65 [v'], cl ba 3 [.int .i64 ((s2.1 : Nat) : Int)], cl bs 4 [.bool s2.2], X] = JL bl bs ba bt v v' X s2 from rfl]
          refine WL_ac (Ac_call cf32 rfl (hs := lDrop_ct hcfL (hlessL hS hT hl) lie_cost (b := hb) (s := s2) (rows := rows2) (made := l.length) (t := ((t : Nat) : Int)))) rfl rfl rfl ?_
          rintro _ _ ⟨⟨⟩, rfl, hA⟩
          simp only [List.cons_append, List.nil_append] at hA
          replace hA := hA.symm
          subst hA
          rw [show JL bl bs ba bt v v' X (dlR (lieM l tells) s2 rows2 (t : Int)).2 = sep [cl bl 46 [v], cl bt 65 [v'], cl ba 3 [.int .i64 (((dlR (lieM l tells) s2 rows2 (t : Int)).2.1 : Nat) : Int)], cl bs 4 [.bool (dlR (lieM l tells) s2 rows2 (t : Int)).2.2], X] from rfl]
          refine WL_unpk [cl bl 46 [v], cl bt 65 [v'], cl ba 3 [.int .i64 (((dlR (lieM l tells) s2 rows2 (t : Int)).2.1 : Nat) : Int)], cl bs 4 [.bool (dlR (lieM l tells) s2 rows2 (t : Int)).2.2], X] ?_
          simp only [List.cons_append, List.nil_append]
          obtain ⟨gt, hgt0⟩ := at_x (l := gn) (i := t) (by omega)
          refine WL_rd (Rd_move rfl) rfl rfl rfl ?_
          refine WL_rd (Rd_ext0 rfl) rfl rfl rfl ?_
          refine WL_rd (Rd_ext1 rfl) rfl rfl rfl ?_
          refine WL_rd (Rd_assign rfl) rfl rfl rfl ?_
          refine WL_rd (Rd_assign rfl) rfl rfl rfl ?_
          refine WL_end hK28 ?_
          refine WC_seq fun K29 hK29 => ?_
          refine WC_sr fun K30 hK30 => ?_
          refine WL_rd (Rd_move rfl) rfl rfl rfl ?_
          refine WL_rd (Rd_load rfl tk46 (v := v)) rfl rfl rfl ?_
          refine WL_rd (Rd_len_sv rfl rfl ud46 (hA := hS)) rfl rfl rfl ?_
          refine WL_rd (Rd_geqN rfl rfl) rfl rfl rfl ?_
          refine WL_rd (Rd_move rfl) rfl rfl rfl ?_
          refine WL_bool 115 rfl (fun hg31 => ?_) (fun hg31 => ?_)
          · try simp only [decide_eq_true_eq, decide_eq_false_iff_not, Bool.not_eq_true', Bool.not_eq_false', Bool.not_eq_true, Bool.not_eq_false, Int.not_lt, Int.not_le, Nat.not_lt, Nat.not_le, Decidable.not_not, ne_eq] at hg31
            have q0 := hg31
            refine WL_skip rfl rfl rfl ?_
            refine WL_skip rfl rfl rfl ?_
            refine WL_skip rfl rfl rfl ?_
            refine WL_skip rfl rfl rfl ?_
            refine WL_rd (Rd_pickT rfl rfl) rfl rfl rfl ?_
            refine WL_end hK30 ?_
            refine WC_condT rfl ?_
            have hno := GO_no hG hO (t := t) (by first | exact .inl (by omega) | exact .inr (by rw [hgt0]; simp_all))
            obtain ⟨hd1, hd2⟩ := dl_no (lt := lieM l tells) (s := s2) (fd_no hno)
            rw [hd1, hd2]
            refine WC_seq fun K32 hK32 => ?_
            refine WC_sr fun K33 hK33 => ?_
            refine WL_rd (Rd_move rfl) rfl rfl rfl ?_
            refine WL_rd (Rd_isF (Rd_neq rfl rfl)) rfl rfl rfl ?_
            refine WL_end hK33 ?_
            refine WC_condF rfl ?_
            refine WC_skip ?_
            refine Ps_next hK32 ?_
            refine WC_exit ?_
            refine Ps_next hK26 ?_
            refine WC_region ?_
            refine WL_rd (Rd_move rfl) rfl rfl rfl ?_
            refine WL_rd (Rd_addN (j := 1) rfl rfl) rfl rfl rfl ?_
            refine WL_rd (Rd_assign rfl) rfl rfl rfl ?_
            refine WL_nil ?_
            refine Ps_wk (by (try simp only [List.cons_append, List.nil_append]); repeat (first | with_reducible exact Wk.nil | refine Wk.cons (by first | rfl | (simp only [List.length_append, List.length_cons, List.length_nil, List.length_replicate, Nat.zero_add]; rfl) | (simp; done)) ?_)) (by (try simp only [List.cons_append, List.nil_append]); repeat (first | with_reducible exact Sub.refl | with_reducible exact Sub.nil | with_reducible refine Sub.cons (by repeat (first | with_reducible exact Ext.here | with_reducible apply Ext.there)) ?_ | with_reducible refine Sub.tail ?_)) (hK23 ⟨j + 1, rows2, s2, out, a2, c2, gn⟩ (⟨by (try dsimp only); omega, hO, (lie_keeps (l := l) (tells := tells)).mono _ _ _ (by omega) hq2, hG⟩) (by (try dsimp only); omega))
          · try simp only [decide_eq_true_eq, decide_eq_false_iff_not, Bool.not_eq_true', Bool.not_eq_false', Bool.not_eq_true, Bool.not_eq_false, Int.not_lt, Int.not_le, Nat.not_lt, Nat.not_le, Decidable.not_not, ne_eq] at hg31
            have q0 := hg31
            refine WL_rd (Rd_move rfl) rfl rfl rfl ?_
            refine WL_rd (Rd_move rfl) rfl rfl rfl ?_
            refine WL_rd (Rd_index t rfl rfl ud65 sz4 (hi := by omega)) rfl rfl rfl ?_
            refine WL_rd (Rd_load_arr (f := eBool) (i := t) (j := 0) rfl tk4 (hl := hgt0)) rfl rfl rfl ?_
            refine WL_rd (Rd_pickF rfl rfl) rfl rfl rfl ?_
            refine WL_end hK30 ?_
            refine WC_cond rfl (fun hc5 => ?_) (fun hc5 => ?_)
            · try simp only [decide_eq_true_eq, decide_eq_false_iff_not, Bool.not_eq_true', Bool.not_eq_false', Bool.not_eq_true, Bool.not_eq_false, Int.not_lt, Int.not_le, Nat.not_lt, Nat.not_le, Decidable.not_not, ne_eq] at hc5
              have hno := GO_no hG hO (t := t) (by first | exact .inl (by omega) | exact .inr (by rw [hgt0]; simp_all))
              obtain ⟨hd1, hd2⟩ := dl_no (lt := lieM l tells) (s := s2) (fd_no hno)
              rw [hd1, hd2]
              refine WC_seq fun K34 hK34 => ?_
              refine WC_sr fun K35 hK35 => ?_
              refine WL_rd (Rd_move rfl) rfl rfl rfl ?_
              refine WL_rd (Rd_isF (Rd_neq rfl rfl)) rfl rfl rfl ?_
              refine WL_end hK35 ?_
              refine WC_condF rfl ?_
              refine WC_skip ?_
              refine Ps_next hK34 ?_
              refine WC_exit ?_
              refine Ps_next hK26 ?_
              refine WC_region ?_
              refine WL_rd (Rd_move rfl) rfl rfl rfl ?_
              refine WL_rd (Rd_addN (j := 1) rfl rfl) rfl rfl rfl ?_
              refine WL_rd (Rd_assign rfl) rfl rfl rfl ?_
              refine WL_nil ?_
              refine Ps_wk (by (try simp only [List.cons_append, List.nil_append]); repeat (first | with_reducible exact Wk.nil | refine Wk.cons (by first | rfl | (simp only [List.length_append, List.length_cons, List.length_nil, List.length_replicate, Nat.zero_add]; rfl) | (simp; done)) ?_)) (by (try simp only [List.cons_append, List.nil_append]); repeat (first | with_reducible exact Sub.refl | with_reducible exact Sub.nil | with_reducible refine Sub.cons (by repeat (first | with_reducible exact Ext.here | with_reducible apply Ext.there)) ?_ | with_reducible refine Sub.tail ?_)) (hK23 ⟨j + 1, rows2, s2, out, a2, c2, gn⟩ (⟨by (try dsimp only); omega, hO, (lie_keeps (l := l) (tells := tells)).mono _ _ _ (by omega) hq2, hG⟩) (by (try dsimp only); omega))
            · try simp only [decide_eq_true_eq, decide_eq_false_iff_not, Bool.not_eq_true', Bool.not_eq_false', Bool.not_eq_true, Bool.not_eq_false, Int.not_lt, Int.not_le, Nat.not_lt, Nat.not_le, Decidable.not_not, ne_eq] at hc5
              obtain ⟨ix, xd, hfd, hxd, hxt⟩ := fd_of ((hG.2 t gt hgt0).2 (by simp_all) (by omega))
              obtain ⟨hd0, hd1, hd2⟩ := dl_yes (lt := lieM l tells) (s := s2) hfd hxd
              have hlt : l[t]? = some xd.2 := by rw [← hxt]; exact row_at hO (List.mem_of_getElem? hxd)
              have hixl := (List.getElem?_eq_some_iff.1 hxd).1
              rw [hd0, hd1, hd2]
              refine WC_skip ?_
              refine Ps_next hK29 ?_
              refine WC_seq fun K36 hK36 => ?_
              refine WC_sr fun K37 hK37 => ?_
              refine WL_rd (Rd_move rfl) rfl rfl rfl ?_
              refine WL_rd (Rd_isF (Rd_neq rfl rfl)) rfl rfl rfl ?_
              refine WL_rd (Rd_move rfl) rfl rfl rfl ?_
              refine WL_rd (Rd_move rfl) rfl rfl rfl ?_
              refine WL_rd (Rd_load rfl tk46 (v := v)) rfl rfl rfl ?_
              refine WL_rd (Rd_move rfl) rfl rfl rfl ?_
              refine WL_rd (Rd_index_sv t rfl rfl ud46 sz3 (hA := hS) (hi := by omega)) rfl rfl rfl ?_
              refine WL_rd (Rd_load_sv (i := t) (j := 0) rfl tk3 (hA := hS) (hl := hlt)) rfl rfl rfl ?_
              refine WL_rd (Rd_isF (Rd_neq rfl rfl)) rfl rfl rfl ?_
              refine WL_rd (Rd_pickF rfl rfl) rfl rfl rfl ?_
              refine WL_end hK37 ?_
              refine WC_condF rfl ?_
              refine WC_skip ?_
              refine Ps_next hK36 ?_
              refine WC_sr fun K38 hK38 => ?_
              refine WL_rd (Rd_move rfl) rfl rfl rfl ?_
              refine WL_rd (Rd_move rfl) rfl rfl rfl ?_
              refine WL_rd (Rd_index t rfl rfl ud65 sz4 (hi := by omega)) rfl rfl rfl ?_
              refine WL_ac0 (Ac_store_arr true rfl rfl sz4 (j := 0) (i := t) (hl := hgt0)) rfl rfl ?_
              rintro _ _ rfl
              refine WL_end hK38 ?_
              refine WC_region ?_
              refine WL_rd (Rd_move rfl) rfl rfl rfl ?_
              refine WL_rd (Rd_move rfl) rfl rfl rfl ?_
              refine WL_ac (Ac_bs1 rfl ud46 zr3 sz3) rfl rfl rfl ?_
              rintro _ _ ⟨b138, rfl, rfl⟩
              refine WL_ac (Ac_append1 (f := (eInt .i64)) encZ xd.2 rfl rfl ud46 ud46 el3) rfl rfl rfl ?_
              rintro _ _ ⟨a139, cap139, rfl, rfl⟩
              rw [show out.map (·.2) ++ [xd.2] = (out ++ [xd]).map (·.2) from by rw [List.map_append]; rfl, show (out.map (·.2)).length + 1 = ((out ++ [xd]).map (·.2)).length from by simp]
              refine WL_rd (Rd_assign rfl) rfl rfl rfl ?_
              refine WL_nil ?_
              refine Ps_next hK26 ?_
              refine WC_region ?_
              refine WL_rd (Rd_move rfl) rfl rfl rfl ?_
              refine WL_rd (Rd_addN (j := 1) rfl rfl) rfl rfl rfl ?_
              refine WL_rd (Rd_assign rfl) rfl rfl rfl ?_
              refine WL_nil ?_
              refine Ps_wk (by (try simp only [List.cons_append, List.nil_append]); repeat (first | with_reducible exact Wk.nil | refine Wk.cons (by first | rfl | (simp only [List.length_append, List.length_cons, List.length_nil, List.length_replicate, Nat.zero_add]; rfl) | (simp; done)) ?_)) (by (try simp only [List.cons_append, List.nil_append]); repeat (first | with_reducible exact Sub.refl | with_reducible exact Sub.nil | with_reducible refine Sub.cons (by repeat (first | with_reducible exact Ext.here | with_reducible apply Ext.there)) ?_ | with_reducible refine Sub.tail ?_)) (hK23 ⟨j + 1, (takeM (lieM l tells) s2 rows2 ix).1, (takeM (lieM l tells) s2 rows2 ix).2, out ++ [xd], a139, cap139, gn.set t true⟩ (⟨by (try dsimp only); omega, out_next hO hxd, (lie_keeps (l := l) (tells := tells)).mono _ _ _ (by omega) (takeM_keeps (lie_keeps (l := l) (tells := tells)) hixl (all_left (fun x hx => cnt_mem hx) hO) hq2), by (try dsimp only); rw [← hxt]; exact GO_take hG (out_tk hO) hxd (by omega)⟩) (by (try dsimp only); omega))
        · try simp only [decide_eq_true_eq, decide_eq_false_iff_not, Bool.not_eq_true', Bool.not_eq_false', Bool.not_eq_true, Bool.not_eq_false, Int.not_lt, Int.not_le, Nat.not_lt, Nat.not_le, Decidable.not_not, ne_eq] at hc4
          obtain rfl : j = ds.length := by omega
          refine WC_exit ?_
          refine Ps_next hK21 ?_
          refine WC_seq fun K39 hK39 => ?_
          refine WC_sr fun K40 hK40 => ?_
          refine WL_rd (Rd_move rfl) rfl rfl rfl ?_
          refine WL_ac (Ac_call cf27 rfl (hs := hL_len_hp (b := hb) (lf := 29) (caps := (caL bl bs ba bt)))) rfl rfl rfl ?_
          rintro _ _ ⟨⟨⟩, rfl, hA⟩
          simp only [List.cons_append, List.nil_append] at hA
          replace hA := hA.symm
          subst hA
          refine WL_rd (Rd_assign rfl) rfl rfl rfl ?_
          refine WL_end hK40 ?_
          refine WC_block ?_
          refine WC_loopK (σ := (List (Nat × Int)) × (Nat × Bool) × (List (Nat × Int)) × (Option Nat) × Nat × Nat) (fun ⟨rows3, s3, out3, a3, c3, m3⟩ => [(17, sl a3 (out3.map (·.2)).length c3), (23, .int .i64 ((rows3.length : Nat) : Int))]) (fun ⟨rows3, s3, out3, a3, c3, m3⟩ => [hL_hpA (.func (.func 29) #[] (caL bl bs ba bt).toArray) hb rows3 l.length, cl ba 3 [.int .i64 ((s3.1 : Nat) : Int)], cl bs 4 [.bool s3.2], arr a3 c3 1 3 (eInt .i64) (out3.map (·.2))]) (fun ⟨rows3, s3, out3, a3, c3, m3⟩ => (out3 ++ rows3).Perm (rowsI l) ∧ lieQ (25165824 * l.length + 8388608 * ds.length + 8388608 * m3) s3 ∧ m3 + rows3.length ≤ l.length) (fun ⟨rows3, s3, out3, a3, c3, m3⟩ => rows3.length) ⟨rows2, s2, out, a2, c2, 0⟩ [3, 8, 10, 12, 26, 157, 158, 159, 160, 161, 162, 163, 164, 165, 166, 167, 168, 169, 170, 171, 172, 173, 174, 175, 176, 177, 178, 179, 180, 181, 182, 183, 184, 185, 186, 187, 188, 189, 190, 191, 192, 193, 194, 195, 196, 197, 198, 199, 200, 201, 202] (by repeat (first | exact Kep.nil | apply Kep.drop rfl | apply Kep.keep rfl)) (by (try dsimp only); repeat (first | with_reducible exact Gv.nil | (with_reducible apply Gv.cons; · (repeat (first | with_reducible exact Ext.here | with_reducible apply Ext.there))))) ?_ ?_ Sub.refl ?_
          · exact ⟨hO, (lie_keeps (l := l) (tells := tells)).mono _ _ _ (by omega) hq2, by omega⟩
          · (try dsimp only); exact (Wk.cons (by first | rfl | (simp only [List.length_append, List.length_cons, List.length_nil, List.length_replicate, Nat.zero_add]; rfl) | (simp; done)) (Wk.cons (by first | rfl | (simp only [List.length_append, List.length_cons, List.length_nil, List.length_replicate, Nat.zero_add]; rfl) | (simp; done)) Wk.nil))
          · rintro ⟨rows3, s3, out3, a3, c3, m3⟩ ⟨hO3, hq3, hm3⟩ K41 hK41
            simp only [List.cons_append, List.nil_append]
            have hol := out_len hO3
            have hml : (out3.map (·.2)).length = out3.length := List.length_map _
            have hcs : lieC s3 ≤ _ := hq3.1
            refine WC_seq fun K42 hK42 => ?_
            refine WC_sr fun K43 hK43 => ?_
            refine WL_rd (Rd_move rfl) rfl rfl rfl ?_
            refine WL_rd (Rd_gtrN (j := 0) rfl rfl) rfl rfl rfl ?_
            refine WL_end hK43 ?_
            refine WC_cond rfl (fun hc8 => ?_) (fun hc8 => ?_)
            · try simp only [decide_eq_true_eq, decide_eq_false_iff_not, Bool.not_eq_true', Bool.not_eq_false', Bool.not_eq_true, Bool.not_eq_false, Int.not_lt, Int.not_le, Nat.not_lt, Nat.not_le, Decidable.not_not, ne_eq] at hc8
              obtain ⟨x3, hx3⟩ := at_x (l := rows3) (i := 0) (by omega)
              refine WC_skip ?_
              refine Ps_next hK42 ?_
              refine WC_seq fun K44 hK44 => ?_
              refine WC_block ?_
              refine WC_sr fun K45 hK45 => ?_
              refine WL_rd (Rd_move rfl) rfl rfl rfl ?_
              refine WL_pk0 ?_
              refine WL_pull (X) ?_
              refine WL_pull (cl bs 4 [.bool s3.2]) ?_
              refine WL_pull (cl ba 3 [.int .i64 ((s3.1 : Nat) : Int)]) ?_
              refine WL_pull (cl bt 65 [v']) ?_
              refine WL_pull (cl bl 46 [v]) ?_
              rw [show sep [cl bl 46 [v], cl bt 65 [v'], cl ba 3 [.int .i64 ((s3.1 : Nat) : Int)], cl bs 4 [.bool s3.2], X] = JL bl bs ba bt v v' X s3 from rfl]
              refine WL_ac (Ac_call cf26 rfl (hs := hL_pop_hp hcfL (hlessL hS hT hl) lie_cost (b := hb) (s := s3) (rows := rows3) (made := l.length) (x := x3))) rfl rfl rfl ?_
              rintro _ _ ⟨⟨⟩, rfl, hA⟩
              simp only [List.cons_append, List.nil_append] at hA
              replace hA := hA.symm
              subst hA
              rw [show JL bl bs ba bt v v' X (takeM (lieM l tells) s3 rows3 0).2 = sep [cl bl 46 [v], cl bt 65 [v'], cl ba 3 [.int .i64 (((takeM (lieM l tells) s3 rows3 0).2.1 : Nat) : Int)], cl bs 4 [.bool (takeM (lieM l tells) s3 rows3 0).2.2], X] from rfl]
              refine WL_unpk [cl bl 46 [v], cl bt 65 [v'], cl ba 3 [.int .i64 (((takeM (lieM l tells) s3 rows3 0).2.1 : Nat) : Int)], cl bs 4 [.bool (takeM (lieM l tells) s3 rows3 0).2.2], X] ?_
              simp only [List.cons_append, List.nil_append]
              refine WL_rd (Rd_move rfl) rfl rfl rfl ?_
              refine WL_rd (Rd_ext0 rfl) rfl rfl rfl ?_
              refine WL_rd (Rd_ext1 rfl) rfl rfl rfl ?_
              refine WL_rd (Rd_assign rfl) rfl rfl rfl ?_
              refine WL_rd (Rd_assign rfl) rfl rfl rfl ?_
              refine WL_end hK45 ?_
              refine WC_seq fun K46 hK46 => ?_
              refine WC_sr fun K47 hK47 => ?_
              refine WL_rd (Rd_move rfl) rfl rfl rfl ?_
              refine WL_rd (Rd_not rfl) rfl rfl rfl ?_
              refine WL_end hK47 ?_
              refine WC_condF rfl ?_
              refine WC_skip ?_
              refine Ps_next hK46 ?_
              refine WC_region ?_
              refine WL_rd (Rd_move rfl) rfl rfl rfl ?_
              refine WL_rd (Rd_move rfl) rfl rfl rfl ?_
              refine WL_ac (Ac_bs1 rfl ud46 zr3 sz3) rfl rfl rfl ?_
              rintro _ _ ⟨b155, rfl, rfl⟩
              refine WL_ac (Ac_append1 (f := (eInt .i64)) encZ x3.2 rfl rfl ud46 ud46 el3) rfl rfl rfl ?_
              rintro _ _ ⟨a156, cap156, rfl, rfl⟩
              rw [show out3.map (·.2) ++ [x3.2] = (out3 ++ [x3]).map (·.2) from by rw [List.map_append]; rfl, show (out3.map (·.2)).length + 1 = ((out3 ++ [x3]).map (·.2)).length from by simp]
              refine WL_rd (Rd_assign rfl) rfl rfl rfl ?_
              refine WL_nil ?_
              refine Ps_next hK44 ?_
              refine WC_region ?_
              refine WL_rd (Rd_move rfl) rfl rfl rfl ?_
              refine WL_rd (Rd_subN (j := 1) rfl rfl) rfl rfl rfl ?_
              rw [show rows3.length - 1 = (takeM (lieM l tells) s3 rows3 0).1.length from by rw [takeM_len]]
              refine WL_rd (Rd_assign rfl) rfl rfl rfl ?_
              refine WL_nil ?_
              refine Ps_wk (by (try simp only [List.cons_append, List.nil_append]); repeat (first | with_reducible exact Wk.nil | refine Wk.cons (by first | rfl | (simp only [List.length_append, List.length_cons, List.length_nil, List.length_replicate, Nat.zero_add]; rfl) | (simp; done)) ?_)) (by (try simp only [List.cons_append, List.nil_append]); repeat (first | with_reducible exact Sub.refl | with_reducible exact Sub.nil | with_reducible refine Sub.cons (by repeat (first | with_reducible exact Ext.here | with_reducible apply Ext.there)) ?_ | with_reducible refine Sub.tail ?_)) (hK41 ⟨(takeM (lieM l tells) s3 rows3 0).1, (takeM (lieM l tells) s3 rows3 0).2, out3 ++ [x3], a156, cap156, m3 + 1⟩ (⟨out_next hO3 hx3, (lie_keeps (l := l) (tells := tells)).mono _ _ _ (by omega) (takeM_keeps (lie_keeps (l := l) (tells := tells)) (by omega) (all_left (fun x hx => cnt_mem hx) hO3) hq3), by (try dsimp only); rw [takeM_len]; omega⟩) (by (try dsimp only); rw [takeM_len]; omega))
            · try simp only [decide_eq_true_eq, decide_eq_false_iff_not, Bool.not_eq_true', Bool.not_eq_false', Bool.not_eq_true, Bool.not_eq_false, Int.not_lt, Int.not_le, Nat.not_lt, Nat.not_le, Decidable.not_not, ne_eq] at hc8
              obtain rfl : rows3 = [] := List.eq_nil_of_length_eq_zero (by omega)
              refine WC_exit ?_
              refine Ps_next hK39 ?_
              refine WC_seq fun K48 hK48 => ?_
              refine WC_sr fun K49 hK49 => ?_
              refine WL_rd (Rd_move rfl) rfl rfl rfl ?_
              refine WL_rd (Rd_len rfl rfl ud46) rfl rfl rfl ?_
              refine WL_rd (Rd_load rfl tk46 (v := v)) rfl rfl rfl ?_
              refine WL_rd (Rd_len_sv rfl rfl ud46 (hA := hS)) rfl rfl rfl ?_
              refine WL_rd (Rd_isF (Rd_neqN rfl rfl)) rfl rfl rfl ?_
              refine WL_rd (Rd_move rfl) rfl rfl rfl ?_
              refine WL_rd (Rd_move rfl) rfl rfl rfl ?_
              refine WL_ac (Ac_call cf27 rfl (hs := hL_len_hp (b := hb) (lf := 29) (caps := (caL bl bs ba bt)))) rfl rfl rfl ?_
              rintro _ _ ⟨⟨⟩, rfl, hA⟩
              simp only [List.cons_append, List.nil_append] at hA
              replace hA := hA.symm
              subst hA
              refine WL_rd (Rd_isF (Rd_neqN (j := 0) rfl rfl)) rfl rfl rfl ?_
              refine WL_rd (Rd_pickF rfl rfl) rfl rfl rfl ?_
              refine WL_end hK49 ?_
              refine WC_condF rfl ?_
              refine WC_skip ?_
              refine Ps_next hK48 ?_
              refine WC_seq fun K50 hK50 => ?_
              refine WC_sr fun K51 hK51 => ?_
              refine WL_rd (Rd_assign rfl) rfl rfl rfl ?_
              refine WL_end hK51 ?_
              refine WC_block ?_
              refine WC_fact (fun w h => arr_facts (a := gs.1.1) (cap := gs.1.2) (e := 1) (T := 3) (f := eInt .i64) (l := gs.2.1) (by repeat (first | with_reducible exact Has.here | with_reducible refine Has.there ?_)) h) (fun hSsf => ?_)
              have hSs : Sv [arr gs.1.1 gs.1.2 1 3 (eInt .i64) gs.2.1] (sl gs.1.1 gs.2.1.length gs.1.2) 1 (eInt .i64) gs.2.1 (gs.1.1.map fun g => ⟨g, 0, none⟩) gs.1.2 := Sv_own' encZ hSsf.1 hSsf.2
              refine WC_fact (fun w h => arr_facts (a := a3) (cap := c3) (e := 1) (T := 3) (f := eInt .i64) (l := (out3.map (·.2))) (by repeat (first | with_reducible exact Has.here | with_reducible refine Has.there ?_)) h) (fun hSof => ?_)
              have hSo : Sv [arr a3 c3 1 3 (eInt .i64) (out3.map (·.2))] (sl a3 (out3.map (·.2)).length c3) 1 (eInt .i64) (out3.map (·.2)) (a3.map fun g => ⟨g, 0, none⟩) c3 := Sv_own' encZ hSof.1 hSof.2
              refine WC_loopK (σ := Nat) (fun k => [(26, .int .i64 ((k : Nat) : Int))]) (fun k => []) (fun k => k ≤ l.length) (fun k => l.length - k) (0) [3, 8, 12, 17, 201, 202] (by repeat (first | exact Kep.nil | apply Kep.drop rfl | apply Kep.keep rfl)) (by (try dsimp only); repeat (first | with_reducible exact Gv.nil | (with_reducible apply Gv.cons; · (repeat (first | with_reducible exact Ext.here | with_reducible apply Ext.there))))) ?_ ?_ Sub.refl ?_
              · exact Nat.zero_le _
              · (try dsimp only); exact (Wk.cons (by first | rfl | (simp only [List.length_append, List.length_cons, List.length_nil, List.length_replicate, Nat.zero_add]; rfl) | (simp; done)) Wk.nil)
              · rintro k hk K52 hK52
                simp only [List.cons_append, List.nil_append]
                refine WC_seq fun K53 hK53 => ?_
                refine WC_sr fun K54 hK54 => ?_
                refine WL_rd (Rd_move rfl) rfl rfl rfl ?_
                refine WL_rd (Rd_load rfl tk46 (v := v)) rfl rfl rfl ?_
                refine WL_rd (Rd_len_sv rfl rfl ud46 (hA := hS)) rfl rfl rfl ?_
                refine WL_rd (Rd_lssN rfl rfl) rfl rfl rfl ?_
                refine WL_end hK54 ?_
                refine WC_cond rfl (fun hc11 => ?_) (fun hc11 => ?_)
                · try simp only [decide_eq_true_eq, decide_eq_false_iff_not, Bool.not_eq_true', Bool.not_eq_false', Bool.not_eq_true, Bool.not_eq_false, Int.not_lt, Int.not_le, Nat.not_lt, Nat.not_le, Decidable.not_not, ne_eq] at hc11
                  obtain ⟨x4, hx4⟩ := at_x (l := l) (i := k) (by omega)
                  have hc1_ : cntM gs.2.1 x4 = cntM l x4 := cnt_perm hgp
                  have hc2_ : cntM (out3.map (·.2)) x4 = cntM l x4 := cnt_perm (out_all hO3)
                  refine WC_skip ?_
                  refine Ps_next hK53 ?_
                  refine WC_seq fun K55 hK55 => ?_
                  refine WC_block ?_
                  refine WC_seq fun K56 hK56 => ?_
                  refine WC_drawA mix (fun i => ([2, 2, 2, 2, 2, 1, 2, 2, 2, 2, 2, 1, 2, 2, 2, 2, 2, 2, 2, 1, 2, 2, 2, 2, 2, 1, 2, 2] : List Nat).getD i 0) ?_
                  refine WJ_takeP 0 rfl (by kernel_rfl) (Rd_move rfl) rfl rfl rfl (hp _ _) ?_
                  refine WJ_tk 1 (Rd_load rfl tk46 (v := v)) hp ?_ rfl (by kernel_rfl) rfl rfl rfl
                  refine WJ_takeP 2 rfl (by kernel_rfl) (Rd_move rfl) rfl rfl rfl (hp _ _) ?_
                  refine WJ_takeP 3 rfl (by kernel_rfl) (Rd_index_sv _ rfl rfl ud46 sz3) rfl rfl rfl (hp _ _) ?_
                  refine WJ_tk 4 (Rd_load_sv rfl tk3 (j := 0)) hp ?_ rfl (by kernel_rfl) rfl rfl rfl
                  refine WJ_tk 6 (Rd_load rfl tk46 (v := v)) hp ?_ rfl (by kernel_rfl) rfl rfl rfl
                  refine WJ_tk 7 (Rd_load rfl tk46 (v := v)) hp ?_ rfl (by kernel_rfl) rfl rfl rfl
                  refine WJ_takeP 8 rfl (by kernel_rfl) (Rd_move rfl) rfl rfl rfl (hp _ _) ?_
                  refine WJ_takeP 9 rfl (by kernel_rfl) (Rd_index_sv _ rfl rfl ud46 sz3) rfl rfl rfl (hp _ _) ?_
                  refine WJ_tk 10 (Rd_load_sv rfl tk3 (j := 0)) hp ?_ rfl (by kernel_rfl) rfl rfl rfl
                  refine WJ_all (rs := [5]) (by kernel_rfl) rfl ?_
                  refine WI_one ?_
                  refine WI_ac rfl (Ac_call cf30 rfl (hs := count_ct (X := arr gs.1.1 gs.1.2 1 3 (eInt .i64) gs.2.1) (l := gs.2.1) (x := x4) (hS := hSs))) rfl rfl rfl rfl ?_
                  rintro _ _ ⟨⟨⟩, rfl, hA⟩
                  simp only [List.cons_append, List.nil_append] at hA
                  replace hA := hA.symm
                  subst hA
                  refine ⟨(fun _ => (by repeat (first | with_reducible exact Sub.refl | with_reducible exact Sub.nil | with_reducible refine Sub.cons (by repeat (first | with_reducible exact Ext.here | with_reducible apply Ext.there)) ?_ | with_reducible refine Sub.tail ?_))), ?_⟩
                  refine WJ_all (rs := [11]) (by kernel_rfl) rfl ?_
                  refine WI_one ?_
                  refine WI_ac rfl (Ac_call cf30 rfl (hs := count_ct (X := X) (l := l) (x := x4) (hS := hS))) rfl rfl rfl rfl ?_
                  rintro _ _ ⟨⟨⟩, rfl, hA⟩
                  simp only [List.cons_append, List.nil_append] at hA
                  replace hA := hA.symm
                  subst hA
                  refine ⟨(fun _ => (by repeat (first | with_reducible exact Sub.refl | with_reducible exact Sub.nil | with_reducible refine Sub.cons (by repeat (first | with_reducible exact Ext.here | with_reducible apply Ext.there)) ?_ | with_reducible refine Sub.tail ?_))), ?_⟩
                  refine WJ_takeP 12 rfl (by kernel_rfl) (Rd_isF (Rd_neqN rfl rfl)) rfl rfl rfl (hp _ _) ?_
                  refine WJ_takeP 13 rfl (by kernel_rfl) (Rd_move rfl) rfl rfl rfl (hp _ _) ?_
                  refine WJ_takeP 14 rfl (by kernel_rfl) (Rd_move rfl) rfl rfl rfl (hp _ _) ?_
                  refine WJ_tk 15 (Rd_load rfl tk46) hp ?_ rfl (by kernel_rfl) rfl rfl rfl
                  refine WJ_takeP 16 rfl (by kernel_rfl) (Rd_move rfl) rfl rfl rfl (hp _ _) ?_
                  first | refine WJ_takeP 17 rfl (by kernel_rfl) (Rd_index _ rfl rfl ud46 sz3) rfl rfl rfl (hp _ _) ?_ | refine WJ_takeP 17 rfl (by kernel_rfl) (Rd_index_sv _ rfl rfl ud46 sz3) rfl rfl rfl (hp _ _) ?_
                  first | refine WJ_tk 18 (Rd_load_arr rfl tk3 (j := 0)) hp ?_ rfl (by kernel_rfl) rfl rfl rfl | refine WJ_tk 18 (Rd_load_sv rfl tk3 (j := 0)) hp ?_ rfl (by kernel_rfl) rfl rfl rfl
                  refine WJ_tk 20 (Rd_load rfl tk46) hp ?_ rfl (by kernel_rfl) rfl rfl rfl
                  refine WJ_tk 21 (Rd_load rfl tk46) hp ?_ rfl (by kernel_rfl) rfl rfl rfl
                  refine WJ_takeP 22 rfl (by kernel_rfl) (Rd_move rfl) rfl rfl rfl (hp _ _) ?_
                  first | refine WJ_takeP 23 rfl (by kernel_rfl) (Rd_index _ rfl rfl ud46 sz3) rfl rfl rfl (hp _ _) ?_ | refine WJ_takeP 23 rfl (by kernel_rfl) (Rd_index_sv _ rfl rfl ud46 sz3) rfl rfl rfl (hp _ _) ?_
                  first | refine WJ_tk 24 (Rd_load_arr rfl tk3 (j := 0)) hp ?_ rfl (by kernel_rfl) rfl rfl rfl | refine WJ_tk 24 (Rd_load_sv rfl tk3 (j := 0)) hp ?_ rfl (by kernel_rfl) rfl rfl rfl
                  refine WJ_all (rs := [19]) (by kernel_rfl) rfl ?_
                  refine WI_one ?_
                  refine WI_ac rfl (Ac_call cf30 rfl (hs := count_ct (X := arr a3 c3 1 3 (eInt .i64) (out3.map (·.2))) (l := (out3.map (·.2))) (x := x4) (hS := hSo))) rfl rfl rfl rfl ?_
                  rintro _ _ ⟨⟨⟩, rfl, hA⟩
                  simp only [List.cons_append, List.nil_append] at hA
                  replace hA := hA.symm
                  subst hA
                  refine ⟨(fun _ => (by repeat (first | with_reducible exact Sub.refl | with_reducible exact Sub.nil | with_reducible refine Sub.cons (by repeat (first | with_reducible exact Ext.here | with_reducible apply Ext.there)) ?_ | with_reducible refine Sub.tail ?_))), ?_⟩
                  refine WJ_all (rs := [25]) (by kernel_rfl) rfl ?_
                  refine WI_one ?_
                  refine WI_ac rfl (Ac_call cf30 rfl (hs := count_ct (X := X) (l := l) (x := x4) (hS := hS))) rfl rfl rfl rfl ?_
                  rintro _ _ ⟨⟨⟩, rfl, hA⟩
                  simp only [List.cons_append, List.nil_append] at hA
                  replace hA := hA.symm
                  subst hA
                  refine ⟨(fun _ => (by repeat (first | with_reducible exact Sub.refl | with_reducible exact Sub.nil | with_reducible refine Sub.cons (by repeat (first | with_reducible exact Ext.here | with_reducible apply Ext.there)) ?_ | with_reducible refine Sub.tail ?_))), ?_⟩
                  refine WJ_takeP 26 rfl (by kernel_rfl) (Rd_isF (Rd_neqN rfl rfl)) rfl rfl rfl (hp _ _) ?_
                  refine WJ_takeP 27 rfl (by kernel_rfl) (Rd_pickF rfl rfl) rfl rfl rfl (hp _ _) ?_
                  refine WJ_done (by kernel_rfl) ?_
                  refine Ps_next hK56 ?_
                  refine WC_condF rfl ?_
                  refine WC_skip ?_
                  refine Ps_next hK55 ?_
                  refine WC_region ?_
                  refine WL_rd (Rd_move rfl) rfl rfl rfl ?_
                  refine WL_rd (Rd_addN (j := 1) rfl rfl) rfl rfl rfl ?_
                  refine WL_rd (Rd_assign rfl) rfl rfl rfl ?_
                  refine WL_nil ?_
                  refine Ps_wk (by (try simp only [List.cons_append, List.nil_append]); repeat (first | with_reducible exact Wk.nil | refine Wk.cons (by first | rfl | (simp only [List.length_append, List.length_cons, List.length_nil, List.length_replicate, Nat.zero_add]; rfl) | (simp; done)) ?_)) (by (try simp only [List.cons_append, List.nil_append]); repeat (first | with_reducible exact Sub.refl | with_reducible exact Sub.nil | with_reducible refine Sub.cons (by repeat (first | with_reducible exact Ext.here | with_reducible apply Ext.there)) ?_ | with_reducible refine Sub.tail ?_)) (hK52 (k + 1) (by omega) (by omega))
                · try simp only [decide_eq_true_eq, decide_eq_false_iff_not, Bool.not_eq_true', Bool.not_eq_false', Bool.not_eq_true, Bool.not_eq_false, Int.not_lt, Int.not_le, Nat.not_lt, Nat.not_le, Decidable.not_not, ne_eq] at hc11
                  refine WC_exit ?_
                  refine Ps_next hK50 ?_
                  refine WC_sr fun K57 hK57 => ?_
                  refine WL_rd (Rd_load rfl tk4) rfl rfl rfl ?_
                  refine WL_rd (Rd_not rfl) rfl rfl rfl ?_
                  refine WL_rd (Rd_assign rfl) rfl rfl rfl ?_
                  refine WL_end hK57 ?_
                  refine WC_ret ?_
                  first | exact hret.go () (Rs1 rfl rfl) | exact hret.goE () (Rs1 rfl rfl) (by rw [hq3.2]; rfl)
end Go.Proofs.Ytcookmkklcbbnaa
