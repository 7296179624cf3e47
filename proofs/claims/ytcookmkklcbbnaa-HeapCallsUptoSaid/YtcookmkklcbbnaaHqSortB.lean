/-
  Contracts of functions that the claim reaches, or the logic and the plain laws that they rest on, or the row over them. (Conditions: none beyond the statement.)
-/
import Derived.Test.YtcookmkklcbbnaaHqSortA
set_option linter.all false
namespace Go.Proofs.Ytcookmkklcbbnaa
open Go.RowKit Go.SL Go.HpM Go.ShM 
set_option maxHeartbeats 1000000
set_option maxRecDepth 20000
set_option linter.all false
theorem cf47 : cfn Try.prog 47 = true := by kernel_rfl
theorem cf48 : cfn Try.prog 48 = true := by kernel_rfl
theorem rSorted_ct {X : Asn} {v : Value} {l : List Int} {ao : Option Addr} {cap : Nat} {by_ : Int} (hS : Sv [X] v 1 (eInt .i64) l ao cap := by assumption) (hl : l.length ≤ 90000000 := by omega) : Ct Try.prog 20 [.int .i64 by_, v] [X] (fun g : Option Nat × Nat => sl g.1 (sortZ (ltz by_) l).length g.2) (fun g => [X, arr g.1 g.2 1 3 (eInt .i64) (sortZ (ltz by_) l)]) := by
  refine Ct_body (n := 39) Try.func20 rfl rfl rfl fun F w0 Q hret hnorm hp => ?_
  change WC _ _ _ _ _ _ _ (_ :: F)
  have hszl := sortZ_len (lt := ltz by_) l
  have hsrl : (srt (ltz by_) (rowsI l)).length = l.length := by rw [(srt_perm _).length_eq, rowsI_len]
  refine WC_sr fun K1 hK1 => ?_
  refine WL_rd (Rd_assign (v := sl none 0 0) rfl) rfl rfl rfl ?_
  refine WL_end hK1 ?_
  refine WC_sr fun K2 hK2 => ?_
  refine WL_ac (Ac_alloc zr73) rfl rfl rfl ?_
  rintro _ _ ⟨rb, rfl, rfl⟩
  refine WL_end hK2 ?_
  refine WC_sr fun K3 hK3 => ?_
  refine WL_rd (Rd_move rfl) rfl rfl rfl ?_
  refine WL_rd (Rd_fieldAddr rfl fo73_0) rfl rfl rfl ?_
  refine WL_ac0 (Ac_store1 rfl rfl sz3) rfl rfl ?_
  rintro _ _ rfl
  refine WL_end hK3 ?_
  refine WC_seq fun K4 hK4 => ?_
  refine WC_sr fun K5 hK5 => ?_
  refine WL_rd (Rd_assign rfl) rfl rfl rfl ?_
  refine WL_end hK5 ?_
  refine WC_block ?_
  refine WC_imp (fun w h => sat_nil (e := 2) (T := 99) (f := eIt) h) ?_
  rw [show ([] : List (Nat × Int)) = (rowsI (l.take 0)) from rfl]
  rw [show cl rb 73 [.int .i64 by_, .slice none 0 0, .int .i64 0] = cl rb 73 [.int .i64 by_, sl none (rowsI (l.take 0)).length 0, .int .i64 ((0 : Nat) : Int)] from rfl]
  refine WC_loopK (σ := Nat × (Option Nat) × Nat) (fun ⟨i', a, c⟩ => [(6, .int .i64 ((i' : Nat) : Int))]) (fun ⟨i', a, c⟩ => [cl rb 73 [.int .i64 by_, sl a (rowsI (l.take i')).length c, .int .i64 ((i' : Nat) : Int)], arr a c 2 99 eIt (rowsI (l.take i'))]) (fun ⟨i', a, c⟩ => i' ≤ l.length) (fun ⟨i', a, c⟩ => l.length - i') ⟨0, none, 0⟩ [1, 4, 5, 7, 8, 9, 23, 24, 25, 26, 27, 28, 29, 30, 31, 32, 33, 34, 35, 36, 37, 38] (by repeat (first | exact Kep.nil | apply Kep.drop rfl | apply Kep.keep rfl)) (by (try dsimp only); repeat (first | with_reducible exact Gv.nil | (with_reducible apply Gv.cons; · (repeat (first | with_reducible exact Ext.here | with_reducible apply Ext.there))))) ?_ ?_ Sub.refl ?_
  · exact Nat.zero_le _
  · (try dsimp only); exact (Wk.cons (by first | rfl | (simp only [List.length_append, List.length_cons, List.length_nil, List.length_replicate, Nat.zero_add]; rfl) | (simp; done)) Wk.nil)
  · rintro ⟨i', a, c⟩ hi K6 hK6
    simp only [List.cons_append, List.nil_append]
    have hrl := rowsI_len (l.take i')
    have htl := List.length_take (i := i') (l := l)
    refine WC_seq fun K7 hK7 => ?_
    refine WC_sr fun K8 hK8 => ?_
    refine WL_rd (Rd_move rfl) rfl rfl rfl ?_
    refine WL_rd (Rd_move rfl) rfl rfl rfl ?_
    refine WL_rd (Rd_len_sv rfl rfl ud46) rfl rfl rfl ?_
    refine WL_rd (Rd_lssN rfl rfl) rfl rfl rfl ?_
    refine WL_end hK8 ?_
    refine WC_cond rfl (fun hc0 => ?_) (fun hc0 => ?_)
    · try simp only [decide_eq_true_eq, decide_eq_false_iff_not, Bool.not_eq_true', Bool.not_eq_false', Bool.not_eq_true, Bool.not_eq_false, Int.not_lt, Int.not_le, Nat.not_lt, Nat.not_le, Decidable.not_not, ne_eq] at hc0
      obtain ⟨x, hx⟩ := at_r (l := l) (i := i') (by omega)
      refine WC_skip ?_
      refine Ps_next hK7 ?_
      refine WC_seq fun K9 hK9 => ?_
      refine WC_block ?_
      refine WC_region ?_
      refine WL_rd (Rd_move rfl) rfl rfl rfl ?_
      refine WL_rd (Rd_move rfl) rfl rfl rfl ?_
      refine WL_rd (Rd_index_sv i' rfl rfl ud46 sz3 (hi := by omega)) rfl rfl rfl ?_
      refine WL_rd (Rd_load_sv (i := i') (j := 0) rfl tk3 (hl := hx)) rfl rfl rfl ?_
      refine WL_ac (Ac_call cf47 rfl (hs := rPush_ct (by_ := by_) (rows := (rowsI (l.take i'))) (made := i') (x := x))) rfl rfl rfl ?_
      rintro _ _ ⟨⟨ra, rc⟩, rfl, hA⟩
      simp only [List.cons_append, List.nil_append] at hA
      replace hA := hA.symm
      subst hA
      rw [rowsI_snoc hx]
      refine WL_nil ?_
      refine Ps_next hK9 ?_
      refine WC_region ?_
      refine WL_rd (Rd_move rfl) rfl rfl rfl ?_
      refine WL_rd (Rd_addN (j := 1) rfl rfl) rfl rfl rfl ?_
      refine WL_rd (Rd_assign rfl) rfl rfl rfl ?_
      refine WL_nil ?_
      refine Ps_wk (by (try simp only [List.cons_append, List.nil_append]); repeat (first | with_reducible exact Wk.nil | refine Wk.cons (by first | rfl | (simp only [List.length_append, List.length_cons, List.length_nil, List.length_replicate, Nat.zero_add]; rfl) | (simp; done)) ?_)) (by (try simp only [List.cons_append, List.nil_append]); repeat (first | with_reducible exact Sub.refl | with_reducible exact Sub.nil | with_reducible refine Sub.cons (by repeat (first | with_reducible exact Ext.here | with_reducible apply Ext.there)) ?_ | with_reducible refine Sub.tail ?_)) (hK6 ⟨i' + 1, ra, rc⟩ (by (try dsimp only); omega) (by (try dsimp only); omega))
    · try simp only [decide_eq_true_eq, decide_eq_false_iff_not, Bool.not_eq_true', Bool.not_eq_false', Bool.not_eq_true, Bool.not_eq_false, Int.not_lt, Int.not_le, Nat.not_lt, Nat.not_le, Decidable.not_not, ne_eq] at hc0
      obtain rfl : i' = l.length := by omega
      rw [List.take_length]
      refine WC_exit ?_
      refine Ps_next hK4 ?_
      refine WC_sr fun K10 hK10 => ?_
      refine WL_rd (Rd_assign (v := sl none 0 0) rfl) rfl rfl rfl ?_
      refine WL_nilarr (eInt .i64) 1 3 ?_
      refine WL_end hK10 ?_
      refine WC_sr fun K11 hK11 => ?_
      refine WL_ac (Ac_call cf48 rfl (hs := rAll_ct (by_ := by_) (l := l))) rfl rfl rfl ?_
      rintro _ _ ⟨⟨a23, cap23⟩, rfl, hA⟩
      simp only [List.cons_append, List.nil_append] at hA
      replace hA := hA.symm
      subst hA
      refine WL_rd (Rd_assign rfl) rfl rfl rfl ?_
      refine WL_end hK11 ?_
      refine WC_seq fun K12 hK12 => ?_
      refine WC_sr fun K13 hK13 => ?_
      refine WL_rd (Rd_assign rfl) rfl rfl rfl ?_
      refine WL_end hK13 ?_
      refine WC_block ?_
      rw [show arr none 0 1 3 (eInt .i64) ([] : List Int) = arr none 0 1 3 (eInt .i64) (((srt (ltz by_) (rowsI l)).take 0).map (·.2)) from rfl]
      refine WC_loopK (σ := Nat × (Option Nat) × Nat) (fun ⟨k, a2, c2⟩ => [(7, sl a2 (((srt (ltz by_) (rowsI l)).take k).map (·.2)).length c2), (9, .int .i64 ((k : Nat) : Int))]) (fun ⟨k, a2, c2⟩ => [arr a2 c2 1 3 (eInt .i64) (((srt (ltz by_) (rowsI l)).take k).map (·.2))]) (fun ⟨k, a2, c2⟩ => k ≤ l.length) (fun ⟨k, a2, c2⟩ => l.length - k) ⟨0, none, 0⟩ [4, 8, 38] (by repeat (first | exact Kep.nil | apply Kep.drop rfl | apply Kep.keep rfl)) (by (try dsimp only); repeat (first | with_reducible exact Gv.nil | (with_reducible apply Gv.cons; · (repeat (first | with_reducible exact Ext.here | with_reducible apply Ext.there))))) ?_ ?_ Sub.refl ?_
      · exact Nat.zero_le _
      · (try dsimp only); exact (Wk.cons (by first | rfl | (simp only [List.length_append, List.length_cons, List.length_nil, List.length_replicate, Nat.zero_add]; rfl) | (simp; done)) (Wk.cons (by first | rfl | (simp only [List.length_append, List.length_cons, List.length_nil, List.length_replicate, Nat.zero_add]; rfl) | (simp; done)) Wk.nil))
      · rintro ⟨k, a2, c2⟩ hk K14 hK14
        simp only [List.cons_append, List.nil_append]
        have hkl : (((srt (ltz by_) (rowsI l)).take k).map (·.2)).length = k := by rw [List.length_map, List.length_take]; omega
        refine WC_seq fun K15 hK15 => ?_
        refine WC_sr fun K16 hK16 => ?_
        refine WL_rd (Rd_move rfl) rfl rfl rfl ?_
        refine WL_rd (Rd_move rfl) rfl rfl rfl ?_
        refine WL_rd (Rd_len rfl rfl ud71) rfl rfl rfl ?_
        refine WL_rd (Rd_lssN rfl rfl) rfl rfl rfl ?_
        refine WL_end hK16 ?_
        refine WC_cond rfl (fun hc1 => ?_) (fun hc1 => ?_)
        · try simp only [decide_eq_true_eq, decide_eq_false_iff_not, Bool.not_eq_true', Bool.not_eq_false', Bool.not_eq_true, Bool.not_eq_false, Int.not_lt, Int.not_le, Nat.not_lt, Nat.not_le, Decidable.not_not, ne_eq] at hc1
          refine WC_some (a := a23) (by repeat (first | with_reducible exact Has.here | with_reducible refine Has.there ?_)) (by omega) (fun gb hgb hcp => ?_)
          subst hgb
          obtain ⟨y, hy⟩ := at_r (l := (srt (ltz by_) (rowsI l))) (i := k) (by omega)
          refine WC_skip ?_
          refine Ps_next hK15 ?_
          refine WC_seq fun K17 hK17 => ?_
          refine WC_block ?_
          refine WC_region ?_
          refine WL_rd (Rd_move rfl) rfl rfl rfl ?_
          refine WL_rd (Rd_move rfl) rfl rfl rfl ?_
          refine WL_rd (Rd_move rfl) rfl rfl rfl ?_
          refine WL_rd (Rd_index k rfl rfl ud71 sz99 (hi := by omega)) rfl rfl rfl ?_
          refine WL_rd (Rd_fieldAddr rfl fo99_1) rfl rfl rfl ?_
          refine WL_rd (Rd_load_arr (f := eIt) (i := k) (j := 1) rfl tk3 (hl := hy)) rfl rfl rfl ?_
          refine WL_ac (Ac_bs1 rfl ud46 zr3 sz3) rfl rfl rfl ?_
          rintro _ _ ⟨b36, rfl, rfl⟩
          refine WL_ac (Ac_append1 (f := (eInt .i64)) encZ y.2 rfl rfl ud46 ud46 el3) rfl rfl rfl ?_
          rintro _ _ ⟨a37, cap37, rfl, rfl⟩
          rw [show (((srt (ltz by_) (rowsI l)).take k).map (·.2)).length + 1 = (((srt (ltz by_) (rowsI l)).take (k + 1)).map (·.2)).length from by rw [hkl, List.length_map, List.length_take]; omega, show ((srt (ltz by_) (rowsI l)).take k).map (·.2) ++ [y.2] = ((srt (ltz by_) (rowsI l)).take (k + 1)).map (·.2) from by rw [← take_snoc (0, 0) (by omega), List.map_append, List.getD_eq_getElem?_getD, hy]; rfl]
          refine WL_rd (Rd_assign rfl) rfl rfl rfl ?_
          refine WL_nil ?_
          refine Ps_next hK17 ?_
          refine WC_region ?_
          refine WL_rd (Rd_move rfl) rfl rfl rfl ?_
          refine WL_rd (Rd_addN (j := 1) rfl rfl) rfl rfl rfl ?_
          refine WL_rd (Rd_assign rfl) rfl rfl rfl ?_
          refine WL_nil ?_
          refine Ps_wk (by (try simp only [List.cons_append, List.nil_append]); repeat (first | with_reducible exact Wk.nil | refine Wk.cons (by first | rfl | (simp only [List.length_append, List.length_cons, List.length_nil, List.length_replicate, Nat.zero_add]; rfl) | (simp; done)) ?_)) (by (try simp only [List.cons_append, List.nil_append]); repeat (first | with_reducible exact Sub.refl | with_reducible exact Sub.nil | with_reducible refine Sub.cons (by repeat (first | with_reducible exact Ext.here | with_reducible apply Ext.there)) ?_ | with_reducible refine Sub.tail ?_)) (hK14 ⟨k + 1, a37, cap37⟩ (by (try dsimp only); omega) (by (try dsimp only); omega))
        · try simp only [decide_eq_true_eq, decide_eq_false_iff_not, Bool.not_eq_true', Bool.not_eq_false', Bool.not_eq_true, Bool.not_eq_false, Int.not_lt, Int.not_le, Nat.not_lt, Nat.not_le, Decidable.not_not, ne_eq] at hc1
          obtain rfl : k = l.length := by omega
          rw [show ((srt (ltz by_) (rowsI l)).take l.length).map (·.2) = (sortZ (ltz by_) l) from by rw [List.take_of_length_le (by omega)]; rfl]
          refine WC_exit ?_
          refine Ps_next hK12 ?_
          refine WC_sr fun K18 hK18 => ?_
          refine WL_rd (Rd_move rfl) rfl rfl rfl ?_
          refine WL_rd (Rd_assign rfl) rfl rfl rfl ?_
          refine WL_end hK18 ?_
          refine WC_ret ?_
          exact hret.go (a2, c2) (Rs1 rfl rfl)

theorem pSorted_ct {X : Asn} {v : Value} {l : List Int} {ao : Option Addr} {cap : Nat} {by_ : Int} {c : Nat} (hS : Sv [X] v 1 (eInt .i64) l ao cap := by assumption) (hl : l.length ≤ 90000000 := by omega) : Ct Try.prog 18 [v, lvO c] [X, JO c by_] (fun g : Option Nat × Nat => .tuple #[sl g.1 (sortZ (ltz by_) l).length g.2, .int .i64 0]) (fun g => [X, JO c by_, arr g.1 g.2 1 3 (eInt .i64) (sortZ (ltz by_) l)]) := by
  refine Ct_body (n := 44) Try.func18 rfl rfl rfl fun F w0 Q hret hnorm hp => ?_
  change WC _ _ _ _ _ _ _ (_ :: _ :: F)
  have hszl := sortZ_len (lt := ltz by_) l
  refine WC_sr fun K1 hK1 => ?_
  refine WL_rd (Rd_assign (v := sl none 0 0) rfl) rfl rfl rfl ?_
  refine WL_rd (Rd_assign rfl) rfl rfl rfl ?_
  refine WL_end hK1 ?_
  refine WC_sr fun K2 hK2 => ?_
  refine WL_rd (Rd_move rfl) rfl rfl rfl ?_
  refine WL_ac (Ac_call cf24 rfl (hs := hI_new_hp (lf := 45) (caps := caO c))) rfl rfl rfl ?_
  rintro _ _ ⟨hb, rfl, hA⟩
  simp only [List.cons_append, List.nil_append] at hA
  replace hA := hA.symm
  subst hA
  refine WL_rd (Rd_move rfl) rfl rfl rfl ?_
  refine WL_rd (Rd_ext0 rfl) rfl rfl rfl ?_
  refine WL_rd (Rd_ext1 rfl) rfl rfl rfl ?_
  refine WL_rd (Rd_assign rfl) rfl rfl rfl ?_
  refine WL_rd (Rd_assign rfl) rfl rfl rfl ?_
  refine WL_end hK2 ?_
  refine WC_seq fun K3 hK3 => ?_
  refine WC_sr fun K4 hK4 => ?_
  refine WL_rd (Rd_move rfl) rfl rfl rfl ?_
  refine WL_rd (Rd_neqN (i := 0) (j := 0) rfl rfl) rfl rfl rfl ?_
  refine WL_end hK4 ?_
  refine WC_condF rfl ?_
  refine WC_skip ?_
  refine Ps_next hK3 ?_
  refine WC_seq fun K5 hK5 => ?_
  refine WC_sr fun K6 hK6 => ?_
  refine WL_rd (Rd_move rfl) rfl rfl rfl ?_
  refine WL_rd (Rd_len_sv rfl rfl ud46) rfl rfl rfl ?_
  refine WL_rd (Rd_move rfl) rfl rfl rfl ?_
  refine WL_end hK6 ?_
  refine WC_block ?_
  refine WC_loopK (σ := Nat × (List (Nat × Int))) (fun ⟨i', rows⟩ => [(23, .int .i64 ((i' : Nat) : Int))]) (fun ⟨i', rows⟩ => [hI_hpA (.func (.func 45) #[] (caO c).toArray) hb rows i', JO c by_]) (fun ⟨i', rows⟩ => i' ≤ l.length ∧ rows.Perm (rowsI (l.take i')) ∧ Hp (ltz by_) rows) (fun ⟨i', rows⟩ => l.length - i') ⟨0, []⟩ [4, 5, 6, 10, 11, 21, 22, 31, 32, 33, 34, 35, 36, 37, 38, 39, 40, 41, 42, 43] (by repeat (first | exact Kep.nil | apply Kep.drop rfl | apply Kep.keep rfl)) (by (try dsimp only); repeat (first | with_reducible exact Gv.nil | (with_reducible apply Gv.cons; · (repeat (first | with_reducible exact Ext.here | with_reducible apply Ext.there))))) ?_ ?_ Sub.refl ?_
  · exact ⟨Nat.zero_le _, List.Perm.refl _, Hp_nil⟩
  · (try dsimp only); exact (Wk.cons (by first | rfl | (simp only [List.length_append, List.length_cons, List.length_nil, List.length_replicate, Nat.zero_add]; rfl) | (simp; done)) Wk.nil)
  · rintro ⟨i', rows⟩ ⟨hi, hpm, hH⟩ K7 hK7
    simp only [List.cons_append, List.nil_append]
    refine WC_sr fun K8 hK8 => ?_
    refine WL_rd (Rd_lssN rfl rfl) rfl rfl rfl ?_
    refine WL_end hK8 ?_
    refine WC_seq fun K9 hK9 => ?_
    refine WC_cond rfl (fun hc1 => ?_) (fun hc1 => ?_)
    · try simp only [decide_eq_true_eq, decide_eq_false_iff_not, Bool.not_eq_true', Bool.not_eq_false', Bool.not_eq_true, Bool.not_eq_false, Int.not_lt, Int.not_le, Nat.not_lt, Nat.not_le, Decidable.not_not, ne_eq] at hc1
      obtain ⟨x, hx⟩ := at_r (l := l) (i := i') (by omega)
      refine WC_skip ?_
      refine Ps_next hK9 ?_
      refine WC_seq fun K10 hK10 => ?_
      refine WC_block ?_
      refine WC_sr fun K11 hK11 => ?_
      refine WL_rd (Rd_index_sv i' rfl rfl ud46 sz3 (hi := by omega)) rfl rfl rfl ?_
      refine WL_rd (Rd_load_sv (i := i') (j := 0) rfl tk3 (hl := hx)) rfl rfl rfl ?_
      refine WL_rd (Rd_assign rfl) rfl rfl rfl ?_
      refine WL_end hK11 ?_
      refine WC_region ?_
      refine WL_rd (Rd_move rfl) rfl rfl rfl ?_
      refine WL_rd (Rd_move rfl) rfl rfl rfl ?_
      refine WL_ac (Ac_call cf25 rfl (hs := hI_push_hp hcfO (hlessO _ by_) (s := ()) (x := x))) rfl rfl rfl ?_
      rintro _ _ ⟨⟨⟩, rfl, hA⟩
      simp only [List.cons_append, List.nil_append] at hA
      replace hA := hA.symm
      subst hA
      refine WL_nil ?_
      refine Ps_next hK10 ?_
      refine WC_region ?_
      refine WL_rd (Rd_addN (j := 1) rfl rfl) rfl rfl rfl ?_
      refine WL_rd (Rd_move rfl) rfl rfl rfl ?_
      refine WL_nil ?_
      refine Ps_wk (by (try simp only [List.cons_append, List.nil_append]); repeat (first | with_reducible exact Wk.nil | refine Wk.cons (by first | rfl | (simp only [List.length_append, List.length_cons, List.length_nil, List.length_replicate, Nat.zero_add]; rfl) | (simp; done)) ?_)) (by (try simp only [List.cons_append, List.nil_append]); repeat (first | with_reducible exact Sub.refl | with_reducible exact Sub.nil | with_reducible refine Sub.cons (by repeat (first | with_reducible exact Ext.here | with_reducible apply Ext.there)) ?_ | with_reducible refine Sub.tail ?_)) (hK7 ⟨i' + 1, (pushM (pl (ltz by_)) () rows i' x).1⟩ (⟨by (try dsimp only); omega, by (try dsimp only); rw [← rowsI_snoc hx]; exact (pushM_perm _ _ _ _ _).trans (List.Perm.append_right _ hpm), pushM_Hp (ltz_od by_) () hH⟩) (by (try dsimp only); omega))
    · try simp only [decide_eq_true_eq, decide_eq_false_iff_not, Bool.not_eq_true', Bool.not_eq_false', Bool.not_eq_true, Bool.not_eq_false, Int.not_lt, Int.not_le, Nat.not_lt, Nat.not_le, Decidable.not_not, ne_eq] at hc1
      obtain rfl : i' = l.length := by omega
      rw [List.take_length] at hpm
      refine WC_exit ?_
      refine Ps_next hK5 ?_
      refine WC_sr fun K12 hK12 => ?_
      refine WL_rd (Rd_assign (v := sl none 0 0) rfl) rfl rfl rfl ?_
      refine WL_nilarr (eInt .i64) 1 3 ?_
      refine WL_end hK12 ?_
      refine WC_seq fun K13 hK13 => ?_
      refine WC_block ?_
      rw [show arr none 0 1 3 (eInt .i64) ([] : List Int) = arr none 0 1 3 (eInt .i64) (([] : List (Nat × Int)).map (·.2)) from rfl]
      refine WC_loopK (σ := (List (Nat × Int)) × (List (Nat × Int)) × (Option Nat) × Nat) (fun ⟨rows2, out, a2, c2⟩ => [(10, sl a2 (out.map (·.2)).length c2)]) (fun ⟨rows2, out, a2, c2⟩ => [hI_hpA (.func (.func 45) #[] (caO c).toArray) hb rows2 l.length, JO c by_, arr a2 c2 1 3 (eInt .i64) (out.map (·.2))]) (fun ⟨rows2, out, a2, c2⟩ => Outs (ltz by_) l out rows2 ∧ Hp (ltz by_) rows2) (fun ⟨rows2, out, a2, c2⟩ => rows2.length) ⟨rows, [], none, 0⟩ [4, 5, 6, 43] (by repeat (first | exact Kep.nil | apply Kep.drop rfl | apply Kep.keep rfl)) (by (try dsimp only); repeat (first | with_reducible exact Gv.nil | (with_reducible apply Gv.cons; · (repeat (first | with_reducible exact Ext.here | with_reducible apply Ext.there))))) ?_ ?_ Sub.refl ?_
      · exact ⟨Outs_0 hpm, hH⟩
      · (try dsimp only); exact (Wk.cons (by first | rfl | (simp only [List.length_append, List.length_cons, List.length_nil, List.length_replicate, Nat.zero_add]; rfl) | (simp; done)) Wk.nil)
      · rintro ⟨rows2, out, a2, c2⟩ ⟨hO, hH2⟩ K14 hK14
        simp only [List.cons_append, List.nil_append]
        have hol := Outs_len hO
        have hml : (out.map (·.2)).length = out.length := List.length_map _
        refine WC_seq fun K15 hK15 => ?_
        refine WC_sr fun K16 hK16 => ?_
        refine WL_rd (Rd_move rfl) rfl rfl rfl ?_
        refine WL_ac (Ac_call cf27 rfl (hs := hI_len_hp (lf := 45) (caps := caO c))) rfl rfl rfl ?_
        rintro _ _ ⟨⟨⟩, rfl, hA⟩
        simp only [List.cons_append, List.nil_append] at hA
        replace hA := hA.symm
        subst hA
        refine WL_rd (Rd_gtrN (j := 0) rfl rfl) rfl rfl rfl ?_
        refine WL_end hK16 ?_
        refine WC_cond rfl (fun hc2 => ?_) (fun hc2 => ?_)
        · try simp only [decide_eq_true_eq, decide_eq_false_iff_not, Bool.not_eq_true', Bool.not_eq_false', Bool.not_eq_true, Bool.not_eq_false, Int.not_lt, Int.not_le, Nat.not_lt, Nat.not_le, Decidable.not_not, ne_eq] at hc2
          obtain ⟨x, hx⟩ := at_r (l := rows2) (i := 0) (by omega)
          refine WC_skip ?_
          refine Ps_next hK15 ?_
          refine WC_block ?_
          refine WC_sr fun K17 hK17 => ?_
          refine WL_rd (Rd_move rfl) rfl rfl rfl ?_
          refine WL_ac (Ac_call cf26 rfl (hs := hI_pop_hp hcfO (hlessO _ by_) (s := ()) (x := x))) rfl rfl rfl ?_
          rintro _ _ ⟨⟨⟩, rfl, hA⟩
          simp only [List.cons_append, List.nil_append] at hA
          replace hA := hA.symm
          subst hA
          refine WL_rd (Rd_move rfl) rfl rfl rfl ?_
          refine WL_rd (Rd_ext0 rfl) rfl rfl rfl ?_
          refine WL_rd (Rd_ext1 rfl) rfl rfl rfl ?_
          refine WL_rd (Rd_assign rfl) rfl rfl rfl ?_
          refine WL_rd (Rd_assign rfl) rfl rfl rfl ?_
          refine WL_end hK17 ?_
          refine WC_region ?_
          refine WL_rd (Rd_move rfl) rfl rfl rfl ?_
          refine WL_rd (Rd_move rfl) rfl rfl rfl ?_
          refine WL_ac (Ac_bs1 rfl ud46 zr3 sz3) rfl rfl rfl ?_
          rintro _ _ ⟨b41, rfl, rfl⟩
          refine WL_ac (Ac_append1 (f := (eInt .i64)) encZ x.2 rfl rfl ud46 ud46 el3) rfl rfl rfl ?_
          rintro _ _ ⟨a42, cap42, rfl, rfl⟩
          rw [show out.map (·.2) ++ [x.2] = (out ++ [x]).map (·.2) from by rw [List.map_append]; rfl, show (out.map (·.2)).length + 1 = ((out ++ [x]).map (·.2)).length from by simp]
          refine WL_rd (Rd_assign rfl) rfl rfl rfl ?_
          refine WL_nil ?_
          refine Ps_wk (by (try simp only [List.cons_append, List.nil_append]); repeat (first | with_reducible exact Wk.nil | refine Wk.cons (by first | rfl | (simp only [List.length_append, List.length_cons, List.length_nil, List.length_replicate, Nat.zero_add]; rfl) | (simp; done)) ?_)) (by (try simp only [List.cons_append, List.nil_append]); repeat (first | with_reducible exact Sub.refl | with_reducible exact Sub.nil | with_reducible refine Sub.cons (by repeat (first | with_reducible exact Ext.here | with_reducible apply Ext.there)) ?_ | with_reducible refine Sub.tail ?_)) (hK14 ⟨(takeM (pl (ltz by_)) () rows2 0).1, out ++ [x], a42, cap42⟩ (⟨Outs_heap (ltz_od by_) hO hH2 hx, takeM_Hp (ltz_od by_) () (by omega) hH2⟩) (by (try dsimp only); rw [takeM_len]; omega))
        · try simp only [decide_eq_true_eq, decide_eq_false_iff_not, Bool.not_eq_true', Bool.not_eq_false', Bool.not_eq_true, Bool.not_eq_false, Int.not_lt, Int.not_le, Nat.not_lt, Nat.not_le, Decidable.not_not, ne_eq] at hc2
          obtain rfl : rows2 = [] := List.eq_nil_of_length_eq_zero (by omega)
          rw [Outs_end (ltz_od by_) hO]
          refine WC_exit ?_
          refine Ps_next hK13 ?_
          refine WC_sr fun K18 hK18 => ?_
          refine WL_rd (Rd_move rfl) rfl rfl rfl ?_
          refine WL_rd (Rd_assign rfl) rfl rfl rfl ?_
          refine WL_rd (Rd_assign rfl) rfl rfl rfl ?_
          refine WL_end hK18 ?_
          refine WC_ret ?_
          exact hret.go (a2, c2) (Rs2 rfl rfl rfl)
end Go.Proofs.Ytcookmkklcbbnaa
