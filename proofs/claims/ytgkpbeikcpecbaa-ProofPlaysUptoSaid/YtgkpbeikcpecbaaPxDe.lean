/-
  Contracts of functions that the claim reaches, or the logic and the plain laws that they rest on, or the row over them. (Conditions: none beyond the statement.)
-/
import Derived.Test.YtgkpbeikcpecbaaPxDd
set_option linter.all false
namespace Go.Proofs.Ytgkpbeikcpecbaa
open Go.RowKit Go.SL Go.ShM
set_option maxHeartbeats 1000000
set_option maxRecDepth 20000
set_option linter.all false
theorem cf154 : cfn Try.prog 154 = true := by kernel_rfl
theorem sameN_ct {X : Asn} {v v' : Value} {la lb : List Nd} {ao ao' : Option Addr} {cap2 cap2' : Nat} (hS : Sv [X] v 33 eND la ao cap2 := by assumption) (hS' : Sv [X] v' 33 eND lb ao' cap2' := by assumption) (hll : la.length ≤ 900000000 := by omega) (hll' : lb.length ≤ 900000000 := by omega) : Ct Try.prog 154 [v, v'] [X] (fun _ : Unit => .bool (decide (la = lb))) (fun _ => [X]) := by
 refine Ct_body (n := 26) Try.func154 rfl rfl rfl fun F w0 Q hret hnorm hp => ?_
 change WC _ _ _ _ _ _ _ (_ :: F)
 refine WC_sr fun K1 hK1 => ?_
 refine WL_r (Rd_assign rfl) rfl ?_
 refine WL_end hK1 ?_
 refine WC_seq fun K2 hK2 => ?_
 refine WC_sr fun K3 hK3 => ?_
 refine WL_r (Rd_move rfl) rfl ?_
 refine WL_r (Rd_len_sv rfl rfl ud120 (hA := hS)) rfl ?_
 refine WL_r (Rd_move rfl) rfl ?_
 refine WL_r (Rd_len_sv rfl rfl ud120 (hA := hS')) rfl ?_
 refine WL_r (Rd_neqN rfl rfl) rfl ?_
 refine WL_end hK3 ?_
 refine WC_cond rfl (fun hc0 => ?_) (fun hc0 => ?_)
 ·try simp only [dz, ne_eq] at hc0
  rw [decide_eq_false (fun e => hc0 (by rw [e]))] at hret
  refine WC_sr fun K4 hK4 => ?_
  refine WL_r (Rd_assign rfl) rfl ?_
  refine WL_end hK4 ?_
  refine WC_ret ?_
  exact hret.gf () (Rs1 rfl rfl)
 ·try simp only [dz, ne_eq] at hc0
  refine WC_skip ?_
  refine Ps_next hK2 ?_
  refine WC_seq fun K5 hK5 => ?_
  refine WC_sr fun K6 hK6 => ?_
  refine WL_r (Rd_assign rfl) rfl ?_
  refine WL_end hK6 ?_
  refine WC_block ?_
  refine WC_loopK (σ := Nat) (fun j => [(5, .int .i64 ((j : Nat) : Int))]) (fun j => []) (fun j => j ≤ la.length ∧ la.take j = lb.take j) (fun j => la.length - j) (0) [0, 1] kpA (by (try dsimp only); repeat (first | with_reducible exact Gv.nil | (with_reducible apply Gv.cons; · (repeat (first | with_reducible exact Ext.here | with_reducible apply Ext.there))))) ?_ ?_ Sub.refl ?_
  ·exact ⟨Nat.zero_le _, rfl⟩
  ·(try dsimp only); exact (Wk.cons lkA Wk.nil)
  ·rintro j ⟨hj, htk⟩ K7 hK7
   simp only [List.cons_append, List.nil_append]
   refine WC_seq fun K8 hK8 => ?_
   refine WC_sr fun K9 hK9 => ?_
   refine WL_r (Rd_move rfl) rfl ?_
   refine WL_r (Rd_move rfl) rfl ?_
   refine WL_r (Rd_len_sv rfl rfl ud120 (hA := hS)) rfl ?_
   refine WL_r (Rd_lssN rfl rfl) rfl ?_
   refine WL_end hK9 ?_
   refine WC_cond rfl (fun hc1 => ?_) (fun hc1 => ?_)
   ·try simp only [dz, ne_eq] at hc1
    obtain ⟨x, hx⟩ : ∃ x, la[j]? = some x := ⟨_, List.getElem?_eq_getElem (by omega)⟩
    obtain ⟨y, hy⟩ : ∃ y, lb[j]? = some y := ⟨_, List.getElem?_eq_getElem (by omega)⟩
    refine WC_skip ?_
    refine Ps_next hK8 ?_
    refine WC_seq fun K10 hK10 => ?_
    refine WC_block ?_
    refine WC_seq fun K11 hK11 => ?_
    refine WC_drawA mix (fun i => ([2, 2, 2, 2, 2, 2, 2, 2, 2] : List Nat).getD i 0) ?_
    refine WJ_tp 0 rfl (Rd_move rfl) rfl (hp _ _) ?_
    refine WJ_tp 1 rfl (Rd_move rfl) rfl (hp _ _) ?_
    refine WJ_tp 2 rfl (Rd_index_sv (j) rfl rfl ud120 sz133 (hA := hS) (hj := by omega) (hi := by omega)) rfl (hp _ _) ?_
    refine WJ_tk 3 (Rd_loadg_sv (f := eND) (i := j) rfl tk133 (hA := hS) (hl := hx)) hp ?_ rfl (by kernel_rfl) rfl rfl rfl
    refine WJ_tp 4 rfl (Rd_move rfl) rfl (hp _ _) ?_
    refine WJ_tp 5 rfl (Rd_move rfl) rfl (hp _ _) ?_
    refine WJ_tp 6 rfl (Rd_index_sv (j) rfl rfl ud120 sz133 (hA := hS') (hj := by omega) (hi := by omega)) rfl (hp _ _) ?_
    refine WJ_tk 7 (Rd_loadg_sv (f := eND) (i := j) rfl tk133 (hA := hS') (hl := hy)) hp ?_ rfl (by kernel_rfl) rfl rfl rfl
    refine WJ_tp 8 rfl (Rd_neNd (a := x) (b := y) rfl rfl fls133 tk3 ud3 tk42 ais42) rfl (hp _ _) ?_
    refine WJ_done (by kernel_rfl) ?_
    refine Ps_next hK11 ?_
    refine WC_cond rfl (fun hc2 => ?_) (fun hc2 => ?_)
    ·try simp only [dz, ne_eq] at hc2
     rw [decide_eq_false (fun e => by subst e; rw [hx] at hy; cases hy; simp at hc2)] at hret
     refine WC_sr fun K12 hK12 => ?_
     refine WL_r (Rd_assign rfl) rfl ?_
     refine WL_end hK12 ?_
     refine WC_ret ?_
     exact hret.gf () (Rs1 rfl rfl)
    ·try simp only [dz, ne_eq] at hc2
     refine WC_skip ?_
     refine Ps_next hK10 ?_
     refine WC_region ?_
     refine WL_r (Rd_move rfl) rfl ?_
     refine WL_r (Rd_addN (j := 1) rfl rfl) rfl ?_
     refine WL_r (Rd_assign rfl) rfl ?_
     refine WL_nil ?_
     refine Ps_wkB (hK7 (j + 1) (⟨by omega, by rw [← take_nx hx, ← take_nx hy, htk, show x = y from by simpa using hc2]⟩) (by omega))
   ·try simp only [dz, ne_eq] at hc1
    rw [decide_eq_true (by rw [← List.take_of_length_le (show la.length ≤ j by omega), htk, List.take_of_length_le (by omega)] : la = lb)] at hret
    refine WC_exit ?_
    refine Ps_next hK5 ?_
    refine WC_sr fun K13 hK13 => ?_
    refine WL_r (Rd_assign rfl) rfl ?_
    refine WL_end hK13 ?_
    refine WC_ret ?_
    exact hret.gf () (Rs1 rfl rfl)

theorem lput_ct {pb m n w : Nat} {Kn : KM} {X : Asn} {v : Value} {l : List Nd} {ao : Option Addr} {cap2 : Nat} (hS : Sv [X] v 33 eND l ao cap2 := by assumption) (hs : SupK w Kn) (hn1 : 1 ≤ n) (hw1 : 1 ≤ w) (hw2 : w ≤ 100000 := by omega) (hll : l.length ≤ 800000000 := by omega) : Ct Try.prog 150 [.pointer (some ⟨pb, 0, none⟩), v] [cl pb 161 [.int .i64 ((n : Nat) : Int), .int .i64 ((w : Nat) : Int), .map (some m)], mpI m (kv Kn), X] (fun _ : Unit => .tuple #[.int .i64 ((putS w Kn l).1), .bool true]) (fun _ => [cl pb 161 [.int .i64 ((n : Nat) : Int), .int .i64 ((w : Nat) : Int), .map (some m)], mpI m (kv (putK w Kn l)), X]) := by
 refine Ct_body (n := 65) Try.func150 rfl rfl rfl fun F w0 Q hret hnorm hp => ?_
 change WC _ _ _ _ _ _ _ (_ :: _ :: _ :: F)
 have hmk := Dg_len mrkD
 have hov := Dg_len ovrD
 have hfl : (l ++ [((77 : Int), mrkD), ((77 : Int), mrkD)]).length = l.length + 2 := by simp
 refine WC_sr fun K1 hK1 => ?_
 refine WL_r (Rd_assign rfl) rfl ?_
 refine WL_r (Rd_assign rfl) rfl ?_
 refine WL_end hK1 ?_
 refine WC_sr fun K2 hK2 => ?_
 refine WL_r (Rd_assign (v := sl none 0 0) rfl) rfl ?_
 refine WL_nilarr eND 33 133 ?_
 refine WL_end hK2 ?_
 refine WC_sr fun K3 hK3 => ?_
 refine WL_r (Rd_move rfl) rfl ?_
 refine WL_r (Rd_move rfl) rfl ?_
 refine WL_ac (Ac_appendS (f := eND) encND rfl rfl ud120 ud120 el133 (a := none) (cap := 0) (l := []) (l2 := l) (hS := hS) (hb := by simp only [List.length_nil]; omega)) rfl rfl rfl ?_
 rintro _ _ ⟨a13, cap13, rfl, rfl⟩
 rw [List.nil_append, show ([] : List Nd).length + l.length = l.length from Nat.zero_add _]
 refine WL_r (Rd_assign rfl) rfl ?_
 refine WL_end hK3 ?_
 refine WC_sr fun K4 hK4 => ?_
 refine WL_r (Rd_aU (k := .u8) (l := mrkD.1) (Rd_build pls42 rfl) (by rfl)) rfl ?_
 refine WL_r (Rd_build pls133 rfl (hf := fillND (i := 77) (d := mrkD) rfl)) rfl ?_
 refine WL_ac (Ac_alloc zr133) rfl rfl rfl ?_
 rintro _ _ ⟨b7, rfl, rfl⟩
 refine WL_ac0 (Ac_store (ys := eND ((77 : Int), mrkD)) rfl rfl sz133 (hv := by show (eND ((77 : Int), mrkD)).toArray.size = 33; rw [List.size_toArray, encND.len]) (h1 := encND.one ((77 : Int), mrkD)) (hr := by show ([] ++ eND ((77 : Int), mrkD)) ++ [] = eND ((77 : Int), mrkD); rw [List.append_nil]; rfl)) rfl rfl ?_
 rintro _ _ rfl
 refine WL_end hK4 ?_
 refine WC_sr fun K5 hK5 => ?_
 refine WL_r (Rd_move rfl) rfl ?_
 refine WL_r (Rd_loadg (vs := eND ((77 : Int), mrkD)) rfl tk133 (hl := by rw [encND.len]; decide) (hi := by rw [List.drop_zero, List.take_of_length_le (by rw [encND.len]; decide)])) rfl ?_
 refine WL_r (Rd_loadg (vs := eND ((77 : Int), mrkD)) rfl tk133 (hl := by rw [encND.len]; decide) (hi := by rw [List.drop_zero, List.take_of_length_le (by rw [encND.len]; decide)])) rfl ?_
 refine WL_ac (Ac_bsF ([((77 : Int), mrkD), ((77 : Int), mrkD)] : List Nd) nodV encND nodV_cells ud120 zr133 sz133 rfl rfl rfl rfl) rfl rfl rfl ?_
 rintro _ _ ⟨b19, rfl, rfl⟩
 have hS19 := Sv_own' (a := some b19) (cap := 2) (T := 133) (l := [((77 : Int), mrkD), ((77 : Int), mrkD)]) encND (fun e => by cases e) (Nat.le_refl _)
 refine WL_ac (Ac_appendS (f := eND) encND rfl rfl ud120 ud120 el133 (l := l) (l2 := [((77 : Int), mrkD), ((77 : Int), mrkD)]) (hS := hS19) (hb := by simp; omega)) rfl rfl rfl ?_
 rintro _ _ ⟨a20, cap20, rfl, rfl⟩
 rw [show l.length + [((77 : Int), mrkD), ((77 : Int), mrkD)].length = (l ++ [((77 : Int), mrkD), ((77 : Int), mrkD)]).length from List.length_append.symm]
 refine WL_r (Rd_assign rfl) rfl ?_
 refine WL_end hK5 ?_
 refine WC_sr fun K6 hK6 => ?_
 refine WL_r (Rd_move rfl) rfl ?_
 refine WL_r (Rd_move rfl) rfl ?_
 refine WL_r (Rd_move rfl) rfl ?_
 refine WL_r (Rd_len_sv rfl rfl ud120 (hA := hS)) rfl ?_
 refine WL_fact (fun w h => arr_facts (a := a20) (cap := cap20) (e := 33) (T := 133) (f := eND) (l := (l ++ [((77 : Int), mrkD), ((77 : Int), mrkD)])) hasA h) (fun hSff => ?_)
 have hSf : Sv [arr a20 cap20 33 133 eND (l ++ [((77 : Int), mrkD), ((77 : Int), mrkD)])] (sl a20 (l ++ [((77 : Int), mrkD), ((77 : Int), mrkD)]).length cap20) 33 eND (l ++ [((77 : Int), mrkD), ((77 : Int), mrkD)]) (a20.map fun g => ⟨g, 0, none⟩) cap20 := Sv_own' encND hSff.1 hSff.2
 have hSfc := hSff.2
 have hSp : Sv [arr a20 cap20 33 133 eND (l ++ [((77 : Int), mrkD), ((77 : Int), mrkD)])] (sl a20 l.length cap20) 33 eND l (a20.map fun g => ⟨g, 0, none⟩) cap20 := Sv_pre encND (List.prefix_append _ _) hSff.1 hSff.2
 refine WL_r (Rd_slice_hi l.length rfl rfl ud120 sz133 (hi := by omega)) rfl ?_
 refine WL_ac (Ac_call cf74 rfl (hs := pPut_ct (pb := pb) (m := m) (n := n) (w := w) (Kn := Kn) (X := arr a20 cap20 33 133 eND (l ++ [((77 : Int), mrkD), ((77 : Int), mrkD)])) (v := sl a20 l.length cap20) (l := l) (hS := hSp) (hs := hs) (hn1 := hn1) (hw1 := hw1))) rfl rfl rfl ?_
 rintro _ _ ⟨⟨⟩, rfl, hA⟩
 simp only [List.cons_append, List.nil_append] at hA
 replace hA := hA.symm
 subst hA
 refine WL_r (Rd_assign rfl) rfl ?_
 refine WL_end hK6 ?_
 refine WC_seq fun K7 hK7 => ?_
 refine WC_some (a := a20) hasA (by omega) (fun gf hgf _ => ?_)
 subst hgf
 refine WC_drawA mix (fun i => ([2, 2, 2, 2, 2, 1, 2, 2, 2, 2, 2, 2, 2, 2, 2, 2, 2, 2, 2, 2, 2, 2, 2, 2, 2, 2] : List Nat).getD i 0) ?_
 refine WJ_tp 0 rfl (Rd_move rfl) rfl (hp _ _) ?_
 refine WJ_tp 1 rfl (Rd_move rfl) rfl (hp _ _) ?_
 refine WJ_tp 2 rfl (Rd_len_sv rfl rfl ud120 (hA := hS)) rfl (hp _ _) ?_
 refine WJ_tp 3 rfl (Rd_slice_hi l.length rfl rfl ud120 sz133 (hi := by omega)) rfl (hp _ _) ?_
 refine WJ_tp 4 rfl (Rd_move rfl) rfl (hp _ _) ?_
 refine WJ_all (rs := [5]) (by kernel_rfl) rfl ?_
 refine WI_one ?_
 refine WI_ac rfl (Ac_call cf154 rfl (hs := Ct.un0 (Xs := [arr (some gf) cap20 33 133 eND (l ++ [((77 : Int), mrkD), ((77 : Int), mrkD)]), X]) (sameN_ct (X := sep [arr (some gf) cap20 33 133 eND (l ++ [((77 : Int), mrkD), ((77 : Int), mrkD)]), X]) (la := l) (lb := l) (hS := hSp.pk hasA) (hS' := hS.pk hasA)))) rfl rfl rfl rfl ?_
 rintro _ _ ⟨⟨⟩, rfl, hA⟩
 simp only [List.cons_append, List.nil_append] at hA
 replace hA := hA.symm
 subst hA
 rw [decide_eq_true (rfl : l = l)]
 refine ⟨(fun _ => subA), ?_⟩
 refine WJ_tp 6 rfl (Rd_move rfl) rfl (hp _ _) ?_
 refine WJ_tp 7 rfl (Rd_move rfl) rfl (hp _ _) ?_
 refine WJ_tp 8 rfl (Rd_move rfl) rfl (hp _ _) ?_
 refine WJ_tp 9 rfl (Rd_len_sv rfl rfl ud120 (hA := hS)) rfl (hp _ _) ?_
 refine WJ_tp 10 rfl (Rd_index l.length rfl rfl ud120 sz133 (hi := by omega)) rfl (hp _ _) ?_
 refine WJ_tk 11 (Rd_loadg_arr (f := eND) (i := l.length) rfl tk133 (hl := (by rw [List.getElem?_append_right (Nat.le_refl _), Nat.sub_self]; rfl : (l ++ [((77 : Int), mrkD), ((77 : Int), mrkD)])[l.length]? = some ((77 : Int), mrkD)))) hp ?_ rfl (by kernel_rfl) rfl rfl rfl
 refine WJ_tk 12 (Rd_loadg (vs := eND ((77 : Int), mrkD)) rfl tk133 (hl := by rw [encND.len]; decide) (hi := by rw [List.drop_zero, List.take_of_length_le (by rw [encND.len]; decide)])) hp ?_ rfl (by kernel_rfl) rfl rfl rfl
 refine WJ_tp 13 rfl (Rd_isT (Rd_eqNd (a := ((77 : Int), mrkD)) (b := ((77 : Int), mrkD)) rfl rfl fls133 tk3 ud3 tk42 ais42) (by simp)) rfl (hp _ _) ?_
 refine WJ_tp 14 rfl (Rd_pickT rfl rfl) rfl (hp _ _) ?_
 refine WJ_tp 15 rfl (Rd_move rfl) rfl (hp _ _) ?_
 refine WJ_tp 16 rfl (Rd_move rfl) rfl (hp _ _) ?_
 refine WJ_tp 17 rfl (Rd_move rfl) rfl (hp _ _) ?_
 refine WJ_tp 18 rfl (Rd_len_sv rfl rfl ud120 (hA := hS)) rfl (hp _ _) ?_
 refine WJ_tp 19 rfl (Rd_addN (j := 1) rfl rfl) rfl (hp _ _) ?_
 refine WJ_tp 20 rfl (Rd_index (l.length + 1) rfl rfl ud120 sz133 (hi := by omega)) rfl (hp _ _) ?_
 refine WJ_tk 21 (Rd_loadg_arr (f := eND) (i := l.length + 1) rfl tk133 (hl := (by rw [List.getElem?_append_right (by omega), Nat.add_sub_cancel_left]; rfl : (l ++ [((77 : Int), mrkD), ((77 : Int), mrkD)])[l.length + 1]? = some ((77 : Int), mrkD)))) hp ?_ rfl (by kernel_rfl) rfl rfl rfl
 refine WJ_tk 22 (Rd_loadg (vs := eND ((77 : Int), mrkD)) rfl tk133 (hl := by rw [encND.len]; decide) (hi := by rw [List.drop_zero, List.take_of_length_le (by rw [encND.len]; decide)])) hp ?_ rfl (by kernel_rfl) rfl rfl rfl
 refine WJ_tp 23 rfl (Rd_isT (Rd_eqNd (a := ((77 : Int), mrkD)) (b := ((77 : Int), mrkD)) rfl rfl fls133 tk3 ud3 tk42 ais42) (by simp)) rfl (hp _ _) ?_
 refine WJ_tp 24 rfl (Rd_pickT rfl rfl) rfl (hp _ _) ?_
 refine WJ_tp 25 rfl (Rd_assign rfl) rfl (hp _ _) ?_
 refine WJ_done (by kernel_rfl) ?_
 refine Ps_next hK7 ?_
 refine WC_seq fun K8 hK8 => ?_
 refine WC_sr fun K9 hK9 => ?_
 refine WL_r (Rd_assign rfl) rfl ?_
 refine WL_end hK9 ?_
 refine WC_block ?_
 refine WC_loopK (σ := Nat × (List Nd)) (fun ⟨j, fl⟩ => [(10, .int .i64 ((j : Nat) : Int))]) (fun ⟨j, fl⟩ => [arr (some gf) cap20 33 133 eND fl]) (fun ⟨j, fl⟩ => fl.length = l.length + 2) (fun ⟨j, fl⟩ => l.length + 2 - j) ⟨0, (l ++ [((77 : Int), mrkD), ((77 : Int), mrkD)])⟩ [4, 5, 6, 8, 9, 63, 64] kpA (by (try dsimp only); repeat (first | with_reducible exact Gv.nil | (with_reducible apply Gv.cons; · (repeat (first | with_reducible exact Ext.here | with_reducible apply Ext.there))))) ?_ ?_ Sub.refl ?_
 ·exact hfl
 ·(try dsimp only); exact (Wk.cons lkA Wk.nil)
 ·rintro ⟨j, fl⟩ hfl2 K10 hK10
  simp only [List.cons_append, List.nil_append]
  refine WC_seq fun K11 hK11 => ?_
  refine WC_sr fun K12 hK12 => ?_
  refine WL_r (Rd_move rfl) rfl ?_
  refine WL_r (Rd_move rfl) rfl ?_
  refine WL_r (Rd_len rfl rfl ud120) rfl ?_
  refine WL_r (Rd_lssN rfl rfl) rfl ?_
  refine WL_end hK12 ?_
  refine WC_cond rfl (fun hc0 => ?_) (fun hc0 => ?_)
  ·try simp only [dz, ne_eq] at hc0
   refine WC_skip ?_
   refine Ps_next hK11 ?_
   refine WC_seq fun K13 hK13 => ?_
   refine WC_block ?_
   refine WC_region ?_
   refine WL_r (Rd_move rfl) rfl ?_
   refine WL_r (Rd_move rfl) rfl ?_
   refine WL_r (Rd_aU (k := .u8) (l := ovrD.1) (Rd_build pls42 rfl) (by rfl)) rfl ?_
   refine WL_r (Rd_build pls133 rfl (hf := fillND (i := 1) (d := ovrD) rfl)) rfl ?_
   refine WL_r (Rd_index j rfl rfl ud120 sz133 (hi := by omega)) rfl ?_
   refine WL_ac0 (Ac_storeg_arr ((1 : Int), ovrD) rfl rfl sz133 (i := j) (h1 := encND.one _)) rfl rfl ?_
   rintro _ _ rfl
   refine WL_nil ?_
   refine Ps_next hK13 ?_
   refine WC_region ?_
   refine WL_r (Rd_move rfl) rfl ?_
   refine WL_r (Rd_addN (j := 1) rfl rfl) rfl ?_
   refine WL_r (Rd_assign rfl) rfl ?_
   refine WL_nil ?_
   refine Ps_wkB (hK10 ⟨j + 1, fl.set j ((1 : Int), ovrD)⟩ (by (try dsimp only); rw [List.length_set]; exact hfl2) (by (try dsimp only); omega))
  ·try simp only [dz, ne_eq] at hc0
   refine WC_exit ?_
   refine Ps_next hK8 ?_
   refine WC_sr fun K14 hK14 => ?_
   refine WL_r (Rd_move rfl) rfl ?_
   refine WL_r (Rd_move rfl) rfl ?_
   refine WL_r (Rd_assign rfl) rfl ?_
   refine WL_r (Rd_assign rfl) rfl ?_
   refine WL_end hK14 ?_
   refine WC_ret ?_
   exact hret.gf () (Rs2 rfl rfl rfl)

theorem twice_ct {pb m qb gi ci gd cd n w : Nat} {Kn : KM} {X : Asn} {v : Value} {l : List Nd} {ao : Option Addr} {cap2 : Nat} (hS : Sv [X] v 33 eND l ao cap2 := by assumption) (hs : SupK w Kn) (hr : (Kn 1).isSome = true) (hn1 : 1 ≤ n) (hw1 : 1 ≤ w) (hw2 : w ≤ 100000 := by omega) (hll : l.length ≤ 800000000 := by omega) : Ct Try.prog 151 [.pointer (some ⟨pb, 0, none⟩), .pointer (some ⟨qb, 0, none⟩), v] [cl pb 161 [.int .i64 ((n : Nat) : Int), .int .i64 ((w : Nat) : Int), .map (some m)], mpI m (kv Kn), cl qb 136 [.int .i64 ((n : Nat) : Int), .int .i64 ((w : Nat) : Int), sl (some gi) (2 * w) ci, sl (some gd) (2 * w) cd], arr (some gi) ci 1 4 eBool (isL Kn w), arr (some gd) cd 32 42 fD (dgL Kn w), X] (fun g : Nat × Nat × Nat × Nat => .bool true) (fun g => [cl pb 161 [.int .i64 ((n : Nat) : Int), .int .i64 ((w : Nat) : Int), .map (some m)], mpI m (kv (putK w (putK w Kn l) (bkL l))), cl qb 136 [.int .i64 ((n : Nat) : Int), .int .i64 ((w : Nat) : Int), sl (some g.1) (2 * w) g.2.1, sl (some g.2.2.1) (2 * w) g.2.2.2], arr (some g.1) g.2.1 1 4 eBool (isL (putK w (putK w Kn l) (bkL l)) w), arr (some g.2.2.1) g.2.2.2 32 42 fD (dgL (putK w (putK w Kn l) (bkL l)) w), X]) := by
 refine Ct_body (n := 74) Try.func151 rfl rfl rfl fun F w0 Q hret hnorm hp => ?_
 change WC _ _ _ _ _ _ _ (_ :: _ :: _ :: _ :: _ :: _ :: F)
 have hbl := bkL_len l
 have hp1 := put_same l hs hw1 hr
 have hs1 := putK_sup (l := l) hs hw1
 have hr1 : ((putK w Kn l) 1).isSome = true := by obtain ⟨d, hd⟩ := Option.isSome_iff_exists.1 hr; rw [putK_le (l := l) hs hw1 _ _ hd]; rfl
 have hp2 := put_same (bkL l) hs1 hw1 hr1
 refine WC_sr fun K1 hK1 => ?_
 refine WL_r (Rd_assign rfl) rfl ?_
 refine WL_end hK1 ?_
 refine WC_sr fun K2 hK2 => ?_
 refine WL_r (Rd_assign (v := sl none 0 0) rfl) rfl ?_
 refine WL_nilarr eND 33 133 ?_
 refine WL_r (Rd_assign (v := sl none 0 0) rfl) rfl ?_
 refine WL_nilarr eND 33 133 ?_
 refine WL_end hK2 ?_
 refine WC_sr fun K3 hK3 => ?_
 refine WL_r (Rd_move rfl) rfl ?_
 refine WL_r (Rd_move rfl) rfl ?_
 refine WL_ac (Ac_appendS (f := eND) encND rfl rfl ud120 ud120 el133 (a := none) (cap := 0) (l := []) (l2 := l) (hS := hS) (hb := by simp only [List.length_nil]; omega)) rfl rfl rfl ?_
 rintro _ _ ⟨a16, cap16, rfl, rfl⟩
 rw [List.nil_append, show ([] : List Nd).length + l.length = l.length from Nat.zero_add _]
 refine WL_r (Rd_assign rfl) rfl ?_
 refine WL_end hK3 ?_
 refine WC_seq fun K4 hK4 => ?_
 refine WC_sr fun K5 hK5 => ?_
 refine WL_r (Rd_move rfl) rfl ?_
 refine WL_r (Rd_len_sv rfl rfl ud120 (hA := hS)) rfl ?_
 refine WL_r (Rd_sub' (r := (((l.length : Nat) : Int) - 1 - ((0 : Nat) : Int))) rfl rfl (wr64 (by omega) (by omega) (by omega))) rfl ?_
 refine WL_r (Rd_assign rfl) rfl ?_
 refine WL_end hK5 ?_
 refine WC_block ?_
 rw [show sl none 0 0 = sl none ((bkL l).take 0).length 0 from rfl, show ([] : List Nd) = ((bkL l).take 0) from rfl]
 refine WC_loopK (σ := Nat × (Option Nat) × Nat) (fun ⟨j, a, c⟩ => [(8, sl a ((bkL l).take j).length c), (9, .int .i64 (((l.length : Nat) : Int) - 1 - ((j : Nat) : Int)))]) (fun ⟨j, a, c⟩ => [arr a c 33 133 eND ((bkL l).take j)]) (fun ⟨j, a, c⟩ => j ≤ l.length) (fun ⟨j, a, c⟩ => l.length - j) ⟨0, none, 0⟩ [0, 1, 2, 6, 7, 10, 11, 12, 13, 42, 43, 44, 45, 46, 47, 48, 49, 50, 51, 52, 53, 54, 55, 56, 57, 58, 59, 60, 61, 62, 63, 64, 65, 66, 67, 68, 69, 70, 71, 72, 73] kpA (by (try dsimp only); repeat (first | with_reducible exact Gv.nil | (with_reducible apply Gv.cons; · (repeat (first | with_reducible exact Ext.here | with_reducible apply Ext.there))))) ?_ ?_ Sub.refl ?_
 ·exact Nat.zero_le _
 ·(try dsimp only); exact (Wk.cons lkA (Wk.cons lkA Wk.nil))
 ·rintro ⟨j, a, c⟩ hj K6 hK6
  simp only [List.cons_append, List.nil_append]
  have hjl : ((bkL l).take j).length ≤ l.length := by rw [List.length_take]; omega
  refine WC_seq fun K7 hK7 => ?_
  refine WC_sr fun K8 hK8 => ?_
  refine WL_r (Rd_move rfl) rfl ?_
  refine WL_r (Rd_geq rfl rfl) rfl ?_
  refine WL_end hK8 ?_
  refine WC_cond rfl (fun hc0 => ?_) (fun hc0 => ?_)
  ·try simp only [dz, ne_eq] at hc0
   obtain ⟨x, hx⟩ : ∃ x, l[l.length - 1 - j]? = some x := ⟨_, List.getElem?_eq_getElem (by omega)⟩
   obtain ⟨y, hy⟩ : ∃ y, l[j]? = some y := ⟨_, List.getElem?_eq_getElem (by omega)⟩
   have hyl := Dg_len y.2
   refine WC_skip ?_
   refine Ps_next hK7 ?_
   refine WC_seq fun K9 hK9 => ?_
   refine WC_block ?_
   refine WC_drawA mix (fun i => ([2, 2, 2, 2, 2, 2, 2, 2, 2, 2, 2, 2, 2, 2, 2, 2, 1, 0, 2] : List Nat).getD i 0) ?_
   refine WJ_tp 0 rfl (Rd_move rfl) rfl (hp _ _) ?_
   refine WJ_tp 1 rfl (Rd_move rfl) rfl (hp _ _) ?_
   refine WJ_tp 2 rfl (Rd_move rfl) rfl (hp _ _) ?_
   refine WJ_tp 3 rfl (Rd_index_sv (l.length - 1 - j) rfl rfl ud120 sz133 (hA := hS) (hj := by omega) (hi := by omega)) rfl (hp _ _) ?_
   refine WJ_tp 4 rfl (Rd_fieldAddr rfl fo133_0) rfl (hp _ _) ?_
   refine WJ_tp 6 rfl (Rd_move rfl) rfl (hp _ _) ?_
   refine WJ_tp 7 rfl (Rd_move rfl) rfl (hp _ _) ?_
   refine WJ_tp 8 rfl (Rd_len_sv rfl rfl ud120 (hA := hS)) rfl (hp _ _) ?_
   refine WJ_tp 9 rfl (Rd_sub' (r := ((l.length : Nat) : Int) - 1) rfl rfl (wr64 (by omega) (by omega) (by omega))) rfl (hp _ _) ?_
   refine WJ_tp 10 rfl (Rd_move rfl) rfl (hp _ _) ?_
   refine WJ_tp 11 rfl (Rd_sub' (r := ((j : Nat) : Int)) rfl rfl (wr64 (by omega) (by omega) (by omega))) rfl (hp _ _) ?_
   refine WJ_tp 12 rfl (Rd_index_sv (j) rfl rfl ud120 sz133 (hA := hS) (hj := by omega) (hi := by omega)) rfl (hp _ _) ?_
   refine WJ_tp 13 rfl (Rd_fieldAddr rfl fo133_1) rfl (hp _ _) ?_
   refine WJ_all (rs := [5, 14]) (by kernel_rfl) rfl ?_
   refine WI_cons ?_ (WI_cons ?_ (by intro _ h; cases h))
   ·skip
    refine WI_rd rfl (Rd_load_sv (f := eND) (i := l.length - 1 - j) (j := 0) (u := .int .i64 x.1) rfl tk3 (hA := hS) (hl := hx)) rfl rfl rfl (fun h => by cases h) ?_
    refine WJ_all (rs := [14]) (by kernel_rfl) rfl ?_
    refine WI_one ?_
    refine WI_rd rfl (Rd_aU (k := .u8) (l := y.2.1) (Rd_loadgp_sv rfl tk42 (i := j) (j := 1) (vs := fD y.2) (hA := hS) (hl := hy) (hjk := by rw [encND.len]; decide) (hv := eND_dg y)) rfl) rfl rfl rfl (fun h => by cases h) ?_
    refine WJ_tp 15 rfl (Rd_build pls133 rfl (hf := fillND (i := x.1) (d := y.2) rfl)) rfl (hp _ _) ?_
    refine WJ_all (rs := [16]) (by kernel_rfl) rfl ?_
    refine WI_one ?_
    refine WI_ac rfl (Ac_bs1 (xs := eND (x.1, y.2)) rfl ud120 zr133 sz133 (hl := encND.len _)) rfl rfl rfl rfl ?_
    rintro _ _ ⟨bq0, rfl, rfl⟩
    refine ⟨(fun _ => subA), ?_⟩
    refine WJ_all (rs := [17]) (by kernel_rfl) rfl ?_
    refine WI_one ?_
    refine WI_ac rfl (Ac_append1 (f := eND) encND (x.1, y.2) rfl rfl ud120 ud120 el133) rfl rfl rfl rfl ?_
    rintro _ _ ⟨a41, cap41, rfl, rfl⟩
    refine ⟨(fun h => by cases h), ?_⟩
    refine WJ_tp 18 rfl (Rd_assign rfl) rfl (hp _ _) ?_
    rw [show ((bkL l).take j).length + 1 = (((bkL l).take j) ++ [(x.1, y.2)]).length from by simp, take_nx (bkL_at hx hy)]
    refine WJ_done (by kernel_rfl) ?_
    refine Ps_next hK9 ?_
    refine WC_region ?_
    refine WL_r (Rd_move rfl) rfl ?_
    refine WL_r (Rd_sub' (r := (((l.length : Nat) : Int) - 1 - ((j + 1 : Nat) : Int))) rfl rfl (wr64 (by omega) (by omega) (by omega))) rfl ?_
    refine WL_r (Rd_assign rfl) rfl ?_
    refine WL_nil ?_
    refine Ps_wkB (hK6 ⟨j + 1, a41, cap41⟩ (by (try dsimp only); omega) (by (try dsimp only); omega))
   ·skip
    refine WI_rd rfl (Rd_aU (k := .u8) (l := y.2.1) (Rd_loadgp_sv rfl tk42 (i := j) (j := 1) (vs := fD y.2) (hA := hS) (hl := hy) (hjk := by rw [encND.len]; decide) (hv := eND_dg y)) rfl) rfl rfl rfl (fun h => by cases h) ?_
    refine WJ_all (rs := [5]) (by kernel_rfl) rfl ?_
    refine WI_one ?_
    refine WI_rd rfl (Rd_load_sv (f := eND) (i := l.length - 1 - j) (j := 0) (u := .int .i64 x.1) rfl tk3 (hA := hS) (hl := hx)) rfl rfl rfl (fun h => by cases h) ?_
    refine WJ_tp 15 rfl (Rd_build pls133 rfl (hf := fillND (i := x.1) (d := y.2) rfl)) rfl (hp _ _) ?_
    refine WJ_all (rs := [16]) (by kernel_rfl) rfl ?_
    refine WI_one ?_
    refine WI_ac rfl (Ac_bs1 (xs := eND (x.1, y.2)) rfl ud120 zr133 sz133 (hl := encND.len _)) rfl rfl rfl rfl ?_
    rintro _ _ ⟨bq0, rfl, rfl⟩
    refine ⟨(fun _ => subA), ?_⟩
    refine WJ_all (rs := [17]) (by kernel_rfl) rfl ?_
    refine WI_one ?_
    refine WI_ac rfl (Ac_append1 (f := eND) encND (x.1, y.2) rfl rfl ud120 ud120 el133) rfl rfl rfl rfl ?_
    rintro _ _ ⟨a41, cap41, rfl, rfl⟩
    refine ⟨(fun h => by cases h), ?_⟩
    refine WJ_tp 18 rfl (Rd_assign rfl) rfl (hp _ _) ?_
    rw [show ((bkL l).take j).length + 1 = (((bkL l).take j) ++ [(x.1, y.2)]).length from by simp, take_nx (bkL_at hx hy)]
    refine WJ_done (by kernel_rfl) ?_
    refine Ps_next hK9 ?_
    refine WC_region ?_
    refine WL_r (Rd_move rfl) rfl ?_
    refine WL_r (Rd_sub' (r := (((l.length : Nat) : Int) - 1 - ((j + 1 : Nat) : Int))) rfl rfl (wr64 (by omega) (by omega) (by omega))) rfl ?_
    refine WL_r (Rd_assign rfl) rfl ?_
    refine WL_nil ?_
    refine Ps_wkB (hK6 ⟨j + 1, a41, cap41⟩ (by (try dsimp only); omega) (by (try dsimp only); omega))
  ·try simp only [dz, ne_eq] at hc0
   obtain rfl : j = l.length := by omega
   rw [show ((bkL l).take l.length) = (bkL l) from List.take_of_length_le (by omega)]
   refine WC_exit ?_
   refine Ps_next hK4 ?_
   refine WC_sr fun K10 hK10 => ?_
   refine WL_r (Rd_move rfl) rfl ?_
   refine WL_r (Rd_move rfl) rfl ?_
   refine WL_ac (Ac_call cf79 rfl (hs := dPut_ct (qb := qb) (gi := gi) (ci := ci) (gd := gd) (cd := cd) (n := n) (w := w) (Kn := Kn) (X := X) (v := v) (l := l) (hS := hS) (hw1 := hw1) (hw := hw2) (hll := by omega))) rfl rfl rfl ?_
   rintro _ _ ⟨⟨gi2, ci2, gd2, cd2⟩, rfl, hA⟩
   simp only [List.cons_append, List.nil_append] at hA
   replace hA := hA.symm
   subst hA
   rw [← hp1.1, ← hp1.2]
   refine WL_r (Rd_assign rfl) rfl ?_
   refine WL_end hK10 ?_
   refine WC_sr fun K11 hK11 => ?_
   refine WL_r (Rd_move rfl) rfl ?_
   refine WL_r (Rd_move rfl) rfl ?_
   refine WL_fact (fun w h => arr_facts (a := a16) (cap := cap16) (e := 33) (T := 133) (f := eND) (l := l) hasA h) (fun hSof => ?_)
   have hSo : Sv [arr a16 cap16 33 133 eND l] (sl a16 l.length cap16) 33 eND l (a16.map fun g => ⟨g, 0, none⟩) cap16 := Sv_own' encND hSof.1 hSof.2
   refine WL_ac (Ac_call cf74 rfl (hs := pPut_ct (pb := pb) (m := m) (n := n) (w := w) (Kn := Kn) (X := arr a16 cap16 33 133 eND l) (v := sl a16 l.length cap16) (l := l) (hS := hSo) (hs := hs) (hn1 := hn1) (hw1 := hw1) (hll := by omega))) rfl rfl rfl ?_
   rintro _ _ ⟨⟨⟩, rfl, hA⟩
   simp only [List.cons_append, List.nil_append] at hA
   replace hA := hA.symm
   subst hA
   skip
   refine WL_r (Rd_assign rfl) rfl ?_
   refine WL_end hK11 ?_
   refine WC_seq fun K12 hK12 => ?_
   refine WC_sr fun K13 hK13 => ?_
   refine WL_r (Rd_assign rfl) rfl ?_
   refine WL_end hK13 ?_
   refine WC_block ?_
   rw [show arr a16 cap16 33 133 eND l = arr a16 cap16 33 133 eND ((bkL l).take 0 ++ l.drop 0) from rfl]
   refine WC_loopK (σ := Nat) (fun j => [(12, .int .i64 ((j : Nat) : Int))]) (fun j => [arr a16 cap16 33 133 eND ((bkL l).take j ++ l.drop j)]) (fun j => j ≤ l.length) (fun j => l.length - j) (0) [0, 1, 6, 7, 8, 10, 11, 13, 61, 62, 63, 64, 65, 66, 67, 68, 69, 70, 71, 72, 73] kpA (by (try dsimp only); repeat (first | with_reducible exact Gv.nil | (with_reducible apply Gv.cons; · (repeat (first | with_reducible exact Ext.here | with_reducible apply Ext.there))))) ?_ ?_ Sub.refl ?_
   ·exact Nat.zero_le _
   ·(try dsimp only); exact (Wk.cons lkA Wk.nil)
   ·rintro j hj K14 hK14
    simp only [List.cons_append, List.nil_append]
    refine WC_seq fun K15 hK15 => ?_
    refine WC_sr fun K16 hK16 => ?_
    refine WL_r (Rd_move rfl) rfl ?_
    refine WL_r (Rd_move rfl) rfl ?_
    refine WL_r (Rd_len rfl rfl ud120) rfl ?_
    refine WL_r (Rd_lssN rfl rfl) rfl ?_
    refine WL_end hK16 ?_
    refine WC_cond rfl (fun hc1 => ?_) (fun hc1 => ?_)
    ·try simp only [dz, ne_eq] at hc1
     obtain ⟨x, hx⟩ : ∃ x, (bkL l)[j]? = some x := ⟨_, List.getElem?_eq_getElem (by omega)⟩
     refine WC_some (a := a) hasA (by omega) (fun gx hgx _ => ?_)
     subst hgx
     refine WC_some (a := a16) hasA (by rw [List.length_append, List.length_take, List.length_drop]; omega) (fun gy hgy _ => ?_)
     subst hgy
     refine WC_skip ?_
     refine Ps_next hK15 ?_
     refine WC_seq fun K17 hK17 => ?_
     refine WC_block ?_
     refine WC_region ?_
     refine WL_r (Rd_move rfl) rfl ?_
     refine WL_r (Rd_move rfl) rfl ?_
     refine WL_r (Rd_move rfl) rfl ?_
     refine WL_r (Rd_move rfl) rfl ?_
     refine WL_r (Rd_index j rfl rfl ud120 sz133 (hi := by omega)) rfl ?_
     refine WL_r (Rd_loadg_arr (f := eND) (i := j) rfl tk133 (hl := hx)) rfl ?_
     refine WL_r (Rd_index j rfl rfl ud120 sz133 (hi := by omega)) rfl ?_
     refine WL_ac0 (Ac_storeg_arr x rfl rfl sz133 (i := j) (hl := by rw [List.length_append, List.length_take, List.length_drop]; omega) (h1 := encND.one _)) rfl rfl ?_
     rintro _ _ rfl
     rw [set_mid hbl.symm hx]
     refine WL_nil ?_
     refine Ps_next hK17 ?_
     refine WC_region ?_
     refine WL_r (Rd_move rfl) rfl ?_
     refine WL_r (Rd_addN (j := 1) rfl rfl) rfl ?_
     refine WL_r (Rd_assign rfl) rfl ?_
     refine WL_nil ?_
     refine Ps_wkB (hK14 (j + 1) (by omega) (by omega))
    ·try simp only [dz, ne_eq] at hc1
     obtain rfl : j = l.length := by omega
     rw [show ((bkL l).take l.length ++ l.drop l.length) = (bkL l) from by rw [List.take_of_length_le (by omega), List.drop_length, List.append_nil], show sl a16 l.length cap16 = sl a16 (bkL l).length cap16 from by rw [hbl]]
     refine WC_exit ?_
     refine Ps_next hK12 ?_
     refine WC_sr fun K18 hK18 => ?_
     refine WL_r (Rd_move rfl) rfl ?_
     refine WL_r (Rd_move rfl) rfl ?_
     refine WL_fact (fun w h => arr_facts (a := a) (cap := c) (e := 33) (T := 133) (f := eND) (l := (bkL l)) hasA h) (fun hSbf => ?_)
     have hSb : Sv [arr a c 33 133 eND (bkL l)] (sl a (bkL l).length c) 33 eND (bkL l) (a.map fun g => ⟨g, 0, none⟩) c := Sv_own' encND hSbf.1 hSbf.2
     refine WL_ac (Ac_call cf79 rfl (hs := dPut_ct (qb := qb) (gi := gi2) (ci := ci2) (gd := gd2) (cd := cd2) (n := n) (w := w) (Kn := (putK w Kn l)) (X := arr a c 33 133 eND (bkL l)) (v := sl a (bkL l).length c) (l := (bkL l)) (hS := hSb) (hw1 := hw1) (hw := hw2) (hll := by rw [bkL_len]; omega))) rfl rfl rfl ?_
     rintro _ _ ⟨⟨gi3, ci3, gd3, cd3⟩, rfl, hA⟩
     simp only [List.cons_append, List.nil_append] at hA
     replace hA := hA.symm
     subst hA
     rw [← hp2.1, ← hp2.2]
     refine WL_r (Rd_assign rfl) rfl ?_
     refine WL_end hK18 ?_
     refine WC_sr fun K19 hK19 => ?_
     refine WL_r (Rd_move rfl) rfl ?_
     refine WL_r (Rd_move rfl) rfl ?_
     refine WL_r (Rd_isT (Rd_eql rfl rfl) (by simp)) rfl ?_
     refine WL_r (Rd_move rfl) rfl ?_
     refine WL_r (Rd_move rfl) rfl ?_
     refine WL_r (Rd_move rfl) rfl ?_
     refine WL_fact (fun w h => arr_facts (a := a16) (cap := cap16) (e := 33) (T := 133) (f := eND) (l := (bkL l)) hasA h) (fun hSlf => ?_)
     have hSl : Sv [arr a16 cap16 33 133 eND (bkL l)] (sl a16 (bkL l).length cap16) 33 eND (bkL l) (a16.map fun g => ⟨g, 0, none⟩) cap16 := Sv_own' encND hSlf.1 hSlf.2
     refine WL_ac (Ac_call cf74 rfl (hs := pPut_ct (pb := pb) (m := m) (n := n) (w := w) (Kn := (putK w Kn l)) (X := arr a16 cap16 33 133 eND (bkL l)) (v := sl a16 (bkL l).length cap16) (l := (bkL l)) (hS := hSl) (hs := hs1) (hn1 := hn1) (hw1 := hw1) (hll := by rw [bkL_len]; omega))) rfl rfl rfl ?_
     rintro _ _ ⟨⟨⟩, rfl, hA⟩
     simp only [List.cons_append, List.nil_append] at hA
     replace hA := hA.symm
     subst hA
     refine WL_r (Rd_move rfl) rfl ?_
     refine WL_r (Rd_isT (Rd_eql rfl rfl) (by simp)) rfl ?_
     refine WL_r (Rd_pickT rfl rfl) rfl ?_
     refine WL_r (Rd_assign rfl) rfl ?_
     refine WL_end hK19 ?_
     refine WC_ret ?_
     exact hret.gf (gi3, ci3, gd3, cd3) (Rs1 rfl rfl)
end Go.Proofs.Ytgkpbeikcpecbaa
