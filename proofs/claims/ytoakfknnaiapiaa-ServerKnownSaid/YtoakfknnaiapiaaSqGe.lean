/-
  Contracts of functions that the claim reaches, or the logic and the plain laws that they rest on, or the row over them. (Conditions: none beyond the statement.)
-/
import Derived.Test.YtoakfknnaiapiaaSqGd
set_option linter.all false
namespace Go.Proofs.Ytoakfknnaiapiaa
open Go.RowKit Go.SL Go.ShM Go.SvM
set_option maxHeartbeats 1000000
set_option maxRecDepth 20000
set_option linter.all false
theorem cf47 : cfn Try.prog 47 = true := by kernel_rfl
theorem fo54_0 : fo Try.prog 54 0 = some (0, 3) := by kernel_rfl
theorem fo54_1 : fo Try.prog 54 1 = some (1, 3) := by kernel_rfl
theorem fo65_0 : fo Try.prog 65 0 = some (0, 24) := by kernel_rfl
theorem fo65_1 : fo Try.prog 65 1 = some (16, 3) := by kernel_rfl
theorem fo65_2 : fo Try.prog 65 2 = some (17, 28) := by kernel_rfl
theorem untilD_ct {n : Int} : Ct Try.prog 45 [.int .i64 n] [] (fun _ : Unit => .bool (decide (0 ≤ n ∧ n ≤ 1099511627776))) (fun _ => []) := by
  rw [show (decide (0 ≤ n ∧ n ≤ 1099511627776)) = (decide (0 ≤ n) && decide (n ≤ 1099511627776)) from Bool.decide_and _ _]
  exact until_ct
theorem numberD_ct {n : Int} : Ct Try.prog 46 [.int .i64 n] [] (fun _ : Unit => .bool (decide (0 ≤ n ∧ n < 255))) (fun _ => []) := by
  rw [show (decide (0 ≤ n ∧ n < 255)) = (decide (0 ≤ n) && decide (n < 255)) from Bool.decide_and _ _]
  exact number_ct

theorem load_no {X : Asn} {v : Value} {kvs : List KV} {ao : Option Addr} {cap : Nat} {room tick : Int} (hS : Sv [X] v 19 eKV kvs ao cap) (hOK : ∀ k ∈ kvs, OKv X k) (hn : kvs.length ≤ 100000000) (hlb : ∀ k ∈ kvs, k.ls.l.length ≤ 900000000000) (hroom : 0 ≤ room ∧ room ≤ 1073741824) (hno : ¬ Wf room ⟨tick, (kvs.map KV.kp)⟩) : Ct Try.prog 18 [(.agg [.int .i64 room, .int .i64 tick, v].toArray)] [X] (fun _ : Unit => .tuple #[.pointer none, .int .i64 192]) (fun _ => [X]) := by
 refine Ct_body (n := 120) Try.func18 rfl rfl rfl fun F w0 Q hret hnorm hp => ?_
 change WC _ _ _ _ _ _ _ (_ :: F)
 have hpl : (kvs.map KV.kp).length = kvs.length := List.length_map _
 refine WC_sr fun K1 hK1 => ?_
 refine WL_ac (Ac_box (xs := [.int .i64 room, .int .i64 tick, v]) rfl rfl) rfl rfl rfl ?_
 rintro _ _ ⟨b1, rfl, rfl⟩
 refine WL_r (Rd_assign rfl) rfl ?_
 refine WL_r (Rd_assign rfl) rfl ?_
 refine WL_end hK1 ?_
 refine WC_sr fun K2 hK2 => ?_
 refine WL_r (Rd_fieldAddr rfl fo54_0) rfl ?_
 refine WL_r (Rd_load rfl tk3) rfl ?_
 refine WL_ac (Ac_call cf8 rfl (hs := new_ct (room := room) hroom)) rfl rfl rfl ?_
 rintro _ _ ⟨⟨s16, m16⟩, rfl, hA⟩
 simp only [List.cons_append, List.nil_append] at hA
 replace hA := hA.symm
 subst hA
 refine WL_r (Rd_move rfl) rfl ?_
 refine WL_r (Rd_ext0 rfl) rfl ?_
 refine WL_r (Rd_ext1 rfl) rfl ?_
 refine WL_r (Rd_assign rfl) rfl ?_
 refine WL_r (Rd_assign rfl) rfl ?_
 refine WL_end hK2 ?_
 refine WC_seq fun K3 hK3 => ?_
 refine WC_sr fun K4 hK4 => ?_
 refine WL_r (Rd_move rfl) rfl ?_
 refine WL_r (Rd_neqN (i := 0) (j := 0) rfl rfl) rfl ?_
 refine WL_r (Rd_move rfl) rfl ?_
 refine WL_r (Rd_fieldAddr rfl fo54_1) rfl ?_
 refine WL_r (Rd_load rfl tk3) rfl ?_
 refine WL_ac (Ac_call cf45 rfl (hs := untilD_ct (n := tick))) rfl rfl rfl ?_
 rintro _ _ ⟨⟨⟩, rfl, hA⟩
 simp only [List.cons_append, List.nil_append] at hA
 replace hA := hA.symm
 subst hA
 refine WL_r (Rd_not rfl) rfl ?_
 refine WL_r (Rd_pickF rfl rfl) rfl ?_
 refine WL_end hK4 ?_
 refine WC_cond rfl (fun hc0 => ?_) (fun hc0 => ?_)
 ·try simp only [dz, ne_eq] at hc0
  refine WC_sr fun K5 hK5 => ?_
  refine WL_r (Rd_assign rfl) rfl ?_
  refine WL_r (Rd_assign rfl) rfl ?_
  refine WL_end hK5 ?_
  refine WC_ret ?_
  exact hret.go () (Rs2 rfl rfl rfl)
 ·try simp only [dz, ne_eq] at hc0
  have htk : 0 ≤ tick ∧ tick ≤ 1099511627776 := by first | assumption | omega
  refine WC_skip ?_
  refine Ps_next hK3 ?_
  refine WC_sr fun K6 hK6 => ?_
  refine WL_r (Rd_move rfl) rfl ?_
  refine WL_r (Rd_fieldAddr rfl fo54_1) rfl ?_
  refine WL_r (Rd_load rfl tk3) rfl ?_
  refine WL_r (Rd_nilCheck rfl) rfl ?_
  refine WL_r (Rd_fieldAddr rfl fo40_2) rfl ?_
  refine WL_ac0 (Ac_store1 rfl rfl sz3) rfl rfl ?_
  rintro _ _ rfl
  refine WL_end hK6 ?_
  refine WC_sr fun K7 hK7 => ?_
  refine WL_ac (Ac_alloc zr81) rfl rfl rfl ?_
  rintro _ _ ⟨b6, rfl, rfl⟩
  refine WL_end hK7 ?_
  refine WC_seq fun K8 hK8 => ?_
  refine WC_sr fun K9 hK9 => ?_
  refine WL_r (Rd_fieldAddr rfl fo54_2) rfl ?_
  refine WL_r (Rd_load rfl tk52 (v := v)) rfl ?_
  refine WL_r (Rd_len_sv rfl rfl ud52 (hA := hS)) rfl ?_
  refine WL_r (Rd_move rfl) rfl ?_
  refine WL_end hK9 ?_
  refine WC_block ?_
  rw [show cl b6 81 [.int .u8 0, .int .u8 0, .int .u8 0, .int .u8 0, .int .u8 0, .int .u8 0, .int .u8 0, .int .u8 0, .int .u8 0, .int .u8 0, .int .u8 0, .int .u8 0, .int .u8 0, .int .u8 0, .int .u8 0, .int .u8 0, .int .i64 0] = cl b6 81 (kcK (preK (kvs.map KV.kp) 0)) from rfl]
  refine WC_loopK (σ := Nat × (List En)) (fun ⟨i, L⟩ => [(35, .int .i64 ((i : Nat) : Int))]) (fun ⟨i, L⟩ => [cl b6 81 (kcK (preK (kvs.map KV.kp) i)), cl s16 40 [.bool true, .int .i64 room, .int .i64 tick, .int .i64 (((usedE L) : Nat) : Int), .map (some m16)], mpP m16 kfK vfP (L.map En.kp), star (FEn 85 5) L]) (fun ⟨i, L⟩ => i ≤ kvs.length ∧ L.map En.e = (kvs.map KV.kp).take i ∧ Wf room ⟨tick, (kvs.map KV.kp).take i⟩) (fun ⟨i, L⟩ => kvs.length - i) ⟨0, []⟩ [1, 4, 6, 33, 34, 119] kpA (by (try dsimp only); repeat (first | with_reducible exact Gv.nil | (with_reducible apply Gv.cons; · (repeat (first | with_reducible exact Ext.here | with_reducible apply Ext.there))))) ?_ ?_ Sub.refl ?_
  ·exact ⟨Nat.zero_le _, rfl, ld_zero hroom htk⟩
  ·(try dsimp only); exact (Wk.cons lkA Wk.nil)
  ·rintro ⟨i, L⟩ ⟨hi, hLm, hpw⟩ K10 hK10
   simp only [List.cons_append, List.nil_append]
   refine WC_sr fun K11 hK11 => ?_
   refine WL_r (Rd_lssN rfl rfl) rfl ?_
   refine WL_end hK11 ?_
   refine WC_seq fun K12 hK12 => ?_
   refine WC_cond rfl (fun hc1 => ?_) (fun hc1 => ?_)
   ·try simp only [dz, ne_eq] at hc1
    obtain ⟨k, hk⟩ : ∃ k, kvs[i]? = some k := ⟨_, List.getElem?_eq_getElem (by omega)⟩
    have hkP : (kvs.map KV.kp)[i]? = some k.kp := by rw [List.getElem?_map, hk]; rfl
    have hkO := hOK k (List.mem_of_getElem? hk)
    have hkl : k.ls.l.length ≤ 900000000000 := hlb k (List.mem_of_getElem? hk)
    refine WC_skip ?_
    refine Ps_next hK12 ?_
    refine WC_seq fun K13 hK13 => ?_
    refine WC_block ?_
    refine WC_sr fun K14 hK14 => ?_
    refine WL_r (Rd_move rfl) rfl ?_
    refine WL_r (Rd_index_sv i rfl rfl ud52 sz65 (hA := hS) (hi := by omega)) rfl ?_
    refine WL_r (Rd_loadg_sv (f := eKV) (i := i) (y := k) rfl tk65 (hA := hS) (hl := hk)) rfl ?_
    refine WL_ac (Ac_alloc zr65) rfl rfl rfl ?_
    rintro _ _ ⟨b8, rfl, rfl⟩
    refine WL_r (Rd_assign rfl) rfl ?_
    refine WL_ac0 (Ac_store (ys := eKV k) rfl rfl sz65 (h1 := by simpa [Value.cells] using encKV.one k) (hv := by simpa [Value.cells] using encKV.len k) (hr := by simp [Value.cells])) rfl rfl ?_
    rintro _ _ rfl
    refine WL_end hK14 ?_
    refine WC_sr fun K15 hK15 => ?_
    refine WL_r (Rd_fieldAddr rfl fo65_0) rfl ?_
    refine WL_r (Rd_loadg (vs := k.ix.l.flatMap (eU .u8)) rfl tk24 (hl := by rw [eKV_len]; omega) (hi := eKV_ix k)) rfl ?_
    refine WL_r (Rd_fieldAddr rfl fo65_1) rfl ?_
    refine WL_r (Rd_load rfl tk3 (v := .int .i64 k.num) (hi := eKV_num k)) rfl ?_
    refine WL_r (Rd_valE (v := kfK k.kp.key) (Rd_build pls81 rfl (hf := key_fill k.ix k.num)) rfl) rfl ?_
    refine WL_ac (Ac_alloc zr81) rfl rfl rfl ?_
    rintro _ _ ⟨b9, rfl, rfl⟩
    refine WL_ac0 (Ac_store (ys := kcK k.kp.key) rfl rfl sz81 (h1 := encK.one _) (hv := by simpa [Value.cells, kfK] using kcK_len k.kp.key) (hr := by simp [Value.cells, kfK])) rfl rfl ?_
    rintro _ _ rfl
    refine WL_end hK15 ?_
    refine WC_seq fun K16 hK16 => ?_
    refine WC_sr fun K17 hK17 => ?_
    refine WL_r (Rd_fieldAddr rfl fo65_1) rfl ?_
    refine WL_r (Rd_load rfl tk3 (v := .int .i64 k.num) (hi := eKV_num k)) rfl ?_
    refine WL_ac (Ac_call cf46 rfl (hs := numberD_ct (n := k.num))) rfl rfl rfl ?_
    rintro _ _ ⟨⟨⟩, rfl, hA⟩
    simp only [List.cons_append, List.nil_append] at hA
    replace hA := hA.symm
    subst hA
    refine WL_r (Rd_not rfl) rfl ?_
    refine WL_r (Rd_move rfl) rfl ?_
    refine WL_bool 49 rfl (fun hg18 => ?_) (fun hg18 => ?_)
    ·try simp only [dz, ne_eq] at hg18
     refine WL_skip rfl rfl rfl ?_
     refine WL_skip rfl rfl rfl ?_
     refine WL_skip rfl rfl rfl ?_
     refine WL_skip rfl rfl rfl ?_
     refine WL_r (Rd_pickT rfl rfl) rfl ?_
     refine WL_r (Rd_move rfl) rfl ?_
     refine WL_skip rfl rfl rfl ?_
     refine WL_skip rfl rfl rfl ?_
     refine WL_skip rfl rfl rfl ?_
     refine WL_skip rfl rfl rfl ?_
     refine WL_skip rfl rfl rfl ?_
     refine WL_skip rfl rfl rfl ?_
     refine WL_r (Rd_pickT rfl rfl) rfl ?_
     refine WL_r (Rd_move rfl) rfl ?_
     refine WL_skip rfl rfl rfl ?_
     refine WL_skip rfl rfl rfl ?_
     refine WL_skip rfl rfl rfl ?_
     refine WL_skip rfl rfl rfl ?_
     refine WL_skip rfl rfl rfl ?_
     refine WL_skip rfl rfl rfl ?_
     refine WL_skip rfl rfl rfl ?_
     refine WL_skip rfl rfl rfl ?_
     refine WL_r (Rd_pickT rfl rfl) rfl ?_
     refine WL_end hK17 ?_
     refine WC_condT rfl ?_
     refine WC_sr fun K19 hK19 => ?_
     refine WL_r (Rd_assign rfl) rfl ?_
     refine WL_r (Rd_assign rfl) rfl ?_
     refine WL_end hK19 ?_
     refine WC_ret ?_
     exact hret.go () (Rs2 rfl rfl rfl)
    ·try simp only [dz, ne_eq] at hg18
     have hnum := hg18
     refine WL_r (Rd_fieldAddr rfl fo65_2) rfl ?_
     refine WL_r (Rd_load rfl tk28 (v := k.b.v) (hi := eKV_b k)) rfl ?_
     refine WL_r (Rd_len_sv rfl rfl ud28 (hA := hkO.1)) rfl ?_
     refine WL_r (Rd_gtrN (j := 33554432) rfl rfl) rfl ?_
     refine WL_r (Rd_pickF rfl rfl) rfl ?_
     refine WL_r (Rd_move rfl) rfl ?_
     refine WL_bool 55 rfl (fun hg20 => ?_) (fun hg20 => ?_)
     ·try simp only [dz, ne_eq] at hg20
      refine WL_skip rfl rfl rfl ?_
      refine WL_skip rfl rfl rfl ?_
      refine WL_skip rfl rfl rfl ?_
      refine WL_skip rfl rfl rfl ?_
      refine WL_skip rfl rfl rfl ?_
      refine WL_skip rfl rfl rfl ?_
      refine WL_r (Rd_pickT rfl rfl) rfl ?_
      refine WL_r (Rd_move rfl) rfl ?_
      refine WL_skip rfl rfl rfl ?_
      refine WL_skip rfl rfl rfl ?_
      refine WL_skip rfl rfl rfl ?_
      refine WL_skip rfl rfl rfl ?_
      refine WL_skip rfl rfl rfl ?_
      refine WL_skip rfl rfl rfl ?_
      refine WL_skip rfl rfl rfl ?_
      refine WL_skip rfl rfl rfl ?_
      refine WL_r (Rd_pickT rfl rfl) rfl ?_
      refine WL_end hK17 ?_
      refine WC_condT rfl ?_
      refine WC_sr fun K21 hK21 => ?_
      refine WL_r (Rd_assign rfl) rfl ?_
      refine WL_r (Rd_assign rfl) rfl ?_
      refine WL_end hK21 ?_
      refine WC_ret ?_
      exact hret.go () (Rs2 rfl rfl rfl)
     ·try simp only [dz, ne_eq] at hg20
      have hlenb := hg20
      refine WL_r (Rd_fieldAddr rfl fo65_3) rfl ?_
      refine WL_r (Rd_load rfl tk63 (v := k.ls.v) (hi := eKV_ls k)) rfl ?_
      refine WL_r (Rd_fieldAddr rfl fo54_1) rfl ?_
      refine WL_r (Rd_load rfl tk3) rfl ?_
      refine WL_ac (Ac_call cf47 rfl (hs := leasesMay_ct (X := X) (l := k.ls.l) (t := tick) (hS := hkO.2) (hl := hkl))) rfl rfl rfl ?_
      rintro _ _ ⟨⟨⟩, rfl, hA⟩
      simp only [List.cons_append, List.nil_append] at hA
      replace hA := hA.symm
      subst hA
      refine WL_r (Rd_not rfl) rfl ?_
      refine WL_r (Rd_pickF rfl rfl) rfl ?_
      refine WL_r (Rd_move rfl) rfl ?_
      refine WL_bool 63 rfl (fun hg22 => ?_) (fun hg22 => ?_)
      ·try simp only [dz, ne_eq] at hg22
       refine WL_skip rfl rfl rfl ?_
       refine WL_skip rfl rfl rfl ?_
       refine WL_skip rfl rfl rfl ?_
       refine WL_skip rfl rfl rfl ?_
       refine WL_skip rfl rfl rfl ?_
       refine WL_skip rfl rfl rfl ?_
       refine WL_skip rfl rfl rfl ?_
       refine WL_skip rfl rfl rfl ?_
       refine WL_r (Rd_pickT rfl rfl) rfl ?_
       refine WL_end hK17 ?_
       refine WC_condT rfl ?_
       refine WC_sr fun K23 hK23 => ?_
       refine WL_r (Rd_assign rfl) rfl ?_
       refine WL_r (Rd_assign rfl) rfl ?_
       refine WL_end hK23 ?_
       refine WC_ret ?_
       exact hret.go () (Rs2 rfl rfl rfl)
      ·try simp only [dz, ne_eq] at hg22
       have hlok : leasesOk tick k.kp.ls := hg22
       refine WL_r (Rd_move rfl) rfl ?_
       refine WL_r (Rd_gtrN (j := 0) rfl rfl) rfl ?_
       refine WL_r (Rd_move rfl) rfl ?_
       refine WL_bool 66 rfl (fun hg24 => ?_) (fun hg24 => ?_)
       ·try simp only [dz, ne_eq] at hg24
        refine WL_r (Rd_loadg (vs := kcK (preK (kvs.map KV.kp) i)) rfl tk81 (hl := by rw [kcK_len]; omega) (hi := by rw [List.drop_zero]; exact List.take_of_length_le (Nat.le_of_eq (kcK_len (preK (kvs.map KV.kp) i))))) rfl ?_
        refine WL_r (Rd_loadg (vs := kcK k.kp.key) rfl tk81 (hl := by rw [kcK_len]; omega) (hi := by rw [List.drop_zero]; exact List.take_of_length_le (Nat.le_of_eq (kcK_len k.kp.key)))) rfl ?_
        refine WL_ac (Ac_call cf39 rfl (hs := ahead_ct (x := preK (kvs.map KV.kp) i) (y := k.kp.key) (preK_num hpw) hnum)) rfl rfl rfl ?_
        rintro _ _ ⟨⟨⟩, rfl, hA⟩
        simp only [List.cons_append, List.nil_append] at hA
        replace hA := hA.symm
        subst hA
        refine WL_r (Rd_geq rfl rfl) rfl ?_
        refine WL_r (Rd_pickT rfl rfl) rfl ?_
        refine WL_r (Rd_pickF rfl rfl) rfl ?_
        refine WL_end hK17 ?_
        refine WC_cond rfl (fun hc2 => ?_) (fun hc2 => ?_)
        ·try simp only [dz, ne_eq] at hc2
         refine WC_sr fun K25 hK25 => ?_
         refine WL_r (Rd_assign rfl) rfl ?_
         refine WL_r (Rd_assign rfl) rfl ?_
         refine WL_end hK25 ?_
         refine WC_ret ?_
         exact hret.go () (Rs2 rfl rfl rfl)
        ·try simp only [dz, ne_eq] at hc2
         have hpre : i = 0 ∨ ∃ y, (kvs.map KV.kp)[i - 1]? = some y ∧ kLt y.key k.kp.key := by first | exact .inl (by omega) | exact .inr (preK_lt hkP (by omega) (cfK_nlt (by omega)))
         have hkn : k.kp.key ∉ (L.map En.e).map Kp.key := by rw [hLm]; exact key_new hkP (pw_snoc (r := fun a b : Kp => kLt a.key b.key) (fun a b => kLt_tr a b) hkP hpw.srt hpre)
         have huL : ((usedE L : Nat) : Int) ≤ room := by rw [usedE_M, hLm]; exact hpw.used
         refine WC_skip ?_
         refine Ps_next hK16 ?_
         refine WC_sr fun K26 hK26 => ?_
         refine WL_r (Rd_loadg (vs := kcK k.kp.key) rfl tk81 (hl := by rw [kcK_len]; omega) (hi := by rw [List.drop_zero]; exact List.take_of_length_le (Nat.le_of_eq (kcK_len k.kp.key)))) rfl ?_
         refine WL_ac0 (Ac_store (ys := kcK k.kp.key) rfl rfl sz81 (hl := by rw [kcK_len]; exact Nat.le_refl _) (h1 := encK.one _) (hv := by simpa [Value.cells, kfK] using kcK_len k.kp.key) (hr := by simp [Value.cells, kfK, kcK_len])) rfl rfl ?_
         rintro _ _ rfl
         refine WL_end hK26 ?_
         refine WC_sr fun K27 hK27 => ?_
         refine WL_ac (Ac_makeP kfW vfI) rfl rfl rfl ?_
         rintro _ _ ⟨m74, rfl, rfl⟩
         refine WL_r (Rd_assign rfl) rfl ?_
         refine WL_end hK27 ?_
         refine WC_seq fun K28 hK28 => ?_
         refine WC_sr fun K29 hK29 => ?_
         refine WL_r (Rd_fieldAddr rfl fo65_3) rfl ?_
         refine WL_r (Rd_load rfl tk63 (v := k.ls.v) (hi := eKV_ls k)) rfl ?_
         refine WL_r (Rd_len_sv rfl rfl ud63 (hA := hkO.2)) rfl ?_
         refine WL_r (Rd_move rfl) rfl ?_
         refine WL_end hK29 ?_
         refine WC_block ?_
         rw [show mpP m74 kfW vfI [] = mpP m74 kfW vfI (k.ls.l.take 0) from rfl]
         refine WC_loopK (σ := Nat) (fun j => [(78, .int .i64 ((j : Nat) : Int))]) (fun j => [mpP m74 kfW vfI (k.ls.l.take j)]) (fun j => j ≤ k.ls.l.length) (fun j => k.ls.l.length - j) (0) [1, 2, 3, 4, 6, 7, 8, 9, 10, 33, 34, 35, 36, 37, 38, 39, 40, 41, 42, 43, 44, 45, 46, 47, 48, 49, 50, 51, 52, 53, 54, 55, 56, 57, 58, 59, 60, 61, 62, 63, 64, 65, 66, 67, 68, 69, 70, 71, 72, 73, 74, 75, 76, 77, 88, 89, 90, 91, 92, 93, 94, 95, 96, 97, 98, 99, 100, 101, 102, 103, 104, 105, 106, 107, 108, 109, 110, 111, 112, 113, 114, 115, 116, 117, 118, 119] kpA (by (try dsimp only); repeat (first | with_reducible exact Gv.nil | (with_reducible apply Gv.cons; · (repeat (first | with_reducible exact Ext.here | with_reducible apply Ext.there))))) ?_ ?_ Sub.refl ?_
         ·exact Nat.zero_le _
         ·(try dsimp only); exact (Wk.cons lkA Wk.nil)
         ·rintro j hj K30 hK30
          simp only [List.cons_append, List.nil_append]
          refine WC_sr fun K31 hK31 => ?_
          refine WL_r (Rd_lssN rfl rfl) rfl ?_
          refine WL_end hK31 ?_
          refine WC_seq fun K32 hK32 => ?_
          refine WC_cond rfl (fun hc3 => ?_) (fun hc3 => ?_)
          ·try simp only [dz, ne_eq] at hc3
           obtain ⟨y, hy⟩ : ∃ y, k.ls.l[j]? = some y := ⟨_, List.getElem?_eq_getElem (by omega)⟩
           refine WC_skip ?_
           refine Ps_next hK32 ?_
           refine WC_seq fun K33 hK33 => ?_
           refine WC_block ?_
           refine WC_sr fun K34 hK34 => ?_
           refine WL_r (Rd_index_sv j rfl rfl ud63 sz27 (hA := hkO.2) (hi := by omega)) rfl ?_
           refine WL_r (Rd_loadg_sv (f := eLs) (i := j) (y := y) rfl tk27 (hA := hkO.2) (hl := hy)) rfl ?_
           refine WL_ac (Ac_alloc zr27) rfl rfl rfl ?_
           rintro _ _ ⟨b12, rfl, rfl⟩
           refine WL_ac0 (Ac_store (ys := eLs y) rfl rfl sz27 (hv := rfl) (h1 := encLs.one y) (hr := rfl)) rfl rfl ?_
           rintro _ _ rfl
           refine WL_end hK34 ?_
           refine WC_region ?_
           refine WL_r (Rd_move rfl) rfl ?_
           refine WL_r (Rd_fieldAddr rfl fo27_0) rfl ?_
           refine WL_r (Rd_load rfl tk25 (v := .int .u32 ((y.1.toNat : Nat) : Int))) rfl ?_
           refine WL_r (Rd_fieldAddr rfl fo27_1) rfl ?_
           refine WL_r (Rd_load rfl tk3 (v := .int .i64 y.2)) rfl ?_
           refine WL_ac0 (Ac_putP (vf := vfI) y.2 keyW rfl rfl rfl ud83) rfl rfl ?_
           rintro _ _ rfl
           refine WL_rep (mpP m74 kfW vfI (putL y.1 y.2 (k.ls.l.take j))) (mpP m74 kfW vfI (k.ls.l.take (j + 1))) (mpP_rep (putL_snoc hy hlok.1)) ?_
           refine WL_nil ?_
           refine Ps_next hK33 ?_
           refine WC_region ?_
           refine WL_r (Rd_addN (j := 1) rfl rfl) rfl ?_
           refine WL_r (Rd_move rfl) rfl ?_
           refine WL_nil ?_
           refine Ps_wkA (hK30 (j + 1) (by omega) (by omega))
          ·try simp only [dz, ne_eq] at hc3
           obtain rfl : j = k.ls.l.length := by omega
           rw [List.take_length]
           refine WC_exit ?_
           refine Ps_next hK28 ?_
           refine WC_seq fun K35 hK35 => ?_
           refine WC_draw mix [cl s16 40 [.bool true, .int .i64 room, .int .i64 tick, .int .i64 (((usedE L) : Nat) : Int), .map (some m16)], cl b9 81 (kcK k.kp.key), cl b8 65 (eKV k), X] (fun i => ([2, 2, 2, 2, 2, 2, 2, 1, 2, 2, 1, 1] : List Nat).getD i 0) ?_
           refine WJ_tp 0 rfl (Rd_move rfl) rfl (hp _ _) ?_
           refine WJ_tp 1 rfl (Rd_nilCheck rfl) rfl (hp _ _) ?_
           refine WJ_tp 2 rfl (Rd_fieldAddr rfl fo40_4) rfl (hp _ _) ?_
           refine WJ_tk 3 (Rd_load rfl tk38 (v := .map (some m16))) hp ?_ rfl (by kernel_rfl) rfl rfl rfl
           refine WJ_tk 4 (Rd_loadg (vs := kcK k.kp.key) rfl tk81 (hl := by rw [kcK_len]; omega) (hi := by rw [List.drop_zero]; exact List.take_of_length_le (Nat.le_of_eq (kcK_len k.kp.key)))) hp ?_ rfl (by kernel_rfl) rfl rfl rfl
           refine WJ_tp 5 rfl (Rd_fieldAddr rfl fo65_2) rfl (hp _ _) ?_
           refine WJ_tk 6 (Rd_load rfl tk28 (v := k.b.v) (hi := eKV_b k)) hp ?_ rfl (by kernel_rfl) rfl rfl rfl
           refine WJ_tp 8 rfl (Rd_move rfl) rfl (hp _ _) ?_
           refine WJ_all (rs := [7]) (by kernel_rfl) rfl ?_
           refine WI_one ?_
           refine WI_ac rfl (Ac_call cf35 rfl (hs := clone_ct (X := X) (l := k.b.l) (hS := hkO.1) (by omega))) rfl rfl rfl rfl ?_
           rintro _ _ ⟨⟨a95, cap95⟩, rfl, hA⟩
           simp only [List.cons_append, List.nil_append] at hA
           replace hA := hA.symm
           subst hA
           refine ⟨(fun _ => subA), ?_⟩
           refine WJ_tp 9 rfl (Rd_build pls85 rfl) rfl (hp _ _) ?_
           refine WJ_all (rs := [10]) (by kernel_rfl) rfl ?_
           refine WI_one ?_
           refine WI_ac rfl (Ac_box (xs := [sl a95 k.b.l.length cap95, .map (some m74)]) rfl rfl) rfl rfl rfl rfl ?_
           rintro _ _ ⟨p98, rfl, rfl⟩
           refine ⟨(fun _ => subA), ?_⟩
           refine WJ_all (rs := [11]) (by kernel_rfl) rfl ?_
           refine WI_one ?_
           refine WI_ac0 rfl (Ac_putP (vf := vfP) p98 keyK rfl rfl rfl ud38) rfl rfl rfl ?_
           rintro _ _ rfl
           refine ⟨(fun _ => subA), ?_⟩
           refine WJ_done (by kernel_rfl) ?_
           refine Ps_next hK35 ?_
           refine WC_seq fun K36 hK36 => ?_
           refine WC_drawA mix (fun i => ([2, 2, 2, 2, 2, 2, 2, 2, 2, 2, 0] : List Nat).getD i 0) ?_
           refine WJ_tp 0 rfl (Rd_move rfl) rfl (hp _ _) ?_
           refine WJ_tp 1 rfl (Rd_nilCheck rfl) rfl (hp _ _) ?_
           refine WJ_tp 2 rfl (Rd_fieldAddr rfl fo40_3) rfl (hp _ _) ?_
           refine WJ_tk 3 (Rd_load rfl tk3 (v := .int .i64 (((usedE L) : Nat) : Int))) hp ?_ rfl (by kernel_rfl) rfl rfl rfl
           refine WJ_tp 4 rfl (Rd_fieldAddr rfl fo65_2) rfl (hp _ _) ?_
           refine WJ_tk 5 (Rd_load rfl tk28 (v := k.b.v) (hi := eKV_b k)) hp ?_ rfl (by kernel_rfl) rfl rfl rfl
           refine WJ_tp 6 rfl (Rd_len_sv rfl rfl ud28 (hA := hkO.1)) rfl (hp _ _) ?_
           refine WJ_tp 7 rfl (Rd_addN rfl rfl) rfl (hp _ _) ?_
           refine WJ_tp 8 rfl (Rd_nilCheck rfl) rfl (hp _ _) ?_
           refine WJ_tp 9 rfl (Rd_fieldAddr rfl fo40_3) rfl (hp _ _) ?_
           refine WJ_all (rs := [10]) (by kernel_rfl) rfl ?_
           refine WI_one ?_
           refine WI_ac0 rfl (Ac_store1 rfl rfl sz3) rfl rfl rfl ?_
           rintro _ _ rfl
           refine ⟨(fun h => by cases h), ?_⟩
           refine WJ_done (by kernel_rfl) ?_
           refine Ps_next hK36 ?_
           refine WC_seq fun K37 hK37 => ?_
           refine WC_drawA mix (fun i => ([2, 2, 2, 2, 2, 2, 2, 2, 2] : List Nat).getD i 0) ?_
           refine WJ_tp 0 rfl (Rd_move rfl) rfl (hp _ _) ?_
           refine WJ_tp 1 rfl (Rd_nilCheck rfl) rfl (hp _ _) ?_
           refine WJ_tp 2 rfl (Rd_fieldAddr rfl fo40_3) rfl (hp _ _) ?_
           refine WJ_tk 3 (Rd_load rfl tk3 (v := .int .i64 (((usedE L + k.b.l.length) : Nat) : Int))) hp ?_ rfl (by kernel_rfl) rfl rfl rfl
           refine WJ_tp 4 rfl (Rd_move rfl) rfl (hp _ _) ?_
           refine WJ_tp 5 rfl (Rd_nilCheck rfl) rfl (hp _ _) ?_
           refine WJ_tp 6 rfl (Rd_fieldAddr rfl fo40_1) rfl (hp _ _) ?_
           refine WJ_tk 7 (Rd_load rfl tk3) hp ?_ rfl (by kernel_rfl) rfl rfl rfl
           refine WJ_tp 8 rfl (Rd_gtr rfl rfl) rfl (hp _ _) ?_
           refine WJ_done (by kernel_rfl) ?_
           refine Ps_next hK37 ?_
           refine WC_cond rfl (fun hc4 => ?_) (fun hc4 => ?_)
           ·try simp only [dz, ne_eq] at hc4
            refine WC_sr fun K38 hK38 => ?_
            refine WL_r (Rd_assign rfl) rfl ?_
            refine WL_r (Rd_assign rfl) rfl ?_
            refine WL_end hK38 ?_
            refine WC_ret ?_
            exact hret.go () (Rs2 rfl rfl rfl)
           ·try simp only [dz, ne_eq] at hc4
            refine WC_skip ?_
            refine Ps_next hK13 ?_
            refine WC_region ?_
            refine WL_rep (mpP m16 kfK vfP (putL k.kp.key p98 (L.map En.kp))) (mpP m16 kfK vfP ((L ++ [(⟨k.kp, p98, a95, cap95, m74⟩ : En)]).map En.kp)) (mpP_rep (new_snoc hkn)) ?_
            refine WL_ensnocV 85 5 k p98 a95 cap95 m74 L ?_
            rw [← preK_succ hkP, show usedE L + k.b.l.length = usedE (L ++ [(⟨k.kp, p98, a95, cap95, m74⟩ : En)]) from by rw [usedE_app]; rfl]
            refine WL_r (Rd_addN (j := 1) rfl rfl) rfl ?_
            refine WL_r (Rd_move rfl) rfl ?_
            refine WL_nil ?_
            refine Ps_wkA (hK10 ⟨i + 1, L ++ [(⟨k.kp, p98, a95, cap95, m74⟩ : En)]⟩ (⟨by (try dsimp only); omega, by (try dsimp only); rw [List.map_append, hLm, take_snocG hkP]; rfl, ld_step hkP hpw (wfk_of hnum hlenb hlok) hpre (by rw [← hLm, ← usedE_M]; show ((usedE L + k.b.l.length : Nat) : Int) ≤ room; omega)⟩) (by (try dsimp only); omega))
       ·try simp only [dz, ne_eq] at hg24
        refine WL_skip rfl rfl rfl ?_
        refine WL_skip rfl rfl rfl ?_
        refine WL_skip rfl rfl rfl ?_
        refine WL_skip rfl rfl rfl ?_
        refine WL_r (Rd_pickF rfl rfl) rfl ?_
        refine WL_r (Rd_pickF rfl rfl) rfl ?_
        refine WL_end hK17 ?_
        refine WC_condF rfl ?_
        have hpre : i = 0 ∨ ∃ y, (kvs.map KV.kp)[i - 1]? = some y ∧ kLt y.key k.kp.key := by first | exact .inl (by omega) | exact .inr (preK_lt hkP (by omega) (cfK_nlt (by omega)))
        have hkn : k.kp.key ∉ (L.map En.e).map Kp.key := by rw [hLm]; exact key_new hkP (pw_snoc (r := fun a b : Kp => kLt a.key b.key) (fun a b => kLt_tr a b) hkP hpw.srt hpre)
        have huL : ((usedE L : Nat) : Int) ≤ room := by rw [usedE_M, hLm]; exact hpw.used
        refine WC_skip ?_
        refine Ps_next hK16 ?_
        refine WC_sr fun K39 hK39 => ?_
        refine WL_r (Rd_loadg (vs := kcK k.kp.key) rfl tk81 (hl := by rw [kcK_len]; omega) (hi := by rw [List.drop_zero]; exact List.take_of_length_le (Nat.le_of_eq (kcK_len k.kp.key)))) rfl ?_
        refine WL_ac0 (Ac_store (ys := kcK k.kp.key) rfl rfl sz81 (hl := by rw [kcK_len]; exact Nat.le_refl _) (h1 := encK.one _) (hv := by simpa [Value.cells, kfK] using kcK_len k.kp.key) (hr := by simp [Value.cells, kfK, kcK_len])) rfl rfl ?_
        rintro _ _ rfl
        refine WL_end hK39 ?_
        refine WC_sr fun K40 hK40 => ?_
        refine WL_ac (Ac_makeP kfW vfI) rfl rfl rfl ?_
        rintro _ _ ⟨m74, rfl, rfl⟩
        refine WL_r (Rd_assign rfl) rfl ?_
        refine WL_end hK40 ?_
        refine WC_seq fun K41 hK41 => ?_
        refine WC_sr fun K42 hK42 => ?_
        refine WL_r (Rd_fieldAddr rfl fo65_3) rfl ?_
        refine WL_r (Rd_load rfl tk63 (v := k.ls.v) (hi := eKV_ls k)) rfl ?_
        refine WL_r (Rd_len_sv rfl rfl ud63 (hA := hkO.2)) rfl ?_
        refine WL_r (Rd_move rfl) rfl ?_
        refine WL_end hK42 ?_
        refine WC_block ?_
        rw [show mpP m74 kfW vfI [] = mpP m74 kfW vfI (k.ls.l.take 0) from rfl]
        refine WC_loopK (σ := Nat) (fun j => [(78, .int .i64 ((j : Nat) : Int))]) (fun j => [mpP m74 kfW vfI (k.ls.l.take j)]) (fun j => j ≤ k.ls.l.length) (fun j => k.ls.l.length - j) (0) [1, 2, 3, 4, 6, 7, 8, 9, 10, 33, 34, 35, 36, 37, 38, 39, 40, 41, 42, 43, 44, 45, 46, 47, 48, 49, 50, 51, 52, 53, 54, 55, 56, 57, 58, 59, 60, 61, 62, 63, 64, 65, 66, 67, 68, 69, 70, 71, 72, 73, 74, 75, 76, 77, 88, 89, 90, 91, 92, 93, 94, 95, 96, 97, 98, 99, 100, 101, 102, 103, 104, 105, 106, 107, 108, 109, 110, 111, 112, 113, 114, 115, 116, 117, 118, 119] kpA (by (try dsimp only); repeat (first | with_reducible exact Gv.nil | (with_reducible apply Gv.cons; · (repeat (first | with_reducible exact Ext.here | with_reducible apply Ext.there))))) ?_ ?_ Sub.refl ?_
        ·exact Nat.zero_le _
        ·(try dsimp only); exact (Wk.cons lkA Wk.nil)
        ·rintro j hj K43 hK43
         simp only [List.cons_append, List.nil_append]
         refine WC_sr fun K44 hK44 => ?_
         refine WL_r (Rd_lssN rfl rfl) rfl ?_
         refine WL_end hK44 ?_
         refine WC_seq fun K45 hK45 => ?_
         refine WC_cond rfl (fun hc3 => ?_) (fun hc3 => ?_)
         ·try simp only [dz, ne_eq] at hc3
          obtain ⟨y, hy⟩ : ∃ y, k.ls.l[j]? = some y := ⟨_, List.getElem?_eq_getElem (by omega)⟩
          refine WC_skip ?_
          refine Ps_next hK45 ?_
          refine WC_seq fun K46 hK46 => ?_
          refine WC_block ?_
          refine WC_sr fun K47 hK47 => ?_
          refine WL_r (Rd_index_sv j rfl rfl ud63 sz27 (hA := hkO.2) (hi := by omega)) rfl ?_
          refine WL_r (Rd_loadg_sv (f := eLs) (i := j) (y := y) rfl tk27 (hA := hkO.2) (hl := hy)) rfl ?_
          refine WL_ac (Ac_alloc zr27) rfl rfl rfl ?_
          rintro _ _ ⟨b12, rfl, rfl⟩
          refine WL_ac0 (Ac_store (ys := eLs y) rfl rfl sz27 (hv := rfl) (h1 := encLs.one y) (hr := rfl)) rfl rfl ?_
          rintro _ _ rfl
          refine WL_end hK47 ?_
          refine WC_region ?_
          refine WL_r (Rd_move rfl) rfl ?_
          refine WL_r (Rd_fieldAddr rfl fo27_0) rfl ?_
          refine WL_r (Rd_load rfl tk25 (v := .int .u32 ((y.1.toNat : Nat) : Int))) rfl ?_
          refine WL_r (Rd_fieldAddr rfl fo27_1) rfl ?_
          refine WL_r (Rd_load rfl tk3 (v := .int .i64 y.2)) rfl ?_
          refine WL_ac0 (Ac_putP (vf := vfI) y.2 keyW rfl rfl rfl ud83) rfl rfl ?_
          rintro _ _ rfl
          refine WL_rep (mpP m74 kfW vfI (putL y.1 y.2 (k.ls.l.take j))) (mpP m74 kfW vfI (k.ls.l.take (j + 1))) (mpP_rep (putL_snoc hy hlok.1)) ?_
          refine WL_nil ?_
          refine Ps_next hK46 ?_
          refine WC_region ?_
          refine WL_r (Rd_addN (j := 1) rfl rfl) rfl ?_
          refine WL_r (Rd_move rfl) rfl ?_
          refine WL_nil ?_
          refine Ps_wkA (hK43 (j + 1) (by omega) (by omega))
         ·try simp only [dz, ne_eq] at hc3
          obtain rfl : j = k.ls.l.length := by omega
          rw [List.take_length]
          refine WC_exit ?_
          refine Ps_next hK41 ?_
          refine WC_seq fun K48 hK48 => ?_
          refine WC_draw mix [cl s16 40 [.bool true, .int .i64 room, .int .i64 tick, .int .i64 (((usedE L) : Nat) : Int), .map (some m16)], cl b9 81 (kcK k.kp.key), cl b8 65 (eKV k), X] (fun i => ([2, 2, 2, 2, 2, 2, 2, 1, 2, 2, 1, 1] : List Nat).getD i 0) ?_
          refine WJ_tp 0 rfl (Rd_move rfl) rfl (hp _ _) ?_
          refine WJ_tp 1 rfl (Rd_nilCheck rfl) rfl (hp _ _) ?_
          refine WJ_tp 2 rfl (Rd_fieldAddr rfl fo40_4) rfl (hp _ _) ?_
          refine WJ_tk 3 (Rd_load rfl tk38 (v := .map (some m16))) hp ?_ rfl (by kernel_rfl) rfl rfl rfl
          refine WJ_tk 4 (Rd_loadg (vs := kcK k.kp.key) rfl tk81 (hl := by rw [kcK_len]; omega) (hi := by rw [List.drop_zero]; exact List.take_of_length_le (Nat.le_of_eq (kcK_len k.kp.key)))) hp ?_ rfl (by kernel_rfl) rfl rfl rfl
          refine WJ_tp 5 rfl (Rd_fieldAddr rfl fo65_2) rfl (hp _ _) ?_
          refine WJ_tk 6 (Rd_load rfl tk28 (v := k.b.v) (hi := eKV_b k)) hp ?_ rfl (by kernel_rfl) rfl rfl rfl
          refine WJ_tp 8 rfl (Rd_move rfl) rfl (hp _ _) ?_
          refine WJ_all (rs := [7]) (by kernel_rfl) rfl ?_
          refine WI_one ?_
          refine WI_ac rfl (Ac_call cf35 rfl (hs := clone_ct (X := X) (l := k.b.l) (hS := hkO.1) (by omega))) rfl rfl rfl rfl ?_
          rintro _ _ ⟨⟨a95, cap95⟩, rfl, hA⟩
          simp only [List.cons_append, List.nil_append] at hA
          replace hA := hA.symm
          subst hA
          refine ⟨(fun _ => subA), ?_⟩
          refine WJ_tp 9 rfl (Rd_build pls85 rfl) rfl (hp _ _) ?_
          refine WJ_all (rs := [10]) (by kernel_rfl) rfl ?_
          refine WI_one ?_
          refine WI_ac rfl (Ac_box (xs := [sl a95 k.b.l.length cap95, .map (some m74)]) rfl rfl) rfl rfl rfl rfl ?_
          rintro _ _ ⟨p98, rfl, rfl⟩
          refine ⟨(fun _ => subA), ?_⟩
          refine WJ_all (rs := [11]) (by kernel_rfl) rfl ?_
          refine WI_one ?_
          refine WI_ac0 rfl (Ac_putP (vf := vfP) p98 keyK rfl rfl rfl ud38) rfl rfl rfl ?_
          rintro _ _ rfl
          refine ⟨(fun _ => subA), ?_⟩
          refine WJ_done (by kernel_rfl) ?_
          refine Ps_next hK48 ?_
          refine WC_seq fun K49 hK49 => ?_
          refine WC_drawA mix (fun i => ([2, 2, 2, 2, 2, 2, 2, 2, 2, 2, 0] : List Nat).getD i 0) ?_
          refine WJ_tp 0 rfl (Rd_move rfl) rfl (hp _ _) ?_
          refine WJ_tp 1 rfl (Rd_nilCheck rfl) rfl (hp _ _) ?_
          refine WJ_tp 2 rfl (Rd_fieldAddr rfl fo40_3) rfl (hp _ _) ?_
          refine WJ_tk 3 (Rd_load rfl tk3 (v := .int .i64 (((usedE L) : Nat) : Int))) hp ?_ rfl (by kernel_rfl) rfl rfl rfl
          refine WJ_tp 4 rfl (Rd_fieldAddr rfl fo65_2) rfl (hp _ _) ?_
          refine WJ_tk 5 (Rd_load rfl tk28 (v := k.b.v) (hi := eKV_b k)) hp ?_ rfl (by kernel_rfl) rfl rfl rfl
          refine WJ_tp 6 rfl (Rd_len_sv rfl rfl ud28 (hA := hkO.1)) rfl (hp _ _) ?_
          refine WJ_tp 7 rfl (Rd_addN rfl rfl) rfl (hp _ _) ?_
          refine WJ_tp 8 rfl (Rd_nilCheck rfl) rfl (hp _ _) ?_
          refine WJ_tp 9 rfl (Rd_fieldAddr rfl fo40_3) rfl (hp _ _) ?_
          refine WJ_all (rs := [10]) (by kernel_rfl) rfl ?_
          refine WI_one ?_
          refine WI_ac0 rfl (Ac_store1 rfl rfl sz3) rfl rfl rfl ?_
          rintro _ _ rfl
          refine ⟨(fun h => by cases h), ?_⟩
          refine WJ_done (by kernel_rfl) ?_
          refine Ps_next hK49 ?_
          refine WC_seq fun K50 hK50 => ?_
          refine WC_drawA mix (fun i => ([2, 2, 2, 2, 2, 2, 2, 2, 2] : List Nat).getD i 0) ?_
          refine WJ_tp 0 rfl (Rd_move rfl) rfl (hp _ _) ?_
          refine WJ_tp 1 rfl (Rd_nilCheck rfl) rfl (hp _ _) ?_
          refine WJ_tp 2 rfl (Rd_fieldAddr rfl fo40_3) rfl (hp _ _) ?_
          refine WJ_tk 3 (Rd_load rfl tk3 (v := .int .i64 (((usedE L + k.b.l.length) : Nat) : Int))) hp ?_ rfl (by kernel_rfl) rfl rfl rfl
          refine WJ_tp 4 rfl (Rd_move rfl) rfl (hp _ _) ?_
          refine WJ_tp 5 rfl (Rd_nilCheck rfl) rfl (hp _ _) ?_
          refine WJ_tp 6 rfl (Rd_fieldAddr rfl fo40_1) rfl (hp _ _) ?_
          refine WJ_tk 7 (Rd_load rfl tk3) hp ?_ rfl (by kernel_rfl) rfl rfl rfl
          refine WJ_tp 8 rfl (Rd_gtr rfl rfl) rfl (hp _ _) ?_
          refine WJ_done (by kernel_rfl) ?_
          refine Ps_next hK50 ?_
          refine WC_cond rfl (fun hc4 => ?_) (fun hc4 => ?_)
          ·try simp only [dz, ne_eq] at hc4
           refine WC_sr fun K51 hK51 => ?_
           refine WL_r (Rd_assign rfl) rfl ?_
           refine WL_r (Rd_assign rfl) rfl ?_
           refine WL_end hK51 ?_
           refine WC_ret ?_
           exact hret.go () (Rs2 rfl rfl rfl)
          ·try simp only [dz, ne_eq] at hc4
           refine WC_skip ?_
           refine Ps_next hK13 ?_
           refine WC_region ?_
           refine WL_rep (mpP m16 kfK vfP (putL k.kp.key p98 (L.map En.kp))) (mpP m16 kfK vfP ((L ++ [(⟨k.kp, p98, a95, cap95, m74⟩ : En)]).map En.kp)) (mpP_rep (new_snoc hkn)) ?_
           refine WL_ensnocV 85 5 k p98 a95 cap95 m74 L ?_
           rw [← preK_succ hkP, show usedE L + k.b.l.length = usedE (L ++ [(⟨k.kp, p98, a95, cap95, m74⟩ : En)]) from by rw [usedE_app]; rfl]
           refine WL_r (Rd_addN (j := 1) rfl rfl) rfl ?_
           refine WL_r (Rd_move rfl) rfl ?_
           refine WL_nil ?_
           refine Ps_wkA (hK10 ⟨i + 1, L ++ [(⟨k.kp, p98, a95, cap95, m74⟩ : En)]⟩ (⟨by (try dsimp only); omega, by (try dsimp only); rw [List.map_append, hLm, take_snocG hkP]; rfl, ld_step hkP hpw (wfk_of hnum hlenb hlok) hpre (by rw [← hLm, ← usedE_M]; show ((usedE L + k.b.l.length : Nat) : Int) ≤ room; omega)⟩) (by (try dsimp only); omega))
   ·try simp only [dz, ne_eq] at hc1
    exact absurd (show Wf room ⟨tick, (kvs.map KV.kp)⟩ by have q := hpw; rw [List.take_of_length_le (by omega)] at q; exact q) hno
end Go.Proofs.Ytoakfknnaiapiaa
namespace Go.Proofs.Ytoakfknnaiapiaa
open Go.RowKit Go.SL Go.ShM Go.SvM
set_option maxHeartbeats 1000000
set_option maxRecDepth 20000
set_option linter.all false

end Go.Proofs.Ytoakfknnaiapiaa
namespace Go.Proofs.Ytoakfknnaiapiaa
open Go.RowKit Go.SL Go.ShM Go.SvM
set_option maxHeartbeats 1000000
set_option maxRecDepth 20000
set_option linter.all false

theorem load_room {X : Asn} {v : Value} {kvs : List KV} {ao : Option Addr} {cap : Nat} {room tick : Int} (hS : Sv [X] v 19 eKV kvs ao cap) (h : room < 0 ∨ 1073741824 < room) : Ct Try.prog 18 [(.agg [.int .i64 room, .int .i64 tick, v].toArray)] [X] (fun _ : Unit => .tuple #[.pointer none, .int .i64 192]) (fun _ => [X]) := by
 refine Ct_body (n := 120) Try.func18 rfl rfl rfl fun F w0 Q hret hnorm hp => ?_
 change WC _ _ _ _ _ _ _ (_ :: F)
 refine WC_sr fun K1 hK1 => ?_
 refine WL_ac (Ac_box (xs := [.int .i64 room, .int .i64 tick, v]) rfl (by rw [hS.val]; rfl)) rfl rfl rfl ?_
 rintro _ _ ⟨b1, rfl, rfl⟩
 refine WL_r (Rd_assign rfl) rfl ?_
 refine WL_r (Rd_assign rfl) rfl ?_
 refine WL_end hK1 ?_
 refine WC_sr fun K2 hK2 => ?_
 refine WL_r (Rd_fieldAddr rfl fo54_0) rfl ?_
 refine WL_r (Rd_load rfl tk3) rfl ?_
 refine WL_ac (Ac_call cf8 rfl (hs := new_no (room := room) h)) rfl rfl rfl ?_
 rintro _ _ ⟨⟨⟩, rfl, hA⟩
 simp only [List.cons_append, List.nil_append] at hA
 replace hA := hA.symm
 subst hA
 refine WL_r (Rd_move rfl) rfl ?_
 refine WL_r (Rd_ext0 rfl) rfl ?_
 refine WL_r (Rd_ext1 rfl) rfl ?_
 refine WL_r (Rd_assign rfl) rfl ?_
 refine WL_r (Rd_assign rfl) rfl ?_
 refine WL_end hK2 ?_
 refine WC_seq fun K3 hK3 => ?_
 refine WC_sr fun K4 hK4 => ?_
 refine WL_r (Rd_move rfl) rfl ?_
 refine WL_r (Rd_neqN (i := 190) (j := 0) rfl rfl) rfl ?_
 refine WL_r (Rd_move rfl) rfl ?_
 refine WL_skip rfl rfl rfl ?_
 refine WL_skip rfl rfl rfl ?_
 refine WL_skip rfl rfl rfl ?_
 refine WL_skip rfl rfl rfl ?_
 refine WL_r (Rd_pickT rfl rfl) rfl ?_
 refine WL_end hK4 ?_
 refine WC_condT rfl ?_
 refine WC_sr fun K5 hK5 => ?_
 refine WL_r (Rd_assign rfl) rfl ?_
 refine WL_r (Rd_assign rfl) rfl ?_
 refine WL_end hK5 ?_
 refine WC_ret ?_
 exact hret.go () (Rs2 rfl rfl rfl)

def isKV (ix : Ix) (n : Int) (k : KV) : Bool := decide (k.ix = ix) && decide (k.num = n)
def findV (ix : Ix) (n : Int) (l : List KV) : Option KV := l.find? (isKV ix n)
theorem findV_step {ix : Ix} {n : Int} {l : List KV} {i : Nat} {k : KV} (hk : l[i]? = some k) (h : findV ix n (l.take i) = none) (hn : isKV ix n k = false) : findV ix n (l.take (i + 1)) = none := by
  rw [take_snocG hk]
  unfold findV at *
  rw [List.find?_append, h, List.find?_cons_of_neg (by simpa using hn)]
  rfl
theorem findV_hit {ix : Ix} {n : Int} {l : List KV} {i : Nat} {k : KV} (hk : l[i]? = some k) (h : findV ix n (l.take i) = none) (hy : isKV ix n k = true) : findV ix n l = some k := by
  have hi := (List.getElem?_eq_some_iff.1 hk).1
  have e : l = l.take i ++ k :: l.drop (i + 1) := by
    have e2 := (List.getElem?_eq_some_iff.1 hk).2
    rw [← e2, List.getElem_cons_drop, List.take_append_drop]
  rw [e]
  unfold findV at *
  rw [List.find?_append, h, List.find?_cons_of_pos hy]
  rfl

theorem kept_yes {X : Asn} {v : Value} {kvs : List KV} {ao : Option Addr} {cap : Nat} {room tick : Int} {ix : Ix} {n : Int} {k0 : KV} (hS : Sv [X] v 19 eKV kvs ao cap) (hn : kvs.length ≤ 100000000) (hf : findV ix n kvs = some k0) : Ct Try.prog 19 [(.agg [.int .i64 room, .int .i64 tick, v].toArray), aU .u8 ix.l, .int .i64 n] [X] (fun _ : Unit => .tuple #[.agg (eKV k0).toArray, .bool true]) (fun _ => [X]) := by
 refine Ct_body (n := 40) Try.func19 rfl rfl rfl fun F w0 Q hret hnorm hp => ?_
 change WC _ _ _ _ _ _ _ (_ :: F)
 have hixl := ix.h
 refine WC_sr fun K1 hK1 => ?_
 refine WL_ac (Ac_box (xs := [.int .i64 room, .int .i64 tick, v]) rfl (by rw [hS.val]; rfl)) rfl rfl rfl ?_
 rintro _ _ ⟨b3, rfl, rfl⟩
 refine WL_ac (Ac_box (xs := ix.l.flatMap (eU .u8 (w := 8))) rfl rfl) rfl rfl rfl ?_
 rintro _ _ ⟨b4, rfl, rfl⟩
 refine WL_ac (Ac_alloc zr65) rfl rfl rfl ?_
 rintro _ _ ⟨b6, rfl, rfl⟩
 refine WL_r (Rd_assign rfl) rfl ?_
 refine WL_end hK1 ?_
 refine WC_seq fun K2 hK2 => ?_
 refine WC_sr fun K3 hK3 => ?_
 refine WL_r (Rd_assign rfl) rfl ?_
 refine WL_end hK3 ?_
 refine WC_block ?_
 refine WC_loopK (σ := Nat) (fun i => [(8, .int .i64 ((i : Nat) : Int))]) (fun i => []) (fun i => i ≤ kvs.length ∧ findV ix n (kvs.take i) = none) (fun i => kvs.length - i) (0) [2, 3, 4, 6, 39] kpA (by (try dsimp only); repeat (first | with_reducible exact Gv.nil | (with_reducible apply Gv.cons; · (repeat (first | with_reducible exact Ext.here | with_reducible apply Ext.there))))) ?_ ?_ Sub.refl ?_
 ·exact ⟨Nat.zero_le _, rfl⟩
 ·(try dsimp only); exact (Wk.cons lkA Wk.nil)
 ·rintro i ⟨hi, hno⟩ K4 hK4
  simp only [List.cons_append, List.nil_append]
  refine WC_seq fun K5 hK5 => ?_
  refine WC_sr fun K6 hK6 => ?_
  refine WL_r (Rd_move rfl) rfl ?_
  refine WL_r (Rd_fieldAddr rfl fo54_2) rfl ?_
  refine WL_r (Rd_load rfl tk52 (v := v)) rfl ?_
  refine WL_r (Rd_len_sv rfl rfl ud52 (hA := hS)) rfl ?_
  refine WL_r (Rd_lssN rfl rfl) rfl ?_
  refine WL_end hK6 ?_
  refine WC_cond rfl (fun hc0 => ?_) (fun hc0 => ?_)
  ·try simp only [dz, ne_eq] at hc0
   obtain ⟨k, hk⟩ : ∃ k, kvs[i]? = some k := ⟨_, List.getElem?_eq_getElem (by omega)⟩
   refine WC_skip ?_
   refine Ps_next hK5 ?_
   refine WC_seq fun K7 hK7 => ?_
   refine WC_block ?_
   refine WC_seq fun K8 hK8 => ?_
   refine WC_draw mix [cl b3 54 [.int .i64 room, .int .i64 tick, v], cl b4 24 (ix.l.flatMap (eU .u8 (w := 8))), X] (fun i => ([2, 2, 2, 2, 2, 2, 2, 2, 2, 2, 2, 2, 2, 2, 2, 2, 2, 2] : List Nat).getD i 0) ?_
   refine WJ_tp 0 rfl (Rd_fieldAddr rfl fo54_2) rfl (hp _ _) ?_
   refine WJ_tk 1 (Rd_load rfl tk52 (v := v)) hp ?_ rfl (by kernel_rfl) rfl rfl rfl
   refine WJ_tp 2 rfl (Rd_move rfl) rfl (hp _ _) ?_
   refine WJ_tp 3 rfl (Rd_index_sv i rfl rfl ud52 sz65 (hA := hS) (hi := by omega)) rfl (hp _ _) ?_
   refine WJ_tp 4 rfl (Rd_fieldAddr rfl fo65_0) rfl (hp _ _) ?_
   refine WJ_tk 5 (Rd_loadgp_sv (f := eKV) (i := i) (j := 0) (y := k) (vs := k.ix.l.flatMap (eU .u8 (w := 8))) rfl tk24 (hA := hS) (hl := hk) (hjk := by rw [eKV_len]; omega) (hv := eKV_ix k)) hp ?_ rfl (by kernel_rfl) rfl rfl rfl
   refine WJ_tk 6 (Rd_loadg (vs := ix.l.flatMap (eU .u8)) rfl tk24 (hl := by rw [flatU_len, hixl]; exact Nat.le_refl _) (hi := by rw [List.drop_zero]; exact List.take_of_length_le (by rw [flatU_len, hixl]; exact Nat.le_refl _))) hp ?_ rfl (by kernel_rfl) rfl rfl rfl
   refine WJ_tp 7 rfl (Rd_eqW rfl rfl ais24 k.ix.h ix.h) rfl (hp _ _) ?_
   refine WJ_tp 8 rfl (Rd_move rfl) rfl (hp _ _) ?_
   refine WJ_bool 24 rfl (fun hg9 => ?_) (fun hg9 => ?_)
   ·try simp only [dz, ne_eq] at hg9
    refine WJ_tp 9 rfl (Rd_fieldAddr rfl fo54_2) rfl (hp _ _) ?_
    refine WJ_tk 10 (Rd_load rfl tk52 (v := v)) hp ?_ rfl (by kernel_rfl) rfl rfl rfl
    refine WJ_tp 11 rfl (Rd_move rfl) rfl (hp _ _) ?_
    refine WJ_tp 12 rfl (Rd_index_sv i rfl rfl ud52 sz65 (hA := hS) (hi := by omega)) rfl (hp _ _) ?_
    refine WJ_tp 13 rfl (Rd_fieldAddr rfl fo65_1) rfl (hp _ _) ?_
    refine WJ_tk 14 (Rd_load_sv (i := i) (j := 16) (y := k) rfl tk3 (hA := hS) (hl := hk) (hv := eKV_num k)) hp ?_ rfl (by kernel_rfl) rfl rfl rfl
    refine WJ_tp 15 rfl (Rd_move rfl) rfl (hp _ _) ?_
    refine WJ_tp 16 rfl (Rd_eql rfl rfl) rfl (hp _ _) ?_
    refine WJ_tp 17 rfl (Rd_pickT rfl rfl) rfl (hp _ _) ?_
    refine WJ_done (by kernel_rfl) ?_
    refine Ps_next hK8 ?_
    refine WC_cond rfl (fun hc1 => ?_) (fun hc1 => ?_)
    ·try simp only [dz, ne_eq] at hc1
     have hy : isKV ix n k = true := by unfold isKV; rw [Bool.and_eq_true, decide_eq_true_eq, decide_eq_true_eq]; exact ⟨ix_ext (by first | assumption | simp_all), by first | assumption | simp_all⟩
     have hhit := findV_hit hk hno hy
     rw [hf] at hhit
     have hkk : k = k0 := (Option.some.inj hhit).symm
     subst hkk
     refine WC_sr fun K10 hK10 => ?_
     refine WL_r (Rd_fieldAddr rfl fo54_2) rfl ?_
     refine WL_r (Rd_load rfl tk52 (v := v)) rfl ?_
     refine WL_r (Rd_move rfl) rfl ?_
     refine WL_r (Rd_index_sv i rfl rfl ud52 sz65 (hA := hS) (hi := by omega)) rfl ?_
     refine WL_r (Rd_loadg_sv (f := eKV) (i := i) (y := k) rfl tk65 (hA := hS) (hl := hk)) rfl ?_
     refine WL_ac0 (Ac_store (ys := eKV k) rfl rfl sz65 (h1 := by simpa [Value.cells] using encKV.one k) (hv := by simpa [Value.cells] using encKV.len k) (hr := by simp [Value.cells])) rfl rfl ?_
     rintro _ _ rfl
     refine WL_r (Rd_assign rfl) rfl ?_
     refine WL_end hK10 ?_
     refine WC_ret ?_
     exact hret.go () (Rs2ct rfl rfl rfl tk65 (hl := by rw [eKV_len]; omega) (hv := eKV_all k))
    ·try simp only [dz, ne_eq] at hc1
     have hy : isKV ix n k = false := by rw [Bool.eq_false_iff]; unfold isKV; rw [ne_eq, Bool.and_eq_true, decide_eq_true_eq, decide_eq_true_eq]; rintro ⟨rfl, rfl⟩; simp_all
     refine WC_skip ?_
     refine Ps_next hK7 ?_
     refine WC_region ?_
     refine WL_r (Rd_move rfl) rfl ?_
     refine WL_r (Rd_addN (j := 1) rfl rfl) rfl ?_
     refine WL_r (Rd_assign rfl) rfl ?_
     refine WL_nil ?_
     refine Ps_wkA (hK4 (i + 1) (⟨by omega, findV_step hk hno hy⟩) (by omega))
   ·try simp only [dz, ne_eq] at hg9
    refine WJ_skip 9 rfl (by kernel_rfl) rfl rfl rfl (hp _ _) ?_
    refine WJ_skip 10 rfl (by kernel_rfl) rfl rfl rfl (hp _ _) ?_
    refine WJ_skip 11 rfl (by kernel_rfl) rfl rfl rfl (hp _ _) ?_
    refine WJ_skip 12 rfl (by kernel_rfl) rfl rfl rfl (hp _ _) ?_
    refine WJ_skip 13 rfl (by kernel_rfl) rfl rfl rfl (hp _ _) ?_
    refine WJ_skip 14 rfl (by kernel_rfl) rfl rfl rfl (hp _ _) ?_
    refine WJ_skip 15 rfl (by kernel_rfl) rfl rfl rfl (hp _ _) ?_
    refine WJ_skip 16 rfl (by kernel_rfl) rfl rfl rfl (hp _ _) ?_
    refine WJ_tp 17 rfl (Rd_pickF rfl rfl) rfl (hp _ _) ?_
    refine WJ_done (by kernel_rfl) ?_
    refine Ps_next hK8 ?_
    refine WC_condF rfl ?_
    have hy : isKV ix n k = false := by rw [Bool.eq_false_iff]; unfold isKV; rw [ne_eq, Bool.and_eq_true, decide_eq_true_eq, decide_eq_true_eq]; rintro ⟨rfl, rfl⟩; simp_all
    refine WC_skip ?_
    refine Ps_next hK7 ?_
    refine WC_region ?_
    refine WL_r (Rd_move rfl) rfl ?_
    refine WL_r (Rd_addN (j := 1) rfl rfl) rfl ?_
    refine WL_r (Rd_assign rfl) rfl ?_
    refine WL_nil ?_
    refine Ps_wkA (hK4 (i + 1) (⟨by omega, findV_step hk hno hy⟩) (by omega))
  ·try simp only [dz, ne_eq] at hc0
   obtain rfl : i = kvs.length := by omega
   rw [List.take_length, hf] at hno
   cases hno

end Go.Proofs.Ytoakfknnaiapiaa
