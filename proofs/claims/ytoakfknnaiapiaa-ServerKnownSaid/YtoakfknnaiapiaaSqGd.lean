/-
  Contracts of functions that the claim reaches, or the logic and the plain laws that they rest on, or the row over them. (Conditions: none beyond the statement.)
-/
import Derived.Test.YtoakfknnaiapiaaSqGc
import Derived.Test.YtoakfknnaiapiaaSvLB
import Derived.Test.YtoakfknnaiapiaaLibC
set_option linter.all false
namespace Go.Proofs.Ytoakfknnaiapiaa
open Go.RowKit Go.SL Go.ShM Go.SvM
set_option maxHeartbeats 1000000
set_option maxRecDepth 20000
set_option linter.all false
theorem cf37 : cfn Try.prog 37 = true := by kernel_rfl
theorem cf38 : cfn Try.prog 38 = true := by kernel_rfl
theorem cf40 : cfn Try.prog 40 = true := by kernel_rfl
theorem cf41 : cfn Try.prog 41 = true := by kernel_rfl
theorem el27 : el Try.prog 27 = some (2, 16) := by kernel_rfl
theorem el65 : el Try.prog 65 = some (19, 72) := by kernel_rfl
theorem fo54_2 : fo Try.prog 54 2 = some (2, 52) := by kernel_rfl
theorem fo65_3 : fo Try.prog 65 3 = some (18, 63) := by kernel_rfl
theorem pls27 : pls Try.prog 27 = some ([.int .u32 0, .int .i64 0], [(0, 1), (1, 1)]) := by kernel_rfl
theorem pls54 : pls Try.prog 54 = some ([.int .i64 0, .int .i64 0, .slice none 0 0], [(0, 1), (1, 1), (2, 1)]) := by kernel_rfl
theorem pls65 : pls Try.prog 65 = some ([.int .u8 0, .int .u8 0, .int .u8 0, .int .u8 0, .int .u8 0, .int .u8 0, .int .u8 0, .int .u8 0, .int .u8 0, .int .u8 0, .int .u8 0, .int .u8 0, .int .u8 0, .int .u8 0, .int .u8 0, .int .u8 0, .int .i64 0, .slice none 0 0, .slice none 0 0], [(0, 16), (16, 1), (17, 1), (18, 1)]) := by kernel_rfl
theorem sz52 : sz Try.prog 52 = some 1 := by kernel_rfl
theorem sz54 : sz Try.prog 54 = some 3 := by kernel_rfl
theorem sz63 : sz Try.prog 63 = some 1 := by kernel_rfl
theorem sz65 : sz Try.prog 65 = some 19 := by kernel_rfl
theorem tk52 : tk Try.prog 52 = some none := by kernel_rfl
theorem tk54 : tk Try.prog 54 = some (some 3) := by kernel_rfl
theorem tk63 : tk Try.prog 63 = some none := by kernel_rfl
theorem tk65 : tk Try.prog 65 = some (some 19) := by kernel_rfl
theorem ud52 : Try.prog.underlying 52 = some (.slice 65) := by kernel_rfl
theorem ud63 : Try.prog.underlying 63 = some (.slice 27) := by kernel_rfl
theorem zr27 : zr Try.prog 27 = some [.int .u32 0, .int .i64 0] := by kernel_rfl
theorem zr54 : zr Try.prog 54 = some [.int .i64 0, .int .i64 0, .slice none 0 0] := by kernel_rfl
theorem zr65 : zr Try.prog 65 = some [.int .u8 0, .int .u8 0, .int .u8 0, .int .u8 0, .int .u8 0, .int .u8 0, .int .u8 0, .int .u8 0, .int .u8 0, .int .u8 0, .int .u8 0, .int .u8 0, .int .u8 0, .int .u8 0, .int .u8 0, .int .u8 0, .int .i64 0, .slice none 0 0, .slice none 0 0] := by kernel_rfl
theorem kpC_fill (ix : Ix) (n : Int) (ba : Option Nat) (bl bc : Nat) : fillL [(0, 16), (16, 1), (17, 1), (18, 1)] [(0, aU .u8 ix.l), (1, .int .i64 n), (2, sl ba bl bc)] [.int .u8 0, .int .u8 0, .int .u8 0, .int .u8 0, .int .u8 0, .int .u8 0, .int .u8 0, .int .u8 0, .int .u8 0, .int .u8 0, .int .u8 0, .int .u8 0, .int .u8 0, .int .u8 0, .int .u8 0, .int .u8 0, .int .i64 0, .slice none 0 0, .slice none 0 0] = some (kpC ix n (sl ba bl bc) (.slice none 0 0)) := by
  obtain ⟨l, h⟩ := ix
  obtain ⟨a0, a1, a2, a3, a4, a5, a6, a7, a8, a9, a10, a11, a12, a13, a14, a15, rfl⟩ := ix16 l h
  rfl

theorem state_ct {b m : Nat} {room tick : Int} {L : List En} {N : Nat} (hs : SrtK (L.map En.e)) (hnum : ∀ e ∈ L.map En.e, 0 ≤ e.num ∧ e.num < 255) (hws : ∀ x ∈ L, SrtW x.e.ls) (hlen : ∀ x ∈ L, x.e.ls.length ≤ N) (hbl : ∀ x ∈ L, x.e.b.length ≤ 33554432) (hN : N ≤ 1000) (hsort : SortW N) (hn : L.length ≤ 100000000) : Ct Try.prog 15 [.pointer (some ⟨b, 0, none⟩)] [cl b 40 [.bool true, .int .i64 room, .int .i64 tick, .int .i64 (((usedE L) : Nat) : Int), .map (some m)], mpP m kfK vfP (L.map En.kp), star (FEn 85 5) L] (fun g : {kms : List KM // kms.map KM.e = L.map En.e} × Option Nat × Nat => .agg [.int .i64 room, .int .i64 tick, sl g.2.1 g.1.1.length g.2.2].toArray) (fun g => [cl b 40 [.bool true, .int .i64 room, .int .i64 tick, .int .i64 (((usedE L) : Nat) : Int), .map (some m)], mpP m kfK vfP (L.map En.kp), star (FEn 85 5) L, arr g.2.1 g.2.2 19 65 eKM g.1.1, star (FKM 5 27) g.1.1]) := by
 refine Ct_body (n := 83) Try.func15 rfl rfl rfl fun F w0 Q hret hnorm hp => ?_
 change WC _ _ _ _ _ _ _ (_ :: _ :: _ :: F)
 have hkm : ((L.map En.e).map Kp.key).length = L.length := by rw [List.length_map, List.length_map]
 refine WC_sr fun K1 hK1 => ?_
 refine WL_ac (Ac_alloc zr54) rfl rfl rfl ?_
 rintro _ _ ⟨b2, rfl, rfl⟩
 refine WL_end hK1 ?_
 refine WC_seq fun K2 hK2 => ?_
 refine WC_sr fun K3 hK3 => ?_
 refine WL_r (Rd_move rfl) rfl ?_
 refine WL_ac (Ac_call cf27 rfl (hs := ready_ct (b := b) (m := m) (room := room) (tick := tick) (u := usedE L))) rfl rfl rfl ?_
 rintro _ _ ⟨⟨⟩, rfl, hA⟩
 simp only [List.cons_append, List.nil_append] at hA
 replace hA := hA.symm
 subst hA
 refine WL_r (Rd_not rfl) rfl ?_
 refine WL_end hK3 ?_
 refine WC_condF rfl ?_
 refine WC_skip ?_
 refine Ps_next hK2 ?_
 refine WC_seq fun K4 hK4 => ?_
 refine WC_drawA mix (fun i => ([2, 2, 2, 2, 2, 2, 2, 2, 2, 1, 1] : List Nat).getD i 0) ?_
 refine WJ_tp 0 rfl (Rd_move rfl) rfl (hp _ _) ?_
 refine WJ_tp 1 rfl (Rd_nilCheck rfl) rfl (hp _ _) ?_
 refine WJ_tp 2 rfl (Rd_fieldAddr rfl fo40_1) rfl (hp _ _) ?_
 refine WJ_tk 3 (Rd_load rfl tk3) hp ?_ rfl (by kernel_rfl) rfl rfl rfl
 refine WJ_tp 4 rfl (Rd_move rfl) rfl (hp _ _) ?_
 refine WJ_tp 5 rfl (Rd_nilCheck rfl) rfl (hp _ _) ?_
 refine WJ_tp 6 rfl (Rd_fieldAddr rfl fo40_2) rfl (hp _ _) ?_
 refine WJ_tk 7 (Rd_load rfl tk3) hp ?_ rfl (by kernel_rfl) rfl rfl rfl
 refine WJ_tp 8 rfl (Rd_build pls54 rfl) rfl (hp _ _) ?_
 refine WJ_all (rs := [9]) (by kernel_rfl) rfl ?_
 refine WI_one ?_
 refine WI_ac rfl (Ac_alloc zr54) rfl rfl rfl rfl ?_
 rintro _ _ ⟨b3, rfl, rfl⟩
 refine ⟨(fun _ => subA), ?_⟩
 refine WJ_all (rs := [10]) (by kernel_rfl) rfl ?_
 refine WI_one ?_
 refine WI_ac0 rfl (Ac_store (ys := [.int .i64 room, .int .i64 tick, .slice none 0 0]) rfl rfl sz54 (h1 := by simp [setAt, Value.cells, Value.oneCell', sl]) (hr := rfl)) rfl rfl rfl ?_
 rintro _ _ rfl
 refine ⟨(fun _ => subA), ?_⟩
 refine WJ_done (by kernel_rfl) ?_
 refine Ps_next hK4 ?_
 refine WC_seq fun K5 hK5 => ?_
 refine WC_sr fun K6 hK6 => ?_
 refine WL_r (Rd_move rfl) rfl ?_
 refine WL_r (Rd_nilCheck rfl) rfl ?_
 refine WL_r (Rd_fieldAddr rfl fo40_4) rfl ?_
 refine WL_r (Rd_load rfl tk38 (v := .map (some m))) rfl ?_
 refine WL_ac (Ac_call cf38 rfl (hs := kk_ct (m := m))) rfl rfl rfl ?_
 rintro _ _ ⟨p27, rfl, hA⟩
 simp only [List.cons_append, List.nil_append] at hA
 replace hA := hA.symm
 subst hA
 refine WL_ac (Ac_call cf37 rfl (hs := kkSorted_ct (p := p27) (m := m) (L := L) hs hnum hn)) rfl rfl rfl ?_
 rintro _ _ ⟨⟨a28, cap28⟩, rfl, hA⟩
 simp only [List.cons_append, List.nil_append] at hA
 replace hA := hA.symm
 subst hA
 refine WL_r (Rd_len rfl rfl ud93) rfl ?_
 refine WL_r (Rd_move rfl) rfl ?_
 refine WL_end hK6 ?_
 refine WC_block ?_
 refine WC_imp (fun w h => sat_nil (e := 19) (T := 65) (f := eKM) h) ?_
 refine WC_star0 (FKM 5 27) ?_
 rw [show cl b3 54 [.int .i64 room, .int .i64 tick, .slice none 0 0] = cl b3 54 [.int .i64 room, .int .i64 tick, sl none ([] : List KM).length 0] from rfl]
 refine WC_loopK (σ := Nat × (List KM) × (Option Nat) × Nat) (fun ⟨i, kms, a, cap⟩ => [(30, .int .i64 ((i : Nat) : Int))]) (fun ⟨i, kms, a, cap⟩ => [cl b3 54 [.int .i64 room, .int .i64 tick, sl a kms.length cap], arr a cap 19 65 eKM kms, star (FKM 5 27) kms]) (fun ⟨i, kms, a, cap⟩ => i ≤ L.length ∧ kms.map KM.e = (L.map En.e).take i) (fun ⟨i, kms, a, cap⟩ => L.length - i) ⟨0, [], none, 0⟩ [0, 2, 3, 28, 29, 82] kpA (by (try dsimp only); repeat (first | with_reducible exact Gv.nil | (with_reducible apply Gv.cons; · (repeat (first | with_reducible exact Ext.here | with_reducible apply Ext.there))))) ?_ ?_ Sub.refl ?_
 ·exact ⟨Nat.zero_le _, rfl⟩
 ·(try dsimp only); exact (Wk.cons lkA Wk.nil)
 ·rintro ⟨i, kms, a, cap⟩ ⟨hi, hkms⟩ K7 hK7
  simp only [List.cons_append, List.nil_append]
  have hkl : kms.length ≤ L.length := by have h := congrArg List.length hkms; rw [List.length_map, List.length_take, List.length_map] at h; omega
  refine WC_sr fun K8 hK8 => ?_
  refine WL_r (Rd_lssN rfl rfl) rfl ?_
  refine WL_end hK8 ?_
  refine WC_seq fun K9 hK9 => ?_
  refine WC_cond rfl (fun hc1 => ?_) (fun hc1 => ?_)
  ·try simp only [dz, ne_eq] at hc1
   refine WC_some (a := a28) hasA (by omega) (fun g28 hg28 hcp28 => ?_)
   subst hg28
   obtain ⟨A, x, B, hM, hxk, hf, hxL, htk⟩ := at_key hs (show i < L.length by omega)
   rw [show star (FEn 85 5) L = star (FEn 85 5) (A ++ x :: B) from by rw [← hM]]
   refine WC_enopen 85 5 A x B ?_
   have hwl : (x.e.ls.map Prod.fst).length = x.e.ls.length := List.length_map _
   refine WC_fact (fun w h => arr_facts (a := x.a) (cap := x.cap) (e := 1) (T := 5) (f := (eU .u8 (w := 8))) (l := x.e.b) hasA h) (fun hxf => ?_)
   have hxS : Sv [arr x.a x.cap 1 5 (eU .u8 (w := 8)) x.e.b] (sl x.a x.e.b.length x.cap) 1 (eU .u8 (w := 8)) x.e.b (x.a.map fun g => ⟨g, 0, none⟩) x.cap := Sv_own' (T := 5) (encU .u8 (w := 8)) hxf.1 hxf.2
   refine WC_skip ?_
   refine Ps_next hK9 ?_
   refine WC_seq fun K10 hK10 => ?_
   refine WC_block ?_
   refine WC_sr fun K11 hK11 => ?_
   refine WL_r (Rd_index i rfl rfl ud93 sz81 (hi := by omega)) rfl ?_
   refine WL_r (Rd_loadg_arr (f := kcK) (i := i) (y := x.e.key) rfl tk81 (hl := hxk)) rfl ?_
   refine WL_ac (Ac_alloc zr81) rfl rfl rfl ?_
   rintro _ _ ⟨b5, rfl, rfl⟩
   refine WL_ac0 (Ac_store (ys := kcK x.e.key) rfl rfl sz81 (h1 := encK.one _) (hv := by simpa [Value.cells, kfK] using kcK_len x.e.key) (hr := by simp [Value.cells, kfK])) rfl rfl ?_
   rintro _ _ rfl
   refine WL_end hK11 ?_
   refine WC_seq fun K12 hK12 => ?_
   refine WC_drawA mix (fun i => ([2, 2, 2, 2, 2, 2, 2] : List Nat).getD i 0) ?_
   refine WJ_tp 0 rfl (Rd_move rfl) rfl (hp _ _) ?_
   refine WJ_tp 1 rfl (Rd_nilCheck rfl) rfl (hp _ _) ?_
   refine WJ_tp 2 rfl (Rd_fieldAddr rfl fo40_4) rfl (hp _ _) ?_
   refine WJ_tk 3 (Rd_load rfl tk38 (v := .map (some m))) hp ?_ rfl (by kernel_rfl) rfl rfl rfl
   refine WJ_tk 4 (Rd_loadg (vs := kcK x.e.key) rfl tk81 (hl := by rw [kcK_len]; omega) (hi := by rw [List.drop_zero]; exact List.take_of_length_le (Nat.le_of_eq (kcK_len x.e.key)))) hp ?_ rfl (by kernel_rfl) rfl rfl rfl
   refine WJ_tk 5 (Rd_valE (v := .pointer (some ⟨x.p, 0, none⟩)) (Rd_lookP1 keyK rfl rfl ud38 zvP) (by rw [lookE1, hf]; rfl)) hp ?_ rfl (by kernel_rfl) rfl rfl rfl
   refine WJ_tp 6 rfl (Rd_assign rfl) rfl (hp _ _) ?_
   refine WJ_done (by kernel_rfl) ?_
   refine Ps_next hK12 ?_
   refine WC_seq fun K13 hK13 => ?_
   refine WC_draw mix [cl b5 81 (kcK x.e.key), cl x.p 85 [sl x.a x.e.b.length x.cap, .map (some x.m)], arr x.a x.cap 1 5 (eU .u8 (w := 8)) x.e.b] (fun i => ([2, 2, 2, 2, 2, 2, 2, 2, 1, 2, 1, 1] : List Nat).getD i 0) ?_
   refine WJ_tp 0 rfl (Rd_fieldAddr rfl fo81_0) rfl (hp _ _) ?_
   refine WJ_tk 1 (Rd_loadg (vs := x.e.ix.l.flatMap (eU .u8)) rfl tk24 (hl := by rw [kcK_len]; omega) (hi := kcK_ix x.e.key)) hp ?_ rfl (by kernel_rfl) rfl rfl rfl
   refine WJ_tp 2 rfl (Rd_fieldAddr rfl fo81_1) rfl (hp _ _) ?_
   refine WJ_tk 3 (Rd_load rfl tk3 (v := .int .i64 x.e.num) (hi := kcK_num x.e.key)) hp ?_ rfl (by kernel_rfl) rfl rfl rfl
   refine WJ_tp 4 rfl (Rd_move rfl) rfl (hp _ _) ?_
   refine WJ_tp 5 rfl (Rd_nilCheck rfl) rfl (hp _ _) ?_
   refine WJ_tp 6 rfl (Rd_fieldAddr rfl fo85_0) rfl (hp _ _) ?_
   refine WJ_tk 7 (Rd_load rfl tk28 (v := sl x.a x.e.b.length x.cap)) hp ?_ rfl (by kernel_rfl) rfl rfl rfl
   refine WJ_all (rs := [8, 10]) (by kernel_rfl) rfl ?_
   refine WI_cons ?_ (WI_cons ?_ (by intro _ h; cases h))
   ·skip
    refine WI_ac rfl (Ac_call cf35 rfl (hs := clone_ct (X := arr x.a x.cap 1 5 (eU .u8 (w := 8)) x.e.b) (l := x.e.b) (hS := hxS) (by have := hbl x hxL; omega))) rfl rfl rfl rfl ?_
    rintro _ _ ⟨⟨a48, cap48⟩, rfl, hA⟩
    simp only [List.cons_append, List.nil_append] at hA
    replace hA := hA.symm
    subst hA
    refine ⟨(fun _ => subA), ?_⟩
    refine WJ_tp 9 rfl (Rd_valE (v := .agg ((kpC x.e.ix x.e.num (sl a48 x.e.b.length cap48) (.slice none 0 0))).toArray) (Rd_build pls65 rfl (hf := kpC_fill _ _ _ _ _)) rfl) rfl (hp _ _) ?_
    refine WJ_all (rs := [10]) (by kernel_rfl) rfl ?_
    refine WI_one ?_
    refine WI_ac rfl (Ac_alloc zr65) rfl rfl rfl rfl ?_
    rintro _ _ ⟨b7, rfl, rfl⟩
    refine ⟨(fun _ => subA), ?_⟩
    refine WJ_all (rs := [11]) (by kernel_rfl) rfl ?_
    refine WI_one ?_
    refine WI_ac0 rfl (Ac_store (ys := (kpC x.e.ix x.e.num (sl a48 x.e.b.length cap48) (.slice none 0 0))) rfl rfl sz65 (h1 := by simpa [Value.cells] using kpC_one rfl rfl) (hv := by simpa [Value.cells] using kpC_len _ _ _ _) (hr := by simp [Value.cells])) rfl rfl rfl ?_
    rintro _ _ rfl
    refine ⟨(fun _ => subA), ?_⟩
    refine WJ_done (by kernel_rfl) ?_
    refine Ps_next hK13 ?_
    refine WC_seq fun K14 hK14 => ?_
    refine WC_sr fun K15 hK15 => ?_
    refine WL_r (Rd_move rfl) rfl ?_
    refine WL_r (Rd_nilCheck rfl) rfl ?_
    refine WL_r (Rd_fieldAddr rfl fo85_1) rfl ?_
    refine WL_r (Rd_load rfl tk83 (v := .map (some x.m))) rfl ?_
    refine WL_ac (Ac_call cf41 rfl (hs := kw_ct (m := x.m))) rfl rfl rfl ?_
    rintro _ _ ⟨p54, rfl, hA⟩
    simp only [List.cons_append, List.nil_append] at hA
    replace hA := hA.symm
    subst hA
    refine WL_ac (Ac_call cf40 rfl (hs := kwSorted_ct (p := p54) (m := x.m) (ls := x.e.ls) hsort (hws x hxL) (hlen x hxL) (by omega))) rfl rfl rfl ?_
    rintro _ _ ⟨⟨a55, cap55⟩, rfl, hA⟩
    simp only [List.cons_append, List.nil_append] at hA
    replace hA := hA.symm
    subst hA
    refine WL_r (Rd_len rfl rfl ud99) rfl ?_
    refine WL_r (Rd_move rfl) rfl ?_
    refine WL_end hK15 ?_
    refine WC_block ?_
    refine WC_imp (fun w h => sat_nil (e := 2) (T := 27) (f := eLs) h) ?_
    rw [show cl b7 65 (kpC x.e.ix x.e.num (sl a48 x.e.b.length cap48) (.slice none 0 0)) = cl b7 65 (kpC x.e.ix x.e.num (sl a48 x.e.b.length cap48) (sl none (x.e.ls.take 0).length 0)) from rfl, show arr none 0 2 27 eLs [] = arr none 0 2 27 eLs (x.e.ls.take 0) from rfl]
    refine WC_loopK (σ := Nat × (Option Nat) × Nat) (fun ⟨j, la, lc⟩ => [(57, .int .i64 ((j : Nat) : Int))]) (fun ⟨j, la, lc⟩ => [cl b7 65 (kpC x.e.ix x.e.num (sl a48 x.e.b.length cap48) (sl la (x.e.ls.take j).length lc)), arr la lc 2 27 eLs (x.e.ls.take j)]) (fun ⟨j, la, lc⟩ => j ≤ x.e.ls.length) (fun ⟨j, la, lc⟩ => x.e.ls.length - j) ⟨0, none, 0⟩ [0, 2, 3, 5, 6, 7, 28, 29, 30, 31, 32, 33, 34, 35, 36, 37, 38, 39, 40, 41, 42, 43, 44, 45, 46, 47, 48, 49, 50, 51, 52, 53, 54, 55, 56, 75, 76, 77, 78, 79, 80, 81, 82] kpA (by (try dsimp only); repeat (first | with_reducible exact Gv.nil | (with_reducible apply Gv.cons; · (repeat (first | with_reducible exact Ext.here | with_reducible apply Ext.there))))) ?_ ?_ Sub.refl ?_
    ·exact Nat.zero_le _
    ·(try dsimp only); exact (Wk.cons lkA Wk.nil)
    ·rintro ⟨j, la, lc⟩ hj K16 hK16
     simp only [List.cons_append, List.nil_append]
     refine WC_sr fun K17 hK17 => ?_
     refine WL_r (Rd_lssN rfl rfl) rfl ?_
     refine WL_end hK17 ?_
     refine WC_seq fun K18 hK18 => ?_
     refine WC_cond rfl (fun hc2 => ?_) (fun hc2 => ?_)
     ·try simp only [dz, ne_eq] at hc2
      refine WC_some (a := a55) hasA (by omega) (fun g55 hg55 hcp55 => ?_)
      subst hg55
      obtain ⟨y, hy1, hy2, hy3, hy4⟩ := ls_at (hws x hxL) (show j < x.e.ls.length by omega)
      have htl : (x.e.ls.take j).length + 1 = (x.e.ls.take (j + 1)).length := by rw [hy4, List.length_append]; rfl
      have htl2 : (x.e.ls.take j).length ≤ x.e.ls.length := by rw [List.length_take]; omega
      have htl3 := hlen x hxL
      refine WC_skip ?_
      refine Ps_next hK18 ?_
      refine WC_seq fun K19 hK19 => ?_
      refine WC_block ?_
      refine WC_sr fun K20 hK20 => ?_
      refine WL_r (Rd_index j rfl rfl ud99 sz25 (hi := by omega)) rfl ?_
      refine WL_r (Rd_load_arr (i := j) (j := 0) rfl tk25 (hl := hy2)) rfl ?_
      refine WL_r (Rd_assign rfl) rfl ?_
      refine WL_end hK20 ?_
      refine WC_drawA mix (fun i => ([2, 2, 2, 2, 2, 2, 2, 2, 2, 2, 1, 0, 2, 0] : List Nat).getD i 0) ?_
      refine WJ_tp 0 rfl (Rd_fieldAddr rfl fo65_3) rfl (hp _ _) ?_
      refine WJ_tk 1 (Rd_load rfl tk63 (v := sl la (x.e.ls.take j).length lc) (hi := kpC_ls _ _ _ _)) hp ?_ rfl (by kernel_rfl) rfl rfl rfl
      refine WJ_tp 2 rfl (Rd_move rfl) rfl (hp _ _) ?_
      refine WJ_tp 3 rfl (Rd_move rfl) rfl (hp _ _) ?_
      refine WJ_tp 4 rfl (Rd_nilCheck rfl) rfl (hp _ _) ?_
      refine WJ_tp 5 rfl (Rd_fieldAddr rfl fo85_1) rfl (hp _ _) ?_
      refine WJ_tp 7 rfl (Rd_move rfl) rfl (hp _ _) ?_
      refine WJ_all (rs := [6]) (by kernel_rfl) rfl ?_
      refine WI_one ?_
      refine WI_rd rfl (Rd_load rfl tk83 (v := .map (some x.m))) rfl rfl rfl (fun h => by cases h) ?_
      refine WJ_all (rs := [8]) (by kernel_rfl) rfl ?_
      refine WI_one ?_
      refine WI_rd rfl (Rd_valE (v := .int .i64 y.2) (Rd_lookP1 keyW rfl rfl ud83 zvW) (by rw [hy3]; rfl)) rfl rfl rfl (fun h => by cases h) ?_
      refine WJ_tp 9 rfl (Rd_build pls27 rfl) rfl (hp _ _) ?_
      refine WJ_all (rs := [10]) (by kernel_rfl) rfl ?_
      refine WI_one ?_
      refine WI_ac rfl (Ac_bs1 (xs := eLs y) rfl ud63 zr27 sz27) rfl rfl rfl rfl ?_
      rintro _ _ ⟨b71, rfl, rfl⟩
      refine ⟨(fun _ => subA), ?_⟩
      refine WJ_all (rs := [11]) (by kernel_rfl) rfl ?_
      refine WI_one ?_
      refine WI_ac rfl (Ac_append1 (f := eLs) encLs y rfl rfl ud63 ud63 el27) rfl rfl rfl rfl ?_
      rintro _ _ ⟨a72, cap72, rfl, rfl⟩
      rw [← hy4, htl]
      refine ⟨(fun h => by cases h), ?_⟩
      refine WJ_tp 12 rfl (Rd_fieldAddr rfl fo65_3) rfl (hp _ _) ?_
      refine WJ_all (rs := [13]) (by kernel_rfl) rfl ?_
      refine WI_one ?_
      refine WI_ac0 rfl (Ac_store1 (ys := (kpC x.e.ix x.e.num (sl a48 x.e.b.length cap48) (sl a72 (x.e.ls.take (j + 1)).length cap72))) rfl rfl sz63 (hl := by rw [kpC_len]; rfl) (hr := kpC_set _ _ _ _ _)) rfl rfl rfl ?_
      rintro _ _ rfl
      refine ⟨(fun h => by cases h), ?_⟩
      refine WJ_done (by kernel_rfl) ?_
      refine Ps_next hK19 ?_
      refine WC_region ?_
      refine WL_r (Rd_addN (j := 1) rfl rfl) rfl ?_
      refine WL_r (Rd_move rfl) rfl ?_
      refine WL_nil ?_
      refine Ps_wkA (hK16 ⟨j + 1, a72, cap72⟩ (by (try dsimp only); omega) (by (try dsimp only); omega))
     ·try simp only [dz, ne_eq] at hc2
      obtain rfl : j = x.e.ls.length := by omega
      rw [List.take_length]
      refine WC_exit ?_
      refine Ps_next hK14 ?_
      refine WC_region ?_
      refine WL_r (Rd_fieldAddr rfl fo54_2) rfl ?_
      refine WL_r (Rd_load rfl tk52 (v := sl a kms.length cap)) rfl ?_
      refine WL_r (Rd_loadg (vs := (kpC x.e.ix x.e.num (sl a48 x.e.b.length cap48) (sl la x.e.ls.length lc))) rfl tk65 (hl := by rw [kpC_len]; omega) (hi := kpC_all _ _ _ _)) rfl ?_
      refine WL_ac (Ac_bs1 (xs := (kpC x.e.ix x.e.num (sl a48 x.e.b.length cap48) (sl la x.e.ls.length lc))) rfl ud52 zr65 sz65 (hl := kpC_len _ _ _ _)) rfl rfl rfl ?_
      rintro _ _ ⟨b78, rfl, rfl⟩
      refine WL_ac (Ac_append1 (f := eKM) encKM (⟨x.e, a48, cap48, la, lc⟩ : KM) rfl rfl ud52 ud52 el65) rfl rfl rfl ?_
      rintro _ _ ⟨a79, cap79, rfl, rfl⟩
      rw [show kms.length + 1 = (kms ++ [(⟨x.e, a48, cap48, la, lc⟩ : KM)]).length from by rw [List.length_append]; rfl]
      refine WL_r (Rd_fieldAddr rfl fo54_2) rfl ?_
      refine WL_ac0 (Ac_store1 rfl rfl sz52) rfl rfl ?_
      rintro _ _ rfl
      refine WL_nil ?_
      refine Ps_next hK10 ?_
      refine WC_region ?_
      refine WL_enclose 85 5 A x B ?_
      rw [show star (FEn 85 5) (A ++ x :: B) = star (FEn 85 5) L from by rw [← hM]]
      refine WL_kmsnoc 5 27 kms x.e a48 cap48 la lc ?_
      refine WL_r (Rd_addN (j := 1) rfl rfl) rfl ?_
      refine WL_r (Rd_move rfl) rfl ?_
      refine WL_nil ?_
      refine Ps_wkA (hK7 ⟨i + 1, kms ++ [(⟨x.e, a48, cap48, la, lc⟩ : KM)], a79, cap79⟩ (⟨by (try dsimp only); omega, by (try dsimp only); rw [List.map_append, hkms, htk]; rfl⟩) (by (try dsimp only); omega))
   ·skip
    refine WI_ac rfl (Ac_alloc zr65) rfl rfl rfl rfl ?_
    rintro _ _ ⟨b7, rfl, rfl⟩
    refine ⟨(fun _ => subA), ?_⟩
    refine WJ_all (rs := [8]) (by kernel_rfl) rfl ?_
    refine WI_one ?_
    refine WI_ac rfl (Ac_call cf35 rfl (hs := clone_ct (X := arr x.a x.cap 1 5 (eU .u8 (w := 8)) x.e.b) (l := x.e.b) (hS := hxS) (by have := hbl x hxL; omega))) rfl rfl rfl rfl ?_
    rintro _ _ ⟨⟨a48, cap48⟩, rfl, hA⟩
    simp only [List.cons_append, List.nil_append] at hA
    replace hA := hA.symm
    subst hA
    refine ⟨(fun _ => subA), ?_⟩
    refine WJ_tp 9 rfl (Rd_valE (v := .agg ((kpC x.e.ix x.e.num (sl a48 x.e.b.length cap48) (.slice none 0 0))).toArray) (Rd_build pls65 rfl (hf := kpC_fill _ _ _ _ _)) rfl) rfl (hp _ _) ?_
    refine WJ_all (rs := [11]) (by kernel_rfl) rfl ?_
    refine WI_one ?_
    refine WI_ac0 rfl (Ac_store (ys := (kpC x.e.ix x.e.num (sl a48 x.e.b.length cap48) (.slice none 0 0))) rfl rfl sz65 (h1 := by simpa [Value.cells] using kpC_one rfl rfl) (hv := by simpa [Value.cells] using kpC_len _ _ _ _) (hr := by simp [Value.cells])) rfl rfl rfl ?_
    rintro _ _ rfl
    refine ⟨(fun _ => subA), ?_⟩
    refine WJ_done (by kernel_rfl) ?_
    refine Ps_next hK13 ?_
    refine WC_seq fun K21 hK21 => ?_
    refine WC_sr fun K22 hK22 => ?_
    refine WL_r (Rd_move rfl) rfl ?_
    refine WL_r (Rd_nilCheck rfl) rfl ?_
    refine WL_r (Rd_fieldAddr rfl fo85_1) rfl ?_
    refine WL_r (Rd_load rfl tk83 (v := .map (some x.m))) rfl ?_
    refine WL_ac (Ac_call cf41 rfl (hs := kw_ct (m := x.m))) rfl rfl rfl ?_
    rintro _ _ ⟨p54, rfl, hA⟩
    simp only [List.cons_append, List.nil_append] at hA
    replace hA := hA.symm
    subst hA
    refine WL_ac (Ac_call cf40 rfl (hs := kwSorted_ct (p := p54) (m := x.m) (ls := x.e.ls) hsort (hws x hxL) (hlen x hxL) (by omega))) rfl rfl rfl ?_
    rintro _ _ ⟨⟨a55, cap55⟩, rfl, hA⟩
    simp only [List.cons_append, List.nil_append] at hA
    replace hA := hA.symm
    subst hA
    refine WL_r (Rd_len rfl rfl ud99) rfl ?_
    refine WL_r (Rd_move rfl) rfl ?_
    refine WL_end hK22 ?_
    refine WC_block ?_
    refine WC_imp (fun w h => sat_nil (e := 2) (T := 27) (f := eLs) h) ?_
    rw [show cl b7 65 (kpC x.e.ix x.e.num (sl a48 x.e.b.length cap48) (.slice none 0 0)) = cl b7 65 (kpC x.e.ix x.e.num (sl a48 x.e.b.length cap48) (sl none (x.e.ls.take 0).length 0)) from rfl, show arr none 0 2 27 eLs [] = arr none 0 2 27 eLs (x.e.ls.take 0) from rfl]
    refine WC_loopK (σ := Nat × (Option Nat) × Nat) (fun ⟨j, la, lc⟩ => [(57, .int .i64 ((j : Nat) : Int))]) (fun ⟨j, la, lc⟩ => [cl b7 65 (kpC x.e.ix x.e.num (sl a48 x.e.b.length cap48) (sl la (x.e.ls.take j).length lc)), arr la lc 2 27 eLs (x.e.ls.take j)]) (fun ⟨j, la, lc⟩ => j ≤ x.e.ls.length) (fun ⟨j, la, lc⟩ => x.e.ls.length - j) ⟨0, none, 0⟩ [0, 2, 3, 5, 6, 7, 28, 29, 30, 31, 32, 33, 34, 35, 36, 37, 38, 39, 40, 41, 42, 43, 44, 45, 46, 47, 48, 49, 50, 51, 52, 53, 54, 55, 56, 75, 76, 77, 78, 79, 80, 81, 82] kpA (by (try dsimp only); repeat (first | with_reducible exact Gv.nil | (with_reducible apply Gv.cons; · (repeat (first | with_reducible exact Ext.here | with_reducible apply Ext.there))))) ?_ ?_ Sub.refl ?_
    ·exact Nat.zero_le _
    ·(try dsimp only); exact (Wk.cons lkA Wk.nil)
    ·rintro ⟨j, la, lc⟩ hj K23 hK23
     simp only [List.cons_append, List.nil_append]
     refine WC_sr fun K24 hK24 => ?_
     refine WL_r (Rd_lssN rfl rfl) rfl ?_
     refine WL_end hK24 ?_
     refine WC_seq fun K25 hK25 => ?_
     refine WC_cond rfl (fun hc2 => ?_) (fun hc2 => ?_)
     ·try simp only [dz, ne_eq] at hc2
      refine WC_some (a := a55) hasA (by omega) (fun g55 hg55 hcp55 => ?_)
      subst hg55
      obtain ⟨y, hy1, hy2, hy3, hy4⟩ := ls_at (hws x hxL) (show j < x.e.ls.length by omega)
      have htl : (x.e.ls.take j).length + 1 = (x.e.ls.take (j + 1)).length := by rw [hy4, List.length_append]; rfl
      have htl2 : (x.e.ls.take j).length ≤ x.e.ls.length := by rw [List.length_take]; omega
      have htl3 := hlen x hxL
      refine WC_skip ?_
      refine Ps_next hK25 ?_
      refine WC_seq fun K26 hK26 => ?_
      refine WC_block ?_
      refine WC_sr fun K27 hK27 => ?_
      refine WL_r (Rd_index j rfl rfl ud99 sz25 (hi := by omega)) rfl ?_
      refine WL_r (Rd_load_arr (i := j) (j := 0) rfl tk25 (hl := hy2)) rfl ?_
      refine WL_r (Rd_assign rfl) rfl ?_
      refine WL_end hK27 ?_
      refine WC_drawA mix (fun i => ([2, 2, 2, 2, 2, 2, 2, 2, 2, 2, 1, 0, 2, 0] : List Nat).getD i 0) ?_
      refine WJ_tp 0 rfl (Rd_fieldAddr rfl fo65_3) rfl (hp _ _) ?_
      refine WJ_tk 1 (Rd_load rfl tk63 (v := sl la (x.e.ls.take j).length lc) (hi := kpC_ls _ _ _ _)) hp ?_ rfl (by kernel_rfl) rfl rfl rfl
      refine WJ_tp 2 rfl (Rd_move rfl) rfl (hp _ _) ?_
      refine WJ_tp 3 rfl (Rd_move rfl) rfl (hp _ _) ?_
      refine WJ_tp 4 rfl (Rd_nilCheck rfl) rfl (hp _ _) ?_
      refine WJ_tp 5 rfl (Rd_fieldAddr rfl fo85_1) rfl (hp _ _) ?_
      refine WJ_tp 7 rfl (Rd_move rfl) rfl (hp _ _) ?_
      refine WJ_all (rs := [6]) (by kernel_rfl) rfl ?_
      refine WI_one ?_
      refine WI_rd rfl (Rd_load rfl tk83 (v := .map (some x.m))) rfl rfl rfl (fun h => by cases h) ?_
      refine WJ_all (rs := [8]) (by kernel_rfl) rfl ?_
      refine WI_one ?_
      refine WI_rd rfl (Rd_valE (v := .int .i64 y.2) (Rd_lookP1 keyW rfl rfl ud83 zvW) (by rw [hy3]; rfl)) rfl rfl rfl (fun h => by cases h) ?_
      refine WJ_tp 9 rfl (Rd_build pls27 rfl) rfl (hp _ _) ?_
      refine WJ_all (rs := [10]) (by kernel_rfl) rfl ?_
      refine WI_one ?_
      refine WI_ac rfl (Ac_bs1 (xs := eLs y) rfl ud63 zr27 sz27) rfl rfl rfl rfl ?_
      rintro _ _ ⟨b71, rfl, rfl⟩
      refine ⟨(fun _ => subA), ?_⟩
      refine WJ_all (rs := [11]) (by kernel_rfl) rfl ?_
      refine WI_one ?_
      refine WI_ac rfl (Ac_append1 (f := eLs) encLs y rfl rfl ud63 ud63 el27) rfl rfl rfl rfl ?_
      rintro _ _ ⟨a72, cap72, rfl, rfl⟩
      rw [← hy4, htl]
      refine ⟨(fun h => by cases h), ?_⟩
      refine WJ_tp 12 rfl (Rd_fieldAddr rfl fo65_3) rfl (hp _ _) ?_
      refine WJ_all (rs := [13]) (by kernel_rfl) rfl ?_
      refine WI_one ?_
      refine WI_ac0 rfl (Ac_store1 (ys := (kpC x.e.ix x.e.num (sl a48 x.e.b.length cap48) (sl a72 (x.e.ls.take (j + 1)).length cap72))) rfl rfl sz63 (hl := by rw [kpC_len]; rfl) (hr := kpC_set _ _ _ _ _)) rfl rfl rfl ?_
      rintro _ _ rfl
      refine ⟨(fun h => by cases h), ?_⟩
      refine WJ_done (by kernel_rfl) ?_
      refine Ps_next hK26 ?_
      refine WC_region ?_
      refine WL_r (Rd_addN (j := 1) rfl rfl) rfl ?_
      refine WL_r (Rd_move rfl) rfl ?_
      refine WL_nil ?_
      refine Ps_wkA (hK23 ⟨j + 1, a72, cap72⟩ (by (try dsimp only); omega) (by (try dsimp only); omega))
     ·try simp only [dz, ne_eq] at hc2
      obtain rfl : j = x.e.ls.length := by omega
      rw [List.take_length]
      refine WC_exit ?_
      refine Ps_next hK21 ?_
      refine WC_region ?_
      refine WL_r (Rd_fieldAddr rfl fo54_2) rfl ?_
      refine WL_r (Rd_load rfl tk52 (v := sl a kms.length cap)) rfl ?_
      refine WL_r (Rd_loadg (vs := (kpC x.e.ix x.e.num (sl a48 x.e.b.length cap48) (sl la x.e.ls.length lc))) rfl tk65 (hl := by rw [kpC_len]; omega) (hi := kpC_all _ _ _ _)) rfl ?_
      refine WL_ac (Ac_bs1 (xs := (kpC x.e.ix x.e.num (sl a48 x.e.b.length cap48) (sl la x.e.ls.length lc))) rfl ud52 zr65 sz65 (hl := kpC_len _ _ _ _)) rfl rfl rfl ?_
      rintro _ _ ⟨b78, rfl, rfl⟩
      refine WL_ac (Ac_append1 (f := eKM) encKM (⟨x.e, a48, cap48, la, lc⟩ : KM) rfl rfl ud52 ud52 el65) rfl rfl rfl ?_
      rintro _ _ ⟨a79, cap79, rfl, rfl⟩
      rw [show kms.length + 1 = (kms ++ [(⟨x.e, a48, cap48, la, lc⟩ : KM)]).length from by rw [List.length_append]; rfl]
      refine WL_r (Rd_fieldAddr rfl fo54_2) rfl ?_
      refine WL_ac0 (Ac_store1 rfl rfl sz52) rfl rfl ?_
      rintro _ _ rfl
      refine WL_nil ?_
      refine Ps_next hK10 ?_
      refine WC_region ?_
      refine WL_enclose 85 5 A x B ?_
      rw [show star (FEn 85 5) (A ++ x :: B) = star (FEn 85 5) L from by rw [← hM]]
      refine WL_kmsnoc 5 27 kms x.e a48 cap48 la lc ?_
      refine WL_r (Rd_addN (j := 1) rfl rfl) rfl ?_
      refine WL_r (Rd_move rfl) rfl ?_
      refine WL_nil ?_
      refine Ps_wkA (hK7 ⟨i + 1, kms ++ [(⟨x.e, a48, cap48, la, lc⟩ : KM)], a79, cap79⟩ (⟨by (try dsimp only); omega, by (try dsimp only); rw [List.map_append, hkms, htk]; rfl⟩) (by (try dsimp only); omega))
  ·try simp only [dz, ne_eq] at hc1
   obtain rfl : i = L.length := by omega
   have hke : kms.map KM.e = L.map En.e := by rw [hkms]; exact List.take_of_length_le (by rw [List.length_map]; exact Nat.le_refl _)
   refine WC_exit ?_
   refine Ps_next hK5 ?_
   refine WC_sr fun K28 hK28 => ?_
   refine WL_r (Rd_loadg (vs := [.int .i64 room, .int .i64 tick, sl a kms.length cap]) rfl tk54) rfl ?_
   refine WL_ac0 (Ac_store (ys := [.int .i64 room, .int .i64 tick, sl a kms.length cap]) rfl rfl sz54 (h1 := by simp [setAt, Value.cells, Value.oneCell', sl]) (hr := rfl)) rfl rfl ?_
   rintro _ _ rfl
   refine WL_end hK28 ?_
   refine WC_ret ?_
   exact hret.go (⟨kms, hke⟩, a, cap) (Rs1c rfl rfl tk54)
end Go.Proofs.Ytoakfknnaiapiaa
namespace Go.Proofs.Ytoakfknnaiapiaa
open Go.RowKit Go.SL Go.ShM Go.SvM
set_option maxHeartbeats 1000000
set_option maxRecDepth 20000
set_option linter.all false
theorem tk5 : tk Try.prog 5 = some none := by kernel_rfl
theorem at_G {α : Type} {l : List α} {i : Nat} {z : α} (h : i < l.length) : l[i]? = some (l.getD i z) := by rw [List.getD_eq_getElem?_getD, List.getElem?_eq_getElem h]; rfl

theorem sameB_ct {X : Asn} {v v' : Value} {l l' : List B8} {ao ao' : Option Addr} {cap cap' : Nat} (hS : Sv [X] v 1 (eU .u8 (w := 8)) l ao cap := by assumption) (hS' : Sv [X] v' 1 (eU .u8 (w := 8)) l' ao' cap' := by assumption) (hl : l.length ≤ 900000000000 := by omega) : Ct Try.prog 20 [v, v'] [X] (fun _ : Unit => .bool (decide (l = l'))) (fun _ => [X]) := by
 refine Ct_body (n := 26) Try.func20 rfl rfl rfl fun F w0 Q hret hnorm hp => ?_
 change WC _ _ _ _ _ _ _ (_ :: F)
 refine WC_sr fun K1 hK1 => ?_
 refine WL_r (Rd_assign rfl) rfl ?_
 refine WL_end hK1 ?_
 refine WC_seq fun K2 hK2 => ?_
 refine WC_sr fun K3 hK3 => ?_
 refine WL_r (Rd_move rfl) rfl ?_
 refine WL_r (Rd_len_sv rfl rfl ud28) rfl ?_
 refine WL_r (Rd_move rfl) rfl ?_
 refine WL_r (Rd_len_sv rfl rfl ud28) rfl ?_
 refine WL_r (Rd_neqN rfl rfl) rfl ?_
 refine WL_end hK3 ?_
 refine WC_cond rfl (fun hc0 => ?_) (fun hc0 => ?_)
 ·try simp only [dz, ne_eq] at hc0
  refine WC_sr fun K4 hK4 => ?_
  refine WL_r (Rd_assign rfl) rfl ?_
  refine WL_end hK4 ?_
  refine WC_ret ?_
  first | exact hret.goE () (Rs1 rfl rfl) (bF (ne_len hc0)) | exact hret.goE () (Rs1 rfl rfl) (bF (ne_at (z := 0#8) hc2)) | exact hret.goE () (Rs1 rfl rfl) (bT (eq_take hi.2 (by omega)))
 ·try simp only [dz, ne_eq] at hc0
  refine WC_skip ?_
  refine Ps_next hK2 ?_
  refine WC_seq fun K5 hK5 => ?_
  refine WC_sr fun K6 hK6 => ?_
  refine WL_r (Rd_assign rfl) rfl ?_
  refine WL_end hK6 ?_
  refine WC_block ?_
  refine WC_loopK (σ := Nat) (fun i' => [(5, .int .i64 ((i' : Nat) : Int))]) (fun i' => []) (fun i' => i' ≤ l.length ∧ l.take i' = l'.take i') (fun i' => l.length - i') (0) [0, 1] kpA (by (try dsimp only); repeat (first | with_reducible exact Gv.nil | (with_reducible apply Gv.cons; · (repeat (first | with_reducible exact Ext.here | with_reducible apply Ext.there))))) ?_ ?_ Sub.refl ?_
  ·exact ⟨Nat.zero_le _, rfl⟩
  ·(try dsimp only); exact (Wk.cons lkA Wk.nil)
  ·rintro i' hi K7 hK7
   simp only [List.cons_append, List.nil_append]
   refine WC_seq fun K8 hK8 => ?_
   refine WC_sr fun K9 hK9 => ?_
   refine WL_r (Rd_move rfl) rfl ?_
   refine WL_r (Rd_move rfl) rfl ?_
   refine WL_r (Rd_len_sv rfl rfl ud28) rfl ?_
   refine WL_r (Rd_lssN rfl rfl) rfl ?_
   refine WL_end hK9 ?_
   refine WC_cond rfl (fun hc1 => ?_) (fun hc1 => ?_)
   ·try simp only [dz, ne_eq] at hc1
    refine WC_skip ?_
    refine Ps_next hK8 ?_
    refine WC_seq fun K10 hK10 => ?_
    refine WC_block ?_
    refine WC_seq fun K11 hK11 => ?_
    refine WC_drawA mix (fun i => ([2, 2, 2, 2, 2, 2, 2, 2, 2] : List Nat).getD i 0) ?_
    refine WJ_tp 0 rfl (Rd_move rfl) rfl (hp _ _) ?_
    refine WJ_tp 1 rfl (Rd_move rfl) rfl (hp _ _) ?_
    refine WJ_tp 2 rfl (Rd_index_sv i' rfl rfl ud28 sz5 (hA := hS) (hi := by omega)) rfl (hp _ _) ?_
    refine WJ_tk 3 (Rd_load_sv (i := i') (j := 0) rfl tk5 (hA := hS) (hl := at_G (z := 0#8) (by omega))) hp ?_ rfl (by kernel_rfl) rfl rfl rfl
    refine WJ_tp 4 rfl (Rd_move rfl) rfl (hp _ _) ?_
    refine WJ_tp 5 rfl (Rd_move rfl) rfl (hp _ _) ?_
    refine WJ_tp 6 rfl (Rd_index_sv i' rfl rfl ud28 sz5 (hA := hS') (hi := by omega)) rfl (hp _ _) ?_
    refine WJ_tk 7 (Rd_load_sv (i := i') (j := 0) rfl tk5 (hA := hS') (hl := at_G (z := 0#8) (by omega))) hp ?_ rfl (by kernel_rfl) rfl rfl rfl
    refine WJ_tp 8 rfl (Rd_neqU rfl rfl) rfl (hp _ _) ?_
    refine WJ_done (by kernel_rfl) ?_
    refine Ps_next hK11 ?_
    refine WC_cond rfl (fun hc2 => ?_) (fun hc2 => ?_)
    ·try simp only [dz, ne_eq] at hc2
     refine WC_sr fun K12 hK12 => ?_
     refine WL_r (Rd_assign rfl) rfl ?_
     refine WL_end hK12 ?_
     refine WC_ret ?_
     first | exact hret.goE () (Rs1 rfl rfl) (bF (ne_len hc0)) | exact hret.goE () (Rs1 rfl rfl) (bF (ne_at (z := 0#8) hc2)) | exact hret.goE () (Rs1 rfl rfl) (bT (eq_take hi.2 (by omega)))
    ·try simp only [dz, ne_eq] at hc2
     refine WC_skip ?_
     refine Ps_next hK10 ?_
     refine WC_region ?_
     refine WL_r (Rd_move rfl) rfl ?_
     refine WL_r (Rd_addN (j := 1) rfl rfl) rfl ?_
     refine WL_r (Rd_assign rfl) rfl ?_
     refine WL_nil ?_
     refine Ps_wkA (hK7 (i' + 1) (⟨by omega, take_step (z := 0#8) hi.2 (by omega) (by omega) hc2⟩) (by omega))
   ·try simp only [dz, ne_eq] at hc1
    obtain rfl : i' = l.length := by omega
    refine WC_exit ?_
    refine Ps_next hK5 ?_
    refine WC_sr fun K13 hK13 => ?_
    refine WL_r (Rd_assign rfl) rfl ?_
    refine WL_end hK13 ?_
    refine WC_ret ?_
    first | exact hret.goE () (Rs1 rfl rfl) (bF (ne_len hc0)) | exact hret.goE () (Rs1 rfl rfl) (bF (ne_at (z := 0#8) hc2)) | exact hret.goE () (Rs1 rfl rfl) (bT (eq_take hi.2 (by omega)))

theorem sameI_ct {X : Asn} {v v' : Value} {l l' : List Int} {ao ao' : Option Addr} {cap cap' : Nat} (hS : Sv [X] v 1 eI l ao cap := by assumption) (hS' : Sv [X] v' 1 eI l' ao' cap' := by assumption) (hl : l.length ≤ 900000000000 := by omega) : Ct Try.prog 26 [v, v'] [X] (fun _ : Unit => .bool (decide (l = l'))) (fun _ => [X]) := by
 refine Ct_body (n := 26) Try.func26 rfl rfl rfl fun F w0 Q hret hnorm hp => ?_
 change WC _ _ _ _ _ _ _ (_ :: F)
 refine WC_sr fun K1 hK1 => ?_
 refine WL_r (Rd_assign rfl) rfl ?_
 refine WL_end hK1 ?_
 refine WC_seq fun K2 hK2 => ?_
 refine WC_sr fun K3 hK3 => ?_
 refine WL_r (Rd_move rfl) rfl ?_
 refine WL_r (Rd_len_sv rfl rfl ud43) rfl ?_
 refine WL_r (Rd_move rfl) rfl ?_
 refine WL_r (Rd_len_sv rfl rfl ud43) rfl ?_
 refine WL_r (Rd_neqN rfl rfl) rfl ?_
 refine WL_end hK3 ?_
 refine WC_cond rfl (fun hc0 => ?_) (fun hc0 => ?_)
 ·try simp only [dz, ne_eq] at hc0
  refine WC_sr fun K4 hK4 => ?_
  refine WL_r (Rd_assign rfl) rfl ?_
  refine WL_end hK4 ?_
  refine WC_ret ?_
  first | exact hret.goE () (Rs1 rfl rfl) (bF (ne_len hc0)) | exact hret.goE () (Rs1 rfl rfl) (bF (ne_at (z := 0) hc2)) | exact hret.goE () (Rs1 rfl rfl) (bT (eq_take hi.2 (by omega)))
 ·try simp only [dz, ne_eq] at hc0
  refine WC_skip ?_
  refine Ps_next hK2 ?_
  refine WC_seq fun K5 hK5 => ?_
  refine WC_sr fun K6 hK6 => ?_
  refine WL_r (Rd_assign rfl) rfl ?_
  refine WL_end hK6 ?_
  refine WC_block ?_
  refine WC_loopK (σ := Nat) (fun i' => [(5, .int .i64 ((i' : Nat) : Int))]) (fun i' => []) (fun i' => i' ≤ l.length ∧ l.take i' = l'.take i') (fun i' => l.length - i') (0) [0, 1] kpA (by (try dsimp only); repeat (first | with_reducible exact Gv.nil | (with_reducible apply Gv.cons; · (repeat (first | with_reducible exact Ext.here | with_reducible apply Ext.there))))) ?_ ?_ Sub.refl ?_
  ·exact ⟨Nat.zero_le _, rfl⟩
  ·(try dsimp only); exact (Wk.cons lkA Wk.nil)
  ·rintro i' hi K7 hK7
   simp only [List.cons_append, List.nil_append]
   refine WC_seq fun K8 hK8 => ?_
   refine WC_sr fun K9 hK9 => ?_
   refine WL_r (Rd_move rfl) rfl ?_
   refine WL_r (Rd_move rfl) rfl ?_
   refine WL_r (Rd_len_sv rfl rfl ud43) rfl ?_
   refine WL_r (Rd_lssN rfl rfl) rfl ?_
   refine WL_end hK9 ?_
   refine WC_cond rfl (fun hc1 => ?_) (fun hc1 => ?_)
   ·try simp only [dz, ne_eq] at hc1
    refine WC_skip ?_
    refine Ps_next hK8 ?_
    refine WC_seq fun K10 hK10 => ?_
    refine WC_block ?_
    refine WC_seq fun K11 hK11 => ?_
    refine WC_drawA mix (fun i => ([2, 2, 2, 2, 2, 2, 2, 2, 2] : List Nat).getD i 0) ?_
    refine WJ_tp 0 rfl (Rd_move rfl) rfl (hp _ _) ?_
    refine WJ_tp 1 rfl (Rd_move rfl) rfl (hp _ _) ?_
    refine WJ_tp 2 rfl (Rd_index_sv i' rfl rfl ud43 sz3 (hA := hS) (hi := by omega)) rfl (hp _ _) ?_
    refine WJ_tk 3 (Rd_load_sv (i := i') (j := 0) rfl tk3 (hA := hS) (hl := at_G (z := (0 : Int)) (by omega))) hp ?_ rfl (by kernel_rfl) rfl rfl rfl
    refine WJ_tp 4 rfl (Rd_move rfl) rfl (hp _ _) ?_
    refine WJ_tp 5 rfl (Rd_move rfl) rfl (hp _ _) ?_
    refine WJ_tp 6 rfl (Rd_index_sv i' rfl rfl ud43 sz3 (hA := hS') (hi := by omega)) rfl (hp _ _) ?_
    refine WJ_tk 7 (Rd_load_sv (i := i') (j := 0) rfl tk3 (hA := hS') (hl := at_G (z := (0 : Int)) (by omega))) hp ?_ rfl (by kernel_rfl) rfl rfl rfl
    refine WJ_tp 8 rfl (Rd_neq rfl rfl) rfl (hp _ _) ?_
    refine WJ_done (by kernel_rfl) ?_
    refine Ps_next hK11 ?_
    refine WC_cond rfl (fun hc2 => ?_) (fun hc2 => ?_)
    ·try simp only [dz, ne_eq] at hc2
     refine WC_sr fun K12 hK12 => ?_
     refine WL_r (Rd_assign rfl) rfl ?_
     refine WL_end hK12 ?_
     refine WC_ret ?_
     first | exact hret.goE () (Rs1 rfl rfl) (bF (ne_len hc0)) | exact hret.goE () (Rs1 rfl rfl) (bF (ne_at (z := 0) hc2)) | exact hret.goE () (Rs1 rfl rfl) (bT (eq_take hi.2 (by omega)))
    ·try simp only [dz, ne_eq] at hc2
     refine WC_skip ?_
     refine Ps_next hK10 ?_
     refine WC_region ?_
     refine WL_r (Rd_move rfl) rfl ?_
     refine WL_r (Rd_addN (j := 1) rfl rfl) rfl ?_
     refine WL_r (Rd_assign rfl) rfl ?_
     refine WL_nil ?_
     refine Ps_wkA (hK7 (i' + 1) (⟨by omega, take_step (z := 0) hi.2 (by omega) (by omega) hc2⟩) (by omega))
   ·try simp only [dz, ne_eq] at hc1
    obtain rfl : i' = l.length := by omega
    refine WC_exit ?_
    refine Ps_next hK5 ?_
    refine WC_sr fun K13 hK13 => ?_
    refine WL_r (Rd_assign rfl) rfl ?_
    refine WL_end hK13 ?_
    refine WC_ret ?_
    first | exact hret.goE () (Rs1 rfl rfl) (bF (ne_len hc0)) | exact hret.goE () (Rs1 rfl rfl) (bF (ne_at (z := 0) hc2)) | exact hret.goE () (Rs1 rfl rfl) (bT (eq_take hi.2 (by omega)))

theorem ls_dec (a b : Ls) : (!(decide ((a.1.toNat : Int) = (b.1.toNat : Int)) && (decide (a.2 = b.2) && true))) = !decide (a = b) := by
  rw [Bool.and_true, Bool.eq_iff_iff]
  simp only [Bool.not_eq_true', Bool.and_eq_false_imp, decide_eq_true_eq, decide_eq_false_iff_not]
  constructor
  · rintro h rfl; exact h rfl rfl
  · intro h h1 h2; exact h (Prod.ext (BitVec.eq_of_toNat_eq (by omega)) h2)

theorem sameL_ct {X : Asn} {v v' : Value} {l l' : List Ls} {ao ao' : Option Addr} {cap cap' : Nat} (hS : Sv [X] v 2 eLs l ao cap := by assumption) (hS' : Sv [X] v' 2 eLs l' ao' cap' := by assumption) (hl : l.length ≤ 900000000000 := by omega) : Ct Try.prog 25 [v, v'] [X] (fun _ : Unit => .bool (decide (l = l'))) (fun _ => [X]) := by
 refine Ct_body (n := 26) Try.func25 rfl rfl rfl fun F w0 Q hret hnorm hp => ?_
 change WC _ _ _ _ _ _ _ (_ :: F)
 refine WC_sr fun K1 hK1 => ?_
 refine WL_r (Rd_assign rfl) rfl ?_
 refine WL_end hK1 ?_
 refine WC_seq fun K2 hK2 => ?_
 refine WC_sr fun K3 hK3 => ?_
 refine WL_r (Rd_move rfl) rfl ?_
 refine WL_r (Rd_len_sv rfl rfl ud63) rfl ?_
 refine WL_r (Rd_move rfl) rfl ?_
 refine WL_r (Rd_len_sv rfl rfl ud63) rfl ?_
 refine WL_r (Rd_neqN rfl rfl) rfl ?_
 refine WL_end hK3 ?_
 refine WC_cond rfl (fun hc0 => ?_) (fun hc0 => ?_)
 ·try simp only [dz, ne_eq] at hc0
  refine WC_sr fun K4 hK4 => ?_
  refine WL_r (Rd_assign rfl) rfl ?_
  refine WL_end hK4 ?_
  refine WC_ret ?_
  first | exact hret.goE () (Rs1 rfl rfl) (bF (ne_len hc0)) | exact hret.goE () (Rs1 rfl rfl) (bF (ne_at (z := ((0#32, 0) : Ls)) hc2)) | exact hret.goE () (Rs1 rfl rfl) (bT (eq_take hi.2 (by omega)))
 ·try simp only [dz, ne_eq] at hc0
  refine WC_skip ?_
  refine Ps_next hK2 ?_
  refine WC_seq fun K5 hK5 => ?_
  refine WC_sr fun K6 hK6 => ?_
  refine WL_r (Rd_assign rfl) rfl ?_
  refine WL_end hK6 ?_
  refine WC_block ?_
  refine WC_loopK (σ := Nat) (fun i' => [(5, .int .i64 ((i' : Nat) : Int))]) (fun i' => []) (fun i' => i' ≤ l.length ∧ l.take i' = l'.take i') (fun i' => l.length - i') (0) [0, 1] kpA (by (try dsimp only); repeat (first | with_reducible exact Gv.nil | (with_reducible apply Gv.cons; · (repeat (first | with_reducible exact Ext.here | with_reducible apply Ext.there))))) ?_ ?_ Sub.refl ?_
  ·exact ⟨Nat.zero_le _, rfl⟩
  ·(try dsimp only); exact (Wk.cons lkA Wk.nil)
  ·rintro i' hi K7 hK7
   simp only [List.cons_append, List.nil_append]
   refine WC_seq fun K8 hK8 => ?_
   refine WC_sr fun K9 hK9 => ?_
   refine WL_r (Rd_move rfl) rfl ?_
   refine WL_r (Rd_move rfl) rfl ?_
   refine WL_r (Rd_len_sv rfl rfl ud63) rfl ?_
   refine WL_r (Rd_lssN rfl rfl) rfl ?_
   refine WL_end hK9 ?_
   refine WC_cond rfl (fun hc1 => ?_) (fun hc1 => ?_)
   ·try simp only [dz, ne_eq] at hc1
    refine WC_skip ?_
    refine Ps_next hK8 ?_
    refine WC_seq fun K10 hK10 => ?_
    refine WC_block ?_
    refine WC_seq fun K11 hK11 => ?_
    refine WC_drawA mix (fun i => ([2, 2, 2, 2, 2, 2, 2, 2, 2] : List Nat).getD i 0) ?_
    refine WJ_tp 0 rfl (Rd_move rfl) rfl (hp _ _) ?_
    refine WJ_tp 1 rfl (Rd_move rfl) rfl (hp _ _) ?_
    refine WJ_tp 2 rfl (Rd_index_sv i' rfl rfl ud63 sz27 (hA := hS) (hi := by omega)) rfl (hp _ _) ?_
    refine WJ_tk 3 (Rd_loadg_sv (f := eLs) (i := i') rfl tk27 (hA := hS) (hl := at_G (z := ((0#32, 0) : Ls)) (by omega))) hp ?_ rfl (by kernel_rfl) rfl rfl rfl
    refine WJ_tp 4 rfl (Rd_move rfl) rfl (hp _ _) ?_
    refine WJ_tp 5 rfl (Rd_move rfl) rfl (hp _ _) ?_
    refine WJ_tp 6 rfl (Rd_index_sv i' rfl rfl ud63 sz27 (hA := hS') (hi := by omega)) rfl (hp _ _) ?_
    refine WJ_tk 7 (Rd_loadg_sv (f := eLs) (i := i') rfl tk27 (hA := hS') (hl := at_G (z := ((0#32, 0) : Ls)) (by omega))) hp ?_ rfl (by kernel_rfl) rfl rfl rfl
    refine WJ_tp 8 rfl (Rd_valE (v := .bool (!decide (l.getD i' ((0#32, 0) : Ls) = l'.getD i' ((0#32, 0) : Ls)))) (Rd_neS (xs := eLs (l.getD i' ((0#32, 0) : Ls))) (ys := eLs (l'.getD i' ((0#32, 0) : Ls))) rfl rfl fls27 (EqL.sc tk25 rfl rfl (Eqs_int ud25 _ _) (EqL.sc tk3 rfl rfl (Eqs_int ud3 _ _) EqL.nil))) (by rw [ls_dec])) rfl (hp _ _) ?_
    refine WJ_done (by kernel_rfl) ?_
    refine Ps_next hK11 ?_
    refine WC_cond rfl (fun hc2 => ?_) (fun hc2 => ?_)
    ·try simp only [dz, ne_eq] at hc2
     refine WC_sr fun K12 hK12 => ?_
     refine WL_r (Rd_assign rfl) rfl ?_
     refine WL_end hK12 ?_
     refine WC_ret ?_
     first | exact hret.goE () (Rs1 rfl rfl) (bF (ne_len hc0)) | exact hret.goE () (Rs1 rfl rfl) (bF (ne_at (z := ((0#32, 0) : Ls)) hc2)) | exact hret.goE () (Rs1 rfl rfl) (bT (eq_take hi.2 (by omega)))
    ·try simp only [dz, ne_eq] at hc2
     refine WC_skip ?_
     refine Ps_next hK10 ?_
     refine WC_region ?_
     refine WL_r (Rd_move rfl) rfl ?_
     refine WL_r (Rd_addN (j := 1) rfl rfl) rfl ?_
     refine WL_r (Rd_assign rfl) rfl ?_
     refine WL_nil ?_
     refine Ps_wkA (hK7 (i' + 1) (⟨by omega, take_step (z := ((0#32, 0) : Ls)) hi.2 (by omega) (by omega) hc2⟩) (by omega))
   ·try simp only [dz, ne_eq] at hc1
    obtain rfl : i' = l.length := by omega
    refine WC_exit ?_
    refine Ps_next hK5 ?_
    refine WC_sr fun K13 hK13 => ?_
    refine WL_r (Rd_assign rfl) rfl ?_
    refine WL_end hK13 ?_
    refine WC_ret ?_
    first | exact hret.goE () (Rs1 rfl rfl) (bF (ne_len hc0)) | exact hret.goE () (Rs1 rfl rfl) (bF (ne_at (z := ((0#32, 0) : Ls)) hc2)) | exact hret.goE () (Rs1 rfl rfl) (bT (eq_take hi.2 (by omega)))
end Go.Proofs.Ytoakfknnaiapiaa
namespace Go.Proofs.Ytoakfknnaiapiaa
open Go.RowKit Go.SL Go.ShM Go.SvM
set_option maxHeartbeats 1000000
set_option maxRecDepth 20000
set_option linter.all false
theorem pls24 : pls Try.prog 24 = some ([.int .u8 0, .int .u8 0, .int .u8 0, .int .u8 0, .int .u8 0, .int .u8 0, .int .u8 0, .int .u8 0, .int .u8 0, .int .u8 0, .int .u8 0, .int .u8 0, .int .u8 0, .int .u8 0, .int .u8 0, .int .u8 0], [(0, 1), (1, 1), (2, 1), (3, 1), (4, 1), (5, 1), (6, 1), (7, 1), (8, 1), (9, 1), (10, 1), (11, 1), (12, 1), (13, 1), (14, 1), (15, 1)]) := by kernel_rfl
theorem sz24 : sz Try.prog 24 = some 16 := by kernel_rfl
theorem zr24 : zr Try.prog 24 = some [.int .u8 0, .int .u8 0, .int .u8 0, .int .u8 0, .int .u8 0, .int .u8 0, .int .u8 0, .int .u8 0, .int .u8 0, .int .u8 0, .int .u8 0, .int .u8 0, .int .u8 0, .int .u8 0, .int .u8 0, .int .u8 0] := by kernel_rfl
def ix1 (x : B8) : Ix := ⟨x :: List.replicate 15 0#8, rfl⟩
def nilB : Pt := ⟨[], none, 0⟩
def rqStore (ix : Ix) (n : Int) (b : Pt) (who : B32) (un : Int) : Rq := ⟨2#8, ix, n, 0, 0, who, un, b⟩
def rqHave (ix : Ix) : Rq := ⟨1#8, ix, 0, 0, 0, 0#32, 0, nilB⟩
def rqFetch (ix : Ix) (n f c : Int) : Rq := ⟨3#8, ix, n, f, c, 0#32, 0, nilB⟩
def rqRel (ix : Ix) (who : B32) : Rq := ⟨5#8, ix, 0, 0, 0, who, 0, nilB⟩
theorem Sv_nilB {Y : Asn} : Sv [Y] nilB.v 1 (eU .u8 (w := 8)) nilB.l nilB.ao nilB.cap := ⟨rfl, fun h => absurd rfl h, fun x h => (List.not_mem_nil h).elim, Nat.le_refl _, fun w _ i x h => by cases h⟩
theorem rqS_fill (ix : Ix) (n un : Int) (who : B32) (b : Pt) : fillL [(0, 1), (1, 16), (17, 1), (18, 1), (19, 1), (20, 2), (22, 1)] [(0, .int .u8 2), (1, aU .u8 ix.l), (2, .int .i64 n), (5, .agg [.int .u32 (who.toNat : Int), .int .i64 un].toArray), (6, b.v)] [.int .u8 0, .int .u8 0, .int .u8 0, .int .u8 0, .int .u8 0, .int .u8 0, .int .u8 0, .int .u8 0, .int .u8 0, .int .u8 0, .int .u8 0, .int .u8 0, .int .u8 0, .int .u8 0, .int .u8 0, .int .u8 0, .int .u8 0, .int .i64 0, .int .i64 0, .int .i64 0, .int .u32 0, .int .i64 0, .slice none 0 0] = some (eRq (rqStore ix n b who un)) := by
  obtain ⟨l, h⟩ := ix
  obtain ⟨a0, a1, a2, a3, a4, a5, a6, a7, a8, a9, a10, a11, a12, a13, a14, a15, rfl⟩ := ix16 l h
  kernel_rfl
theorem rqH_fill (ix : Ix) : fillL [(0, 1), (1, 16), (17, 1), (18, 1), (19, 1), (20, 2), (22, 1)] [(0, .int .u8 1), (1, aU .u8 ix.l)] [.int .u8 0, .int .u8 0, .int .u8 0, .int .u8 0, .int .u8 0, .int .u8 0, .int .u8 0, .int .u8 0, .int .u8 0, .int .u8 0, .int .u8 0, .int .u8 0, .int .u8 0, .int .u8 0, .int .u8 0, .int .u8 0, .int .u8 0, .int .i64 0, .int .i64 0, .int .i64 0, .int .u32 0, .int .i64 0, .slice none 0 0] = some (eRq (rqHave ix)) := by
  obtain ⟨l, h⟩ := ix
  obtain ⟨a0, a1, a2, a3, a4, a5, a6, a7, a8, a9, a10, a11, a12, a13, a14, a15, rfl⟩ := ix16 l h
  kernel_rfl
theorem rqF_fill (ix : Ix) (n f c : Int) : fillL [(0, 1), (1, 16), (17, 1), (18, 1), (19, 1), (20, 2), (22, 1)] [(0, .int .u8 3), (1, aU .u8 ix.l), (2, .int .i64 n), (3, .int .i64 f), (4, .int .i64 c)] [.int .u8 0, .int .u8 0, .int .u8 0, .int .u8 0, .int .u8 0, .int .u8 0, .int .u8 0, .int .u8 0, .int .u8 0, .int .u8 0, .int .u8 0, .int .u8 0, .int .u8 0, .int .u8 0, .int .u8 0, .int .u8 0, .int .u8 0, .int .i64 0, .int .i64 0, .int .i64 0, .int .u32 0, .int .i64 0, .slice none 0 0] = some (eRq (rqFetch ix n f c)) := by
  obtain ⟨l, h⟩ := ix
  obtain ⟨a0, a1, a2, a3, a4, a5, a6, a7, a8, a9, a10, a11, a12, a13, a14, a15, rfl⟩ := ix16 l h
  kernel_rfl
theorem Wf_new {room : Int} (h : 0 ≤ room ∧ room ≤ 1073741824) : Wf room ⟨0, []⟩ := Wf.of h ⟨Int.le_refl 0, by decide⟩ List.Pairwise.nil (fun e h => (List.not_mem_nil h).elim) h.1

theorem index_ct {x : B8}  : Ct Try.prog 23 [.int .u8 ((x.toNat : Nat) : Int)] [] (fun _ : Unit => aU .u8 (ix1 x).l) (fun _ => []) := by
 refine Ct_body (n := 5) Try.func23 rfl rfl rfl fun F w0 Q hret hnorm hp => ?_
 change WC _ _ _ _ _ _ _ (F)
 refine WC_sr fun K1 hK1 => ?_
 refine WL_ac (Ac_alloc zr24) rfl rfl rfl ?_
 rintro _ _ ⟨b2, rfl, rfl⟩
 refine WL_end hK1 ?_
 refine WC_sr fun K2 hK2 => ?_
 refine WL_r (Rd_move rfl) rfl ?_
 refine WL_r (Rd_aU (k := .u8) (l := (ix1 x).l) (Rd_build pls24 rfl) (by rfl)) rfl ?_
 refine WL_ac0 (Ac_store (ys := (ix1 x).l.flatMap (eU .u8 (w := 8))) rfl rfl sz24 (h1 := by simp [aU, Value.cells, Value.oneCell', ix1, eU]) (hr := rfl)) rfl rfl ?_
 rintro _ _ rfl
 refine WL_end hK2 ?_
 refine WC_ret ?_
 exact hret.go () (Rs1c rfl rfl tk24)

theorem storeL_ct {ix : Ix} {n un : Int} {b : Pt} {who : B32}  : Ct Try.prog 24 [aU .u8 ix.l, .int .i64 n, b.v, .int .u32 ((who.toNat : Nat) : Int), .int .i64 un] [] (fun _ : Unit => .agg (eRq (rqStore ix n b who un)).toArray) (fun _ => []) := by
 refine Ct_body (n := 18) Try.func24 rfl rfl rfl fun F w0 Q hret hnorm hp => ?_
 change WC _ _ _ _ _ _ _ (F)
 have hixl := ix.h
 refine WC_sr fun K1 hK1 => ?_
 refine WL_ac (Ac_box (xs := ix.l.flatMap (eU .u8 (w := 8))) rfl rfl) rfl rfl rfl ?_
 rintro _ _ ⟨b5, rfl, rfl⟩
 refine WL_ac (Ac_alloc zr30) rfl rfl rfl ?_
 rintro _ _ ⟨b10, rfl, rfl⟩
 refine WL_end hK1 ?_
 refine WC_sr fun K2 hK2 => ?_
 refine WL_r (Rd_loadg (vs := ix.l.flatMap (eU .u8)) rfl tk24 (hl := by rw [flatU_len, hixl]; exact Nat.le_refl _) (hi := by rw [List.drop_zero]; exact List.take_of_length_le (by rw [flatU_len, hixl]; exact Nat.le_refl _))) rfl ?_
 refine WL_r (Rd_move rfl) rfl ?_
 refine WL_r (Rd_move rfl) rfl ?_
 refine WL_r (Rd_move rfl) rfl ?_
 refine WL_r (Rd_build pls27 rfl) rfl ?_
 refine WL_r (Rd_move rfl) rfl ?_
 refine WL_r (Rd_valE (v := .agg (eRq (rqStore ix n b who un)).toArray) (Rd_build pls30 rfl (hf := rqS_fill _ _ _ _ _)) rfl) rfl ?_
 refine WL_ac0 (Ac_store (ys := eRq (rqStore ix n b who un)) rfl rfl sz30 (h1 := by simpa [Value.cells] using encRq.one _) (hv := by simpa [Value.cells] using eRq_len _) (hr := by simp [Value.cells])) rfl rfl ?_
 rintro _ _ rfl
 refine WL_end hK2 ?_
 refine WC_ret ?_
 exact hret.go () (Rs1c rfl rfl tk30 (hl := by rw [eRq_len]; omega) (hv := eRq_all _))
end Go.Proofs.Ytoakfknnaiapiaa
namespace Go.Proofs.Ytoakfknnaiapiaa
open Go.RowKit Go.SL Go.ShM Go.SvM
set_option maxHeartbeats 1000000
set_option maxRecDepth 20000
set_option linter.all false
theorem cf8 : cfn Try.prog 8 = true := by kernel_rfl
theorem cf10 : cfn Try.prog 10 = true := by kernel_rfl
theorem cf13 : cfn Try.prog 13 = true := by kernel_rfl
theorem cf20 : cfn Try.prog 20 = true := by kernel_rfl
theorem cf23 : cfn Try.prog 23 = true := by kernel_rfl
theorem cf24 : cfn Try.prog 24 = true := by kernel_rfl
theorem cf26 : cfn Try.prog 26 = true := by kernel_rfl
theorem fo45_0 : fo Try.prog 45 0 = some (0, 42) := by kernel_rfl
theorem fo45_1 : fo Try.prog 45 1 = some (1, 43) := by kernel_rfl
theorem fo45_2 : fo Try.prog 45 2 = some (2, 28) := by kernel_rfl
theorem tk42 : tk Try.prog 42 = some none := by kernel_rfl
theorem tk43 : tk Try.prog 43 = some none := by kernel_rfl
def kp1 : Kp := ⟨ix1 1#8, 3, [97#8, 98#8, 99#8, 100#8, 101#8, 102#8], [(1#32, 5)]⟩
theorem awk1 (ao : Option Addr) (cap : Nat) : callM 10 ⟨0, []⟩ 0 (rqStore (ix1 1#8) 3 ⟨[97#8, 98#8, 99#8, 100#8, 101#8, 102#8], ao, cap⟩ 1#32 5) = (⟨2, [], []⟩, 0, ⟨0, [kp1]⟩) := by kernel_rfl
theorem awk2 : callM 10 ⟨0, [kp1]⟩ 0 (rqHave (ix1 1#8)) = (⟨1, [3], []⟩, 0, ⟨0, [kp1]⟩) := by kernel_rfl
theorem awk3 : callM 10 ⟨0, [kp1]⟩ 0 (rqFetch (ix1 1#8) 3 4 2) = (⟨5, [], [101#8, 102#8]⟩, 0, ⟨0, [kp1]⟩) := by kernel_rfl
theorem wfk1 : Wf 10 ⟨0, [kp1]⟩ := by
  have h := Wf.call (t := 0) (r := rqStore (ix1 1#8) 3 ⟨[97#8, 98#8, 99#8, 100#8, 101#8, 102#8], none, 0⟩ 1#32 5) (Wf_new (room := 10) (by omega))
  rw [awk1] at h
  exact h
theorem len_e {L : List En} {l : List Kp} (h : L.map En.e = l) : L.length = l.length := by rw [← h, List.length_map]
theorem sameIt_ct {X : Asn} {v v' : Value} {l : List Int} {ao ao' : Option Addr} {cap cap' : Nat} (hS : Sv [X] v 1 eI l ao cap) (hS' : Sv [X] v' 1 eI l ao' cap') (hl : l.length ≤ 900000000000) : Ct Try.prog 26 [v, v'] [X] (fun _ : Unit => .bool true) (fun _ => [X]) := by
  have h := sameI_ct hS hS' hl
  rw [show (Value.bool true) = .bool (decide (l = l)) from by simp]
  exact h
theorem sameBt_ct {X : Asn} {v v' : Value} {l : List B8} {ao ao' : Option Addr} {cap cap' : Nat} (hS : Sv [X] v 1 (eU .u8 (w := 8)) l ao cap) (hS' : Sv [X] v' 1 (eU .u8 (w := 8)) l ao' cap') (hl : l.length ≤ 900000000000) : Ct Try.prog 20 [v, v'] [X] (fun _ : Unit => .bool true) (fun _ => [X]) := by
  have h := sameB_ct hS hS' hl
  rw [show (Value.bool true) = .bool (decide (l = l)) from by simp]
  exact h

theorem awake_ct   : Ct Try.prog 17 [] [] (fun _ : Unit => .bool true) (fun _ => []) := by
 refine Ct_body (n := 84) Try.func17 rfl rfl rfl fun F w0 Q hret hnorm hp => ?_
 change WC _ _ _ _ _ _ _ (F)
 refine WC_sr fun K1 hK1 => ?_
 refine WL_r (Rd_assign rfl) rfl ?_
 refine WL_end hK1 ?_
 refine WC_sr fun K2 hK2 => ?_
 refine WL_ac (Ac_call cf8 rfl (hs := new_ct (room := 10) (by omega))) rfl rfl rfl ?_
 rintro _ _ ⟨⟨s9, m9⟩, rfl, hA⟩
 simp only [List.cons_append, List.nil_append] at hA
 replace hA := hA.symm
 subst hA
 refine WL_r (Rd_move rfl) rfl ?_
 refine WL_r (Rd_ext0 rfl) rfl ?_
 refine WL_r (Rd_ext1 rfl) rfl ?_
 refine WL_r (Rd_assign rfl) rfl ?_
 refine WL_r (Rd_assign rfl) rfl ?_
 refine WL_end hK2 ?_
 refine WC_seq fun K3 hK3 => ?_
 refine WC_sr fun K4 hK4 => ?_
 refine WL_r (Rd_move rfl) rfl ?_
 refine WL_r (Rd_peq rfl rfl ud33) rfl ?_
 refine WL_r (Rd_move rfl) rfl ?_
 refine WL_r (Rd_move rfl) rfl ?_
 refine WL_r (Rd_neqN (i := 0) (j := 0) rfl rfl) rfl ?_
 refine WL_r (Rd_pickF rfl rfl) rfl ?_
 refine WL_end hK4 ?_
 refine WC_condF rfl ?_
 refine WC_skip ?_
 refine Ps_next hK3 ?_
 refine WC_sr fun K5 hK5 => ?_
 refine WL_r (Rd_move rfl) rfl ?_
 refine WL_ac (Ac_call cf23 rfl (hs := index_ct (x := 1#8))) rfl rfl rfl ?_
 rintro _ _ ⟨⟨⟩, rfl, hA⟩
 simp only [List.cons_append, List.nil_append] at hA
 replace hA := hA.symm
 subst hA
 refine WL_ac (Ac_bsL (f := (eU .u8 (w := 8))) (zs := [.int .u8 0]) (bs := [.int .u8 0, .int .u8 0, .int .u8 0, .int .u8 0, .int .u8 0, .int .u8 0]) [97#8, 98#8, 99#8, 100#8, 101#8, 102#8] (encU .u8) ud28 zr5 sz5 rfl (by rw [Array.toList_map, Array.toList_range]; rfl) (by rfl) (by rfl) (by rfl) (by rfl)) rfl rfl rfl ?_
 rintro _ _ ⟨b21, rfl, rfl⟩
 refine WL_ac (Ac_convSS (cap := 6) (l := [97#8, 98#8, 99#8, 100#8, 101#8, 102#8]) rfl ud28 ud5) rfl rfl rfl ?_
 rintro _ _ ⟨rfl, rfl⟩
 refine WL_ac (Ac_call cf24 rfl (hs := storeL_ct (ix := ix1 1#8) (n := 3) (un := 5) (b := ⟨[97#8, 98#8, 99#8, 100#8, 101#8, 102#8], some ⟨b21, 0, none⟩, 6⟩) (who := 1#32))) rfl rfl rfl ?_
 rintro _ _ ⟨⟨⟩, rfl, hA⟩
 simp only [List.cons_append, List.nil_append] at hA
 replace hA := hA.symm
 subst hA
 refine WL_ac (Ac_call cf10 rfl (hs := do_ct (b := s9) (m := m9) (room := 10) (tick := 0) (t := 0) (L := []) (r := (rqStore (ix1 1#8) 3 ⟨[97#8, 98#8, 99#8, 100#8, 101#8, 102#8], some ⟨b21, 0, none⟩, 6⟩ 1#32 5)) (Y := (frA b21 6 1 5 (eU .u8 (w := 8)) [97#8, 98#8, 99#8, 100#8, 101#8, 102#8])) (rp := ⟨2, [], []⟩) (er := 0) (s2 := ⟨0, [kp1]⟩) (Wf_new (by omega)) (Sv_fr (b := b21) (cap := 6) (T := 5) (encU .u8 (w := 8)) (l := [97#8, 98#8, 99#8, 100#8, 101#8, 102#8]) (Nat.le_refl 6)) (by simp) (awk1 _ _))) rfl rfl rfl ?_
 rintro _ _ ⟨⟨⟨L1, ⟨na1, nc1⟩, ⟨ba1, bc1⟩⟩, hL1⟩, rfl, hA⟩
 simp only [List.cons_append, List.nil_append] at hA
 replace hA := hA.symm
 subst hA
 dsimp only
 refine WL_r (Rd_move rfl) rfl ?_
 refine WL_r (Rd_ext0 rfl) rfl ?_
 refine WL_r (Rd_ext1 rfl) rfl ?_
 refine WL_ac (Ac_alloc zr45) rfl rfl rfl ?_
 rintro _ _ ⟨b3, rfl, rfl⟩
 refine WL_ac0 (Ac_store (ys := [.int .u8 2, sl na1 0 nc1, sl ba1 0 bc1]) rfl rfl sz45 (h1 := by simp [setAt, Value.cells, Value.oneCell', sl]) (hr := rfl)) rfl rfl ?_
 rintro _ _ rfl
 refine WL_r (Rd_assign rfl) rfl ?_
 refine WL_end hK5 ?_
 refine WC_sr fun K6 hK6 => ?_
 refine WL_r (Rd_move rfl) rfl ?_
 refine WL_ac (Ac_call cf23 rfl (hs := index_ct (x := 1#8))) rfl rfl rfl ?_
 rintro _ _ ⟨⟨⟩, rfl, hA⟩
 simp only [List.cons_append, List.nil_append] at hA
 replace hA := hA.symm
 subst hA
 refine WL_r (Rd_valE (v := .agg (eRq (rqHave (ix1 1#8))).toArray) (Rd_build pls30 rfl (hf := rqH_fill _)) rfl) rfl ?_
 refine WL_ac (Ac_call cf10 rfl (hs := do_ct (b := s9) (m := m9) (room := 10) (tick := 0) (t := 0) (L := L1) (r := (rqHave (ix1 1#8))) (Y := (frA b21 6 1 5 (eU .u8 (w := 8)) [97#8, 98#8, 99#8, 100#8, 101#8, 102#8])) (rp := ⟨1, [3], []⟩) (er := 0) (s2 := ⟨0, [kp1]⟩) (by rw [hL1]; exact wfk1) Sv_nilB (by rw [len_e hL1]; decide) (by rw [hL1]; exact awk2))) rfl rfl rfl ?_
 rintro _ _ ⟨⟨⟨L2, ⟨na2, nc2⟩, ⟨ba2, bc2⟩⟩, hL2⟩, rfl, hA⟩
 simp only [List.cons_append, List.nil_append] at hA
 replace hA := hA.symm
 subst hA
 dsimp only
 refine WL_r (Rd_move rfl) rfl ?_
 refine WL_r (Rd_ext0 rfl) rfl ?_
 refine WL_r (Rd_ext1 rfl) rfl ?_
 refine WL_ac (Ac_alloc zr45) rfl rfl rfl ?_
 rintro _ _ ⟨b4, rfl, rfl⟩
 refine WL_ac0 (Ac_store (ys := [.int .u8 1, sl na2 1 nc2, sl ba2 0 bc2]) rfl rfl sz45 (h1 := by simp [setAt, Value.cells, Value.oneCell', sl]) (hr := rfl)) rfl rfl ?_
 rintro _ _ rfl
 refine WL_r (Rd_assign rfl) rfl ?_
 refine WL_end hK6 ?_
 refine WC_sr fun K7 hK7 => ?_
 refine WL_r (Rd_move rfl) rfl ?_
 refine WL_ac (Ac_call cf23 rfl (hs := index_ct (x := 1#8))) rfl rfl rfl ?_
 rintro _ _ ⟨⟨⟩, rfl, hA⟩
 simp only [List.cons_append, List.nil_append] at hA
 replace hA := hA.symm
 subst hA
 refine WL_r (Rd_valE (v := .agg (eRq (rqFetch (ix1 1#8) 3 4 2)).toArray) (Rd_build pls30 rfl (hf := rqF_fill _ _ _ _)) rfl) rfl ?_
 refine WL_ac (Ac_call cf10 rfl (hs := do_ct (b := s9) (m := m9) (room := 10) (tick := 0) (t := 0) (L := L2) (r := (rqFetch (ix1 1#8) 3 4 2)) (Y := (frA b21 6 1 5 (eU .u8 (w := 8)) [97#8, 98#8, 99#8, 100#8, 101#8, 102#8])) (rp := ⟨5, [], [101#8, 102#8]⟩) (er := 0) (s2 := ⟨0, [kp1]⟩) (by rw [hL2]; exact wfk1) Sv_nilB (by rw [len_e hL2]; decide) (by rw [hL2]; exact awk3))) rfl rfl rfl ?_
 rintro _ _ ⟨⟨⟨L3, ⟨na3, nc3⟩, ⟨ba3, bc3⟩⟩, hL3⟩, rfl, hA⟩
 simp only [List.cons_append, List.nil_append] at hA
 replace hA := hA.symm
 subst hA
 dsimp only
 refine WL_r (Rd_move rfl) rfl ?_
 refine WL_r (Rd_ext0 rfl) rfl ?_
 refine WL_r (Rd_ext1 rfl) rfl ?_
 refine WL_ac (Ac_alloc zr45) rfl rfl rfl ?_
 rintro _ _ ⟨b6, rfl, rfl⟩
 refine WL_ac0 (Ac_store (ys := [.int .u8 5, sl na3 0 nc3, sl ba3 2 bc3]) rfl rfl sz45 (h1 := by simp [setAt, Value.cells, Value.oneCell', sl]) (hr := rfl)) rfl rfl ?_
 rintro _ _ rfl
 refine WL_r (Rd_assign rfl) rfl ?_
 refine WL_end hK7 ?_
 refine WC_sr fun K8 hK8 => ?_
 refine WL_r (Rd_move rfl) rfl ?_
 refine WL_r (Rd_eqlN (i := 0) (j := 0) rfl rfl) rfl ?_
 refine WL_r (Rd_move rfl) rfl ?_
 refine WL_r (Rd_move rfl) rfl ?_
 refine WL_r (Rd_eqlN (i := 0) (j := 0) rfl rfl) rfl ?_
 refine WL_r (Rd_pickT rfl rfl) rfl ?_
 refine WL_r (Rd_move rfl) rfl ?_
 refine WL_r (Rd_move rfl) rfl ?_
 refine WL_r (Rd_eqlN (i := 0) (j := 0) rfl rfl) rfl ?_
 refine WL_r (Rd_pickT rfl rfl) rfl ?_
 refine WL_r (Rd_move rfl) rfl ?_
 refine WL_r (Rd_fieldAddr rfl fo45_0) rfl ?_
 refine WL_r (Rd_load rfl tk42 (v := .int .u8 2)) rfl ?_
 refine WL_r (Rd_eqlN (i := 2) (j := 2) rfl rfl) rfl ?_
 refine WL_r (Rd_pickT rfl rfl) rfl ?_
 refine WL_r (Rd_move rfl) rfl ?_
 refine WL_r (Rd_fieldAddr rfl fo45_0) rfl ?_
 refine WL_r (Rd_load rfl tk42 (v := .int .u8 1)) rfl ?_
 refine WL_r (Rd_eqlN (i := 1) (j := 1) rfl rfl) rfl ?_
 refine WL_r (Rd_pickT rfl rfl) rfl ?_
 refine WL_r (Rd_move rfl) rfl ?_
 refine WL_r (Rd_fieldAddr rfl fo45_1) rfl ?_
 refine WL_r (Rd_load rfl tk43 (v := sl na2 1 nc2)) rfl ?_
 refine WL_ac (Ac_bsL (f := eI) (zs := [.int .i64 0]) (bs := [.int .i64 0]) [3] encI ud43 zr3 sz3 rfl (by rw [Array.toList_map, Array.toList_range]; rfl) (by rfl) (by rfl) (by rfl) (by rfl)) rfl rfl rfl ?_
 rintro _ _ ⟨b64, rfl, rfl⟩
 refine WL_fact (fun w h => arr_facts (a := na2) (cap := nc2) (e := 1) (T := 3) (f := eI) (l := [3]) hasA h) (fun hv2f => ?_)
 have hv2 : Sv [arr na2 nc2 1 3 eI [3]] (sl na2 ([3]).length nc2) 1 eI [3] ((na2 : Option Nat).map fun g => ⟨g, 0, none⟩) nc2 := Sv_own' encI hv2f.1 hv2f.2
 refine WL_fact (fun w h => arr_facts (a := (some b64)) (cap := 1) (e := 1) (T := 3) (f := eI) (l := [3]) hasA h) (fun hv4f => ?_)
 have hv4 : Sv [arr (some b64) 1 1 3 eI [3]] (sl (some b64) ([3]).length 1) 1 eI [3] (((some b64) : Option Nat).map fun g => ⟨g, 0, none⟩) 1 := Sv_own' encI hv4f.1 hv4f.2
 refine WL_ac (Ac_call cf26 rfl (hs := Ct.un0 (Xs := [arr na2 nc2 1 3 eI [3], arr (some b64) 1 1 3 eI [3]]) (sameIt_ct (X := sep [arr na2 nc2 1 3 eI [3], arr (some b64) 1 1 3 eI [3]]) (l := [3]) (hS := hv2.pk hasA) (hS' := hv4.pk hasA) (by decide)))) rfl rfl rfl ?_
 rintro _ _ ⟨⟨⟩, rfl, hA⟩
 simp only [List.cons_append, List.nil_append] at hA
 replace hA := hA.symm
 subst hA
 refine WL_r (Rd_pickT rfl rfl) rfl ?_
 refine WL_r (Rd_move rfl) rfl ?_
 refine WL_r (Rd_fieldAddr rfl fo45_0) rfl ?_
 refine WL_r (Rd_load rfl tk42 (v := .int .u8 5)) rfl ?_
 refine WL_r (Rd_eqlN (i := 5) (j := 5) rfl rfl) rfl ?_
 refine WL_r (Rd_pickT rfl rfl) rfl ?_
 refine WL_r (Rd_move rfl) rfl ?_
 refine WL_r (Rd_fieldAddr rfl fo45_2) rfl ?_
 refine WL_r (Rd_load rfl tk28 (v := sl ba3 2 bc3)) rfl ?_
 refine WL_ac (Ac_bsL (f := (eU .u8 (w := 8))) (zs := [.int .u8 0]) (bs := [.int .u8 0, .int .u8 0]) [101#8, 102#8] (encU .u8) ud28 zr5 sz5 rfl (by rw [Array.toList_map, Array.toList_range]; rfl) (by rfl) (by rfl) (by rfl) (by rfl)) rfl rfl rfl ?_
 rintro _ _ ⟨b75, rfl, rfl⟩
 refine WL_ac (Ac_convSS (cap := 2) (l := [101#8, 102#8]) rfl ud28 ud5) rfl rfl rfl ?_
 rintro _ _ ⟨rfl, rfl⟩
 refine WL_fact (fun w h => arr_facts (a := ba3) (cap := bc3) (e := 1) (T := 5) (f := (eU .u8 (w := 8))) (l := [101#8, 102#8]) hasA h) (fun hv3f => ?_)
 have hv3 : Sv [arr ba3 bc3 1 5 (eU .u8 (w := 8)) [101#8, 102#8]] (sl ba3 ([101#8, 102#8]).length bc3) 1 (eU .u8 (w := 8)) [101#8, 102#8] ((ba3 : Option Nat).map fun g => ⟨g, 0, none⟩) bc3 := Sv_own' (encU .u8 (w := 8)) hv3f.1 hv3f.2
 have hv5 := (Sv_fr (b := b75) (cap := 2) (T := 5) (encU .u8 (w := 8)) (l := [101#8, 102#8]) (Nat.le_refl 2))
 refine WL_ac (Ac_call cf20 rfl (hs := Ct.un0 (Xs := [arr ba3 bc3 1 5 (eU .u8 (w := 8)) [101#8, 102#8], frA b75 2 1 5 (eU .u8 (w := 8)) [101#8, 102#8]]) (sameBt_ct (X := sep [arr ba3 bc3 1 5 (eU .u8 (w := 8)) [101#8, 102#8], frA b75 2 1 5 (eU .u8 (w := 8)) [101#8, 102#8]]) (l := [101#8, 102#8]) (hS := hv3.pk hasA) (hS' := hv5.pk hasA) (by decide)))) rfl rfl rfl ?_
 rintro _ _ ⟨⟨⟩, rfl, hA⟩
 simp only [List.cons_append, List.nil_append] at hA
 replace hA := hA.symm
 subst hA
 refine WL_r (Rd_pickT rfl rfl) rfl ?_
 refine WL_r (Rd_move rfl) rfl ?_
 refine WL_r (Rd_move rfl) rfl ?_
 refine WL_ac (Ac_call cf13 rfl (hs := used_ct (b := s9) (m := m9) (room := 10) (tick := 0) (u := usedE L3))) rfl rfl rfl ?_
 rintro _ _ ⟨⟨⟩, rfl, hA⟩
 simp only [List.cons_append, List.nil_append] at hA
 replace hA := hA.symm
 subst hA
 rw [show usedE L3 = 6 from by rw [usedE_M, hL3]; rfl]
 refine WL_r (Rd_eqlN (i := 6) (j := 6) rfl rfl) rfl ?_
 refine WL_r (Rd_pickT rfl rfl) rfl ?_
 refine WL_r (Rd_assign rfl) rfl ?_
 refine WL_end hK8 ?_
 refine WC_ret ?_
 exact hret.go () (Rs1 rfl rfl)
end Go.Proofs.Ytoakfknnaiapiaa
namespace Go.Proofs.Ytoakfknnaiapiaa
open Go.RowKit Go.SL Go.ShM Go.SvM
set_option maxHeartbeats 1000000
set_option maxRecDepth 20000
set_option linter.all false

theorem lkOkA {t : Int} {l : List Ls} {p : Prop} [Decidable p] (hss : SrtW l) (hbb : ∀ y ∈ l, t ≤ y.2 ∧ y.2 ≤ 1099511627776) (h1 : 1 ≤ l.length) (hp : p ↔ l.length ≤ 64) : Value.bool (decide p) = .bool (decide (leasesOk t l)) := by
  congr 1
  exact decide_eq_decide.2 (hp.trans ⟨fun h => ⟨hss, hbb, h1, h⟩, fun h => h.2.2.2⟩)
theorem lkOkB {t : Int} {l : List Ls} (h1 : l.length < 1) : Value.bool false = .bool (decide (leasesOk t l)) := bF fun q => by have := q.2.2.1; omega

theorem leasesMay_ct {X : Asn} {v : Value} {l : List Ls} {ao : Option Addr} {cap : Nat} {t : Int} (hS : Sv [X] v 2 eLs l ao cap := by assumption) (hl : l.length ≤ 900000000000 := by omega) : Ct Try.prog 47 [v, .int .i64 t] [X] (fun _ : Unit => .bool (decide (leasesOk t l))) (fun _ => [X]) := by
 refine Ct_body (n := 47) Try.func47 rfl rfl rfl fun F w0 Q hret hnorm hp => ?_
 change WC _ _ _ _ _ _ _ (_ :: F)
 refine WC_sr fun K1 hK1 => ?_
 refine WL_r (Rd_assign rfl) rfl ?_
 refine WL_end hK1 ?_
 refine WC_seq fun K2 hK2 => ?_
 refine WC_sr fun K3 hK3 => ?_
 refine WL_r (Rd_move rfl) rfl ?_
 refine WL_r (Rd_len_sv rfl rfl ud63) rfl ?_
 refine WL_r (Rd_move rfl) rfl ?_
 refine WL_end hK3 ?_
 refine WC_block ?_
 refine WC_loopK (σ := Nat) (fun i => [(9, .int .i64 ((i : Nat) : Int))]) (fun i => []) (fun i => i ≤ l.length ∧ SrtW (l.take i) ∧ ∀ y ∈ l.take i, t ≤ y.2 ∧ y.2 ≤ 1099511627776) (fun i => l.length - i) (0) [0, 1, 7, 8, 39, 40, 41, 42, 43, 44, 45, 46] kpA (by (try dsimp only); repeat (first | with_reducible exact Gv.nil | (with_reducible apply Gv.cons; · (repeat (first | with_reducible exact Ext.here | with_reducible apply Ext.there))))) ?_ ?_ Sub.refl ?_
 ·exact ⟨Nat.zero_le _, List.Pairwise.nil, fun y h => (List.not_mem_nil h).elim⟩
 ·(try dsimp only); exact (Wk.cons lkA Wk.nil)
 ·rintro i ⟨hi, hss, hbb⟩ K4 hK4
  simp only [List.cons_append, List.nil_append]
  refine WC_sr fun K5 hK5 => ?_
  refine WL_r (Rd_lssN rfl rfl) rfl ?_
  refine WL_end hK5 ?_
  refine WC_seq fun K6 hK6 => ?_
  refine WC_cond rfl (fun hc0 => ?_) (fun hc0 => ?_)
  ·try simp only [dz, ne_eq] at hc0
   obtain ⟨y, hy⟩ : ∃ y, l[i]? = some y := ⟨_, List.getElem?_eq_getElem (by omega)⟩
   refine WC_skip ?_
   refine Ps_next hK6 ?_
   refine WC_seq fun K7 hK7 => ?_
   refine WC_block ?_
   refine WC_sr fun K8 hK8 => ?_
   refine WL_r (Rd_move rfl) rfl ?_
   refine WL_r (Rd_index_sv i rfl rfl ud63 sz27 (hA := hS) (hi := by omega)) rfl ?_
   refine WL_r (Rd_loadg_sv (f := eLs) (i := i) (y := y) rfl tk27 (hA := hS) (hl := hy)) rfl ?_
   refine WL_ac (Ac_alloc zr27) rfl rfl rfl ?_
   rintro _ _ ⟨b6, rfl, rfl⟩
   refine WL_r (Rd_assign rfl) rfl ?_
   refine WL_ac0 (Ac_store (ys := eLs y) rfl rfl sz27 (hv := rfl) (h1 := encLs.one y) (hr := rfl)) rfl rfl ?_
   rintro _ _ rfl
   refine WL_end hK8 ?_
   refine WC_seq fun K9 hK9 => ?_
   refine WC_draw mix [cl b6 27 (eLs y), X] (fun i => ([2, 2, 2, 2, 2, 2, 2, 2, 2, 2, 2, 2, 2, 2, 2, 2, 2, 2, 2, 2, 2, 2, 2, 2] : List Nat).getD i 0) ?_
   refine WJ_tp 0 rfl (Rd_fieldAddr rfl fo27_1) rfl (hp _ _) ?_
   refine WJ_tk 1 (Rd_load rfl tk3 (v := .int .i64 y.2)) hp ?_ rfl (by kernel_rfl) rfl rfl rfl
   refine WJ_tp 2 rfl (Rd_move rfl) rfl (hp _ _) ?_
   refine WJ_tp 3 rfl (Rd_lss rfl rfl) rfl (hp _ _) ?_
   refine WJ_tp 4 rfl (Rd_move rfl) rfl (hp _ _) ?_
   refine WJ_bool 18 rfl (fun hg10 => ?_) (fun hg10 => ?_)
   ·try simp only [dz, ne_eq] at hg10
    refine WJ_skip 5 rfl (by kernel_rfl) rfl rfl rfl (hp _ _) ?_
    refine WJ_skip 6 rfl (by kernel_rfl) rfl rfl rfl (hp _ _) ?_
    refine WJ_skip 7 rfl (by kernel_rfl) rfl rfl rfl (hp _ _) ?_
    refine WJ_tp 8 rfl (Rd_pickT rfl rfl) rfl (hp _ _) ?_
    refine WJ_tp 9 rfl (Rd_move rfl) rfl (hp _ _) ?_
    refine WJ_skip 10 rfl (by kernel_rfl) rfl rfl rfl (hp _ _) ?_
    refine WJ_skip 11 rfl (by kernel_rfl) rfl rfl rfl (hp _ _) ?_
    refine WJ_skip 12 rfl (by kernel_rfl) rfl rfl rfl (hp _ _) ?_
    refine WJ_skip 13 rfl (by kernel_rfl) rfl rfl rfl (hp _ _) ?_
    refine WJ_skip 14 rfl (by kernel_rfl) rfl rfl rfl (hp _ _) ?_
    refine WJ_skip 15 rfl (by kernel_rfl) rfl rfl rfl (hp _ _) ?_
    refine WJ_skip 16 rfl (by kernel_rfl) rfl rfl rfl (hp _ _) ?_
    refine WJ_skip 17 rfl (by kernel_rfl) rfl rfl rfl (hp _ _) ?_
    refine WJ_skip 18 rfl (by kernel_rfl) rfl rfl rfl (hp _ _) ?_
    refine WJ_skip 19 rfl (by kernel_rfl) rfl rfl rfl (hp _ _) ?_
    refine WJ_skip 20 rfl (by kernel_rfl) rfl rfl rfl (hp _ _) ?_
    refine WJ_skip 21 rfl (by kernel_rfl) rfl rfl rfl (hp _ _) ?_
    refine WJ_skip 22 rfl (by kernel_rfl) rfl rfl rfl (hp _ _) ?_
    refine WJ_tp 23 rfl (Rd_pickT rfl rfl) rfl (hp _ _) ?_
    refine WJ_done (by kernel_rfl) ?_
    refine Ps_next hK9 ?_
    refine WC_condT rfl ?_
    refine WC_sr fun K11 hK11 => ?_
    refine WL_r (Rd_assign rfl) rfl ?_
    refine WL_end hK11 ?_
    refine WC_ret ?_
    first | exact hret.goE () (Rs1 rfl rfl) (bF (lk_bad hy (by omega))) | exact hret.goE () (Rs1 rfl rfl) (bF (lk_ord (by omega) hy hz (by omega))) | exact hret.goE () (Rs1 rfl rfl) (lkOkB (by omega)) | exact hret.goE () (Rs1 rfl rfl) (lkOkA hss hbb (by omega) (by omega))
   ·try simp only [dz, ne_eq] at hg10
    refine WJ_tp 5 rfl (Rd_fieldAddr rfl fo27_1) rfl (hp _ _) ?_
    refine WJ_tk 6 (Rd_load rfl tk3 (v := .int .i64 y.2)) hp ?_ rfl (by kernel_rfl) rfl rfl rfl
    refine WJ_tp 7 rfl (Rd_gtr rfl rfl) rfl (hp _ _) ?_
    refine WJ_tp 8 rfl (Rd_pickF rfl rfl) rfl (hp _ _) ?_
    refine WJ_tp 9 rfl (Rd_move rfl) rfl (hp _ _) ?_
    refine WJ_bool 23 rfl (fun hg12 => ?_) (fun hg12 => ?_)
    ·try simp only [dz, ne_eq] at hg12
     refine WJ_skip 10 rfl (by kernel_rfl) rfl rfl rfl (hp _ _) ?_
     refine WJ_skip 11 rfl (by kernel_rfl) rfl rfl rfl (hp _ _) ?_
     refine WJ_skip 12 rfl (by kernel_rfl) rfl rfl rfl (hp _ _) ?_
     refine WJ_skip 13 rfl (by kernel_rfl) rfl rfl rfl (hp _ _) ?_
     refine WJ_skip 14 rfl (by kernel_rfl) rfl rfl rfl (hp _ _) ?_
     refine WJ_skip 15 rfl (by kernel_rfl) rfl rfl rfl (hp _ _) ?_
     refine WJ_skip 16 rfl (by kernel_rfl) rfl rfl rfl (hp _ _) ?_
     refine WJ_skip 17 rfl (by kernel_rfl) rfl rfl rfl (hp _ _) ?_
     refine WJ_skip 18 rfl (by kernel_rfl) rfl rfl rfl (hp _ _) ?_
     refine WJ_skip 19 rfl (by kernel_rfl) rfl rfl rfl (hp _ _) ?_
     refine WJ_skip 20 rfl (by kernel_rfl) rfl rfl rfl (hp _ _) ?_
     refine WJ_skip 21 rfl (by kernel_rfl) rfl rfl rfl (hp _ _) ?_
     refine WJ_skip 22 rfl (by kernel_rfl) rfl rfl rfl (hp _ _) ?_
     refine WJ_tp 23 rfl (Rd_pickT rfl rfl) rfl (hp _ _) ?_
     refine WJ_done (by kernel_rfl) ?_
     refine Ps_next hK9 ?_
     refine WC_condT rfl ?_
     refine WC_sr fun K13 hK13 => ?_
     refine WL_r (Rd_assign rfl) rfl ?_
     refine WL_end hK13 ?_
     refine WC_ret ?_
     first | exact hret.goE () (Rs1 rfl rfl) (bF (lk_bad hy (by omega))) | exact hret.goE () (Rs1 rfl rfl) (bF (lk_ord (by omega) hy hz (by omega))) | exact hret.goE () (Rs1 rfl rfl) (lkOkB (by omega)) | exact hret.goE () (Rs1 rfl rfl) (lkOkA hss hbb (by omega) (by omega))
    ·try simp only [dz, ne_eq] at hg12
     refine WJ_tp 10 rfl (Rd_move rfl) rfl (hp _ _) ?_
     refine WJ_tp 11 rfl (Rd_gtrN (j := 0) rfl rfl) rfl (hp _ _) ?_
     refine WJ_tp 12 rfl (Rd_move rfl) rfl (hp _ _) ?_
     refine WJ_bool 26 rfl (fun hg14 => ?_) (fun hg14 => ?_)
     ·try simp only [dz, ne_eq] at hg14
      obtain ⟨z, hz⟩ : ∃ z, l[i - 1]? = some z := ⟨_, List.getElem?_eq_getElem (by omega)⟩
      refine WJ_tp 13 rfl (Rd_fieldAddr rfl fo27_0) rfl (hp _ _) ?_
      refine WJ_tk 14 (Rd_load rfl tk25 (v := .int .u32 ((y.1.toNat : Nat) : Int))) hp ?_ rfl (by kernel_rfl) rfl rfl rfl
      refine WJ_tp 15 rfl (Rd_move rfl) rfl (hp _ _) ?_
      refine WJ_tp 16 rfl (Rd_move rfl) rfl (hp _ _) ?_
      refine WJ_tp 17 rfl (Rd_subN (j := 1) rfl rfl) rfl (hp _ _) ?_
      refine WJ_tp 18 rfl (Rd_index_sv (i - 1) rfl rfl ud63 sz27 (hA := hS) (hj := by omega) (hi := by omega)) rfl (hp _ _) ?_
      refine WJ_tp 19 rfl (Rd_fieldAddr rfl fo27_0) rfl (hp _ _) ?_
      refine WJ_tk 20 (Rd_load_sv (i := i - 1) (j := 0) (y := z) rfl tk25 (hA := hS) (hl := hz) (hv := rfl)) hp ?_ rfl (by kernel_rfl) rfl rfl rfl
      refine WJ_tp 21 rfl (Rd_leqN rfl rfl) rfl (hp _ _) ?_
      refine WJ_tp 22 rfl (Rd_pickT rfl rfl) rfl (hp _ _) ?_
      refine WJ_tp 23 rfl (Rd_pickF rfl rfl) rfl (hp _ _) ?_
      refine WJ_done (by kernel_rfl) ?_
      refine Ps_next hK9 ?_
      refine WC_cond rfl (fun hc1 => ?_) (fun hc1 => ?_)
      ·try simp only [dz, ne_eq] at hc1
       refine WC_sr fun K15 hK15 => ?_
       refine WL_r (Rd_assign rfl) rfl ?_
       refine WL_end hK15 ?_
       refine WC_ret ?_
       first | exact hret.goE () (Rs1 rfl rfl) (bF (lk_bad hy (by omega))) | exact hret.goE () (Rs1 rfl rfl) (bF (lk_ord (by omega) hy hz (by omega))) | exact hret.goE () (Rs1 rfl rfl) (lkOkB (by omega)) | exact hret.goE () (Rs1 rfl rfl) (lkOkA hss hbb (by omega) (by omega))
      ·try simp only [dz, ne_eq] at hc1
       refine WC_skip ?_
       refine Ps_next hK7 ?_
       refine WC_region ?_
       refine WL_r (Rd_addN (j := 1) rfl rfl) rfl ?_
       refine WL_r (Rd_move rfl) rfl ?_
       refine WL_nil ?_
       refine Ps_wkA (hK4 (i + 1) (by first | exact ⟨by omega, lk_step hy hss hbb (by omega) (.inl (by omega))⟩ | exact ⟨by omega, lk_step hy hss hbb (by omega) (.inr ⟨z, hz, by omega⟩)⟩) (by omega))
     ·try simp only [dz, ne_eq] at hg14
      refine WJ_skip 13 rfl (by kernel_rfl) rfl rfl rfl (hp _ _) ?_
      refine WJ_skip 14 rfl (by kernel_rfl) rfl rfl rfl (hp _ _) ?_
      refine WJ_skip 15 rfl (by kernel_rfl) rfl rfl rfl (hp _ _) ?_
      refine WJ_skip 16 rfl (by kernel_rfl) rfl rfl rfl (hp _ _) ?_
      refine WJ_skip 17 rfl (by kernel_rfl) rfl rfl rfl (hp _ _) ?_
      refine WJ_skip 18 rfl (by kernel_rfl) rfl rfl rfl (hp _ _) ?_
      refine WJ_skip 19 rfl (by kernel_rfl) rfl rfl rfl (hp _ _) ?_
      refine WJ_skip 20 rfl (by kernel_rfl) rfl rfl rfl (hp _ _) ?_
      refine WJ_skip 21 rfl (by kernel_rfl) rfl rfl rfl (hp _ _) ?_
      refine WJ_tp 22 rfl (Rd_pickF rfl rfl) rfl (hp _ _) ?_
      refine WJ_tp 23 rfl (Rd_pickF rfl rfl) rfl (hp _ _) ?_
      refine WJ_done (by kernel_rfl) ?_
      refine Ps_next hK9 ?_
      refine WC_condF rfl ?_
      refine WC_skip ?_
      refine Ps_next hK7 ?_
      refine WC_region ?_
      refine WL_r (Rd_addN (j := 1) rfl rfl) rfl ?_
      refine WL_r (Rd_move rfl) rfl ?_
      refine WL_nil ?_
      refine Ps_wkA (hK4 (i + 1) (by first | exact ⟨by omega, lk_step hy hss hbb (by omega) (.inl (by omega))⟩ | exact ⟨by omega, lk_step hy hss hbb (by omega) (.inr ⟨z, hz, by omega⟩)⟩) (by omega))
  ·try simp only [dz, ne_eq] at hc0
   obtain rfl : i = l.length := by omega
   rw [List.take_length] at hss hbb
   refine WC_exit ?_
   refine Ps_next hK2 ?_
   refine WC_sr fun K16 hK16 => ?_
   refine WL_r (Rd_move rfl) rfl ?_
   refine WL_r (Rd_len_sv rfl rfl ud63) rfl ?_
   refine WL_r (Rd_geqN (j := 1) rfl rfl) rfl ?_
   refine WL_r (Rd_move rfl) rfl ?_
   refine WL_bool 42 rfl (fun hg17 => ?_) (fun hg17 => ?_)
   ·try simp only [dz, ne_eq] at hg17
    refine WL_r (Rd_move rfl) rfl ?_
    refine WL_r (Rd_len_sv rfl rfl ud63) rfl ?_
    refine WL_r (Rd_leqN (j := 64) rfl rfl) rfl ?_
    refine WL_r (Rd_pickT rfl rfl) rfl ?_
    refine WL_r (Rd_assign rfl) rfl ?_
    refine WL_end hK16 ?_
    refine WC_ret ?_
    first | exact hret.goE () (Rs1 rfl rfl) (bF (lk_bad hy (by omega))) | exact hret.goE () (Rs1 rfl rfl) (bF (lk_ord (by omega) hy hz (by omega))) | exact hret.goE () (Rs1 rfl rfl) (lkOkB (by omega)) | exact hret.goE () (Rs1 rfl rfl) (lkOkA hss hbb (by omega) (by omega))
   ·try simp only [dz, ne_eq] at hg17
    refine WL_skip rfl rfl rfl ?_
    refine WL_skip rfl rfl rfl ?_
    refine WL_skip rfl rfl rfl ?_
    refine WL_r (Rd_pickF rfl rfl) rfl ?_
    refine WL_r (Rd_assign rfl) rfl ?_
    refine WL_end hK16 ?_
    refine WC_ret ?_
    first | exact hret.goE () (Rs1 rfl rfl) (bF (lk_bad hy (by omega))) | exact hret.goE () (Rs1 rfl rfl) (bF (lk_ord (by omega) hy hz (by omega))) | exact hret.goE () (Rs1 rfl rfl) (lkOkB (by omega)) | exact hret.goE () (Rs1 rfl rfl) (lkOkA hss hbb (by omega) (by omega))
end Go.Proofs.Ytoakfknnaiapiaa
