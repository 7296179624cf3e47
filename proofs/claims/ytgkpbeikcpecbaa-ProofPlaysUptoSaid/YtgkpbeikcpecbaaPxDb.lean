/-
  Contracts of functions that the claim reaches, or the logic and the plain laws that they rest on, or the row over them. (Conditions: none beyond the statement.)
-/
import Derived.Test.YtgkpbeikcpecbaaPxDa
set_option linter.all false
namespace Go.Proofs.Ytgkpbeikcpecbaa
open Go.RowKit Go.SL Go.ShM
set_option maxHeartbeats 1000000
set_option maxRecDepth 20000
set_option linter.all false
theorem fo136_0 : fo Try.prog 136 0 = some (0, 3) := by kernel_rfl
theorem fo136_1 : fo Try.prog 136 1 = some (1, 3) := by kernel_rfl
theorem sz46 : sz Try.prog 46 = some 1 := by kernel_rfl
theorem dKnown_ct {qb gi ci gd cd n w : Nat} {Kn : KM} {i : Int} (hs : SupK w Kn) (hw : w ≤ 100000 := by omega) : Ct Try.prog 81 [.pointer (some ⟨qb, 0, none⟩), .int .i64 i] [cl qb 136 [.int .i64 ((n : Nat) : Int), .int .i64 ((w : Nat) : Int), sl (some gi) (2 * w) ci, sl (some gd) (2 * w) cd], arr (some gi) ci 1 4 eBool (isL Kn w), arr (some gd) cd 32 42 fD (dgL Kn w)] (fun _ : Unit => .tuple #[aU .u8 ((Kn i).getD zD).1, .bool (Kn i).isSome]) (fun _ => [cl qb 136 [.int .i64 ((n : Nat) : Int), .int .i64 ((w : Nat) : Int), sl (some gi) (2 * w) ci, sl (some gd) (2 * w) cd], arr (some gi) ci 1 4 eBool (isL Kn w), arr (some gd) cd 32 42 fD (dgL Kn w)]) := by
 refine Ct_body (n := 35) Try.func81 rfl rfl rfl fun F w0 Q hret hnorm hp => ?_
 change WC _ _ _ _ _ _ _ (_ :: _ :: _ :: F)
 have hz32 : (List.replicate 32 0#8).length = 32 := rfl
 have hd := Dg_len ((Kn i).getD zD)
 refine WC_sr fun K1 hK1 => ?_
 refine WL_ac (Ac_allocW (k := .u8) (w := 8) (m := 32) zr42) rfl rfl rfl ?_
 rintro _ _ ⟨b4, rfl, rfl⟩
 refine WL_r (Rd_assign rfl) rfl ?_
 refine WL_end hK1 ?_
 refine WC_seq fun K2 hK2 => ?_
 refine WC_sr fun K3 hK3 => ?_
 refine WL_r (Rd_move rfl) rfl ?_
 refine WL_r (Rd_lss rfl rfl) rfl ?_
 refine WL_r (Rd_move rfl) rfl ?_
 refine WL_bool 8 rfl (fun hg4 => ?_) (fun hg4 => ?_)
 ·try simp only [dz, ne_eq] at hg4
  have q1 := hg4
  have hnn : Kn i = none := hs.none (by omega)
  refine WL_skip rfl rfl rfl ?_
  refine WL_skip rfl rfl rfl ?_
  refine WL_skip rfl rfl rfl ?_
  refine WL_skip rfl rfl rfl ?_
  refine WL_skip rfl rfl rfl ?_
  refine WL_skip rfl rfl rfl ?_
  refine WL_skip rfl rfl rfl ?_
  refine WL_r (Rd_pickT rfl rfl) rfl ?_
  refine WL_r (Rd_move rfl) rfl ?_
  refine WL_skip rfl rfl rfl ?_
  refine WL_skip rfl rfl rfl ?_
  refine WL_skip rfl rfl rfl ?_
  refine WL_skip rfl rfl rfl ?_
  refine WL_skip rfl rfl rfl ?_
  refine WL_skip rfl rfl rfl ?_
  refine WL_skip rfl rfl rfl ?_
  refine WL_skip rfl rfl rfl ?_
  refine WL_r (Rd_pickT rfl rfl) rfl ?_
  refine WL_end hK3 ?_
  refine WC_condT rfl ?_
  first | (rw [hnn] at hret) | (rw [knone (K := Kn) (by simpa using hc0)] at hret)
  rw [show (Option.getD none zD).1 = (List.replicate 32 0#8) from rfl, show (none : Option Dg).isSome = false from rfl] at hret
  refine WC_sr fun K5 hK5 => ?_
  refine WL_r (Rd_aU (k := .u8) (l := (List.replicate 32 0#8)) (Rd_build pls42 rfl) (by rfl)) rfl ?_
  refine WL_ac0 (Ac_storeW rfl rfl sz42) rfl rfl ?_
  rintro _ _ rfl
  refine WL_r (Rd_assign rfl) rfl ?_
  refine WL_end hK5 ?_
  refine WC_ret ?_
  exact hret.gf () (Rs2cW rfl rfl rfl tk42)
 ·try simp only [dz, ne_eq] at hg4
  have q1 := hg4
  refine WL_r (Rd_move rfl) rfl ?_
  refine WL_r (Rd_move rfl) rfl ?_
  refine WL_r (Rd_nilCheck rfl) rfl ?_
  refine WL_r (Rd_fieldAddr rfl fo136_1) rfl ?_
  refine WL_r (Rd_load rfl tk3) rfl ?_
  refine WL_r (Rd_mulN (i := 2) (j := w) rfl rfl) rfl ?_
  refine WL_r (Rd_geq rfl rfl) rfl ?_
  refine WL_r (Rd_pickF rfl rfl) rfl ?_
  refine WL_r (Rd_move rfl) rfl ?_
  refine WL_bool 17 rfl (fun hg6 => ?_) (fun hg6 => ?_)
  ·try simp only [dz, ne_eq] at hg6
   have q2 := hg6
   have hnn : Kn i = none := by first | assumption | exact hs.none (by omega)
   refine WL_skip rfl rfl rfl ?_
   refine WL_skip rfl rfl rfl ?_
   refine WL_skip rfl rfl rfl ?_
   refine WL_skip rfl rfl rfl ?_
   refine WL_skip rfl rfl rfl ?_
   refine WL_skip rfl rfl rfl ?_
   refine WL_skip rfl rfl rfl ?_
   refine WL_skip rfl rfl rfl ?_
   refine WL_r (Rd_pickT rfl rfl) rfl ?_
   refine WL_end hK3 ?_
   refine WC_condT rfl ?_
   first | (rw [hnn] at hret) | (rw [knone (K := Kn) (by simpa using hc0)] at hret)
   rw [show (Option.getD none zD).1 = (List.replicate 32 0#8) from rfl, show (none : Option Dg).isSome = false from rfl] at hret
   refine WC_sr fun K7 hK7 => ?_
   refine WL_r (Rd_aU (k := .u8) (l := (List.replicate 32 0#8)) (Rd_build pls42 rfl) (by rfl)) rfl ?_
   refine WL_ac0 (Ac_storeW rfl rfl sz42) rfl rfl ?_
   rintro _ _ rfl
   refine WL_r (Rd_assign rfl) rfl ?_
   refine WL_end hK7 ?_
   refine WC_ret ?_
   exact hret.gf () (Rs2cW rfl rfl rfl tk42)
  ·try simp only [dz, ne_eq] at hg6
   obtain ⟨t, rfl⟩ : ∃ t : Nat, i = ((t : Nat) : Int) := ⟨i.toNat, by omega⟩
   refine WL_r (Rd_move rfl) rfl ?_
   refine WL_r (Rd_nilCheck rfl) rfl ?_
   refine WL_r (Rd_fieldAddr rfl fo136_2) rfl ?_
   refine WL_r (Rd_load rfl tk46) rfl ?_
   refine WL_r (Rd_move rfl) rfl ?_
   refine WL_r (Rd_index (t) rfl rfl ud46 sz4 (hi := by omega)) rfl ?_
   refine WL_r (Rd_load_arr (f := eBool) (i := t) (j := 0) rfl tk4 (hl := isL_at (K := Kn) (w := w) (by omega))) rfl ?_
   refine WL_r (Rd_not rfl) rfl ?_
   refine WL_r (Rd_pickF rfl rfl) rfl ?_
   refine WL_end hK3 ?_
   refine WC_cond rfl (fun hc0 => ?_) (fun hc0 => ?_)
   ·try simp only [dz, ne_eq] at hc0
    first | (rw [hnn] at hret) | (rw [knone (K := Kn) (by simpa using hc0)] at hret)
    rw [show (Option.getD none zD).1 = (List.replicate 32 0#8) from rfl, show (none : Option Dg).isSome = false from rfl] at hret
    refine WC_sr fun K8 hK8 => ?_
    refine WL_r (Rd_aU (k := .u8) (l := (List.replicate 32 0#8)) (Rd_build pls42 rfl) (by rfl)) rfl ?_
    refine WL_ac0 (Ac_storeW rfl rfl sz42) rfl rfl ?_
    rintro _ _ rfl
    refine WL_r (Rd_assign rfl) rfl ?_
    refine WL_end hK8 ?_
    refine WC_ret ?_
    exact hret.gf () (Rs2cW rfl rfl rfl tk42)
   ·try simp only [dz, ne_eq] at hc0
    rw [show (Kn ((t : Nat) : Int)).isSome = true from by simpa using hc0] at hret
    refine WC_skip ?_
    refine Ps_next hK2 ?_
    refine WC_sr fun K9 hK9 => ?_
    refine WL_r (Rd_move rfl) rfl ?_
    refine WL_r (Rd_nilCheck rfl) rfl ?_
    refine WL_r (Rd_fieldAddr rfl fo136_3) rfl ?_
    refine WL_r (Rd_load rfl tk76) rfl ?_
    refine WL_r (Rd_move rfl) rfl ?_
    refine WL_r (Rd_index (t) rfl rfl ud76 sz42 (hi := by omega)) rfl ?_
    refine WL_r (Rd_aU (k := .u8) (l := ((Kn (((t : Nat)) : Int)).getD zD).1) (Rd_loadg_arr (f := fD) (i := t) rfl tk42 (hl := dgL_at (K := Kn) (w := w) (by omega))) rfl) rfl ?_
    refine WL_ac0 (Ac_storeW rfl rfl sz42) rfl rfl ?_
    rintro _ _ rfl
    refine WL_r (Rd_assign rfl) rfl ?_
    refine WL_end hK9 ?_
    refine WC_ret ?_
    exact hret.gf () (Rs2cW rfl rfl rfl tk42)

theorem dClone_ct {qb gi ci gd cd n w : Nat} {Kn : KM} (hw1 : 1 ≤ w) (hw : w ≤ 100000 := by omega) : Ct Try.prog 144 [.pointer (some ⟨qb, 0, none⟩)] [cl qb 136 [.int .i64 ((n : Nat) : Int), .int .i64 ((w : Nat) : Int), sl (some gi) (2 * w) ci, sl (some gd) (2 * w) cd], arr (some gi) ci 1 4 eBool (isL Kn w), arr (some gd) cd 32 42 fD (dgL Kn w)] (fun g : Nat × Nat × Nat × Nat × Nat => .pointer (some ⟨g.1, 0, none⟩)) (fun g => [cl qb 136 [.int .i64 ((n : Nat) : Int), .int .i64 ((w : Nat) : Int), sl (some gi) (2 * w) ci, sl (some gd) (2 * w) cd], arr (some gi) ci 1 4 eBool (isL Kn w), arr (some gd) cd 32 42 fD (dgL Kn w), cl g.1 136 [.int .i64 ((n : Nat) : Int), .int .i64 ((w : Nat) : Int), sl (some g.2.1) (2 * w) g.2.2.1, sl (some g.2.2.2.1) (2 * w) g.2.2.2.2], arr (some g.2.1) g.2.2.1 1 4 eBool (isL Kn w), arr (some g.2.2.2.1) g.2.2.2.2 32 42 fD (dgL Kn w)]) := by
 refine Ct_body (n := 39) Try.func144 rfl rfl rfl fun F w0 Q hret hnorm hp => ?_
 change WC _ _ _ _ _ _ _ (_ :: _ :: _ :: F)
 have hil := isL_len Kn w
 have hdl := dgL_len Kn w
 refine WC_fact (fun w' h => arr_facts (a := some gi) (cap := ci) (e := 1) (T := 4) (f := eBool) (l := isL Kn w) hasA h) (fun hif => ?_)
 have hSi : Sv [arr (some gi) ci 1 4 eBool (isL Kn w)] (sl (some gi) (isL Kn w).length ci) 1 eBool (isL Kn w) _ ci := Sv_own' enc_bool hif.1 hif.2
 refine WC_fact (fun w' h => arr_facts (a := some gd) (cap := cd) (e := 32) (T := 42) (f := fD) (l := dgL Kn w) hasA h) (fun hdf => ?_)
 have hSd : Sv [arr (some gd) cd 32 42 fD (dgL Kn w)] (sl (some gd) (dgL Kn w).length cd) 32 fD (dgL Kn w) _ cd := Sv_own' encD hdf.1 hdf.2
 rw [hil] at hSi
 rw [hdl] at hSd
 refine WC_imp (fun w h => sat_nil (e := 1) (T := 4) (f := eBool) h) ?_
 refine WC_imp (fun w h => sat_nil (e := 32) (T := 42) (f := fD) h) ?_
 refine WC_sr fun K1 hK1 => ?_
 refine WL_r (Rd_assign rfl) rfl ?_
 refine WL_end hK1 ?_
 refine WC_seq fun K2 hK2 => ?_
 refine WC_drawA mix (fun i => ([2, 2, 2, 2, 2, 2, 2, 2, 2, 1, 2] : List Nat).getD i 0) ?_
 refine WJ_tp 0 rfl (Rd_move rfl) rfl (hp _ _) ?_
 refine WJ_tp 1 rfl (Rd_nilCheck rfl) rfl (hp _ _) ?_
 refine WJ_tp 2 rfl (Rd_fieldAddr rfl fo136_0) rfl (hp _ _) ?_
 refine WJ_tk 3 (Rd_load rfl tk3) hp ?_ rfl (by kernel_rfl) rfl rfl rfl
 refine WJ_tp 4 rfl (Rd_move rfl) rfl (hp _ _) ?_
 refine WJ_tp 5 rfl (Rd_nilCheck rfl) rfl (hp _ _) ?_
 refine WJ_tp 6 rfl (Rd_fieldAddr rfl fo136_1) rfl (hp _ _) ?_
 refine WJ_tk 7 (Rd_load rfl tk3) hp ?_ rfl (by kernel_rfl) rfl rfl rfl
 refine WJ_tp 8 rfl (Rd_build pls136 rfl) rfl (hp _ _) ?_
 refine WJ_all (rs := [9]) (by kernel_rfl) rfl ?_
 refine WI_one ?_
 refine WI_ac rfl (Ac_box (xs := [.int .i64 ((n : Nat) : Int), .int .i64 ((w : Nat) : Int), sl none 0 0, sl none 0 0]) rfl rfl) rfl rfl rfl rfl ?_
 rintro _ _ ⟨b13, rfl, rfl⟩
 refine ⟨(fun _ => subA), ?_⟩
 refine WJ_tp 10 rfl (Rd_assign rfl) rfl (hp _ _) ?_
 refine WJ_done (by kernel_rfl) ?_
 refine Ps_next hK2 ?_
 refine WC_seq fun K3 hK3 => ?_
 refine WC_drawA mix (fun i => ([2, 2, 2, 2, 2, 2, 2, 2, 2, 0, 2, 2, 0] : List Nat).getD i 0) ?_
 refine WJ_tp 0 rfl (Rd_move rfl) rfl (hp _ _) ?_
 refine WJ_tp 1 rfl (Rd_move rfl) rfl (hp _ _) ?_
 refine WJ_tp 2 rfl (Rd_nilCheck rfl) rfl (hp _ _) ?_
 refine WJ_tp 3 rfl (Rd_fieldAddr rfl fo136_2) rfl (hp _ _) ?_
 refine WJ_tk 4 (Rd_load rfl tk46) hp ?_ rfl (by kernel_rfl) rfl rfl rfl
 refine WJ_tp 5 rfl (Rd_move rfl) rfl (hp _ _) ?_
 refine WJ_tp 6 rfl (Rd_nilCheck rfl) rfl (hp _ _) ?_
 refine WJ_tp 7 rfl (Rd_fieldAddr rfl fo136_2) rfl (hp _ _) ?_
 refine WJ_tk 8 (Rd_load rfl tk46) hp ?_ rfl (by kernel_rfl) rfl rfl rfl
 refine WJ_all (rs := [9]) (by kernel_rfl) rfl ?_
 refine WI_one ?_
 refine WI_ac rfl (Ac_appendS (f := eBool) enc_bool rfl rfl ud46 ud46 el4 (a := none) (cap := 0) (l := []) (l2 := isL Kn w) (hS := hSi) (hb := by rw [List.length_nil, hil]; omega)) rfl rfl rfl rfl ?_
 rintro _ _ ⟨a23, cap23, rfl, rfl⟩
 refine ⟨(fun h => by cases h), ?_⟩
 refine WJ_tp 10 rfl (Rd_nilCheck rfl) rfl (hp _ _) ?_
 refine WJ_tp 11 rfl (Rd_fieldAddr rfl fo136_2) rfl (hp _ _) ?_
 refine WJ_all (rs := [12]) (by kernel_rfl) rfl ?_
 refine WI_one ?_
 refine WI_ac0 rfl (Ac_store1 rfl rfl sz46) rfl rfl rfl ?_
 rintro _ _ rfl
 refine ⟨(fun h => by cases h), ?_⟩
 refine WJ_done (by kernel_rfl) ?_
 refine Ps_next hK3 ?_
 refine WC_seq fun K4 hK4 => ?_
 refine WC_drawA mix (fun i => ([2, 2, 2, 2, 2, 2, 2, 2, 2, 0, 2, 2, 0] : List Nat).getD i 0) ?_
 refine WJ_tp 0 rfl (Rd_move rfl) rfl (hp _ _) ?_
 refine WJ_tp 1 rfl (Rd_move rfl) rfl (hp _ _) ?_
 refine WJ_tp 2 rfl (Rd_nilCheck rfl) rfl (hp _ _) ?_
 refine WJ_tp 3 rfl (Rd_fieldAddr rfl fo136_3) rfl (hp _ _) ?_
 refine WJ_tk 4 (Rd_load rfl tk76) hp ?_ rfl (by kernel_rfl) rfl rfl rfl
 refine WJ_tp 5 rfl (Rd_move rfl) rfl (hp _ _) ?_
 refine WJ_tp 6 rfl (Rd_nilCheck rfl) rfl (hp _ _) ?_
 refine WJ_tp 7 rfl (Rd_fieldAddr rfl fo136_3) rfl (hp _ _) ?_
 refine WJ_tk 8 (Rd_load rfl tk76) hp ?_ rfl (by kernel_rfl) rfl rfl rfl
 refine WJ_all (rs := [9]) (by kernel_rfl) rfl ?_
 refine WI_one ?_
 refine WI_ac rfl (Ac_appendS (f := fD) encD rfl rfl ud76 ud76 el42 (a := none) (cap := 0) (l := []) (l2 := dgL Kn w) (hS := hSd) (hb := by rw [List.length_nil, hdl]; omega)) rfl rfl rfl rfl ?_
 rintro _ _ ⟨a35, cap35, rfl, rfl⟩
 refine ⟨(fun h => by cases h), ?_⟩
 refine WJ_tp 10 rfl (Rd_nilCheck rfl) rfl (hp _ _) ?_
 refine WJ_tp 11 rfl (Rd_fieldAddr rfl fo136_3) rfl (hp _ _) ?_
 refine WJ_all (rs := [12]) (by kernel_rfl) rfl ?_
 refine WI_one ?_
 refine WI_ac0 rfl (Ac_store1 rfl rfl sz76) rfl rfl rfl ?_
 rintro _ _ rfl
 refine ⟨(fun h => by cases h), ?_⟩
 refine WJ_done (by kernel_rfl) ?_
 refine Ps_next hK4 ?_
 simp only [List.nil_append, List.length_nil, Nat.zero_add, hil, hdl]
 refine WC_some (a := a23) (cap := cap23) (e := 1) (T := 4) (f := eBool) (l := isL Kn w) hasA (by omega) (fun ga hga _ => ?_)
 subst hga
 refine WC_some (a := a35) (cap := cap35) (e := 32) (T := 42) (f := fD) (l := dgL Kn w) hasA (by omega) (fun gb hgb _ => ?_)
 subst hgb
 refine WC_sr fun K5 hK5 => ?_
 refine WL_r (Rd_move rfl) rfl ?_
 refine WL_r (Rd_assign rfl) rfl ?_
 refine WL_end hK5 ?_
 refine WC_ret ?_
 exact hret.gf (b13, ga, cap23, gb, cap35) (Rs1 rfl rfl)
end Go.Proofs.Ytgkpbeikcpecbaa
