/-
  Contracts of functions that the claim reaches, or the logic and the plain laws that they rest on, or the row over them. (Conditions: none beyond the statement.)
-/
import Derived.Test.YtoakfknnaiapiaaSqD4
import Derived.Test.YtoakfknnaiapiaaSvLB
set_option linter.all false
namespace Go.Proofs.Ytoakfknnaiapiaa
open Go.RowKit Go.SL Go.ShM Go.SvM
set_option maxHeartbeats 1000000
set_option maxRecDepth 20000
set_option linter.all false
theorem cf11 : cfn Try.prog 11 = true := by kernel_rfl
theorem fo32_2 : fo Try.prog 32 2 = some (2, 3) := by kernel_rfl
theorem fo32_4 : fo Try.prog 32 4 = some (4, 30) := by kernel_rfl
theorem sz32 : sz Try.prog 32 = some 27 := by kernel_rfl
theorem ud60 : Try.prog.underlying 60 = some (.slice 32) := by kernel_rfl
theorem again_no {X : Asn} {v : Value} {kvs : List KV} {ao : Option Addr} {cap : Nat} {room tick : Int} {w1 w2 : Value} (hS : Sv [X] v 19 eKV kvs ao cap) (hOK : ∀ k ∈ kvs, OKv X k) (hn : kvs.length ≤ 2000000) (hlb : ∀ k ∈ kvs, k.ls.l.length ≤ 900000000000) (hwf : ¬ Wf room ⟨tick, (kvs.map KV.kp)⟩) : Ct Try.prog 5 [(.agg [.int .i64 room, .int .i64 tick, v].toArray), w1, w2] [X] (fun _ : Unit => .bool true) (fun _ => [X]) := by
 refine Ct_body (n := 126) Try.func5 rfl rfl rfl fun F w0 Q hret hnorm hp => ?_
 change WC _ _ _ _ _ _ _ (_ :: F)
 refine WC_sr fun K1 hK1 => ?_
 refine WL_ac (Ac_box (xs := [.int .i64 room, .int .i64 tick, v]) rfl rfl) rfl rfl rfl ?_
 rintro _ _ ⟨b3, rfl, rfl⟩
 refine WL_r (Rd_assign rfl) rfl ?_
 refine WL_end hK1 ?_
 refine WC_seq fun K2 hK2 => ?_
 refine WC_sr fun K3 hK3 => ?_
 refine WL_ac (Ac_call cf17 rfl (hs := awake_ct)) rfl rfl rfl ?_
 rintro _ _ ⟨⟨⟩, rfl, hA⟩
 simp only [List.cons_append, List.nil_append] at hA
 replace hA := hA.symm
 subst hA
 refine WL_r (Rd_not rfl) rfl ?_
 refine WL_end hK3 ?_
 refine WC_condF rfl ?_
 refine WC_skip ?_
 refine Ps_next hK2 ?_
 refine WC_sr fun K4 hK4 => ?_
 refine WL_r (Rd_loadg (vs := [.int .i64 room, .int .i64 tick, v]) rfl tk54) rfl ?_
 refine WL_ac (Ac_call cf18 rfl (hs := loadA_no hS hOK (by omega) hlb hwf)) rfl rfl rfl ?_
 rintro _ _ ⟨⟨⟩, rfl, hA⟩
 simp only [List.cons_append, List.nil_append] at hA
 replace hA := hA.symm
 subst hA
 refine WL_r (Rd_move rfl) rfl ?_
 refine WL_r (Rd_ext0 rfl) rfl ?_
 refine WL_r (Rd_ext1 rfl) rfl ?_
 refine WL_r (Rd_assign rfl) rfl ?_
 refine WL_r (Rd_assign rfl) rfl ?_
 refine WL_end hK4 ?_
 refine WC_seq fun K5 hK5 => ?_
 refine WC_sr fun K6 hK6 => ?_
 refine WL_r (Rd_move rfl) rfl ?_
 refine WL_r (Rd_neqN (i := 192) (j := 0) rfl rfl) rfl ?_
 refine WL_end hK6 ?_
 refine WC_condT rfl ?_
 refine WC_sr fun K7 hK7 => ?_
 refine WL_r (Rd_move rfl) rfl ?_
 refine WL_r (Rd_peq rfl rfl ud33) rfl ?_
 refine WL_r (Rd_assign rfl) rfl ?_
 refine WL_end hK7 ?_
 refine WC_ret ?_
 exact hret.go () (Rs1 rfl rfl)

theorem again_ok {X : Asn} {v : Value} {kvs : List KV} {ao : Option Addr} {cap : Nat} {room tick : Int} {w1 : Value} {qs1 : List AcQ} {ao1 : Option Addr} {cap1 : Nat} {w2 : Value} {qs2 : List AcQ} {ao2 : Option Addr} {cap2 : Nat} (hS : Sv [X] v 19 eKV kvs ao cap) (hOK : ∀ k ∈ kvs, OKv X k) (hn : kvs.length ≤ 2000000) (hlb : ∀ k ∈ kvs, k.ls.l.length ≤ 900000000000) (hwf : Wf room ⟨tick, (kvs.map KV.kp)⟩) (hA1 : Sv [X] w1 27 eAct qs1 ao1 cap1) (hQ1 : ∀ a ∈ qs1, Sv [X] a.r.b.v 1 (eU .u8 (w := 8)) a.r.b.l a.r.b.ao a.r.b.cap) (hq1 : qs1.length ≤ 2000000) (hA2 : Sv [X] w2 27 eAct qs2 ao2 cap2) (hQ2 : ∀ a ∈ qs2, Sv [X] a.r.b.v 1 (eU .u8 (w := 8)) a.r.b.l a.r.b.ao a.r.b.cap) (hq2 : qs2.length ≤ 2000000) : Ct Try.prog 5 [(.agg [.int .i64 room, .int .i64 tick, v].toArray), w1, w2] [X] (fun _ : Unit => .bool true) (fun _ => [X]) := by
 refine Ct_body (n := 126) Try.func5 rfl rfl rfl fun F w0 Q hret hnorm hp => ?_
 change WC _ _ _ _ _ _ _ (_ :: F)
 have hkl0 : (kvs.map KV.kp).length = kvs.length := List.length_map _
 refine WC_sr fun K1 hK1 => ?_
 refine WL_ac (Ac_box (xs := [.int .i64 room, .int .i64 tick, v]) rfl rfl) rfl rfl rfl ?_
 rintro _ _ ⟨b3, rfl, rfl⟩
 refine WL_r (Rd_assign rfl) rfl ?_
 refine WL_end hK1 ?_
 refine WC_seq fun K2 hK2 => ?_
 refine WC_sr fun K3 hK3 => ?_
 refine WL_ac (Ac_call cf17 rfl (hs := awake_ct)) rfl rfl rfl ?_
 rintro _ _ ⟨⟨⟩, rfl, hA⟩
 simp only [List.cons_append, List.nil_append] at hA
 replace hA := hA.symm
 subst hA
 refine WL_r (Rd_not rfl) rfl ?_
 refine WL_end hK3 ?_
 refine WC_condF rfl ?_
 refine WC_skip ?_
 refine Ps_next hK2 ?_
 refine WC_sr fun K4 hK4 => ?_
 refine WL_r (Rd_loadg (vs := [.int .i64 room, .int .i64 tick, v]) rfl tk54) rfl ?_
 refine WL_ac (Ac_call cf18 rfl (hs := loadA_ct hS hOK (by omega) hlb hwf)) rfl rfl rfl ?_
 rintro _ _ ⟨b1, rfl, hA⟩
 simp only [List.cons_append, List.nil_append] at hA
 replace hA := hA.symm
 subst hA
 refine WL_r (Rd_move rfl) rfl ?_
 refine WL_r (Rd_ext0 rfl) rfl ?_
 refine WL_r (Rd_ext1 rfl) rfl ?_
 refine WL_r (Rd_assign rfl) rfl ?_
 refine WL_r (Rd_assign rfl) rfl ?_
 refine WL_end hK4 ?_
 refine WC_seq fun K5 hK5 => ?_
 refine WC_sr fun K6 hK6 => ?_
 refine WL_r (Rd_move rfl) rfl ?_
 refine WL_r (Rd_neqN (i := 0) (j := 0) rfl rfl) rfl ?_
 refine WL_end hK6 ?_
 refine WC_condF rfl ?_
 refine WC_skip ?_
 refine Ps_next hK5 ?_
 refine WC_seq fun K7 hK7 => ?_
 refine WC_sr fun K8 hK8 => ?_
 refine WL_r (Rd_assign rfl) rfl ?_
 refine WL_end hK8 ?_
 refine WC_block ?_
 refine WC_loopK (σ := Nat × Sv1) (fun ⟨i, s⟩ => [(9, .int .i64 ((i : Nat) : Int))]) (fun ⟨i, s⟩ => [SvA 40 85 5 b1 room s]) (fun ⟨i, s⟩ => i ≤ qs1.length ∧ Wf room s ∧ s.l.length ≤ 2000000 + i) (fun ⟨i, s⟩ => qs1.length - i) ⟨0, ⟨tick, (kvs.map KV.kp)⟩⟩ [1, 2, 6, 7, 8, 10, 11, 12, 13, 14, 15, 53, 54, 55, 56, 57, 58, 59, 60, 61, 62, 63, 64, 65, 66, 67, 68, 69, 70, 71, 72, 73, 74, 75, 76, 77, 78, 79, 80, 81, 82, 83, 84, 85, 86, 87, 88, 89, 90, 91, 92, 93, 94, 95, 96, 97, 98, 99, 100, 101, 102, 103, 104, 105, 106, 107, 108, 109, 110, 111, 112, 113, 114, 115, 116, 117, 118, 119, 120, 121, 122, 123, 124, 125] kpA (by (try dsimp only); repeat (first | with_reducible exact Gv.nil | (with_reducible apply Gv.cons; · (repeat (first | with_reducible exact Ext.here | with_reducible apply Ext.there))))) ?_ ?_ Sub.refl ?_
 ·exact ⟨Nat.zero_le _, hwf, by (try dsimp only); omega⟩
 ·(try dsimp only); exact (Wk.cons lkA Wk.nil)
 ·rintro ⟨i, s⟩ ⟨hi, hw, hsl⟩ K9 hK9
  simp only [List.cons_append, List.nil_append]
  refine WC_seq fun K10 hK10 => ?_
  refine WC_sr fun K11 hK11 => ?_
  refine WL_r (Rd_move rfl) rfl ?_
  refine WL_r (Rd_move rfl) rfl ?_
  refine WL_r (Rd_len_sv rfl rfl ud60 (hA := hA1)) rfl ?_
  refine WL_r (Rd_lssN rfl rfl) rfl ?_
  refine WL_end hK11 ?_
  refine WC_cond rfl (fun hc2 => ?_) (fun hc2 => ?_)
  ·try simp only [dz, ne_eq] at hc2
   obtain ⟨a, ha⟩ : ∃ a, qs1[i]? = some a := ⟨_, List.getElem?_eq_getElem (by omega)⟩
   have haB := hQ1 a (List.mem_of_getElem? ha)
   refine WC_skip ?_
   refine Ps_next hK10 ?_
   refine WC_seq fun K12 hK12 => ?_
   refine WC_block ?_
   refine WC_sr fun K13 hK13 => ?_
   refine WL_r (Rd_move rfl) rfl ?_
   refine WL_r (Rd_move rfl) rfl ?_
   refine WL_r (Rd_index_sv i rfl rfl ud60 sz32 (hA := hA1) (hi := by omega)) rfl ?_
   refine WL_r (Rd_fieldAddr rfl fo32_4) rfl ?_
   refine WL_r (Rd_fieldAddr rfl fo30_6) rfl ?_
   refine WL_r (Rd_load_sv (i := i) (j := 26) (y := a) rfl tk28 (hA := hA1) (hl := ha) (hv := eAct_b a)) rfl ?_
   refine WL_r (Rd_len_sv rfl rfl ud28 (hA := haB)) rfl ?_
   refine WL_r (Rd_leqN (j := 5000) rfl rfl) rfl ?_
   refine WL_end hK13 ?_
   refine WC_cond rfl (fun hc3 => ?_) (fun hc3 => ?_)
   ·try simp only [dz, ne_eq] at hc3
    obtain ⟨⟨rp, er, s2⟩, hc⟩ : ∃ q, callM room s a.at_ a.r = q := ⟨_, rfl⟩
    have hw2 := hw.call_eq hc
    have hl2 := len_call_eq hc
    have hrl := reply_len hw hc
    refine WC_drawA mix (fun i => ([2, 2, 2, 2, 2, 2, 2, 2, 2, 2, 2, 0] : List Nat).getD i 0) ?_
    refine WJ_tp 0 rfl (Rd_move rfl) rfl (hp _ _) ?_
    refine WJ_tp 1 rfl (Rd_move rfl) rfl (hp _ _) ?_
    refine WJ_tp 2 rfl (Rd_move rfl) rfl (hp _ _) ?_
    refine WJ_tp 3 rfl (Rd_index_sv i rfl rfl ud60 sz32 (hA := hA1) (hi := by omega)) rfl (hp _ _) ?_
    refine WJ_tp 4 rfl (Rd_fieldAddr rfl fo32_2) rfl (hp _ _) ?_
    refine WJ_tk 5 (Rd_load_sv (i := i) (j := 2) (y := a) rfl tk3 (hA := hA1) (hl := ha) (hv := eAct_at a)) hp ?_ rfl (by kernel_rfl) rfl rfl rfl
    refine WJ_tp 6 rfl (Rd_move rfl) rfl (hp _ _) ?_
    refine WJ_tp 7 rfl (Rd_move rfl) rfl (hp _ _) ?_
    refine WJ_tp 8 rfl (Rd_index_sv i rfl rfl ud60 sz32 (hA := hA1) (hi := by omega)) rfl (hp _ _) ?_
    refine WJ_tp 9 rfl (Rd_fieldAddr rfl fo32_4) rfl (hp _ _) ?_
    refine WJ_tk 10 (Rd_loadgp_sv (f := eAct) (i := i) (j := 4) (y := a) (vs := eRq a.r) rfl tk30 (hA := hA1) (hl := ha) (hjk := by rw [eAct_len]; omega) (hv := eAct_rq a)) hp ?_ rfl (by kernel_rfl) rfl rfl rfl
    refine WJ_all (rs := [11]) (by kernel_rfl) rfl ?_
    refine WI_one ?_
    refine WI_ac rfl (Ac_call cf10 rfl (hs := doA_ct (b := b1) (room := room) (t := a.at_) (s := s) (s2 := s2) (r := a.r) (Y := X) (rp := rp) (er := er) hw haB (by omega) hc)) rfl rfl rfl rfl ?_
    rintro _ _ ⟨gr, rfl, hA⟩
    simp only [List.cons_append, List.nil_append] at hA
    replace hA := hA.symm
    subst hA
    refine ⟨(fun h => by cases h), ?_⟩
    refine WJ_done (by kernel_rfl) ?_
    refine Ps_next hK12 ?_
    refine WC_region ?_
    refine WL_r (Rd_move rfl) rfl ?_
    refine WL_r (Rd_addN (j := 1) rfl rfl) rfl ?_
    refine WL_r (Rd_assign rfl) rfl ?_
    refine WL_nil ?_
    refine Ps_wkA (hK9 ⟨i + 1, s2⟩ (⟨by (try dsimp only); omega, hw2, by (try dsimp only); omega⟩) (by (try dsimp only); omega))
   ·try simp only [dz, ne_eq] at hc3
    refine WC_skip ?_
    refine Ps_next hK12 ?_
    refine WC_region ?_
    refine WL_r (Rd_move rfl) rfl ?_
    refine WL_r (Rd_addN (j := 1) rfl rfl) rfl ?_
    refine WL_r (Rd_assign rfl) rfl ?_
    refine WL_nil ?_
    refine Ps_wkA (hK9 ⟨i + 1, s⟩ (⟨by (try dsimp only); omega, hw, by (try dsimp only); omega⟩) (by (try dsimp only); omega))
  ·try simp only [dz, ne_eq] at hc2
   refine WC_exit ?_
   refine Ps_next hK7 ?_
   refine WC_sr fun K14 hK14 => ?_
   refine WL_r (Rd_move rfl) rfl ?_
   refine WL_ac (Ac_call cf15 rfl (hs := stateA_ct (b := b1) (room := room) (s := s) hw (by omega))) rfl rfl rfl ?_
   rintro _ _ ⟨g1, rfl, hA⟩
   simp only [List.cons_append, List.nil_append] at hA
   replace hA := hA.symm
   subst hA
   refine WL_ac (Ac_call cf18 rfl (hs := loadA_ct (X := g1.X) g1.sv g1.ok (by have q := congrArg List.length g1.eq; rw [List.length_map] at q; omega) (hw.lsl g1.eq) (by rw [g1.eq]; exact hw))) rfl rfl rfl ?_
   rintro _ _ ⟨b2, rfl, hA⟩
   simp only [List.cons_append, List.nil_append] at hA
   replace hA := hA.symm
   subst hA
   rw [g1.eq, show (⟨s.tick, s.l⟩ : Sv1) = s from rfl]
   refine WL_r (Rd_move rfl) rfl ?_
   refine WL_r (Rd_ext0 rfl) rfl ?_
   refine WL_r (Rd_ext1 rfl) rfl ?_
   refine WL_r (Rd_assign rfl) rfl ?_
   refine WL_r (Rd_assign rfl) rfl ?_
   refine WL_end hK14 ?_
   refine WC_seq fun K15 hK15 => ?_
   refine WC_sr fun K16 hK16 => ?_
   refine WL_r (Rd_move rfl) rfl ?_
   refine WL_r (Rd_peq rfl rfl ud33) rfl ?_
   refine WL_r (Rd_move rfl) rfl ?_
   refine WL_r (Rd_move rfl) rfl ?_
   refine WL_r (Rd_neqN (i := 0) (j := 0) rfl rfl) rfl ?_
   refine WL_r (Rd_pickF rfl rfl) rfl ?_
   refine WL_end hK16 ?_
   refine WC_condF rfl ?_
   refine WC_skip ?_
   refine Ps_next hK15 ?_
   refine WC_seq fun K17 hK17 => ?_
   refine WC_sr fun K18 hK18 => ?_
   refine WL_r (Rd_assign rfl) rfl ?_
   refine WL_end hK18 ?_
   refine WC_block ?_
   refine WC_loopK (σ := Nat × Sv1) (fun ⟨j, z⟩ => [(11, .int .i64 ((j : Nat) : Int))]) (fun ⟨j, z⟩ => [SvA 40 85 5 b1 room z, SvA 40 85 5 b2 room z]) (fun ⟨j, z⟩ => j ≤ qs2.length ∧ Wf room z ∧ z.l.length ≤ 4000000 + j) (fun ⟨j, z⟩ => qs2.length - j) ⟨0, s⟩ [2, 7, 10] kpA (by (try dsimp only); repeat (first | with_reducible exact Gv.nil | (with_reducible apply Gv.cons; · (repeat (first | with_reducible exact Ext.here | with_reducible apply Ext.there))))) ?_ ?_ Sub.refl ?_
   ·exact ⟨Nat.zero_le _, hw, by (try dsimp only); omega⟩
   ·(try dsimp only); exact (Wk.cons lkA Wk.nil)
   ·rintro ⟨j, z⟩ ⟨hj, hw, hzl⟩ K19 hK19
    simp only [List.cons_append, List.nil_append]
    refine WC_seq fun K20 hK20 => ?_
    refine WC_sr fun K21 hK21 => ?_
    refine WL_r (Rd_move rfl) rfl ?_
    refine WL_r (Rd_move rfl) rfl ?_
    refine WL_r (Rd_len_sv rfl rfl ud60 (hA := hA2)) rfl ?_
    refine WL_r (Rd_lssN rfl rfl) rfl ?_
    refine WL_end hK21 ?_
    refine WC_cond rfl (fun hc5 => ?_) (fun hc5 => ?_)
    ·try simp only [dz, ne_eq] at hc5
     obtain ⟨a, ha⟩ : ∃ a, qs2[j]? = some a := ⟨_, List.getElem?_eq_getElem (by omega)⟩
     have haB := hQ2 a (List.mem_of_getElem? ha)
     refine WC_skip ?_
     refine Ps_next hK20 ?_
     refine WC_seq fun K22 hK22 => ?_
     refine WC_block ?_
     refine WC_seq fun K23 hK23 => ?_
     refine WC_sr fun K24 hK24 => ?_
     refine WL_r (Rd_move rfl) rfl ?_
     refine WL_r (Rd_move rfl) rfl ?_
     refine WL_r (Rd_index_sv j rfl rfl ud60 sz32 (hA := hA2) (hi := by omega)) rfl ?_
     refine WL_r (Rd_fieldAddr rfl fo32_4) rfl ?_
     refine WL_r (Rd_fieldAddr rfl fo30_6) rfl ?_
     refine WL_r (Rd_load_sv (i := j) (j := 26) (y := a) rfl tk28 (hA := hA2) (hl := ha) (hv := eAct_b a)) rfl ?_
     refine WL_r (Rd_len_sv rfl rfl ud28 (hA := haB)) rfl ?_
     refine WL_r (Rd_gtrN (j := 5000) rfl rfl) rfl ?_
     refine WL_end hK24 ?_
     refine WC_cond rfl (fun hc6 => ?_) (fun hc6 => ?_)
     ·try simp only [dz, ne_eq] at hc6
      refine WC_exit ?_
      refine Ps_next hK22 ?_
      refine WC_region ?_
      refine WL_r (Rd_move rfl) rfl ?_
      refine WL_r (Rd_addN (j := 1) rfl rfl) rfl ?_
      refine WL_r (Rd_assign rfl) rfl ?_
      refine WL_nil ?_
      refine Ps_wkA (hK19 ⟨j + 1, z⟩ (⟨by (try dsimp only); omega, hw, by (try dsimp only); omega⟩) (by (try dsimp only); omega))
     ·try simp only [dz, ne_eq] at hc6
      obtain ⟨⟨rp, er, s2⟩, hc⟩ : ∃ q, callM room z a.at_ a.r = q := ⟨_, rfl⟩
      have hw2 := hw.call_eq hc
      have hl2 := len_call_eq hc
      have hrl := reply_len hw hc
      refine WC_skip ?_
      refine Ps_next hK23 ?_
      refine WC_seq fun K25 hK25 => ?_
      refine WC_draw mix [X] (fun i => ([2, 2, 2, 2, 2, 2, 2, 2, 2, 2, 2, 0, 2, 2, 2, 1, 0, 2] : List Nat).getD i 0) ?_
      refine WJ_tp 0 rfl (Rd_move rfl) rfl (hp _ _) ?_
      refine WJ_tp 1 rfl (Rd_move rfl) rfl (hp _ _) ?_
      refine WJ_tp 2 rfl (Rd_move rfl) rfl (hp _ _) ?_
      refine WJ_tp 3 rfl (Rd_index_sv j rfl rfl ud60 sz32 (hA := hA2) (hi := by omega)) rfl (hp _ _) ?_
      refine WJ_tp 4 rfl (Rd_fieldAddr rfl fo32_2) rfl (hp _ _) ?_
      refine WJ_tk 5 (Rd_load_sv (i := j) (j := 2) (y := a) rfl tk3 (hA := hA2) (hl := ha) (hv := eAct_at a)) hp ?_ rfl (by kernel_rfl) rfl rfl rfl
      refine WJ_tp 6 rfl (Rd_move rfl) rfl (hp _ _) ?_
      refine WJ_tp 7 rfl (Rd_move rfl) rfl (hp _ _) ?_
      refine WJ_tp 8 rfl (Rd_index_sv j rfl rfl ud60 sz32 (hA := hA2) (hi := by omega)) rfl (hp _ _) ?_
      refine WJ_tp 9 rfl (Rd_fieldAddr rfl fo32_4) rfl (hp _ _) ?_
      refine WJ_tk 10 (Rd_loadgp_sv (f := eAct) (i := j) (j := 4) (y := a) (vs := eRq a.r) rfl tk30 (hA := hA2) (hl := ha) (hjk := by rw [eAct_len]; omega) (hv := eAct_rq a)) hp ?_ rfl (by kernel_rfl) rfl rfl rfl
      refine WJ_all (rs := [11, 15]) (by kernel_rfl) rfl ?_
      refine WI_cons ?_ (WI_cons ?_ (by intro _ h; cases h))
      ·skip
       refine WI_ac rfl (Ac_call cf10 rfl (hs := doA_ct (b := b1) (room := room) (t := a.at_) (s := z) (s2 := s2) (r := a.r) (Y := X) (rp := rp) (er := er) hw haB (by omega) hc)) rfl rfl rfl rfl ?_
       rintro _ _ ⟨gr1, rfl, hA⟩
       simp only [List.cons_append, List.nil_append] at hA
       replace hA := hA.symm
       subst hA
       refine ⟨(fun h => by cases h), ?_⟩
       refine WJ_tp 12 rfl (Rd_move rfl) rfl (hp _ _) ?_
       refine WJ_tp 13 rfl (Rd_ext0 rfl) rfl (hp _ _) ?_
       refine WJ_tp 14 rfl (Rd_ext1 rfl) rfl (hp _ _) ?_
       refine WJ_all (rs := [15]) (by kernel_rfl) rfl ?_
       refine WI_one ?_
       refine WI_ac rfl (Ac_alloc zr45) rfl rfl rfl rfl ?_
       rintro _ _ ⟨b12, rfl, rfl⟩
       refine ⟨(fun _ => subA), ?_⟩
       refine WJ_all (rs := [16]) (by kernel_rfl) rfl ?_
       refine WI_one ?_
       refine WI_ac0 rfl (Ac_store (ys := [.int .u8 rp.kind, gr1.nv, gr1.bv]) rfl rfl sz45 (h1 := by simp [RpG.v, setAt, Value.cells, Value.oneCell', gr1.hn.val, gr1.hb.val]) (hr := rfl)) rfl rfl rfl ?_
       rintro _ _ rfl
       refine ⟨(fun h => by cases h), ?_⟩
       refine WJ_tp 17 rfl (Rd_assign rfl) rfl (hp _ _) ?_
       refine WJ_done (by kernel_rfl) ?_
       refine Ps_next hK25 ?_
       refine WC_seq fun K26 hK26 => ?_
       refine WC_draw mix [X] (fun i => ([2, 2, 2, 2, 2, 2, 2, 2, 2, 2, 2, 0, 2, 2, 2, 1, 0, 2] : List Nat).getD i 0) ?_
       refine WJ_tp 0 rfl (Rd_move rfl) rfl (hp _ _) ?_
       refine WJ_tp 1 rfl (Rd_move rfl) rfl (hp _ _) ?_
       refine WJ_tp 2 rfl (Rd_move rfl) rfl (hp _ _) ?_
       refine WJ_tp 3 rfl (Rd_index_sv j rfl rfl ud60 sz32 (hA := hA2) (hi := by omega)) rfl (hp _ _) ?_
       refine WJ_tp 4 rfl (Rd_fieldAddr rfl fo32_2) rfl (hp _ _) ?_
       refine WJ_tk 5 (Rd_load_sv (i := j) (j := 2) (y := a) rfl tk3 (hA := hA2) (hl := ha) (hv := eAct_at a)) hp ?_ rfl (by kernel_rfl) rfl rfl rfl
       refine WJ_tp 6 rfl (Rd_move rfl) rfl (hp _ _) ?_
       refine WJ_tp 7 rfl (Rd_move rfl) rfl (hp _ _) ?_
       refine WJ_tp 8 rfl (Rd_index_sv j rfl rfl ud60 sz32 (hA := hA2) (hi := by omega)) rfl (hp _ _) ?_
       refine WJ_tp 9 rfl (Rd_fieldAddr rfl fo32_4) rfl (hp _ _) ?_
       refine WJ_tk 10 (Rd_loadgp_sv (f := eAct) (i := j) (j := 4) (y := a) (vs := eRq a.r) rfl tk30 (hA := hA2) (hl := ha) (hjk := by rw [eAct_len]; omega) (hv := eAct_rq a)) hp ?_ rfl (by kernel_rfl) rfl rfl rfl
       refine WJ_all (rs := [11, 15]) (by kernel_rfl) rfl ?_
       refine WI_cons ?_ (WI_cons ?_ (by intro _ h; cases h))
       ·skip
        refine WI_ac rfl (Ac_call cf10 rfl (hs := doA_ct (b := b2) (room := room) (t := a.at_) (s := z) (s2 := s2) (r := a.r) (Y := X) (rp := rp) (er := er) hw haB (by omega) hc)) rfl rfl rfl rfl ?_
        rintro _ _ ⟨gr2, rfl, hA⟩
        simp only [List.cons_append, List.nil_append] at hA
        replace hA := hA.symm
        subst hA
        refine ⟨(fun h => by cases h), ?_⟩
        refine WJ_tp 12 rfl (Rd_move rfl) rfl (hp _ _) ?_
        refine WJ_tp 13 rfl (Rd_ext0 rfl) rfl (hp _ _) ?_
        refine WJ_tp 14 rfl (Rd_ext1 rfl) rfl (hp _ _) ?_
        refine WJ_all (rs := [15]) (by kernel_rfl) rfl ?_
        refine WI_one ?_
        refine WI_ac rfl (Ac_alloc zr45) rfl rfl rfl rfl ?_
        rintro _ _ ⟨b14, rfl, rfl⟩
        refine ⟨(fun _ => subA), ?_⟩
        refine WJ_all (rs := [16]) (by kernel_rfl) rfl ?_
        refine WI_one ?_
        refine WI_ac0 rfl (Ac_store (ys := [.int .u8 rp.kind, gr2.nv, gr2.bv]) rfl rfl sz45 (h1 := by simp [RpG.v, setAt, Value.cells, Value.oneCell', gr2.hn.val, gr2.hb.val]) (hr := rfl)) rfl rfl rfl ?_
        rintro _ _ rfl
        refine ⟨(fun h => by cases h), ?_⟩
        refine WJ_tp 17 rfl (Rd_assign rfl) rfl (hp _ _) ?_
        refine WJ_done (by kernel_rfl) ?_
        refine Ps_next hK26 ?_
        refine WC_sr fun K27 hK27 => ?_
        refine WL_r (Rd_move rfl) rfl ?_
        refine WL_r (Rd_move rfl) rfl ?_
        refine WL_r (Rd_valE (v := .bool false) (Rd_neq rfl rfl) (by simp)) rfl ?_
        refine WL_r (Rd_move rfl) rfl ?_
        refine WL_r (Rd_loadg (vs := [.int .u8 rp.kind, gr1.nv, gr1.bv]) rfl tk45) rfl ?_
        refine WL_r (Rd_loadg (vs := [.int .u8 rp.kind, gr2.nv, gr2.bv]) rfl tk45) rfl ?_
        refine WL_ac (Ac_call cf11 rfl (hs := sameRp_ct (rp := rp) (g := gr1) (g' := gr2) (by omega) (by omega))) rfl rfl rfl ?_
        rintro _ _ ⟨⟨⟩, rfl, hA⟩
        simp only [List.cons_append, List.nil_append] at hA
        replace hA := hA.symm
        subst hA
        refine WL_r (Rd_not rfl) rfl ?_
        refine WL_r (Rd_pickF rfl rfl) rfl ?_
        refine WL_r (Rd_move rfl) rfl ?_
        refine WL_r (Rd_move rfl) rfl ?_
        refine WL_ac (Ac_call cf15 rfl (hs := stateA_ct (b := b1) (room := room) (s := s2) hw2 (by omega))) rfl rfl rfl ?_
        rintro _ _ ⟨g3, rfl, hA⟩
        simp only [List.cons_append, List.nil_append] at hA
        replace hA := hA.symm
        subst hA
        refine WL_r (Rd_move rfl) rfl ?_
        refine WL_ac (Ac_call cf15 rfl (hs := stateA_ct (b := b2) (room := room) (s := s2) hw2 (by omega))) rfl rfl rfl ?_
        rintro _ _ ⟨g4, rfl, hA⟩
        simp only [List.cons_append, List.nil_append] at hA
        replace hA := hA.symm
        subst hA
        refine WL_ac (Ac_call cf14 rfl (hs := sameG_ct (room := room) (tick := s2.tick) g3 g4 (by omega) hw2)) rfl rfl rfl ?_
        rintro _ _ ⟨⟨⟩, rfl, hA⟩
        simp only [List.cons_append, List.nil_append] at hA
        replace hA := hA.symm
        subst hA
        refine WL_r (Rd_not rfl) rfl ?_
        refine WL_r (Rd_pickF rfl rfl) rfl ?_
        refine WL_end hK27 ?_
        refine WC_condF rfl ?_
        refine WC_skip ?_
        refine Ps_next hK22 ?_
        refine WC_region ?_
        refine WL_r (Rd_move rfl) rfl ?_
        refine WL_r (Rd_addN (j := 1) rfl rfl) rfl ?_
        refine WL_r (Rd_assign rfl) rfl ?_
        refine WL_nil ?_
        refine Ps_wkA (hK19 ⟨j + 1, s2⟩ (⟨by (try dsimp only); omega, hw2, by (try dsimp only); omega⟩) (by (try dsimp only); omega))
       ·skip
        refine WI_ac rfl (Ac_alloc zr45) rfl rfl rfl rfl ?_
        rintro _ _ ⟨b14, rfl, rfl⟩
        refine ⟨(fun _ => subA), ?_⟩
        refine WJ_all (rs := [11]) (by kernel_rfl) rfl ?_
        refine WI_one ?_
        refine WI_ac rfl (Ac_call cf10 rfl (hs := doA_ct (b := b2) (room := room) (t := a.at_) (s := z) (s2 := s2) (r := a.r) (Y := X) (rp := rp) (er := er) hw haB (by omega) hc)) rfl rfl rfl rfl ?_
        rintro _ _ ⟨gr2, rfl, hA⟩
        simp only [List.cons_append, List.nil_append] at hA
        replace hA := hA.symm
        subst hA
        refine ⟨(fun h => by cases h), ?_⟩
        refine WJ_tp 12 rfl (Rd_move rfl) rfl (hp _ _) ?_
        refine WJ_tp 13 rfl (Rd_ext0 rfl) rfl (hp _ _) ?_
        refine WJ_tp 14 rfl (Rd_ext1 rfl) rfl (hp _ _) ?_
        refine WJ_all (rs := [16]) (by kernel_rfl) rfl ?_
        refine WI_one ?_
        refine WI_ac0 rfl (Ac_store (ys := [.int .u8 rp.kind, gr2.nv, gr2.bv]) rfl rfl sz45 (h1 := by simp [RpG.v, setAt, Value.cells, Value.oneCell', gr2.hn.val, gr2.hb.val]) (hr := rfl)) rfl rfl rfl ?_
        rintro _ _ rfl
        refine ⟨(fun h => by cases h), ?_⟩
        refine WJ_tp 17 rfl (Rd_assign rfl) rfl (hp _ _) ?_
        refine WJ_done (by kernel_rfl) ?_
        refine Ps_next hK26 ?_
        refine WC_sr fun K28 hK28 => ?_
        refine WL_r (Rd_move rfl) rfl ?_
        refine WL_r (Rd_move rfl) rfl ?_
        refine WL_r (Rd_valE (v := .bool false) (Rd_neq rfl rfl) (by simp)) rfl ?_
        refine WL_r (Rd_move rfl) rfl ?_
        refine WL_r (Rd_loadg (vs := [.int .u8 rp.kind, gr1.nv, gr1.bv]) rfl tk45) rfl ?_
        refine WL_r (Rd_loadg (vs := [.int .u8 rp.kind, gr2.nv, gr2.bv]) rfl tk45) rfl ?_
        refine WL_ac (Ac_call cf11 rfl (hs := sameRp_ct (rp := rp) (g := gr1) (g' := gr2) (by omega) (by omega))) rfl rfl rfl ?_
        rintro _ _ ⟨⟨⟩, rfl, hA⟩
        simp only [List.cons_append, List.nil_append] at hA
        replace hA := hA.symm
        subst hA
        refine WL_r (Rd_not rfl) rfl ?_
        refine WL_r (Rd_pickF rfl rfl) rfl ?_
        refine WL_r (Rd_move rfl) rfl ?_
        refine WL_r (Rd_move rfl) rfl ?_
        refine WL_ac (Ac_call cf15 rfl (hs := stateA_ct (b := b1) (room := room) (s := s2) hw2 (by omega))) rfl rfl rfl ?_
        rintro _ _ ⟨g3, rfl, hA⟩
        simp only [List.cons_append, List.nil_append] at hA
        replace hA := hA.symm
        subst hA
        refine WL_r (Rd_move rfl) rfl ?_
        refine WL_ac (Ac_call cf15 rfl (hs := stateA_ct (b := b2) (room := room) (s := s2) hw2 (by omega))) rfl rfl rfl ?_
        rintro _ _ ⟨g4, rfl, hA⟩
        simp only [List.cons_append, List.nil_append] at hA
        replace hA := hA.symm
        subst hA
        refine WL_ac (Ac_call cf14 rfl (hs := sameG_ct (room := room) (tick := s2.tick) g3 g4 (by omega) hw2)) rfl rfl rfl ?_
        rintro _ _ ⟨⟨⟩, rfl, hA⟩
        simp only [List.cons_append, List.nil_append] at hA
        replace hA := hA.symm
        subst hA
        refine WL_r (Rd_not rfl) rfl ?_
        refine WL_r (Rd_pickF rfl rfl) rfl ?_
        refine WL_end hK28 ?_
        refine WC_condF rfl ?_
        refine WC_skip ?_
        refine Ps_next hK22 ?_
        refine WC_region ?_
        refine WL_r (Rd_move rfl) rfl ?_
        refine WL_r (Rd_addN (j := 1) rfl rfl) rfl ?_
        refine WL_r (Rd_assign rfl) rfl ?_
        refine WL_nil ?_
        refine Ps_wkA (hK19 ⟨j + 1, s2⟩ (⟨by (try dsimp only); omega, hw2, by (try dsimp only); omega⟩) (by (try dsimp only); omega))
      ·skip
       refine WI_ac rfl (Ac_alloc zr45) rfl rfl rfl rfl ?_
       rintro _ _ ⟨b12, rfl, rfl⟩
       refine ⟨(fun _ => subA), ?_⟩
       refine WJ_all (rs := [11]) (by kernel_rfl) rfl ?_
       refine WI_one ?_
       refine WI_ac rfl (Ac_call cf10 rfl (hs := doA_ct (b := b1) (room := room) (t := a.at_) (s := z) (s2 := s2) (r := a.r) (Y := X) (rp := rp) (er := er) hw haB (by omega) hc)) rfl rfl rfl rfl ?_
       rintro _ _ ⟨gr1, rfl, hA⟩
       simp only [List.cons_append, List.nil_append] at hA
       replace hA := hA.symm
       subst hA
       refine ⟨(fun h => by cases h), ?_⟩
       refine WJ_tp 12 rfl (Rd_move rfl) rfl (hp _ _) ?_
       refine WJ_tp 13 rfl (Rd_ext0 rfl) rfl (hp _ _) ?_
       refine WJ_tp 14 rfl (Rd_ext1 rfl) rfl (hp _ _) ?_
       refine WJ_all (rs := [16]) (by kernel_rfl) rfl ?_
       refine WI_one ?_
       refine WI_ac0 rfl (Ac_store (ys := [.int .u8 rp.kind, gr1.nv, gr1.bv]) rfl rfl sz45 (h1 := by simp [RpG.v, setAt, Value.cells, Value.oneCell', gr1.hn.val, gr1.hb.val]) (hr := rfl)) rfl rfl rfl ?_
       rintro _ _ rfl
       refine ⟨(fun h => by cases h), ?_⟩
       refine WJ_tp 17 rfl (Rd_assign rfl) rfl (hp _ _) ?_
       refine WJ_done (by kernel_rfl) ?_
       refine Ps_next hK25 ?_
       refine WC_seq fun K29 hK29 => ?_
       refine WC_draw mix [X] (fun i => ([2, 2, 2, 2, 2, 2, 2, 2, 2, 2, 2, 0, 2, 2, 2, 1, 0, 2] : List Nat).getD i 0) ?_
       refine WJ_tp 0 rfl (Rd_move rfl) rfl (hp _ _) ?_
       refine WJ_tp 1 rfl (Rd_move rfl) rfl (hp _ _) ?_
       refine WJ_tp 2 rfl (Rd_move rfl) rfl (hp _ _) ?_
       refine WJ_tp 3 rfl (Rd_index_sv j rfl rfl ud60 sz32 (hA := hA2) (hi := by omega)) rfl (hp _ _) ?_
       refine WJ_tp 4 rfl (Rd_fieldAddr rfl fo32_2) rfl (hp _ _) ?_
       refine WJ_tk 5 (Rd_load_sv (i := j) (j := 2) (y := a) rfl tk3 (hA := hA2) (hl := ha) (hv := eAct_at a)) hp ?_ rfl (by kernel_rfl) rfl rfl rfl
       refine WJ_tp 6 rfl (Rd_move rfl) rfl (hp _ _) ?_
       refine WJ_tp 7 rfl (Rd_move rfl) rfl (hp _ _) ?_
       refine WJ_tp 8 rfl (Rd_index_sv j rfl rfl ud60 sz32 (hA := hA2) (hi := by omega)) rfl (hp _ _) ?_
       refine WJ_tp 9 rfl (Rd_fieldAddr rfl fo32_4) rfl (hp _ _) ?_
       refine WJ_tk 10 (Rd_loadgp_sv (f := eAct) (i := j) (j := 4) (y := a) (vs := eRq a.r) rfl tk30 (hA := hA2) (hl := ha) (hjk := by rw [eAct_len]; omega) (hv := eAct_rq a)) hp ?_ rfl (by kernel_rfl) rfl rfl rfl
       refine WJ_all (rs := [11, 15]) (by kernel_rfl) rfl ?_
       refine WI_cons ?_ (WI_cons ?_ (by intro _ h; cases h))
       ·skip
        refine WI_ac rfl (Ac_call cf10 rfl (hs := doA_ct (b := b2) (room := room) (t := a.at_) (s := z) (s2 := s2) (r := a.r) (Y := X) (rp := rp) (er := er) hw haB (by omega) hc)) rfl rfl rfl rfl ?_
        rintro _ _ ⟨gr2, rfl, hA⟩
        simp only [List.cons_append, List.nil_append] at hA
        replace hA := hA.symm
        subst hA
        refine ⟨(fun h => by cases h), ?_⟩
        refine WJ_tp 12 rfl (Rd_move rfl) rfl (hp _ _) ?_
        refine WJ_tp 13 rfl (Rd_ext0 rfl) rfl (hp _ _) ?_
        refine WJ_tp 14 rfl (Rd_ext1 rfl) rfl (hp _ _) ?_
        refine WJ_all (rs := [15]) (by kernel_rfl) rfl ?_
        refine WI_one ?_
        refine WI_ac rfl (Ac_alloc zr45) rfl rfl rfl rfl ?_
        rintro _ _ ⟨b14, rfl, rfl⟩
        refine ⟨(fun _ => subA), ?_⟩
        refine WJ_all (rs := [16]) (by kernel_rfl) rfl ?_
        refine WI_one ?_
        refine WI_ac0 rfl (Ac_store (ys := [.int .u8 rp.kind, gr2.nv, gr2.bv]) rfl rfl sz45 (h1 := by simp [RpG.v, setAt, Value.cells, Value.oneCell', gr2.hn.val, gr2.hb.val]) (hr := rfl)) rfl rfl rfl ?_
        rintro _ _ rfl
        refine ⟨(fun h => by cases h), ?_⟩
        refine WJ_tp 17 rfl (Rd_assign rfl) rfl (hp _ _) ?_
        refine WJ_done (by kernel_rfl) ?_
        refine Ps_next hK29 ?_
        refine WC_sr fun K30 hK30 => ?_
        refine WL_r (Rd_move rfl) rfl ?_
        refine WL_r (Rd_move rfl) rfl ?_
        refine WL_r (Rd_valE (v := .bool false) (Rd_neq rfl rfl) (by simp)) rfl ?_
        refine WL_r (Rd_move rfl) rfl ?_
        refine WL_r (Rd_loadg (vs := [.int .u8 rp.kind, gr1.nv, gr1.bv]) rfl tk45) rfl ?_
        refine WL_r (Rd_loadg (vs := [.int .u8 rp.kind, gr2.nv, gr2.bv]) rfl tk45) rfl ?_
        refine WL_ac (Ac_call cf11 rfl (hs := sameRp_ct (rp := rp) (g := gr1) (g' := gr2) (by omega) (by omega))) rfl rfl rfl ?_
        rintro _ _ ⟨⟨⟩, rfl, hA⟩
        simp only [List.cons_append, List.nil_append] at hA
        replace hA := hA.symm
        subst hA
        refine WL_r (Rd_not rfl) rfl ?_
        refine WL_r (Rd_pickF rfl rfl) rfl ?_
        refine WL_r (Rd_move rfl) rfl ?_
        refine WL_r (Rd_move rfl) rfl ?_
        refine WL_ac (Ac_call cf15 rfl (hs := stateA_ct (b := b1) (room := room) (s := s2) hw2 (by omega))) rfl rfl rfl ?_
        rintro _ _ ⟨g3, rfl, hA⟩
        simp only [List.cons_append, List.nil_append] at hA
        replace hA := hA.symm
        subst hA
        refine WL_r (Rd_move rfl) rfl ?_
        refine WL_ac (Ac_call cf15 rfl (hs := stateA_ct (b := b2) (room := room) (s := s2) hw2 (by omega))) rfl rfl rfl ?_
        rintro _ _ ⟨g4, rfl, hA⟩
        simp only [List.cons_append, List.nil_append] at hA
        replace hA := hA.symm
        subst hA
        refine WL_ac (Ac_call cf14 rfl (hs := sameG_ct (room := room) (tick := s2.tick) g3 g4 (by omega) hw2)) rfl rfl rfl ?_
        rintro _ _ ⟨⟨⟩, rfl, hA⟩
        simp only [List.cons_append, List.nil_append] at hA
        replace hA := hA.symm
        subst hA
        refine WL_r (Rd_not rfl) rfl ?_
        refine WL_r (Rd_pickF rfl rfl) rfl ?_
        refine WL_end hK30 ?_
        refine WC_condF rfl ?_
        refine WC_skip ?_
        refine Ps_next hK22 ?_
        refine WC_region ?_
        refine WL_r (Rd_move rfl) rfl ?_
        refine WL_r (Rd_addN (j := 1) rfl rfl) rfl ?_
        refine WL_r (Rd_assign rfl) rfl ?_
        refine WL_nil ?_
        refine Ps_wkA (hK19 ⟨j + 1, s2⟩ (⟨by (try dsimp only); omega, hw2, by (try dsimp only); omega⟩) (by (try dsimp only); omega))
       ·skip
        refine WI_ac rfl (Ac_alloc zr45) rfl rfl rfl rfl ?_
        rintro _ _ ⟨b14, rfl, rfl⟩
        refine ⟨(fun _ => subA), ?_⟩
        refine WJ_all (rs := [11]) (by kernel_rfl) rfl ?_
        refine WI_one ?_
        refine WI_ac rfl (Ac_call cf10 rfl (hs := doA_ct (b := b2) (room := room) (t := a.at_) (s := z) (s2 := s2) (r := a.r) (Y := X) (rp := rp) (er := er) hw haB (by omega) hc)) rfl rfl rfl rfl ?_
        rintro _ _ ⟨gr2, rfl, hA⟩
        simp only [List.cons_append, List.nil_append] at hA
        replace hA := hA.symm
        subst hA
        refine ⟨(fun h => by cases h), ?_⟩
        refine WJ_tp 12 rfl (Rd_move rfl) rfl (hp _ _) ?_
        refine WJ_tp 13 rfl (Rd_ext0 rfl) rfl (hp _ _) ?_
        refine WJ_tp 14 rfl (Rd_ext1 rfl) rfl (hp _ _) ?_
        refine WJ_all (rs := [16]) (by kernel_rfl) rfl ?_
        refine WI_one ?_
        refine WI_ac0 rfl (Ac_store (ys := [.int .u8 rp.kind, gr2.nv, gr2.bv]) rfl rfl sz45 (h1 := by simp [RpG.v, setAt, Value.cells, Value.oneCell', gr2.hn.val, gr2.hb.val]) (hr := rfl)) rfl rfl rfl ?_
        rintro _ _ rfl
        refine ⟨(fun h => by cases h), ?_⟩
        refine WJ_tp 17 rfl (Rd_assign rfl) rfl (hp _ _) ?_
        refine WJ_done (by kernel_rfl) ?_
        refine Ps_next hK29 ?_
        refine WC_sr fun K31 hK31 => ?_
        refine WL_r (Rd_move rfl) rfl ?_
        refine WL_r (Rd_move rfl) rfl ?_
        refine WL_r (Rd_valE (v := .bool false) (Rd_neq rfl rfl) (by simp)) rfl ?_
        refine WL_r (Rd_move rfl) rfl ?_
        refine WL_r (Rd_loadg (vs := [.int .u8 rp.kind, gr1.nv, gr1.bv]) rfl tk45) rfl ?_
        refine WL_r (Rd_loadg (vs := [.int .u8 rp.kind, gr2.nv, gr2.bv]) rfl tk45) rfl ?_
        refine WL_ac (Ac_call cf11 rfl (hs := sameRp_ct (rp := rp) (g := gr1) (g' := gr2) (by omega) (by omega))) rfl rfl rfl ?_
        rintro _ _ ⟨⟨⟩, rfl, hA⟩
        simp only [List.cons_append, List.nil_append] at hA
        replace hA := hA.symm
        subst hA
        refine WL_r (Rd_not rfl) rfl ?_
        refine WL_r (Rd_pickF rfl rfl) rfl ?_
        refine WL_r (Rd_move rfl) rfl ?_
        refine WL_r (Rd_move rfl) rfl ?_
        refine WL_ac (Ac_call cf15 rfl (hs := stateA_ct (b := b1) (room := room) (s := s2) hw2 (by omega))) rfl rfl rfl ?_
        rintro _ _ ⟨g3, rfl, hA⟩
        simp only [List.cons_append, List.nil_append] at hA
        replace hA := hA.symm
        subst hA
        refine WL_r (Rd_move rfl) rfl ?_
        refine WL_ac (Ac_call cf15 rfl (hs := stateA_ct (b := b2) (room := room) (s := s2) hw2 (by omega))) rfl rfl rfl ?_
        rintro _ _ ⟨g4, rfl, hA⟩
        simp only [List.cons_append, List.nil_append] at hA
        replace hA := hA.symm
        subst hA
        refine WL_ac (Ac_call cf14 rfl (hs := sameG_ct (room := room) (tick := s2.tick) g3 g4 (by omega) hw2)) rfl rfl rfl ?_
        rintro _ _ ⟨⟨⟩, rfl, hA⟩
        simp only [List.cons_append, List.nil_append] at hA
        replace hA := hA.symm
        subst hA
        refine WL_r (Rd_not rfl) rfl ?_
        refine WL_r (Rd_pickF rfl rfl) rfl ?_
        refine WL_end hK31 ?_
        refine WC_condF rfl ?_
        refine WC_skip ?_
        refine Ps_next hK22 ?_
        refine WC_region ?_
        refine WL_r (Rd_move rfl) rfl ?_
        refine WL_r (Rd_addN (j := 1) rfl rfl) rfl ?_
        refine WL_r (Rd_assign rfl) rfl ?_
        refine WL_nil ?_
        refine Ps_wkA (hK19 ⟨j + 1, s2⟩ (⟨by (try dsimp only); omega, hw2, by (try dsimp only); omega⟩) (by (try dsimp only); omega))
    ·try simp only [dz, ne_eq] at hc5
     refine WC_exit ?_
     refine Ps_next hK17 ?_
     refine WC_sr fun K32 hK32 => ?_
     refine WL_r (Rd_assign rfl) rfl ?_
     refine WL_end hK32 ?_
     refine WC_ret ?_
     exact hret.go () (Rs1 rfl rfl)
end Go.Proofs.Ytoakfknnaiapiaa
