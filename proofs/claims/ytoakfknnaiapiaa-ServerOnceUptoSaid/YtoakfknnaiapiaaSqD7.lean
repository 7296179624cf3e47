/-
  Contracts of functions that the claim reaches, or the logic and the plain laws that they rest on, or the row over them. (Conditions: none beyond the statement.)
-/
import Derived.Test.YtoakfknnaiapiaaSqD6
set_option linter.all false
namespace Go.Proofs.Ytoakfknnaiapiaa
open Go.RowKit Go.SL Go.ShM Go.SvM
set_option maxHeartbeats 1000000
set_option maxRecDepth 20000
set_option linter.all false
theorem cf19 : cfn Try.prog 19 = true := by kernel_rfl
theorem cf21 : cfn Try.prog 21 = true := by kernel_rfl
theorem tk32 : tk Try.prog 32 = some (some 27) := by kernel_rfl
theorem zr32 : zr Try.prog 32 = some [.int .i64 0, .int .i64 0, .int .i64 0, .int .i64 0, .int .u8 0, .int .u8 0, .int .u8 0, .int .u8 0, .int .u8 0, .int .u8 0, .int .u8 0, .int .u8 0, .int .u8 0, .int .u8 0, .int .u8 0, .int .u8 0, .int .u8 0, .int .u8 0, .int .u8 0, .int .u8 0, .int .u8 0, .int .i64 0, .int .i64 0, .int .i64 0, .int .u32 0, .int .i64 0, .slice none 0 0] := by kernel_rfl
theorem once_no {X : Asn} {v : Value} {kvs : List KV} {ao : Option Addr} {cap : Nat} {room tick : Int} {w1 : Value} (hS : Sv [X] v 19 eKV kvs ao cap) (hOK : ∀ k ∈ kvs, OKv X k) (hn : kvs.length ≤ 2000000) (hlb : ∀ k ∈ kvs, k.ls.l.length ≤ 900000000000) (hwf : ¬ Wf room ⟨tick, (kvs.map KV.kp)⟩) : Ct Try.prog 4 [(.agg [.int .i64 room, .int .i64 tick, v].toArray), w1] [X] (fun _ : Unit => .bool true) (fun _ => [X]) := by
 refine Ct_body (n := 197) Try.func4 rfl rfl rfl fun F w0 Q hret hnorm hp => ?_
 change WC _ _ _ _ _ _ _ (_ :: F)
 refine WC_sr fun K1 hK1 => ?_
 refine WL_ac (Ac_box (xs := [.int .i64 room, .int .i64 tick, v]) rfl rfl) rfl rfl rfl ?_
 rintro _ _ ⟨b3, rfl, rfl⟩
 refine WL_r (Rd_assign rfl) rfl ?_
 refine WL_end hK1 ?_
 refine WC_seq fun K2 hK2 => ?_
 refine WC_sr fun K3 hK3 => ?_
 refine WL_ac (Ac_call cf17 rfl (hs := awake_ct)) rfl rfl rfl ?_
 rintro _ _ ⟨⟨⟩, rfl, hA⟩
 simp only [List.cons_append, List.nil_append] at hA
 replace hA := hA.symm
 subst hA
 refine WL_r (Rd_not rfl) rfl ?_
 refine WL_end hK3 ?_
 refine WC_condF rfl ?_
 refine WC_skip ?_
 refine Ps_next hK2 ?_
 refine WC_sr fun K4 hK4 => ?_
 refine WL_r (Rd_loadg (vs := [.int .i64 room, .int .i64 tick, v]) rfl tk54) rfl ?_
 refine WL_ac (Ac_call cf18 rfl (hs := loadA_no hS hOK (by omega) hlb hwf)) rfl rfl rfl ?_
 rintro _ _ ⟨⟨⟩, rfl, hA⟩
 simp only [List.cons_append, List.nil_append] at hA
 replace hA := hA.symm
 subst hA
 refine WL_r (Rd_move rfl) rfl ?_
 refine WL_r (Rd_ext0 rfl) rfl ?_
 refine WL_r (Rd_ext1 rfl) rfl ?_
 refine WL_r (Rd_assign rfl) rfl ?_
 refine WL_r (Rd_assign rfl) rfl ?_
 refine WL_end hK4 ?_
 refine WC_seq fun K5 hK5 => ?_
 refine WC_sr fun K6 hK6 => ?_
 refine WL_r (Rd_move rfl) rfl ?_
 refine WL_r (Rd_neqN (i := 192) (j := 0) rfl rfl) rfl ?_
 refine WL_end hK6 ?_
 refine WC_condT rfl ?_
 refine WC_sr fun K7 hK7 => ?_
 refine WL_r (Rd_move rfl) rfl ?_
 refine WL_r (Rd_peq rfl rfl ud33) rfl ?_
 refine WL_r (Rd_assign rfl) rfl ?_
 refine WL_end hK7 ?_
 refine WC_ret ?_
 exact hret.go () (Rs1 rfl rfl)

theorem once_ok {X : Asn} {v : Value} {kvs : List KV} {ao : Option Addr} {cap : Nat} {room tick : Int} {w1 : Value} {qs1 : List AcQ} {ao1 : Option Addr} {cap1 : Nat} (hS : Sv [X] v 19 eKV kvs ao cap) (hOK : ∀ k ∈ kvs, OKv X k) (hn : kvs.length ≤ 2000000) (hlb : ∀ k ∈ kvs, k.ls.l.length ≤ 900000000000) (hwf : Wf room ⟨tick, (kvs.map KV.kp)⟩) (hA1 : Sv [X] w1 27 eAct qs1 ao1 cap1) (hQ1 : ∀ a ∈ qs1, Sv [X] a.r.b.v 1 (eU .u8 (w := 8)) a.r.b.l a.r.b.ao a.r.b.cap) (hq1 : qs1.length ≤ 2000000) : Ct Try.prog 4 [(.agg [.int .i64 room, .int .i64 tick, v].toArray), w1] [X] (fun _ : Unit => .bool true) (fun _ => [X]) := by
 refine Ct_body (n := 197) Try.func4 rfl rfl rfl fun F w0 Q hret hnorm hp => ?_
 change WC _ _ _ _ _ _ _ (_ :: F)
 have hkl0 : (kvs.map KV.kp).length = kvs.length := List.length_map _
 refine WC_sr fun K1 hK1 => ?_
 refine WL_ac (Ac_box (xs := [.int .i64 room, .int .i64 tick, v]) rfl rfl) rfl rfl rfl ?_
 rintro _ _ ⟨b3, rfl, rfl⟩
 refine WL_r (Rd_assign rfl) rfl ?_
 refine WL_end hK1 ?_
 refine WC_seq fun K2 hK2 => ?_
 refine WC_sr fun K3 hK3 => ?_
 refine WL_ac (Ac_call cf17 rfl (hs := awake_ct)) rfl rfl rfl ?_
 rintro _ _ ⟨⟨⟩, rfl, hA⟩
 simp only [List.cons_append, List.nil_append] at hA
 replace hA := hA.symm
 subst hA
 refine WL_r (Rd_not rfl) rfl ?_
 refine WL_end hK3 ?_
 refine WC_condF rfl ?_
 refine WC_skip ?_
 refine Ps_next hK2 ?_
 refine WC_sr fun K4 hK4 => ?_
 refine WL_r (Rd_loadg (vs := [.int .i64 room, .int .i64 tick, v]) rfl tk54) rfl ?_
 refine WL_ac (Ac_call cf18 rfl (hs := loadA_ct hS hOK (by omega) hlb hwf)) rfl rfl rfl ?_
 rintro _ _ ⟨b1, rfl, hA⟩
 simp only [List.cons_append, List.nil_append] at hA
 replace hA := hA.symm
 subst hA
 refine WL_r (Rd_move rfl) rfl ?_
 refine WL_r (Rd_ext0 rfl) rfl ?_
 refine WL_r (Rd_ext1 rfl) rfl ?_
 refine WL_r (Rd_assign rfl) rfl ?_
 refine WL_r (Rd_assign rfl) rfl ?_
 refine WL_end hK4 ?_
 refine WC_seq fun K5 hK5 => ?_
 refine WC_sr fun K6 hK6 => ?_
 refine WL_r (Rd_move rfl) rfl ?_
 refine WL_r (Rd_neqN (i := 0) (j := 0) rfl rfl) rfl ?_
 refine WL_end hK6 ?_
 refine WC_condF rfl ?_
 refine WC_skip ?_
 refine Ps_next hK5 ?_
 refine WC_seq fun K7 hK7 => ?_
 refine WC_sr fun K8 hK8 => ?_
 refine WL_r (Rd_assign rfl) rfl ?_
 refine WL_end hK8 ?_
 refine WC_block ?_
 refine WC_loopK (σ := Nat × Sv1) (fun ⟨i, s⟩ => [(7, .int .i64 ((i : Nat) : Int))]) (fun ⟨i, s⟩ => [SvA 40 85 5 b1 room s]) (fun ⟨i, s⟩ => i ≤ qs1.length ∧ Wf room s ∧ s.l.length ≤ 2000000 + i) (fun ⟨i, s⟩ => qs1.length - i) ⟨0, ⟨tick, (kvs.map KV.kp)⟩⟩ [1, 5] kpA (by (try dsimp only); repeat (first | with_reducible exact Gv.nil | (with_reducible apply Gv.cons; · (repeat (first | with_reducible exact Ext.here | with_reducible apply Ext.there))))) ?_ ?_ Sub.refl ?_
 ·exact ⟨Nat.zero_le _, hwf, by (try dsimp only); omega⟩
 ·(try dsimp only); exact (Wk.cons lkA Wk.nil)
 ·rintro ⟨i, s⟩ ⟨hi, hw, hsl⟩ K9 hK9
  simp only [List.cons_append, List.nil_append]
  refine WC_seq fun K10 hK10 => ?_
  refine WC_sr fun K11 hK11 => ?_
  refine WL_r (Rd_move rfl) rfl ?_
  refine WL_r (Rd_move rfl) rfl ?_
  refine WL_r (Rd_len_sv rfl rfl ud60 (hA := hA1)) rfl ?_
  refine WL_r (Rd_lssN rfl rfl) rfl ?_
  refine WL_end hK11 ?_
  refine WC_cond rfl (fun hc2 => ?_) (fun hc2 => ?_)
  ·try simp only [dz, ne_eq] at hc2
   obtain ⟨a, ha⟩ : ∃ a, qs1[i]? = some a := ⟨_, List.getElem?_eq_getElem (by omega)⟩
   have haB := hQ1 a (List.mem_of_getElem? ha)
   refine WC_skip ?_
   refine Ps_next hK10 ?_
   refine WC_seq fun K12 hK12 => ?_
   refine WC_block ?_
   refine WC_sr fun K13 hK13 => ?_
   refine WL_r (Rd_move rfl) rfl ?_
   refine WL_r (Rd_move rfl) rfl ?_
   refine WL_r (Rd_index_sv i rfl rfl ud60 sz32 (hA := hA1) (hi := by omega)) rfl ?_
   refine WL_r (Rd_loadg_sv (f := eAct) (i := i) (y := a) rfl tk32 (hA := hA1) (hl := ha)) rfl ?_
   refine WL_ac (Ac_alloc zr32) rfl rfl rfl ?_
   rintro _ _ ⟨b8, rfl, rfl⟩
   refine WL_ac0 (Ac_store (ys := eAct a) rfl rfl sz32 (h1 := by simpa [Value.cells] using encAct.one a) (hv := by simpa [Value.cells] using encAct.len a) (hr := by simp [Value.cells])) rfl rfl ?_
   rintro _ _ rfl
   refine WL_end hK13 ?_
   refine WC_seq fun K14 hK14 => ?_
   refine WC_sr fun K15 hK15 => ?_
   refine WL_r (Rd_fieldAddr rfl fo32_4) rfl ?_
   refine WL_r (Rd_fieldAddr rfl fo30_6) rfl ?_
   refine WL_r (Rd_load rfl tk28 (v := a.r.b.v) (hi := eAct_b a)) rfl ?_
   refine WL_r (Rd_len_sv rfl rfl ud28 (hA := haB)) rfl ?_
   refine WL_r (Rd_gtrN (j := 5000) rfl rfl) rfl ?_
   refine WL_end hK15 ?_
   refine WC_cond rfl (fun hc3 => ?_) (fun hc3 => ?_)
   ·try simp only [dz, ne_eq] at hc3
    refine WC_exit ?_
    refine Ps_next hK12 ?_
    refine WC_region ?_
    refine WL_r (Rd_move rfl) rfl ?_
    refine WL_r (Rd_addN (j := 1) rfl rfl) rfl ?_
    refine WL_r (Rd_assign rfl) rfl ?_
    refine WL_nil ?_
    refine Ps_wkA (hK9 ⟨i + 1, s⟩ (⟨by (try dsimp only); omega, hw, by (try dsimp only); omega⟩) (by (try dsimp only); omega))
   ·try simp only [dz, ne_eq] at hc3
    obtain ⟨⟨rp, er, s2⟩, hc⟩ : ∃ q, callM room s a.at_ a.r = q := ⟨_, rfl⟩
    have hw2 := hw.call_eq hc
    have hl2 := len_call_eq hc
    have hrl := reply_len hw hc
    have hcon := call_on hw hc
    refine WC_skip ?_
    refine Ps_next hK14 ?_
    refine WC_sr fun K16 hK16 => ?_
    refine WL_r (Rd_move rfl) rfl ?_
    refine WL_ac (Ac_call cf15 rfl (hs := stateA_ct (b := b1) (room := room) (s := s) hw (by omega))) rfl rfl rfl ?_
    rintro _ _ ⟨g1, rfl, hA⟩
    simp only [List.cons_append, List.nil_append] at hA
    replace hA := hA.symm
    subst hA
    refine WL_ac (Ac_alloc zr54) rfl rfl rfl ?_
    rintro _ _ ⟨b9, rfl, rfl⟩
    refine WL_ac0 (Ac_store (ys := [.int .i64 room, .int .i64 s.tick, g1.v]) rfl rfl sz54 (h1 := by simp [setAt, Value.cells, Value.oneCell', g1.sv.val]) (hr := rfl)) rfl rfl ?_
    rintro _ _ rfl
    refine WL_end hK16 ?_
    refine WC_sr fun K17 hK17 => ?_
    refine WL_r (Rd_move rfl) rfl ?_
    refine WL_r (Rd_fieldAddr rfl fo32_2) rfl ?_
    refine WL_r (Rd_load rfl tk3 (v := .int .i64 a.at_) (hi := eAct_at a)) rfl ?_
    refine WL_r (Rd_fieldAddr rfl fo32_4) rfl ?_
    refine WL_r (Rd_loadg (vs := eRq a.r) rfl tk30 (hl := by rw [eAct_len]; omega) (hi := eAct_rq a)) rfl ?_
    refine WL_ac (Ac_call cf10 rfl (hs := doA_ct (b := b1) (room := room) (t := a.at_) (s := s) (s2 := s2) (r := a.r) (Y := X) (rp := rp) (er := er) hw haB (by omega) hc)) rfl rfl rfl ?_
    rintro _ _ ⟨gr, rfl, hA⟩
    simp only [List.cons_append, List.nil_append] at hA
    replace hA := hA.symm
    subst hA
    refine WL_r (Rd_move rfl) rfl ?_
    refine WL_r (Rd_ext0 rfl) rfl ?_
    refine WL_r (Rd_ext1 rfl) rfl ?_
    refine WL_ac (Ac_alloc zr45) rfl rfl rfl ?_
    rintro _ _ ⟨b10, rfl, rfl⟩
    refine WL_ac0 (Ac_store (ys := [.int .u8 rp.kind, gr.nv, gr.bv]) rfl rfl sz45 (h1 := by simp [RpG.v, setAt, Value.cells, Value.oneCell', gr.hn.val, gr.hb.val]) (hr := rfl)) rfl rfl ?_
    rintro _ _ rfl
    refine WL_r (Rd_assign rfl) rfl ?_
    refine WL_end hK17 ?_
    refine WC_sr fun K18 hK18 => ?_
    refine WL_r (Rd_move rfl) rfl ?_
    refine WL_ac (Ac_call cf15 rfl (hs := stateA_ct (b := b1) (room := room) (s := s2) hw2 (by omega))) rfl rfl rfl ?_
    rintro _ _ ⟨g2, rfl, hA⟩
    simp only [List.cons_append, List.nil_append] at hA
    replace hA := hA.symm
    subst hA
    refine WL_ac (Ac_alloc zr54) rfl rfl rfl ?_
    rintro _ _ ⟨b12, rfl, rfl⟩
    refine WL_ac0 (Ac_store (ys := [.int .i64 room, .int .i64 s2.tick, g2.v]) rfl rfl sz54 (h1 := by simp [setAt, Value.cells, Value.oneCell', g2.sv.val]) (hr := rfl)) rfl rfl ?_
    rintro _ _ rfl
    refine WL_end hK18 ?_
    refine WC_seq fun K19 hK19 => ?_
    refine WC_seq fun K20 hK20 => ?_
    refine WC_meet (B0 := []) (σ := Unit) (fun _u => [(81, .bool false)]) (fun _u => []) (fun _u => True) [1, 4, 5, 7, 8, 9, 10, 11, 12, 13, 14, 15, 16, 17, 18, 19, 20, 32, 33, 34, 35, 36, 37, 38, 39, 40, 41, 42, 43, 44, 45, 46, 47, 48, 49, 50, 51, 52, 53, 54, 55, 56, 57, 58, 59, 82, 83, 84, 85, 86, 87, 88, 89, 90, 91, 92, 93, 94, 95, 96, 97, 98, 99, 100, 101, 102, 103, 104, 105, 106, 107, 108, 109, 110, 111, 112, 113, 114, 115, 116, 117, 118, 119, 120, 121, 122, 123, 124, 125, 126, 127, 128, 129, 130, 131, 132, 133, 134, 135, 136, 137, 138, 139, 140, 141, 142, 143, 144, 145, 146, 147, 148, 149, 150, 151, 152, 153, 154, 155, 156, 157, 158, 159, 160, 161, 162, 163, 164, 165, 166, 167, 168, 169, 170, 171, 172, 173, 174, 175, 176, 177, 178, 179, 180, 181, 182, 183, 184, 185, 186, 187, 188, 189, 190, 191, 192, 193, 194, 195, 196] kpA (by (try dsimp only); repeat (first | with_reducible exact Gv.nil | (with_reducible apply Gv.cons; · (repeat (first | with_reducible exact Ext.here | with_reducible apply Ext.there))))) ?_ ?_
    ·intro hK21
     refine WC_drawA mix (fun i => ([2, 2, 2, 2, 2, 2, 2, 1, 2, 2, 2, 2, 2, 2, 2, 2, 2, 2, 1, 2, 2, 2] : List Nat).getD i 0) ?_
     refine WJ_tp 0 rfl (Rd_fieldAddr rfl fo54_0) rfl (hp _ _) ?_
     refine WJ_tk 1 (Rd_load rfl tk3 (v := .int .i64 room)) hp ?_ rfl (by kernel_rfl) rfl rfl rfl
     refine WJ_tp 2 rfl (Rd_fieldAddr rfl fo54_0) rfl (hp _ _) ?_
     refine WJ_tk 3 (Rd_load rfl tk3 (v := .int .i64 room)) hp ?_ rfl (by kernel_rfl) rfl rfl rfl
     refine WJ_tp 4 rfl (Rd_valE (v := .bool false) (Rd_neq rfl rfl) (by simp)) rfl (hp _ _) ?_
     refine WJ_tp 5 rfl (Rd_move rfl) rfl (hp _ _) ?_
     refine WJ_tp 6 rfl (Rd_move rfl) rfl (hp _ _) ?_
     refine WJ_tp 8 rfl (Rd_fieldAddr rfl fo54_0) rfl (hp _ _) ?_
     refine WJ_tk 9 (Rd_load rfl tk3 (v := .int .i64 room)) hp ?_ rfl (by kernel_rfl) rfl rfl rfl
     refine WJ_all (rs := [7]) (by kernel_rfl) rfl ?_
     refine WI_one ?_
     refine WI_ac rfl (Ac_call cf13 rfl (hs := usedA_ct (b := b1) (room := room) (s := s2))) rfl rfl rfl rfl ?_
     rintro _ _ ⟨⟨⟩, rfl, hA⟩
     simp only [List.cons_append, List.nil_append] at hA
     replace hA := hA.symm
     subst hA
     refine ⟨(fun _ => subA), ?_⟩
     refine WJ_tp 10 rfl (Rd_valE (v := .bool false) (Rd_gtr rfl rfl) (by have q := hw2.used; simp only [Value.bool.injEq, decide_eq_false_iff_not]; omega)) rfl (hp _ _) ?_
     refine WJ_tp 11 rfl (Rd_pickF rfl rfl) rfl (hp _ _) ?_
     refine WJ_tp 12 rfl (Rd_move rfl) rfl (hp _ _) ?_
     refine WJ_tp 13 rfl (Rd_move rfl) rfl (hp _ _) ?_
     refine WJ_tp 14 rfl (Rd_neq rfl rfl) rfl (hp _ _) ?_
     refine WJ_tp 15 rfl (Rd_move rfl) rfl (hp _ _) ?_
     refine WJ_bool 75 rfl (fun hg22 => ?_) (fun hg22 => ?_)
     ·try simp only [dz, ne_eq] at hg22
      have hss := hcon.2 hg22
      refine WJ_tk 16 (Rd_loadg (vs := [.int .i64 room, .int .i64 s2.tick, g2.v]) rfl tk54) hp ?_ rfl (by kernel_rfl) rfl rfl rfl
      refine WJ_tk 17 (Rd_loadg (vs := [.int .i64 room, .int .i64 s.tick, g1.v]) rfl tk54) hp ?_ rfl (by kernel_rfl) rfl rfl rfl
      refine WJ_all (rs := [18]) (by kernel_rfl) rfl ?_
      refine WI_one ?_
      refine WI_ac rfl (Ac_call cf14 rfl (hs := sameG2_ct (room := room) g2 g1 hss (by omega) hw2)) rfl rfl rfl rfl ?_
      rintro _ _ ⟨⟨⟩, rfl, hA⟩
      simp only [List.cons_append, List.nil_append] at hA
      replace hA := hA.symm
      subst hA
      refine ⟨(fun _ => subA), ?_⟩
      refine WJ_tp 19 rfl (Rd_not rfl) rfl (hp _ _) ?_
      refine WJ_tp 20 rfl (Rd_pickT rfl rfl) rfl (hp _ _) ?_
      refine WJ_tp 21 rfl (Rd_pickF rfl rfl) rfl (hp _ _) ?_
      refine WJ_done (by kernel_rfl) ?_
      refine Ps_wkA (hK21 (()) (trivial))
     ·try simp only [dz, ne_eq] at hg22
      refine WJ_skip 16 rfl (by kernel_rfl) rfl rfl rfl (hp _ _) ?_
      refine WJ_skip 17 rfl (by kernel_rfl) rfl rfl rfl (hp _ _) ?_
      refine WJ_all (rs := [18]) (by kernel_rfl) rfl ?_
      refine WI_one ?_
      refine WI_skip rfl rfl rfl rfl (fun _ => subA) ?_
      refine WJ_skip 19 rfl (by kernel_rfl) rfl rfl rfl (hp _ _) ?_
      refine WJ_tp 20 rfl (Rd_pickF rfl rfl) rfl (hp _ _) ?_
      refine WJ_tp 21 rfl (Rd_pickF rfl rfl) rfl (hp _ _) ?_
      refine WJ_done (by kernel_rfl) ?_
      refine Ps_wkA (hK21 (()) (trivial))
    ·rintro _u -
     simp only [List.cons_append, List.nil_append]
     refine Ps_next hK20 ?_
     refine WC_condF rfl ?_
     have hg1l : g1.kvs.length = s.l.length := by have q := congrArg List.length g1.eq; rw [List.length_map] at q; exact q
     have hg2l : g2.kvs.length = s2.l.length := by have q := congrArg List.length g2.eq; rw [List.length_map] at q; exact q
     refine WC_skip ?_
     refine Ps_next hK19 ?_
     refine WC_seq fun K23 hK23 => ?_
     refine WC_sr fun K24 hK24 => ?_
     refine WL_r (Rd_assign rfl) rfl ?_
     refine WL_end hK24 ?_
     refine WC_block ?_
     refine WC_loopK (σ := Nat) (fun k => [(13, .int .i64 ((k : Nat) : Int))]) (fun k => []) (fun k => k ≤ g1.kvs.length) (fun k => g1.kvs.length - k) (0) [1, 5, 7, 8, 9, 10, 11, 12, 18, 19, 20, 32, 33, 34, 35, 36, 37, 38, 39, 40, 41, 42, 43, 44, 45, 46, 47, 48, 49, 50, 51, 52, 53, 54, 55, 56, 57, 58, 59, 60, 61, 62, 63, 64, 65, 66, 67, 68, 69, 70, 71, 72, 73, 74, 75, 76, 77, 78, 79, 80, 81, 146, 147, 148, 149, 150, 151, 152, 153, 154, 155, 156, 157, 158, 159, 160, 161, 162, 163, 164, 165, 166, 167, 168, 169, 170, 171, 172, 173, 174, 175, 176, 177, 178, 179, 180, 181, 182, 183, 184, 185, 186, 187, 188, 189, 190, 191, 192, 193, 194, 195, 196] kpA (by (try dsimp only); repeat (first | with_reducible exact Gv.nil | (with_reducible apply Gv.cons; · (repeat (first | with_reducible exact Ext.here | with_reducible apply Ext.there))))) ?_ ?_ Sub.refl ?_
     ·exact Nat.zero_le _
     ·(try dsimp only); exact (Wk.cons lkA Wk.nil)
     ·rintro k hk K25 hK25
      simp only [List.cons_append, List.nil_append]
      refine WC_seq fun K26 hK26 => ?_
      refine WC_sr fun K27 hK27 => ?_
      refine WL_r (Rd_move rfl) rfl ?_
      refine WL_r (Rd_fieldAddr rfl fo54_2) rfl ?_
      refine WL_r (Rd_load rfl tk52 (v := g1.v)) rfl ?_
      refine WL_r (Rd_len_sv rfl rfl ud52 (hA := g1.sv)) rfl ?_
      refine WL_r (Rd_lssN rfl rfl) rfl ?_
      refine WL_end hK27 ?_
      refine WC_cond rfl (fun hc5 => ?_) (fun hc5 => ?_)
      ·try simp only [dz, ne_eq] at hc5
       obtain ⟨x, hx⟩ : ∃ x, g1.kvs[k]? = some x := ⟨_, List.getElem?_eq_getElem (by omega)⟩
       have hxm := List.mem_of_getElem? hx
       have hxO := g1.ok x hxm
       refine WC_skip ?_
       refine Ps_next hK26 ?_
       refine WC_seq fun K28 hK28 => ?_
       refine WC_block ?_
       refine WC_sr fun K29 hK29 => ?_
       refine WL_r (Rd_fieldAddr rfl fo54_2) rfl ?_
       refine WL_r (Rd_load rfl tk52 (v := g1.v)) rfl ?_
       refine WL_r (Rd_move rfl) rfl ?_
       refine WL_r (Rd_index_sv k rfl rfl ud52 sz65 (hA := g1.sv) (hi := by omega)) rfl ?_
       refine WL_r (Rd_loadg_sv (f := eKV) (i := k) (y := x) rfl tk65 (hA := g1.sv) (hl := hx)) rfl ?_
       refine WL_ac (Ac_alloc zr65) rfl rfl rfl ?_
       rintro _ _ ⟨b14, rfl, rfl⟩
       refine WL_ac0 (Ac_store (ys := eKV x) rfl rfl sz65 (h1 := by simpa [Value.cells] using encKV.one x) (hv := by simpa [Value.cells] using encKV.len x) (hr := by simp [Value.cells])) rfl rfl ?_
       rintro _ _ rfl
       refine WL_end hK29 ?_
       refine WC_sr fun K30 hK30 => ?_
       refine WL_r (Rd_loadg (vs := [.int .i64 room, .int .i64 s2.tick, g2.v]) rfl tk54) rfl ?_
       refine WL_r (Rd_fieldAddr rfl fo65_0) rfl ?_
       refine WL_r (Rd_loadg (vs := x.ix.l.flatMap (eU .u8)) rfl tk24 (hl := by rw [eKV_len]; omega) (hi := eKV_ix x)) rfl ?_
       refine WL_r (Rd_fieldAddr rfl fo65_1) rfl ?_
       refine WL_r (Rd_load rfl tk3 (v := .int .i64 x.num) (hi := eKV_num x)) rfl ?_
       refine WL_ac (Ac_call cf19 rfl (hs := kept_ct (X := g2.X) (room := room) (tick := s2.tick) (ix := x.ix) (n := x.num) g2.sv (by omega))) rfl rfl rfl ?_
       rintro _ _ (⟨⟨_ | y, hf⟩, rfl, hA⟩)
       ·skip
        simp only [List.cons_append, List.nil_append] at hA
        replace hA := hA.symm
        subst hA
        dsimp only
        (try dsimp only at hf)
        have hgone : runB x.ls.l s2.tick = true → a.r.kind = 5#8 ∧ a.r.ix = x.ix := once_gone hcon.1 g1.eq g2.eq hxm hf
        refine WL_r (Rd_move rfl) rfl ?_
        refine WL_r (Rd_ext0 rfl) rfl ?_
        refine WL_r (Rd_ext1 rfl) rfl ?_
        refine WL_ac (Ac_alloc zr65) rfl rfl rfl ?_
        rintro _ _ ⟨b15, rfl, rfl⟩
        refine WL_ac0 (Ac_store (ys := kvO none) rfl rfl sz65 (h1 := by simpa [Value.cells] using kvO_one none) (hv := by simpa [Value.cells] using kvO_len none) (hr := by simp [Value.cells])) rfl rfl ?_
        rintro _ _ rfl
        refine WL_r (Rd_assign rfl) rfl ?_
        refine WL_end hK30 ?_
        refine WC_seq fun K31 hK31 => ?_
        refine WC_sr fun K32 hK32 => ?_
        refine WL_r (Rd_move rfl) rfl ?_
        refine WL_r (Rd_move rfl) rfl ?_
        refine WL_skip rfl rfl rfl ?_
        refine WL_skip rfl rfl rfl ?_
        refine WL_skip rfl rfl rfl ?_
        refine WL_skip rfl rfl rfl ?_
        refine WL_skip rfl rfl rfl ?_
        refine WL_skip rfl rfl rfl ?_
        refine WL_r (Rd_pickF rfl rfl) rfl ?_
        refine WL_end hK32 ?_
        refine WC_condF rfl ?_
        refine WC_skip ?_
        refine Ps_next hK31 ?_
        refine WC_sr fun K33 hK33 => ?_
        refine WL_r (Rd_fieldAddr rfl fo32_4) rfl ?_
        refine WL_r (Rd_fieldAddr rfl fo30_0) rfl ?_
        refine WL_r (Rd_load rfl tk22 (v := .int .u8 ((a.r.kind.toNat : Nat) : Int)) (hi := eAct_kind a)) rfl ?_
        refine WL_r (Rd_eqlU (b := 5#8) rfl rfl) rfl ?_
        refine WL_r (Rd_move rfl) rfl ?_
        refine WL_bool 126 rfl (fun hg34 => ?_) (fun hg34 => ?_)
        ·try simp only [dz, ne_eq] at hg34
         refine WL_r (Rd_fieldAddr rfl fo32_4) rfl ?_
         refine WL_r (Rd_fieldAddr rfl fo30_1) rfl ?_
         refine WL_r (Rd_loadg (vs := a.r.ix.l.flatMap (eU .u8)) rfl tk24 (hl := by rw [eAct_len]; omega) (hi := eAct_ix a)) rfl ?_
         refine WL_r (Rd_fieldAddr rfl fo65_0) rfl ?_
         refine WL_r (Rd_loadg (vs := x.ix.l.flatMap (eU .u8)) rfl tk24 (hl := by rw [eKV_len]; omega) (hi := eKV_ix x)) rfl ?_
         refine WL_r (Rd_eqW rfl rfl ais24 a.r.ix.h x.ix.h) rfl ?_
         refine WL_r (Rd_pickT rfl rfl) rfl ?_
         refine WL_r (Rd_assign rfl) rfl ?_
         refine WL_end hK33 ?_
         refine WC_sr fun K35 hK35 => ?_
         refine WL_r (Rd_move rfl) rfl ?_
         refine WL_r (Rd_not rfl) rfl ?_
         refine WL_r (Rd_move rfl) rfl ?_
         refine WL_r (Rd_loadg (vs := eKV x) rfl tk65 (hl := by rw [eKV_len]; omega) (hi := eKV_all x)) rfl ?_
         refine WL_r (Rd_fieldAddr rfl fo54_1) rfl ?_
         refine WL_r (Rd_load rfl tk3 (v := .int .i64 s2.tick)) rfl ?_
         refine WL_ac (Ac_call cf21 rfl (hs := runsL_ct (X := g1.X) (k := x) (t := s2.tick) hxO.2 (hw.lsl g1.eq x hxm))) rfl rfl rfl ?_
         rintro _ _ ⟨⟨⟩, rfl, hA⟩
         simp only [List.cons_append, List.nil_append] at hA
         replace hA := hA.symm
         subst hA
         refine WL_r (Rd_pickT rfl rfl) rfl ?_
         refine WL_r (Rd_move rfl) rfl ?_
         refine WL_bool 142 rfl (fun hg36 => ?_) (fun hg36 => ?_)
         ·try simp only [dz, ne_eq] at hg36
          refine WL_r (Rd_move rfl) rfl ?_
          refine WL_r (Rd_not rfl) rfl ?_
          refine WL_r (Rd_pickT rfl rfl) rfl ?_
          refine WL_end hK35 ?_
          refine WC_cond rfl (fun hc8 => ?_) (fun hc8 => ?_)
          ·try simp only [dz, ne_eq] at hc8
           first | exact absurd (hgone (by assumption)).1 (by assumption) | exact absurd (congrArg Ix.l (hgone (by assumption)).2) (by assumption)
          ·try simp only [dz, ne_eq] at hc8
           refine WC_skip ?_
           refine Ps_next hK28 ?_
           refine WC_region ?_
           refine WL_r (Rd_move rfl) rfl ?_
           refine WL_r (Rd_addN (j := 1) rfl rfl) rfl ?_
           refine WL_r (Rd_assign rfl) rfl ?_
           refine WL_nil ?_
           refine Ps_wkA (hK25 (k + 1) (by omega) (by omega))
         ·try simp only [dz, ne_eq] at hg36
          refine WL_skip rfl rfl rfl ?_
          refine WL_skip rfl rfl rfl ?_
          refine WL_r (Rd_pickF rfl rfl) rfl ?_
          refine WL_end hK35 ?_
          refine WC_condF rfl ?_
          refine WC_skip ?_
          refine Ps_next hK28 ?_
          refine WC_region ?_
          refine WL_r (Rd_move rfl) rfl ?_
          refine WL_r (Rd_addN (j := 1) rfl rfl) rfl ?_
          refine WL_r (Rd_assign rfl) rfl ?_
          refine WL_nil ?_
          refine Ps_wkA (hK25 (k + 1) (by omega) (by omega))
        ·try simp only [dz, ne_eq] at hg34
         refine WL_skip rfl rfl rfl ?_
         refine WL_skip rfl rfl rfl ?_
         refine WL_skip rfl rfl rfl ?_
         refine WL_skip rfl rfl rfl ?_
         refine WL_skip rfl rfl rfl ?_
         refine WL_skip rfl rfl rfl ?_
         refine WL_r (Rd_pickF rfl rfl) rfl ?_
         refine WL_r (Rd_assign rfl) rfl ?_
         refine WL_end hK33 ?_
         refine WC_sr fun K37 hK37 => ?_
         refine WL_r (Rd_move rfl) rfl ?_
         refine WL_r (Rd_not rfl) rfl ?_
         refine WL_r (Rd_move rfl) rfl ?_
         refine WL_r (Rd_loadg (vs := eKV x) rfl tk65 (hl := by rw [eKV_len]; omega) (hi := eKV_all x)) rfl ?_
         refine WL_r (Rd_fieldAddr rfl fo54_1) rfl ?_
         refine WL_r (Rd_load rfl tk3 (v := .int .i64 s2.tick)) rfl ?_
         refine WL_ac (Ac_call cf21 rfl (hs := runsL_ct (X := g1.X) (k := x) (t := s2.tick) hxO.2 (hw.lsl g1.eq x hxm))) rfl rfl rfl ?_
         rintro _ _ ⟨⟨⟩, rfl, hA⟩
         simp only [List.cons_append, List.nil_append] at hA
         replace hA := hA.symm
         subst hA
         refine WL_r (Rd_pickT rfl rfl) rfl ?_
         refine WL_r (Rd_move rfl) rfl ?_
         refine WL_bool 142 rfl (fun hg38 => ?_) (fun hg38 => ?_)
         ·try simp only [dz, ne_eq] at hg38
          refine WL_r (Rd_move rfl) rfl ?_
          refine WL_r (Rd_not rfl) rfl ?_
          refine WL_r (Rd_pickT rfl rfl) rfl ?_
          refine WL_end hK37 ?_
          refine WC_condT rfl ?_
          first | exact absurd (hgone (by assumption)).1 (by assumption) | exact absurd (congrArg Ix.l (hgone (by assumption)).2) (by assumption)
         ·try simp only [dz, ne_eq] at hg38
          refine WL_skip rfl rfl rfl ?_
          refine WL_skip rfl rfl rfl ?_
          refine WL_r (Rd_pickF rfl rfl) rfl ?_
          refine WL_end hK37 ?_
          refine WC_condF rfl ?_
          refine WC_skip ?_
          refine Ps_next hK28 ?_
          refine WC_region ?_
          refine WL_r (Rd_move rfl) rfl ?_
          refine WL_r (Rd_addN (j := 1) rfl rfl) rfl ?_
          refine WL_r (Rd_assign rfl) rfl ?_
          refine WL_nil ?_
          refine Ps_wkA (hK25 (k + 1) (by omega) (by omega))
       ·skip
        simp only [List.cons_append, List.nil_append] at hA
        replace hA := hA.symm
        subst hA
        dsimp only
        (try dsimp only at hf)
        have hyO := g2.ok y (findV_mem hf)
        refine WL_r (Rd_move rfl) rfl ?_
        refine WL_r (Rd_ext0 rfl) rfl ?_
        refine WL_r (Rd_ext1 rfl) rfl ?_
        refine WL_ac (Ac_alloc zr65) rfl rfl rfl ?_
        rintro _ _ ⟨b15, rfl, rfl⟩
        refine WL_ac0 (Ac_store (ys := eKV y) rfl rfl sz65 (h1 := by simpa [Value.cells, kvO] using encKV.one y) (hv := by simpa [Value.cells, kvO] using encKV.len y) (hr := by simp [Value.cells, kvO])) rfl rfl ?_
        rintro _ _ rfl
        refine WL_r (Rd_assign rfl) rfl ?_
        refine WL_end hK30 ?_
        refine WC_seq fun K39 hK39 => ?_
        refine WC_sr fun K40 hK40 => ?_
        refine WL_r (Rd_move rfl) rfl ?_
        refine WL_r (Rd_move rfl) rfl ?_
        refine WL_r (Rd_fieldAddr rfl fo65_2) rfl ?_
        refine WL_r (Rd_load rfl tk28 (v := x.b.v) (hi := eKV_b x)) rfl ?_
        refine WL_r (Rd_fieldAddr rfl fo65_2) rfl ?_
        refine WL_r (Rd_load rfl tk28 (v := y.b.v) (hi := eKV_b y)) rfl ?_
        refine WL_ac (Ac_call cf20 rfl (hs := Ct.un0 (Xs := [g1.X, g2.X]) (sameB_ct (X := sep [g1.X, g2.X]) (l := x.b.l) (l' := y.b.l) (hxO.1.pk Has.here) (hyO.1.pk (Has.there Has.here)) (hw.bl g1.eq x hxm)))) rfl rfl rfl ?_
        rintro _ _ ⟨⟨⟩, rfl, hA⟩
        simp only [List.cons_append, List.nil_append] at hA
        replace hA := hA.symm
        subst hA
        refine WL_r (Rd_not rfl) rfl ?_
        refine WL_r (Rd_pickT rfl rfl) rfl ?_
        refine WL_end hK40 ?_
        refine WC_cond rfl (fun hc6 => ?_) (fun hc6 => ?_)
        ·try simp only [dz, ne_eq] at hc6
         have hno := once_b hcon.1 g1.eq g2.eq hxm hf (by assumption)
         refine WC_sr fun K41 hK41 => ?_
         refine WL_r (Rd_loadg (vs := eKV x) rfl tk65 (hl := by rw [eKV_len]; omega) (hi := eKV_all x)) rfl ?_
         refine WL_r (Rd_fieldAddr rfl fo54_1) rfl ?_
         refine WL_r (Rd_load rfl tk3 (v := .int .i64 s2.tick)) rfl ?_
         refine WL_ac (Ac_call cf21 rfl (hs := runsL_ct (X := g1.X) (k := x) (t := s2.tick) hxO.2 (hw.lsl g1.eq x hxm))) rfl rfl rfl ?_
         rintro _ _ ⟨⟨⟩, rfl, hA⟩
         simp only [List.cons_append, List.nil_append] at hA
         replace hA := hA.symm
         subst hA
         refine WL_r (Rd_move rfl) rfl ?_
         refine WL_bool 116 rfl (fun hg42 => ?_) (fun hg42 => ?_)
         ·try simp only [dz, ne_eq] at hg42
          exact absurd hg42 (by rw [hno.1]; decide)
         ·try simp only [dz, ne_eq] at hg42
          refine WL_r (Rd_fieldAddr rfl fo32_4) rfl ?_
          refine WL_r (Rd_fieldAddr rfl fo30_0) rfl ?_
          refine WL_r (Rd_load rfl tk22 (v := .int .u8 ((a.r.kind.toNat : Nat) : Int)) (hi := eAct_kind a)) rfl ?_
          refine WL_r (Rd_neqU (b := 2#8) rfl rfl) rfl ?_
          refine WL_r (Rd_pickF rfl rfl) rfl ?_
          refine WL_end hK41 ?_
          refine WC_cond rfl (fun hc7 => ?_) (fun hc7 => ?_)
          ·try simp only [dz, ne_eq] at hc7
           exact absurd hno.2 hc7
          ·try simp only [dz, ne_eq] at hc7
           refine WC_skip ?_
           refine Ps_next hK39 ?_
           refine WC_sr fun K43 hK43 => ?_
           refine WL_r (Rd_fieldAddr rfl fo32_4) rfl ?_
           refine WL_r (Rd_fieldAddr rfl fo30_0) rfl ?_
           refine WL_r (Rd_load rfl tk22 (v := .int .u8 ((a.r.kind.toNat : Nat) : Int)) (hi := eAct_kind a)) rfl ?_
           refine WL_r (Rd_eqlU (b := 5#8) rfl rfl) rfl ?_
           refine WL_r (Rd_move rfl) rfl ?_
           refine WL_bool 126 rfl (fun hg44 => ?_) (fun hg44 => ?_)
           ·try simp only [dz, ne_eq] at hg44
            refine WL_r (Rd_fieldAddr rfl fo32_4) rfl ?_
            refine WL_r (Rd_fieldAddr rfl fo30_1) rfl ?_
            refine WL_r (Rd_loadg (vs := a.r.ix.l.flatMap (eU .u8)) rfl tk24 (hl := by rw [eAct_len]; omega) (hi := eAct_ix a)) rfl ?_
            refine WL_r (Rd_fieldAddr rfl fo65_0) rfl ?_
            refine WL_r (Rd_loadg (vs := x.ix.l.flatMap (eU .u8)) rfl tk24 (hl := by rw [eKV_len]; omega) (hi := eKV_ix x)) rfl ?_
            refine WL_r (Rd_eqW rfl rfl ais24 a.r.ix.h x.ix.h) rfl ?_
            refine WL_r (Rd_pickT rfl rfl) rfl ?_
            refine WL_r (Rd_assign rfl) rfl ?_
            refine WL_end hK43 ?_
            refine WC_sr fun K45 hK45 => ?_
            refine WL_r (Rd_move rfl) rfl ?_
            refine WL_r (Rd_not rfl) rfl ?_
            refine WL_r (Rd_move rfl) rfl ?_
            refine WL_skip rfl rfl rfl ?_
            refine WL_skip rfl rfl rfl ?_
            refine WL_skip rfl rfl rfl ?_
            refine WL_skip rfl rfl rfl ?_
            refine WL_r (Rd_pickF rfl rfl) rfl ?_
            refine WL_r (Rd_move rfl) rfl ?_
            refine WL_skip rfl rfl rfl ?_
            refine WL_skip rfl rfl rfl ?_
            refine WL_r (Rd_pickF rfl rfl) rfl ?_
            refine WL_end hK45 ?_
            refine WC_condF rfl ?_
            refine WC_skip ?_
            refine Ps_next hK28 ?_
            refine WC_region ?_
            refine WL_r (Rd_move rfl) rfl ?_
            refine WL_r (Rd_addN (j := 1) rfl rfl) rfl ?_
            refine WL_r (Rd_assign rfl) rfl ?_
            refine WL_nil ?_
            refine Ps_wkA (hK25 (k + 1) (by omega) (by omega))
           ·try simp only [dz, ne_eq] at hg44
            refine WL_skip rfl rfl rfl ?_
            refine WL_skip rfl rfl rfl ?_
            refine WL_skip rfl rfl rfl ?_
            refine WL_skip rfl rfl rfl ?_
            refine WL_skip rfl rfl rfl ?_
            refine WL_skip rfl rfl rfl ?_
            refine WL_r (Rd_pickF rfl rfl) rfl ?_
            refine WL_r (Rd_assign rfl) rfl ?_
            refine WL_end hK43 ?_
            refine WC_sr fun K46 hK46 => ?_
            refine WL_r (Rd_move rfl) rfl ?_
            refine WL_r (Rd_not rfl) rfl ?_
            refine WL_r (Rd_move rfl) rfl ?_
            refine WL_skip rfl rfl rfl ?_
            refine WL_skip rfl rfl rfl ?_
            refine WL_skip rfl rfl rfl ?_
            refine WL_skip rfl rfl rfl ?_
            refine WL_r (Rd_pickF rfl rfl) rfl ?_
            refine WL_r (Rd_move rfl) rfl ?_
            refine WL_skip rfl rfl rfl ?_
            refine WL_skip rfl rfl rfl ?_
            refine WL_r (Rd_pickF rfl rfl) rfl ?_
            refine WL_end hK46 ?_
            refine WC_condF rfl ?_
            refine WC_skip ?_
            refine Ps_next hK28 ?_
            refine WC_region ?_
            refine WL_r (Rd_move rfl) rfl ?_
            refine WL_r (Rd_addN (j := 1) rfl rfl) rfl ?_
            refine WL_r (Rd_assign rfl) rfl ?_
            refine WL_nil ?_
            refine Ps_wkA (hK25 (k + 1) (by omega) (by omega))
        ·try simp only [dz, ne_eq] at hc6
         refine WC_skip ?_
         refine Ps_next hK39 ?_
         refine WC_sr fun K47 hK47 => ?_
         refine WL_r (Rd_fieldAddr rfl fo32_4) rfl ?_
         refine WL_r (Rd_fieldAddr rfl fo30_0) rfl ?_
         refine WL_r (Rd_load rfl tk22 (v := .int .u8 ((a.r.kind.toNat : Nat) : Int)) (hi := eAct_kind a)) rfl ?_
         refine WL_r (Rd_eqlU (b := 5#8) rfl rfl) rfl ?_
         refine WL_r (Rd_move rfl) rfl ?_
         refine WL_bool 126 rfl (fun hg48 => ?_) (fun hg48 => ?_)
         ·try simp only [dz, ne_eq] at hg48
          refine WL_r (Rd_fieldAddr rfl fo32_4) rfl ?_
          refine WL_r (Rd_fieldAddr rfl fo30_1) rfl ?_
          refine WL_r (Rd_loadg (vs := a.r.ix.l.flatMap (eU .u8)) rfl tk24 (hl := by rw [eAct_len]; omega) (hi := eAct_ix a)) rfl ?_
          refine WL_r (Rd_fieldAddr rfl fo65_0) rfl ?_
          refine WL_r (Rd_loadg (vs := x.ix.l.flatMap (eU .u8)) rfl tk24 (hl := by rw [eKV_len]; omega) (hi := eKV_ix x)) rfl ?_
          refine WL_r (Rd_eqW rfl rfl ais24 a.r.ix.h x.ix.h) rfl ?_
          refine WL_r (Rd_pickT rfl rfl) rfl ?_
          refine WL_r (Rd_assign rfl) rfl ?_
          refine WL_end hK47 ?_
          refine WC_sr fun K49 hK49 => ?_
          refine WL_r (Rd_move rfl) rfl ?_
          refine WL_r (Rd_not rfl) rfl ?_
          refine WL_r (Rd_move rfl) rfl ?_
          refine WL_skip rfl rfl rfl ?_
          refine WL_skip rfl rfl rfl ?_
          refine WL_skip rfl rfl rfl ?_
          refine WL_skip rfl rfl rfl ?_
          refine WL_r (Rd_pickF rfl rfl) rfl ?_
          refine WL_r (Rd_move rfl) rfl ?_
          refine WL_skip rfl rfl rfl ?_
          refine WL_skip rfl rfl rfl ?_
          refine WL_r (Rd_pickF rfl rfl) rfl ?_
          refine WL_end hK49 ?_
          refine WC_condF rfl ?_
          refine WC_skip ?_
          refine Ps_next hK28 ?_
          refine WC_region ?_
          refine WL_r (Rd_move rfl) rfl ?_
          refine WL_r (Rd_addN (j := 1) rfl rfl) rfl ?_
          refine WL_r (Rd_assign rfl) rfl ?_
          refine WL_nil ?_
          refine Ps_wkA (hK25 (k + 1) (by omega) (by omega))
         ·try simp only [dz, ne_eq] at hg48
          refine WL_skip rfl rfl rfl ?_
          refine WL_skip rfl rfl rfl ?_
          refine WL_skip rfl rfl rfl ?_
          refine WL_skip rfl rfl rfl ?_
          refine WL_skip rfl rfl rfl ?_
          refine WL_skip rfl rfl rfl ?_
          refine WL_r (Rd_pickF rfl rfl) rfl ?_
          refine WL_r (Rd_assign rfl) rfl ?_
          refine WL_end hK47 ?_
          refine WC_sr fun K50 hK50 => ?_
          refine WL_r (Rd_move rfl) rfl ?_
          refine WL_r (Rd_not rfl) rfl ?_
          refine WL_r (Rd_move rfl) rfl ?_
          refine WL_skip rfl rfl rfl ?_
          refine WL_skip rfl rfl rfl ?_
          refine WL_skip rfl rfl rfl ?_
          refine WL_skip rfl rfl rfl ?_
          refine WL_r (Rd_pickF rfl rfl) rfl ?_
          refine WL_r (Rd_move rfl) rfl ?_
          refine WL_skip rfl rfl rfl ?_
          refine WL_skip rfl rfl rfl ?_
          refine WL_r (Rd_pickF rfl rfl) rfl ?_
          refine WL_end hK50 ?_
          refine WC_condF rfl ?_
          refine WC_skip ?_
          refine Ps_next hK28 ?_
          refine WC_region ?_
          refine WL_r (Rd_move rfl) rfl ?_
          refine WL_r (Rd_addN (j := 1) rfl rfl) rfl ?_
          refine WL_r (Rd_assign rfl) rfl ?_
          refine WL_nil ?_
          refine Ps_wkA (hK25 (k + 1) (by omega) (by omega))
      ·try simp only [dz, ne_eq] at hc5
       refine WC_exit ?_
       refine Ps_next hK23 ?_
       refine WC_sr fun K51 hK51 => ?_
       refine WL_r (Rd_assign rfl) rfl ?_
       refine WL_end hK51 ?_
       refine WC_block ?_
       refine WC_loopK (σ := Nat) (fun q => [(18, .int .i64 ((q : Nat) : Int))]) (fun q => []) (fun q => q ≤ g2.kvs.length) (fun q => g2.kvs.length - q) (0) [1, 5, 7, 8, 9, 10, 11, 12, 13, 14, 15, 16, 17, 32, 33, 34, 35, 36, 37, 38, 39, 40, 41, 42, 43, 44, 45, 46, 47, 48, 49, 50, 51, 52, 53, 54, 55, 56, 57, 58, 59, 60, 61, 62, 63, 64, 65, 66, 67, 68, 69, 70, 71, 72, 73, 74, 75, 76, 77, 78, 79, 80, 81, 82, 83, 84, 85, 86, 87, 88, 89, 90, 91, 92, 93, 94, 95, 96, 97, 98, 99, 100, 101, 102, 103, 104, 105, 106, 107, 108, 109, 110, 111, 112, 113, 114, 115, 116, 117, 118, 119, 120, 121, 122, 123, 124, 125, 126, 127, 128, 129, 130, 131, 132, 133, 134, 135, 136, 137, 138, 139, 140, 141, 142, 143, 144, 145] kpA (by (try dsimp only); repeat (first | with_reducible exact Gv.nil | (with_reducible apply Gv.cons; · (repeat (first | with_reducible exact Ext.here | with_reducible apply Ext.there))))) ?_ ?_ Sub.refl ?_
       ·exact Nat.zero_le _
       ·(try dsimp only); exact (Wk.cons lkA Wk.nil)
       ·rintro q hq K52 hK52
        simp only [List.cons_append, List.nil_append]
        refine WC_seq fun K53 hK53 => ?_
        refine WC_sr fun K54 hK54 => ?_
        refine WL_r (Rd_move rfl) rfl ?_
        refine WL_r (Rd_fieldAddr rfl fo54_2) rfl ?_
        refine WL_r (Rd_load rfl tk52 (v := g2.v)) rfl ?_
        refine WL_r (Rd_len_sv rfl rfl ud52 (hA := g2.sv)) rfl ?_
        refine WL_r (Rd_lssN rfl rfl) rfl ?_
        refine WL_end hK54 ?_
        refine WC_cond rfl (fun hc9 => ?_) (fun hc9 => ?_)
        ·try simp only [dz, ne_eq] at hc9
         obtain ⟨x, hx⟩ : ∃ x, g2.kvs[q]? = some x := ⟨_, List.getElem?_eq_getElem (by omega)⟩
         have hxm := List.mem_of_getElem? hx
         have hxO := g2.ok x hxm
         have hxs : x.kp ∈ s2.l := by rw [← g2.eq]; exact List.mem_map.2 ⟨x, hxm, rfl⟩
         have hxr : runB x.ls.l s2.tick = true := wf_run hw2 hxs
         have hx64 : x.ls.l.length ≤ 64 := (hw2.ls x.kp hxs).2
         refine WC_skip ?_
         refine Ps_next hK53 ?_
         refine WC_seq fun K55 hK55 => ?_
         refine WC_block ?_
         refine WC_seq fun K56 hK56 => ?_
         refine WC_seq fun K57 hK57 => ?_
         refine WC_drawA mix (fun i => ([2, 2, 2, 2, 2, 2, 2, 1, 2, 2, 2, 2, 2, 2, 2, 2, 2, 2, 2] : List Nat).getD i 0) ?_
         refine WJ_tp 0 rfl (Rd_fieldAddr rfl fo54_2) rfl (hp _ _) ?_
         refine WJ_tk 1 (Rd_load rfl tk52 (v := g2.v)) hp ?_ rfl (by kernel_rfl) rfl rfl rfl
         refine WJ_tp 2 rfl (Rd_move rfl) rfl (hp _ _) ?_
         refine WJ_tp 3 rfl (Rd_index_sv q rfl rfl ud52 sz65 (hA := g2.sv) (hi := by omega)) rfl (hp _ _) ?_
         refine WJ_tk 4 (Rd_loadg_sv (f := eKV) (i := q) (y := x) rfl tk65 (hA := g2.sv) (hl := hx)) hp ?_ rfl (by kernel_rfl) rfl rfl rfl
         refine WJ_tp 5 rfl (Rd_fieldAddr rfl fo54_1) rfl (hp _ _) ?_
         refine WJ_tk 6 (Rd_load rfl tk3 (v := .int .i64 s2.tick)) hp ?_ rfl (by kernel_rfl) rfl rfl rfl
         refine WJ_all (rs := [7]) (by kernel_rfl) rfl ?_
         refine WI_one ?_
         refine WI_ac rfl (Ac_call cf21 rfl (hs := runsT_ct (X := g2.X) (k := x) (t := s2.tick) hxO.2 (hw2.lsl g2.eq x hxm) hxr)) rfl rfl rfl rfl ?_
         rintro _ _ ⟨⟨⟩, rfl, hA⟩
         simp only [List.cons_append, List.nil_append] at hA
         replace hA := hA.symm
         subst hA
         refine ⟨(fun _ => subA), ?_⟩
         refine WJ_tp 8 rfl (Rd_not rfl) rfl (hp _ _) ?_
         refine WJ_tp 9 rfl (Rd_move rfl) rfl (hp _ _) ?_
         refine WJ_tp 10 rfl (Rd_fieldAddr rfl fo54_2) rfl (hp _ _) ?_
         refine WJ_tk 11 (Rd_load rfl tk52 (v := g2.v)) hp ?_ rfl (by kernel_rfl) rfl rfl rfl
         refine WJ_tp 12 rfl (Rd_move rfl) rfl (hp _ _) ?_
         refine WJ_tp 13 rfl (Rd_index_sv q rfl rfl ud52 sz65 (hA := g2.sv) (hi := by omega)) rfl (hp _ _) ?_
         refine WJ_tp 14 rfl (Rd_fieldAddr rfl fo65_3) rfl (hp _ _) ?_
         refine WJ_tk 15 (Rd_load_sv (i := q) (j := 18) (y := x) rfl tk63 (hA := g2.sv) (hl := hx) (hv := eKV_ls x)) hp ?_ rfl (by kernel_rfl) rfl rfl rfl
         refine WJ_tp 16 rfl (Rd_len_sv rfl rfl ud63 (hA := hxO.2)) rfl (hp _ _) ?_
         refine WJ_tp 17 rfl (Rd_valE (v := .bool false) (Rd_gtrN (j := 64) rfl rfl) (by simp; omega)) rfl (hp _ _) ?_
         refine WJ_tp 18 rfl (Rd_pickF rfl rfl) rfl (hp _ _) ?_
         refine WJ_done (by kernel_rfl) ?_
         refine Ps_next hK57 ?_
         refine WC_condF rfl ?_
         refine WC_skip ?_
         refine Ps_next hK56 ?_
         refine WC_seq fun K58 hK58 => ?_
         refine WC_drawA mix (fun i => ([2, 2, 2, 2, 2, 2, 2, 2, 2, 2, 2, 2, 2, 1, 2, 2, 2, 1, 0, 2] : List Nat).getD i 0) ?_
         refine WJ_tk 0 (Rd_loadg (vs := [.int .i64 room, .int .i64 s.tick, g1.v]) rfl tk54) hp ?_ rfl (by kernel_rfl) rfl rfl rfl
         refine WJ_tp 1 rfl (Rd_fieldAddr rfl fo54_2) rfl (hp _ _) ?_
         refine WJ_tk 2 (Rd_load rfl tk52 (v := g2.v)) hp ?_ rfl (by kernel_rfl) rfl rfl rfl
         refine WJ_tp 3 rfl (Rd_move rfl) rfl (hp _ _) ?_
         refine WJ_tp 4 rfl (Rd_index_sv q rfl rfl ud52 sz65 (hA := g2.sv) (hi := by omega)) rfl (hp _ _) ?_
         refine WJ_tp 5 rfl (Rd_fieldAddr rfl fo65_0) rfl (hp _ _) ?_
         refine WJ_tk 6 (Rd_loadgp_sv (f := eKV) (i := q) (j := 0) (y := x) (vs := x.ix.l.flatMap (eU .u8 (w := 8))) rfl tk24 (hA := g2.sv) (hl := hx) (hjk := by rw [eKV_len]; omega) (hv := eKV_ix x)) hp ?_ rfl (by kernel_rfl) rfl rfl rfl
         refine WJ_tp 7 rfl (Rd_fieldAddr rfl fo54_2) rfl (hp _ _) ?_
         refine WJ_tk 8 (Rd_load rfl tk52 (v := g2.v)) hp ?_ rfl (by kernel_rfl) rfl rfl rfl
         refine WJ_tp 9 rfl (Rd_move rfl) rfl (hp _ _) ?_
         refine WJ_tp 10 rfl (Rd_index_sv q rfl rfl ud52 sz65 (hA := g2.sv) (hi := by omega)) rfl (hp _ _) ?_
         refine WJ_tp 11 rfl (Rd_fieldAddr rfl fo65_1) rfl (hp _ _) ?_
         refine WJ_tk 12 (Rd_load_sv (i := q) (j := 16) (y := x) rfl tk3 (hA := g2.sv) (hl := hx) (hv := eKV_num x)) hp ?_ rfl (by kernel_rfl) rfl rfl rfl
         refine WJ_all (rs := [13, 17]) (by kernel_rfl) rfl ?_
         refine WI_cons ?_ (WI_cons ?_ (by intro _ h; cases h))
         ·skip
          refine WI_ac rfl (Ac_call cf19 rfl (hs := kept_ct (X := g1.X) (room := room) (tick := s.tick) (ix := x.ix) (n := x.num) g1.sv (by omega))) rfl rfl rfl rfl ?_
          rintro _ _ ⟨⟨f, hf⟩, rfl, hA⟩
          simp only [List.cons_append, List.nil_append] at hA
          replace hA := hA.symm
          subst hA
          dsimp only
          have hcome := once_come hcon.1 g1.eq g2.eq hxm hf
          refine ⟨(fun _ => subA), ?_⟩
          refine WJ_tp 14 rfl (Rd_move rfl) rfl (hp _ _) ?_
          refine WJ_tp 15 rfl (Rd_ext0 rfl) rfl (hp _ _) ?_
          refine WJ_tp 16 rfl (Rd_ext1 rfl) rfl (hp _ _) ?_
          refine WJ_all (rs := [17]) (by kernel_rfl) rfl ?_
          refine WI_one ?_
          refine WI_ac rfl (Ac_alloc zr65) rfl rfl rfl rfl ?_
          rintro _ _ ⟨b19, rfl, rfl⟩
          refine ⟨(fun _ => subA), ?_⟩
          refine WJ_all (rs := [18]) (by kernel_rfl) rfl ?_
          refine WI_one ?_
          refine WI_ac0 rfl (Ac_store (ys := kvO f) rfl rfl sz65 (h1 := by simpa [Value.cells] using kvO_one f) (hv := by simpa [Value.cells] using kvO_len f) (hr := by simp [Value.cells])) rfl rfl rfl ?_
          rintro _ _ rfl
          refine ⟨(fun h => by cases h), ?_⟩
          refine WJ_tp 19 rfl (Rd_assign rfl) rfl (hp _ _) ?_
          refine WJ_done (by kernel_rfl) ?_
          refine Ps_next hK58 ?_
          refine WC_sr fun K59 hK59 => ?_
          refine WL_r (Rd_move rfl) rfl ?_
          refine WL_r (Rd_not rfl) rfl ?_
          refine WL_r (Rd_move rfl) rfl ?_
          refine WL_bool 191 rfl (fun hg60 => ?_) (fun hg60 => ?_)
          ·try simp only [dz, ne_eq] at hg60
           refine WL_r (Rd_fieldAddr rfl fo32_4) rfl ?_
           refine WL_r (Rd_fieldAddr rfl fo30_0) rfl ?_
           refine WL_r (Rd_load rfl tk22 (v := .int .u8 ((a.r.kind.toNat : Nat) : Int)) (hi := eAct_kind a)) rfl ?_
           refine WL_r (Rd_neqU (b := 2#8) rfl rfl) rfl ?_
           refine WL_r (Rd_pickT rfl rfl) rfl ?_
           refine WL_end hK59 ?_
           refine WC_cond rfl (fun hc11 => ?_) (fun hc11 => ?_)
           ·try simp only [dz, ne_eq] at hc11
            exact absurd (hcome (by assumption)) (by assumption)
           ·try simp only [dz, ne_eq] at hc11
            refine WC_skip ?_
            refine Ps_next hK55 ?_
            refine WC_region ?_
            refine WL_r (Rd_move rfl) rfl ?_
            refine WL_r (Rd_addN (j := 1) rfl rfl) rfl ?_
            refine WL_r (Rd_assign rfl) rfl ?_
            refine WL_nil ?_
            refine Ps_wkA (hK52 (q + 1) (by omega) (by omega))
          ·try simp only [dz, ne_eq] at hg60
           refine WL_skip rfl rfl rfl ?_
           refine WL_skip rfl rfl rfl ?_
           refine WL_skip rfl rfl rfl ?_
           refine WL_skip rfl rfl rfl ?_
           refine WL_r (Rd_pickF rfl rfl) rfl ?_
           refine WL_end hK59 ?_
           refine WC_condF rfl ?_
           refine WC_skip ?_
           refine Ps_next hK55 ?_
           refine WC_region ?_
           refine WL_r (Rd_move rfl) rfl ?_
           refine WL_r (Rd_addN (j := 1) rfl rfl) rfl ?_
           refine WL_r (Rd_assign rfl) rfl ?_
           refine WL_nil ?_
           refine Ps_wkA (hK52 (q + 1) (by omega) (by omega))
         ·skip
          refine WI_ac rfl (Ac_alloc zr65) rfl rfl rfl rfl ?_
          rintro _ _ ⟨b19, rfl, rfl⟩
          refine ⟨(fun _ => subA), ?_⟩
          refine WJ_all (rs := [13]) (by kernel_rfl) rfl ?_
          refine WI_one ?_
          refine WI_ac rfl (Ac_call cf19 rfl (hs := kept_ct (X := g1.X) (room := room) (tick := s.tick) (ix := x.ix) (n := x.num) g1.sv (by omega))) rfl rfl rfl rfl ?_
          rintro _ _ ⟨⟨f, hf⟩, rfl, hA⟩
          simp only [List.cons_append, List.nil_append] at hA
          replace hA := hA.symm
          subst hA
          dsimp only
          have hcome := once_come hcon.1 g1.eq g2.eq hxm hf
          refine ⟨(fun _ => subA), ?_⟩
          refine WJ_tp 14 rfl (Rd_move rfl) rfl (hp _ _) ?_
          refine WJ_tp 15 rfl (Rd_ext0 rfl) rfl (hp _ _) ?_
          refine WJ_tp 16 rfl (Rd_ext1 rfl) rfl (hp _ _) ?_
          refine WJ_all (rs := [18]) (by kernel_rfl) rfl ?_
          refine WI_one ?_
          refine WI_ac0 rfl (Ac_store (ys := kvO f) rfl rfl sz65 (h1 := by simpa [Value.cells] using kvO_one f) (hv := by simpa [Value.cells] using kvO_len f) (hr := by simp [Value.cells])) rfl rfl rfl ?_
          rintro _ _ rfl
          refine ⟨(fun h => by cases h), ?_⟩
          refine WJ_tp 19 rfl (Rd_assign rfl) rfl (hp _ _) ?_
          refine WJ_done (by kernel_rfl) ?_
          refine Ps_next hK58 ?_
          refine WC_sr fun K61 hK61 => ?_
          refine WL_r (Rd_move rfl) rfl ?_
          refine WL_r (Rd_not rfl) rfl ?_
          refine WL_r (Rd_move rfl) rfl ?_
          refine WL_bool 191 rfl (fun hg62 => ?_) (fun hg62 => ?_)
          ·try simp only [dz, ne_eq] at hg62
           refine WL_r (Rd_fieldAddr rfl fo32_4) rfl ?_
           refine WL_r (Rd_fieldAddr rfl fo30_0) rfl ?_
           refine WL_r (Rd_load rfl tk22 (v := .int .u8 ((a.r.kind.toNat : Nat) : Int)) (hi := eAct_kind a)) rfl ?_
           refine WL_r (Rd_neqU (b := 2#8) rfl rfl) rfl ?_
           refine WL_r (Rd_pickT rfl rfl) rfl ?_
           refine WL_end hK61 ?_
           refine WC_cond rfl (fun hc11 => ?_) (fun hc11 => ?_)
           ·try simp only [dz, ne_eq] at hc11
            exact absurd (hcome (by assumption)) (by assumption)
           ·try simp only [dz, ne_eq] at hc11
            refine WC_skip ?_
            refine Ps_next hK55 ?_
            refine WC_region ?_
            refine WL_r (Rd_move rfl) rfl ?_
            refine WL_r (Rd_addN (j := 1) rfl rfl) rfl ?_
            refine WL_r (Rd_assign rfl) rfl ?_
            refine WL_nil ?_
            refine Ps_wkA (hK52 (q + 1) (by omega) (by omega))
          ·try simp only [dz, ne_eq] at hg62
           refine WL_skip rfl rfl rfl ?_
           refine WL_skip rfl rfl rfl ?_
           refine WL_skip rfl rfl rfl ?_
           refine WL_skip rfl rfl rfl ?_
           refine WL_r (Rd_pickF rfl rfl) rfl ?_
           refine WL_end hK61 ?_
           refine WC_condF rfl ?_
           refine WC_skip ?_
           refine Ps_next hK55 ?_
           refine WC_region ?_
           refine WL_r (Rd_move rfl) rfl ?_
           refine WL_r (Rd_addN (j := 1) rfl rfl) rfl ?_
           refine WL_r (Rd_assign rfl) rfl ?_
           refine WL_nil ?_
           refine Ps_wkA (hK52 (q + 1) (by omega) (by omega))
        ·try simp only [dz, ne_eq] at hc9
         refine WC_exit ?_
         refine Ps_next hK12 ?_
         refine WC_region ?_
         refine WL_r (Rd_move rfl) rfl ?_
         refine WL_r (Rd_addN (j := 1) rfl rfl) rfl ?_
         refine WL_r (Rd_assign rfl) rfl ?_
         refine WL_nil ?_
         refine Ps_wkA (hK9 ⟨i + 1, s2⟩ (⟨by (try dsimp only); omega, hw2, by (try dsimp only); omega⟩) (by (try dsimp only); omega))
  ·try simp only [dz, ne_eq] at hc2
   refine WC_exit ?_
   refine Ps_next hK7 ?_
   refine WC_sr fun K63 hK63 => ?_
   refine WL_r (Rd_assign rfl) rfl ?_
   refine WL_end hK63 ?_
   refine WC_ret ?_
   exact hret.go () (Rs1 rfl rfl)
end Go.Proofs.Ytoakfknnaiapiaa
