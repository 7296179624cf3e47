/-
  Contracts of functions that the claim reaches, or the logic and the plain laws that they rest on, or the row over them. (Conditions: none beyond the statement.)
-/
import Derived.Test.YtlcafifjhilleaaTkL
set_option linter.all false
namespace Go.Proofs.Ytlcafifjhilleaa
open Go.RowKit Go.SL Go.ShM
set_option maxHeartbeats 1000000
set_option maxRecDepth 20000
set_option linter.all false
theorem cf10 : cfn Try.prog 10 = true := by kernel_rfl
theorem cf12 : cfn Try.prog 12 = true := by kernel_rfl
theorem sz46 : sz Try.prog 46 = some 88 := by kernel_rfl
theorem ud34 : Try.prog.underlying 34 = some (.slice 46) := by kernel_rfl
theorem zr37 : zr Try.prog 37 = some [.slice none 0 0, .slice none 0 0, .slice none 0 0, .slice none 0 0] := by kernel_rfl
theorem TagCalls_ct {W : World} {v : Value} {qs : List KQ} {ao : Option Addr} {cap : Nat} (hS : Sv [old W] v 88 eKQ qs ao cap := by assumption) (hQ : ∀ q ∈ qs, OKk W 1048576 q := by assumption) (hn : qs.length ≤ 1048576 := by omega) (hz : szD qs ≤ 1048576 := by omega) : Ct Try.prog 4 [v] [old W] (fun _ : Unit => .bool true) (fun _ => [old W]) := by
  refine Ct_body (n := 70) Try.func4 rfl rfl rfl fun F w0 Q hret hnorm hp => ?_
  change WC _ _ _ _ _ _ _ (_ :: F)
  refine WC_sr fun K1 hK1 => ?_
  refine WL_rd (Rd_assign rfl) rfl rfl rfl ?_
  refine WL_end hK1 ?_
  refine WC_seq fun K2 hK2 => ?_
  refine WC_sr fun K3 hK3 => ?_
  refine WL_ac (Ac_call cf5 rfl (hs := tlives_ct)) rfl rfl rfl ?_
  rintro _ _ ⟨⟨⟩, rfl, hA⟩
  simp only [List.cons_append, List.nil_append] at hA
  replace hA := hA.symm
  subst hA
  refine WL_rd (Rd_not rfl) rfl rfl rfl ?_
  refine WL_end hK3 ?_
  refine WC_condF rfl ?_
  refine WC_skip ?_
  refine Ps_next hK2 ?_
  refine WC_sr fun K4 hK4 => ?_
  refine WL_ac (Ac_alloc zr37) rfl rfl rfl ?_
  rintro _ _ ⟨b3, rfl, rfl⟩
  refine WL_end hK4 ?_
  refine WC_seq fun K5 hK5 => ?_
  refine WC_sr fun K6 hK6 => ?_
  refine WL_rd (Rd_assign rfl) rfl rfl rfl ?_
  refine WL_end hK6 ?_
  refine WC_block ?_
  refine WC_star0 (FPB 5) ?_
  rw [show star (FPB 5) ([] : List PB) = star (FPB 5) (allP []) from rfl]
  refine WC_star0 (FPB 5) ?_
  refine WC_imp (fun w h => sat_nil (e := 1) (T := 23) (f := ePB) h) ?_
  refine WC_star0 (FPB 5) ?_
  refine WC_imp (fun w h => sat_nil (e := 1) (T := 23) (f := ePB) h) ?_
  refine WC_star0 (FRL 23) ?_
  refine WC_imp (fun w h => sat_nil (e := 1) (T := 22) (f := eRL) h) ?_
  refine WC_star0 FML ?_
  refine WC_imp (fun w h => sat_nil (e := 1) (T := 22) (f := eML) h) ?_
  rw [show cl b3 37 [.slice none 0 0, .slice none 0 0, .slice none 0 0, .slice none 0 0] = cl b3 37 [sl none ([] : List PB).length 0, sl none ([] : List PB).length 0, sl none ([] : List RL).length 0, sl none ([] : List RL).length 0] from rfl]
  refine WC_loopK (σ := Nat × (List PB) × (Option Nat) × Nat × (List PB) × (Option Nat) × Nat × (List RL) × (Option Nat) × Nat × (List RL) × (Option Nat) × Nat) (fun ⟨k, ps, pa, pc, ws, wa, wc, os, oa, oc, ms, ma, mc⟩ => [(4, .int .i64 ((k : Nat) : Int))]) (fun ⟨k, ps, pa, pc, ws, wa, wc, os, oa, oc, ms, ma, mc⟩ => [cl b3 37 [sl pa ps.length pc, sl wa ws.length wc, sl oa os.length oc, sl ma ms.length mc], star (FPB 5) ps, arr pa pc 1 23 ePB ps, star (FPB 5) ws, arr wa wc 1 23 ePB ws, star (FPB 5) (allP os), star (FRL 23) os, arr oa oc 1 22 eRL os, star FML ms, arr ma mc 1 22 eML ms]) (fun ⟨k, ps, pa, pc, ws, wa, wc, os, oa, oc, ms, ma, mc⟩ => k ≤ qs.length ∧ BKok (2 * k) (2 * szD (qs.take k)) ⟨ps, pa, pc, ws, wa, wc, os, oa, oc, ms, ma, mc⟩) (fun ⟨k, ps, pa, pc, ws, wa, wc, os, oa, oc, ms, ma, mc⟩ => qs.length - k) ⟨0, [], none, 0, [], none, 0, [], none, 0, [], none, 0⟩ [0, 3, 5, 28, 29, 30, 31, 32, 33, 34, 35, 36, 37, 38, 39, 40, 41, 42, 43, 44, 45, 46, 47, 48, 49, 50, 51, 52, 53, 54, 55, 56, 57, 58, 59, 60, 61, 62, 63, 64, 65, 66, 67, 68, 69] (by repeat (first | exact Kep.nil | apply Kep.drop rfl | apply Kep.keep rfl)) (by (try dsimp only); repeat (first | with_reducible exact Gv.nil | (with_reducible apply Gv.cons; · (repeat (first | with_reducible exact Ext.here | with_reducible apply Ext.there))))) ?_ ?_ Sub.refl ?_
  · exact ⟨Nat.zero_le _, BKok_0⟩
  · (try dsimp only); exact (Wk.cons (by first | rfl | (simp only [List.length_append, List.length_cons, List.length_nil, List.length_replicate, Nat.zero_add]; rfl) | (simp; done)) Wk.nil)
  · rintro ⟨k, ps, pa, pc, ws, wa, wc, os, oa, oc, ms, ma, mc⟩ ⟨hk, hbk⟩ K7 hK7
    simp only [List.cons_append, List.nil_append]
    refine WC_seq fun K8 hK8 => ?_
    refine WC_sr fun K9 hK9 => ?_
    refine WL_rd (Rd_move rfl) rfl rfl rfl ?_
    refine WL_rd (Rd_move rfl) rfl rfl rfl ?_
    refine WL_rd (Rd_len_sv rfl rfl ud34) rfl rfl rfl ?_
    refine WL_rd (Rd_lssN rfl rfl) rfl rfl rfl ?_
    refine WL_end hK9 ?_
    refine WC_cond rfl (fun hc1 => ?_) (fun hc1 => ?_)
    · try simp only [decide_eq_true_eq, decide_eq_false_iff_not, Bool.not_eq_true', Bool.not_eq_false', Bool.not_eq_true, Bool.not_eq_false, Int.not_lt, Int.not_le, Nat.not_lt, Nat.not_le, Decidable.not_not, ne_eq] at hc1
      obtain ⟨q, hqq⟩ : ∃ q, qs[k]? = some q := ⟨_, List.getElem?_eq_getElem (by omega)⟩
      have hqk := hQ q (List.mem_of_getElem? hqq)
      have hzk := szD_take hqq
      have hzl := szD_le qs (k + 1)
      refine WC_skip ?_
      refine Ps_next hK8 ?_
      refine WC_seq fun K10 hK10 => ?_
      refine WC_block ?_
      refine WC_sr fun K11 hK11 => ?_
      refine WL_rd (Rd_move rfl) rfl rfl rfl ?_
      refine WL_rd (Rd_move rfl) rfl rfl rfl ?_
      refine WL_rd (Rd_index_sv k rfl rfl ud34 sz46 (hA := hS) (hi := by omega)) rfl rfl rfl ?_
      refine WL_rd (Rd_loadg_sv (f := eKQ) (i := k) rfl tk46 (hA := hS) (hl := hqq)) rfl rfl rfl ?_
      refine WL_ac (Ac_call cf10 rfl (hs := ask_ct (W := W) (q := q) (n := 2 * k) (z := 2 * szD (qs.take k)) (bk := b3) (hq := hqk) (hg0 := hbk))) rfl rfl rfl ?_
      rintro _ _ ⟨⟨⟨ps2, pa2, pc2, ws2, wa2, wc2, os2, oa2, oc2, ms2, ma2, mc2⟩, hbk2⟩, rfl, hA⟩
      simp only [List.cons_append, List.nil_append] at hA
      replace hA := hA.symm
      subst hA
      try dsimp only
      refine WL_rd (Rd_not rfl) rfl rfl rfl ?_
      refine WL_rd (Rd_move rfl) rfl rfl rfl ?_
      refine WL_rd (Rd_move rfl) rfl rfl rfl ?_
      refine WL_rd (Rd_move rfl) rfl rfl rfl ?_
      refine WL_rd (Rd_index_sv k rfl rfl ud34 sz46 (hA := hS) (hi := by omega)) rfl rfl rfl ?_
      refine WL_rd (Rd_loadg_sv (f := eKQ) (i := k) rfl tk46 (hA := hS) (hl := hqq)) rfl rfl rfl ?_
      refine WL_ac (Ac_call cf10 rfl (hs := ask_ct (W := W) (q := q) (n := 2 * k + 1) (z := 2 * szD (qs.take k) + q.d.l.length) (bk := b3) (hq := hqk) (hg0 := hbk2))) rfl rfl rfl ?_
      rintro _ _ ⟨⟨⟨ps3, pa3, pc3, ws3, wa3, wc3, os3, oa3, oc3, ms3, ma3, mc3⟩, hbk3⟩, rfl, hA⟩
      simp only [List.cons_append, List.nil_append] at hA
      replace hA := hA.symm
      subst hA
      try dsimp only
      refine WL_rd (Rd_not rfl) rfl rfl rfl ?_
      refine WL_rd (Rd_pickF rfl rfl) rfl rfl rfl ?_
      refine WL_end hK11 ?_
      refine WC_condF rfl ?_
      refine WC_skip ?_
      refine Ps_next hK10 ?_
      refine WC_region ?_
      refine WL_rd (Rd_move rfl) rfl rfl rfl ?_
      refine WL_rd (Rd_addN (j := 1) rfl rfl) rfl rfl rfl ?_
      refine WL_rd (Rd_assign rfl) rfl rfl rfl ?_
      refine WL_nil ?_
      refine Ps_wk (by (try simp only [List.cons_append, List.nil_append]); repeat (first | with_reducible exact Wk.nil | refine Wk.cons (by first | rfl | (simp only [List.length_append, List.length_cons, List.length_nil, List.length_replicate, Nat.zero_add]; rfl) | (simp; done)) ?_)) (by (try simp only [List.cons_append, List.nil_append]); repeat (first | with_reducible exact Sub.refl | with_reducible exact Sub.nil | with_reducible refine Sub.cons (by repeat (first | with_reducible exact Ext.here | with_reducible apply Ext.there)) ?_ | with_reducible refine Sub.tail ?_)) (hK7 ⟨k + 1, ps3, pa3, pc3, ws3, wa3, wc3, os3, oa3, oc3, ms3, ma3, mc3⟩ (⟨by (try dsimp only); omega, BKok_up hbk3 (by (try dsimp only); omega) (by (try dsimp only); rw [szD_take hqq]; omega)⟩) (by (try dsimp only); omega))
    · try simp only [decide_eq_true_eq, decide_eq_false_iff_not, Bool.not_eq_true', Bool.not_eq_false', Bool.not_eq_true, Bool.not_eq_false, Int.not_lt, Int.not_le, Nat.not_lt, Nat.not_le, Decidable.not_not, ne_eq] at hc1
      obtain rfl : k = qs.length := by omega
      rw [List.take_length] at hbk
      have hpn := hbk.pn
      have hon := hbk.on
      have hol := hbk.ol
      have hlw := hbk.len
      have hoz := hbk.oz
      dsimp only at hpn hon hol hlw hoz
      refine WC_fact (fun w h => arr_facts (a := pa) (cap := pc) (e := 1) (T := 23) (f := ePB) (l := ps) (by repeat (first | with_reducible exact Has.here | with_reducible refine Has.there ?_)) h) (fun hpf => ?_)
      refine WC_fact (fun w h => arr_facts (a := wa) (cap := wc) (e := 1) (T := 23) (f := ePB) (l := ws) (by repeat (first | with_reducible exact Has.here | with_reducible refine Has.there ?_)) h) (fun hwf => ?_)
      refine WC_fact (fun w h => arr_facts (a := oa) (cap := oc) (e := 1) (T := 22) (f := eRL) (l := os) (by repeat (first | with_reducible exact Has.here | with_reducible refine Has.there ?_)) h) (fun hof => ?_)
      refine WC_fact (fun w h => arr_facts (a := ma) (cap := mc) (e := 1) (T := 22) (f := eML) (l := ms) (by repeat (first | with_reducible exact Has.here | with_reducible refine Has.there ?_)) h) (fun hmf => ?_)
      have hSq : Sv [arr pa pc 1 23 ePB ps] (sl pa ps.length pc) 1 ePB ps (pa.map fun g => ⟨g, 0, none⟩) pc := Sv_own' encPB hpf.1 hpf.2
      have hSp : Sv [arr pa pc 1 23 ePB ps] (sl pa ps.length pc) 1 fP (ps.map ptB) (pa.map fun g => ⟨g, 0, none⟩) pc := Sv_mapped hSq (fun e _ => rfl)
      have hSw : Sv [arr wa wc 1 23 ePB ws] (sl wa ws.length wc) 1 fP (ws.map ptB) (wa.map fun g => ⟨g, 0, none⟩) wc := Sv_mapped (Sv_own' encPB hwf.1 hwf.2) (fun e _ => rfl)
      have hSo : Sv [arr oa oc 1 22 eRL os] (sl oa os.length oc) 1 eRL os (oa.map fun g => ⟨g, 0, none⟩) oc := Sv_own' encRL hof.1 hof.2
      have hPp : ∀ p ∈ ps.map ptB, RdP [sep [star (FPB 5) ps, arr pa pc 1 23 ePB ps, star (FPB 5) ws, arr wa wc 1 23 ePB ws]] p := fun p h => (Rd_ptB (T := 5) hbk.b1 p h).pk (by repeat (first | with_reducible exact Has.here | with_reducible refine Has.there ?_))
      have hPw : ∀ p ∈ ws.map ptB, RdP [sep [star (FPB 5) ps, arr pa pc 1 23 ePB ps, star (FPB 5) ws, arr wa wc 1 23 ePB ws]] p := fun p h => (Rd_ptB (T := 5) hbk.b2 p h).pk (by repeat (first | with_reducible exact Has.here | with_reducible refine Has.there ?_))
      have hmm : (ps.map ptB).map (·.l) = (ws.map ptB).map (·.l) := by rw [List.map_map, List.map_map]; exact hbk.eq
      refine WC_exit ?_
      refine Ps_next hK5 ?_
      refine WC_seq fun K12 hK12 => ?_
      refine WC_sr fun K13 hK13 => ?_
      refine WL_rd (Rd_fieldAddr rfl fo37_0) rfl rfl rfl ?_
      refine WL_rd (Rd_load rfl tk22 (v := sl pa ps.length pc)) rfl rfl rfl ?_
      refine WL_rd (Rd_len rfl rfl ud22) rfl rfl rfl ?_
      refine WL_rd (Rd_fieldAddr rfl fo37_1) rfl rfl rfl ?_
      refine WL_rd (Rd_load rfl tk22 (v := sl wa ws.length wc)) rfl rfl rfl ?_
      refine WL_rd (Rd_len rfl rfl ud22) rfl rfl rfl ?_
      refine WL_rd (Rd_isF (Rd_neqN rfl rfl)) rfl rfl rfl ?_
      refine WL_rd (Rd_move rfl) rfl rfl rfl ?_
      refine WL_rd (Rd_fieldAddr rfl fo37_0) rfl rfl rfl ?_
      refine WL_rd (Rd_load rfl tk22 (v := sl pa ps.length pc)) rfl rfl rfl ?_
      refine WL_rd (Rd_fieldAddr rfl fo37_1) rfl rfl rfl ?_
      refine WL_rd (Rd_load rfl tk22 (v := sl wa ws.length wc)) rfl rfl rfl ?_
      refine WL_ac (Ac_call cf8 rfl (hs := Ct.un0 (Xs := [star (FPB 5) ps, arr pa pc 1 23 ePB ps, star (FPB 5) ws, arr wa wc 1 23 ePB ws]) (sameL_ct (X := sep [star (FPB 5) ps, arr pa pc 1 23 ePB ps, star (FPB 5) ws, arr wa wc 1 23 ePB ws]) (ps := ps.map ptB) (qs := ws.map ptB) (hS := hSp.pk (by repeat (first | with_reducible exact Has.here | with_reducible refine Has.there ?_))) (hS' := hSw.pk (by repeat (first | with_reducible exact Has.here | with_reducible refine Has.there ?_))) (hP := hPp) (hQ := hPw) (hl := by rw [List.length_map]; omega) (hb := BOk_bt hbk.b1)))) rfl rfl rfl ?_
      rintro _ _ ⟨⟨⟩, rfl, hA⟩
      simp only [List.cons_append, List.nil_append] at hA
      replace hA := hA.symm
      subst hA
      rw [decide_eq_true hmm]
      refine WL_rd (Rd_not rfl) rfl rfl rfl ?_
      refine WL_rd (Rd_pickF rfl rfl) rfl rfl rfl ?_
      refine WL_end hK13 ?_
      refine WC_condF rfl ?_
      refine WC_skip ?_
      refine Ps_next hK12 ?_
      refine WC_seq fun K14 hK14 => ?_
      refine WC_sr fun K15 hK15 => ?_
      refine WL_rd (Rd_assign rfl) rfl rfl rfl ?_
      refine WL_end hK15 ?_
      refine WC_block ?_
      refine WC_loopK (σ := Nat) (fun j => [(5, .int .i64 ((j : Nat) : Int))]) (fun j => []) (fun j => j ≤ os.length) (fun j => os.length - j) (0) [3, 62, 63, 64, 65, 66, 67, 68, 69] (by repeat (first | exact Kep.nil | apply Kep.drop rfl | apply Kep.keep rfl)) (by (try dsimp only); repeat (first | with_reducible exact Gv.nil | (with_reducible apply Gv.cons; · (repeat (first | with_reducible exact Ext.here | with_reducible apply Ext.there))))) ?_ ?_ Sub.refl ?_
      · exact Nat.zero_le _
      · (try dsimp only); exact (Wk.cons (by first | rfl | (simp only [List.length_append, List.length_cons, List.length_nil, List.length_replicate, Nat.zero_add]; rfl) | (simp; done)) Wk.nil)
      · rintro j hj K16 hK16
        simp only [List.cons_append, List.nil_append]
        refine WC_seq fun K17 hK17 => ?_
        refine WC_sr fun K18 hK18 => ?_
        refine WL_rd (Rd_move rfl) rfl rfl rfl ?_
        refine WL_rd (Rd_fieldAddr rfl fo37_2) rfl rfl rfl ?_
        refine WL_rd (Rd_load rfl tk35 (v := sl oa os.length oc)) rfl rfl rfl ?_
        refine WL_rd (Rd_len rfl rfl ud35) rfl rfl rfl ?_
        refine WL_rd (Rd_lssN rfl rfl) rfl rfl rfl ?_
        refine WL_end hK18 ?_
        refine WC_cond rfl (fun hc4 => ?_) (fun hc4 => ?_)
        · try simp only [decide_eq_true_eq, decide_eq_false_iff_not, Bool.not_eq_true', Bool.not_eq_false', Bool.not_eq_true, Bool.not_eq_false, Int.not_lt, Int.not_le, Nat.not_lt, Nat.not_le, Decidable.not_not, ne_eq] at hc4
          obtain ⟨r, hrj⟩ : ∃ r, os[j]? = some r := ⟨_, List.getElem?_eq_getElem (by omega)⟩
          obtain ⟨m, hmj⟩ : ∃ m, ms[j]? = some m := ⟨_, List.getElem?_eq_getElem (by omega)⟩
          have hrk := hbk.o1 r (List.mem_of_getElem? hrj)
          have hmk := hbk.m1 m (List.mem_of_getElem? hmj)
          have hoe := hbk.oe j r m hrj hmj
          refine WC_some (a := oa) (by repeat (first | with_reducible exact Has.here | with_reducible refine Has.there ?_)) (by omega) (fun gb hgb hcp => ?_)
          subst hgb
          refine WC_some (a := ma) (by repeat (first | with_reducible exact Has.here | with_reducible refine Has.there ?_)) (by omega) (fun gb2 hgb2 hcp2 => ?_)
          subst hgb2
          have hrS : Sv [star (FRL 23) os] (sl r.a r.ps.length r.cap) 1 fP (r.ps.map ptB) (r.a.map fun g => ⟨g, 0, none⟩) r.cap := Sv.star (F := (FRL 23)) j hrj (Sv_mapped (Sv_RL (T := 23) hrk.1 hrk.2.1) (fun e _ => rfl))
          obtain ⟨mo, mcp, hmS0⟩ := Sv_ML hmk
          have hmS : Sv [star FML ms] (mgV m.a m.cap m.ps) 1 fP ((m.ps.drop 1).map ptB) mo mcp := Sv.star (F := FML) j hmj hmS0
          have hrP : ∀ p ∈ r.ps.map ptB, RdP [sep [star (FPB 5) (allP os), star (FRL 23) os, star FML ms]] p := fun p h => (Rd_ptB (T := 5) (allP_bok (fun r hr => (hbk.o1 r hr).2.2)) p (by obtain ⟨x, hx, rfl⟩ := List.mem_map.1 h; exact List.mem_map.2 ⟨x, List.mem_flatMap.2 ⟨r, List.mem_of_getElem? hrj, hx⟩, rfl⟩)).pk (by repeat (first | with_reducible exact Has.here | with_reducible refine Has.there ?_))
          have hmP : ∀ p ∈ (m.ps.drop 1).map ptB, RdP [sep [star (FPB 5) (allP os), star (FRL 23) os, star FML ms]] p := fun p h => (Sv.star (F := FML) j hmj (Rd_ML hmk p h)).pk (by repeat (first | with_reducible exact Has.here | with_reducible refine Has.there ?_))
          have hrm : (r.ps.map ptB).map (·.l) = ((m.ps.drop 1).map ptB).map (·.l) := by rw [List.map_map, List.map_map]; exact hoe
          have hral := allP_le hrj
          refine WC_skip ?_
          refine Ps_next hK17 ?_
          refine WC_seq fun K19 hK19 => ?_
          refine WC_block ?_
          refine WC_seq fun K20 hK20 => ?_
          refine WC_drawA mix (fun i => ([2, 2, 2, 2, 2, 2, 2, 2, 2, 2, 1, 2] : List Nat).getD i 0) ?_
          refine WJ_takeP 0 rfl (by kernel_rfl) (Rd_fieldAddr rfl fo37_2) rfl rfl rfl (hp _ _) ?_
          refine WJ_tk 1 (Rd_load rfl tk35 (v := sl (some gb) os.length oc)) hp ?_ rfl (by kernel_rfl) rfl rfl rfl
          refine WJ_takeP 2 rfl (by kernel_rfl) (Rd_move rfl) rfl rfl rfl (hp _ _) ?_
          refine WJ_takeP 3 rfl (by kernel_rfl) (Rd_index j rfl rfl ud35 sz22 (hi := by omega)) rfl rfl rfl (hp _ _) ?_
          refine WJ_tk 4 (Rd_load_arr (f := eRL) (i := j) (j := 0) rfl tk22 (hl := hrj)) hp ?_ rfl (by kernel_rfl) rfl rfl rfl
          refine WJ_takeP 5 rfl (by kernel_rfl) (Rd_fieldAddr rfl fo37_3) rfl rfl rfl (hp _ _) ?_
          refine WJ_tk 6 (Rd_load rfl tk35 (v := sl (some gb2) ms.length mc)) hp ?_ rfl (by kernel_rfl) rfl rfl rfl
          refine WJ_takeP 7 rfl (by kernel_rfl) (Rd_move rfl) rfl rfl rfl (hp _ _) ?_
          refine WJ_takeP 8 rfl (by kernel_rfl) (Rd_index j rfl rfl ud35 sz22 (hi := by omega)) rfl rfl rfl (hp _ _) ?_
          refine WJ_tk 9 (Rd_load_arr (f := eML) (i := j) (j := 0) rfl tk22 (hl := hmj)) hp ?_ rfl (by kernel_rfl) rfl rfl rfl
          refine WJ_all (rs := [10]) (by kernel_rfl) rfl ?_
          refine WI_one ?_
          refine WI_ac rfl (Ac_call cf8 rfl (hs := Ct.un0 (Xs := [star (FPB 5) (allP os), star (FRL 23) os, star FML ms]) (sameL_ct (X := sep [star (FPB 5) (allP os), star (FRL 23) os, star FML ms]) (ps := r.ps.map ptB) (qs := (m.ps.drop 1).map ptB) (hS := hrS.pk (by repeat (first | with_reducible exact Has.here | with_reducible refine Has.there ?_))) (hS' := hmS.pk (by repeat (first | with_reducible exact Has.here | with_reducible refine Has.there ?_))) (hP := hrP) (hQ := hmP) (hl := by rw [List.length_map]; omega) (hb := BOk_bt hrk.2.2)))) rfl rfl rfl rfl ?_
          rintro _ _ ⟨⟨⟩, rfl, hA⟩
          simp only [List.cons_append, List.nil_append] at hA
          replace hA := hA.symm
          subst hA
          rw [decide_eq_true hrm]
          refine ⟨(fun _ => (by repeat (first | with_reducible exact Sub.refl | with_reducible exact Sub.nil | with_reducible refine Sub.cons (by repeat (first | with_reducible exact Ext.here | with_reducible apply Ext.there)) ?_ | with_reducible refine Sub.tail ?_))), ?_⟩
          refine WJ_takeP 11 rfl (by kernel_rfl) (Rd_not rfl) rfl rfl rfl (hp _ _) ?_
          refine WJ_done (by kernel_rfl) ?_
          refine Ps_next hK20 ?_
          refine WC_condF rfl ?_
          refine WC_skip ?_
          refine Ps_next hK19 ?_
          refine WC_region ?_
          refine WL_rd (Rd_move rfl) rfl rfl rfl ?_
          refine WL_rd (Rd_addN (j := 1) rfl rfl) rfl rfl rfl ?_
          refine WL_rd (Rd_assign rfl) rfl rfl rfl ?_
          refine WL_nil ?_
          refine Ps_wk (by (try simp only [List.cons_append, List.nil_append]); repeat (first | with_reducible exact Wk.nil | refine Wk.cons (by first | rfl | (simp only [List.length_append, List.length_cons, List.length_nil, List.length_replicate, Nat.zero_add]; rfl) | (simp; done)) ?_)) (by (try simp only [List.cons_append, List.nil_append]); repeat (first | with_reducible exact Sub.refl | with_reducible exact Sub.nil | with_reducible refine Sub.cons (by repeat (first | with_reducible exact Ext.here | with_reducible apply Ext.there)) ?_ | with_reducible refine Sub.tail ?_)) (hK16 (j + 1) (by omega) (by omega))
        · try simp only [decide_eq_true_eq, decide_eq_false_iff_not, Bool.not_eq_true', Bool.not_eq_false', Bool.not_eq_true, Bool.not_eq_false, Int.not_lt, Int.not_le, Nat.not_lt, Nat.not_le, Decidable.not_not, ne_eq] at hc4
          obtain rfl : j = os.length := by omega
          refine WC_exit ?_
          refine Ps_next hK14 ?_
          refine WC_sr fun K21 hK21 => ?_
          refine WL_rd (Rd_fieldAddr rfl fo37_0) rfl rfl rfl ?_
          refine WL_rd (Rd_load rfl tk22 (v := sl pa ps.length pc)) rfl rfl rfl ?_
          refine WL_ac (Ac_call cf11 rfl (hs := apartB_ct (X := arr pa pc 1 23 ePB ps) (ps := ps) (hS := hSq) (hb := BOk_b hbk.b1))) rfl rfl rfl ?_
          rintro _ _ ⟨⟨⟩, rfl, hA⟩
          simp only [List.cons_append, List.nil_append] at hA
          replace hA := hA.symm
          subst hA
          refine WL_rd (Rd_move rfl) rfl rfl rfl ?_
          refine WL_rd (Rd_fieldAddr rfl fo37_2) rfl rfl rfl ?_
          refine WL_rd (Rd_load rfl tk35 (v := sl oa os.length oc)) rfl rfl rfl ?_
          refine WL_ac (Ac_call cf12 rfl (hs := apartLL_ct (X := arr oa oc 1 22 eRL os) (rs := os) (hS := hSo) (hR := fun r hr => ⟨(hbk.o1 r hr).1, (hbk.o1 r hr).2.1⟩) (hB := fun r hr => (hbk.o1 r hr).2.2))) rfl rfl rfl ?_
          rintro _ _ ⟨⟨⟩, rfl, hA⟩
          simp only [List.cons_append, List.nil_append] at hA
          replace hA := hA.symm
          subst hA
          refine WL_rd (Rd_pickT rfl rfl) rfl rfl rfl ?_
          refine WL_rd (Rd_assign rfl) rfl rfl rfl ?_
          refine WL_end hK21 ?_
          refine WC_ret ?_
          exact hret.go () (Rs1 rfl rfl)
end Go.Proofs.Ytlcafifjhilleaa
