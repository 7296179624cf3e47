/-
  Contracts of functions that the claim reaches, or the logic and the plain laws that they rest on, or the row over them. (Conditions: none beyond the statement.)
-/
import Derived.Test.YthkchjcodibaeaaZqShC
set_option linter.all false
namespace Go.Proofs.Ythkchjcodibaeaa
open Go.RowKit Go.SL Go.ShM
set_option maxHeartbeats 1000000
set_option maxRecDepth 20000
set_option linter.all false
theorem ais25 : ais Try.prog 25 = some (8, 24) := by kernel_rfl
theorem cf31 : cfn Try.prog 31 = true := by kernel_rfl
theorem cf33 : cfn Try.prog 33 = true := by kernel_rfl
theorem fo30_0 : fo Try.prog 30 0 = some (0, 3) := by kernel_rfl
theorem fo30_1 : fo Try.prog 30 1 = some (1, 25) := by kernel_rfl
theorem fo30_2 : fo Try.prog 30 2 = some (9, 28) := by kernel_rfl
theorem fo30_3 : fo Try.prog 30 3 = some (73, 3) := by kernel_rfl
theorem fo30_4 : fo Try.prog 30 4 = some (74, 27) := by kernel_rfl
theorem sz30 : sz Try.prog 30 = some 75 := by kernel_rfl
theorem tk30 : tk Try.prog 30 = some (some 75) := by kernel_rfl
theorem ud22 : Try.prog.underlying 22 = some (.slice 30) := by kernel_rfl
theorem zr30 : zr Try.prog 30 = some [.int .i64 0, .int .u32 0, .int .u32 0, .int .u32 0, .int .u32 0, .int .u32 0, .int .u32 0, .int .u32 0, .int .u32 0, .int .u8 0, .int .u8 0, .int .u8 0, .int .u8 0, .int .u8 0, .int .u8 0, .int .u8 0, .int .u8 0, .int .u8 0, .int .u8 0, .int .u8 0, .int .u8 0, .int .u8 0, .int .u8 0, .int .u8 0, .int .u8 0, .int .u8 0, .int .u8 0, .int .u8 0, .int .u8 0, .int .u8 0, .int .u8 0, .int .u8 0, .int .u8 0, .int .u8 0, .int .u8 0, .int .u8 0, .int .u8 0, .int .u8 0, .int .u8 0, .int .u8 0, .int .u8 0, .int .u8 0, .int .u8 0, .int .u8 0, .int .u8 0, .int .u8 0, .int .u8 0, .int .u8 0, .int .u8 0, .int .u8 0, .int .u8 0, .int .u8 0, .int .u8 0, .int .u8 0, .int .u8 0, .int .u8 0, .int .u8 0, .int .u8 0, .int .u8 0, .int .u8 0, .int .u8 0, .int .u8 0, .int .u8 0, .int .u8 0, .int .u8 0, .int .u8 0, .int .u8 0, .int .u8 0, .int .u8 0, .int .u8 0, .int .u8 0, .int .u8 0, .int .u8 0, .int .i64 0, .slice none 0 0] := by kernel_rfl
theorem Calls_ct {W : World} {v : Value} {qs : List OQ} {ao : Option Addr} {cap2 : Nat} (hS : Sv [old W] v 75 eOQ qs ao cap2 := by assumption) (hQ : ∀ q ∈ qs, OKq W 1048576 q := by assumption) (hn : qs.length ≤ 1048576 := by omega) : Ct Try.prog 3 [v] [old W] (fun _ : Unit => .bool true) (fun _ => [old W]) := by
  refine Ct_body (n := 84) Try.func3 rfl rfl rfl fun F w0 Q hret hnorm hp => ?_
  change WC _ _ _ _ _ _ _ (_ :: F)
  have hkl := iniM_len
  refine WC_sr fun K1 hK1 => ?_
  refine WL_rd (Rd_assign rfl) rfl rfl rfl ?_
  refine WL_end hK1 ?_
  refine WC_seq fun K2 hK2 => ?_
  refine WC_sr fun K3 hK3 => ?_
  refine WL_ac (Ac_call cf24 rfl (hs := lives_ct)) rfl rfl rfl ?_
  rintro _ _ ⟨⟨⟩, rfl, hA⟩
  simp only [List.cons_append, List.nil_append] at hA
  replace hA := hA.symm
  subst hA
  refine WL_rd (Rd_not rfl) rfl rfl rfl ?_
  refine WL_rd (Rd_move rfl) rfl rfl rfl ?_
  refine WL_ac (Ac_call cf25 rfl (hs := init_ct)) rfl rfl rfl ?_
  rintro _ _ ⟨⟨⟩, rfl, hA⟩
  simp only [List.cons_append, List.nil_append] at hA
  replace hA := hA.symm
  subst hA
  refine WL_ac (Ac_call cf26 rfl (hs := iniR_ct)) rfl rfl rfl ?_
  rintro _ _ ⟨⟨⟩, rfl, hA⟩
  simp only [List.cons_append, List.nil_append] at hA
  replace hA := hA.symm
  subst hA
  refine WL_rd (Rd_isF (Rd_neW rfl rfl ais25) (by simp)) rfl rfl rfl ?_
  refine WL_rd (Rd_pickF rfl rfl) rfl rfl rfl ?_
  refine WL_end hK3 ?_
  refine WC_condF rfl ?_
  refine WC_skip ?_
  refine Ps_next hK2 ?_
  refine WC_sr fun K4 hK4 => ?_
  refine WL_rd (Rd_assign (v := sl none 0 0) rfl) rfl rfl rfl ?_
  refine WL_nilarr fP 1 32 ?_
  refine WL_rd (Rd_assign (v := sl none 0 0) rfl) rfl rfl rfl ?_
  refine WL_nilarr fP 1 32 ?_
  refine WL_end hK4 ?_
  refine WC_seq fun K5 hK5 => ?_
  refine WC_sr fun K6 hK6 => ?_
  refine WL_rd (Rd_assign rfl) rfl rfl rfl ?_
  refine WL_end hK6 ?_
  refine WC_block ?_
  refine WC_star0 (FPB 5) ?_
  refine WC_star0 (FPB 5) ?_
  refine WC_imp (fun w h => sat_nil (e := 1) (T := 32) (f := ePB) h) ?_
  refine WC_imp (fun w h => sat_nil (e := 1) (T := 32) (f := ePB) h) ?_
  refine WC_loopK (σ := Nat × (List PB) × (Option Nat) × Nat × (List PB) × (Option Nat) × Nat) (fun ⟨k, ps, pa, pc, ws, wa, wc⟩ => [(3, sl pa ps.length pc), (4, sl wa ws.length wc), (5, .int .i64 ((k : Nat) : Int))]) (fun ⟨k, ps, pa, pc, ws, wa, wc⟩ => [star (FPB 5) ps, arr pa pc 1 32 ePB ps, star (FPB 5) ws, arr wa wc 1 32 ePB ws]) (fun ⟨k, ps, pa, pc, ws, wa, wc⟩ => k ≤ qs.length ∧ ps.length ≤ 2 * k ∧ ps.length = ws.length ∧ ps.map (·.l) = ws.map (·.l) ∧ BOk ps ∧ BOk ws) (fun ⟨k, ps, pa, pc, ws, wa, wc⟩ => qs.length - k) ⟨0, [], none, 0, [], none, 0⟩ [0, 77, 78, 79, 80, 81, 82, 83] (by repeat (first | exact Kep.nil | apply Kep.drop rfl | apply Kep.keep rfl)) (by (try dsimp only); repeat (first | with_reducible exact Gv.nil | (with_reducible apply Gv.cons; · (repeat (first | with_reducible exact Ext.here | with_reducible apply Ext.there))))) ?_ ?_ Sub.refl ?_
  · exact ⟨Nat.zero_le _, Nat.zero_le _, rfl, rfl, BOk_nil, BOk_nil⟩
  · (try dsimp only); exact (Wk.cons (by first | rfl | (simp only [List.length_append, List.length_cons, List.length_nil, List.length_replicate, Nat.zero_add]; rfl) | (simp; done)) (Wk.cons (by first | rfl | (simp only [List.length_append, List.length_cons, List.length_nil, List.length_replicate, Nat.zero_add]; rfl) | (simp; done)) (Wk.cons (by first | rfl | (simp only [List.length_append, List.length_cons, List.length_nil, List.length_replicate, Nat.zero_add]; rfl) | (simp; done)) Wk.nil)))
  · rintro ⟨k, ps, pa, pc, ws, wa, wc⟩ ⟨hk, hpk, hlw, hml, hb1, hb2⟩ K7 hK7
    simp only [List.cons_append, List.nil_append]
    refine WC_seq fun K8 hK8 => ?_
    refine WC_sr fun K9 hK9 => ?_
    refine WL_rd (Rd_move rfl) rfl rfl rfl ?_
    refine WL_rd (Rd_move rfl) rfl rfl rfl ?_
    refine WL_rd (Rd_len_sv rfl rfl ud22) rfl rfl rfl ?_
    refine WL_rd (Rd_lssN rfl rfl) rfl rfl rfl ?_
    refine WL_end hK9 ?_
    refine WC_cond rfl (fun hc1 => ?_) (fun hc1 => ?_)
    · try simp only [decide_eq_true_eq, decide_eq_false_iff_not, Bool.not_eq_true', Bool.not_eq_false', Bool.not_eq_true, Bool.not_eq_false, Int.not_lt, Int.not_le, Nat.not_lt, Nat.not_le, Decidable.not_not, ne_eq] at hc1
      obtain ⟨q, hq⟩ : ∃ q, qs[k]? = some q := ⟨_, List.getElem?_eq_getElem (by omega)⟩
      obtain ⟨hqS, hqP, hqj, hqn⟩ := hQ q (List.mem_of_getElem? hq)
      have hpl := padL_len q.n
      refine WC_skip ?_
      refine Ps_next hK8 ?_
      refine WC_seq fun K10 hK10 => ?_
      refine WC_block ?_
      refine WC_sr fun K11 hK11 => ?_
      refine WL_rd (Rd_move rfl) rfl rfl rfl ?_
      refine WL_rd (Rd_move rfl) rfl rfl rfl ?_
      refine WL_rd (Rd_index_sv k rfl rfl ud22 sz30 (hA := hS) (hi := by omega)) rfl rfl rfl ?_
      refine WL_rd (Rd_loadg_sv (f := eOQ) (i := k) rfl tk30 (hA := hS) (hl := hq)) rfl rfl rfl ?_
      refine WL_ac (Ac_alloc zr30) rfl rfl rfl ?_
      rintro _ _ ⟨b6, rfl, rfl⟩
      refine WL_ac0 (Ac_store (ys := eOQ q) rfl rfl sz30 (h1 := encOQ.one q) (hv := by simpa [Value.cells] using eOQ_len q) (hr := by simp [Value.cells])) rfl rfl ?_
      rintro _ _ rfl
      refine WL_end hK11 ?_
      refine WC_sr fun K12 hK12 => ?_
      refine WL_rd (Rd_fieldAddr rfl fo30_0) rfl rfl rfl ?_
      refine WL_rd (Rd_load rfl tk3 (v := .int .i64 q.call)) rfl rfl rfl ?_
      refine WL_end hK12 ?_
      refine WC_block ?_
      refine WC_sr fun K13 hK13 => ?_
      refine WL_rd (Rd_eql rfl rfl) rfl rfl rfl ?_
      refine WL_rd (Rd_assign rfl) rfl rfl rfl ?_
      refine WL_end hK13 ?_
      refine WC_cond rfl (fun hc2 => ?_) (fun hc2 => ?_)
      · try simp only [decide_eq_true_eq, decide_eq_false_iff_not, Bool.not_eq_true', Bool.not_eq_false', Bool.not_eq_true, Bool.not_eq_false, Int.not_lt, Int.not_le, Nat.not_lt, Nat.not_le, Decidable.not_not, ne_eq] at hc2
        refine WC_seq fun K14 hK14 => ?_
        refine WC_drawA mix (fun i => ([2, 2, 2, 2, 1, 2, 2, 2, 2, 1, 2] : List Nat).getD i 0) ?_
        refine WJ_takeP 0 rfl (by kernel_rfl) (Rd_fieldAddr rfl fo30_1) rfl rfl rfl (hp _ _) ?_
        refine WJ_tk 1 (Rd_loadg (vs := q.ws.flatMap (eU .u32)) rfl tk25 (hl := by rw [eOQ_len]; omega) (hi := eOQ_ws q)) hp ?_ rfl (by kernel_rfl) rfl rfl rfl
        refine WJ_takeP 2 rfl (by kernel_rfl) (Rd_fieldAddr rfl fo30_2) rfl rfl rfl (hp _ _) ?_
        refine WJ_tk 3 (Rd_loadg (vs := q.bs.flatMap (eU .u8)) rfl tk28 (hl := by rw [eOQ_len]; omega) (hi := eOQ_bs q)) hp ?_ rfl (by kernel_rfl) rfl rfl rfl
        refine WJ_takeP 5 rfl (by kernel_rfl) (Rd_fieldAddr rfl fo30_1) rfl rfl rfl (hp _ _) ?_
        refine WJ_tk 6 (Rd_loadg (vs := q.ws.flatMap (eU .u32)) rfl tk25 (hl := by rw [eOQ_len]; omega) (hi := eOQ_ws q)) hp ?_ rfl (by kernel_rfl) rfl rfl rfl
        refine WJ_takeP 7 rfl (by kernel_rfl) (Rd_fieldAddr rfl fo30_2) rfl rfl rfl (hp _ _) ?_
        refine WJ_tk 8 (Rd_loadg (vs := q.bs.flatMap (eU .u8)) rfl tk28 (hl := by rw [eOQ_len]; omega) (hi := eOQ_bs q)) hp ?_ rfl (by kernel_rfl) rfl rfl rfl
        refine WJ_all (rs := [4]) (by kernel_rfl) rfl ?_
        refine WI_one ?_
        refine WI_ac rfl (Ac_call cf27 rfl (hs := mix_ct (hs := q.ws) (bs := q.bs) (hh := q.hw) (hb := q.hb))) rfl rfl rfl rfl ?_
        rintro _ _ ⟨⟨⟩, rfl, hA⟩
        simp only [List.cons_append, List.nil_append] at hA
        replace hA := hA.symm
        subst hA
        refine ⟨(fun _ => (by repeat (first | with_reducible exact Sub.refl | with_reducible exact Sub.nil | with_reducible refine Sub.cons (by repeat (first | with_reducible exact Ext.here | with_reducible apply Ext.there)) ?_ | with_reducible refine Sub.tail ?_))), ?_⟩
        refine WJ_all (rs := [9]) (by kernel_rfl) rfl ?_
        refine WI_one ?_
        refine WI_ac rfl (Ac_call cf28 rfl (hs := mixR_ct (hs := q.ws) (bs := q.bs) (hh := q.hw) (hb := q.hb))) rfl rfl rfl rfl ?_
        rintro _ _ ⟨⟨⟩, rfl, hA⟩
        simp only [List.cons_append, List.nil_append] at hA
        replace hA := hA.symm
        subst hA
        refine ⟨(fun _ => (by repeat (first | with_reducible exact Sub.refl | with_reducible exact Sub.nil | with_reducible refine Sub.cons (by repeat (first | with_reducible exact Ext.here | with_reducible apply Ext.there)) ?_ | with_reducible refine Sub.tail ?_))), ?_⟩
        refine WJ_takeP 10 rfl (by kernel_rfl) (Rd_isF (Rd_neW rfl rfl ais25 (by exact mixM_len q.hw) (by exact mixM_len q.hw)) (by simp)) rfl rfl rfl (hp _ _) ?_
        refine WJ_done (by kernel_rfl) ?_
        refine Ps_next hK14 ?_
        refine WC_condF rfl ?_
        refine WC_skip ?_
        refine Ps_next hK10 ?_
        refine WC_region ?_
        refine WL_rd (Rd_move rfl) rfl rfl rfl ?_
        refine WL_rd (Rd_addN (j := 1) rfl rfl) rfl rfl rfl ?_
        refine WL_rd (Rd_assign rfl) rfl rfl rfl ?_
        refine WL_nil ?_
        refine Ps_wk (by (try simp only [List.cons_append, List.nil_append]); repeat (first | with_reducible exact Wk.nil | refine Wk.cons (by first | rfl | (simp only [List.length_append, List.length_cons, List.length_nil, List.length_replicate, Nat.zero_add]; rfl) | (simp; done)) ?_)) (by (try simp only [List.cons_append, List.nil_append]); repeat (first | with_reducible exact Sub.refl | with_reducible exact Sub.nil | with_reducible refine Sub.cons (by repeat (first | with_reducible exact Ext.here | with_reducible apply Ext.there)) ?_ | with_reducible refine Sub.tail ?_)) (hK7 ⟨k + 1, ps, pa, pc, ws, wa, wc⟩ (⟨by (try dsimp only); omega, by (try dsimp only); omega, hlw, hml, hb1, hb2⟩) (by (try dsimp only); omega))
      · try simp only [decide_eq_true_eq, decide_eq_false_iff_not, Bool.not_eq_true', Bool.not_eq_false', Bool.not_eq_true, Bool.not_eq_false, Int.not_lt, Int.not_le, Nat.not_lt, Nat.not_le, Decidable.not_not, ne_eq] at hc2
        refine WC_sr fun K15 hK15 => ?_
        refine WL_rd (Rd_eql rfl rfl) rfl rfl rfl ?_
        refine WL_rd (Rd_assign rfl) rfl rfl rfl ?_
        refine WL_end hK15 ?_
        refine WC_cond rfl (fun hc4 => ?_) (fun hc4 => ?_)
        · try simp only [decide_eq_true_eq, decide_eq_false_iff_not, Bool.not_eq_true', Bool.not_eq_false', Bool.not_eq_true, Bool.not_eq_false, Int.not_lt, Int.not_le, Nat.not_lt, Nat.not_le, Decidable.not_not, ne_eq] at hc4
          refine WC_sr fun K16 hK16 => ?_
          refine WL_rd (Rd_assign rfl) rfl rfl rfl ?_
          refine WL_end hK16 ?_
          refine WC_block ?_
          refine WC_loopK (σ := Nat × (List PB) × (Option Nat) × Nat × (List PB) × (Option Nat) × Nat) (fun ⟨j, ps2, pa2, pc2, ws2, wa2, wc2⟩ => [(3, sl pa2 ps2.length pc2), (4, sl wa2 ws2.length wc2), (7, .int .i64 ((j : Nat) : Int))]) (fun ⟨j, ps2, pa2, pc2, ws2, wa2, wc2⟩ => [star (FPB 5) ps2, arr pa2 pc2 1 32 ePB ps2, star (FPB 5) ws2, arr wa2 wc2 1 32 ePB ws2]) (fun ⟨j, ps2, pa2, pc2, ws2, wa2, wc2⟩ => j ≤ 2 ∧ ps2.length = ps.length + j ∧ ps2.length = ws2.length ∧ ps2.map (·.l) = ws2.map (·.l) ∧ BOk ps2 ∧ BOk ws2) (fun ⟨j, ps2, pa2, pc2, ws2, wa2, wc2⟩ => 2 - j) ⟨0, ps, pa, pc, ws, wa, wc⟩ [0, 5, 6, 19, 20, 21, 22, 23, 24, 25, 26, 27, 28, 29, 30, 31, 32, 33, 34, 35, 36, 37, 38, 39, 40, 41, 42, 43, 44, 45, 46, 47, 48, 49, 77, 78, 79, 80, 81, 82, 83] (by repeat (first | exact Kep.nil | apply Kep.drop rfl | apply Kep.keep rfl)) (by (try dsimp only); repeat (first | with_reducible exact Gv.nil | (with_reducible apply Gv.cons; · (repeat (first | with_reducible exact Ext.here | with_reducible apply Ext.there))))) ?_ ?_ Sub.refl ?_
          · exact ⟨Nat.zero_le _, rfl, hlw, hml, hb1, hb2⟩
          · (try dsimp only); exact (Wk.cons (by first | rfl | (simp only [List.length_append, List.length_cons, List.length_nil, List.length_replicate, Nat.zero_add]; rfl) | (simp; done)) (Wk.cons (by first | rfl | (simp only [List.length_append, List.length_cons, List.length_nil, List.length_replicate, Nat.zero_add]; rfl) | (simp; done)) (Wk.cons (by first | rfl | (simp only [List.length_append, List.length_cons, List.length_nil, List.length_replicate, Nat.zero_add]; rfl) | (simp; done)) Wk.nil)))
          · rintro ⟨j, ps2, pa2, pc2, ws2, wa2, wc2⟩ ⟨hj, hpj, hlw2, hml2, hb12, hb22⟩ K17 hK17
            simp only [List.cons_append, List.nil_append]
            refine WC_seq fun K18 hK18 => ?_
            refine WC_sr fun K19 hK19 => ?_
            refine WL_rd (Rd_move rfl) rfl rfl rfl ?_
            refine WL_rd (Rd_lssN (j := 2) rfl rfl) rfl rfl rfl ?_
            refine WL_end hK19 ?_
            refine WC_cond rfl (fun hc5 => ?_) (fun hc5 => ?_)
            · try simp only [decide_eq_true_eq, decide_eq_false_iff_not, Bool.not_eq_true', Bool.not_eq_false', Bool.not_eq_true, Bool.not_eq_false, Int.not_lt, Int.not_le, Nat.not_lt, Nat.not_le, Decidable.not_not, ne_eq] at hc5
              refine WC_skip ?_
              refine Ps_next hK18 ?_
              refine WC_seq fun K20 hK20 => ?_
              refine WC_block ?_
              refine WC_sr fun K21 hK21 => ?_
              refine WL_rd (Rd_fieldAddr rfl fo30_3) rfl rfl rfl ?_
              refine WL_rd (Rd_load rfl tk3 (v := .int .i64 q.n) (hi := eOQ_n q)) rfl rfl rfl ?_
              refine WL_ac (Ac_call cf29 rfl (hs := padI_ct (n := q.n))) rfl rfl rfl ?_
              rintro _ _ ⟨⟨a57, cap57⟩, rfl, hA⟩
              simp only [List.cons_append, List.nil_append] at hA
              replace hA := hA.symm
              subst hA
              refine WL_fact (fun w h => arr_facts (a := a57) (cap := cap57) (e := 1) (T := 5) (f := (eU .u8 (w := 8))) (l := (padL q.n)) (by repeat (first | with_reducible exact Has.here | with_reducible refine Has.there ?_)) h) (fun h57 => ?_)
              refine WL_rd (Rd_move rfl) rfl rfl rfl ?_
              refine WL_rd (Rd_ext0 rfl) rfl rfl rfl ?_
              refine WL_rd (Rd_ext1 rfl) rfl rfl rfl ?_
              refine WL_rd (Rd_assign rfl) rfl rfl rfl ?_
              refine WL_rd (Rd_assign rfl) rfl rfl rfl ?_
              refine WL_end hK21 ?_
              refine WC_sr fun K22 hK22 => ?_
              refine WL_rd (Rd_fieldAddr rfl fo30_3) rfl rfl rfl ?_
              refine WL_rd (Rd_load rfl tk3 (v := .int .i64 q.n) (hi := eOQ_n q)) rfl rfl rfl ?_
              refine WL_ac (Ac_call cf30 rfl (hs := padRI_ct (n := q.n))) rfl rfl rfl ?_
              rintro _ _ ⟨⟨a63, cap63⟩, rfl, hA⟩
              simp only [List.cons_append, List.nil_append] at hA
              replace hA := hA.symm
              subst hA
              refine WL_fact (fun w h => arr_facts (a := a63) (cap := cap63) (e := 1) (T := 5) (f := (eU .u8 (w := 8))) (l := (padL q.n)) (by repeat (first | with_reducible exact Has.here | with_reducible refine Has.there ?_)) h) (fun h63 => ?_)
              refine WL_rd (Rd_move rfl) rfl rfl rfl ?_
              refine WL_rd (Rd_ext0 rfl) rfl rfl rfl ?_
              refine WL_rd (Rd_ext1 rfl) rfl rfl rfl ?_
              refine WL_rd (Rd_assign rfl) rfl rfl rfl ?_
              refine WL_rd (Rd_assign rfl) rfl rfl rfl ?_
              refine WL_end hK22 ?_
              refine WC_sr fun K23 hK23 => ?_
              refine WL_rd (Rd_move rfl) rfl rfl rfl ?_
              refine WL_rd (Rd_move rfl) rfl rfl rfl ?_
              refine WL_ac (Ac_bs1 (xs := [sl a57 (padL q.n).length cap57]) rfl ud27 zr32 sz32) rfl rfl rfl ?_
              rintro _ _ ⟨b68, rfl, rfl⟩
              refine WL_ac (Ac_append1 (f := ePB) encPB (⟨a57, cap57, padL q.n⟩ : PB) rfl rfl ud27 ud27 el32) rfl rfl rfl ?_
              rintro _ _ ⟨a69, cap69, rfl, rfl⟩
              rw [show arr a57 cap57 1 5 (eU .u8) (padL q.n) = FPB 5 ⟨a57, cap57, padL q.n⟩ from rfl]
              refine WL_snoc (FPB 5) ps2 ⟨a57, cap57, padL q.n⟩ ?_
              refine WL_rd (Rd_assign rfl) rfl rfl rfl ?_
              refine WL_end hK23 ?_
              refine WC_sr fun K24 hK24 => ?_
              refine WL_rd (Rd_move rfl) rfl rfl rfl ?_
              refine WL_rd (Rd_move rfl) rfl rfl rfl ?_
              refine WL_ac (Ac_bs1 (xs := [sl a63 (padL q.n).length cap63]) rfl ud27 zr32 sz32) rfl rfl rfl ?_
              rintro _ _ ⟨b72, rfl, rfl⟩
              refine WL_ac (Ac_append1 (f := ePB) encPB (⟨a63, cap63, padL q.n⟩ : PB) rfl rfl ud27 ud27 el32) rfl rfl rfl ?_
              rintro _ _ ⟨a73, cap73, rfl, rfl⟩
              rw [show arr a63 cap63 1 5 (eU .u8) (padL q.n) = FPB 5 ⟨a63, cap63, padL q.n⟩ from rfl]
              refine WL_snoc (FPB 5) ws2 ⟨a63, cap63, padL q.n⟩ ?_
              refine WL_rd (Rd_assign rfl) rfl rfl rfl ?_
              refine WL_end hK24 ?_
              refine WC_sr fun K25 hK25 => ?_
              refine WL_rd (Rd_move rfl) rfl rfl rfl ?_
              refine WL_rd (Rd_move rfl) rfl rfl rfl ?_
              refine WL_rd (Rd_isF (Rd_neq rfl rfl)) rfl rfl rfl ?_
              refine WL_end hK25 ?_
              refine WC_condF rfl ?_
              refine WC_skip ?_
              refine Ps_next hK20 ?_
              refine WC_region ?_
              refine WL_rd (Rd_move rfl) rfl rfl rfl ?_
              refine WL_rd (Rd_addN (j := 1) rfl rfl) rfl rfl rfl ?_
              refine WL_rd (Rd_assign rfl) rfl rfl rfl ?_
              refine WL_nil ?_
              refine Ps_wk (by (try simp only [List.cons_append, List.nil_append]); repeat (first | with_reducible exact Wk.nil | refine Wk.cons (by first | rfl | (simp only [List.length_append, List.length_cons, List.length_nil, List.length_replicate, Nat.zero_add]; rfl) | (simp; done)) ?_)) (by (try simp only [List.cons_append, List.nil_append]); repeat (first | with_reducible exact Sub.refl | with_reducible exact Sub.nil | with_reducible refine Sub.cons (by repeat (first | with_reducible exact Ext.here | with_reducible apply Ext.there)) ?_ | with_reducible refine Sub.tail ?_)) (hK17 ⟨j + 1, ps2 ++ [⟨a57, cap57, padL q.n⟩], a69, cap69, ws2 ++ [⟨a63, cap63, padL q.n⟩], a73, cap73⟩ (⟨by (try dsimp only); omega, by (try dsimp only); rw [List.length_append, List.length_singleton]; omega, by (try dsimp only); rw [List.length_append, List.length_append, List.length_singleton, List.length_singleton]; omega, by (try dsimp only); rw [List.map_append, List.map_append, hml2]; rfl, BOk_snoc hb12 h57.1 h57.2 (by (try dsimp only); omega), BOk_snoc hb22 h63.1 h63.2 (by (try dsimp only); omega)⟩) (by (try dsimp only); omega))
            · try simp only [decide_eq_true_eq, decide_eq_false_iff_not, Bool.not_eq_true', Bool.not_eq_false', Bool.not_eq_true, Bool.not_eq_false, Int.not_lt, Int.not_le, Nat.not_lt, Nat.not_le, Decidable.not_not, ne_eq] at hc5
              refine WC_exit ?_
              refine Ps_next hK10 ?_
              refine WC_region ?_
              refine WL_rd (Rd_move rfl) rfl rfl rfl ?_
              refine WL_rd (Rd_addN (j := 1) rfl rfl) rfl rfl rfl ?_
              refine WL_rd (Rd_assign rfl) rfl rfl rfl ?_
              refine WL_nil ?_
              refine Ps_wk (by (try simp only [List.cons_append, List.nil_append]); repeat (first | with_reducible exact Wk.nil | refine Wk.cons (by first | rfl | (simp only [List.length_append, List.length_cons, List.length_nil, List.length_replicate, Nat.zero_add]; rfl) | (simp; done)) ?_)) (by (try simp only [List.cons_append, List.nil_append]); repeat (first | with_reducible exact Sub.refl | with_reducible exact Sub.nil | with_reducible refine Sub.cons (by repeat (first | with_reducible exact Ext.here | with_reducible apply Ext.there)) ?_ | with_reducible refine Sub.tail ?_)) (hK7 ⟨k + 1, ps2, pa2, pc2, ws2, wa2, wc2⟩ (⟨by (try dsimp only); omega, by (try dsimp only); omega, hlw2, hml2, hb12, hb22⟩) (by (try dsimp only); omega))
        · try simp only [decide_eq_true_eq, decide_eq_false_iff_not, Bool.not_eq_true', Bool.not_eq_false', Bool.not_eq_true, Bool.not_eq_false, Int.not_lt, Int.not_le, Nat.not_lt, Nat.not_le, Decidable.not_not, ne_eq] at hc4
          refine WC_sr fun K26 hK26 => ?_
          refine WL_rd (Rd_fieldAddr rfl fo30_4) rfl rfl rfl ?_
          refine WL_rd (Rd_load rfl tk27 (v := q.p.v) (hi := eOQ_p q)) rfl rfl rfl ?_
          refine WL_ac (Ac_call cf31 rfl (hs := summed_ct (X := old W) (ps := q.p.l) (hS := hqS) (hP := hqP) (hn := hqj) (hk := hqn))) rfl rfl rfl ?_
          rintro _ _ ⟨⟨⟩, rfl, hA⟩
          simp only [List.cons_append, List.nil_append] at hA
          replace hA := hA.symm
          subst hA
          refine WL_rd (Rd_not rfl) rfl rfl rfl ?_
          refine WL_end hK26 ?_
          refine WC_condF rfl ?_
          refine WC_skip ?_
          refine Ps_next hK10 ?_
          refine WC_region ?_
          refine WL_rd (Rd_move rfl) rfl rfl rfl ?_
          refine WL_rd (Rd_addN (j := 1) rfl rfl) rfl rfl rfl ?_
          refine WL_rd (Rd_assign rfl) rfl rfl rfl ?_
          refine WL_nil ?_
          refine Ps_wk (by (try simp only [List.cons_append, List.nil_append]); repeat (first | with_reducible exact Wk.nil | refine Wk.cons (by first | rfl | (simp only [List.length_append, List.length_cons, List.length_nil, List.length_replicate, Nat.zero_add]; rfl) | (simp; done)) ?_)) (by (try simp only [List.cons_append, List.nil_append]); repeat (first | with_reducible exact Sub.refl | with_reducible exact Sub.nil | with_reducible refine Sub.cons (by repeat (first | with_reducible exact Ext.here | with_reducible apply Ext.there)) ?_ | with_reducible refine Sub.tail ?_)) (hK7 ⟨k + 1, ps, pa, pc, ws, wa, wc⟩ (⟨by (try dsimp only); omega, by (try dsimp only); omega, hlw, hml, hb1, hb2⟩) (by (try dsimp only); omega))
    · try simp only [decide_eq_true_eq, decide_eq_false_iff_not, Bool.not_eq_true', Bool.not_eq_false', Bool.not_eq_true, Bool.not_eq_false, Int.not_lt, Int.not_le, Nat.not_lt, Nat.not_le, Decidable.not_not, ne_eq] at hc1
      refine WC_fact (fun w h => arr_facts (a := pa) (cap := pc) (e := 1) (T := 32) (f := ePB) (l := ps) (by repeat (first | with_reducible exact Has.here | with_reducible refine Has.there ?_)) h) (fun hpf => ?_)
      refine WC_fact (fun w h => arr_facts (a := wa) (cap := wc) (e := 1) (T := 32) (f := ePB) (l := ws) (by repeat (first | with_reducible exact Has.here | with_reducible refine Has.there ?_)) h) (fun hwf => ?_)
      have hSq : Sv [arr pa pc 1 32 ePB ps] (sl pa ps.length pc) 1 ePB ps (pa.map fun g => ⟨g, 0, none⟩) pc := Sv_own' encPB hpf.1 hpf.2
      have hSp : Sv [arr pa pc 1 32 ePB ps] (sl pa ps.length pc) 1 fP (ps.map ptB) (pa.map fun g => ⟨g, 0, none⟩) pc := Sv_mapped hSq (fun e _ => rfl)
      have hSw : Sv [arr wa wc 1 32 ePB ws] (sl wa ws.length wc) 1 fP (ws.map ptB) (wa.map fun g => ⟨g, 0, none⟩) wc := Sv_mapped (Sv_own' encPB hwf.1 hwf.2) (fun e _ => rfl)
      have hPp : ∀ p ∈ ps.map ptB, RdP [sep [star (FPB 5) ps, arr pa pc 1 32 ePB ps, star (FPB 5) ws, arr wa wc 1 32 ePB ws]] p := fun p h => (Rd_ptB (T := 5) hb1 p h).pk (by repeat (first | with_reducible exact Has.here | with_reducible refine Has.there ?_))
      have hPw : ∀ p ∈ ws.map ptB, RdP [sep [star (FPB 5) ps, arr pa pc 1 32 ePB ps, star (FPB 5) ws, arr wa wc 1 32 ePB ws]] p := fun p h => (Rd_ptB (T := 5) hb2 p h).pk (by repeat (first | with_reducible exact Has.here | with_reducible refine Has.there ?_))
      have hmm : (ps.map ptB).map (·.l) = (ws.map ptB).map (·.l) := by rw [List.map_map, List.map_map]; exact hml
      refine WC_pk0 ?_
      refine WC_pull (arr wa wc 1 32 ePB ws) ?_
      refine WC_pull (star (FPB 5) ws) ?_
      refine WC_pull (arr pa pc 1 32 ePB ps) ?_
      refine WC_pull (star (FPB 5) ps) ?_
      refine WC_exit ?_
      refine Ps_next hK5 ?_
      refine WC_sr fun K27 hK27 => ?_
      refine WL_rd (Rd_move rfl) rfl rfl rfl ?_
      refine WL_rd (Rd_move rfl) rfl rfl rfl ?_
      refine WL_ac (Ac_call cf32 rfl (hs := sameL_ct (X := sep [star (FPB 5) ps, arr pa pc 1 32 ePB ps, star (FPB 5) ws, arr wa wc 1 32 ePB ws]) (ps := ps.map ptB) (qs := ws.map ptB) (hS := hSp.pk (by repeat (first | with_reducible exact Has.here | with_reducible refine Has.there ?_))) (hS' := hSw.pk (by repeat (first | with_reducible exact Has.here | with_reducible refine Has.there ?_))) (hP := hPp) (hQ := hPw) (hl := by rw [List.length_map]; omega) (hb := BOk_bt hb1))) rfl rfl rfl ?_
      rintro _ _ ⟨⟨⟩, rfl, hA⟩
      simp only [List.cons_append, List.nil_append] at hA
      replace hA := hA.symm
      subst hA
      rw [decide_eq_true hmm]
      refine WL_unpk [star (FPB 5) ps, arr pa pc 1 32 ePB ps, star (FPB 5) ws, arr wa wc 1 32 ePB ws] ?_
      simp only [List.cons_append, List.nil_append]
      refine WL_rd (Rd_move rfl) rfl rfl rfl ?_
      refine WL_rd (Rd_move rfl) rfl rfl rfl ?_
      refine WL_ac (Ac_call cf33 rfl (hs := apartB_ct (X := arr pa pc 1 32 ePB ps) (ps := ps) (hS := hSq) (hb := BOk_b hb1))) rfl rfl rfl ?_
      rintro _ _ ⟨⟨⟩, rfl, hA⟩
      simp only [List.cons_append, List.nil_append] at hA
      replace hA := hA.symm
      subst hA
      refine WL_rd (Rd_pickT rfl rfl) rfl rfl rfl ?_
      refine WL_rd (Rd_assign rfl) rfl rfl rfl ?_
      refine WL_end hK27 ?_
      refine WC_ret ?_
      exact hret.go () (Rs1 rfl rfl)
end Go.Proofs.Ythkchjcodibaeaa
