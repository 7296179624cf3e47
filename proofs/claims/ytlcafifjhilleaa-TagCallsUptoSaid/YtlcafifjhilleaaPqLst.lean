/-
  Contracts of functions that the claim reaches, or the logic and the plain laws that they rest on, or the row over them. (Conditions: none beyond the statement.)
-/
import Derived.Test.YtlcafifjhilleaaPqD
import Derived.Test.YtlcafifjhilleaaPqC
import Derived.Test.YtlcafifjhilleaaShLst
set_option linter.all false
namespace Go.Proofs.Ytlcafifjhilleaa
open Go.RowKit Go.SL Go.ShM
set_option maxHeartbeats 1000000
set_option maxRecDepth 20000
set_option linter.all false
theorem cf8 : cfn Try.prog 8 = true := by kernel_rfl
theorem cf30 : cfn Try.prog 30 = true := by kernel_rfl
theorem fo64_0 : fo Try.prog 64 0 = some (0, 22) := by kernel_rfl
theorem fo64_1 : fo Try.prog 64 1 = some (1, 22) := by kernel_rfl
theorem fo64_2 : fo Try.prog 64 2 = some (2, 22) := by kernel_rfl
theorem sz64 : sz Try.prog 64 = some 3 := by kernel_rfl
theorem tk64 : tk Try.prog 64 = some (some 3) := by kernel_rfl
theorem zr64 : zr Try.prog 64 = some [.slice none 0 0, .slice none 0 0, .slice none 0 0] := by kernel_rfl
theorem lentL_ct {X : Asn} {v : Value} {ps : List Pt} {ao : Option Addr} {cap : Nat} (hS : Sv [X] v 1 fP ps ao cap := by assumption) (hP : ∀ p ∈ ps, RdP [X] p := by assumption) (hl : ps.length ≤ 900000000 := by omega) (hb : ∀ p ∈ ps, p.l.length ≤ 800000000000 := by assumption) : Ct Try.prog 24 [v] [X] (fun g : {g : LG // LGok ps g} => .agg [sl g.val.la ps.length g.val.lc, sl g.val.la (ps.length + 70) g.val.lc, sl g.val.ea ps.length g.val.ec].toArray) (fun g => [X, star (FL 5) (g.val.es ++ g.val.sp), arr g.val.la g.val.lc 1 23 eLn (g.val.es ++ g.val.sp), arr g.val.ea g.val.ec 1 23 eEn g.val.es]) := by
  refine Ct_body (n := 55) Try.func24 rfl rfl rfl fun F w0 Q hret hnorm hp => ?_
  change WC _ _ _ _ _ _ _ (_ :: F)
  refine WC_sr fun K1 hK1 => ?_
  refine WL_ac (Ac_alloc zr64) rfl rfl rfl ?_
  rintro _ _ ⟨b2, rfl, rfl⟩
  refine WL_end hK1 ?_
  refine WC_sr fun K2 hK2 => ?_
  refine WL_ac (Ac_alloc zr64) rfl rfl rfl ?_
  rintro _ _ ⟨b3, rfl, rfl⟩
  refine WL_end hK2 ?_
  refine WC_seq fun K3 hK3 => ?_
  refine WC_sr fun K4 hK4 => ?_
  refine WL_rd (Rd_assign rfl) rfl rfl rfl ?_
  refine WL_end hK4 ?_
  refine WC_block ?_
  refine WC_star0 (FL 5) ?_
  refine WC_imp (fun w h => sat_nil (e := 1) (T := 23) (f := eLn) h) ?_
  refine WC_imp (fun w h => sat_nil (e := 1) (T := 23) (f := eEn) h) ?_
  rw [show cl b3 64 [Value.slice none 0 0, Value.slice none 0 0, Value.slice none 0 0] = cl b3 64 [sl none 0 0, sl none 0 0, sl none 0 0] from rfl]
  refine WC_loopK (σ := Nat × (List LE) × (Option Nat) × Nat × (Option Nat) × Nat) (fun ⟨k, es, la, lc, ea, ec⟩ => [(4, .int .i64 ((k : Nat) : Int))]) (fun ⟨k, es, la, lc, ea, ec⟩ => [star (FL 5) es, cl b3 64 [sl none 0 0, sl la k lc, sl ea k ec], arr la lc 1 23 eLn es, arr ea ec 1 23 eEn es]) (fun ⟨k, es, la, lc, ea, ec⟩ => k ≤ ps.length ∧ es.length = k ∧ shG es = lentG (ps.take k) ∧ LOk es) (fun ⟨k, es, la, lc, ea, ec⟩ => ps.length - k) ⟨0, [], none, 0, none, 0⟩ [0, 2, 3, 6, 36, 37, 38, 39, 40, 41, 42, 43, 44, 45, 46, 47, 48, 49, 50, 51, 52, 53, 54] (by repeat (first | exact Kep.nil | apply Kep.drop rfl | apply Kep.keep rfl)) (by (try dsimp only); repeat (first | with_reducible exact Gv.nil | (with_reducible apply Gv.cons; · (repeat (first | with_reducible exact Ext.here | with_reducible apply Ext.there))))) ?_ ?_ Sub.refl ?_
  · exact ⟨Nat.zero_le _, rfl, rfl, LOk_nil⟩
  · (try dsimp only); exact (Wk.cons (by first | rfl | (simp only [List.length_append, List.length_cons, List.length_nil, List.length_replicate, Nat.zero_add]; rfl) | (simp; done)) Wk.nil)
  · rintro ⟨k, es, la, lc, ea, ec⟩ ⟨hk, hel, hsh, hok⟩ K5 hK5
    simp only [List.cons_append, List.nil_append]
    refine WC_seq fun K6 hK6 => ?_
    refine WC_sr fun K7 hK7 => ?_
    refine WL_rd (Rd_move rfl) rfl rfl rfl ?_
    refine WL_rd (Rd_move rfl) rfl rfl rfl ?_
    refine WL_rd (Rd_len_sv rfl rfl ud22) rfl rfl rfl ?_
    refine WL_rd (Rd_lssN rfl rfl) rfl rfl rfl ?_
    refine WL_end hK7 ?_
    refine WC_cond rfl (fun hc0 => ?_) (fun hc0 => ?_)
    · try simp only [decide_eq_true_eq, decide_eq_false_iff_not, Bool.not_eq_true', Bool.not_eq_false', Bool.not_eq_true, Bool.not_eq_false, Int.not_lt, Int.not_le, Nat.not_lt, Nat.not_le, Decidable.not_not, ne_eq] at hc0
      obtain ⟨p, hpk⟩ : ∃ p, ps[k]? = some p := ⟨_, List.getElem?_eq_getElem (by omega)⟩
      have hpS : Sv [X] p.v 1 (eU .u8 (w := 8)) p.l p.ao p.cap := hP p (List.mem_of_getElem? hpk)
      have hpb := hb p (List.mem_of_getElem? hpk)
      refine WC_skip ?_
      refine Ps_next hK6 ?_
      refine WC_seq fun K8 hK8 => ?_
      refine WC_block ?_
      refine WC_sr fun K9 hK9 => ?_
      refine WL_rd (Rd_move rfl) rfl rfl rfl ?_
      refine WL_rd (Rd_move rfl) rfl rfl rfl ?_
      refine WL_rd (Rd_index_sv k rfl rfl ud22 sz23 (hA := hS) (hi := by omega)) rfl rfl rfl ?_
      refine WL_rd (Rd_load_sv (i := k) (j := 0) rfl tk23 (hA := hS) (hl := hpk)) rfl rfl rfl ?_
      refine WL_ac (Ac_call cf29 rfl (hs := lent_ct (hS := hpS))) rfl rfl rfl ?_
      rintro _ _ ⟨⟨a17, cap17⟩, rfl, hA⟩
      simp only [List.cons_append, List.nil_append] at hA
      replace hA := hA.symm
      subst hA
      have hll := lentB_len p.l
      refine WL_fact (fun w h => arr_facts (a := a17) (cap := cap17) (e := 1) (T := 5) (f := eU .u8 (w := 8)) (l := (lentB p.l)) (by repeat (first | with_reducible exact Has.here | with_reducible refine Has.there ?_)) h) (fun h17f => ?_)
      rw [show arr a17 cap17 1 5 (eU .u8 (w := 8)) (lentB p.l) = FL 5 (⟨a17, cap17, lentB p.l, p.l.length⟩ : LE) from rfl]
      refine WL_snoc (FL 5) es (⟨a17, cap17, lentB p.l, p.l.length⟩ : LE) ?_
      refine WL_rd (Rd_assign rfl) rfl rfl rfl ?_
      refine WL_end hK9 ?_
      refine WC_sr fun K10 hK10 => ?_
      refine WL_rd (Rd_fieldAddr rfl fo64_2) rfl rfl rfl ?_
      refine WL_rd (Rd_load rfl tk22 (v := sl ea k ec)) rfl rfl rfl ?_
      refine WL_rd (Rd_move rfl) rfl rfl rfl ?_
      refine WL_ac (Ac_bs1 (xs := [sl a17 (lentB p.l).length cap17]) rfl ud22 zr23 sz23) rfl rfl rfl ?_
      rintro _ _ ⟨b21, rfl, rfl⟩
      refine WL_ac (Ac_append1 (f := eEn) encEn (⟨a17, cap17, lentB p.l, p.l.length⟩ : LE) rfl rfl ud22 ud22 el23) rfl rfl rfl ?_
      rintro _ _ ⟨a22, cap22, rfl, rfl⟩
      rw [hel]
      refine WL_rd (Rd_fieldAddr rfl fo64_2) rfl rfl rfl ?_
      refine WL_ac0 (Ac_store1 rfl rfl sz22) rfl rfl ?_
      rintro _ _ rfl
      refine WL_end hK10 ?_
      refine WC_drawA mix (fun i => ([2, 2, 2, 2, 2, 2, 2, 2, 2, 1, 0, 2, 0] : List Nat).getD i 0) ?_
      refine WJ_takeP 0 rfl (by kernel_rfl) (Rd_fieldAddr rfl fo64_1) rfl rfl rfl (hp _ _) ?_
      refine WJ_tk 1 (Rd_load rfl tk22 (v := sl la k lc)) hp ?_ rfl (by kernel_rfl) rfl rfl rfl
      refine WJ_takeP 2 rfl (by kernel_rfl) (Rd_move rfl) rfl rfl rfl (hp _ _) ?_
      refine WJ_takeP 3 rfl (by kernel_rfl) (Rd_move rfl) rfl rfl rfl (hp _ _) ?_
      refine WJ_takeP 4 rfl (by kernel_rfl) (Rd_move rfl) rfl rfl rfl (hp _ _) ?_
      refine WJ_takeP 5 rfl (by kernel_rfl) (Rd_index_sv k rfl rfl ud22 sz23 (hA := hS) (hi := by omega)) rfl rfl rfl (hp _ _) ?_
      refine WJ_all (rs := [6]) (by kernel_rfl) rfl ?_
      refine WI_one ?_
      refine WI_rd rfl (Rd_load_sv (i := k) (j := 0) rfl tk23 (hA := hS) (hl := hpk)) rfl rfl rfl (fun h => by cases h) ?_
      refine WJ_takeP 7 rfl (by kernel_rfl) (Rd_len_sv rfl rfl ud23) rfl rfl rfl (hp _ _) ?_
      refine WJ_takeP 8 rfl (by kernel_rfl) (Rd_slice_hi p.l.length rfl rfl ud23 sz5 (hi := by omega)) rfl rfl rfl (hp _ _) ?_
      refine WJ_all (rs := [9]) (by kernel_rfl) rfl ?_
      refine WI_one ?_
      refine WI_ac rfl (Ac_bs1 (xs := [sl a17 p.l.length cap17]) rfl ud22 zr23 sz23) rfl rfl rfl rfl ?_
      rintro _ _ ⟨b33, rfl, rfl⟩
      refine ⟨(fun _ => (by repeat (first | with_reducible exact Sub.refl | with_reducible exact Sub.nil | with_reducible refine Sub.cons (by repeat (first | with_reducible exact Ext.here | with_reducible apply Ext.there)) ?_ | with_reducible refine Sub.tail ?_))), ?_⟩
      refine WJ_all (rs := [10]) (by kernel_rfl) rfl ?_
      refine WI_one ?_
      refine WI_ac rfl (Ac_append1 (f := eLn) encLn (⟨a17, cap17, lentB p.l, p.l.length⟩ : LE) rfl rfl ud22 ud22 el23) rfl rfl rfl rfl ?_
      rintro _ _ ⟨a34, cap34, rfl, rfl⟩
      refine ⟨(fun h => by cases h), ?_⟩
      rw [hel]
      refine WJ_takeP 11 rfl (by kernel_rfl) (Rd_fieldAddr rfl fo64_1) rfl rfl rfl (hp _ _) ?_
      refine WJ_all (rs := [12]) (by kernel_rfl) rfl ?_
      refine WI_one ?_
      refine WI_ac0 rfl (Ac_store1 rfl rfl sz22) rfl rfl rfl ?_
      rintro _ _ rfl
      refine ⟨(fun h => by cases h), ?_⟩
      refine WJ_done (by kernel_rfl) ?_
      refine Ps_next hK8 ?_
      refine WC_region ?_
      refine WL_rd (Rd_move rfl) rfl rfl rfl ?_
      refine WL_rd (Rd_addN (j := 1) rfl rfl) rfl rfl rfl ?_
      refine WL_rd (Rd_assign rfl) rfl rfl rfl ?_
      refine WL_nil ?_
      refine Ps_wk (by (try simp only [List.cons_append, List.nil_append]); repeat (first | with_reducible exact Wk.nil | refine Wk.cons (by first | rfl | (simp only [List.length_append, List.length_cons, List.length_nil, List.length_replicate, Nat.zero_add]; rfl) | (simp; done)) ?_)) (by (try simp only [List.cons_append, List.nil_append]); repeat (first | with_reducible exact Sub.refl | with_reducible exact Sub.nil | with_reducible refine Sub.cons (by repeat (first | with_reducible exact Ext.here | with_reducible apply Ext.there)) ?_ | with_reducible refine Sub.tail ?_)) (hK5 ⟨k + 1, es ++ [(⟨a17, cap17, lentB p.l, p.l.length⟩ : LE)], a34, cap34, a22, cap22⟩ (⟨by (try dsimp only); omega, by (try dsimp only); rw [List.length_append, List.length_singleton]; omega, by (try dsimp only); rw [shG_snoc, hsh]; exact lentG_snoc hpk, LOk_snoc hok (by (try dsimp only); omega) (fun e => by have := h17f.1 e; rw [this] at hll; simp at hll) h17f.2⟩) (by (try dsimp only); omega))
    · try simp only [decide_eq_true_eq, decide_eq_false_iff_not, Bool.not_eq_true', Bool.not_eq_false', Bool.not_eq_true, Bool.not_eq_false, Int.not_lt, Int.not_le, Nat.not_lt, Nat.not_le, Decidable.not_not, ne_eq] at hc0
      obtain hkl : k = ps.length := by omega
      rw [hkl, List.take_length] at hsh
      rw [hkl]
      refine WC_exit ?_
      refine Ps_next hK3 ?_
      refine WC_seq fun K11 hK11 => ?_
      refine WC_sr fun K12 hK12 => ?_
      refine WL_rd (Rd_assign rfl) rfl rfl rfl ?_
      refine WL_end hK12 ?_
      refine WC_block ?_
      rw [show star (FL 5) es = star (FL 5) (es ++ []) from by rw [List.append_nil]]
      rw [show arr la lc 1 23 eLn es = arr la lc 1 23 eLn (es ++ []) from by rw [List.append_nil]]
      rw [show cl b3 64 [sl none 0 0, sl la ps.length lc, sl ea ps.length ec] = cl b3 64 [sl none 0 0, sl la (ps.length + 0) lc, sl ea ps.length ec] from rfl]
      refine WC_loopK (σ := Nat × (List LE) × (Option Nat) × Nat) (fun ⟨j, sp, la2, lc2⟩ => [(6, .int .i64 ((j : Nat) : Int))]) (fun ⟨j, sp, la2, lc2⟩ => [star (FL 5) (es ++ sp), cl b3 64 [sl none 0 0, sl la2 (ps.length + j) lc2, sl ea ps.length ec], arr la2 lc2 1 23 eLn (es ++ sp)]) (fun ⟨j, sp, la2, lc2⟩ => j ≤ 70 ∧ sp.length = j ∧ shG sp = spareG j ∧ LOk sp) (fun ⟨j, sp, la2, lc2⟩ => 70 - j) ⟨0, [], la, lc⟩ [0, 2, 3, 48, 49, 50, 51, 52, 53, 54] (by repeat (first | exact Kep.nil | apply Kep.drop rfl | apply Kep.keep rfl)) (by (try dsimp only); repeat (first | with_reducible exact Gv.nil | (with_reducible apply Gv.cons; · (repeat (first | with_reducible exact Ext.here | with_reducible apply Ext.there))))) ?_ ?_ Sub.refl ?_
      · exact ⟨Nat.zero_le _, rfl, rfl, LOk_nil⟩
      · (try dsimp only); exact (Wk.cons (by first | rfl | (simp only [List.length_append, List.length_cons, List.length_nil, List.length_replicate, Nat.zero_add]; rfl) | (simp; done)) Wk.nil)
      · rintro ⟨j, sp, la2, lc2⟩ ⟨hj, hsl, hss, hsk⟩ K13 hK13
        simp only [List.cons_append, List.nil_append]
        refine WC_seq fun K14 hK14 => ?_
        refine WC_sr fun K15 hK15 => ?_
        refine WL_rd (Rd_move rfl) rfl rfl rfl ?_
        refine WL_rd (Rd_lssN (j := 70) rfl rfl) rfl rfl rfl ?_
        refine WL_end hK15 ?_
        refine WC_cond rfl (fun hc1 => ?_) (fun hc1 => ?_)
        · try simp only [decide_eq_true_eq, decide_eq_false_iff_not, Bool.not_eq_true', Bool.not_eq_false', Bool.not_eq_true, Bool.not_eq_false, Int.not_lt, Int.not_le, Nat.not_lt, Nat.not_le, Decidable.not_not, ne_eq] at hc1
          have hsl2 : (es ++ sp).length = ps.length + j := by rw [List.length_append]; omega
          refine WC_skip ?_
          refine Ps_next hK14 ?_
          refine WC_seq fun K16 hK16 => ?_
          refine WC_block ?_
          refine WC_region ?_
          refine WL_rd (Rd_fieldAddr rfl fo64_1) rfl rfl rfl ?_
          refine WL_rd (Rd_load rfl tk22 (v := sl la2 (ps.length + j) lc2)) rfl rfl rfl ?_
          refine WL_rd (Rd_move rfl) rfl rfl rfl ?_
          refine WL_rd (Rd_convNU rfl ikd3_5 (h' := uk8)) rfl rfl rfl ?_
          refine WL_ac (Ac_bsL (f := (eU .u8 (w := 8))) (zs := [.int .u8 0]) (bs := [.int .u8 0, .int .u8 0]) [BitVec.ofNat 8 j, 99#8] (encU .u8) ud23 zr5 sz5 rfl (by rw [Array.toList_map, Array.toList_range]; rfl) (by rfl) (by rfl) (by rfl) (by rfl)) rfl rfl rfl ?_
          rintro _ _ ⟨b44, rfl, rfl⟩
          rw [show arr (some b44) 2 1 5 (eU .u8 (w := 8)) [BitVec.ofNat 8 j, 99#8] = FL 5 (⟨some b44, 2, [BitVec.ofNat 8 j, 99#8], 2⟩ : LE) from rfl]
          refine WL_snoc (FL 5) (es ++ sp) (⟨some b44, 2, [BitVec.ofNat 8 j, 99#8], 2⟩ : LE) ?_
          rw [List.append_assoc]
          refine WL_ac (Ac_bs1 (xs := [sl (some b44) 2 2]) rfl ud22 zr23 sz23) rfl rfl rfl ?_
          rintro _ _ ⟨b45, rfl, rfl⟩
          refine WL_ac (Ac_append1 (f := eLn) encLn (⟨some b44, 2, [BitVec.ofNat 8 j, 99#8], 2⟩ : LE) rfl rfl ud22 ud22 el23) rfl rfl rfl ?_
          rintro _ _ ⟨a46, cap46, rfl, rfl⟩
          rw [hsl2, Nat.add_assoc, List.append_assoc]
          refine WL_rd (Rd_fieldAddr rfl fo64_1) rfl rfl rfl ?_
          refine WL_ac0 (Ac_store1 rfl rfl sz22) rfl rfl ?_
          rintro _ _ rfl
          refine WL_nil ?_
          refine Ps_next hK16 ?_
          refine WC_region ?_
          refine WL_rd (Rd_move rfl) rfl rfl rfl ?_
          refine WL_rd (Rd_addN (j := 1) rfl rfl) rfl rfl rfl ?_
          refine WL_rd (Rd_assign rfl) rfl rfl rfl ?_
          refine WL_nil ?_
          refine Ps_wk (by (try simp only [List.cons_append, List.nil_append]); repeat (first | with_reducible exact Wk.nil | refine Wk.cons (by first | rfl | (simp only [List.length_append, List.length_cons, List.length_nil, List.length_replicate, Nat.zero_add]; rfl) | (simp; done)) ?_)) (by (try simp only [List.cons_append, List.nil_append]); repeat (first | with_reducible exact Sub.refl | with_reducible exact Sub.nil | with_reducible refine Sub.cons (by repeat (first | with_reducible exact Ext.here | with_reducible apply Ext.there)) ?_ | with_reducible refine Sub.tail ?_)) (hK13 ⟨j + 1, sp ++ [(⟨some b44, 2, [BitVec.ofNat 8 j, 99#8], 2⟩ : LE)], a46, cap46⟩ (⟨by (try dsimp only); omega, by (try dsimp only); rw [List.length_append, List.length_singleton]; omega, by (try dsimp only); rw [shG_snoc, hss]; exact spareG_snoc j, LOk_snoc hsk (Nat.le_refl 2) (fun e => by cases e) (Nat.le_refl 2)⟩) (by (try dsimp only); omega))
        · try simp only [decide_eq_true_eq, decide_eq_false_iff_not, Bool.not_eq_true', Bool.not_eq_false', Bool.not_eq_true, Bool.not_eq_false, Int.not_lt, Int.not_le, Nat.not_lt, Nat.not_le, Decidable.not_not, ne_eq] at hc1
          have hsl2 : (es ++ sp).length = ps.length + 70 := by rw [List.length_append]; omega
          obtain rfl : j = 70 := by omega
          refine WC_fact (fun w h => arr_facts (a := la2) (cap := lc2) (e := 1) (T := 23) (f := eLn) (l := es ++ sp) (by repeat (first | with_reducible exact Has.here | with_reducible refine Has.there ?_)) h) (fun hlf => ?_)
          have hlc := hlf.2
          refine WC_exit ?_
          refine Ps_next hK11 ?_
          refine WC_sr fun K17 hK17 => ?_
          refine WL_rd (Rd_fieldAddr rfl fo64_1) rfl rfl rfl ?_
          refine WL_rd (Rd_load rfl tk22 (v := sl la2 (ps.length + 70) lc2)) rfl rfl rfl ?_
          refine WL_rd (Rd_move rfl) rfl rfl rfl ?_
          refine WL_rd (Rd_len_sv rfl rfl ud22) rfl rfl rfl ?_
          refine WL_rd (Rd_slice_hi ps.length rfl rfl ud22 sz23 (hi := by omega)) rfl rfl rfl ?_
          refine WL_rd (Rd_fieldAddr rfl fo64_0) rfl rfl rfl ?_
          refine WL_ac0 (Ac_store1 rfl rfl sz22) rfl rfl ?_
          rintro _ _ rfl
          refine WL_end hK17 ?_
          refine WC_sr fun K18 hK18 => ?_
          refine WL_rd (Rd_loadg rfl tk64) rfl rfl rfl ?_
          refine WL_ac0 (Ac_store (ys := [sl la2 ps.length lc2, sl la2 (ps.length + 70) lc2, sl ea ps.length ec]) rfl rfl sz64 (h1 := by simp [Value.cells, Value.oneCell', sl]) (hr := rfl)) rfl rfl ?_
          rintro _ _ rfl
          refine WL_end hK18 ?_
          refine WC_ret ?_
          exact hret.go ⟨⟨la2, lc2, ea, ec, es, sp⟩, hsh, hss, hok, hsk⟩ (Rs1c rfl rfl tk64)

theorem keptL_ct {X : Asn} {v : Value} {ps fs gs : List Pt} {ao : Option Addr} {cap : Nat} {la ea : Option Nat} {lc ec : Nat} {fo go : Option Addr} (hS : Sv [X] v 1 fP ps ao cap := by assumption) (hP : ∀ p ∈ ps, RdP [X] p := by assumption) (hl : ps.length ≤ 900000000 := by omega) (hb : ∀ p ∈ ps, p.l.length ≤ 800000000000 := by assumption) (hF : Sv [X] (sl la (ps.length + 70) lc) 1 fP fs fo lc := by assumption) (hL : Sv [X] (sl la ps.length lc) 1 fP (fs.take ps.length) fo lc := by assumption) (hG : Sv [X] (sl ea ps.length ec) 1 fP gs go ec := by assumption) (hFP : ∀ p ∈ fs, RdP [X] p := by assumption) (hGP : ∀ p ∈ gs, RdP [X] p := by assumption) (hK : KOk ps fs gs := by assumption) (hlc : ps.length ≤ lc := by omega) : Ct Try.prog 27 [.agg [sl la ps.length lc, sl la (ps.length + 70) lc, sl ea ps.length ec].toArray, v] [X] (fun _ : Unit => .bool true) (fun _ => [X]) := by
  refine Ct_body (n := 79) Try.func27 rfl rfl rfl fun F w0 Q hret hnorm hp => ?_
  change WC _ _ _ _ _ _ _ (_ :: F)
  have hlf := hK.lf
  have hlg := hK.lg
  refine WC_sr fun K1 hK1 => ?_
  refine WL_ac (Ac_box rfl rfl) rfl rfl rfl ?_
  rintro _ _ ⟨b2, rfl, rfl⟩
  refine WL_rd (Rd_assign rfl) rfl rfl rfl ?_
  refine WL_end hK1 ?_
  refine WC_seq fun K2 hK2 => ?_
  refine WC_sr fun K3 hK3 => ?_
  refine WL_rd (Rd_fieldAddr rfl fo64_2) rfl rfl rfl ?_
  refine WL_rd (Rd_load rfl tk22 (v := sl ea ps.length ec)) rfl rfl rfl ?_
  refine WL_rd (Rd_len rfl rfl ud22) rfl rfl rfl ?_
  refine WL_rd (Rd_move rfl) rfl rfl rfl ?_
  refine WL_rd (Rd_len_sv rfl rfl ud22) rfl rfl rfl ?_
  refine WL_rd (Rd_isF (Rd_neqN rfl rfl)) rfl rfl rfl ?_
  refine WL_rd (Rd_move rfl) rfl rfl rfl ?_
  refine WL_rd (Rd_fieldAddr rfl fo64_1) rfl rfl rfl ?_
  refine WL_rd (Rd_load rfl tk22 (v := sl la (ps.length + 70) lc)) rfl rfl rfl ?_
  refine WL_rd (Rd_len rfl rfl ud22) rfl rfl rfl ?_
  refine WL_rd (Rd_move rfl) rfl rfl rfl ?_
  refine WL_rd (Rd_len_sv rfl rfl ud22) rfl rfl rfl ?_
  refine WL_rd (Rd_addN (j := 70) rfl rfl) rfl rfl rfl ?_
  refine WL_rd (Rd_isF (Rd_neqN rfl rfl)) rfl rfl rfl ?_
  refine WL_rd (Rd_pickF rfl rfl) rfl rfl rfl ?_
  refine WL_rd (Rd_move rfl) rfl rfl rfl ?_
  refine WL_rd (Rd_fieldAddr rfl fo64_1) rfl rfl rfl ?_
  refine WL_rd (Rd_load rfl tk22 (v := sl la (ps.length + 70) lc)) rfl rfl rfl ?_
  refine WL_rd (Rd_move rfl) rfl rfl rfl ?_
  refine WL_rd (Rd_len_sv rfl rfl ud22) rfl rfl rfl ?_
  refine WL_rd (Rd_slice_hi ps.length rfl rfl ud22 sz23 (hi := by omega)) rfl rfl rfl ?_
  refine WL_rd (Rd_move rfl) rfl rfl rfl ?_
  refine WL_ac (Ac_call cf8 rfl (hs := sameL_ct (X := X) (ps := fs.take ps.length) (qs := ps) (hS := hL) (hS' := hS) (hP := fun p h => hFP p (List.mem_of_mem_take h)) (hQ := hP) (hl := by rw [List.length_take]; omega) (hb := bnd_map hK.hd (fun p h => Nat.le_trans (hb p h) (by omega))))) rfl rfl rfl ?_
  rintro _ _ ⟨⟨⟩, rfl, hA⟩
  simp only [List.cons_append, List.nil_append] at hA
  replace hA := hA.symm
  subst hA
  rw [decide_eq_true hK.hd]
  refine WL_rd (Rd_not rfl) rfl rfl rfl ?_
  refine WL_rd (Rd_pickF rfl rfl) rfl rfl rfl ?_
  refine WL_end hK3 ?_
  refine WC_condF rfl ?_
  refine WC_skip ?_
  refine Ps_next hK2 ?_
  refine WC_seq fun K4 hK4 => ?_
  refine WC_sr fun K5 hK5 => ?_
  refine WL_rd (Rd_assign rfl) rfl rfl rfl ?_
  refine WL_end hK5 ?_
  refine WC_block ?_
  refine WC_loopK (σ := Nat) (fun k => [(5, .int .i64 ((k : Nat) : Int))]) (fun k => []) (fun k => k ≤ ps.length) (fun k => ps.length - k) (0) [1, 2, 6, 7, 50, 51, 52, 53, 54, 55, 56, 57, 58, 59, 60, 61, 62, 63, 64, 65, 66, 67, 68, 69, 70, 71, 72, 73, 74, 75, 76, 77, 78] (by repeat (first | exact Kep.nil | apply Kep.drop rfl | apply Kep.keep rfl)) (by (try dsimp only); repeat (first | with_reducible exact Gv.nil | (with_reducible apply Gv.cons; · (repeat (first | with_reducible exact Ext.here | with_reducible apply Ext.there))))) ?_ ?_ Sub.refl ?_
  · exact Nat.zero_le _
  · (try dsimp only); exact (Wk.cons (by first | rfl | (simp only [List.length_append, List.length_cons, List.length_nil, List.length_replicate, Nat.zero_add]; rfl) | (simp; done)) Wk.nil)
  · rintro k hk K6 hK6
    simp only [List.cons_append, List.nil_append]
    refine WC_seq fun K7 hK7 => ?_
    refine WC_sr fun K8 hK8 => ?_
    refine WL_rd (Rd_move rfl) rfl rfl rfl ?_
    refine WL_rd (Rd_move rfl) rfl rfl rfl ?_
    refine WL_rd (Rd_len_sv rfl rfl ud22) rfl rfl rfl ?_
    refine WL_rd (Rd_lssN rfl rfl) rfl rfl rfl ?_
    refine WL_end hK8 ?_
    refine WC_cond rfl (fun hc1 => ?_) (fun hc1 => ?_)
    · try simp only [decide_eq_true_eq, decide_eq_false_iff_not, Bool.not_eq_true', Bool.not_eq_false', Bool.not_eq_true, Bool.not_eq_false, Int.not_lt, Int.not_le, Nat.not_lt, Nat.not_le, Decidable.not_not, ne_eq] at hc1
      obtain ⟨p, hpk⟩ : ∃ p, ps[k]? = some p := ⟨_, List.getElem?_eq_getElem (by omega)⟩
      have hpS : Sv [X] p.v 1 (eU .u8 (w := 8)) p.l p.ao p.cap := hP p (List.mem_of_getElem? hpk)
      have hpb := hb p (List.mem_of_getElem? hpk)
      obtain ⟨q, hqk⟩ : ∃ q, gs[k]? = some q := ⟨_, List.getElem?_eq_getElem (by omega)⟩
      have hqS : Sv [X] q.v 1 (eU .u8 (w := 8)) q.l q.ao q.cap := hGP q (List.mem_of_getElem? hqk)
      have hqe := hK.ea k q p hqk hpk
      have hql : q.l.length = p.l.length + 70 := by rw [hqe, lentB_len]
      refine WC_skip ?_
      refine Ps_next hK7 ?_
      refine WC_seq fun K9 hK9 => ?_
      refine WC_block ?_
      refine WC_seq fun K10 hK10 => ?_
      refine WC_drawA mix (fun i => ([2, 2, 2, 2, 2, 2, 2, 2, 2, 1, 2] : List Nat).getD i 0) ?_
      refine WJ_takeP 0 rfl (by kernel_rfl) (Rd_fieldAddr rfl fo64_2) rfl rfl rfl (hp _ _) ?_
      refine WJ_tk 1 (Rd_load rfl tk22 (v := sl ea ps.length ec)) hp ?_ rfl (by kernel_rfl) rfl rfl rfl
      refine WJ_takeP 2 rfl (by kernel_rfl) (Rd_move rfl) rfl rfl rfl (hp _ _) ?_
      refine WJ_takeP 3 rfl (by kernel_rfl) (Rd_index_sv k rfl rfl ud22 sz23 (hA := hG) (hi := by omega)) rfl rfl rfl (hp _ _) ?_
      refine WJ_tk 4 (Rd_load_sv (i := k) (j := 0) rfl tk23 (hA := hG) (hl := hqk)) hp ?_ rfl (by kernel_rfl) rfl rfl rfl
      refine WJ_takeP 5 rfl (by kernel_rfl) (Rd_move rfl) rfl rfl rfl (hp _ _) ?_
      refine WJ_takeP 6 rfl (by kernel_rfl) (Rd_move rfl) rfl rfl rfl (hp _ _) ?_
      refine WJ_takeP 7 rfl (by kernel_rfl) (Rd_index_sv k rfl rfl ud22 sz23 (hA := hS) (hi := by omega)) rfl rfl rfl (hp _ _) ?_
      refine WJ_tk 8 (Rd_load_sv (i := k) (j := 0) rfl tk23 (hA := hS) (hl := hpk)) hp ?_ rfl (by kernel_rfl) rfl rfl rfl
      refine WJ_all (rs := [9]) (by kernel_rfl) rfl ?_
      refine WI_one ?_
      refine WI_ac rfl (Ac_call cf30 rfl (hs := kept_ct (X := X) (l := q.l) (l' := p.l) (hS := hqS) (hS' := hpS))) rfl rfl rfl rfl ?_
      rintro _ _ ⟨⟨⟩, rfl, hA⟩
      simp only [List.cons_append, List.nil_append] at hA
      replace hA := hA.symm
      subst hA
      rw [decide_eq_true hqe]
      refine ⟨(fun _ => (by repeat (first | with_reducible exact Sub.refl | with_reducible exact Sub.nil | with_reducible refine Sub.cons (by repeat (first | with_reducible exact Ext.here | with_reducible apply Ext.there)) ?_ | with_reducible refine Sub.tail ?_))), ?_⟩
      refine WJ_takeP 10 rfl (by kernel_rfl) (Rd_not rfl) rfl rfl rfl (hp _ _) ?_
      refine WJ_done (by kernel_rfl) ?_
      refine Ps_next hK10 ?_
      refine WC_condF rfl ?_
      refine WC_skip ?_
      refine Ps_next hK9 ?_
      refine WC_region ?_
      refine WL_rd (Rd_move rfl) rfl rfl rfl ?_
      refine WL_rd (Rd_addN (j := 1) rfl rfl) rfl rfl rfl ?_
      refine WL_rd (Rd_assign rfl) rfl rfl rfl ?_
      refine WL_nil ?_
      refine Ps_wk (by (try simp only [List.cons_append, List.nil_append]); repeat (first | with_reducible exact Wk.nil | refine Wk.cons (by first | rfl | (simp only [List.length_append, List.length_cons, List.length_nil, List.length_replicate, Nat.zero_add]; rfl) | (simp; done)) ?_)) (by (try simp only [List.cons_append, List.nil_append]); repeat (first | with_reducible exact Sub.refl | with_reducible exact Sub.nil | with_reducible refine Sub.cons (by repeat (first | with_reducible exact Ext.here | with_reducible apply Ext.there)) ?_ | with_reducible refine Sub.tail ?_)) (hK6 (k + 1) (by omega) (by omega))
    · try simp only [decide_eq_true_eq, decide_eq_false_iff_not, Bool.not_eq_true', Bool.not_eq_false', Bool.not_eq_true, Bool.not_eq_false, Int.not_lt, Int.not_le, Nat.not_lt, Nat.not_le, Decidable.not_not, ne_eq] at hc1
      refine WC_exit ?_
      refine Ps_next hK4 ?_
      refine WC_seq fun K11 hK11 => ?_
      refine WC_sr fun K12 hK12 => ?_
      refine WL_rd (Rd_assign rfl) rfl rfl rfl ?_
      refine WL_end hK12 ?_
      refine WC_block ?_
      refine WC_loopK (σ := Nat) (fun j => [(6, .int .i64 ((j : Nat) : Int))]) (fun j => []) (fun j => j ≤ 70) (fun j => 70 - j) (0) [1, 2] (by repeat (first | exact Kep.nil | apply Kep.drop rfl | apply Kep.keep rfl)) (by (try dsimp only); repeat (first | with_reducible exact Gv.nil | (with_reducible apply Gv.cons; · (repeat (first | with_reducible exact Ext.here | with_reducible apply Ext.there))))) ?_ ?_ Sub.refl ?_
      · exact Nat.zero_le _
      · (try dsimp only); exact (Wk.cons (by first | rfl | (simp only [List.length_append, List.length_cons, List.length_nil, List.length_replicate, Nat.zero_add]; rfl) | (simp; done)) Wk.nil)
      · rintro j hj K13 hK13
        simp only [List.cons_append, List.nil_append]
        refine WC_seq fun K14 hK14 => ?_
        refine WC_sr fun K15 hK15 => ?_
        refine WL_rd (Rd_move rfl) rfl rfl rfl ?_
        refine WL_rd (Rd_lssN (j := 70) rfl rfl) rfl rfl rfl ?_
        refine WL_end hK15 ?_
        refine WC_cond rfl (fun hc3 => ?_) (fun hc3 => ?_)
        · try simp only [decide_eq_true_eq, decide_eq_false_iff_not, Bool.not_eq_true', Bool.not_eq_false', Bool.not_eq_true, Bool.not_eq_false, Int.not_lt, Int.not_le, Nat.not_lt, Nat.not_le, Decidable.not_not, ne_eq] at hc3
          obtain ⟨r, hrk⟩ : ∃ r, fs[ps.length + j]? = some r := ⟨_, List.getElem?_eq_getElem (by omega)⟩
          have hrS : Sv [X] r.v 1 (eU .u8 (w := 8)) r.l r.ao r.cap := hFP r (List.mem_of_getElem? hrk)
          have hre := hK.sp j r (by omega) hrk
          have hrl : r.l.length = 2 := by rw [hre]; rfl
          have hr0 : r.l[0]? = some (BitVec.ofNat 8 j) := by rw [hre]; rfl
          have hr1 : r.l[1]? = some 99#8 := by rw [hre]; rfl
          refine WC_skip ?_
          refine Ps_next hK14 ?_
          refine WC_seq fun K16 hK16 => ?_
          refine WC_block ?_
          refine WC_sr fun K17 hK17 => ?_
          refine WL_rd (Rd_fieldAddr rfl fo64_1) rfl rfl rfl ?_
          refine WL_rd (Rd_load rfl tk22 (v := sl la (ps.length + 70) lc)) rfl rfl rfl ?_
          refine WL_rd (Rd_move rfl) rfl rfl rfl ?_
          refine WL_rd (Rd_len_sv rfl rfl ud22) rfl rfl rfl ?_
          refine WL_rd (Rd_move rfl) rfl rfl rfl ?_
          refine WL_rd (Rd_addN rfl rfl) rfl rfl rfl ?_
          refine WL_rd (Rd_index_sv (ps.length + j) rfl rfl ud22 sz23 (hA := hF) (hi := by omega)) rfl rfl rfl ?_
          refine WL_rd (Rd_load_sv (i := (ps.length + j)) (j := 0) rfl tk23 (hA := hF) (hl := hrk)) rfl rfl rfl ?_
          refine WL_rd (Rd_assign rfl) rfl rfl rfl ?_
          refine WL_end hK17 ?_
          refine WC_sr fun K18 hK18 => ?_
          refine WL_rd (Rd_move rfl) rfl rfl rfl ?_
          refine WL_rd (Rd_len_sv rfl rfl ud23) rfl rfl rfl ?_
          refine WL_rd (Rd_isF (Rd_neqN (j := 2) rfl rfl)) rfl rfl rfl ?_
          refine WL_rd (Rd_move rfl) rfl rfl rfl ?_
          refine WL_rd (Rd_move rfl) rfl rfl rfl ?_
          refine WL_rd (Rd_index_sv 0 rfl rfl ud23 sz5 (hA := hrS) (hi := by omega)) rfl rfl rfl ?_
          refine WL_rd (Rd_load_sv (i := 0) (j := 0) rfl tk5 (hA := hrS) (hl := hr0)) rfl rfl rfl ?_
          refine WL_rd (Rd_move rfl) rfl rfl rfl ?_
          refine WL_rd (Rd_convNU rfl ikd3_5 (h' := uk8)) rfl rfl rfl ?_
          refine WL_rd (Rd_isF (Rd_neqU rfl rfl)) rfl rfl rfl ?_
          refine WL_rd (Rd_pickF rfl rfl) rfl rfl rfl ?_
          refine WL_rd (Rd_move rfl) rfl rfl rfl ?_
          refine WL_rd (Rd_move rfl) rfl rfl rfl ?_
          refine WL_rd (Rd_index_sv 1 rfl rfl ud23 sz5 (hA := hrS) (hi := by omega)) rfl rfl rfl ?_
          refine WL_rd (Rd_load_sv (i := 1) (j := 0) rfl tk5 (hA := hrS) (hl := hr1)) rfl rfl rfl ?_
          refine WL_rd (Rd_isF (Rd_neqU (b := 99#8) rfl rfl)) rfl rfl rfl ?_
          refine WL_rd (Rd_pickF rfl rfl) rfl rfl rfl ?_
          refine WL_end hK18 ?_
          refine WC_condF rfl ?_
          refine WC_skip ?_
          refine Ps_next hK16 ?_
          refine WC_region ?_
          refine WL_rd (Rd_move rfl) rfl rfl rfl ?_
          refine WL_rd (Rd_addN (j := 1) rfl rfl) rfl rfl rfl ?_
          refine WL_rd (Rd_assign rfl) rfl rfl rfl ?_
          refine WL_nil ?_
          refine Ps_wk (by (try simp only [List.cons_append, List.nil_append]); repeat (first | with_reducible exact Wk.nil | refine Wk.cons (by first | rfl | (simp only [List.length_append, List.length_cons, List.length_nil, List.length_replicate, Nat.zero_add]; rfl) | (simp; done)) ?_)) (by (try simp only [List.cons_append, List.nil_append]); repeat (first | with_reducible exact Sub.refl | with_reducible exact Sub.nil | with_reducible refine Sub.cons (by repeat (first | with_reducible exact Ext.here | with_reducible apply Ext.there)) ?_ | with_reducible refine Sub.tail ?_)) (hK13 (j + 1) (by omega) (by omega))
        · try simp only [decide_eq_true_eq, decide_eq_false_iff_not, Bool.not_eq_true', Bool.not_eq_false', Bool.not_eq_true, Bool.not_eq_false, Int.not_lt, Int.not_le, Nat.not_lt, Nat.not_le, Decidable.not_not, ne_eq] at hc3
          refine WC_exit ?_
          refine Ps_next hK11 ?_
          refine WC_sr fun K19 hK19 => ?_
          refine WL_rd (Rd_assign rfl) rfl rfl rfl ?_
          refine WL_end hK19 ?_
          refine WC_ret ?_
          exact hret.go () (Rs1 rfl rfl)
end Go.Proofs.Ytlcafifjhilleaa
