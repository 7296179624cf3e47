/-
  Contracts of functions that the claim reaches, or the logic and the plain laws that they rest on, or the row over them. (Conditions: none beyond the statement.)
-/
import Derived.Test.YtlcafifjhilleaaTkF
set_option linter.all false
namespace Go.Proofs.Ytlcafifjhilleaa
open Go.RowKit Go.SL Go.ShM
set_option maxHeartbeats 1000000
set_option maxRecDepth 20000
set_option linter.all false
theorem cf51 : cfn Try.prog 51 = true := by kernel_rfl
def mgV (a : Option Nat) (cap : Nat) : List PB → Value
  | [] => sl none 0 0
  | _ :: r => .slice (sao (a.map fun g => ⟨g, 0, none⟩) 1 1 cap) r.length (cap - 1)
theorem byW_0 {w : List B8} (h : (byW w).getD 0#8 = 0#8) : byW w = none := by
  cases hq : byW w with
  | none => rfl
  | some t =>
    rw [hq] at h
    have h0 : t = 0#8 := h
    subst h0
    exact absurd (by decide) (byW_some hq).1
theorem byW_1 {w : List B8} (h : ¬ (byW w).getD 0#8 = 0#8) : ∃ t, byW w = some t := by
  cases hq : byW w with
  | none => rw [hq] at h; exact absurd rfl h
  | some t => exact ⟨t, rfl⟩

theorem readR_ct {X : Asn} {v : Value} {l : List B8} {ao : Option Addr} {cap2 : Nat} (hS : Sv [X] v 1 (eU .u8) l ao cap2 := by assumption) (hl : l.length ≤ 50000000000 := by omega) : Ct Try.prog 32 [v] [X] (fun g : {g : RG // (g.ps.drop 1).map (·.l) = (rdM l).2.1 ∧ BOk g.ps} => .tuple #[.int .u8 (((rdM l).1.toNat : Nat) : Int), mgV g.val.a g.val.cap g.val.ps, .int .i64 (((rdM l).2.2.1 : Nat) : Int), .int .i64 (((rdM l).2.2.2 : Nat) : Int)]) (fun g => [X, star (FPB 5) g.val.ps, arr g.val.a g.val.cap 1 23 ePB g.val.ps]) := by
  refine Ct_body (n := 83) Try.func32 rfl rfl rfl fun F w0 Q hret hnorm hp => ?_
  change WC _ _ _ _ _ _ _ (_ :: F)
  refine WC_sr fun K1 hK1 => ?_
  refine WL_rd (Rd_assign rfl) rfl rfl rfl ?_
  refine WL_rd (Rd_assign (v := sl none 0 0) rfl) rfl rfl rfl ?_
  refine WL_rd (Rd_assign rfl) rfl rfl rfl ?_
  refine WL_rd (Rd_assign rfl) rfl rfl rfl ?_
  refine WL_end hK1 ?_
  refine WC_sr fun K2 hK2 => ?_
  refine WL_rd (Rd_assign (v := sl none 0 0) rfl) rfl rfl rfl ?_
  refine WL_nilarr fP 1 23 ?_
  refine WL_end hK2 ?_
  refine WC_sr fun K3 hK3 => ?_
  refine WL_rd (Rd_assign rfl) rfl rfl rfl ?_
  refine WL_end hK3 ?_
  refine WC_seq fun K4 hK4 => ?_
  refine WC_block ?_
  refine WC_star0 (FPB 5) ?_
  refine WC_imp (fun w h => sat_nil (e := 1) (T := 23) (f := ePB) h) ?_
  refine WC_loopK (σ := Nat × Nat × (List PB) × (Option Nat) × Nat) (fun ⟨at_, k, ps, pa, pc⟩ => [(6, sl pa ps.length pc), (7, .int .i64 ((at_ : Nat) : Int))]) (fun ⟨at_, k, ps, pa, pc⟩ => [star (FPB 5) ps, arr pa pc 1 23 ePB ps]) (fun ⟨at_, k, ps, pa, pc⟩ => at_ ≤ l.length ∧ 8 * ps.length ≤ at_ ∧ BOk ps ∧ rdF l = unM l k at_ (ps.map (·.l)) ∧ l.length < k + at_) (fun ⟨at_, k, ps, pa, pc⟩ => l.length - at_) ⟨0, l.length + 1, [], none, 0⟩ [0, 11, 65, 66, 67, 68, 69, 70, 71, 72, 73, 74, 75, 76, 77, 78, 79, 80, 81, 82] (by repeat (first | exact Kep.nil | apply Kep.drop rfl | apply Kep.keep rfl)) (by (try dsimp only); repeat (first | with_reducible exact Gv.nil | (with_reducible apply Gv.cons; · (repeat (first | with_reducible exact Ext.here | with_reducible apply Ext.there))))) ?_ ?_ Sub.refl ?_
  · exact ⟨Nat.zero_le _, Nat.zero_le _, BOk_nil, rfl, by omega⟩
  · (try dsimp only); exact (Wk.cons (by first | rfl | (simp only [List.length_append, List.length_cons, List.length_nil, List.length_replicate, Nat.zero_add]; rfl) | (simp; done)) (Wk.cons (by first | rfl | (simp only [List.length_append, List.length_cons, List.length_nil, List.length_replicate, Nat.zero_add]; rfl) | (simp; done)) Wk.nil))
  · rintro ⟨at_, k, ps, pa, pc⟩ ⟨hat, hpl, hbk, hun, hkk⟩ K5 hK5
    simp only [List.cons_append, List.nil_append]
    refine WC_seq fun K6 hK6 => ?_
    refine WC_sr fun K7 hK7 => ?_
    refine WL_rd (Rd_move rfl) rfl rfl rfl ?_
    refine WL_rd (Rd_move rfl) rfl rfl rfl ?_
    refine WL_rd (Rd_len_sv rfl rfl ud23) rfl rfl rfl ?_
    refine WL_rd (Rd_lssN rfl rfl) rfl rfl rfl ?_
    refine WL_end hK7 ?_
    refine WC_cond rfl (fun hc0 => ?_) (fun hc0 => ?_)
    · try simp only [decide_eq_true_eq, decide_eq_false_iff_not, Bool.not_eq_true', Bool.not_eq_false', Bool.not_eq_true, Bool.not_eq_false, Int.not_lt, Int.not_le, Nat.not_lt, Nat.not_le, Decidable.not_not, ne_eq] at hc0
      refine WC_skip ?_
      refine Ps_next hK6 ?_
      refine WC_block ?_
      refine WC_seq fun K8 hK8 => ?_
      refine WC_sr fun K9 hK9 => ?_
      refine WL_rd (Rd_move rfl) rfl rfl rfl ?_
      refine WL_rd (Rd_addN (j := 8) rfl rfl) rfl rfl rfl ?_
      refine WL_rd (Rd_move rfl) rfl rfl rfl ?_
      refine WL_rd (Rd_len_sv rfl rfl ud23) rfl rfl rfl ?_
      refine WL_rd (Rd_gtrN rfl rfl) rfl rfl rfl ?_
      refine WL_end hK9 ?_
      refine WC_cond rfl (fun hc1 => ?_) (fun hc1 => ?_)
      · try simp only [decide_eq_true_eq, decide_eq_false_iff_not, Bool.not_eq_true', Bool.not_eq_false', Bool.not_eq_true, Bool.not_eq_false, Int.not_lt, Int.not_le, Nat.not_lt, Nat.not_le, Decidable.not_not, ne_eq] at hc1
        have hno : stepM l at_ = none := stepM_short (by omega)
        have hrd := rdM_fault (hun.trans (unM_bad hc0 hno (by omega)))
        rw [hrd] at hret
        refine WC_star0 (FPB 5) ?_
        refine WC_imp (fun w h => sat_nil (e := 1) (T := 23) (f := ePB) h) ?_
        refine WC_sr fun K10 hK10 => ?_
        refine WL_rd (Rd_move rfl) rfl rfl rfl ?_
        refine WL_rd (Rd_assign rfl) rfl rfl rfl ?_
        refine WL_rd (Rd_assign (v := sl none 0 0) rfl) rfl rfl rfl ?_
        refine WL_rd (Rd_assign rfl) rfl rfl rfl ?_
        refine WL_rd (Rd_assign rfl) rfl rfl rfl ?_
        refine WL_end hK10 ?_
        refine WC_ret ?_
        first | exact hret.goE ⟨⟨none, 0, []⟩, by rfl, BOk_nil⟩ (Rs4 rfl rfl rfl rfl rfl) rfl | exact hret.goE ⟨⟨pa, pc, ps⟩, hrl, hbk⟩ (Rs4 rfl rfl rfl rfl rfl) (by rw [← hmv]; rfl)
      · try simp only [decide_eq_true_eq, decide_eq_false_iff_not, Bool.not_eq_true', Bool.not_eq_false', Bool.not_eq_true, Bool.not_eq_false, Int.not_lt, Int.not_le, Nat.not_lt, Nat.not_le, Decidable.not_not, ne_eq] at hc1
        have h8l : ((l.drop at_).take 8).length = 8 := by rw [List.length_take, List.length_drop]; omega
        have hof : (BitVec.ofNat 64 (l.length - at_ - 8)).toNat = l.length - at_ - 8 := by rw [BitVec.toNat_ofNat]; omega
        refine WC_skip ?_
        refine Ps_next hK8 ?_
        refine WC_sr fun K11 hK11 => ?_
        refine WL_rd (Rd_assign rfl) rfl rfl rfl ?_
        refine WL_end hK11 ?_
        refine WC_seq fun K12 hK12 => ?_
        refine WC_sr fun K13 hK13 => ?_
        refine WL_rd (Rd_assign rfl) rfl rfl rfl ?_
        refine WL_end hK13 ?_
        refine WC_block ?_
        refine WC_loopK (σ := Nat) (fun i2 => [(8, .int .u64 (((smM (((l.drop at_).take 8).take i2)).toNat : Nat) : Int)), (9, .int .i64 ((i2 : Nat) : Int))]) (fun i2 => []) (fun i2 => i2 ≤ 8) (fun i2 => 8 - i2) (0) [0, 2, 3, 4, 5, 6, 7, 10, 11, 12, 13, 14, 15, 16, 17, 18, 19, 20, 21, 36, 37, 38, 39, 40, 41, 42, 43, 44, 45, 46, 47, 48, 49, 50, 51, 52, 53, 54, 55, 56, 57, 58, 59, 60, 61, 62, 63, 64, 65, 66, 67, 68, 69, 70, 71, 72, 73, 74, 75, 76, 77, 78, 79, 80, 81, 82] (by repeat (first | exact Kep.nil | apply Kep.drop rfl | apply Kep.keep rfl)) (by (try dsimp only); repeat (first | with_reducible exact Gv.nil | (with_reducible apply Gv.cons; · (repeat (first | with_reducible exact Ext.here | with_reducible apply Ext.there))))) ?_ ?_ Sub.refl ?_
        · exact Nat.zero_le _
        · (try dsimp only); exact (Wk.cons (by first | rfl | (simp only [List.length_append, List.length_cons, List.length_nil, List.length_replicate, Nat.zero_add]; rfl) | (simp; done)) (Wk.cons (by first | rfl | (simp only [List.length_append, List.length_cons, List.length_nil, List.length_replicate, Nat.zero_add]; rfl) | (simp; done)) Wk.nil))
        · rintro i2 hi2 K14 hK14
          simp only [List.cons_append, List.nil_append]
          refine WC_seq fun K15 hK15 => ?_
          refine WC_sr fun K16 hK16 => ?_
          refine WL_rd (Rd_move rfl) rfl rfl rfl ?_
          refine WL_rd (Rd_lssN (j := 8) rfl rfl) rfl rfl rfl ?_
          refine WL_end hK16 ?_
          refine WC_cond rfl (fun hc2 => ?_) (fun hc2 => ?_)
          · try simp only [decide_eq_true_eq, decide_eq_false_iff_not, Bool.not_eq_true', Bool.not_eq_false', Bool.not_eq_true, Bool.not_eq_false, Int.not_lt, Int.not_le, Nat.not_lt, Nat.not_le, Decidable.not_not, ne_eq] at hc2
            refine WC_skip ?_
            refine Ps_next hK15 ?_
            refine WC_seq fun K17 hK17 => ?_
            refine WC_block ?_
            refine WC_region ?_
            refine WL_rd (Rd_move rfl) rfl rfl rfl ?_
            refine WL_rd (Rd_mulU (b := 256#64) rfl rfl) rfl rfl rfl ?_
            refine WL_rd (Rd_move rfl) rfl rfl rfl ?_
            refine WL_rd (Rd_move rfl) rfl rfl rfl ?_
            refine WL_rd (Rd_move rfl) rfl rfl rfl ?_
            refine WL_rd (Rd_addN rfl rfl) rfl rfl rfl ?_
            refine WL_rd (Rd_index_sv (at_ + i2) rfl rfl ud23 sz5 (hA := hS) (hi := by omega)) rfl rfl rfl ?_
            refine WL_rd (Rd_load_sv (i := at_ + i2) (j := 0) rfl tk5 (hA := hS) (hl := at_B8 (by omega))) rfl rfl rfl ?_
            refine WL_rd (Rd_convU rfl ikd5_58 (h' := uk64)) rfl rfl rfl ?_
            refine WL_rd (Rd_addU rfl rfl) rfl rfl rfl ?_
            rw [show l.getD (at_ + i2) 0#8 = ((l.drop at_).take 8).getD i2 0#8 from by rw [List.getD_eq_getElem?_getD, List.getD_eq_getElem?_getD, List.getElem?_take_of_lt (by omega), List.getElem?_drop]]
            rw [stp_mul, smM_snoc (by omega)]
            refine WL_rd (Rd_assign rfl) rfl rfl rfl ?_
            refine WL_nil ?_
            refine Ps_next hK17 ?_
            refine WC_region ?_
            refine WL_rd (Rd_move rfl) rfl rfl rfl ?_
            refine WL_rd (Rd_addN (j := 1) rfl rfl) rfl rfl rfl ?_
            refine WL_rd (Rd_assign rfl) rfl rfl rfl ?_
            refine WL_nil ?_
            refine Ps_wk (by (try simp only [List.cons_append, List.nil_append]); repeat (first | with_reducible exact Wk.nil | refine Wk.cons (by first | rfl | (simp only [List.length_append, List.length_cons, List.length_nil, List.length_replicate, Nat.zero_add]; rfl) | (simp; done)) ?_)) (by (try simp only [List.cons_append, List.nil_append]); repeat (first | with_reducible exact Sub.refl | with_reducible exact Sub.nil | with_reducible refine Sub.cons (by repeat (first | with_reducible exact Ext.here | with_reducible apply Ext.there)) ?_ | with_reducible refine Sub.tail ?_)) (hK14 (i2 + 1) (by omega) (by omega))
          · try simp only [decide_eq_true_eq, decide_eq_false_iff_not, Bool.not_eq_true', Bool.not_eq_false', Bool.not_eq_true, Bool.not_eq_false, Int.not_lt, Int.not_le, Nat.not_lt, Nat.not_le, Decidable.not_not, ne_eq] at hc2
            obtain rfl : i2 = 8 := by omega
            rw [show ((l.drop at_).take 8).take 8 = ((l.drop at_).take 8) from List.take_of_length_le (by omega)]
            refine WC_exit ?_
            refine Ps_next hK12 ?_
            refine WC_seq fun K18 hK18 => ?_
            refine WC_sr fun K19 hK19 => ?_
            refine WL_rd (Rd_move rfl) rfl rfl rfl ?_
            refine WL_rd (Rd_move rfl) rfl rfl rfl ?_
            refine WL_rd (Rd_len_sv rfl rfl ud23) rfl rfl rfl ?_
            refine WL_rd (Rd_move rfl) rfl rfl rfl ?_
            refine WL_rd (Rd_subN rfl rfl) rfl rfl rfl ?_
            refine WL_rd (Rd_subN (j := 8) rfl rfl) rfl rfl rfl ?_
            refine WL_rd (Rd_convNU rfl ikd3_58 (h' := uk64)) rfl rfl rfl ?_
            refine WL_rd (Rd_gtrN rfl rfl) rfl rfl rfl ?_
            refine WL_end hK19 ?_
            refine WC_cond rfl (fun hc3 => ?_) (fun hc3 => ?_)
            · try simp only [decide_eq_true_eq, decide_eq_false_iff_not, Bool.not_eq_true', Bool.not_eq_false', Bool.not_eq_true, Bool.not_eq_false, Int.not_lt, Int.not_le, Nat.not_lt, Nat.not_le, Decidable.not_not, ne_eq] at hc3
              have hlt : l.length - at_ - 8 < (smM ((l.drop at_).take 8)).toNat := by first | omega | (have h := BitVec.lt_def.1 hc3; omega)
              have hno : stepM l at_ = none := stepM_long (by omega) (by omega)
              have hrd := rdM_fault (hun.trans (unM_bad hc0 hno (by omega)))
              rw [hrd] at hret
              refine WC_star0 (FPB 5) ?_
              refine WC_imp (fun w h => sat_nil (e := 1) (T := 23) (f := ePB) h) ?_
              refine WC_sr fun K20 hK20 => ?_
              refine WL_rd (Rd_move rfl) rfl rfl rfl ?_
              refine WL_rd (Rd_assign rfl) rfl rfl rfl ?_
              refine WL_rd (Rd_assign (v := sl none 0 0) rfl) rfl rfl rfl ?_
              refine WL_rd (Rd_assign rfl) rfl rfl rfl ?_
              refine WL_rd (Rd_assign rfl) rfl rfl rfl ?_
              refine WL_end hK20 ?_
              refine WC_ret ?_
              first | exact hret.goE ⟨⟨none, 0, []⟩, by rfl, BOk_nil⟩ (Rs4 rfl rfl rfl rfl rfl) rfl | exact hret.goE ⟨⟨pa, pc, ps⟩, hrl, hbk⟩ (Rs4 rfl rfl rfl rfl rfl) (by rw [← hmv]; rfl)
            · try simp only [decide_eq_true_eq, decide_eq_false_iff_not, Bool.not_eq_true', Bool.not_eq_false', Bool.not_eq_true, Bool.not_eq_false, Int.not_lt, Int.not_le, Nat.not_lt, Nat.not_le, Decidable.not_not, ne_eq] at hc3
              have hle : (smM ((l.drop at_).take 8)).toNat ≤ l.length - at_ - 8 := by first | omega | (have h := BitVec.le_def.1 (BitVec.not_lt.1 hc3); omega)
              have hyes : stepM l at_ = some (((l.drop at_).drop 8).take (smM ((l.drop at_).take 8)).toNat) := stepM_yes (by omega) (by omega)
              have hnl : (((l.drop at_).drop 8).take (smM ((l.drop at_).take 8)).toNat).length = (smM ((l.drop at_).take 8)).toNat := by rw [List.length_take, List.length_drop, List.length_drop]; omega
              have hSn : Sv [X] (.slice (sao ao (at_ + 8) 1 cap2) (smM ((l.drop at_).take 8)).toNat (cap2 - (at_ + 8))) 1 (eU .u8 (w := 8)) (((l.drop at_).drop 8).take (smM ((l.drop at_).take 8)).toNat) (sao ao (at_ + 8) 1 cap2) (cap2 - (at_ + 8)) := by have h := hS.sub (lo := at_ + 8) (hi := at_ + 8 + (smM ((l.drop at_).take 8)).toNat) (by omega) (by omega); rw [List.drop_take, show at_ + 8 + (smM ((l.drop at_).take 8)).toNat - (at_ + 8) = (smM ((l.drop at_).take 8)).toNat by omega, ← List.drop_drop] at h; exact h
              refine WC_skip ?_
              refine Ps_next hK18 ?_
              refine WC_sr fun K21 hK21 => ?_
              refine WL_rd (Rd_assign (v := sl none 0 0) rfl) rfl rfl rfl ?_
              refine WL_nilarr (eU .u8 (w := 8)) 1 5 ?_
              refine WL_end hK21 ?_
              refine WC_sr fun K22 hK22 => ?_
              refine WL_rd (Rd_move rfl) rfl rfl rfl ?_
              refine WL_rd (Rd_move rfl) rfl rfl rfl ?_
              refine WL_rd (Rd_move rfl) rfl rfl rfl ?_
              refine WL_rd (Rd_addN (j := 8) rfl rfl) rfl rfl rfl ?_
              refine WL_rd (Rd_move rfl) rfl rfl rfl ?_
              refine WL_rd (Rd_addN (j := 8) rfl rfl) rfl rfl rfl ?_
              refine WL_rd (Rd_move rfl) rfl rfl rfl ?_
              refine WL_rd (Rd_convN (i := (smM ((l.drop at_).take 8)).toNat) rfl ikd58_3 (hi := by omega)) rfl rfl rfl ?_
              refine WL_rd (Rd_addN rfl rfl) rfl rfl rfl ?_
              refine WL_rd (Rd_slice_sv (at_ + 8) (at_ + 8 + (smM ((l.drop at_).take 8)).toNat) rfl ⟨_, rfl⟩ ⟨_, rfl⟩ ud23 sz5 (hA := hS)) rfl rfl rfl ?_
              refine WL_imp (fun w h => sat_nil (e := 1) (T := 5) (f := (eU .u8 (w := 8))) h) ?_
              rw [show at_ + 8 + (smM ((l.drop at_).take 8)).toNat - (at_ + 8) = (smM ((l.drop at_).take 8)).toNat by omega]
              refine WL_ac (Ac_appendS (f := (eU .u8 (w := 8))) (encU .u8) rfl rfl ud23 ud23 el5 (hS := hSn) (hb := by simp only [List.length_nil]; omega)) rfl rfl rfl ?_
              rintro _ _ ⟨a55, cap55, rfl, rfl⟩
              rw [show ([] : List B8).length + (((l.drop at_).drop 8).take (smM ((l.drop at_).take 8)).toNat).length = (((l.drop at_).drop 8).take (smM ((l.drop at_).take 8)).toNat).length from Nat.zero_add _, List.nil_append]
              refine WL_fact (fun w h => arr_facts (a := a55) (cap := cap55) (e := 1) (T := 5) (f := (eU .u8 (w := 8))) (l := (((l.drop at_).drop 8).take (smM ((l.drop at_).take 8)).toNat)) (by repeat (first | with_reducible exact Has.here | with_reducible refine Has.there ?_)) h) (fun h55 => ?_)
              refine WL_rd (Rd_assign rfl) rfl rfl rfl ?_
              refine WL_end hK22 ?_
              refine WC_sr fun K23 hK23 => ?_
              refine WL_rd (Rd_move rfl) rfl rfl rfl ?_
              refine WL_rd (Rd_move rfl) rfl rfl rfl ?_
              refine WL_ac (Ac_bs1 (xs := [sl a55 (((l.drop at_).drop 8).take (smM ((l.drop at_).take 8)).toNat).length cap55]) rfl ud22 zr23 sz23) rfl rfl rfl ?_
              rintro _ _ ⟨b58, rfl, rfl⟩
              refine WL_ac (Ac_append1 (f := ePB) encPB (⟨a55, cap55, (((l.drop at_).drop 8).take (smM ((l.drop at_).take 8)).toNat)⟩ : PB) rfl rfl ud22 ud22 el23) rfl rfl rfl ?_
              rintro _ _ ⟨a59, cap59, rfl, rfl⟩
              rw [show arr a55 cap55 1 5 (eU .u8) (((l.drop at_).drop 8).take (smM ((l.drop at_).take 8)).toNat) = FPB 5 (⟨a55, cap55, (((l.drop at_).drop 8).take (smM ((l.drop at_).take 8)).toNat)⟩ : PB) from rfl]
              refine WL_snoc (FPB 5) ps (⟨a55, cap55, (((l.drop at_).drop 8).take (smM ((l.drop at_).take 8)).toNat)⟩ : PB) ?_
              refine WL_rd (Rd_assign rfl) rfl rfl rfl ?_
              refine WL_end hK23 ?_
              refine WC_region ?_
              refine WL_rd (Rd_move rfl) rfl rfl rfl ?_
              refine WL_rd (Rd_addN (j := 8) rfl rfl) rfl rfl rfl ?_
              refine WL_rd (Rd_move rfl) rfl rfl rfl ?_
              refine WL_rd (Rd_convN (i := (smM ((l.drop at_).take 8)).toNat) rfl ikd58_3 (hi := by omega)) rfl rfl rfl ?_
              refine WL_rd (Rd_addN rfl rfl) rfl rfl rfl ?_
              rw [show at_ + 8 + (smM ((l.drop at_).take 8)).toNat = at_ + 8 + (((l.drop at_).drop 8).take (smM ((l.drop at_).take 8)).toNat).length from by rw [hnl]]
              refine WL_rd (Rd_assign rfl) rfl rfl rfl ?_
              refine WL_nil ?_
              refine Ps_wk (by (try simp only [List.cons_append, List.nil_append]); repeat (first | with_reducible exact Wk.nil | refine Wk.cons (by first | rfl | (simp only [List.length_append, List.length_cons, List.length_nil, List.length_replicate, Nat.zero_add]; rfl) | (simp; done)) ?_)) (by (try simp only [List.cons_append, List.nil_append]); repeat (first | with_reducible exact Sub.refl | with_reducible exact Sub.nil | with_reducible refine Sub.cons (by repeat (first | with_reducible exact Ext.here | with_reducible apply Ext.there)) ?_ | with_reducible refine Sub.tail ?_)) (hK5 ⟨at_ + 8 + (((l.drop at_).drop 8).take (smM ((l.drop at_).take 8)).toNat).length, k - 1, ps ++ [(⟨a55, cap55, (((l.drop at_).drop 8).take (smM ((l.drop at_).take 8)).toNat)⟩ : PB)], a59, cap59⟩ (⟨by (try dsimp only); omega, by (try dsimp only); rw [List.length_append, List.length_singleton]; omega, BOk_snoc hbk h55.1 h55.2 (by (try dsimp only); omega), by (try dsimp only); rw [hun, unM_step hc0 hyes (by omega), List.map_append]; rfl, by (try dsimp only); omega⟩) (by (try dsimp only); omega))
    · try simp only [decide_eq_true_eq, decide_eq_false_iff_not, Bool.not_eq_true', Bool.not_eq_false', Bool.not_eq_true, Bool.not_eq_false, Int.not_lt, Int.not_le, Nat.not_lt, Nat.not_le, Decidable.not_not, ne_eq] at hc0
      have hF : rdF l = .inl (ps.map (·.l)) := by rcases unM_end (ps := ps.map (·.l)) (by omega) hkk with q | q; exact hun.trans q; omega
      refine WC_exit ?_
      refine Ps_next hK4 ?_
      refine WC_seq fun K24 hK24 => ?_
      refine WC_sr fun K25 hK25 => ?_
      refine WL_rd (Rd_move rfl) rfl rfl rfl ?_
      refine WL_rd (Rd_len rfl rfl ud22) rfl rfl rfl ?_
      refine WL_rd (Rd_eqlN (j := 0) rfl rfl) rfl rfl rfl ?_
      refine WL_end hK25 ?_
      refine WC_cond rfl (fun hc4 => ?_) (fun hc4 => ?_)
      · try simp only [decide_eq_true_eq, decide_eq_false_iff_not, Bool.not_eq_true', Bool.not_eq_false', Bool.not_eq_true, Bool.not_eq_false, Int.not_lt, Int.not_le, Nat.not_lt, Nat.not_le, Decidable.not_not, ne_eq] at hc4
        have hps : ps = [] := List.eq_nil_of_length_eq_zero (by omega)
        have hrd := rdM_nil (b := l) (by rw [hF, hps]; rfl)
        rw [hrd] at hret
        refine WC_star0 (FPB 5) ?_
        refine WC_imp (fun w h => sat_nil (e := 1) (T := 23) (f := ePB) h) ?_
        refine WC_sr fun K26 hK26 => ?_
        refine WL_rd (Rd_assign rfl) rfl rfl rfl ?_
        refine WL_rd (Rd_assign (v := sl none 0 0) rfl) rfl rfl rfl ?_
        refine WL_rd (Rd_assign rfl) rfl rfl rfl ?_
        refine WL_rd (Rd_assign rfl) rfl rfl rfl ?_
        refine WL_end hK26 ?_
        refine WC_ret ?_
        first | exact hret.goE ⟨⟨none, 0, []⟩, by rfl, BOk_nil⟩ (Rs4 rfl rfl rfl rfl rfl) rfl | exact hret.goE ⟨⟨pa, pc, ps⟩, hrl, hbk⟩ (Rs4 rfl rfl rfl rfl rfl) (by rw [← hmv]; rfl)
      · try simp only [decide_eq_true_eq, decide_eq_false_iff_not, Bool.not_eq_true', Bool.not_eq_false', Bool.not_eq_true, Bool.not_eq_false, Int.not_lt, Int.not_le, Nat.not_lt, Nat.not_le, Decidable.not_not, ne_eq] at hc4
        obtain ⟨p0, rest, hps⟩ : ∃ p r, ps = p :: r := by cases ps with | nil => exact absurd rfl hc4 | cons p r => exact ⟨p, r, rfl⟩
        have hlr : ps.length = rest.length + 1 := by rw [hps]; rfl
        refine WC_fact (fun w h => arr_facts (a := pa) (cap := pc) (e := 1) (T := 23) (f := ePB) (l := ps) (by repeat (first | with_reducible exact Has.here | with_reducible refine Has.there ?_)) h) (fun hpf => ?_)
        have hSq : Sv [arr pa pc 1 23 ePB ps] (sl pa ps.length pc) 1 ePB ps (pa.map fun g => ⟨g, 0, none⟩) pc := Sv_own' encPB hpf.1 hpf.2
        have h0 : ps[0]? = some p0 := by rw [hps]; rfl
        have hp0 : RdP [star (FPB 5) ps] (ptB p0) := Rd_ptB (T := 5) hbk (ptB p0) (by rw [hps]; simp)
        have hp0S : Sv [star (FPB 5) ps] (sl p0.a p0.l.length p0.cap) 1 (eU .u8 (w := 8)) p0.l (p0.a.map fun g => ⟨g, 0, none⟩) p0.cap := hp0
        refine WC_skip ?_
        refine Ps_next hK24 ?_
        refine WC_sr fun K27 hK27 => ?_
        refine WL_rd (Rd_move rfl) rfl rfl rfl ?_
        refine WL_rd (Rd_index_sv 0 rfl rfl ud22 sz23 (hA := hSq) (hi := by omega)) rfl rfl rfl ?_
        refine WL_rd (Rd_load_sv (i := 0) (j := 0) (u := sl p0.a p0.l.length p0.cap) rfl tk23 (hA := hSq) (hl := h0)) rfl rfl rfl ?_
        refine WL_rd (Rd_convBS rfl ud23 ud9 ud5 (hA := hp0S)) rfl rfl rfl ?_
        refine WL_ac (Ac_call cf51 rfl (hs := byWR_ct (l := p0.l))) rfl rfl rfl ?_
        rintro _ _ ⟨⟨⟩, rfl, hA⟩
        simp only [List.cons_append, List.nil_append] at hA
        replace hA := hA.symm
        subst hA
        refine WL_rd (Rd_assign rfl) rfl rfl rfl ?_
        refine WL_end hK27 ?_
        refine WC_seq fun K28 hK28 => ?_
        refine WC_sr fun K29 hK29 => ?_
        refine WL_rd (Rd_move rfl) rfl rfl rfl ?_
        refine WL_rd (Rd_eqlU (b := 0#8) rfl rfl) rfl rfl rfl ?_
        refine WL_end hK29 ?_
        refine WC_cond rfl (fun hc5 => ?_) (fun hc5 => ?_)
        · try simp only [decide_eq_true_eq, decide_eq_false_iff_not, Bool.not_eq_true', Bool.not_eq_false', Bool.not_eq_true, Bool.not_eq_false, Int.not_lt, Int.not_le, Nat.not_lt, Nat.not_le, Decidable.not_not, ne_eq] at hc5
          have hby := byW_0 hc5
          have hrd := rdM_no (b := l) (by rw [hF, hps]; rfl) hby
          rw [hrd] at hret
          refine WC_star0 (FPB 5) ?_
          refine WC_imp (fun w h => sat_nil (e := 1) (T := 23) (f := ePB) h) ?_
          refine WC_sr fun K30 hK30 => ?_
          refine WL_rd (Rd_assign rfl) rfl rfl rfl ?_
          refine WL_rd (Rd_assign (v := sl none 0 0) rfl) rfl rfl rfl ?_
          refine WL_rd (Rd_assign rfl) rfl rfl rfl ?_
          refine WL_rd (Rd_assign rfl) rfl rfl rfl ?_
          refine WL_end hK30 ?_
          refine WC_ret ?_
          first | exact hret.goE ⟨⟨none, 0, []⟩, by rfl, BOk_nil⟩ (Rs4 rfl rfl rfl rfl rfl) rfl | exact hret.goE ⟨⟨pa, pc, ps⟩, hrl, hbk⟩ (Rs4 rfl rfl rfl rfl rfl) (by rw [← hmv]; rfl)
        · try simp only [decide_eq_true_eq, decide_eq_false_iff_not, Bool.not_eq_true', Bool.not_eq_false', Bool.not_eq_true, Bool.not_eq_false, Int.not_lt, Int.not_le, Nat.not_lt, Nat.not_le, Decidable.not_not, ne_eq] at hc5
          obtain ⟨t0, hby⟩ := byW_1 hc5
          rw [show (byW p0.l).getD 0#8 = t0 from by rw [hby]; rfl]
          have hw0 := (byW_some hby).1
          have hrB : Sv [arr pa pc 1 23 ePB ps] (.slice (sao (pa.map fun g => ⟨g, 0, none⟩) 1 1 pc) (ps.length - 1) (pc - 1)) 1 ePB rest (sao (pa.map fun g => ⟨g, 0, none⟩) 1 1 pc) (pc - 1) := by have h := hSq.sub (lo := 1) (hi := ps.length) (by omega) (Nat.le_refl _); rw [List.take_length, hps] at h; rw [hps]; exact h
          have hrS : Sv [arr pa pc 1 23 ePB ps] (.slice (sao (pa.map fun g => ⟨g, 0, none⟩) 1 1 pc) (ps.length - 1) (pc - 1)) 1 fP (rest.map ptB) (sao (pa.map fun g => ⟨g, 0, none⟩) 1 1 pc) (pc - 1) := Sv_mapped hrB (fun e _ => rfl)
          have hrP : ∀ p ∈ rest.map ptB, RdP [sep [star (FPB 5) ps, arr pa pc 1 23 ePB ps]] p := fun p h => (Rd_ptB (T := 5) hbk p (by rw [hps]; exact List.mem_cons_of_mem _ h)).pk (by repeat (first | with_reducible exact Has.here | with_reducible refine Has.there ?_))
          have hrm : (rest.map ptB).map (·.l) = rest.map (·.l) := by rw [List.map_map]; rfl
          refine WC_skip ?_
          refine Ps_next hK28 ?_
          refine WC_seq fun K31 hK31 => ?_
          refine WC_sr fun K32 hK32 => ?_
          refine WL_rd (Rd_move rfl) rfl rfl rfl ?_
          refine WL_rd (Rd_move rfl) rfl rfl rfl ?_
          refine WL_rd (Rd_slice_sv 1 ps.length rfl ⟨_, rfl⟩ rfl ud22 sz23 (hA := hSq)) rfl rfl rfl ?_
          refine WL_pk0 ?_
          refine WL_pull (arr pa pc 1 23 ePB ps) ?_
          refine WL_pull (star (FPB 5) ps) ?_
          refine WL_ac (Ac_call cf48 rfl (hs := fitsR_ct (X := sep [star (FPB 5) ps, arr pa pc 1 23 ePB ps]) (t := t0) (ps := rest.map ptB) (hS := hrS.pk (by repeat (first | with_reducible exact Has.here | with_reducible refine Has.there ?_))) (hP := hrP) (hk := by rw [List.length_map]; omega) (hw := hw0))) rfl rfl rfl ?_
          rintro _ _ ⟨⟨⟩, rfl, hA⟩
          simp only [List.cons_append, List.nil_append] at hA
          replace hA := hA.symm
          subst hA
          refine WL_unpk [star (FPB 5) ps, arr pa pc 1 23 ePB ps] ?_
          simp only [List.cons_append, List.nil_append]
          refine WL_rd (Rd_not rfl) rfl rfl rfl ?_
          refine WL_end hK32 ?_
          refine WC_cond rfl (fun hc6 => ?_) (fun hc6 => ?_)
          · try simp only [decide_eq_true_eq, decide_eq_false_iff_not, Bool.not_eq_true', Bool.not_eq_false', Bool.not_eq_true, Bool.not_eq_false, Int.not_lt, Int.not_le, Nat.not_lt, Nat.not_le, Decidable.not_not, ne_eq] at hc6
            rw [hrm] at hc6
            have hrd := rdM_unfit (b := l) (by rw [hF, hps]; rfl) hby (by simpa using hc6)
            rw [hrd] at hret
            refine WC_star0 (FPB 5) ?_
            refine WC_imp (fun w h => sat_nil (e := 1) (T := 23) (f := ePB) h) ?_
            refine WC_sr fun K33 hK33 => ?_
            refine WL_rd (Rd_assign rfl) rfl rfl rfl ?_
            refine WL_rd (Rd_assign (v := sl none 0 0) rfl) rfl rfl rfl ?_
            refine WL_rd (Rd_assign rfl) rfl rfl rfl ?_
            refine WL_rd (Rd_assign rfl) rfl rfl rfl ?_
            refine WL_end hK33 ?_
            refine WC_ret ?_
            first | exact hret.goE ⟨⟨none, 0, []⟩, by rfl, BOk_nil⟩ (Rs4 rfl rfl rfl rfl rfl) rfl | exact hret.goE ⟨⟨pa, pc, ps⟩, hrl, hbk⟩ (Rs4 rfl rfl rfl rfl rfl) (by rw [← hmv]; rfl)
          · try simp only [decide_eq_true_eq, decide_eq_false_iff_not, Bool.not_eq_true', Bool.not_eq_false', Bool.not_eq_true, Bool.not_eq_false, Int.not_lt, Int.not_le, Nat.not_lt, Nat.not_le, Decidable.not_not, ne_eq] at hc6
            rw [hrm] at hc6
            have hrd := rdM_yes (b := l) (by rw [hF, hps]; rfl) hby (by simpa using hc6)
            rw [hrd] at hret
            have hrl : (ps.drop 1).map (·.l) = rest.map (·.l) := by rw [hps]; rfl
            have hmv : Value.slice (sao (pa.map fun g => ⟨g, 0, none⟩) 1 1 pc) (ps.length - 1) (pc - 1) = mgV pa pc ps := by rw [hps]; rfl
            refine WC_skip ?_
            refine Ps_next hK31 ?_
            refine WC_seq fun K34 hK34 => ?_
            refine WC_drawA mix (fun i => ([2, 2, 2, 2, 2, 2, 2] : List Nat).getD i 0) ?_
            refine WJ_takeP 0 rfl (by kernel_rfl) (Rd_move rfl) rfl rfl rfl (hp _ _) ?_
            refine WJ_takeP 1 rfl (by kernel_rfl) (Rd_move rfl) rfl rfl rfl (hp _ _) ?_
            refine WJ_takeP 2 rfl (by kernel_rfl) (Rd_slice_sv 1 ps.length rfl ⟨_, rfl⟩ rfl ud22 sz23 (hA := hSq)) rfl rfl rfl (hp _ _) ?_
            refine WJ_takeP 3 rfl (by kernel_rfl) (Rd_assign rfl) rfl rfl rfl (hp _ _) ?_
            refine WJ_takeP 4 rfl (by kernel_rfl) (Rd_assign rfl) rfl rfl rfl (hp _ _) ?_
            refine WJ_takeP 5 rfl (by kernel_rfl) (Rd_assign rfl) rfl rfl rfl (hp _ _) ?_
            refine WJ_takeP 6 rfl (by kernel_rfl) (Rd_assign rfl) rfl rfl rfl (hp _ _) ?_
            refine WJ_done (by kernel_rfl) ?_
            refine Ps_next hK34 ?_
            refine WC_ret ?_
            first | exact hret.goE ⟨⟨none, 0, []⟩, by rfl, BOk_nil⟩ (Rs4 rfl rfl rfl rfl rfl) rfl | exact hret.goE ⟨⟨pa, pc, ps⟩, hrl, hbk⟩ (Rs4 rfl rfl rfl rfl rfl) (by rw [← hmv]; rfl)
end Go.Proofs.Ytlcafifjhilleaa
