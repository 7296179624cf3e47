/-
  Contracts of functions that the claim reaches, or the logic and the plain laws that they rest on, or the row over them. (Conditions: none beyond the statement.)
-/
import Derived.Test.YtlcafifjhilleaaPqRdB
set_option linter.all false
namespace Go.Proofs.Ytlcafifjhilleaa
open Go.RowKit Go.SL Go.ShM
set_option maxHeartbeats 1000000
set_option maxRecDepth 20000
set_option linter.all false
theorem cf19 : cfn Try.prog 19 = true := by kernel_rfl
theorem cf20 : cfn Try.prog 20 = true := by kernel_rfl
theorem cf21 : cfn Try.prog 21 = true := by kernel_rfl
theorem cf22 : cfn Try.prog 22 = true := by kernel_rfl
theorem cf23 : cfn Try.prog 23 = true := by kernel_rfl
theorem ikd58_3 : ikd Try.prog 58 3 = some .i64 := by kernel_rfl
theorem read_ct {X : Asn} {v : Value} {l : List B8} {ao : Option Addr} {cap2 : Nat} (hS : Sv [X] v 1 (eU .u8) l ao cap2 := by assumption) (hl : l.length ≤ 50000000000 := by omega) : Ct Try.prog 7 [v] [X] (fun g : {g : RG // g.ps.map (·.l) = (rdM l).2.1 ∧ BOk g.ps} => .tuple #[.int .u8 (((rdM l).1.toNat : Nat) : Int), sl g.val.a g.val.ps.length g.val.cap, .int .i64 (((rdM l).2.2.1 : Nat) : Int), .int .i64 (((rdM l).2.2.2 : Nat) : Int)]) (fun g => [X, star (FPB 5) g.val.ps, arr g.val.a g.val.cap 1 23 ePB g.val.ps]) := by
  refine Ct_body (n := 74) Try.func7 rfl rfl rfl fun F w0 Q hret hnorm hp => ?_
  change WC _ _ _ _ _ _ _ (_ :: F)
  refine WC_sr fun K1 hK1 => ?_
  refine WL_rd (Rd_assign rfl) rfl rfl rfl ?_
  refine WL_rd (Rd_assign (v := sl none 0 0) rfl) rfl rfl rfl ?_
  refine WL_rd (Rd_assign rfl) rfl rfl rfl ?_
  refine WL_rd (Rd_assign rfl) rfl rfl rfl ?_
  refine WL_end hK1 ?_
  refine WC_sr fun K2 hK2 => ?_
  refine WL_rd (Rd_assign (v := sl none 0 0) rfl) rfl rfl rfl ?_
  refine WL_nilarr fP 1 23 ?_
  refine WL_end hK2 ?_
  refine WC_seq fun K3 hK3 => ?_
  refine WC_sr fun K4 hK4 => ?_
  refine WL_rd (Rd_assign rfl) rfl rfl rfl ?_
  refine WL_end hK4 ?_
  refine WC_block ?_
  refine WC_star0 (FPB 5) ?_
  refine WC_imp (fun w h => sat_nil (e := 1) (T := 23) (f := ePB) h) ?_
  refine WC_loopK (σ := Nat × Nat × (List PB) × (Option Nat) × Nat) (fun ⟨at_, k, ps, pa, pc⟩ => [(6, sl pa ps.length pc), (7, .int .i64 ((at_ : Nat) : Int))]) (fun ⟨at_, k, ps, pa, pc⟩ => [star (FPB 5) ps, arr pa pc 1 23 ePB ps]) (fun ⟨at_, k, ps, pa, pc⟩ => at_ ≤ l.length ∧ 8 * ps.length ≤ at_ ∧ BOk ps ∧ rdF l = unM l k at_ (ps.map (·.l)) ∧ l.length < k + at_) (fun ⟨at_, k, ps, pa, pc⟩ => l.length - at_) ⟨0, l.length + 1, [], none, 0⟩ [0, 10, 51, 52, 53, 54, 55, 56, 57, 58, 59, 60, 61, 62, 63, 64, 65, 66, 67, 68, 69, 70, 71, 72, 73] (by repeat (first | exact Kep.nil | apply Kep.drop rfl | apply Kep.keep rfl)) (by (try dsimp only); repeat (first | with_reducible exact Gv.nil | (with_reducible apply Gv.cons; · (repeat (first | with_reducible exact Ext.here | with_reducible apply Ext.there))))) ?_ ?_ Sub.refl ?_
  · exact ⟨Nat.zero_le _, Nat.zero_le _, BOk_nil, rfl, by omega⟩
  · (try dsimp only); exact (Wk.cons (by first | rfl | (simp only [List.length_append, List.length_cons, List.length_nil, List.length_replicate, Nat.zero_add]; rfl) | (simp; done)) (Wk.cons (by first | rfl | (simp only [List.length_append, List.length_cons, List.length_nil, List.length_replicate, Nat.zero_add]; rfl) | (simp; done)) Wk.nil))
  · rintro ⟨at_, k, ps, pa, pc⟩ ⟨hat, hpl, hbk, hun, hkk⟩ K5 hK5
    simp only [List.cons_append, List.nil_append]
    refine WC_seq fun K6 hK6 => ?_
    refine WC_sr fun K7 hK7 => ?_
    refine WL_rd (Rd_move rfl) rfl rfl rfl ?_
    refine WL_rd (Rd_move rfl) rfl rfl rfl ?_
    refine WL_rd (Rd_len_sv rfl rfl ud23) rfl rfl rfl ?_
    refine WL_rd (Rd_lssN rfl rfl) rfl rfl rfl ?_
    refine WL_end hK7 ?_
    refine WC_cond rfl (fun hc0 => ?_) (fun hc0 => ?_)
    · try simp only [decide_eq_true_eq, decide_eq_false_iff_not, Bool.not_eq_true', Bool.not_eq_false', Bool.not_eq_true, Bool.not_eq_false, Int.not_lt, Int.not_le, Nat.not_lt, Nat.not_le, Decidable.not_not, ne_eq] at hc0
      have hR : Sv [X] (.slice (sao ao at_ 1 cap2) (l.length - at_) (cap2 - at_)) 1 (eU .u8 (w := 8)) (l.drop at_) (sao ao at_ 1 cap2) (cap2 - at_) := by have h := hS.sub (lo := at_) (hi := l.length) (by omega) (Nat.le_refl _); rw [List.take_length] at h; exact h
      have hdl : (l.drop at_).length = l.length - at_ := List.length_drop
      refine WC_skip ?_
      refine Ps_next hK6 ?_
      refine WC_block ?_
      refine WC_sr fun K8 hK8 => ?_
      refine WL_rd (Rd_move rfl) rfl rfl rfl ?_
      refine WL_rd (Rd_move rfl) rfl rfl rfl ?_
      refine WL_rd (Rd_slice_sv _ _ rfl ⟨_, rfl⟩ rfl ud23 sz5) rfl rfl rfl ?_
      refine WL_ac (Ac_call cf19 rfl (hs := newRd_ct (X := X) (l := l.drop at_) (hS := hR))) rfl rfl rfl ?_
      rintro _ _ ⟨⟨c18, a18, k18⟩, rfl, hA⟩
      simp only [List.cons_append, List.nil_append] at hA
      replace hA := hA.symm
      subst hA
      refine WL_fact (fun w h => arr_facts (a := a18) (cap := k18) (e := 1) (T := 5) (f := (eU .u8 (w := 8))) (l := l.drop at_) (by repeat (first | with_reducible exact Has.here | with_reducible refine Has.there ?_)) h) (fun h18 => ?_)
      have hQ : Sv [arr a18 k18 1 5 (eU .u8) (l.drop at_)] (sl a18 (l.drop at_).length k18) 1 (eU .u8 (w := 8)) (l.drop at_) (a18.map fun g => ⟨g, 0, none⟩) k18 := Sv_own' (encU .u8 (w := 8)) h18.1 h18.2
      refine WL_rd (Rd_assign rfl) rfl rfl rfl ?_
      refine WL_end hK8 ?_
      refine WC_sr fun K9 hK9 => ?_
      refine WL_rd (Rd_move rfl) rfl rfl rfl ?_
      refine WL_ac (Ac_call cf20 rfl (hs := long2_ct (X := arr a18 k18 1 5 (eU .u8) (l.drop at_)) (v := sl a18 (l.drop at_).length k18) (r := l.drop at_) (hS := hQ))) rfl rfl rfl ?_
      rintro _ _ ⟨⟨⟨gv, gf⟩, hgo⟩, rfl, hA⟩
      simp only [List.cons_append, List.nil_append] at hA
      replace hA := hA.symm
      subst hA
      have hgS : gf = false → Sv [arr a18 k18 1 5 (eU .u8) (l.drop at_)] gv 1 (eU .u8 (w := 8)) ((l.drop at_).drop 8) (sao (a18.map fun g => ⟨g, 0, none⟩) 8 1 k18) (k18 - 8) := fun hz => by rcases hgo with ⟨q, _⟩ | ⟨_, h8, q⟩; (exact absurd (q.symm.trans hz) (by decide)); (have h := hQ.sub (lo := 8) (hi := (l.drop at_).length) h8 (Nat.le_refl _)); rw [List.take_length] at h; dsimp only at q; rw [q]; exact h
      have hd8 : ((l.drop at_).drop 8).length = l.length - at_ - 8 := by rw [List.length_drop, hdl]
      have hgf : gf = true ↔ l.length - at_ < 8 := by rcases hgo with ⟨q, h8⟩ | ⟨q, h8, _⟩ <;> dsimp only at q <;> simp [q] <;> omega
      refine WL_rd (Rd_assign rfl) rfl rfl rfl ?_
      refine WL_end hK9 ?_
      refine WC_seq fun K10 hK10 => ?_
      refine WC_sr fun K11 hK11 => ?_
      refine WL_rd (Rd_move rfl) rfl rfl rfl ?_
      refine WL_ac (Ac_call cf21 rfl (hs := left2_ct (X := arr a18 k18 1 5 (eU .u8) (l.drop at_)) (v := gv) (r := (l.drop at_).drop 8) (ft := gf) hgS)) rfl rfl rfl ?_
      rintro _ _ ⟨⟨⟩, rfl, hA⟩
      simp only [List.cons_append, List.nil_append] at hA
      replace hA := hA.symm
      subst hA
      refine WL_rd (Rd_eqlN (j := 0) rfl rfl) rfl rfl rfl ?_
      refine WL_rd (Rd_move rfl) rfl rfl rfl ?_
      refine WL_bool 24 rfl (fun hg12 => ?_) (fun hg12 => ?_)
      · try simp only [decide_eq_true_eq, decide_eq_false_iff_not, Bool.not_eq_true', Bool.not_eq_false', Bool.not_eq_true, Bool.not_eq_false, Int.not_lt, Int.not_le, Nat.not_lt, Nat.not_le, Decidable.not_not, ne_eq] at hg12
        have qa := hg12
        refine WL_rd (Rd_move rfl) rfl rfl rfl ?_
        refine WL_rd (Rd_len_sv rfl rfl ud23) rfl rfl rfl ?_
        refine WL_rd (Rd_move rfl) rfl rfl rfl ?_
        refine WL_rd (Rd_subN rfl rfl) rfl rfl rfl ?_
        refine WL_rd (Rd_lssN (j := 8) rfl rfl) rfl rfl rfl ?_
        refine WL_rd (Rd_pickT rfl rfl) rfl rfl rfl ?_
        refine WL_rd (Rd_move rfl) rfl rfl rfl ?_
        refine WL_bool 31 rfl (fun hg13 => ?_) (fun hg13 => ?_)
        · try simp only [decide_eq_true_eq, decide_eq_false_iff_not, Bool.not_eq_true', Bool.not_eq_false', Bool.not_eq_true, Bool.not_eq_false, Int.not_lt, Int.not_le, Nat.not_lt, Nat.not_le, Decidable.not_not, ne_eq] at hg13
          have qb := hg13
          have hno : stepM l at_ = none := stepM_short (by omega)
          have hrd := rdM_fault (hun.trans (unM_bad hc0 hno (by omega)))
          rw [hrd] at hret
          refine WL_star0 (FPB 5) ?_
          refine WL_imp (fun w h => sat_nil (e := 1) (T := 23) (f := ePB) h) ?_
          refine WL_skip rfl rfl rfl ?_
          refine WL_skip rfl rfl rfl ?_
          refine WL_skip rfl rfl rfl ?_
          refine WL_skip rfl rfl rfl ?_
          refine WL_skip rfl rfl rfl ?_
          refine WL_rd (Rd_pickT rfl rfl) rfl rfl rfl ?_
          refine WL_end hK11 ?_
          refine WC_condT rfl ?_
          refine WC_sr fun K14 hK14 => ?_
          refine WL_rd (Rd_move rfl) rfl rfl rfl ?_
          refine WL_rd (Rd_assign rfl) rfl rfl rfl ?_
          refine WL_rd (Rd_assign (v := sl none 0 0) rfl) rfl rfl rfl ?_
          refine WL_rd (Rd_assign rfl) rfl rfl rfl ?_
          refine WL_rd (Rd_assign rfl) rfl rfl rfl ?_
          refine WL_end hK14 ?_
          refine WC_ret ?_
          first | exact hret.goE ⟨⟨none, 0, []⟩, by rfl, BOk_nil⟩ (Rs4 rfl rfl rfl rfl rfl) rfl | exact hret.goE ⟨⟨a73, cap73, rest⟩, hrl, hrb⟩ (Rs4 rfl rfl rfl rfl rfl) rfl
        · try simp only [decide_eq_true_eq, decide_eq_false_iff_not, Bool.not_eq_true', Bool.not_eq_false', Bool.not_eq_true, Bool.not_eq_false, Int.not_lt, Int.not_le, Nat.not_lt, Nat.not_le, Decidable.not_not, ne_eq] at hg13
          have qb := hg13
          refine WL_rd (Rd_move rfl) rfl rfl rfl ?_
          refine WL_rd (Rd_move rfl) rfl rfl rfl ?_
          refine WL_ac (Ac_call cf21 rfl (hs := left2_ct (X := arr a18 k18 1 5 (eU .u8) (l.drop at_)) (v := gv) (r := (l.drop at_).drop 8) (ft := gf) hgS)) rfl rfl rfl ?_
          rintro _ _ ⟨⟨⟩, rfl, hA⟩
          simp only [List.cons_append, List.nil_append] at hA
          replace hA := hA.symm
          subst hA
          refine WL_rd (Rd_convNU rfl ikd3_58 (h' := uk64)) rfl rfl rfl ?_
          refine WL_rd (Rd_gtrN rfl rfl) rfl rfl rfl ?_
          refine WL_rd (Rd_pickF rfl rfl) rfl rfl rfl ?_
          refine WL_end hK11 ?_
          refine WC_cond rfl (fun hc1 => ?_) (fun hc1 => ?_)
          · try simp only [decide_eq_true_eq, decide_eq_false_iff_not, Bool.not_eq_true', Bool.not_eq_false', Bool.not_eq_true, Bool.not_eq_false, Int.not_lt, Int.not_le, Nat.not_lt, Nat.not_le, Decidable.not_not, ne_eq] at hc1
            have hgz : gf = false := by first | (cases hq : gf with | false => rfl | true => exact absurd (hgf.1 hq) (by omega)) | (cases gf with | false => rfl | true => exact absurd rfl qa)
            have h8 : 8 ≤ l.length - at_ := by rcases hgo with ⟨q, _⟩ | ⟨_, q, _⟩; exact absurd (q.symm.trans hgz) (by decide); omega
            subst hgz
            have hlf : lfM false ((l.drop at_).drop 8).length = l.length - at_ - 8 := hd8
            have hof : (BitVec.ofNat 64 (lfM false ((l.drop at_).drop 8).length)).toNat = l.length - at_ - 8 := by rw [hlf, BitVec.toNat_ofNat]; omega
            have hlg0 := lgM_ok (r := l.drop at_) (by rw [hdl]; omega)
            rw [hlg0] at hc1
            have hno : stepM l at_ = none := stepM_long (by omega) (by omega)
            have hrd := rdM_fault (hun.trans (unM_bad hc0 hno (by omega)))
            rw [hrd] at hret
            refine WC_star0 (FPB 5) ?_
            refine WC_imp (fun w h => sat_nil (e := 1) (T := 23) (f := ePB) h) ?_
            refine WC_sr fun K15 hK15 => ?_
            refine WL_rd (Rd_move rfl) rfl rfl rfl ?_
            refine WL_rd (Rd_assign rfl) rfl rfl rfl ?_
            refine WL_rd (Rd_assign (v := sl none 0 0) rfl) rfl rfl rfl ?_
            refine WL_rd (Rd_assign rfl) rfl rfl rfl ?_
            refine WL_rd (Rd_assign rfl) rfl rfl rfl ?_
            refine WL_end hK15 ?_
            refine WC_ret ?_
            first | exact hret.goE ⟨⟨none, 0, []⟩, by rfl, BOk_nil⟩ (Rs4 rfl rfl rfl rfl rfl) rfl | exact hret.goE ⟨⟨a73, cap73, rest⟩, hrl, hrb⟩ (Rs4 rfl rfl rfl rfl rfl) rfl
          · try simp only [decide_eq_true_eq, decide_eq_false_iff_not, Bool.not_eq_true', Bool.not_eq_false', Bool.not_eq_true, Bool.not_eq_false, Int.not_lt, Int.not_le, Nat.not_lt, Nat.not_le, Decidable.not_not, ne_eq] at hc1
            have hgz : gf = false := by first | (cases hq : gf with | false => rfl | true => exact absurd (hgf.1 hq) (by omega)) | (cases gf with | false => rfl | true => exact absurd rfl qa)
            have h8 : 8 ≤ l.length - at_ := by rcases hgo with ⟨q, _⟩ | ⟨_, q, _⟩; exact absurd (q.symm.trans hgz) (by decide); omega
            subst hgz
            have hlf : lfM false ((l.drop at_).drop 8).length = l.length - at_ - 8 := hd8
            have hof : (BitVec.ofNat 64 (lfM false ((l.drop at_).drop 8).length)).toNat = l.length - at_ - 8 := by rw [hlf, BitVec.toNat_ofNat]; omega
            have hlg0 := lgM_ok (r := l.drop at_) (by rw [hdl]; omega)
            rw [hlg0] at hc1
            have hlg := hlg0
            have hyes : stepM l at_ = some (((l.drop at_).drop 8).take (smM ((l.drop at_).take 8)).toNat) := stepM_yes (by omega) (by omega)
            rw [hlg]
            refine WC_skip ?_
            refine Ps_next hK10 ?_
            refine WC_sr fun K16 hK16 => ?_
            refine WL_rd (Rd_move rfl) rfl rfl rfl ?_
            refine WL_rd (Rd_move rfl) rfl rfl rfl ?_
            refine WL_rd (Rd_move rfl) rfl rfl rfl ?_
            refine WL_rd (Rd_convN rfl ikd58_3) rfl rfl rfl ?_
            refine WL_ac (Ac_call cf22 rfl (hs := rbytes_ct (X := arr a18 k18 1 5 (eU .u8) (l.drop at_)) (v := gv) (r := (l.drop at_).drop 8) (n := (smM ((l.drop at_).take 8)).toNat) (hS := hgS rfl) (hn := by rw [hd8]; omega))) rfl rfl rfl ?_
            rintro _ _ ⟨⟨a43, cap43⟩, rfl, hA⟩
            simp only [List.cons_append, List.nil_append] at hA
            replace hA := hA.symm
            subst hA
            refine WL_fact (fun w h => arr_facts (a := a43) (cap := cap43) (e := 1) (T := 5) (f := (eU .u8 (w := 8))) (l := (((l.drop at_).drop 8).take (smM ((l.drop at_).take 8)).toNat)) (by repeat (first | with_reducible exact Has.here | with_reducible refine Has.there ?_)) h) (fun h43 => ?_)
            have hnl : (((l.drop at_).drop 8).take (smM ((l.drop at_).take 8)).toNat).length = (smM ((l.drop at_).take 8)).toNat := by rw [List.length_take, hd8]; omega
            refine WL_ac (Ac_bs1 (xs := [sl a43 (smM ((l.drop at_).take 8)).toNat cap43]) rfl ud22 zr23 sz23) rfl rfl rfl ?_
            rintro _ _ ⟨b44, rfl, rfl⟩
            refine WL_ac (Ac_append1 (f := ePB) encPB (⟨a43, cap43, (((l.drop at_).drop 8).take (smM ((l.drop at_).take 8)).toNat)⟩ : PB) rfl rfl ud22 ud22 el23 (hu := by show _ = [sl a43 (((l.drop at_).drop 8).take (smM ((l.drop at_).take 8)).toNat).length cap43]; rw [hnl])) rfl rfl rfl ?_
            rintro _ _ ⟨a45, cap45, rfl, rfl⟩
            rw [show arr a43 cap43 1 5 (eU .u8) (((l.drop at_).drop 8).take (smM ((l.drop at_).take 8)).toNat) = FPB 5 (⟨a43, cap43, (((l.drop at_).drop 8).take (smM ((l.drop at_).take 8)).toNat)⟩ : PB) from rfl]
            refine WL_snoc (FPB 5) ps (⟨a43, cap43, (((l.drop at_).drop 8).take (smM ((l.drop at_).take 8)).toNat)⟩ : PB) ?_
            refine WL_rd (Rd_assign rfl) rfl rfl rfl ?_
            refine WL_end hK16 ?_
            refine WC_region ?_
            refine WL_rd (Rd_move rfl) rfl rfl rfl ?_
            refine WL_rd (Rd_move rfl) rfl rfl rfl ?_
            refine WL_rd (Rd_convN rfl ikd58_3) rfl rfl rfl ?_
            refine WL_rd (Rd_addN (i := 8) rfl rfl) rfl rfl rfl ?_
            refine WL_rd (Rd_addN rfl rfl) rfl rfl rfl ?_
            rw [show at_ + (8 + (smM ((l.drop at_).take 8)).toNat) = at_ + 8 + (((l.drop at_).drop 8).take (smM ((l.drop at_).take 8)).toNat).length from by rw [hnl]; omega]
            refine WL_rd (Rd_assign rfl) rfl rfl rfl ?_
            refine WL_nil ?_
            refine Ps_wk (by (try simp only [List.cons_append, List.nil_append]); repeat (first | with_reducible exact Wk.nil | refine Wk.cons (by first | rfl | (simp only [List.length_append, List.length_cons, List.length_nil, List.length_replicate, Nat.zero_add]; rfl) | (simp; done)) ?_)) (by (try simp only [List.cons_append, List.nil_append]); repeat (first | with_reducible exact Sub.refl | with_reducible exact Sub.nil | with_reducible refine Sub.cons (by repeat (first | with_reducible exact Ext.here | with_reducible apply Ext.there)) ?_ | with_reducible refine Sub.tail ?_)) (hK5 ⟨at_ + 8 + (((l.drop at_).drop 8).take (smM ((l.drop at_).take 8)).toNat).length, k - 1, ps ++ [(⟨a43, cap43, (((l.drop at_).drop 8).take (smM ((l.drop at_).take 8)).toNat)⟩ : PB)], a45, cap45⟩ (⟨by (try dsimp only); omega, by (try dsimp only); rw [List.length_append, List.length_singleton]; omega, BOk_snoc hbk h43.1 h43.2 (by (try dsimp only); omega), by (try dsimp only); rw [hun, unM_step hc0 hyes (by omega), List.map_append]; rfl, by (try dsimp only); omega⟩) (by (try dsimp only); omega))
      · try simp only [decide_eq_true_eq, decide_eq_false_iff_not, Bool.not_eq_true', Bool.not_eq_false', Bool.not_eq_true, Bool.not_eq_false, Int.not_lt, Int.not_le, Nat.not_lt, Nat.not_le, Decidable.not_not, ne_eq] at hg12
        have qa := hg12
        refine WL_skip rfl rfl rfl ?_
        refine WL_skip rfl rfl rfl ?_
        refine WL_skip rfl rfl rfl ?_
        refine WL_skip rfl rfl rfl ?_
        refine WL_skip rfl rfl rfl ?_
        refine WL_rd (Rd_pickF rfl rfl) rfl rfl rfl ?_
        refine WL_rd (Rd_move rfl) rfl rfl rfl ?_
        refine WL_rd (Rd_move rfl) rfl rfl rfl ?_
        refine WL_rd (Rd_move rfl) rfl rfl rfl ?_
        refine WL_ac (Ac_call cf21 rfl (hs := left2_ct (X := arr a18 k18 1 5 (eU .u8) (l.drop at_)) (v := gv) (r := (l.drop at_).drop 8) (ft := gf) hgS)) rfl rfl rfl ?_
        rintro _ _ ⟨⟨⟩, rfl, hA⟩
        simp only [List.cons_append, List.nil_append] at hA
        replace hA := hA.symm
        subst hA
        refine WL_rd (Rd_convNU rfl ikd3_58 (h' := uk64)) rfl rfl rfl ?_
        refine WL_rd (Rd_gtrN rfl rfl) rfl rfl rfl ?_
        refine WL_rd (Rd_pickF rfl rfl) rfl rfl rfl ?_
        refine WL_end hK11 ?_
        refine WC_cond rfl (fun hc1 => ?_) (fun hc1 => ?_)
        · try simp only [decide_eq_true_eq, decide_eq_false_iff_not, Bool.not_eq_true', Bool.not_eq_false', Bool.not_eq_true, Bool.not_eq_false, Int.not_lt, Int.not_le, Nat.not_lt, Nat.not_le, Decidable.not_not, ne_eq] at hc1
          have hgz : gf = false := by first | (cases hq : gf with | false => rfl | true => exact absurd (hgf.1 hq) (by omega)) | (cases gf with | false => rfl | true => exact absurd rfl qa)
          have h8 : 8 ≤ l.length - at_ := by rcases hgo with ⟨q, _⟩ | ⟨_, q, _⟩; exact absurd (q.symm.trans hgz) (by decide); omega
          subst hgz
          have hlf : lfM false ((l.drop at_).drop 8).length = l.length - at_ - 8 := hd8
          have hof : (BitVec.ofNat 64 (lfM false ((l.drop at_).drop 8).length)).toNat = l.length - at_ - 8 := by rw [hlf, BitVec.toNat_ofNat]; omega
          have hlg0 := lgM_ok (r := l.drop at_) (by rw [hdl]; omega)
          rw [hlg0] at hc1
          have hno : stepM l at_ = none := stepM_long (by omega) (by omega)
          have hrd := rdM_fault (hun.trans (unM_bad hc0 hno (by omega)))
          rw [hrd] at hret
          refine WC_star0 (FPB 5) ?_
          refine WC_imp (fun w h => sat_nil (e := 1) (T := 23) (f := ePB) h) ?_
          refine WC_sr fun K17 hK17 => ?_
          refine WL_rd (Rd_move rfl) rfl rfl rfl ?_
          refine WL_rd (Rd_assign rfl) rfl rfl rfl ?_
          refine WL_rd (Rd_assign (v := sl none 0 0) rfl) rfl rfl rfl ?_
          refine WL_rd (Rd_assign rfl) rfl rfl rfl ?_
          refine WL_rd (Rd_assign rfl) rfl rfl rfl ?_
          refine WL_end hK17 ?_
          refine WC_ret ?_
          first | exact hret.goE ⟨⟨none, 0, []⟩, by rfl, BOk_nil⟩ (Rs4 rfl rfl rfl rfl rfl) rfl | exact hret.goE ⟨⟨a73, cap73, rest⟩, hrl, hrb⟩ (Rs4 rfl rfl rfl rfl rfl) rfl
        · try simp only [decide_eq_true_eq, decide_eq_false_iff_not, Bool.not_eq_true', Bool.not_eq_false', Bool.not_eq_true, Bool.not_eq_false, Int.not_lt, Int.not_le, Nat.not_lt, Nat.not_le, Decidable.not_not, ne_eq] at hc1
          have hgz : gf = false := by first | (cases hq : gf with | false => rfl | true => exact absurd (hgf.1 hq) (by omega)) | (cases gf with | false => rfl | true => exact absurd rfl qa)
          have h8 : 8 ≤ l.length - at_ := by rcases hgo with ⟨q, _⟩ | ⟨_, q, _⟩; exact absurd (q.symm.trans hgz) (by decide); omega
          subst hgz
          have hlf : lfM false ((l.drop at_).drop 8).length = l.length - at_ - 8 := hd8
          have hof : (BitVec.ofNat 64 (lfM false ((l.drop at_).drop 8).length)).toNat = l.length - at_ - 8 := by rw [hlf, BitVec.toNat_ofNat]; omega
          have hlg0 := lgM_ok (r := l.drop at_) (by rw [hdl]; omega)
          rw [hlg0] at hc1
          have hlg := hlg0
          have hyes : stepM l at_ = some (((l.drop at_).drop 8).take (smM ((l.drop at_).take 8)).toNat) := stepM_yes (by omega) (by omega)
          rw [hlg]
          refine WC_skip ?_
          refine Ps_next hK10 ?_
          refine WC_sr fun K18 hK18 => ?_
          refine WL_rd (Rd_move rfl) rfl rfl rfl ?_
          refine WL_rd (Rd_move rfl) rfl rfl rfl ?_
          refine WL_rd (Rd_move rfl) rfl rfl rfl ?_
          refine WL_rd (Rd_convN rfl ikd58_3) rfl rfl rfl ?_
          refine WL_ac (Ac_call cf22 rfl (hs := rbytes_ct (X := arr a18 k18 1 5 (eU .u8) (l.drop at_)) (v := gv) (r := (l.drop at_).drop 8) (n := (smM ((l.drop at_).take 8)).toNat) (hS := hgS rfl) (hn := by rw [hd8]; omega))) rfl rfl rfl ?_
          rintro _ _ ⟨⟨a43, cap43⟩, rfl, hA⟩
          simp only [List.cons_append, List.nil_append] at hA
          replace hA := hA.symm
          subst hA
          refine WL_fact (fun w h => arr_facts (a := a43) (cap := cap43) (e := 1) (T := 5) (f := (eU .u8 (w := 8))) (l := (((l.drop at_).drop 8).take (smM ((l.drop at_).take 8)).toNat)) (by repeat (first | with_reducible exact Has.here | with_reducible refine Has.there ?_)) h) (fun h43 => ?_)
          have hnl : (((l.drop at_).drop 8).take (smM ((l.drop at_).take 8)).toNat).length = (smM ((l.drop at_).take 8)).toNat := by rw [List.length_take, hd8]; omega
          refine WL_ac (Ac_bs1 (xs := [sl a43 (smM ((l.drop at_).take 8)).toNat cap43]) rfl ud22 zr23 sz23) rfl rfl rfl ?_
          rintro _ _ ⟨b44, rfl, rfl⟩
          refine WL_ac (Ac_append1 (f := ePB) encPB (⟨a43, cap43, (((l.drop at_).drop 8).take (smM ((l.drop at_).take 8)).toNat)⟩ : PB) rfl rfl ud22 ud22 el23 (hu := by show _ = [sl a43 (((l.drop at_).drop 8).take (smM ((l.drop at_).take 8)).toNat).length cap43]; rw [hnl])) rfl rfl rfl ?_
          rintro _ _ ⟨a45, cap45, rfl, rfl⟩
          rw [show arr a43 cap43 1 5 (eU .u8) (((l.drop at_).drop 8).take (smM ((l.drop at_).take 8)).toNat) = FPB 5 (⟨a43, cap43, (((l.drop at_).drop 8).take (smM ((l.drop at_).take 8)).toNat)⟩ : PB) from rfl]
          refine WL_snoc (FPB 5) ps (⟨a43, cap43, (((l.drop at_).drop 8).take (smM ((l.drop at_).take 8)).toNat)⟩ : PB) ?_
          refine WL_rd (Rd_assign rfl) rfl rfl rfl ?_
          refine WL_end hK18 ?_
          refine WC_region ?_
          refine WL_rd (Rd_move rfl) rfl rfl rfl ?_
          refine WL_rd (Rd_move rfl) rfl rfl rfl ?_
          refine WL_rd (Rd_convN rfl ikd58_3) rfl rfl rfl ?_
          refine WL_rd (Rd_addN (i := 8) rfl rfl) rfl rfl rfl ?_
          refine WL_rd (Rd_addN rfl rfl) rfl rfl rfl ?_
          rw [show at_ + (8 + (smM ((l.drop at_).take 8)).toNat) = at_ + 8 + (((l.drop at_).drop 8).take (smM ((l.drop at_).take 8)).toNat).length from by rw [hnl]; omega]
          refine WL_rd (Rd_assign rfl) rfl rfl rfl ?_
          refine WL_nil ?_
          refine Ps_wk (by (try simp only [List.cons_append, List.nil_append]); repeat (first | with_reducible exact Wk.nil | refine Wk.cons (by first | rfl | (simp only [List.length_append, List.length_cons, List.length_nil, List.length_replicate, Nat.zero_add]; rfl) | (simp; done)) ?_)) (by (try simp only [List.cons_append, List.nil_append]); repeat (first | with_reducible exact Sub.refl | with_reducible exact Sub.nil | with_reducible refine Sub.cons (by repeat (first | with_reducible exact Ext.here | with_reducible apply Ext.there)) ?_ | with_reducible refine Sub.tail ?_)) (hK5 ⟨at_ + 8 + (((l.drop at_).drop 8).take (smM ((l.drop at_).take 8)).toNat).length, k - 1, ps ++ [(⟨a43, cap43, (((l.drop at_).drop 8).take (smM ((l.drop at_).take 8)).toNat)⟩ : PB)], a45, cap45⟩ (⟨by (try dsimp only); omega, by (try dsimp only); rw [List.length_append, List.length_singleton]; omega, BOk_snoc hbk h43.1 h43.2 (by (try dsimp only); omega), by (try dsimp only); rw [hun, unM_step hc0 hyes (by omega), List.map_append]; rfl, by (try dsimp only); omega⟩) (by (try dsimp only); omega))
    · try simp only [decide_eq_true_eq, decide_eq_false_iff_not, Bool.not_eq_true', Bool.not_eq_false', Bool.not_eq_true, Bool.not_eq_false, Int.not_lt, Int.not_le, Nat.not_lt, Nat.not_le, Decidable.not_not, ne_eq] at hc0
      have hF : rdF l = .inl (ps.map (·.l)) := by rcases unM_end (ps := ps.map (·.l)) (by omega) hkk with q | q; exact hun.trans q; omega
      refine WC_exit ?_
      refine Ps_next hK3 ?_
      refine WC_seq fun K19 hK19 => ?_
      refine WC_sr fun K20 hK20 => ?_
      refine WL_rd (Rd_move rfl) rfl rfl rfl ?_
      refine WL_rd (Rd_len rfl rfl ud22) rfl rfl rfl ?_
      refine WL_rd (Rd_eqlN (j := 0) rfl rfl) rfl rfl rfl ?_
      refine WL_end hK20 ?_
      refine WC_cond rfl (fun hc2 => ?_) (fun hc2 => ?_)
      · try simp only [decide_eq_true_eq, decide_eq_false_iff_not, Bool.not_eq_true', Bool.not_eq_false', Bool.not_eq_true, Bool.not_eq_false, Int.not_lt, Int.not_le, Nat.not_lt, Nat.not_le, Decidable.not_not, ne_eq] at hc2
        have hps : ps = [] := List.eq_nil_of_length_eq_zero (by omega)
        have hrd := rdM_nil (b := l) (by rw [hF, hps]; rfl)
        rw [hrd] at hret
        refine WC_star0 (FPB 5) ?_
        refine WC_imp (fun w h => sat_nil (e := 1) (T := 23) (f := ePB) h) ?_
        refine WC_sr fun K21 hK21 => ?_
        refine WL_rd (Rd_assign rfl) rfl rfl rfl ?_
        refine WL_rd (Rd_assign (v := sl none 0 0) rfl) rfl rfl rfl ?_
        refine WL_rd (Rd_assign rfl) rfl rfl rfl ?_
        refine WL_rd (Rd_assign rfl) rfl rfl rfl ?_
        refine WL_end hK21 ?_
        refine WC_ret ?_
        first | exact hret.goE ⟨⟨none, 0, []⟩, by rfl, BOk_nil⟩ (Rs4 rfl rfl rfl rfl rfl) rfl | exact hret.goE ⟨⟨a73, cap73, rest⟩, hrl, hrb⟩ (Rs4 rfl rfl rfl rfl rfl) rfl
      · try simp only [decide_eq_true_eq, decide_eq_false_iff_not, Bool.not_eq_true', Bool.not_eq_false', Bool.not_eq_true, Bool.not_eq_false, Int.not_lt, Int.not_le, Nat.not_lt, Nat.not_le, Decidable.not_not, ne_eq] at hc2
        obtain ⟨p0, rest, hps⟩ : ∃ p r, ps = p :: r := by cases ps with | nil => exact absurd rfl hc2 | cons p r => exact ⟨p, r, rfl⟩
        have hlr : ps.length = rest.length + 1 := by rw [hps]; rfl
        refine WC_fact (fun w h => arr_facts (a := pa) (cap := pc) (e := 1) (T := 23) (f := ePB) (l := ps) (by repeat (first | with_reducible exact Has.here | with_reducible refine Has.there ?_)) h) (fun hpf => ?_)
        have hSq : Sv [arr pa pc 1 23 ePB ps] (sl pa ps.length pc) 1 ePB ps (pa.map fun g => ⟨g, 0, none⟩) pc := Sv_own' encPB hpf.1 hpf.2
        have h0 : ps[0]? = some p0 := by rw [hps]; rfl
        have hp0 : RdP [star (FPB 5) ps] (ptB p0) := Rd_ptB (T := 5) hbk (ptB p0) (by rw [hps]; simp)
        have hp0S : Sv [star (FPB 5) ps] (sl p0.a p0.l.length p0.cap) 1 (eU .u8 (w := 8)) p0.l (p0.a.map fun g => ⟨g, 0, none⟩) p0.cap := hp0
        refine WC_skip ?_
        refine Ps_next hK19 ?_
        refine WC_seq fun K22 hK22 => ?_
        refine WC_sr fun K23 hK23 => ?_
        refine WL_rd (Rd_assign rfl) rfl rfl rfl ?_
        refine WL_end hK23 ?_
        refine WC_block ?_
        refine WC_loopK (σ := Nat) (fun t => [(10, .int .u8 (((BitVec.ofNat 8 t).toNat : Nat) : Int))]) (fun t => []) (fun t => 1 ≤ t ∧ t ≤ 10 ∧ ∀ u, 1 ≤ u → u < t → bsS (wordS (BitVec.ofNat 8 u)) ≠ p0.l) (fun t => 10 - t) (1) [6] (by repeat (first | exact Kep.nil | apply Kep.drop rfl | apply Kep.keep rfl)) (by (try dsimp only); repeat (first | with_reducible exact Gv.nil | (with_reducible apply Gv.cons; · (repeat (first | with_reducible exact Ext.here | with_reducible apply Ext.there))))) ?_ ?_ Sub.refl ?_
        · exact ⟨Nat.le_refl _, by omega, fun u h1 h2 => by omega⟩
        · (try dsimp only); exact (Wk.cons (by first | rfl | (simp only [List.length_append, List.length_cons, List.length_nil, List.length_replicate, Nat.zero_add]; rfl) | (simp; done)) Wk.nil)
        · rintro t ⟨ht1, ht10, hne⟩ K24 hK24
          simp only [List.cons_append, List.nil_append]
          have htn : (BitVec.ofNat 8 t).toNat = t := by rw [BitVec.toNat_ofNat]; omega
          refine WC_seq fun K25 hK25 => ?_
          refine WC_sr fun K26 hK26 => ?_
          refine WL_rd (Rd_move rfl) rfl rfl rfl ?_
          refine WL_rd (Rd_leqN (j := 9) rfl rfl) rfl rfl rfl ?_
          refine WL_end hK26 ?_
          refine WC_cond rfl (fun hc3 => ?_) (fun hc3 => ?_)
          · try simp only [decide_eq_true_eq, decide_eq_false_iff_not, Bool.not_eq_true', Bool.not_eq_false', Bool.not_eq_true, Bool.not_eq_false, Int.not_lt, Int.not_le, Nat.not_lt, Nat.not_le, Decidable.not_not, ne_eq] at hc3
            refine WC_skip ?_
            refine Ps_next hK25 ?_
            refine WC_seq fun K27 hK27 => ?_
            refine WC_block ?_
            refine WC_seq fun K28 hK28 => ?_
            refine WC_seq fun K29 hK29 => ?_
            refine WC_drawA mix (fun i => ([2, 1, 2, 2, 2, 2, 2] : List Nat).getD i 0) ?_
            refine WJ_takeP 0 rfl (by kernel_rfl) (Rd_move rfl) rfl rfl rfl (hp _ _) ?_
            refine WJ_takeP 2 rfl (by kernel_rfl) (Rd_move rfl) rfl rfl rfl (hp _ _) ?_
            refine WJ_takeP 3 rfl (by kernel_rfl) (Rd_index_sv 0 rfl rfl ud22 sz23 (hA := hSq) (hi := by omega)) rfl rfl rfl (hp _ _) ?_
            refine WJ_tk 4 (Rd_load_sv (i := 0) (j := 0) (u := sl p0.a p0.l.length p0.cap) rfl tk23 (hA := hSq) (hl := h0)) hp ?_ rfl (by kernel_rfl) rfl rfl rfl
            refine WJ_tk 5 (Rd_convBS rfl ud23 ud9 ud5 (hA := hp0S)) hp ?_ rfl (by kernel_rfl) rfl rfl rfl
            refine WJ_all (rs := [1]) (by kernel_rfl) rfl ?_
            refine WI_one ?_
            refine WI_ac rfl (Ac_call cf15 rfl (hs := word_ct (t := BitVec.ofNat 8 t))) rfl rfl rfl rfl ?_
            rintro _ _ ⟨⟨⟩, rfl, hA⟩
            simp only [List.cons_append, List.nil_append] at hA
            replace hA := hA.symm
            subst hA
            refine ⟨(fun _ => (by repeat (first | with_reducible exact Sub.refl | with_reducible exact Sub.nil | with_reducible refine Sub.cons (by repeat (first | with_reducible exact Ext.here | with_reducible apply Ext.there)) ?_ | with_reducible refine Sub.tail ?_))), ?_⟩
            refine WJ_takeP 6 rfl (by kernel_rfl) (Rd_strne rfl rfl) rfl rfl rfl (hp _ _) ?_
            refine WJ_done (by kernel_rfl) ?_
            refine Ps_next hK29 ?_
            refine WC_cond rfl (fun hc4 => ?_) (fun hc4 => ?_)
            · try simp only [decide_eq_true_eq, decide_eq_false_iff_not, Bool.not_eq_true', Bool.not_eq_false', Bool.not_eq_true, Bool.not_eq_false, Int.not_lt, Int.not_le, Nat.not_lt, Nat.not_le, Decidable.not_not, ne_eq] at hc4
              refine WC_exit ?_
              refine Ps_next hK27 ?_
              refine WC_region ?_
              refine WL_rd (Rd_move rfl) rfl rfl rfl ?_
              refine WL_rd (Rd_addU (b := 1#8) rfl rfl) rfl rfl rfl ?_
              rw [show BitVec.ofNat 8 t + 1#8 = BitVec.ofNat 8 (t + 1) from by apply BitVec.eq_of_toNat_eq; simp]
              refine WL_rd (Rd_assign rfl) rfl rfl rfl ?_
              refine WL_nil ?_
              refine Ps_wk (by (try simp only [List.cons_append, List.nil_append]); repeat (first | with_reducible exact Wk.nil | refine Wk.cons (by first | rfl | (simp only [List.length_append, List.length_cons, List.length_nil, List.length_replicate, Nat.zero_add]; rfl) | (simp; done)) ?_)) (by (try simp only [List.cons_append, List.nil_append]); repeat (first | with_reducible exact Sub.refl | with_reducible exact Sub.nil | with_reducible refine Sub.cons (by repeat (first | with_reducible exact Ext.here | with_reducible apply Ext.there)) ?_ | with_reducible refine Sub.tail ?_)) (hK24 (t + 1) (⟨by omega, by omega, fun u h1 h2 => by rcases Nat.lt_or_ge u t with q | q; exact hne u h1 q; (have e : u = t := by omega); rw [e]; exact str_beqF (by simpa using hc4)⟩) (by omega))
            · try simp only [decide_eq_true_eq, decide_eq_false_iff_not, Bool.not_eq_true', Bool.not_eq_false', Bool.not_eq_true, Bool.not_eq_false, Int.not_lt, Int.not_le, Nat.not_lt, Nat.not_le, Decidable.not_not, ne_eq] at hc4
              have hwd : bsS (wordS (BitVec.ofNat 8 t)) = p0.l := by rw [show wordS (BitVec.ofNat 8 t) = strB p0.l from str_beqT (by simpa using hc4), bsS_strB]
              have hby := byW_of ⟨ht1, by omega⟩ hwd
              have hrB : Sv [arr pa pc 1 23 ePB ps] (.slice (sao (pa.map fun g => ⟨g, 0, none⟩) 1 1 pc) (ps.length - 1) (pc - 1)) 1 ePB rest (sao (pa.map fun g => ⟨g, 0, none⟩) 1 1 pc) (pc - 1) := by have h := hSq.sub (lo := 1) (hi := ps.length) (by omega) (Nat.le_refl _); rw [List.take_length, hps] at h; rw [hps]; exact h
              have hrS : Sv [arr pa pc 1 23 ePB ps] (.slice (sao (pa.map fun g => ⟨g, 0, none⟩) 1 1 pc) (ps.length - 1) (pc - 1)) 1 fP (rest.map ptB) (sao (pa.map fun g => ⟨g, 0, none⟩) 1 1 pc) (pc - 1) := Sv_mapped hrB (fun e _ => rfl)
              have hrP : ∀ p ∈ rest.map ptB, RdP [sep [star (FPB 5) ps, arr pa pc 1 23 ePB ps]] p := fun p h => (Rd_ptB (T := 5) hbk p (by rw [hps]; exact List.mem_cons_of_mem _ h)).pk (by repeat (first | with_reducible exact Has.here | with_reducible refine Has.there ?_))
              have hrb : BOk rest := fun p h => hbk p (by rw [hps]; exact List.mem_cons_of_mem _ h)
              have hrm : (rest.map ptB).map (·.l) = rest.map (·.l) := by rw [List.map_map]; rfl
              refine WC_skip ?_
              refine Ps_next hK28 ?_
              refine WC_seq fun K30 hK30 => ?_
              refine WC_sr fun K31 hK31 => ?_
              refine WL_rd (Rd_move rfl) rfl rfl rfl ?_
              refine WL_rd (Rd_move rfl) rfl rfl rfl ?_
              refine WL_rd (Rd_slice_sv 1 ps.length rfl ⟨_, rfl⟩ rfl ud22 sz23 (hA := hSq)) rfl rfl rfl ?_
              refine WL_pk0 ?_
              refine WL_pull (arr pa pc 1 23 ePB ps) ?_
              refine WL_pull (star (FPB 5) ps) ?_
              refine WL_ac (Ac_call cf16 rfl (hs := fit_ct (X := sep [star (FPB 5) ps, arr pa pc 1 23 ePB ps]) (t := BitVec.ofNat 8 t) (ps := rest.map ptB) (hS := hrS.pk (by repeat (first | with_reducible exact Has.here | with_reducible refine Has.there ?_))) (hP := hrP) (hk := by rw [List.length_map]; omega))) rfl rfl rfl ?_
              rintro _ _ ⟨⟨⟩, rfl, hA⟩
              simp only [List.cons_append, List.nil_append] at hA
              replace hA := hA.symm
              subst hA
              refine WL_unpk [star (FPB 5) ps, arr pa pc 1 23 ePB ps] ?_
              simp only [List.cons_append, List.nil_append]
              refine WL_rd (Rd_not rfl) rfl rfl rfl ?_
              refine WL_end hK31 ?_
              refine WC_cond rfl (fun hc5 => ?_) (fun hc5 => ?_)
              · try simp only [decide_eq_true_eq, decide_eq_false_iff_not, Bool.not_eq_true', Bool.not_eq_false', Bool.not_eq_true, Bool.not_eq_false, Int.not_lt, Int.not_le, Nat.not_lt, Nat.not_le, Decidable.not_not, ne_eq] at hc5
                rw [hrm] at hc5
                have hrd := rdM_unfit (b := l) (by rw [hF, hps]; rfl) hby (by simpa using hc5)
                rw [hrd] at hret
                refine WC_star0 (FPB 5) ?_
                refine WC_imp (fun w h => sat_nil (e := 1) (T := 23) (f := ePB) h) ?_
                refine WC_sr fun K32 hK32 => ?_
                refine WL_rd (Rd_assign rfl) rfl rfl rfl ?_
                refine WL_rd (Rd_assign (v := sl none 0 0) rfl) rfl rfl rfl ?_
                refine WL_rd (Rd_assign rfl) rfl rfl rfl ?_
                refine WL_rd (Rd_assign rfl) rfl rfl rfl ?_
                refine WL_end hK32 ?_
                refine WC_ret ?_
                first | exact hret.goE ⟨⟨none, 0, []⟩, by rfl, BOk_nil⟩ (Rs4 rfl rfl rfl rfl rfl) rfl | exact hret.goE ⟨⟨a73, cap73, rest⟩, hrl, hrb⟩ (Rs4 rfl rfl rfl rfl rfl) rfl
              · try simp only [decide_eq_true_eq, decide_eq_false_iff_not, Bool.not_eq_true', Bool.not_eq_false', Bool.not_eq_true, Bool.not_eq_false, Int.not_lt, Int.not_le, Nat.not_lt, Nat.not_le, Decidable.not_not, ne_eq] at hc5
                rw [hrm] at hc5
                have hrd := rdM_yes (b := l) (by rw [hF, hps]; rfl) hby (by simpa using hc5)
                rw [hrd] at hret
                have hrl : rest.map (·.l) = rest.map (·.l) := rfl
                refine WC_open (FPB 5) ps 0 (x := p0) h0 ?_
                rw [show ps.eraseIdx 0 = rest from by rw [hps]; rfl]
                refine WC_skip ?_
                refine Ps_next hK30 ?_
                refine WC_sr fun K33 hK33 => ?_
                refine WL_rd (Rd_move rfl) rfl rfl rfl ?_
                refine WL_rd (Rd_move rfl) rfl rfl rfl ?_
                refine WL_rd (Rd_slice_sv 1 ps.length rfl ⟨_, rfl⟩ rfl ud22 sz23 (hA := hSq)) rfl rfl rfl ?_
                refine WL_ac (Ac_call cf23 rfl (hs := clone2_ct (X := arr pa pc 1 23 ePB ps) (ps := rest) (hS := hrB))) rfl rfl rfl ?_
                rintro _ _ ⟨⟨a73, cap73⟩, rfl, hA⟩
                simp only [List.cons_append, List.nil_append] at hA
                replace hA := hA.symm
                subst hA
                refine WL_rd (Rd_assign rfl) rfl rfl rfl ?_
                refine WL_rd (Rd_assign rfl) rfl rfl rfl ?_
                refine WL_rd (Rd_assign rfl) rfl rfl rfl ?_
                refine WL_rd (Rd_assign rfl) rfl rfl rfl ?_
                refine WL_end hK33 ?_
                refine WC_ret ?_
                first | exact hret.goE ⟨⟨none, 0, []⟩, by rfl, BOk_nil⟩ (Rs4 rfl rfl rfl rfl rfl) rfl | exact hret.goE ⟨⟨a73, cap73, rest⟩, hrl, hrb⟩ (Rs4 rfl rfl rfl rfl rfl) rfl
          · try simp only [decide_eq_true_eq, decide_eq_false_iff_not, Bool.not_eq_true', Bool.not_eq_false', Bool.not_eq_true, Bool.not_eq_false, Int.not_lt, Int.not_le, Nat.not_lt, Nat.not_le, Decidable.not_not, ne_eq] at hc3
            obtain rfl : t = 10 := by omega
            have hrd := rdM_no (b := l) (by rw [hF, hps]; rfl) (byW_no (fun u h1 h2 => hne u h1 (by omega)))
            rw [hrd] at hret
            refine WC_star0 (FPB 5) ?_
            refine WC_imp (fun w h => sat_nil (e := 1) (T := 23) (f := ePB) h) ?_
            refine WC_exit ?_
            refine Ps_next hK22 ?_
            refine WC_sr fun K34 hK34 => ?_
            refine WL_rd (Rd_assign rfl) rfl rfl rfl ?_
            refine WL_rd (Rd_assign (v := sl none 0 0) rfl) rfl rfl rfl ?_
            refine WL_rd (Rd_assign rfl) rfl rfl rfl ?_
            refine WL_rd (Rd_assign rfl) rfl rfl rfl ?_
            refine WL_end hK34 ?_
            refine WC_ret ?_
            first | exact hret.goE ⟨⟨none, 0, []⟩, by rfl, BOk_nil⟩ (Rs4 rfl rfl rfl rfl rfl) rfl | exact hret.goE ⟨⟨a73, cap73, rest⟩, hrl, hrb⟩ (Rs4 rfl rfl rfl rfl rfl) rfl
end Go.Proofs.Ytlcafifjhilleaa
