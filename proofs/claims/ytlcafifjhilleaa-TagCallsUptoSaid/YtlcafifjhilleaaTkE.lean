/-
  Contracts of functions that the claim reaches, or the logic and the plain laws that they rest on, or the row over them. (Conditions: none beyond the statement.)
-/
import Derived.Test.YtlcafifjhilleaaTkD
import Derived.Test.YtlcafifjhilleaaPqLst
set_option linter.all false
namespace Go.Proofs.Ytlcafifjhilleaa
open Go.RowKit Go.SL Go.ShM
set_option maxHeartbeats 1000000
set_option maxRecDepth 20000
set_option linter.all false
theorem cf31 : cfn Try.prog 31 = true := by kernel_rfl
theorem overL_ct {la ea : Option Nat} {lc ec : Nat} {es sp : List LE} (hsp : sp.length = 70 := by assumption) (hb : ∀ e ∈ es, e.L.length ≤ 900000000000 := by assumption) (hn : es.length ≤ 900000000 := by omega) : Ct Try.prog 28 [.agg [sl la es.length lc, sl la (es.length + 70) lc, sl ea es.length ec].toArray] [star (FL 5) (es ++ sp), arr la lc 1 23 eLn (es ++ sp), arr ea ec 1 23 eEn es] (fun _ : Unit => .tuple #[]) (fun _ => []) := by
  refine Ct_body (n := 29) Try.func28 rfl rfl rfl fun F w0 Q hret hnorm hp => ?_
  change WC _ _ _ _ _ _ _ (_ :: _ :: _ :: F)
  have htl : (es ++ sp).length = es.length + 70 := by rw [List.length_append]; omega
  refine WC_sr fun K1 hK1 => ?_
  refine WL_ac (Ac_box rfl rfl) rfl rfl rfl ?_
  rintro _ _ ⟨b1, rfl, rfl⟩
  refine WL_end hK1 ?_
  refine WC_seq fun K2 hK2 => ?_
  refine WC_sr fun K3 hK3 => ?_
  refine WL_rd (Rd_assign rfl) rfl rfl rfl ?_
  refine WL_end hK3 ?_
  refine WC_block ?_
  refine WC_loopK (σ := Nat × (List LE)) (fun ⟨k, xs⟩ => [(2, .int .i64 ((k : Nat) : Int))]) (fun ⟨k, xs⟩ => [star (FL 5) xs]) (fun ⟨k, xs⟩ => k ≤ es.length ∧ xs.length = es.length + 70 ∧ ∀ j, k ≤ j → j < es.length → xs[j]? = es[j]?) (fun ⟨k, xs⟩ => es.length - k) ⟨0, (es ++ sp)⟩ [1, 3, 17, 18, 19, 20, 21, 22, 23, 24, 25, 26, 27, 28] (by repeat (first | exact Kep.nil | apply Kep.drop rfl | apply Kep.keep rfl)) (by (try dsimp only); repeat (first | with_reducible exact Gv.nil | (with_reducible apply Gv.cons; · (repeat (first | with_reducible exact Ext.here | with_reducible apply Ext.there))))) ?_ ?_ Sub.refl ?_
  · exact ⟨Nat.zero_le _, htl, fun j _ h => List.getElem?_append_left h⟩
  · (try dsimp only); exact (Wk.cons (by first | rfl | (simp only [List.length_append, List.length_cons, List.length_nil, List.length_replicate, Nat.zero_add]; rfl) | (simp; done)) Wk.nil)
  · rintro ⟨k, xs⟩ ⟨hk, hxl, hxe⟩ K4 hK4
    simp only [List.cons_append, List.nil_append]
    refine WC_seq fun K5 hK5 => ?_
    refine WC_sr fun K6 hK6 => ?_
    refine WL_rd (Rd_move rfl) rfl rfl rfl ?_
    refine WL_rd (Rd_fieldAddr rfl fo64_2) rfl rfl rfl ?_
    refine WL_rd (Rd_load rfl tk22 (v := sl ea es.length ec)) rfl rfl rfl ?_
    refine WL_rd (Rd_len rfl rfl ud22) rfl rfl rfl ?_
    refine WL_rd (Rd_lssN rfl rfl) rfl rfl rfl ?_
    refine WL_end hK6 ?_
    refine WC_cond rfl (fun hc0 => ?_) (fun hc0 => ?_)
    · try simp only [decide_eq_true_eq, decide_eq_false_iff_not, Bool.not_eq_true', Bool.not_eq_false', Bool.not_eq_true, Bool.not_eq_false, Int.not_lt, Int.not_le, Nat.not_lt, Nat.not_le, Decidable.not_not, ne_eq] at hc0
      obtain ⟨e, hek⟩ : ∃ e, es[k]? = some e := ⟨_, List.getElem?_eq_getElem (by omega)⟩
      have hxk : xs[k]? = some e := (hxe k (Nat.le_refl _) (by omega)).trans hek
      have heb := hb e (List.mem_of_getElem? hek)
      refine WC_some (a := ea) (by repeat (first | with_reducible exact Has.here | with_reducible refine Has.there ?_)) (by omega) (fun gb hgb hcp => ?_)
      subst hgb
      refine WC_open (FL 5) xs k hxk ?_
      rw [show (FL 5) e = arr e.a e.cap 1 5 (eU .u8) e.L from rfl]
      refine WC_skip ?_
      refine Ps_next hK5 ?_
      refine WC_seq fun K7 hK7 => ?_
      refine WC_block ?_
      refine WC_region ?_
      refine WL_rd (Rd_fieldAddr rfl fo64_2) rfl rfl rfl ?_
      refine WL_rd (Rd_load rfl tk22 (v := sl (some gb) es.length ec)) rfl rfl rfl ?_
      refine WL_rd (Rd_move rfl) rfl rfl rfl ?_
      refine WL_rd (Rd_index k rfl rfl ud22 sz23 (hi := by omega)) rfl rfl rfl ?_
      refine WL_rd (Rd_load_arr (f := eEn) (i := k) (j := 0) rfl tk23 (hl := hek)) rfl rfl rfl ?_
      refine WL_ac (Ac_call cf31 rfl (hs := over_ct (l := e.L) (a := e.a) (cap := e.cap))) rfl rfl rfl ?_
      rintro _ _ ⟨⟨⟩, rfl, hA⟩
      simp only [List.cons_append, List.nil_append] at hA
      replace hA := hA.symm
      subst hA
      rw [show arr e.a e.cap 1 5 (eU .u8) (overB e.L.length) = (FL 5) (⟨e.a, e.cap, overB e.L.length, e.n⟩ : LE) from rfl]
      refine WL_shut (FL 5) xs k (⟨e.a, e.cap, overB e.L.length, e.n⟩ : LE) (by omega) ?_
      refine WL_nil ?_
      refine Ps_next hK7 ?_
      refine WC_region ?_
      refine WL_rd (Rd_move rfl) rfl rfl rfl ?_
      refine WL_rd (Rd_addN (j := 1) rfl rfl) rfl rfl rfl ?_
      refine WL_rd (Rd_assign rfl) rfl rfl rfl ?_
      refine WL_nil ?_
      refine Ps_wk (by (try simp only [List.cons_append, List.nil_append]); repeat (first | with_reducible exact Wk.nil | refine Wk.cons (by first | rfl | (simp only [List.length_append, List.length_cons, List.length_nil, List.length_replicate, Nat.zero_add]; rfl) | (simp; done)) ?_)) (by (try simp only [List.cons_append, List.nil_append]); repeat (first | with_reducible exact Sub.refl | with_reducible exact Sub.nil | with_reducible refine Sub.cons (by repeat (first | with_reducible exact Ext.here | with_reducible apply Ext.there)) ?_ | with_reducible refine Sub.tail ?_)) (hK4 ⟨k + 1, xs.set k (⟨e.a, e.cap, overB e.L.length, e.n⟩ : LE)⟩ (⟨by (try dsimp only); omega, by (try dsimp only); rw [List.length_set]; exact hxl, fun j h1 h2 => by (try dsimp only at h1 ⊢); rw [List.getElem?_set_ne (by omega)]; exact hxe j (by omega) h2⟩) (by (try dsimp only); omega))
    · try simp only [decide_eq_true_eq, decide_eq_false_iff_not, Bool.not_eq_true', Bool.not_eq_false', Bool.not_eq_true, Bool.not_eq_false, Int.not_lt, Int.not_le, Nat.not_lt, Nat.not_le, Decidable.not_not, ne_eq] at hc0
      refine WC_exit ?_
      refine Ps_next hK2 ?_
      refine WC_sr fun K8 hK8 => ?_
      refine WL_rd (Rd_assign rfl) rfl rfl rfl ?_
      refine WL_end hK8 ?_
      refine WC_block ?_
      refine WC_loopK (σ := Nat × (List LE)) (fun ⟨j', ys⟩ => [(3, .int .i64 ((j' : Nat) : Int))]) (fun ⟨j', ys⟩ => [arr la lc 1 23 eLn ys]) (fun ⟨j', ys⟩ => j' ≤ es.length + 70 ∧ ys.length = es.length + 70) (fun ⟨j', ys⟩ => es.length + 70 - j') ⟨0, (es ++ sp)⟩ [1] (by repeat (first | exact Kep.nil | apply Kep.drop rfl | apply Kep.keep rfl)) (by (try dsimp only); repeat (first | with_reducible exact Gv.nil | (with_reducible apply Gv.cons; · (repeat (first | with_reducible exact Ext.here | with_reducible apply Ext.there))))) ?_ ?_ Sub.refl ?_
      · exact ⟨Nat.zero_le _, htl⟩
      · (try dsimp only); exact (Wk.cons (by first | rfl | (simp only [List.length_append, List.length_cons, List.length_nil, List.length_replicate, Nat.zero_add]; rfl) | (simp; done)) Wk.nil)
      · rintro ⟨j', ys⟩ ⟨hj, hyl⟩ K9 hK9
        simp only [List.cons_append, List.nil_append]
        refine WC_seq fun K10 hK10 => ?_
        refine WC_sr fun K11 hK11 => ?_
        refine WL_rd (Rd_move rfl) rfl rfl rfl ?_
        refine WL_rd (Rd_fieldAddr rfl fo64_1) rfl rfl rfl ?_
        refine WL_rd (Rd_load rfl tk22 (v := sl la (es.length + 70) lc)) rfl rfl rfl ?_
        refine WL_rd (Rd_len rfl rfl ud22) rfl rfl rfl ?_
        refine WL_rd (Rd_lssN rfl rfl) rfl rfl rfl ?_
        refine WL_end hK11 ?_
        refine WC_cond rfl (fun hc1 => ?_) (fun hc1 => ?_)
        · try simp only [decide_eq_true_eq, decide_eq_false_iff_not, Bool.not_eq_true', Bool.not_eq_false', Bool.not_eq_true, Bool.not_eq_false, Int.not_lt, Int.not_le, Nat.not_lt, Nat.not_le, Decidable.not_not, ne_eq] at hc1
          refine WC_some (a := la) (by repeat (first | with_reducible exact Has.here | with_reducible refine Has.there ?_)) (by omega) (fun gb hgb hcp => ?_)
          subst hgb
          refine WC_skip ?_
          refine Ps_next hK10 ?_
          refine WC_seq fun K12 hK12 => ?_
          refine WC_block ?_
          refine WC_region ?_
          refine WL_rd (Rd_fieldAddr rfl fo64_1) rfl rfl rfl ?_
          refine WL_rd (Rd_load rfl tk22 (v := sl (some gb) (es.length + 70) lc)) rfl rfl rfl ?_
          refine WL_rd (Rd_move rfl) rfl rfl rfl ?_
          refine WL_ac (Ac_bsL (f := (eU .u8 (w := 8))) (zs := [.int .u8 0]) (bs := [.int .u8 0, .int .u8 0, .int .u8 0]) [1#8, 2#8, 3#8] (encU .u8) ud23 zr5 sz5 rfl (by rw [Array.toList_map, Array.toList_range]; rfl) (by rfl) (by rfl) (by rfl) (by rfl)) rfl rfl rfl ?_
          rintro _ _ ⟨b27, rfl, rfl⟩
          refine WL_rd (Rd_index j' rfl rfl ud22 sz23 (hi := by omega)) rfl rfl rfl ?_
          refine WL_ac0 (Ac_store_arr (f := eLn) (⟨some b27, 3, [1#8, 2#8, 3#8], 3⟩ : LE) rfl rfl sz23 (j := 0) (i := j') (hl := List.getElem?_eq_getElem (by omega))) rfl rfl ?_
          rintro _ _ rfl
          refine WL_nil ?_
          refine Ps_next hK12 ?_
          refine WC_region ?_
          refine WL_rd (Rd_move rfl) rfl rfl rfl ?_
          refine WL_rd (Rd_addN (j := 1) rfl rfl) rfl rfl rfl ?_
          refine WL_rd (Rd_assign rfl) rfl rfl rfl ?_
          refine WL_nil ?_
          refine Ps_wk (by (try simp only [List.cons_append, List.nil_append]); repeat (first | with_reducible exact Wk.nil | refine Wk.cons (by first | rfl | (simp only [List.length_append, List.length_cons, List.length_nil, List.length_replicate, Nat.zero_add]; rfl) | (simp; done)) ?_)) (by (try simp only [List.cons_append, List.nil_append]); repeat (first | with_reducible exact Sub.refl | with_reducible exact Sub.nil | with_reducible refine Sub.cons (by repeat (first | with_reducible exact Ext.here | with_reducible apply Ext.there)) ?_ | with_reducible refine Sub.tail ?_)) (hK9 ⟨j' + 1, ys.set j' (⟨some b27, 3, [1#8, 2#8, 3#8], 3⟩ : LE)⟩ (⟨by (try dsimp only); omega, by (try dsimp only); rw [List.length_set]; exact hyl⟩) (by (try dsimp only); omega))
        · try simp only [decide_eq_true_eq, decide_eq_false_iff_not, Bool.not_eq_true', Bool.not_eq_false', Bool.not_eq_true, Bool.not_eq_false, Int.not_lt, Int.not_le, Nat.not_lt, Nat.not_le, Decidable.not_not, ne_eq] at hc1
          refine WC_exit ?_
          exact hnorm.go () (Rs0 rfl)
end Go.Proofs.Ytlcafifjhilleaa
