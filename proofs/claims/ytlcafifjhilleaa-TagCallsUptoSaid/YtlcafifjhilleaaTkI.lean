/-
  Contracts of functions that the claim reaches, or the logic and the plain laws that they rest on, or the row over them. (Conditions: none beyond the statement.)
-/
import Derived.Test.YtlcafifjhilleaaTkH
set_option linter.all false
namespace Go.Proofs.Ytlcafifjhilleaa
open Go.RowKit Go.SL Go.ShM
set_option maxHeartbeats 1000000
set_option maxRecDepth 20000
set_option linter.all false
theorem ais98 : ais Try.prog 98 = some (16, 5) := by kernel_rfl
theorem cf54 : cfn Try.prog 54 = true := by kernel_rfl
theorem cf55 : cfn Try.prog 55 = true := by kernel_rfl
theorem cf56 : cfn Try.prog 56 = true := by kernel_rfl
theorem cf57 : cfn Try.prog 57 = true := by kernel_rfl
theorem cf58 : cfn Try.prog 58 = true := by kernel_rfl
theorem cf59 : cfn Try.prog 59 = true := by kernel_rfl
theorem cf60 : cfn Try.prog 60 = true := by kernel_rfl
theorem cf61 : cfn Try.prog 61 = true := by kernel_rfl
theorem cf62 : cfn Try.prog 62 = true := by kernel_rfl
theorem cf63 : cfn Try.prog 63 = true := by kernel_rfl
theorem cf64 : cfn Try.prog 64 = true := by kernel_rfl
theorem cf65 : cfn Try.prog 65 = true := by kernel_rfl
theorem cf66 : cfn Try.prog 66 = true := by kernel_rfl
theorem cf67 : cfn Try.prog 67 = true := by kernel_rfl
theorem cf68 : cfn Try.prog 68 = true := by kernel_rfl
theorem fo46_3 : fo Try.prog 46 3 = some (3, 23) := by kernel_rfl
theorem fo46_7 : fo Try.prog 46 7 = some (7, 41) := by kernel_rfl
theorem fo46_8 : fo Try.prog 46 8 = some (23, 43) := by kernel_rfl
theorem fo46_9 : fo Try.prog 46 9 = some (55, 43) := by kernel_rfl
theorem fo46_10 : fo Try.prog 46 10 = some (87, 44) := by kernel_rfl
def rvL (k : List B8) : List B8 := k.reverse ++ List.replicate 16 0#8
theorem rvL_len {k : List B8} (h : k.length = 16) : (rvL k).length = 32 := by unfold rvL; rw [List.length_append, List.length_reverse, List.length_replicate]; omega
theorem rvL_at {k : List B8} (h : k.length = 16) {i : Nat} (hi : i < 16) : (rvL k).getD i 0#8 = k.getD (15 - i) 0#8 := by
  unfold rvL
  rw [List.getD_eq_getElem?_getD, List.getD_eq_getElem?_getD, List.getElem?_append_left (by rw [List.length_reverse]; omega), List.getElem?_reverse (by omega), h]
theorem lentB_pre (l : List B8) : l <+: lentB l := ⟨_, rfl⟩
theorem eKQ_keyAt (q : KQ) {i : Nat} (hi : i < 16) : (eKQ q)[7 + i]? = some (.int .u8 ((q.key.getD i 0#8).toNat : Int)) := by
  have h := List.getElem?_drop (xs := eKQ q) (i := 7) (j := i)
  rw [eKQ_d7, List.getElem?_append_left (by rw [flatU_len, q.hk]; exact hi)] at h
  rw [← h]
  have hf : ∀ l : List B8, l.flatMap (eU .u8) = l.map (fun b => .int .u8 (b.toNat : Int)) := fun l => by
    induction l with
    | nil => rfl
    | cons x r ih => rw [List.flatMap_cons, ih]; rfl
  rw [hf, List.getElem?_map, List.getD_eq_getElem?_getD, List.getElem?_eq_getElem (by rw [q.hk]; exact hi)]
  rfl

theorem each_ct {W : World} {q : KQ} (hq : OKk W 1048576 q := by assumption) : Ct Try.prog 35 [.agg (eKQ q).toArray] [old W] (fun _ : Unit => .bool true) (fun _ => [old W]) := by
  refine Ct_body (n := 125) Try.func35 rfl rfl rfl fun F w0 Q hret hnorm hp => ?_
  change WC _ _ _ _ _ _ _ (_ :: F)
  obtain ⟨hqS, hqP, hqj, hqn, hqd, hdl⟩ := hq
  have hrl := rvL_len q.hk
  have hqk := q.hk
  have hqa := q.ha
  have hqb := q.hb
  have hlb := lentB_len q.d.l
  have hqdS : Sv [old W] q.d.v 1 (eU .u8 (w := 8)) q.d.l q.d.ao q.d.cap := hqd
  have ht3 := tagD_len 3#8 [q.d.l]
  have ht4 := tagD_len 4#8 [q.d.l]
  have ht8 := tagD_len 8#8 [q.d.l]
  have ht2 := tagD_len 2#8 [q.key]
  have ht2k : ((tagD 2#8 [q.key]).take 16).length = 16 := by rw [List.length_take]; omega
  have ht5 := tagD_len 5#8 [q.a]
  have ht6 := tagD_len 6#8 [q.a, q.b]
  have ht7 := tagD_len 7#8 [big32 q.num]
  have ht9 := tagD_len 9#8 [cpL (rvL q.key) 16, big32 q.num]
  have hcl16 := cpL_len (l := rvL q.key) hrl (Nat.le_refl 16)
  refine WC_sr fun K1 hK1 => ?_
  refine WL_ac (Ac_box (xs := eKQ q) rfl rfl) rfl rfl rfl ?_
  rintro _ _ ⟨b1, rfl, rfl⟩
  refine WL_rd (Rd_assign rfl) rfl rfl rfl ?_
  refine WL_end hK1 ?_
  refine WC_sr fun K2 hK2 => ?_
  refine WL_ac (Ac_allocW (k := .u8) (w := 8) (m := 16) zr98) rfl rfl rfl ?_
  rintro _ _ ⟨b3, rfl, rfl⟩
  refine WL_end hK2 ?_
  refine WC_seq fun K3 hK3 => ?_
  refine WC_sr fun K4 hK4 => ?_
  refine WL_rd (Rd_assign rfl) rfl rfl rfl ?_
  refine WL_end hK4 ?_
  refine WC_block ?_
  rw [show arr (some b3) 16 1 98 (eU .u8 (w := 8)) (List.replicate 16 0#8) = arr (some b3) 16 1 98 (eU .u8 (w := 8)) (cpL (rvL q.key) 0) from by rw [cpL_0]]
  refine WC_loopK (σ := Nat) (fun i' => [(4, .int .i64 ((i' : Nat) : Int))]) (fun i' => [arr (some b3) 16 1 98 (eU .u8 (w := 8)) (cpL (rvL q.key) i')]) (fun i' => i' ≤ 16) (fun i' => 16 - i') (0) [1, 2, 3, 5, 6, 18, 19, 20, 21, 22, 23, 24, 25, 26, 27, 28, 29, 30, 31, 32, 33, 34, 35, 36, 37, 38, 39, 40, 41, 42, 43, 44, 45, 46, 47, 48, 49, 50, 51, 52, 53, 54, 55, 57, 58, 59, 60, 61, 62, 63, 64, 65, 66, 67, 68, 69, 70, 71, 72, 73, 74, 75, 76, 77, 78, 79, 80, 81, 82, 83, 84, 85, 86, 87, 88, 89, 90, 91, 92, 93, 94, 95, 96, 97, 98, 99, 100, 101, 102, 103, 104, 105, 106, 107, 108, 109, 110, 111, 112, 113, 114, 115, 116, 117, 118, 119, 120, 121, 122, 123, 124] (by repeat (first | exact Kep.nil | apply Kep.drop rfl | apply Kep.keep rfl)) (by (try dsimp only); repeat (first | with_reducible exact Gv.nil | (with_reducible apply Gv.cons; · (repeat (first | with_reducible exact Ext.here | with_reducible apply Ext.there))))) ?_ ?_ Sub.refl ?_
  · exact Nat.zero_le _
  · (try dsimp only); exact (Wk.cons (by first | rfl | (simp only [List.length_append, List.length_cons, List.length_nil, List.length_replicate, Nat.zero_add]; rfl) | (simp; done)) Wk.nil)
  · rintro i' hi K5 hK5
    simp only [List.cons_append, List.nil_append]
    have hcl := cpL_len (l := rvL q.key) hrl hi
    refine WC_seq fun K6 hK6 => ?_
    refine WC_sr fun K7 hK7 => ?_
    refine WL_rd (Rd_move rfl) rfl rfl rfl ?_
    refine WL_rd (Rd_lssN (j := 16) rfl rfl) rfl rfl rfl ?_
    refine WL_end hK7 ?_
    refine WC_cond rfl (fun hc0 => ?_) (fun hc0 => ?_)
    · try simp only [decide_eq_true_eq, decide_eq_false_iff_not, Bool.not_eq_true', Bool.not_eq_false', Bool.not_eq_true, Bool.not_eq_false, Int.not_lt, Int.not_le, Nat.not_lt, Nat.not_le, Decidable.not_not, ne_eq] at hc0
      refine WC_skip ?_
      refine Ps_next hK6 ?_
      refine WC_seq fun K8 hK8 => ?_
      refine WC_block ?_
      refine WC_region ?_
      refine WL_rd (Rd_move rfl) rfl rfl rfl ?_
      refine WL_rd (Rd_move rfl) rfl rfl rfl ?_
      refine WL_rd (Rd_subN (i := 15) rfl rfl) rfl rfl rfl ?_
      refine WL_rd (Rd_fieldAddr rfl fo46_7) rfl rfl rfl ?_
      refine WL_rd (Rd_indexA _ rfl rfl ud41 sz5 rfl (by omega)) rfl rfl rfl ?_
      refine WL_rd (Rd_load rfl tk5 (v := .int .u8 (((q.key.getD (15 - i') 0#8).toNat : Nat) : Int)) (hi := by rw [show 0 + 7 + (15 - i') * 1 = 7 + (15 - i') by omega]; exact eKQ_keyAt q (by omega))) rfl rfl rfl ?_
      refine WL_rd (Rd_ixA _ rfl rfl ud98 sz5) rfl rfl rfl ?_
      refine WL_ac0 (Ac_storeU rfl rfl sz5) rfl rfl ?_
      rintro _ _ rfl
      rw [← rvL_at q.hk (by omega), cpL_set hrl (by omega)]
      refine WL_nil ?_
      refine Ps_next hK8 ?_
      refine WC_region ?_
      refine WL_rd (Rd_move rfl) rfl rfl rfl ?_
      refine WL_rd (Rd_addN (j := 1) rfl rfl) rfl rfl rfl ?_
      refine WL_rd (Rd_assign rfl) rfl rfl rfl ?_
      refine WL_nil ?_
      refine Ps_wk (by (try simp only [List.cons_append, List.nil_append]); repeat (first | with_reducible exact Wk.nil | refine Wk.cons (by first | rfl | (simp only [List.length_append, List.length_cons, List.length_nil, List.length_replicate, Nat.zero_add]; rfl) | (simp; done)) ?_)) (by (try simp only [List.cons_append, List.nil_append]); repeat (first | with_reducible exact Sub.refl | with_reducible exact Sub.nil | with_reducible refine Sub.cons (by repeat (first | with_reducible exact Ext.here | with_reducible apply Ext.there)) ?_ | with_reducible refine Sub.tail ?_)) (hK5 (i' + 1) (by omega) (by omega))
    · try simp only [decide_eq_true_eq, decide_eq_false_iff_not, Bool.not_eq_true', Bool.not_eq_false', Bool.not_eq_true, Bool.not_eq_false, Int.not_lt, Int.not_le, Nat.not_lt, Nat.not_le, Decidable.not_not, ne_eq] at hc0
      obtain rfl : i' = 16 := by omega
      refine WC_exit ?_
      refine Ps_next hK3 ?_
      refine WC_sr fun K9 hK9 => ?_
      refine WL_rd (Rd_fieldAddr rfl fo46_3) rfl rfl rfl ?_
      refine WL_rd (Rd_load rfl tk23 (v := q.d.v) (hi := eKQ_d q)) rfl rfl rfl ?_
      refine WL_ac (Ac_call cf29 rfl (hs := lent_ct (X := old W) (l := q.d.l) (hS := hqdS))) rfl rfl rfl ?_
      rintro _ _ ⟨⟨a20, cap20⟩, rfl, hA⟩
      simp only [List.cons_append, List.nil_append] at hA
      replace hA := hA.symm
      subst hA
      refine WL_fact (fun w h => arr_facts (a := a20) (cap := cap20) (e := 1) (T := 5) (f := (eU .u8 (w := 8))) (l := (lentB q.d.l)) (by repeat (first | with_reducible exact Has.here | with_reducible refine Has.there ?_)) h) (fun h20 => ?_)
      have hSl : Sv [arr a20 cap20 1 5 (eU .u8) (lentB q.d.l)] (sl a20 q.d.l.length cap20) 1 (eU .u8 (w := 8)) q.d.l (a20.map fun g => ⟨g, 0, none⟩) cap20 := Sv_pre (T := 5) (encU .u8 (w := 8)) (lentB_pre q.d.l) (fun e => by have := h20.1 e; rw [this] at hlb; simp at hlb) h20.2
      have hSf : Sv [arr a20 cap20 1 5 (eU .u8) (lentB q.d.l)] (sl a20 (lentB q.d.l).length cap20) 1 (eU .u8 (w := 8)) (lentB q.d.l) (a20.map fun g => ⟨g, 0, none⟩) cap20 := Sv_own' (T := 5) (encU .u8 (w := 8)) h20.1 h20.2
      refine WL_rd (Rd_assign rfl) rfl rfl rfl ?_
      refine WL_end hK9 ?_
      refine WC_sr fun K10 hK10 => ?_
      refine WL_rd (Rd_move rfl) rfl rfl rfl ?_
      refine WL_rd (Rd_fieldAddr rfl fo46_3) rfl rfl rfl ?_
      refine WL_rd (Rd_load rfl tk23 (v := q.d.v) (hi := eKQ_d q)) rfl rfl rfl ?_
      refine WL_rd (Rd_len_sv rfl rfl ud23) rfl rfl rfl ?_
      refine WL_rd (Rd_slice_hi q.d.l.length rfl rfl ud23 sz5 (hi := by omega)) rfl rfl rfl ?_
      refine WL_rd (Rd_assign rfl) rfl rfl rfl ?_
      refine WL_end hK10 ?_
      refine WC_seq fun K11 hK11 => ?_
      refine WC_seq fun K12 hK12 => ?_
      refine WC_drawA mix (fun i => ([2, 1, 2, 2, 1, 2, 2, 2, 1, 2, 2, 1, 2, 2, 2, 2, 1, 2, 2, 1, 2, 2, 2, 2, 2, 2, 1, 2, 2] : List Nat).getD i 0) ?_
      refine WJ_takeP 0 rfl (by kernel_rfl) (Rd_move rfl) rfl rfl rfl (hp _ _) ?_
      refine WJ_takeP 2 rfl (by kernel_rfl) (Rd_fieldAddr rfl fo46_3) rfl rfl rfl (hp _ _) ?_
      refine WJ_tk 3 (Rd_load rfl tk23 (v := q.d.v) (hi := eKQ_d q)) hp ?_ rfl (by kernel_rfl) rfl rfl rfl
      refine WJ_all (rs := [1]) (by kernel_rfl) rfl ?_
      refine WI_one ?_
      refine WI_ac rfl (Ac_call cf54 rfl (hs := block_ct (X := arr a20 cap20 1 5 (eU .u8) (lentB q.d.l)) (l := q.d.l) (hS := hSl))) rfl rfl rfl rfl ?_
      rintro _ _ ⟨⟨⟩, rfl, hA⟩
      simp only [List.cons_append, List.nil_append] at hA
      replace hA := hA.symm
      subst hA
      refine ⟨(fun _ => (by repeat (first | with_reducible exact Sub.refl | with_reducible exact Sub.nil | with_reducible refine Sub.cons (by repeat (first | with_reducible exact Ext.here | with_reducible apply Ext.there)) ?_ | with_reducible refine Sub.tail ?_))), ?_⟩
      refine WJ_all (rs := [4]) (by kernel_rfl) rfl ?_
      refine WI_one ?_
      refine WI_ac rfl (Ac_call cf55 rfl (hs := blockR_ct (X := old W) (l := q.d.l) (hS := hqdS))) rfl rfl rfl rfl ?_
      rintro _ _ ⟨⟨⟩, rfl, hA⟩
      simp only [List.cons_append, List.nil_append] at hA
      replace hA := hA.symm
      subst hA
      refine ⟨(fun _ => (by repeat (first | with_reducible exact Sub.refl | with_reducible exact Sub.nil | with_reducible refine Sub.cons (by repeat (first | with_reducible exact Ext.here | with_reducible apply Ext.there)) ?_ | with_reducible refine Sub.tail ?_))), ?_⟩
      refine WJ_takeP 5 rfl (by kernel_rfl) (Rd_isF (Rd_neW rfl rfl ais43) (by rw [decide_eq_true rfl]; rfl)) rfl rfl rfl (hp _ _) ?_
      refine WJ_takeP 6 rfl (by kernel_rfl) (Rd_move rfl) rfl rfl rfl (hp _ _) ?_
      refine WJ_takeP 7 rfl (by kernel_rfl) (Rd_move rfl) rfl rfl rfl (hp _ _) ?_
      refine WJ_takeP 9 rfl (by kernel_rfl) (Rd_fieldAddr rfl fo46_3) rfl rfl rfl (hp _ _) ?_
      refine WJ_tk 10 (Rd_load rfl tk23 (v := q.d.v) (hi := eKQ_d q)) hp ?_ rfl (by kernel_rfl) rfl rfl rfl
      refine WJ_all (rs := [8]) (by kernel_rfl) rfl ?_
      refine WI_one ?_
      refine WI_ac rfl (Ac_call cf56 rfl (hs := segment_ct (X := arr a20 cap20 1 5 (eU .u8) (lentB q.d.l)) (l := q.d.l) (hS := hSl))) rfl rfl rfl rfl ?_
      rintro _ _ ⟨⟨⟩, rfl, hA⟩
      simp only [List.cons_append, List.nil_append] at hA
      replace hA := hA.symm
      subst hA
      refine ⟨(fun _ => (by repeat (first | with_reducible exact Sub.refl | with_reducible exact Sub.nil | with_reducible refine Sub.cons (by repeat (first | with_reducible exact Ext.here | with_reducible apply Ext.there)) ?_ | with_reducible refine Sub.tail ?_))), ?_⟩
      refine WJ_all (rs := [11]) (by kernel_rfl) rfl ?_
      refine WI_one ?_
      refine WI_ac rfl (Ac_call cf57 rfl (hs := segmentR_ct (X := old W) (l := q.d.l) (hS := hqdS))) rfl rfl rfl rfl ?_
      rintro _ _ ⟨⟨⟩, rfl, hA⟩
      simp only [List.cons_append, List.nil_append] at hA
      replace hA := hA.symm
      subst hA
      refine ⟨(fun _ => (by repeat (first | with_reducible exact Sub.refl | with_reducible exact Sub.nil | with_reducible refine Sub.cons (by repeat (first | with_reducible exact Ext.here | with_reducible apply Ext.there)) ?_ | with_reducible refine Sub.tail ?_))), ?_⟩
      refine WJ_takeP 12 rfl (by kernel_rfl) (Rd_isF (Rd_neW rfl rfl ais43) (by rw [decide_eq_true rfl]; rfl)) rfl rfl rfl (hp _ _) ?_
      refine WJ_takeP 13 rfl (by kernel_rfl) (Rd_pickF rfl rfl) rfl rfl rfl (hp _ _) ?_
      refine WJ_takeP 14 rfl (by kernel_rfl) (Rd_move rfl) rfl rfl rfl (hp _ _) ?_
      refine WJ_takeP 15 rfl (by kernel_rfl) (Rd_move rfl) rfl rfl rfl (hp _ _) ?_
      refine WJ_takeP 17 rfl (by kernel_rfl) (Rd_fieldAddr rfl fo46_3) rfl rfl rfl (hp _ _) ?_
      refine WJ_tk 18 (Rd_load rfl tk23 (v := q.d.v) (hi := eKQ_d q)) hp ?_ rfl (by kernel_rfl) rfl rfl rfl
      refine WJ_all (rs := [16]) (by kernel_rfl) rfl ?_
      refine WI_one ?_
      refine WI_ac rfl (Ac_call cf58 rfl (hs := ueb_ct (X := arr a20 cap20 1 5 (eU .u8) (lentB q.d.l)) (l := q.d.l) (hS := hSl))) rfl rfl rfl rfl ?_
      rintro _ _ ⟨⟨⟩, rfl, hA⟩
      simp only [List.cons_append, List.nil_append] at hA
      replace hA := hA.symm
      subst hA
      refine ⟨(fun _ => (by repeat (first | with_reducible exact Sub.refl | with_reducible exact Sub.nil | with_reducible refine Sub.cons (by repeat (first | with_reducible exact Ext.here | with_reducible apply Ext.there)) ?_ | with_reducible refine Sub.tail ?_))), ?_⟩
      refine WJ_all (rs := [19]) (by kernel_rfl) rfl ?_
      refine WI_one ?_
      refine WI_ac rfl (Ac_call cf59 rfl (hs := uebR_ct (X := old W) (l := q.d.l) (hS := hqdS))) rfl rfl rfl rfl ?_
      rintro _ _ ⟨⟨⟩, rfl, hA⟩
      simp only [List.cons_append, List.nil_append] at hA
      replace hA := hA.symm
      subst hA
      refine ⟨(fun _ => (by repeat (first | with_reducible exact Sub.refl | with_reducible exact Sub.nil | with_reducible refine Sub.cons (by repeat (first | with_reducible exact Ext.here | with_reducible apply Ext.there)) ?_ | with_reducible refine Sub.tail ?_))), ?_⟩
      refine WJ_takeP 20 rfl (by kernel_rfl) (Rd_isF (Rd_neW rfl rfl ais43) (by rw [decide_eq_true rfl]; rfl)) rfl rfl rfl (hp _ _) ?_
      refine WJ_takeP 21 rfl (by kernel_rfl) (Rd_pickF rfl rfl) rfl rfl rfl (hp _ _) ?_
      refine WJ_takeP 22 rfl (by kernel_rfl) (Rd_move rfl) rfl rfl rfl (hp _ _) ?_
      refine WJ_takeP 23 rfl (by kernel_rfl) (Rd_move rfl) rfl rfl rfl (hp _ _) ?_
      refine WJ_takeP 24 rfl (by kernel_rfl) (Rd_fieldAddr rfl fo46_3) rfl rfl rfl (hp _ _) ?_
      refine WJ_tk 25 (Rd_load rfl tk23 (v := q.d.v) (hi := eKQ_d q)) hp ?_ rfl (by kernel_rfl) rfl rfl rfl
      refine WJ_all (rs := [26]) (by kernel_rfl) rfl ?_
      refine WI_one ?_
      refine WI_ac rfl (Ac_call cf30 rfl (hs := Ct.un0 (Xs := [arr a20 cap20 1 5 (eU .u8) (lentB q.d.l), old W]) (kept_ct (X := sep [arr a20 cap20 1 5 (eU .u8) (lentB q.d.l), old W]) (l := (lentB q.d.l)) (l' := q.d.l) (hS := hSf.pk (by repeat (first | with_reducible exact Has.here | with_reducible refine Has.there ?_))) (hS' := hqdS.pk (by repeat (first | with_reducible exact Has.here | with_reducible refine Has.there ?_)))))) rfl rfl rfl rfl ?_
      rintro _ _ ⟨⟨⟩, rfl, hA⟩
      simp only [List.cons_append, List.nil_append] at hA
      replace hA := hA.symm
      subst hA
      rw [decide_eq_true rfl]
      refine ⟨(fun _ => (by repeat (first | with_reducible exact Sub.refl | with_reducible exact Sub.nil | with_reducible refine Sub.cons (by repeat (first | with_reducible exact Ext.here | with_reducible apply Ext.there)) ?_ | with_reducible refine Sub.tail ?_))), ?_⟩
      refine WJ_takeP 27 rfl (by kernel_rfl) (Rd_not rfl) rfl rfl rfl (hp _ _) ?_
      refine WJ_takeP 28 rfl (by kernel_rfl) (Rd_pickF rfl rfl) rfl rfl rfl (hp _ _) ?_
      refine WJ_done (by kernel_rfl) ?_
      refine Ps_next hK12 ?_
      refine WC_condF rfl ?_
      refine WC_skip ?_
      refine Ps_next hK11 ?_
      refine WC_sr fun K13 hK13 => ?_
      refine WL_rd (Rd_move rfl) rfl rfl rfl ?_
      refine WL_ac (Ac_call cf31 rfl (hs := over_ct (l := (lentB q.d.l)) (a := a20) (cap := cap20))) rfl rfl rfl ?_
      rintro _ _ ⟨⟨⟩, rfl, hA⟩
      simp only [List.cons_append, List.nil_append] at hA
      replace hA := hA.symm
      subst hA
      have hol : (overB (lentB q.d.l).length).length = (lentB q.d.l).length := overB_len _
      have hSo : Sv [arr a20 cap20 1 5 (eU .u8) (overB (lentB q.d.l).length)] (sl a20 q.d.l.length cap20) 1 (eU .u8 (w := 8)) ((overB (lentB q.d.l).length).take q.d.l.length) (a20.map fun g => ⟨g, 0, none⟩) cap20 := by have h := Sv_pre (T := 5) (a := a20) (cap := cap20) (encU .u8 (w := 8)) (List.take_prefix q.d.l.length (overB (lentB q.d.l).length)) (fun e => by have := h20.1 e; rw [this] at hlb; simp at hlb) (by rw [hol]; exact h20.2); rw [List.length_take, hol, Nat.min_eq_left (by omega)] at h; exact h
      have hl2 : ((overB (lentB q.d.l).length).take q.d.l.length).length = q.d.l.length := by rw [List.length_take, hol]; omega
      have ht3b := tagD_len 3#8 [((overB (lentB q.d.l).length).take q.d.l.length)]
      have ht4b := tagD_len 4#8 [((overB (lentB q.d.l).length).take q.d.l.length)]
      have ht8b := tagD_len 8#8 [((overB (lentB q.d.l).length).take q.d.l.length)]
      refine WL_end hK13 ?_
      refine WC_seq fun K14 hK14 => ?_
      refine WC_sr fun K15 hK15 => ?_
      refine WL_rd (Rd_move rfl) rfl rfl rfl ?_
      refine WL_ac (Ac_call cf54 rfl (hs := block_ct (X := arr a20 cap20 1 5 (eU .u8) (overB (lentB q.d.l).length)) (l := ((overB (lentB q.d.l).length).take q.d.l.length)) (hS := hSo))) rfl rfl rfl ?_
      rintro _ _ ⟨⟨⟩, rfl, hA⟩
      simp only [List.cons_append, List.nil_append] at hA
      replace hA := hA.symm
      subst hA
      refine WL_rd (Rd_move rfl) rfl rfl rfl ?_
      refine WL_ac (Ac_call cf55 rfl (hs := blockR_ct (X := arr a20 cap20 1 5 (eU .u8) (overB (lentB q.d.l).length)) (l := ((overB (lentB q.d.l).length).take q.d.l.length)) (hS := hSo))) rfl rfl rfl ?_
      rintro _ _ ⟨⟨⟩, rfl, hA⟩
      simp only [List.cons_append, List.nil_append] at hA
      replace hA := hA.symm
      subst hA
      refine WL_rd (Rd_isF (Rd_neW rfl rfl ais43) (by rw [decide_eq_true rfl]; rfl)) rfl rfl rfl ?_
      refine WL_rd (Rd_move rfl) rfl rfl rfl ?_
      refine WL_rd (Rd_move rfl) rfl rfl rfl ?_
      refine WL_ac (Ac_call cf56 rfl (hs := segment_ct (X := arr a20 cap20 1 5 (eU .u8) (overB (lentB q.d.l).length)) (l := ((overB (lentB q.d.l).length).take q.d.l.length)) (hS := hSo))) rfl rfl rfl ?_
      rintro _ _ ⟨⟨⟩, rfl, hA⟩
      simp only [List.cons_append, List.nil_append] at hA
      replace hA := hA.symm
      subst hA
      refine WL_rd (Rd_move rfl) rfl rfl rfl ?_
      refine WL_ac (Ac_call cf57 rfl (hs := segmentR_ct (X := arr a20 cap20 1 5 (eU .u8) (overB (lentB q.d.l).length)) (l := ((overB (lentB q.d.l).length).take q.d.l.length)) (hS := hSo))) rfl rfl rfl ?_
      rintro _ _ ⟨⟨⟩, rfl, hA⟩
      simp only [List.cons_append, List.nil_append] at hA
      replace hA := hA.symm
      subst hA
      refine WL_rd (Rd_isF (Rd_neW rfl rfl ais43) (by rw [decide_eq_true rfl]; rfl)) rfl rfl rfl ?_
      refine WL_rd (Rd_pickF rfl rfl) rfl rfl rfl ?_
      refine WL_rd (Rd_move rfl) rfl rfl rfl ?_
      refine WL_rd (Rd_move rfl) rfl rfl rfl ?_
      refine WL_ac (Ac_call cf58 rfl (hs := ueb_ct (X := arr a20 cap20 1 5 (eU .u8) (overB (lentB q.d.l).length)) (l := ((overB (lentB q.d.l).length).take q.d.l.length)) (hS := hSo))) rfl rfl rfl ?_
      rintro _ _ ⟨⟨⟩, rfl, hA⟩
      simp only [List.cons_append, List.nil_append] at hA
      replace hA := hA.symm
      subst hA
      refine WL_rd (Rd_move rfl) rfl rfl rfl ?_
      refine WL_ac (Ac_call cf59 rfl (hs := uebR_ct (X := arr a20 cap20 1 5 (eU .u8) (overB (lentB q.d.l).length)) (l := ((overB (lentB q.d.l).length).take q.d.l.length)) (hS := hSo))) rfl rfl rfl ?_
      rintro _ _ ⟨⟨⟩, rfl, hA⟩
      simp only [List.cons_append, List.nil_append] at hA
      replace hA := hA.symm
      subst hA
      refine WL_rd (Rd_isF (Rd_neW rfl rfl ais43) (by rw [decide_eq_true rfl]; rfl)) rfl rfl rfl ?_
      refine WL_rd (Rd_pickF rfl rfl) rfl rfl rfl ?_
      refine WL_end hK15 ?_
      refine WC_condF rfl ?_
      refine WC_skip ?_
      refine Ps_next hK14 ?_
      refine WC_seq fun K16 hK16 => ?_
      refine WC_drawA mix (fun i => ([2, 2, 1, 2, 2, 1, 2, 2, 2, 2, 1, 2, 2, 1, 2, 2, 2, 2, 2, 2, 2, 1, 2, 2, 2, 2, 1, 2, 2, 2, 2, 2, 1, 2, 2, 1, 2, 2, 2, 2, 2, 2, 1, 2, 2, 2, 1, 2, 2, 2] : List Nat).getD i 0) ?_
      refine WJ_takeP 0 rfl (by kernel_rfl) (Rd_fieldAddr rfl fo46_7) rfl rfl rfl (hp _ _) ?_
      refine WJ_tk 1 (Rd_loadg (vs := q.key.flatMap (eU .u8)) rfl tk41 (hl := by rw [eKQ_len]; omega) (hi := eKQ_key q)) hp ?_ rfl (by kernel_rfl) rfl rfl rfl
      refine WJ_takeP 3 rfl (by kernel_rfl) (Rd_fieldAddr rfl fo46_7) rfl rfl rfl (hp _ _) ?_
      refine WJ_tk 4 (Rd_loadg (vs := q.key.flatMap (eU .u8)) rfl tk41 (hl := by rw [eKQ_len]; omega) (hi := eKQ_key q)) hp ?_ rfl (by kernel_rfl) rfl rfl rfl
      refine WJ_all (rs := [2]) (by kernel_rfl) rfl ?_
      refine WI_one ?_
      refine WI_ac rfl (Ac_call cf60 rfl (hs := index_ct (k := q.key))) rfl rfl rfl rfl ?_
      rintro _ _ ⟨⟨⟩, rfl, hA⟩
      simp only [List.cons_append, List.nil_append] at hA
      replace hA := hA.symm
      subst hA
      refine ⟨(fun _ => (by repeat (first | with_reducible exact Sub.refl | with_reducible exact Sub.nil | with_reducible refine Sub.cons (by repeat (first | with_reducible exact Ext.here | with_reducible apply Ext.there)) ?_ | with_reducible refine Sub.tail ?_))), ?_⟩
      refine WJ_all (rs := [5]) (by kernel_rfl) rfl ?_
      refine WI_one ?_
      refine WI_ac rfl (Ac_call cf61 rfl (hs := indexR_ct (k := q.key))) rfl rfl rfl rfl ?_
      rintro _ _ ⟨⟨⟩, rfl, hA⟩
      simp only [List.cons_append, List.nil_append] at hA
      replace hA := hA.symm
      subst hA
      refine ⟨(fun _ => (by repeat (first | with_reducible exact Sub.refl | with_reducible exact Sub.nil | with_reducible refine Sub.cons (by repeat (first | with_reducible exact Ext.here | with_reducible apply Ext.there)) ?_ | with_reducible refine Sub.tail ?_))), ?_⟩
      refine WJ_takeP 6 rfl (by kernel_rfl) (Rd_isT (Rd_eqW rfl rfl ais98) (decide_eq_true rfl)) rfl rfl rfl (hp _ _) ?_
      refine WJ_takeP 7 rfl (by kernel_rfl) (Rd_move rfl) rfl rfl rfl (hp _ _) ?_
      refine WJ_takeP 8 rfl (by kernel_rfl) (Rd_fieldAddr rfl fo46_8) rfl rfl rfl (hp _ _) ?_
      refine WJ_tk 9 (Rd_loadg (vs := q.a.flatMap (eU .u8)) rfl tk43 (hl := by rw [eKQ_len]; omega) (hi := eKQ_a q)) hp ?_ rfl (by kernel_rfl) rfl rfl rfl
      refine WJ_takeP 11 rfl (by kernel_rfl) (Rd_fieldAddr rfl fo46_8) rfl rfl rfl (hp _ _) ?_
      refine WJ_tk 12 (Rd_loadg (vs := q.a.flatMap (eU .u8)) rfl tk43 (hl := by rw [eKQ_len]; omega) (hi := eKQ_a q)) hp ?_ rfl (by kernel_rfl) rfl rfl rfl
      refine WJ_all (rs := [10]) (by kernel_rfl) rfl ?_
      refine WI_one ?_
      refine WI_ac rfl (Ac_call cf62 rfl (hs := root_ct (d := q.a))) rfl rfl rfl rfl ?_
      rintro _ _ ⟨⟨⟩, rfl, hA⟩
      simp only [List.cons_append, List.nil_append] at hA
      replace hA := hA.symm
      subst hA
      refine ⟨(fun _ => (by repeat (first | with_reducible exact Sub.refl | with_reducible exact Sub.nil | with_reducible refine Sub.cons (by repeat (first | with_reducible exact Ext.here | with_reducible apply Ext.there)) ?_ | with_reducible refine Sub.tail ?_))), ?_⟩
      refine WJ_all (rs := [13]) (by kernel_rfl) rfl ?_
      refine WI_one ?_
      refine WI_ac rfl (Ac_call cf63 rfl (hs := rootR_ct (d := q.a))) rfl rfl rfl rfl ?_
      rintro _ _ ⟨⟨⟩, rfl, hA⟩
      simp only [List.cons_append, List.nil_append] at hA
      replace hA := hA.symm
      subst hA
      refine ⟨(fun _ => (by repeat (first | with_reducible exact Sub.refl | with_reducible exact Sub.nil | with_reducible refine Sub.cons (by repeat (first | with_reducible exact Ext.here | with_reducible apply Ext.there)) ?_ | with_reducible refine Sub.tail ?_))), ?_⟩
      refine WJ_takeP 14 rfl (by kernel_rfl) (Rd_isT (Rd_eqW rfl rfl ais43) (decide_eq_true rfl)) rfl rfl rfl (hp _ _) ?_
      refine WJ_takeP 15 rfl (by kernel_rfl) (Rd_pickT rfl rfl) rfl rfl rfl (hp _ _) ?_
      refine WJ_takeP 16 rfl (by kernel_rfl) (Rd_move rfl) rfl rfl rfl (hp _ _) ?_
      refine WJ_takeP 17 rfl (by kernel_rfl) (Rd_fieldAddr rfl fo46_8) rfl rfl rfl (hp _ _) ?_
      refine WJ_tk 18 (Rd_loadg (vs := q.a.flatMap (eU .u8)) rfl tk43 (hl := by rw [eKQ_len]; omega) (hi := eKQ_a q)) hp ?_ rfl (by kernel_rfl) rfl rfl rfl
      refine WJ_takeP 19 rfl (by kernel_rfl) (Rd_fieldAddr rfl fo46_9) rfl rfl rfl (hp _ _) ?_
      refine WJ_tk 20 (Rd_loadg (vs := q.b.flatMap (eU .u8)) rfl tk43 (hl := by rw [eKQ_len]; omega) (hi := eKQ_b q)) hp ?_ rfl (by kernel_rfl) rfl rfl rfl
      refine WJ_takeP 22 rfl (by kernel_rfl) (Rd_fieldAddr rfl fo46_8) rfl rfl rfl (hp _ _) ?_
      refine WJ_tk 23 (Rd_loadg (vs := q.a.flatMap (eU .u8)) rfl tk43 (hl := by rw [eKQ_len]; omega) (hi := eKQ_a q)) hp ?_ rfl (by kernel_rfl) rfl rfl rfl
      refine WJ_takeP 24 rfl (by kernel_rfl) (Rd_fieldAddr rfl fo46_9) rfl rfl rfl (hp _ _) ?_
      refine WJ_tk 25 (Rd_loadg (vs := q.b.flatMap (eU .u8)) rfl tk43 (hl := by rw [eKQ_len]; omega) (hi := eKQ_b q)) hp ?_ rfl (by kernel_rfl) rfl rfl rfl
      refine WJ_all (rs := [21]) (by kernel_rfl) rfl ?_
      refine WI_one ?_
      refine WI_ac rfl (Ac_call cf64 rfl (hs := node_ct (x := q.a) (y := q.b))) rfl rfl rfl rfl ?_
      rintro _ _ ⟨⟨⟩, rfl, hA⟩
      simp only [List.cons_append, List.nil_append] at hA
      replace hA := hA.symm
      subst hA
      refine ⟨(fun _ => (by repeat (first | with_reducible exact Sub.refl | with_reducible exact Sub.nil | with_reducible refine Sub.cons (by repeat (first | with_reducible exact Ext.here | with_reducible apply Ext.there)) ?_ | with_reducible refine Sub.tail ?_))), ?_⟩
      refine WJ_all (rs := [26]) (by kernel_rfl) rfl ?_
      refine WI_one ?_
      refine WI_ac rfl (Ac_call cf65 rfl (hs := nodeR_ct (x := q.a) (y := q.b))) rfl rfl rfl rfl ?_
      rintro _ _ ⟨⟨⟩, rfl, hA⟩
      simp only [List.cons_append, List.nil_append] at hA
      replace hA := hA.symm
      subst hA
      refine ⟨(fun _ => (by repeat (first | with_reducible exact Sub.refl | with_reducible exact Sub.nil | with_reducible refine Sub.cons (by repeat (first | with_reducible exact Ext.here | with_reducible apply Ext.there)) ?_ | with_reducible refine Sub.tail ?_))), ?_⟩
      refine WJ_takeP 27 rfl (by kernel_rfl) (Rd_isT (Rd_eqW rfl rfl ais43) (decide_eq_true rfl)) rfl rfl rfl (hp _ _) ?_
      refine WJ_takeP 28 rfl (by kernel_rfl) (Rd_pickT rfl rfl) rfl rfl rfl (hp _ _) ?_
      refine WJ_takeP 29 rfl (by kernel_rfl) (Rd_move rfl) rfl rfl rfl (hp _ _) ?_
      refine WJ_takeP 30 rfl (by kernel_rfl) (Rd_fieldAddr rfl fo46_10) rfl rfl rfl (hp _ _) ?_
      refine WJ_tk 31 (Rd_load rfl tk44 (v := .int .u32 ((q.num.toNat : Nat) : Int)) (hi := eKQ_num q)) hp ?_ rfl (by kernel_rfl) rfl rfl rfl
      refine WJ_takeP 33 rfl (by kernel_rfl) (Rd_fieldAddr rfl fo46_10) rfl rfl rfl (hp _ _) ?_
      refine WJ_tk 34 (Rd_load rfl tk44 (v := .int .u32 ((q.num.toNat : Nat) : Int)) (hi := eKQ_num q)) hp ?_ rfl (by kernel_rfl) rfl rfl rfl
      refine WJ_all (rs := [32]) (by kernel_rfl) rfl ?_
      refine WI_one ?_
      refine WI_ac rfl (Ac_call cf13 rfl (hs := padT_ct (x := q.num))) rfl rfl rfl rfl ?_
      rintro _ _ ⟨⟨⟩, rfl, hA⟩
      simp only [List.cons_append, List.nil_append] at hA
      replace hA := hA.symm
      subst hA
      refine ⟨(fun _ => (by repeat (first | with_reducible exact Sub.refl | with_reducible exact Sub.nil | with_reducible refine Sub.cons (by repeat (first | with_reducible exact Ext.here | with_reducible apply Ext.there)) ?_ | with_reducible refine Sub.tail ?_))), ?_⟩
      refine WJ_all (rs := [35]) (by kernel_rfl) rfl ?_
      refine WI_one ?_
      refine WI_ac rfl (Ac_call cf66 rfl (hs := padTR_ct (x := q.num))) rfl rfl rfl rfl ?_
      rintro _ _ ⟨⟨⟩, rfl, hA⟩
      simp only [List.cons_append, List.nil_append] at hA
      replace hA := hA.symm
      subst hA
      refine ⟨(fun _ => (by repeat (first | with_reducible exact Sub.refl | with_reducible exact Sub.nil | with_reducible refine Sub.cons (by repeat (first | with_reducible exact Ext.here | with_reducible apply Ext.there)) ?_ | with_reducible refine Sub.tail ?_))), ?_⟩
      refine WJ_takeP 36 rfl (by kernel_rfl) (Rd_isT (Rd_eqW rfl rfl ais43) (decide_eq_true rfl)) rfl rfl rfl (hp _ _) ?_
      refine WJ_takeP 37 rfl (by kernel_rfl) (Rd_pickT rfl rfl) rfl rfl rfl (hp _ _) ?_
      refine WJ_takeP 38 rfl (by kernel_rfl) (Rd_move rfl) rfl rfl rfl (hp _ _) ?_
      refine WJ_tk 39 (Rd_loadW rfl tk98) hp ?_ rfl (by kernel_rfl) rfl rfl rfl
      refine WJ_takeP 40 rfl (by kernel_rfl) (Rd_fieldAddr rfl fo46_10) rfl rfl rfl (hp _ _) ?_
      refine WJ_tk 41 (Rd_load rfl tk44 (v := .int .u32 ((q.num.toNat : Nat) : Int)) (hi := eKQ_num q)) hp ?_ rfl (by kernel_rfl) rfl rfl rfl
      refine WJ_tk 43 (Rd_loadW rfl tk98) hp ?_ rfl (by kernel_rfl) rfl rfl rfl
      refine WJ_takeP 44 rfl (by kernel_rfl) (Rd_fieldAddr rfl fo46_10) rfl rfl rfl (hp _ _) ?_
      refine WJ_tk 45 (Rd_load rfl tk44 (v := .int .u32 ((q.num.toNat : Nat) : Int)) (hi := eKQ_num q)) hp ?_ rfl (by kernel_rfl) rfl rfl rfl
      refine WJ_all (rs := [42]) (by kernel_rfl) rfl ?_
      refine WI_one ?_
      refine WI_ac rfl (Ac_call cf67 rfl (hs := ring_ct (i := cpL (rvL q.key) 16) (x := q.num))) rfl rfl rfl rfl ?_
      rintro _ _ ⟨⟨⟩, rfl, hA⟩
      simp only [List.cons_append, List.nil_append] at hA
      replace hA := hA.symm
      subst hA
      refine ⟨(fun _ => (by repeat (first | with_reducible exact Sub.refl | with_reducible exact Sub.nil | with_reducible refine Sub.cons (by repeat (first | with_reducible exact Ext.here | with_reducible apply Ext.there)) ?_ | with_reducible refine Sub.tail ?_))), ?_⟩
      refine WJ_all (rs := [46]) (by kernel_rfl) rfl ?_
      refine WI_one ?_
      refine WI_ac rfl (Ac_call cf68 rfl (hs := ringR_ct (i := cpL (rvL q.key) 16) (x := q.num))) rfl rfl rfl rfl ?_
      rintro _ _ ⟨⟨⟩, rfl, hA⟩
      simp only [List.cons_append, List.nil_append] at hA
      replace hA := hA.symm
      subst hA
      refine ⟨(fun _ => (by repeat (first | with_reducible exact Sub.refl | with_reducible exact Sub.nil | with_reducible refine Sub.cons (by repeat (first | with_reducible exact Ext.here | with_reducible apply Ext.there)) ?_ | with_reducible refine Sub.tail ?_))), ?_⟩
      refine WJ_takeP 47 rfl (by kernel_rfl) (Rd_isT (Rd_eqW rfl rfl ais43) (decide_eq_true rfl)) rfl rfl rfl (hp _ _) ?_
      refine WJ_takeP 48 rfl (by kernel_rfl) (Rd_pickT rfl rfl) rfl rfl rfl (hp _ _) ?_
      refine WJ_takeP 49 rfl (by kernel_rfl) (Rd_assign rfl) rfl rfl rfl (hp _ _) ?_
      refine WJ_done (by kernel_rfl) ?_
      refine Ps_next hK16 ?_
      refine WC_ret ?_
      exact hret.go () (Rs1 rfl rfl)
end Go.Proofs.Ytlcafifjhilleaa
