/-
  Contracts of functions that the claim reaches, or the row over them: the law returns true for every input of bulk at most 1048576. (Conditions: none beyond the statement.)
-/
import Derived.Test.YtcemkpiopijbmaaCqSD
import Derived.Test.YtcemkpiopijbmaaSlTyp
set_option linter.all false
namespace Go.Proofs.Ytcemkpiopijbmaa
open Go.RowKit Go.SL Go.HpM
set_option maxHeartbeats 1000000
set_option maxRecDepth 20000
set_option linter.all false
theorem cf26 : cfn Try.prog 26 = true := by kernel_rfl
theorem cf28 : cfn Try.prog 28 = true := by kernel_rfl
theorem fo62_0 : fo Try.prog 62 0 = some (0, 3) := by kernel_rfl
theorem sz9 : sz Try.prog 9 = some 1 := by kernel_rfl
theorem ud58 : Try.prog.underlying 58 = some (.slice 9) := by kernel_rfl
theorem ud60 : Try.prog.underlying 60 = some (.slice 3) := by kernel_rfl
theorem zr3 : zr Try.prog 3 = some [.int .i64 0] := by kernel_rfl
theorem zr9 : zr Try.prog 9 = some [.string ⟨#[]⟩] := by kernel_rfl
def cnTx : List ByteArray := [⟨#[97]⟩, ⟨#[98]⟩, ⟨#[99]⟩, ⟨#[100]⟩]
def cnTk : List Int := [7, 6, 7, 5]
def cnRows : Nat → List (Nat × (Int × Int × ByteArray))
  | 0 => []
  | 1 => [(0, (0, 7, ⟨#[97]⟩))]
  | 2 => [(1, (1, 6, ⟨#[98]⟩)), (0, (0, 7, ⟨#[97]⟩))]
  | 3 => [(1, (1, 6, ⟨#[98]⟩)), (0, (0, 7, ⟨#[97]⟩)), (2, (2, 7, ⟨#[99]⟩))]
  | _ => [(3, (3, 5, ⟨#[100]⟩)), (1, (1, 6, ⟨#[98]⟩)), (2, (2, 7, ⟨#[99]⟩)), (0, (0, 7, ⟨#[97]⟩))]
theorem cn_step {i : Nat} {s : ByteArray} {t : Int} (hs : cnTx[i]? = some s) (ht : cnTk[i]? = some t) : (pushM (pl kS_lt) () (cnRows i) i (((i : Nat) : Int), t, s)).1 = cnRows (i + 1) := by
  have hi : i < 4 := (List.getElem?_eq_some_iff.1 hs).1
  rcases (show i = 0 ∨ i = 1 ∨ i = 2 ∨ i = 3 from by omega) with h | h | h | h <;> subst h <;> cases hs <;> cases ht <;> (rw [pushM_P]; rfl)
theorem cn_tick {i : Nat} {t : Int} (ht : cnTk[i]? = some t) : 5 ≤ t ∧ t ≤ 7 := by
  have h := List.mem_of_getElem? ht
  simp [cnTk] at h; omega
theorem encStr : Enc eStr 1 := ⟨fun _ => rfl, fun x v hv => by simp [eStr] at hv; subst hv; rfl⟩
theorem encInt : Enc (eInt .i64) 1 := ⟨fun _ => rfl, fun x v hv => by simp [eInt] at hv; subst hv; rfl⟩

theorem cn_until : kS_untM 6 [(1, (1, 6, ⟨#[98]⟩)), (0, (0, 7, ⟨#[97]⟩)), (2, (2, 7, ⟨#[99]⟩))] = ([(1, (1, 6, ⟨#[98]⟩))], [(0, (0, 7, ⟨#[97]⟩)), (2, (2, 7, ⟨#[99]⟩))]) := by
  rw [kS_untM_go (x := (1, (1, 6, ⟨#[98]⟩))) rfl (by decide), takeM_P, show takeP kS_lt [(1, (1, 6, ⟨#[98]⟩)), (0, (0, 7, ⟨#[97]⟩)), (2, (2, 7, ⟨#[99]⟩))] 0 = [(0, (0, 7, ⟨#[97]⟩)), (2, (2, 7, ⟨#[99]⟩))] from rfl, kS_untM_stop (by intro x hx; cases hx; decide)]
theorem cn_until0 (t : Int) : kS_untM t [] = ([], []) := by rw [kS_untM]

theorem Names_ct   : Ct Try.prog 5 [] [] (fun _ : Unit => .bool true) (fun _ => []) := by
  refine Ct_body (n := 219) Try.func5 rfl rfl rfl fun F w0 Q hret hnorm hp => ?_
  change WC _ _ _ _ _ _ (F)
  refine WC_sr fun K1 hK1 => ?_
  refine WL_rd (Rd_assign rfl) rfl rfl rfl ?_
  refine WL_end hK1 ?_
  refine WC_seq fun K2 hK2 => ?_
  refine WC_sr fun K3 hK3 => ?_
  refine WL_rd (Rd_move rfl) rfl rfl rfl ?_
  refine WL_ac (Ac_call cf10 rfl (hs := awake_ct)) rfl rfl rfl ?_
  rintro _ _ ⟨⟨⟩, rfl, hA⟩
  simp only [List.cons_append, List.nil_append] at hA
  replace hA := hA.symm
  subst hA
  refine WL_rd (Rd_not rfl) rfl rfl rfl ?_
  refine WL_rd (Rd_pickF rfl rfl) rfl rfl rfl ?_
  refine WL_end hK3 ?_
  refine WC_condF rfl ?_
  refine WC_skip ?_
  refine Ps_next hK2 ?_
  refine WC_sr fun K4 hK4 => ?_
  refine WL_ac (Ac_call cf23 rfl (hs := kS_new)) rfl rfl rfl ?_
  rintro _ _ ⟨⟨c, hb⟩, rfl, hA⟩
  simp only [List.cons_append, List.nil_append] at hA
  replace hA := hA.symm
  subst hA
  refine WL_rd (Rd_move rfl) rfl rfl rfl ?_
  refine WL_rd (Rd_ext0 rfl) rfl rfl rfl ?_
  refine WL_rd (Rd_ext1 rfl) rfl rfl rfl ?_
  refine WL_rd (Rd_assign rfl) rfl rfl rfl ?_
  refine WL_rd (Rd_assign rfl) rfl rfl rfl ?_
  refine WL_end hK4 ?_
  refine WC_seq fun K5 hK5 => ?_
  refine WC_sr fun K6 hK6 => ?_
  refine WL_ac (Ac_bsL (f := eStr) (zs := [.string ⟨#[]⟩]) (bs := [.string ⟨#[]⟩, .string ⟨#[]⟩, .string ⟨#[]⟩, .string ⟨#[]⟩]) cnTx encStr ud58 zr9 sz9 rfl (by rw [Array.toList_map, Array.toList_range]; rfl) (by rfl) (by rfl) (by rfl) (by rfl)) rfl rfl rfl ?_
  rintro _ _ ⟨bt, rfl, rfl⟩
  refine WL_rd (Rd_len rfl rfl ud58) rfl rfl rfl ?_
  refine WL_rd (Rd_move rfl) rfl rfl rfl ?_
  refine WL_end hK6 ?_
  refine WC_block ?_
  rw [show ([] : List (Nat × (Int × Int × ByteArray))) = cnRows 0 from rfl]
  refine WC_loop (σ := Nat) (fun i' => [(1, .pointer (some ⟨c, 0, none⟩)), (33, sl (some bt) 4 4), (34, .int .i64 ((4 : Nat) : Int)), (35, .int .i64 ((i' : Nat) : Int))]) (fun i' => cl c 121 [.int .i64 5, .int .i64 ((i' : Nat) : Int), .pointer (some ⟨hb, 0, none⟩)] :: kS_h_hpA (.func (.func 59) #[] ([] : List Value).toArray) hb (cnRows i') i' :: emp :: arr (some bt) 4 1 9 eStr cnTx :: F) (fun i' => i' ≤ 4) (fun i' => 4 - i') (0) ?_ ?_ ?_ ?_
  · omega
  · exact (Wk.cons (by first | rfl | (simp only [List.length_append, List.length_cons, List.length_nil, Nat.zero_add]; rfl) | (simp; done)) (Wk.cons (by first | rfl | (simp only [List.length_append, List.length_cons, List.length_nil, Nat.zero_add]; rfl) | (simp; done)) (Wk.cons (by first | rfl | (simp only [List.length_append, List.length_cons, List.length_nil, Nat.zero_add]; rfl) | (simp; done)) (Wk.cons (by first | rfl | (simp only [List.length_append, List.length_cons, List.length_nil, Nat.zero_add]; rfl) | (simp; done)) Wk.nil))))
  · repeat (first | with_reducible exact Sub.refl | with_reducible exact Sub.nil | with_reducible refine Sub.cons (by repeat (first | with_reducible exact Ext.here | with_reducible apply Ext.there)) ?_ | with_reducible refine Sub.tail ?_)
  · rintro i' hi K7 hK7
    refine WC_sr fun K8 hK8 => ?_
    refine WL_rd (Rd_lssN rfl rfl) rfl rfl rfl ?_
    refine WL_end hK8 ?_
    refine WC_seq fun K9 hK9 => ?_
    refine WC_cond rfl (fun hc1 => ?_) (fun hc1 => ?_)
    · try simp only [decide_eq_true_eq, decide_eq_false_iff_not, Bool.not_eq_true', Bool.not_eq_false', Bool.not_eq_true, Bool.not_eq_false, Int.not_lt, Int.not_le, Nat.not_lt, Nat.not_le, Decidable.not_not, ne_eq] at hc1
      obtain ⟨s, hs⟩ : ∃ s, cnTx[i']? = some s := ⟨_, List.getElem?_eq_getElem (by show i' < 4; omega)⟩
      obtain ⟨t, ht⟩ : ∃ t, cnTk[i']? = some t := ⟨_, List.getElem?_eq_getElem (by show i' < 4; omega)⟩
      have htk := cn_tick ht
      refine WC_skip ?_
      refine Ps_next hK9 ?_
      refine WC_seq fun K10 hK10 => ?_
      refine WC_block ?_
      refine WC_sr fun K11 hK11 => ?_
      refine WL_rd (Rd_move rfl) rfl rfl rfl ?_
      refine WL_rd (Rd_index i' rfl rfl ud58 sz9 (hj := by omega)) rfl rfl rfl ?_
      refine WL_rd (Rd_load_arr rfl tk9 (j := 0)) rfl rfl rfl ?_
      refine WL_rd (Rd_assign rfl) rfl rfl rfl ?_
      refine WL_rd (Rd_assign rfl) rfl rfl rfl ?_
      refine WL_end hK11 ?_
      refine WC_sr fun K12 hK12 => ?_
      refine WL_rd (Rd_move rfl) rfl rfl rfl ?_
      refine WL_ac (Ac_bsL (f := (eInt .i64)) (zs := [.int .i64 0]) (bs := [.int .i64 0, .int .i64 0, .int .i64 0, .int .i64 0]) cnTk encInt ud60 zr3 sz3 rfl (by rw [Array.toList_map, Array.toList_range]; rfl) (by rfl) (by rfl) (by rfl) (by rfl)) rfl rfl rfl ?_
      rintro _ _ ⟨bk, rfl, rfl⟩
      refine WL_rd (Rd_move rfl) rfl rfl rfl ?_
      refine WL_rd (Rd_index i' rfl rfl ud60 sz3 (hj := by omega)) rfl rfl rfl ?_
      refine WL_rd (Rd_load_arr rfl tk3 (j := 0)) rfl rfl rfl ?_
      refine WL_rd (Rd_move rfl) rfl rfl rfl ?_
      refine WL_ac (Ac_call cf24 rfl (hs := kS_set (tick := t) (v := s) (h0 := laterM_ok.2 (by omega)))) rfl rfl rfl ?_
      rintro _ _ ⟨⟨⟩, rfl, hA⟩
      simp only [List.cons_append, List.nil_append] at hA
      replace hA := hA.symm
      subst hA
      rw [cn_step hs ht]
      refine WL_rd (Rd_move rfl) rfl rfl rfl ?_
      refine WL_rd (Rd_ext0 rfl) rfl rfl rfl ?_
      refine WL_rd (Rd_ext1 rfl) rfl rfl rfl ?_
      refine WL_rd (Rd_assign rfl) rfl rfl rfl ?_
      refine WL_rd (Rd_assign rfl) rfl rfl rfl ?_
      refine WL_end hK12 ?_
      refine WC_sr fun K13 hK13 => ?_
      refine WL_rd (Rd_move rfl) rfl rfl rfl ?_
      refine WL_rd (Rd_move rfl) rfl rfl rfl ?_
      refine WL_rd (Rd_isF (Rd_neqN rfl rfl)) rfl rfl rfl ?_
      refine WL_rd (Rd_move rfl) rfl rfl rfl ?_
      refine WL_rd (Rd_move rfl) rfl rfl rfl ?_
      refine WL_rd (Rd_neqN (i := 0) (j := 0) rfl rfl) rfl rfl rfl ?_
      refine WL_rd (Rd_pickF rfl rfl) rfl rfl rfl ?_
      refine WL_end hK13 ?_
      refine WC_condF rfl ?_
      refine WC_skip ?_
      refine Ps_next hK10 ?_
      refine WC_region ?_
      refine WL_rd (Rd_addN (j := 1) rfl rfl) rfl rfl rfl ?_
      refine WL_rd (Rd_move rfl) rfl rfl rfl ?_
      refine WL_nil ?_
      refine Ps_wk ((Wk.cons (by first | rfl | (simp only [List.length_append, List.length_cons, List.length_nil, Nat.zero_add]; rfl) | (simp; done)) (Wk.cons (by first | rfl | (simp only [List.length_append, List.length_cons, List.length_nil, Nat.zero_add]; rfl) | (simp; done)) (Wk.cons (by first | rfl | (simp only [List.length_append, List.length_cons, List.length_nil, Nat.zero_add]; rfl) | (simp; done)) (Wk.cons (by first | rfl | (simp only [List.length_append, List.length_cons, List.length_nil, Nat.zero_add]; rfl) | (simp; done)) Wk.nil))))) (by first | with_reducible exact Sub.refl | ((try dsimp only); repeat (first | with_reducible exact Sub.refl | with_reducible exact Sub.nil | with_reducible refine Sub.cons (by repeat (first | with_reducible exact Ext.here | with_reducible apply Ext.there)) ?_ | with_reducible refine Sub.tail ?_))) (hK7 (i' + 1) (by omega) (by omega))
    · try simp only [decide_eq_true_eq, decide_eq_false_iff_not, Bool.not_eq_true', Bool.not_eq_false', Bool.not_eq_true, Bool.not_eq_false, Int.not_lt, Int.not_le, Nat.not_lt, Nat.not_le, Decidable.not_not, ne_eq] at hc1
      obtain rfl : i' = 4 := by omega
      rw [show cnRows 4 = [(3, (3, 5, ⟨#[100]⟩)), (1, (1, 6, ⟨#[98]⟩)), (2, (2, 7, ⟨#[99]⟩)), (0, (0, 7, ⟨#[97]⟩))] from rfl]
      refine WC_exit ?_
      refine Ps_next hK5 ?_
      refine WC_sr fun K14 hK14 => ?_
      refine WL_rd (Rd_move rfl) rfl rfl rfl ?_
      refine WL_ac (Ac_call cf24 rfl (hs := kS_set_no (v := ⟨#[101]⟩) (h0 := by decide))) rfl rfl rfl ?_
      rintro _ _ ⟨⟨⟩, rfl, hA⟩
      simp only [List.cons_append, List.nil_append] at hA
      replace hA := hA.symm
      subst hA
      refine WL_rd (Rd_move rfl) rfl rfl rfl ?_
      refine WL_rd (Rd_ext0 rfl) rfl rfl rfl ?_
      refine WL_rd (Rd_ext1 rfl) rfl rfl rfl ?_
      refine WL_rd (Rd_assign rfl) rfl rfl rfl ?_
      refine WL_rd (Rd_assign rfl) rfl rfl rfl ?_
      refine WL_end hK14 ?_
      refine WC_sr fun K15 hK15 => ?_
      refine WL_rd (Rd_move rfl) rfl rfl rfl ?_
      refine WL_ac (Ac_call cf24 rfl (hs := kS_set_no (v := ⟨#[101]⟩) (h0 := by decide))) rfl rfl rfl ?_
      rintro _ _ ⟨⟨⟩, rfl, hA⟩
      simp only [List.cons_append, List.nil_append] at hA
      replace hA := hA.symm
      subst hA
      refine WL_rd (Rd_move rfl) rfl rfl rfl ?_
      refine WL_rd (Rd_ext0 rfl) rfl rfl rfl ?_
      refine WL_rd (Rd_ext1 rfl) rfl rfl rfl ?_
      refine WL_rd (Rd_assign rfl) rfl rfl rfl ?_
      refine WL_rd (Rd_assign rfl) rfl rfl rfl ?_
      refine WL_end hK15 ?_
      refine WC_sr fun K16 hK16 => ?_
      refine WL_rd (Rd_move rfl) rfl rfl rfl ?_
      refine WL_ac (Ac_call cf25 rfl (hs := kS_take (x := (3, (3, 5, ⟨#[100]⟩))) (hx0 := rfl))) rfl rfl rfl ?_
      rintro _ _ ⟨⟨⟩, rfl, hA⟩
      simp only [List.cons_append, List.nil_append] at hA
      replace hA := hA.symm
      subst hA
      rw [takeM_P]
      rw [show takeP kS_lt [(3, (3, 5, ⟨#[100]⟩)), (1, (1, 6, ⟨#[98]⟩)), (2, (2, 7, ⟨#[99]⟩)), (0, (0, 7, ⟨#[97]⟩))] 0 = [(1, (1, 6, ⟨#[98]⟩)), (0, (0, 7, ⟨#[97]⟩)), (2, (2, 7, ⟨#[99]⟩))] from rfl]
      refine WL_rd (Rd_move rfl) rfl rfl rfl ?_
      refine WL_rd (Rd_ext0 rfl) rfl rfl rfl ?_
      refine WL_rd (Rd_ext1 rfl) rfl rfl rfl ?_
      refine WL_ac (Ac_alloc zr62) rfl rfl rfl ?_
      rintro _ _ ⟨b11, rfl, rfl⟩
      refine WL_ac0 (Ac_store rfl rfl sz62 (h1 := by simp [Value.cells, Value.oneCell', kS_h_itf])) rfl rfl ?_
      rintro _ _ rfl
      refine WL_rd (Rd_assign rfl) rfl rfl rfl ?_
      refine WL_end hK16 ?_
      refine WC_sr fun K17 hK17 => ?_
      refine WL_rd (Rd_move rfl) rfl rfl rfl ?_
      refine WL_ac (Ac_call cf26 rfl (hs := kS_until (h0 := by decide))) rfl rfl rfl ?_
      rintro _ _ ⟨⟨oa, oc⟩, rfl, hA⟩
      simp only [List.cons_append, List.nil_append] at hA
      replace hA := hA.symm
      subst hA
      rw [cn_until]
      simp only [List.map_cons, List.map_nil, List.length_cons, List.length_nil]
      refine WL_some (a := oa) (by repeat (first | with_reducible exact Has.here | with_reducible refine Has.there ?_)) (by decide) (fun gb hgb _ => ?_)
      subst hgb
      have h10 : ([(1, 6, ⟨#[98]⟩)] : List (Int × Int × ByteArray))[0]? = some (1, 6, ⟨#[98]⟩) := rfl
      refine WL_rd (Rd_move rfl) rfl rfl rfl ?_
      refine WL_rd (Rd_ext0 rfl) rfl rfl rfl ?_
      refine WL_rd (Rd_ext1 rfl) rfl rfl rfl ?_
      refine WL_rd (Rd_assign rfl) rfl rfl rfl ?_
      refine WL_rd (Rd_assign rfl) rfl rfl rfl ?_
      refine WL_end hK17 ?_
      refine WC_seq fun K18 hK18 => ?_
      refine WC_sr fun K19 hK19 => ?_
      refine WL_rd (Rd_move rfl) rfl rfl rfl ?_
      refine WL_rd (Rd_isF (Rd_neq rfl rfl)) rfl rfl rfl ?_
      refine WL_rd (Rd_move rfl) rfl rfl rfl ?_
      refine WL_rd (Rd_move rfl) rfl rfl rfl ?_
      refine WL_rd (Rd_isF (Rd_neq rfl rfl)) rfl rfl rfl ?_
      refine WL_rd (Rd_pickF rfl rfl) rfl rfl rfl ?_
      refine WL_rd (Rd_move rfl) rfl rfl rfl ?_
      refine WL_rd (Rd_fieldAddr rfl fo62_2) rfl rfl rfl ?_
      refine WL_rd (Rd_load rfl tk9) rfl rfl rfl ?_
      refine WL_rd (Rd_isF (Rd_strne rfl rfl)) rfl rfl rfl ?_
      refine WL_rd (Rd_pickF rfl rfl) rfl rfl rfl ?_
      refine WL_rd (Rd_move rfl) rfl rfl rfl ?_
      refine WL_rd (Rd_move rfl) rfl rfl rfl ?_
      refine WL_rd (Rd_neqN (i := 0) (j := 0) rfl rfl) rfl rfl rfl ?_
      refine WL_rd (Rd_pickF rfl rfl) rfl rfl rfl ?_
      refine WL_rd (Rd_move rfl) rfl rfl rfl ?_
      refine WL_rd (Rd_move rfl) rfl rfl rfl ?_
      refine WL_rd (Rd_len rfl rfl ud65) rfl rfl rfl ?_
      refine WL_rd (Rd_isF (Rd_neqN (j := 1) rfl rfl)) rfl rfl rfl ?_
      refine WL_rd (Rd_pickF rfl rfl) rfl rfl rfl ?_
      refine WL_rd (Rd_move rfl) rfl rfl rfl ?_
      refine WL_rd (Rd_move rfl) rfl rfl rfl ?_
      refine WL_rd (Rd_index 0 rfl rfl ud65 sz62) rfl rfl rfl ?_
      refine WL_rd (Rd_fieldAddr rfl fo62_2) rfl rfl rfl ?_
      refine WL_rd (Rd_load_arr rfl tk9 (j := 2)) rfl rfl rfl ?_
      refine WL_rd (Rd_isF (Rd_strne rfl rfl)) rfl rfl rfl ?_
      refine WL_rd (Rd_pickF rfl rfl) rfl rfl rfl ?_
      refine WL_rd (Rd_move rfl) rfl rfl rfl ?_
      refine WL_rd (Rd_move rfl) rfl rfl rfl ?_
      refine WL_ac (Ac_call cf27 rfl (hs := kS_now)) rfl rfl rfl ?_
      rintro _ _ ⟨⟨⟩, rfl, hA⟩
      simp only [List.cons_append, List.nil_append] at hA
      replace hA := hA.symm
      subst hA
      refine WL_rd (Rd_isF (Rd_neq rfl rfl)) rfl rfl rfl ?_
      refine WL_rd (Rd_pickF rfl rfl) rfl rfl rfl ?_
      refine WL_end hK19 ?_
      refine WC_condF rfl ?_
      refine WC_skip ?_
      refine Ps_next hK18 ?_
      refine WC_sr fun K20 hK20 => ?_
      refine WL_rd (Rd_move rfl) rfl rfl rfl ?_
      refine WL_ac (Ac_call cf24 rfl (hs := kS_set (h0 := by decide))) rfl rfl rfl ?_
      rintro _ _ ⟨⟨⟩, rfl, hA⟩
      simp only [List.cons_append, List.nil_append] at hA
      replace hA := hA.symm
      subst hA
      rw [pushM_P]
      rw [show pushP kS_lt [(0, (0, 7, ⟨#[97]⟩)), (2, (2, 7, ⟨#[99]⟩))] 4 (((4 : Nat) : Int), 6, ⟨#[102]⟩) = [(4, (4, 6, ⟨#[102]⟩)), (2, (2, 7, ⟨#[99]⟩)), (0, (0, 7, ⟨#[97]⟩))] from rfl]
      refine WL_rd (Rd_move rfl) rfl rfl rfl ?_
      refine WL_rd (Rd_ext0 rfl) rfl rfl rfl ?_
      refine WL_rd (Rd_ext1 rfl) rfl rfl rfl ?_
      refine WL_rd (Rd_assign rfl) rfl rfl rfl ?_
      refine WL_rd (Rd_assign rfl) rfl rfl rfl ?_
      refine WL_end hK20 ?_
      refine WC_sr fun K21 hK21 => ?_
      refine WL_rd (Rd_move rfl) rfl rfl rfl ?_
      refine WL_ac (Ac_call cf28 rfl (hs := kS_drop (i := 2) (x := (0, (0, 7, ⟨#[97]⟩))) (hi := rfl) (ht := rfl))) rfl rfl rfl ?_
      rintro _ _ ⟨⟨⟩, rfl, hA⟩
      simp only [List.cons_append, List.nil_append] at hA
      replace hA := hA.symm
      subst hA
      rw [takeM_P]
      rw [show takeP kS_lt [(4, (4, 6, ⟨#[102]⟩)), (2, (2, 7, ⟨#[99]⟩)), (0, (0, 7, ⟨#[97]⟩))] 2 = [(4, (4, 6, ⟨#[102]⟩)), (2, (2, 7, ⟨#[99]⟩))] from rfl]
      refine WL_rd (Rd_move rfl) rfl rfl rfl ?_
      refine WL_rd (Rd_ext0 rfl) rfl rfl rfl ?_
      refine WL_rd (Rd_ext1 rfl) rfl rfl rfl ?_
      refine WL_rd (Rd_assign rfl) rfl rfl rfl ?_
      refine WL_rd (Rd_assign rfl) rfl rfl rfl ?_
      refine WL_end hK21 ?_
      refine WC_sr fun K22 hK22 => ?_
      refine WL_rd (Rd_move rfl) rfl rfl rfl ?_
      refine WL_ac (Ac_call cf28 rfl (hs := kS_drop_no (ht := by decide))) rfl rfl rfl ?_
      rintro _ _ ⟨⟨⟩, rfl, hA⟩
      simp only [List.cons_append, List.nil_append] at hA
      replace hA := hA.symm
      subst hA
      refine WL_rd (Rd_move rfl) rfl rfl rfl ?_
      refine WL_rd (Rd_ext0 rfl) rfl rfl rfl ?_
      refine WL_rd (Rd_ext1 rfl) rfl rfl rfl ?_
      refine WL_rd (Rd_assign rfl) rfl rfl rfl ?_
      refine WL_end hK22 ?_
      refine WC_seq fun K23 hK23 => ?_
      refine WC_sr fun K24 hK24 => ?_
      refine WL_rd (Rd_move rfl) rfl rfl rfl ?_
      refine WL_rd (Rd_isF (Rd_neqN (j := 4) rfl rfl)) rfl rfl rfl ?_
      refine WL_rd (Rd_move rfl) rfl rfl rfl ?_
      refine WL_rd (Rd_move rfl) rfl rfl rfl ?_
      refine WL_rd (Rd_neqN (i := 0) (j := 0) rfl rfl) rfl rfl rfl ?_
      refine WL_rd (Rd_pickF rfl rfl) rfl rfl rfl ?_
      refine WL_rd (Rd_move rfl) rfl rfl rfl ?_
      refine WL_rd (Rd_move rfl) rfl rfl rfl ?_
      refine WL_rd (Rd_isF (Rd_strne rfl rfl)) rfl rfl rfl ?_
      refine WL_rd (Rd_pickF rfl rfl) rfl rfl rfl ?_
      refine WL_rd (Rd_move rfl) rfl rfl rfl ?_
      refine WL_rd (Rd_move rfl) rfl rfl rfl ?_
      refine WL_rd (Rd_neqN (i := 0) (j := 0) rfl rfl) rfl rfl rfl ?_
      refine WL_rd (Rd_pickF rfl rfl) rfl rfl rfl ?_
      refine WL_rd (Rd_move rfl) rfl rfl rfl ?_
      refine WL_rd (Rd_move rfl) rfl rfl rfl ?_
      refine WL_rd (Rd_neqN (i := 181) (j := 181) rfl rfl) rfl rfl rfl ?_
      refine WL_rd (Rd_pickF rfl rfl) rfl rfl rfl ?_
      refine WL_end hK24 ?_
      refine WC_condF rfl ?_
      refine WC_skip ?_
      refine Ps_next hK23 ?_
      refine WC_sr fun K25 hK25 => ?_
      refine WL_rd (Rd_move rfl) rfl rfl rfl ?_
      refine WL_ac (Ac_call cf25 rfl (hs := kS_take (x := (4, (4, 6, ⟨#[102]⟩))) (hx0 := rfl))) rfl rfl rfl ?_
      rintro _ _ ⟨⟨⟩, rfl, hA⟩
      simp only [List.cons_append, List.nil_append] at hA
      replace hA := hA.symm
      subst hA
      rw [takeM_P]
      rw [show takeP kS_lt [(4, (4, 6, ⟨#[102]⟩)), (2, (2, 7, ⟨#[99]⟩))] 0 = [(2, (2, 7, ⟨#[99]⟩))] from rfl]
      refine WL_rd (Rd_move rfl) rfl rfl rfl ?_
      refine WL_rd (Rd_ext0 rfl) rfl rfl rfl ?_
      refine WL_rd (Rd_ext1 rfl) rfl rfl rfl ?_
      refine WL_ac (Ac_alloc zr62) rfl rfl rfl ?_
      rintro _ _ ⟨b17, rfl, rfl⟩
      refine WL_ac0 (Ac_store rfl rfl sz62 (h1 := by simp [Value.cells, Value.oneCell', kS_h_itf])) rfl rfl ?_
      rintro _ _ rfl
      refine WL_rd (Rd_assign rfl) rfl rfl rfl ?_
      refine WL_end hK25 ?_
      refine WC_sr fun K26 hK26 => ?_
      refine WL_rd (Rd_move rfl) rfl rfl rfl ?_
      refine WL_ac (Ac_call cf25 rfl (hs := kS_take (x := (2, (2, 7, ⟨#[99]⟩))) (hx0 := rfl))) rfl rfl rfl ?_
      rintro _ _ ⟨⟨⟩, rfl, hA⟩
      simp only [List.cons_append, List.nil_append] at hA
      replace hA := hA.symm
      subst hA
      rw [takeM_P]
      rw [show takeP kS_lt [(2, (2, 7, ⟨#[99]⟩))] 0 = [] from rfl]
      refine WL_rd (Rd_move rfl) rfl rfl rfl ?_
      refine WL_rd (Rd_ext0 rfl) rfl rfl rfl ?_
      refine WL_rd (Rd_ext1 rfl) rfl rfl rfl ?_
      refine WL_ac (Ac_alloc zr62) rfl rfl rfl ?_
      rintro _ _ ⟨b19, rfl, rfl⟩
      refine WL_ac0 (Ac_store rfl rfl sz62 (h1 := by simp [Value.cells, Value.oneCell', kS_h_itf])) rfl rfl ?_
      rintro _ _ rfl
      refine WL_rd (Rd_assign rfl) rfl rfl rfl ?_
      refine WL_end hK26 ?_
      refine WC_sr fun K27 hK27 => ?_
      refine WL_rd (Rd_move rfl) rfl rfl rfl ?_
      refine WL_ac (Ac_call cf25 rfl (hs := kS_take0)) rfl rfl rfl ?_
      rintro _ _ ⟨⟨⟩, rfl, hA⟩
      simp only [List.cons_append, List.nil_append] at hA
      replace hA := hA.symm
      subst hA
      refine WL_rd (Rd_move rfl) rfl rfl rfl ?_
      refine WL_rd (Rd_ext0 rfl) rfl rfl rfl ?_
      refine WL_rd (Rd_ext1 rfl) rfl rfl rfl ?_
      refine WL_ac (Ac_alloc zr62) rfl rfl rfl ?_
      rintro _ _ ⟨b21, rfl, rfl⟩
      refine WL_ac0 (Ac_store rfl rfl sz62 (h1 := by simp [Value.cells, Value.oneCell', kS_h_itf])) rfl rfl ?_
      rintro _ _ rfl
      refine WL_rd (Rd_assign rfl) rfl rfl rfl ?_
      refine WL_end hK27 ?_
      refine WC_sr fun K28 hK28 => ?_
      refine WL_rd (Rd_move rfl) rfl rfl rfl ?_
      refine WL_ac (Ac_call cf26 rfl (hs := kS_until_no (h0 := by decide))) rfl rfl rfl ?_
      rintro _ _ ⟨⟨a160, cap160⟩, rfl, hA⟩
      simp only [List.cons_append, List.nil_append] at hA
      replace hA := hA.symm
      subst hA
      refine WL_rd (Rd_move rfl) rfl rfl rfl ?_
      refine WL_rd (Rd_ext0 rfl) rfl rfl rfl ?_
      refine WL_rd (Rd_ext1 rfl) rfl rfl rfl ?_
      refine WL_rd (Rd_assign rfl) rfl rfl rfl ?_
      refine WL_end hK28 ?_
      refine WC_sr fun K29 hK29 => ?_
      refine WL_rd (Rd_move rfl) rfl rfl rfl ?_
      refine WL_ac (Ac_call cf26 rfl (hs := kS_until (h0 := by decide))) rfl rfl rfl ?_
      rintro _ _ ⟨⟨oa2, oc2⟩, rfl, hA⟩
      simp only [List.cons_append, List.nil_append] at hA
      replace hA := hA.symm
      subst hA
      rw [cn_until0]
      simp only [List.map_cons, List.map_nil, List.length_cons, List.length_nil]
      refine WL_rd (Rd_move rfl) rfl rfl rfl ?_
      refine WL_rd (Rd_ext0 rfl) rfl rfl rfl ?_
      refine WL_rd (Rd_ext1 rfl) rfl rfl rfl ?_
      refine WL_rd (Rd_assign rfl) rfl rfl rfl ?_
      refine WL_rd (Rd_assign rfl) rfl rfl rfl ?_
      refine WL_end hK29 ?_
      refine WC_sr fun K30 hK30 => ?_
      refine WL_ac (Ac_call cf23 rfl (hs := kS_new_bad (hb := by decide))) rfl rfl rfl ?_
      rintro _ _ ⟨⟨⟩, rfl, hA⟩
      simp only [List.cons_append, List.nil_append] at hA
      replace hA := hA.symm
      subst hA
      refine WL_rd (Rd_move rfl) rfl rfl rfl ?_
      refine WL_rd (Rd_ext0 rfl) rfl rfl rfl ?_
      refine WL_rd (Rd_ext1 rfl) rfl rfl rfl ?_
      refine WL_rd (Rd_assign rfl) rfl rfl rfl ?_
      refine WL_end hK30 ?_
      refine WC_sr fun K31 hK31 => ?_
      refine WL_ac (Ac_call cf23 rfl (hs := kS_new_bad (hb := by decide))) rfl rfl rfl ?_
      rintro _ _ ⟨⟨⟩, rfl, hA⟩
      simp only [List.cons_append, List.nil_append] at hA
      replace hA := hA.symm
      subst hA
      refine WL_rd (Rd_move rfl) rfl rfl rfl ?_
      refine WL_rd (Rd_ext0 rfl) rfl rfl rfl ?_
      refine WL_rd (Rd_ext1 rfl) rfl rfl rfl ?_
      refine WL_rd (Rd_assign rfl) rfl rfl rfl ?_
      refine WL_rd (Rd_assign rfl) rfl rfl rfl ?_
      refine WL_end hK31 ?_
      refine WC_sr fun K32 hK32 => ?_
      refine WL_rd (Rd_fieldAddr rfl fo62_2) rfl rfl rfl ?_
      refine WL_rd (Rd_load rfl tk9) rfl rfl rfl ?_
      refine WL_rd (Rd_isT (Rd_streq rfl rfl)) rfl rfl rfl ?_
      refine WL_rd (Rd_move rfl) rfl rfl rfl ?_
      refine WL_rd (Rd_fieldAddr rfl fo62_2) rfl rfl rfl ?_
      refine WL_rd (Rd_load rfl tk9) rfl rfl rfl ?_
      refine WL_rd (Rd_isT (Rd_streq rfl rfl)) rfl rfl rfl ?_
      refine WL_rd (Rd_pickT rfl rfl) rfl rfl rfl ?_
      refine WL_rd (Rd_move rfl) rfl rfl rfl ?_
      refine WL_rd (Rd_fieldAddr rfl fo62_0) rfl rfl rfl ?_
      refine WL_rd (Rd_load rfl tk3) rfl rfl rfl ?_
      first | refine WL_rd (Rd_isT (Rd_eqlN (j := 2) rfl rfl)) rfl rfl rfl ?_ | refine WL_rd (Rd_isT (Rd_eql rfl rfl)) rfl rfl rfl ?_
      refine WL_rd (Rd_pickT rfl rfl) rfl rfl rfl ?_
      refine WL_rd (Rd_move rfl) rfl rfl rfl ?_
      refine WL_rd (Rd_move rfl) rfl rfl rfl ?_
      refine WL_rd (Rd_not rfl) rfl rfl rfl ?_
      refine WL_rd (Rd_pickT rfl rfl) rfl rfl rfl ?_
      refine WL_rd (Rd_move rfl) rfl rfl rfl ?_
      refine WL_rd (Rd_move rfl) rfl rfl rfl ?_
      refine WL_rd (Rd_isT (Rd_eql rfl rfl)) rfl rfl rfl ?_
      refine WL_rd (Rd_pickT rfl rfl) rfl rfl rfl ?_
      refine WL_rd (Rd_move rfl) rfl rfl rfl ?_
      refine WL_rd (Rd_move rfl) rfl rfl rfl ?_
      refine WL_rd (Rd_eqlN (i := 0) (j := 0) rfl rfl) rfl rfl rfl ?_
      refine WL_rd (Rd_pickT rfl rfl) rfl rfl rfl ?_
      refine WL_rd (Rd_move rfl) rfl rfl rfl ?_
      refine WL_rd (Rd_move rfl) rfl rfl rfl ?_
      refine WL_rd (Rd_len rfl rfl ud65) rfl rfl rfl ?_
      refine WL_rd (Rd_isT (Rd_eqlN (j := 0) rfl rfl)) rfl rfl rfl ?_
      refine WL_rd (Rd_pickT rfl rfl) rfl rfl rfl ?_
      refine WL_rd (Rd_move rfl) rfl rfl rfl ?_
      refine WL_rd (Rd_move rfl) rfl rfl rfl ?_
      refine WL_ac (Ac_call cf27 rfl (hs := kS_now)) rfl rfl rfl ?_
      rintro _ _ ⟨⟨⟩, rfl, hA⟩
      simp only [List.cons_append, List.nil_append] at hA
      replace hA := hA.symm
      subst hA
      refine WL_rd (Rd_isT (Rd_eql rfl rfl)) rfl rfl rfl ?_
      refine WL_rd (Rd_pickT rfl rfl) rfl rfl rfl ?_
      refine WL_rd (Rd_move rfl) rfl rfl rfl ?_
      refine WL_rd (Rd_move rfl) rfl rfl rfl ?_
      refine WL_rd (Rd_eqlN (i := 2) (j := 2) rfl rfl) rfl rfl rfl ?_
      refine WL_rd (Rd_pickT rfl rfl) rfl rfl rfl ?_
      refine WL_rd (Rd_move rfl) rfl rfl rfl ?_
      refine WL_rd (Rd_move rfl) rfl rfl rfl ?_
      refine WL_rd (Rd_eqlN (i := 2) (j := 2) rfl rfl) rfl rfl rfl ?_
      refine WL_rd (Rd_pickT rfl rfl) rfl rfl rfl ?_
      refine WL_rd (Rd_assign rfl) rfl rfl rfl ?_
      refine WL_end hK32 ?_
      refine WC_ret ?_
      first | exact hret.go () (Rs1 rfl rfl) | exact hret.goE () (Rs1 rfl rfl) (by decide)
end Go.Proofs.Ytcemkpiopijbmaa
