/-
  Contracts of functions that the claim reaches, or the row over them: the law returns true for every input of bulk at most 1048576. (Conditions: none beyond the statement.)
-/
import Derived.Test.YtcemkpiopijbmaaCqU
set_option linter.all false
namespace Go.Proofs.Ytcemkpiopijbmaa
open Go.RowKit Go.SL Go.HpM
set_option maxHeartbeats 1000000
set_option maxRecDepth 20000
set_option linter.all false
theorem cf16 : cfn Try.prog 16 = true := by kernel_rfl
theorem cf17 : cfn Try.prog 17 = true := by kernel_rfl
theorem cf18 : cfn Try.prog 18 = true := by kernel_rfl
theorem cf19 : cfn Try.prog 19 = true := by kernel_rfl
theorem cf22 : cfn Try.prog 22 = true := by kernel_rfl
theorem fls51 : fls Try.prog 51 = some [(0, 3), (1, 3), (2, 45)] := by kernel_rfl
theorem ikd3_45 : ikd Try.prog 3 45 = some .u32 := by kernel_rfl
theorem tk45 : tk Try.prog 45 = some none := by kernel_rfl
theorem ud45 : Try.prog.underlying 45 = some (.int .u32) := by kernel_rfl
theorem Leaps_ct {X : Asn} {v : Value} {l : List Int} {ao : Option Addr} {cap : Nat} {u : Int} (hS : Sv [X] v 1 (eInt .u16) l ao cap) (hn : l.length ≤ 1048576) (hu : 0 ≤ u ∧ u < 65536) (hl : ∀ t ∈ l, 0 ≤ t ∧ t < 65536) : Ct Try.prog 4 [v, .int .u16 u] [X] (fun _ : Unit => .bool true) (fun _ => [X]) := by
  refine Ct_body (n := 148) Try.func4 rfl rfl rfl fun F w0 Q hret hnorm hp => ?_
  change WC _ _ _ _ _ _ (_ :: F)
  refine WC_sr fun K1 hK1 => ?_
  refine WL_rd (Rd_assign rfl) rfl rfl rfl ?_
  refine WL_end hK1 ?_
  refine WC_sr fun K2 hK2 => ?_
  refine WL_ac (Ac_call cf16 rfl (hs := kU_new)) rfl rfl rfl ?_
  rintro _ _ ⟨⟨ca, ha⟩, rfl, hA⟩
  simp only [List.cons_append, List.nil_append] at hA
  subst hA
  refine WL_rd (Rd_move rfl) rfl rfl rfl ?_
  refine WL_rd (Rd_ext0 rfl) rfl rfl rfl ?_
  refine WL_rd (Rd_ext1 rfl) rfl rfl rfl ?_
  refine WL_rd (Rd_assign rfl) rfl rfl rfl ?_
  refine WL_rd (Rd_assign rfl) rfl rfl rfl ?_
  refine WL_end hK2 ?_
  refine WC_sr fun K3 hK3 => ?_
  refine WL_ac (Ac_call cf16 rfl (hs := kU_new)) rfl rfl rfl ?_
  rintro _ _ ⟨⟨cb, hb⟩, rfl, hA⟩
  simp only [List.cons_append, List.nil_append] at hA
  subst hA
  refine WL_rd (Rd_move rfl) rfl rfl rfl ?_
  refine WL_rd (Rd_ext0 rfl) rfl rfl rfl ?_
  refine WL_rd (Rd_ext1 rfl) rfl rfl rfl ?_
  refine WL_rd (Rd_assign rfl) rfl rfl rfl ?_
  refine WL_rd (Rd_assign rfl) rfl rfl rfl ?_
  refine WL_end hK3 ?_
  refine WC_seq fun K4 hK4 => ?_
  refine WC_sr fun K5 hK5 => ?_
  refine WL_rd (Rd_move rfl) rfl rfl rfl ?_
  refine WL_rd (Rd_peq rfl rfl ud42) rfl rfl rfl ?_
  refine WL_rd (Rd_move rfl) rfl rfl rfl ?_
  refine WL_rd (Rd_move rfl) rfl rfl rfl ?_
  refine WL_rd (Rd_peq rfl rfl ud42) rfl rfl rfl ?_
  refine WL_rd (Rd_pickF rfl rfl) rfl rfl rfl ?_
  refine WL_rd (Rd_move rfl) rfl rfl rfl ?_
  refine WL_rd (Rd_move rfl) rfl rfl rfl ?_
  refine WL_rd (Rd_neqN (i := 0) (j := 0) rfl rfl) rfl rfl rfl ?_
  refine WL_rd (Rd_pickF rfl rfl) rfl rfl rfl ?_
  refine WL_rd (Rd_move rfl) rfl rfl rfl ?_
  refine WL_rd (Rd_move rfl) rfl rfl rfl ?_
  refine WL_rd (Rd_neqN (i := 0) (j := 0) rfl rfl) rfl rfl rfl ?_
  refine WL_rd (Rd_pickF rfl rfl) rfl rfl rfl ?_
  refine WL_rd (Rd_move rfl) rfl rfl rfl ?_
  refine WL_ac (Ac_call cf10 rfl (hs := awake_ct)) rfl rfl rfl ?_
  rintro _ _ ⟨⟨⟩, rfl, hA⟩
  simp only [List.cons_append, List.nil_append] at hA
  subst hA
  refine WL_rd (Rd_not rfl) rfl rfl rfl ?_
  refine WL_rd (Rd_pickF rfl rfl) rfl rfl rfl ?_
  refine WL_end hK5 ?_
  refine WC_condF rfl ?_
  refine WC_skip ?_
  refine Ps_next hK4 ?_
  refine WC_seq fun K6 hK6 => ?_
  refine WC_sr fun K7 hK7 => ?_
  refine WL_rd (Rd_move rfl) rfl rfl rfl ?_
  refine WL_rd (Rd_len_sv rfl rfl ud23) rfl rfl rfl ?_
  refine WL_rd (Rd_move rfl) rfl rfl rfl ?_
  refine WL_end hK7 ?_
  refine WC_block ?_
  refine WC_loop (σ := (List (Nat × (Int × Int × Int))) × Nat) (fun ⟨rows', i'⟩ => [(0, v), (1, .int .u16 u), (5, .pointer (some ⟨ca, 0, none⟩)), (7, .pointer (some ⟨cb, 0, none⟩)), (46, v), (47, .int .i64 ((l.length : Nat) : Int)), (48, .int .i64 ((i' : Nat) : Int))]) (fun ⟨rows', i'⟩ => cl ca 96 [.int .i64 0, .int .i64 ((i' : Nat) : Int), .pointer (some ⟨ha, 0, none⟩)] :: kU_h_hpA (.func (.func 51) #[] ([] : List Value).toArray) ha rows' i' :: cl cb 96 [.int .i64 0, .int .i64 ((i' : Nat) : Int), .pointer (some ⟨hb, 0, none⟩)] :: kU_h_hpA (.func (.func 51) #[] ([] : List Value).toArray) hb rows' i' :: emp :: X :: F) (fun ⟨rows', i'⟩ => i' ≤ l.length ∧ rows'.length = i') (fun ⟨rows', i'⟩ => l.length - i') ⟨[], 0⟩ ?_ ?_ ?_ ?_
  · exact ⟨by omega, rfl⟩
  · exact (Wk.cons (by first | rfl | (simp only [List.length_append, List.length_cons, List.length_nil, Nat.zero_add]; rfl) | (simp; done)) (Wk.cons (by first | rfl | (simp only [List.length_append, List.length_cons, List.length_nil, Nat.zero_add]; rfl) | (simp; done)) (Wk.cons (by first | rfl | (simp only [List.length_append, List.length_cons, List.length_nil, Nat.zero_add]; rfl) | (simp; done)) (Wk.cons (by first | rfl | (simp only [List.length_append, List.length_cons, List.length_nil, Nat.zero_add]; rfl) | (simp; done)) (Wk.cons (by first | rfl | (simp only [List.length_append, List.length_cons, List.length_nil, Nat.zero_add]; rfl) | (simp; done)) (Wk.cons (by first | rfl | (simp only [List.length_append, List.length_cons, List.length_nil, Nat.zero_add]; rfl) | (simp; done)) (Wk.cons (by first | rfl | (simp only [List.length_append, List.length_cons, List.length_nil, Nat.zero_add]; rfl) | (simp; done)) Wk.nil)))))))
  · repeat (first | with_reducible exact Sub.refl | with_reducible exact Sub.nil | with_reducible refine Sub.cons (by repeat (first | with_reducible exact Ext.here | with_reducible apply Ext.there)) ?_ | with_reducible refine Sub.tail ?_)
  · rintro ⟨rows', i'⟩ ⟨hi, hlen⟩ K8 hK8
    dsimp only at *
    refine WC_sr fun K9 hK9 => ?_
    refine WL_rd (Rd_lssN rfl rfl) rfl rfl rfl ?_
    refine WL_end hK9 ?_
    refine WC_seq fun K10 hK10 => ?_
    refine WC_cond rfl (fun hc1 => ?_) (fun hc1 => ?_)
    · try simp only [decide_eq_true_eq, decide_eq_false_iff_not, Bool.not_eq_true', Bool.not_eq_false', Bool.not_eq_true, Bool.not_eq_false, Int.not_lt, Int.not_le, Nat.not_lt, Nat.not_le, Decidable.not_not, ne_eq] at hc1
      obtain ⟨t, ht⟩ : ∃ t, l[i']? = some t := ⟨_, List.getElem?_eq_getElem (by omega)⟩
      have htr := hl t (List.mem_of_getElem? ht)
      refine WC_skip ?_
      refine Ps_next hK10 ?_
      refine WC_seq fun K11 hK11 => ?_
      refine WC_block ?_
      refine WC_sr fun K12 hK12 => ?_
      refine WL_rd (Rd_move rfl) rfl rfl rfl ?_
      refine WL_rd (Rd_index_sv _ rfl rfl ud23 sz22) rfl rfl rfl ?_
      refine WL_rd (Rd_load_sv rfl tk22 (j := 0)) rfl rfl rfl ?_
      refine WL_rd (Rd_assign rfl) rfl rfl rfl ?_
      refine WL_rd (Rd_assign rfl) rfl rfl rfl ?_
      refine WL_end hK12 ?_
      refine WC_sr fun K13 hK13 => ?_
      refine WL_rd (Rd_move rfl) rfl rfl rfl ?_
      refine WL_rd (Rd_move rfl) rfl rfl rfl ?_
      refine WL_rd (Rd_convZ rfl ikd22_3) rfl rfl rfl ?_
      refine WL_rd (Rd_move rfl) rfl rfl rfl ?_
      refine WL_rd (Rd_conv rfl ikd3_45 (r := ((i' : Nat) : Int)) (by rw [IntKind.wrap_u32']; omega)) rfl rfl rfl ?_
      refine WL_ac (Ac_call cf17 rfl (hs := kU_set (v := ((i' : Nat) : Int)) (h0 := laterM_ok.2 (by omega)))) rfl rfl rfl ?_
      rintro _ _ ⟨⟨⟩, rfl, hA⟩
      simp only [List.cons_append, List.nil_append] at hA
      subst hA
      refine WL_end hK13 ?_
      refine WC_region ?_
      refine WL_rd (Rd_move rfl) rfl rfl rfl ?_
      refine WL_rd (Rd_move rfl) rfl rfl rfl ?_
      refine WL_rd (Rd_convZ rfl ikd22_3) rfl rfl rfl ?_
      refine WL_rd (Rd_move rfl) rfl rfl rfl ?_
      refine WL_rd (Rd_conv rfl ikd3_45 (r := ((i' : Nat) : Int)) (by rw [IntKind.wrap_u32']; omega)) rfl rfl rfl ?_
      refine WL_ac (Ac_call cf17 rfl (hs := kU_set (v := ((i' : Nat) : Int)) (h0 := laterM_ok.2 (by omega)))) rfl rfl rfl ?_
      rintro _ _ ⟨⟨⟩, rfl, hA⟩
      simp only [List.cons_append, List.nil_append] at hA
      subst hA
      refine WL_nil ?_
      refine Ps_next hK11 ?_
      refine WC_region ?_
      refine WL_rd (Rd_addN (j := 1) rfl rfl) rfl rfl rfl ?_
      refine WL_rd (Rd_move rfl) rfl rfl rfl ?_
      refine WL_nil ?_
      refine Ps_wk ((Wk.cons (by first | rfl | (simp only [List.length_append, List.length_cons, List.length_nil, Nat.zero_add]; rfl) | (simp; done)) (Wk.cons (by first | rfl | (simp only [List.length_append, List.length_cons, List.length_nil, Nat.zero_add]; rfl) | (simp; done)) (Wk.cons (by first | rfl | (simp only [List.length_append, List.length_cons, List.length_nil, Nat.zero_add]; rfl) | (simp; done)) (Wk.cons (by first | rfl | (simp only [List.length_append, List.length_cons, List.length_nil, Nat.zero_add]; rfl) | (simp; done)) (Wk.cons (by first | rfl | (simp only [List.length_append, List.length_cons, List.length_nil, Nat.zero_add]; rfl) | (simp; done)) (Wk.cons (by first | rfl | (simp only [List.length_append, List.length_cons, List.length_nil, Nat.zero_add]; rfl) | (simp; done)) (Wk.cons (by first | rfl | (simp only [List.length_append, List.length_cons, List.length_nil, Nat.zero_add]; rfl) | (simp; done)) Wk.nil)))))))) (by first | with_reducible exact Sub.refl | (dsimp only; repeat (first | with_reducible exact Sub.refl | with_reducible exact Sub.nil | with_reducible refine Sub.cons (by repeat (first | with_reducible exact Ext.here | with_reducible apply Ext.there)) ?_ | with_reducible refine Sub.tail ?_))) (hK8 ⟨(pushM (pl kU_lt) () rows' i' ((i' : Int), t, (i' : Int))).1, i' + 1⟩ (⟨by dsimp only; omega, by dsimp only; rw [(pushM_perm _ _ _ _ _).length_eq]; simp [hlen]⟩) (by dsimp only; omega))
    · try simp only [decide_eq_true_eq, decide_eq_false_iff_not, Bool.not_eq_true', Bool.not_eq_false', Bool.not_eq_true, Bool.not_eq_false, Int.not_lt, Int.not_le, Nat.not_lt, Nat.not_le, Decidable.not_not, ne_eq] at hc1
      refine WC_exit ?_
      refine Ps_next hK6 ?_
      refine WC_sr fun K14 hK14 => ?_
      refine WL_rd (Rd_move rfl) rfl rfl rfl ?_
      refine WL_rd (Rd_move rfl) rfl rfl rfl ?_
      refine WL_rd (Rd_convZ rfl ikd22_3) rfl rfl rfl ?_
      refine WL_ac (Ac_call cf18 rfl (hs := kU_until (h0 := laterM_ok.2 (by omega)))) rfl rfl rfl ?_
      rintro _ _ ⟨⟨oa, oc⟩, rfl, hA⟩
      simp only [List.cons_append, List.nil_append] at hA
      subst hA
      refine WL_rd (Rd_move rfl) rfl rfl rfl ?_
      refine WL_rd (Rd_ext0 rfl) rfl rfl rfl ?_
      refine WL_rd (Rd_ext1 rfl) rfl rfl rfl ?_
      refine WL_rd (Rd_assign rfl) rfl rfl rfl ?_
      refine WL_rd (Rd_assign rfl) rfl rfl rfl ?_
      refine WL_end hK14 ?_
      refine WC_seq fun K15 hK15 => ?_
      refine WC_sr fun K16 hK16 => ?_
      refine WL_rd (Rd_move rfl) rfl rfl rfl ?_
      refine WL_rd (Rd_neqN (i := 0) (j := 0) rfl rfl) rfl rfl rfl ?_
      refine WL_rd (Rd_move rfl) rfl rfl rfl ?_
      refine WL_rd (Rd_move rfl) rfl rfl rfl ?_
      refine WL_ac (Ac_call cf19 rfl (hs := kU_now)) rfl rfl rfl ?_
      rintro _ _ ⟨⟨⟩, rfl, hA⟩
      simp only [List.cons_append, List.nil_append] at hA
      subst hA
      refine WL_rd (Rd_move rfl) rfl rfl rfl ?_
      refine WL_rd (Rd_convZ rfl ikd22_3) rfl rfl rfl ?_
      refine WL_rd (Rd_isF (Rd_neq rfl rfl)) rfl rfl rfl ?_
      refine WL_rd (Rd_pickF rfl rfl) rfl rfl rfl ?_
      refine WL_end hK16 ?_
      refine WC_condF rfl ?_
      refine WC_skip ?_
      refine Ps_next hK15 ?_
      refine WC_seq fun K17 hK17 => ?_
      refine WC_sr fun K18 hK18 => ?_
      refine WL_rd (Rd_assign rfl) rfl rfl rfl ?_
      refine WL_end hK18 ?_
      refine WC_block ?_
      refine WC_loop (σ := (List (Nat × (Int × Int × Int))) × Nat × Int) (fun ⟨rb, i2, now⟩ => [(0, v), (1, .int .u16 u), (5, .pointer (some ⟨ca, 0, none⟩)), (7, .pointer (some ⟨cb, 0, none⟩)), (11, sl oa (kU_untM u rows').1.length oc), (13, .int .i64 ((i2 : Nat) : Int))]) (fun ⟨rb, i2, now⟩ => cl ca 96 [.int .i64 u, .int .i64 ((i' : Nat) : Int), .pointer (some ⟨ha, 0, none⟩)] :: kU_h_hpA (.func (.func 51) #[] ([] : List Value).toArray) ha (kU_untM u rows').2 i' :: cl cb 96 [.int .i64 now, .int .i64 ((i' : Nat) : Int), .pointer (some ⟨hb, 0, none⟩)] :: kU_h_hpA (.func (.func 51) #[] ([] : List Value).toArray) hb rb i' :: emp :: X :: arr oa oc 3 51 kU_eD ((kU_untM u rows').1.map (fun r => r.2)) :: F) (fun ⟨rb, i2, now⟩ => i2 ≤ (kU_untM u rows').1.length ∧ (kU_untM u rows').1.drop i2 = (kU_untM u rb).1 ∧ (kU_untM u rows').2 = (kU_untM u rb).2) (fun ⟨rb, i2, now⟩ => (kU_untM u rows').1.length - i2) ⟨rows', 0, 0⟩ ?_ ?_ ?_ ?_
      · exact ⟨by omega, rfl, rfl⟩
      · exact (Wk.cons (by first | rfl | (simp only [List.length_append, List.length_cons, List.length_nil, Nat.zero_add]; rfl) | (simp; done)) (Wk.cons (by first | rfl | (simp only [List.length_append, List.length_cons, List.length_nil, Nat.zero_add]; rfl) | (simp; done)) (Wk.cons (by first | rfl | (simp only [List.length_append, List.length_cons, List.length_nil, Nat.zero_add]; rfl) | (simp; done)) (Wk.cons (by first | rfl | (simp only [List.length_append, List.length_cons, List.length_nil, Nat.zero_add]; rfl) | (simp; done)) (Wk.cons (by first | rfl | (simp only [List.length_append, List.length_cons, List.length_nil, Nat.zero_add]; rfl) | (simp; done)) (Wk.cons (by first | rfl | (simp only [List.length_append, List.length_cons, List.length_nil, Nat.zero_add]; rfl) | (simp; done)) Wk.nil))))))
      · repeat (first | with_reducible exact Sub.refl | with_reducible exact Sub.nil | with_reducible refine Sub.cons (by repeat (first | with_reducible exact Ext.here | with_reducible apply Ext.there)) ?_ | with_reducible refine Sub.tail ?_)
      · rintro ⟨rb, i2, now⟩ ⟨hi2, hd, he⟩ K19 hK19
        dsimp only at *
        refine WC_seq fun K20 hK20 => ?_
        refine WC_sr fun K21 hK21 => ?_
        refine WL_rd (Rd_move rfl) rfl rfl rfl ?_
        refine WL_rd (Rd_move rfl) rfl rfl rfl ?_
        refine WL_rd (Rd_len rfl rfl ud47) rfl rfl rfl ?_
        refine WL_rd (Rd_lssN rfl rfl) rfl rfl rfl ?_
        refine WL_end hK21 ?_
        refine WC_cond rfl (fun hc3 => ?_) (fun hc3 => ?_)
        · try simp only [decide_eq_true_eq, decide_eq_false_iff_not, Bool.not_eq_true', Bool.not_eq_false', Bool.not_eq_true, Bool.not_eq_false, Int.not_lt, Int.not_le, Nat.not_lt, Nat.not_le, Decidable.not_not, ne_eq] at hc3
          refine WC_some (a := oa) (by repeat (first | with_reducible exact Has.here | with_reducible refine Has.there ?_)) (by rw [List.length_map]; omega) (fun gb hgb _ => ?_)
          subst hgb
          have hul0 := kU_untM_len (tick := u) _ rows' (Nat.le_refl _)
          have hq : ∃ x, rb[0]? = some x ∧ x.2.2.1 ≤ u := by
            cases hr0 : rb[0]? with
            | none => rw [kU_untM_stop (rows := rb) (by intro y hy; rw [hr0] at hy; cases hy)] at hd; have := congrArg List.length hd; simp at this; omega
            | some x => by_cases hle : x.2.2.1 ≤ u; · exact ⟨x, rfl, hle⟩
                        · rw [kU_untM_stop (rows := rb) (by intro y hy; rw [hr0] at hy; cases hy; omega)] at hd; have := congrArg List.length hd; simp at this; omega
          obtain ⟨x, hx0, hle⟩ := hq
          have hyi : ((kU_untM u rows').1.map (fun r => r.2))[i2]? = some x.2 := by
            have hd2 := hd; rw [kU_untM_go hx0 hle, List.drop_eq_getElem_cons hc3] at hd2; rw [List.getElem?_map, List.getElem?_eq_getElem hc3, (List.cons.inj hd2).1]; rfl
          refine WC_skip ?_
          refine Ps_next hK20 ?_
          refine WC_seq fun K22 hK22 => ?_
          refine WC_block ?_
          refine WC_sr fun K23 hK23 => ?_
          refine WL_rd (Rd_move rfl) rfl rfl rfl ?_
          refine WL_ac (Ac_call cf20 rfl (hs := kU_next (x := x))) rfl rfl rfl ?_
          rintro _ _ ⟨⟨⟩, rfl, hA⟩
          simp only [List.cons_append, List.nil_append] at hA
          subst hA
          refine WL_rd (Rd_move rfl) rfl rfl rfl ?_
          refine WL_rd (Rd_ext0 rfl) rfl rfl rfl ?_
          refine WL_rd (Rd_ext1 rfl) rfl rfl rfl ?_
          refine WL_rd (Rd_assign rfl) rfl rfl rfl ?_
          refine WL_rd (Rd_assign rfl) rfl rfl rfl ?_
          refine WL_end hK23 ?_
          refine WC_sr fun K24 hK24 => ?_
          refine WL_rd (Rd_move rfl) rfl rfl rfl ?_
          refine WL_ac (Ac_call cf21 rfl (hs := kU_take (x := x))) rfl rfl rfl ?_
          rintro _ _ ⟨⟨⟩, rfl, hA⟩
          simp only [List.cons_append, List.nil_append] at hA
          subst hA
          refine WL_rd (Rd_move rfl) rfl rfl rfl ?_
          refine WL_rd (Rd_ext0 rfl) rfl rfl rfl ?_
          refine WL_rd (Rd_ext1 rfl) rfl rfl rfl ?_
          refine WL_ac (Ac_alloc zr51) rfl rfl rfl ?_
          rintro _ _ ⟨b16, rfl, rfl⟩
          refine WL_ac0 (Ac_store rfl rfl sz51 (h1 := by simp [Value.cells, Value.oneCell', kU_h_itf])) rfl rfl ?_
          rintro _ _ rfl
          refine WL_rd (Rd_assign rfl) rfl rfl rfl ?_
          refine WL_end hK24 ?_
          refine WC_seq fun K25 hK25 => ?_
          refine WC_drawA mix (fun i => ([2, 2, 2, 2, 2, 2, 2, 2, 2, 2, 2, 2, 2, 2, 2, 2, 2, 2, 2, 2] : List Nat).getD i 0) ?_
          refine WJ_takeP 0 rfl (by kernel_rfl) (Rd_move rfl) rfl rfl rfl (hp _ _) ?_
          refine WJ_takeP 1 rfl (by kernel_rfl) (Rd_not rfl) rfl rfl rfl (hp _ _) ?_
          refine WJ_takeP 2 rfl (by kernel_rfl) (Rd_move rfl) rfl rfl rfl (hp _ _) ?_
          refine WJ_takeP 3 rfl (by kernel_rfl) (Rd_move rfl) rfl rfl rfl (hp _ _) ?_
          refine WJ_takeP 4 rfl (by kernel_rfl) (Rd_not rfl) rfl rfl rfl (hp _ _) ?_
          refine WJ_takeP 5 rfl (by kernel_rfl) (Rd_pickF rfl rfl) rfl rfl rfl (hp _ _) ?_
          refine WJ_takeP 6 rfl (by kernel_rfl) (Rd_move rfl) rfl rfl rfl (hp _ _) ?_
          refine WJ_takeP 7 rfl (by kernel_rfl) (Rd_move rfl) rfl rfl rfl (hp _ _) ?_
          refine WJ_takeP 8 rfl (by kernel_rfl) (Rd_move rfl) rfl rfl rfl (hp _ _) ?_
          refine WJ_takeP 9 rfl (by kernel_rfl) (Rd_convZ rfl ikd22_3) rfl rfl rfl (hp _ _) ?_
          refine WJ_takeP 10 rfl (by kernel_rfl) (Rd_isF (Rd_gtr rfl rfl)) rfl rfl rfl (hp _ _) ?_
          refine WJ_takeP 11 rfl (by kernel_rfl) (Rd_pickF rfl rfl) rfl rfl rfl (hp _ _) ?_
          refine WJ_takeP 12 rfl (by kernel_rfl) (Rd_move rfl) rfl rfl rfl (hp _ _) ?_
          refine WJ_tk 13 (Rd_loadg rfl tk51) hp ?_ rfl (by kernel_rfl) rfl rfl rfl
          refine WJ_takeP 14 rfl (by kernel_rfl) (Rd_move rfl) rfl rfl rfl (hp _ _) ?_
          refine WJ_takeP 15 rfl (by kernel_rfl) (Rd_move rfl) rfl rfl rfl (hp _ _) ?_
          refine WJ_takeP 16 rfl (by kernel_rfl) (Rd_index _ rfl rfl ud47 sz51) rfl rfl rfl (hp _ _) ?_
          refine WJ_tk 17 (Rd_loadg_arr rfl tk51) hp ?_ rfl (by kernel_rfl) rfl rfl rfl
          refine WJ_takeP 18 rfl (by kernel_rfl) (Rd_isF (Rd_neS rfl rfl fls51 (EqL.sc tk3 rfl rfl (Eqs_int ud3 _ _) (EqL.sc tk3 rfl rfl (Eqs_int ud3 _ _) (EqL.sc tk45 rfl rfl (Eqs_int ud45 _ _) EqL.nil))))) rfl rfl rfl (hp _ _) ?_
          refine WJ_takeP 19 rfl (by kernel_rfl) (Rd_pickF rfl rfl) rfl rfl rfl (hp _ _) ?_
          refine WJ_done (by kernel_rfl) ?_
          refine Ps_next hK25 ?_
          refine WC_condF rfl ?_
          refine WC_skip ?_
          refine Ps_next hK22 ?_
          refine WC_region ?_
          refine WL_rd (Rd_move rfl) rfl rfl rfl ?_
          refine WL_rd (Rd_addN (j := 1) rfl rfl) rfl rfl rfl ?_
          refine WL_rd (Rd_assign rfl) rfl rfl rfl ?_
          refine WL_nil ?_
          refine Ps_wk ((Wk.cons (by first | rfl | (simp only [List.length_append, List.length_cons, List.length_nil, Nat.zero_add]; rfl) | (simp; done)) (Wk.cons (by first | rfl | (simp only [List.length_append, List.length_cons, List.length_nil, Nat.zero_add]; rfl) | (simp; done)) (Wk.cons (by first | rfl | (simp only [List.length_append, List.length_cons, List.length_nil, Nat.zero_add]; rfl) | (simp; done)) (Wk.cons (by first | rfl | (simp only [List.length_append, List.length_cons, List.length_nil, Nat.zero_add]; rfl) | (simp; done)) (Wk.cons (by first | rfl | (simp only [List.length_append, List.length_cons, List.length_nil, Nat.zero_add]; rfl) | (simp; done)) (Wk.cons (by first | rfl | (simp only [List.length_append, List.length_cons, List.length_nil, Nat.zero_add]; rfl) | (simp; done)) Wk.nil))))))) (by first | with_reducible exact Sub.refl | (dsimp only; repeat (first | with_reducible exact Sub.refl | with_reducible exact Sub.nil | with_reducible refine Sub.cons (by repeat (first | with_reducible exact Ext.here | with_reducible apply Ext.there)) ?_ | with_reducible refine Sub.tail ?_))) (hK19 ⟨(takeM (pl kU_lt) () rb 0).1, i2 + 1, x.2.2.1⟩ (⟨by dsimp only; omega, by dsimp only; rw [kU_untM_go hx0 hle] at hd; rw [List.drop_eq_getElem_cons hc3] at hd; exact (List.cons.inj hd).2, by dsimp only; rw [he, kU_untM_go hx0 hle]⟩) (by dsimp only; omega))
        · try simp only [decide_eq_true_eq, decide_eq_false_iff_not, Bool.not_eq_true', Bool.not_eq_false', Bool.not_eq_true, Bool.not_eq_false, Int.not_lt, Int.not_le, Nat.not_lt, Nat.not_le, Decidable.not_not, ne_eq] at hc3
          have hst : (kU_untM u rb).1 = [] := by rw [← hd]; exact List.drop_eq_nil_of_le (by omega)
          have hsr : (kU_untM u rb).2 = rb ∧ ∀ x, rb[0]? = some x → u < x.2.2.1 := by
            cases hr0 : rb[0]? with
            | none => rw [kU_untM_stop (rows := rb) (by intro y hy; rw [hr0] at hy; cases hy)]; exact ⟨rfl, fun x hx => by cases hx⟩
            | some x => by_cases hle : x.2.2.1 ≤ u; · rw [kU_untM_go hr0 hle] at hst; cases hst
                        · rw [kU_untM_stop (rows := rb) (by intro y hy; rw [hr0] at hy; cases hy; omega)]; exact ⟨rfl, fun y hy => by cases hy; omega⟩
          have hul := kU_untM_len (tick := u) _ rows' (Nat.le_refl _)
          have hbl : (kU_untM u rows').2.length = rb.length := by rw [he, hsr.1]
          refine WC_exit ?_
          refine Ps_next hK17 ?_
          refine WC_sr fun K26 hK26 => ?_
          refine WL_rd (Rd_move rfl) rfl rfl rfl ?_
          refine WL_ac (Ac_call cf20 rfl (hs := kU_next_)) rfl rfl rfl ?_
          rintro _ _ ⟨⟨⟩, rfl, hA⟩
          simp only [List.cons_append, List.nil_append] at hA
          subst hA
          refine WL_rd (Rd_move rfl) rfl rfl rfl ?_
          refine WL_rd (Rd_ext0 rfl) rfl rfl rfl ?_
          refine WL_rd (Rd_ext1 rfl) rfl rfl rfl ?_
          refine WL_rd (Rd_assign rfl) rfl rfl rfl ?_
          refine WL_rd (Rd_assign rfl) rfl rfl rfl ?_
          refine WL_end hK26 ?_
          refine WC_sr fun K27 hK27 => ?_
          refine WL_rd (Rd_move rfl) rfl rfl rfl ?_
          refine WL_rd (Rd_not rfl) rfl rfl rfl ?_
          refine WL_rd (Rd_move rfl) rfl rfl rfl ?_
          refine WL_bool 125 rfl (fun hg28 => ?_) (fun hg28 => ?_)
          · try simp only [decide_eq_true_eq, decide_eq_false_iff_not, Bool.not_eq_true', Bool.not_eq_false', Bool.not_eq_true, Bool.not_eq_false, Int.not_lt, Int.not_le, Nat.not_lt, Nat.not_le, Decidable.not_not, ne_eq] at hg28
            refine WL_skip rfl rfl rfl ?_
            refine WL_skip rfl rfl rfl ?_
            refine WL_skip rfl rfl rfl ?_
            refine WL_skip rfl rfl rfl ?_
            refine WL_rd (Rd_pickT rfl rfl) rfl rfl rfl ?_
            refine WL_rd (Rd_move rfl) rfl rfl rfl ?_
            refine WL_rd (Rd_move rfl) rfl rfl rfl ?_
            refine WL_ac (Ac_call cf22 rfl (hs := kU_len)) rfl rfl rfl ?_
            rintro _ _ ⟨⟨⟩, rfl, hA⟩
            simp only [List.cons_append, List.nil_append] at hA
            subst hA
            refine WL_rd (Rd_move rfl) rfl rfl rfl ?_
            refine WL_ac (Ac_call cf22 rfl (hs := kU_len)) rfl rfl rfl ?_
            rintro _ _ ⟨⟨⟩, rfl, hA⟩
            simp only [List.cons_append, List.nil_append] at hA
            subst hA
            refine WL_rd (Rd_isT (Rd_eqlN rfl rfl)) rfl rfl rfl ?_
            refine WL_rd (Rd_pickT rfl rfl) rfl rfl rfl ?_
            refine WL_rd (Rd_move rfl) rfl rfl rfl ?_
            refine WL_rd (Rd_move rfl) rfl rfl rfl ?_
            refine WL_ac (Ac_call cf22 rfl (hs := kU_len)) rfl rfl rfl ?_
            rintro _ _ ⟨⟨⟩, rfl, hA⟩
            simp only [List.cons_append, List.nil_append] at hA
            subst hA
            refine WL_rd (Rd_move rfl) rfl rfl rfl ?_
            refine WL_rd (Rd_len_sv rfl rfl ud23) rfl rfl rfl ?_
            refine WL_rd (Rd_move rfl) rfl rfl rfl ?_
            refine WL_rd (Rd_len rfl rfl ud47) rfl rfl rfl ?_
            refine WL_rd (Rd_subN rfl rfl) rfl rfl rfl ?_
            refine WL_rd (Rd_isT (Rd_eqlN rfl rfl)) rfl rfl rfl ?_
            refine WL_rd (Rd_pickT rfl rfl) rfl rfl rfl ?_
            refine WL_rd (Rd_assign rfl) rfl rfl rfl ?_
            refine WL_end hK27 ?_
            refine WC_ret ?_
            exact hret.go () (Rs1 rfl rfl)
          · try simp only [decide_eq_true_eq, decide_eq_false_iff_not, Bool.not_eq_true', Bool.not_eq_false', Bool.not_eq_true, Bool.not_eq_false, Int.not_lt, Int.not_le, Nat.not_lt, Nat.not_le, Decidable.not_not, ne_eq] at hg28
            have hgt : u < kU_nxT rb := by cases rb with | nil => simp [kU_nxB] at hg28 | cons y r => exact hsr.2 y rfl
            refine WL_rd (Rd_move rfl) rfl rfl rfl ?_
            refine WL_rd (Rd_move rfl) rfl rfl rfl ?_
            refine WL_rd (Rd_convZ rfl ikd22_3) rfl rfl rfl ?_
            refine WL_rd (Rd_isT (Rd_gtr rfl rfl)) rfl rfl rfl ?_
            refine WL_rd (Rd_pickF rfl rfl) rfl rfl rfl ?_
            refine WL_rd (Rd_move rfl) rfl rfl rfl ?_
            refine WL_rd (Rd_move rfl) rfl rfl rfl ?_
            refine WL_ac (Ac_call cf22 rfl (hs := kU_len)) rfl rfl rfl ?_
            rintro _ _ ⟨⟨⟩, rfl, hA⟩
            simp only [List.cons_append, List.nil_append] at hA
            subst hA
            refine WL_rd (Rd_move rfl) rfl rfl rfl ?_
            refine WL_ac (Ac_call cf22 rfl (hs := kU_len)) rfl rfl rfl ?_
            rintro _ _ ⟨⟨⟩, rfl, hA⟩
            simp only [List.cons_append, List.nil_append] at hA
            subst hA
            refine WL_rd (Rd_isT (Rd_eqlN rfl rfl)) rfl rfl rfl ?_
            refine WL_rd (Rd_pickT rfl rfl) rfl rfl rfl ?_
            refine WL_rd (Rd_move rfl) rfl rfl rfl ?_
            refine WL_rd (Rd_move rfl) rfl rfl rfl ?_
            refine WL_ac (Ac_call cf22 rfl (hs := kU_len)) rfl rfl rfl ?_
            rintro _ _ ⟨⟨⟩, rfl, hA⟩
            simp only [List.cons_append, List.nil_append] at hA
            subst hA
            refine WL_rd (Rd_move rfl) rfl rfl rfl ?_
            refine WL_rd (Rd_len_sv rfl rfl ud23) rfl rfl rfl ?_
            refine WL_rd (Rd_move rfl) rfl rfl rfl ?_
            refine WL_rd (Rd_len rfl rfl ud47) rfl rfl rfl ?_
            refine WL_rd (Rd_subN rfl rfl) rfl rfl rfl ?_
            refine WL_rd (Rd_isT (Rd_eqlN rfl rfl)) rfl rfl rfl ?_
            refine WL_rd (Rd_pickT rfl rfl) rfl rfl rfl ?_
            refine WL_rd (Rd_assign rfl) rfl rfl rfl ?_
            refine WL_end hK27 ?_
            refine WC_ret ?_
            exact hret.go () (Rs1 rfl rfl)
end Go.Proofs.Ytcemkpiopijbmaa
