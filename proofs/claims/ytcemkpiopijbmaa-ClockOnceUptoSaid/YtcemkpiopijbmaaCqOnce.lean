/-
  Contracts of functions that the claim reaches, or the row over them: the law returns true for every input of bulk at most 1048576. (Conditions: none beyond the statement.)
-/
import Derived.Test.YtcemkpiopijbmaaCqP
set_option linter.all false
namespace Go.Proofs.Ytcemkpiopijbmaa
open Go.RowKit Go.SL Go.HpM
set_option maxHeartbeats 1000000
set_option maxRecDepth 20000
set_option linter.all false
theorem cf9 : cfn Try.prog 9 = true := by kernel_rfl
theorem cf10 : cfn Try.prog 10 = true := by kernel_rfl
theorem cf11 : cfn Try.prog 11 = true := by kernel_rfl
theorem cf12 : cfn Try.prog 12 = true := by kernel_rfl
theorem cf13 : cfn Try.prog 13 = true := by kernel_rfl
theorem cf14 : cfn Try.prog 14 = true := by kernel_rfl
theorem cf15 : cfn Try.prog 15 = true := by kernel_rfl
theorem el4 : el Try.prog 4 = some (1, 1) := by kernel_rfl
theorem fo29_0 : fo Try.prog 29 0 = some (0, 3) := by kernel_rfl
theorem fo29_1 : fo Try.prog 29 1 = some (1, 3) := by kernel_rfl
theorem fo35_0 : fo Try.prog 35 0 = some (0, 3) := by kernel_rfl
theorem fo35_2 : fo Try.prog 35 2 = some (2, 29) := by kernel_rfl
theorem ikd22_3 : ikd Try.prog 22 3 = some .i64 := by kernel_rfl
theorem pls29 : pls Try.prog 29 = some ([.int .i64 0, .int .i64 0], [(0, 1), (1, 1)]) := by kernel_rfl
theorem sz4 : sz Try.prog 4 = some 1 := by kernel_rfl
theorem sz22 : sz Try.prog 22 = some 1 := by kernel_rfl
theorem tk4 : tk Try.prog 4 = some none := by kernel_rfl
theorem tk22 : tk Try.prog 22 = some none := by kernel_rfl
theorem ud23 : Try.prog.underlying 23 = some (.slice 22) := by kernel_rfl
theorem ud36 : Try.prog.underlying 36 = some (.slice 4) := by kernel_rfl
theorem zr4 : zr Try.prog 4 = some [.bool false] := by kernel_rfl
/-- what a row of the clock is -/
def okR (l : List Int) (bg : Int) (r : Nat × (Int × Int × (Int × Int))) : Prop := r.2.1 = (r.1 : Int) ∧ bg ≤ r.2.2.1 ∧ r.2.2.2.2 = r.2.2.1 ∧ ∃ k : Nat, r.2.2.2.1 = (k : Int) ∧ l[k]? = some r.2.2.1
def injR (rows : List (Nat × (Int × Int × (Int × Int)))) : Prop := ∀ r ∈ rows, ∀ q ∈ rows, r.2.2.2.1 = q.2.2.2.1 → r.1 = q.1
def lastR (last : (Int × Int × (Int × Int))) (r : Nat × (Int × Int × (Int × Int))) : Prop := last.2.1 < r.2.2.1 ∨ (last.2.1 = r.2.2.1 ∧ last.1 < r.2.1)
theorem nextR {rows : List (Nat × (Int × Int × (Int × Int)))} {made : Nat} {x : Nat × (Int × Int × (Int × Int))} {l : List Int} {bg : Int} (hG : Gd rows made) (hH : Hp kP_lt rows) (hI : injR rows) (hx : rows[0]? = some x) (hn : ∀ r ∈ rows, okR l bg r) : ∀ r ∈ (takeM (pl kP_lt) () rows 0).1, r ∈ rows ∧ lastR x.2 r ∧ r.2.2.2.1 ≠ x.2.2.2.1 := by
  intro r hr
  have hp := takeM_perm (pl kP_lt) () hx
  have hm : r ∈ rows := hp.mem_iff.1 (List.mem_cons_of_mem _ hr)
  have hxm : x ∈ rows := List.mem_of_getElem? hx
  have hT := (hG.perm hp).1
  unfold Tk at hT
  rw [List.map_cons, List.nodup_cons] at hT
  have hne : r.1 ≠ x.1 := fun e => hT.1 (by rw [← e]; exact List.mem_map.2 ⟨r, hr, rfl⟩)
  refine ⟨hm, ?_, fun e => hne (hI r hm x hxm e)⟩
  have h := ah_false.1 (hH.top_mem kP_lt_od hx hm)
  unfold kP_lt at h
  simp only [decide_eq_false_iff_not, decide_eq_true_eq] at h
  have h1 := (hn r hm).1
  have h2 := (hn x hxm).1
  unfold lastR
  omega
theorem injR_take {rows : List (Nat × (Int × Int × (Int × Int)))} {x : Nat × (Int × Int × (Int × Int))} (hI : injR rows) (hx : rows[0]? = some x) : injR (takeM (pl kP_lt) () rows 0).1 := by
  have hp := takeM_perm (pl kP_lt) () hx
  exact fun r hr q hq => hI r (hp.mem_iff.1 (List.mem_cons_of_mem _ hr)) q (hp.mem_iff.1 (List.mem_cons_of_mem _ hq))

theorem Once_ct {X : Asn} {v : Value} {l : List Int} {ao : Option Addr} {cap : Nat} {bg : Int} (hS : Sv [X] v 1 (eInt .u16) l ao cap) (hn : l.length ≤ 1048576) (hbg : 0 ≤ bg ∧ bg < 65536) (hl : ∀ t ∈ l, 0 ≤ t ∧ t < 65536) : Ct Try.prog 3 [.int .u16 bg, v] [X] (fun _ : Unit => .bool true) (fun _ => [X]) := by
  refine Ct_body (n := 194) Try.func3 rfl rfl rfl fun F w0 Q hret hnorm hp => ?_
  change WC _ _ _ _ _ _ (_ :: F)
  refine WC_sr fun K1 hK1 => ?_
  refine WL_rd (Rd_assign rfl) rfl rfl rfl ?_
  refine WL_end hK1 ?_
  refine WC_sr fun K2 hK2 => ?_
  refine WL_rd (Rd_move rfl) rfl rfl rfl ?_
  refine WL_rd (Rd_convZ rfl ikd22_3) rfl rfl rfl ?_
  refine WL_ac (Ac_call cf9 rfl (hs := kP_new)) rfl rfl rfl ?_
  rintro _ _ ⟨⟨c, hb⟩, rfl, hA⟩
  simp only [List.cons_append, List.nil_append] at hA
  subst hA
  refine WL_rd (Rd_move rfl) rfl rfl rfl ?_
  refine WL_rd (Rd_ext0 rfl) rfl rfl rfl ?_
  refine WL_rd (Rd_ext1 rfl) rfl rfl rfl ?_
  refine WL_rd (Rd_assign rfl) rfl rfl rfl ?_
  refine WL_rd (Rd_assign rfl) rfl rfl rfl ?_
  refine WL_end hK2 ?_
  refine WC_seq fun K3 hK3 => ?_
  refine WC_sr fun K4 hK4 => ?_
  refine WL_rd (Rd_move rfl) rfl rfl rfl ?_
  refine WL_rd (Rd_peq rfl rfl ud24) rfl rfl rfl ?_
  refine WL_rd (Rd_move rfl) rfl rfl rfl ?_
  refine WL_rd (Rd_move rfl) rfl rfl rfl ?_
  refine WL_rd (Rd_neqN (i := 0) (j := 0) rfl rfl) rfl rfl rfl ?_
  refine WL_rd (Rd_pickF rfl rfl) rfl rfl rfl ?_
  refine WL_rd (Rd_move rfl) rfl rfl rfl ?_
  refine WL_ac (Ac_call cf10 rfl (hs := awake_ct)) rfl rfl rfl ?_
  rintro _ _ ⟨⟨⟩, rfl, hA⟩
  simp only [List.cons_append, List.nil_append] at hA
  subst hA
  refine WL_rd (Rd_not rfl) rfl rfl rfl ?_
  refine WL_rd (Rd_pickF rfl rfl) rfl rfl rfl ?_
  refine WL_end hK4 ?_
  refine WC_condF rfl ?_
  refine WC_skip ?_
  refine Ps_next hK3 ?_
  refine WC_sr fun K5 hK5 => ?_
  refine WL_rd (Rd_assign rfl) rfl rfl rfl ?_
  refine WL_end hK5 ?_
  refine WC_seq fun K6 hK6 => ?_
  refine WC_sr fun K7 hK7 => ?_
  refine WL_rd (Rd_move rfl) rfl rfl rfl ?_
  refine WL_rd (Rd_len_sv rfl rfl ud23) rfl rfl rfl ?_
  refine WL_rd (Rd_move rfl) rfl rfl rfl ?_
  refine WL_end hK7 ?_
  refine WC_block ?_
  refine WC_loop (σ := (List (Nat × (Int × Int × (Int × Int)))) × Nat × Nat) (fun ⟨rows', set, i'⟩ => [(0, .int .u16 bg), (1, v), (5, .pointer (some ⟨c, 0, none⟩)), (7, .int .i64 ((set : Nat) : Int)), (38, v), (39, .int .i64 ((l.length : Nat) : Int)), (40, .int .i64 ((i' : Nat) : Int))]) (fun ⟨rows', set, i'⟩ => cl c 109 [.int .i64 bg, .int .i64 ((set : Nat) : Int), .pointer (some ⟨hb, 0, none⟩)] :: kP_h_hpA (.func (.func 42) #[] ([] : List Value).toArray) hb rows' set :: emp :: X :: F) (fun ⟨rows', set, i'⟩ => i' ≤ l.length ∧ rows'.length = set ∧ set ≤ i' ∧ Hp kP_lt rows' ∧ injR rows' ∧ (∀ r ∈ rows', okR l bg r ∧ r.2.2.2.1 < (i' : Int))) (fun ⟨rows', set, i'⟩ => l.length - i') ⟨[], 0, 0⟩ ?_ ?_ ?_ ?_
  · exact ⟨by omega, rfl, by omega, Hp_nil, fun r hr => by simp at hr, by simp⟩
  · exact (Wk.cons (by first | rfl | (simp only [List.length_append, List.length_cons, List.length_nil, Nat.zero_add]; rfl) | (simp; done)) (Wk.cons (by first | rfl | (simp only [List.length_append, List.length_cons, List.length_nil, Nat.zero_add]; rfl) | (simp; done)) (Wk.cons (by first | rfl | (simp only [List.length_append, List.length_cons, List.length_nil, Nat.zero_add]; rfl) | (simp; done)) (Wk.cons (by first | rfl | (simp only [List.length_append, List.length_cons, List.length_nil, Nat.zero_add]; rfl) | (simp; done)) (Wk.cons (by first | rfl | (simp only [List.length_append, List.length_cons, List.length_nil, Nat.zero_add]; rfl) | (simp; done)) (Wk.cons (by first | rfl | (simp only [List.length_append, List.length_cons, List.length_nil, Nat.zero_add]; rfl) | (simp; done)) (Wk.cons (by first | rfl | (simp only [List.length_append, List.length_cons, List.length_nil, Nat.zero_add]; rfl) | (simp; done)) Wk.nil)))))))
  · repeat (first | with_reducible exact Sub.refl | with_reducible exact Sub.nil | with_reducible refine Sub.cons (by repeat (first | with_reducible exact Ext.here | with_reducible apply Ext.there)) ?_ | with_reducible refine Sub.tail ?_)
  · rintro ⟨rows', set, i'⟩ ⟨hi, hlen, hsi, hH, hI, hr⟩ K8 hK8
    dsimp only at *
    refine WC_sr fun K9 hK9 => ?_
    refine WL_rd (Rd_lssN rfl rfl) rfl rfl rfl ?_
    refine WL_end hK9 ?_
    refine WC_seq fun K10 hK10 => ?_
    refine WC_cond rfl (fun hc1 => ?_) (fun hc1 => ?_)
    · try simp only [decide_eq_true_eq, decide_eq_false_iff_not, Bool.not_eq_true', Bool.not_eq_false', Bool.not_eq_true, Bool.not_eq_false, Int.not_lt, Int.not_le, Nat.not_lt, Nat.not_le, Decidable.not_not, ne_eq] at hc1
      obtain ⟨t, ht⟩ : ∃ t, l[i']? = some t := ⟨_, List.getElem?_eq_getElem (by omega)⟩
      have htr := hl t (List.mem_of_getElem? ht)
      refine WC_skip ?_
      refine Ps_next hK10 ?_
      refine WC_seq fun K11 hK11 => ?_
      refine WC_block ?_
      refine WC_sr fun K12 hK12 => ?_
      refine WL_rd (Rd_move rfl) rfl rfl rfl ?_
      refine WL_rd (Rd_index_sv _ rfl rfl ud23 sz22) rfl rfl rfl ?_
      refine WL_rd (Rd_load_sv rfl tk22 (j := 0)) rfl rfl rfl ?_
      refine WL_rd (Rd_assign rfl) rfl rfl rfl ?_
      refine WL_rd (Rd_assign rfl) rfl rfl rfl ?_
      refine WL_end hK12 ?_
      refine WC_sr fun K13 hK13 => ?_
      refine WL_rd (Rd_move rfl) rfl rfl rfl ?_
      refine WL_rd (Rd_move rfl) rfl rfl rfl ?_
      refine WL_rd (Rd_convZ rfl ikd22_3) rfl rfl rfl ?_
      refine WL_rd (Rd_move rfl) rfl rfl rfl ?_
      refine WL_rd (Rd_move rfl) rfl rfl rfl ?_
      refine WL_rd (Rd_convZ rfl ikd22_3) rfl rfl rfl ?_
      refine WL_rd (Rd_build pls29 rfl) rfl rfl rfl ?_
      refine WL_ac (Ac_call cf11 rfl (hs := kP_set_u (v := ((i' : Int), t)))) rfl rfl rfl ?_
      rintro _ _ ⟨⟨⟩, rfl, hA⟩
      simp only [List.cons_append, List.nil_append] at hA
      subst hA
      refine WL_rd (Rd_move rfl) rfl rfl rfl ?_
      refine WL_rd (Rd_ext0 rfl) rfl rfl rfl ?_
      refine WL_rd (Rd_ext1 rfl) rfl rfl rfl ?_
      refine WL_rd (Rd_assign rfl) rfl rfl rfl ?_
      refine WL_rd (Rd_assign rfl) rfl rfl rfl ?_
      refine WL_end hK13 ?_
      refine WC_seq fun K14 hK14 => ?_
      refine WC_sr fun K15 hK15 => ?_
      refine WL_rd (Rd_move rfl) rfl rfl rfl ?_
      refine WL_rd (Rd_move rfl) rfl rfl rfl ?_
      refine WL_rd (Rd_lss rfl rfl) rfl rfl rfl ?_
      refine WL_end hK15 ?_
      refine WC_cond rfl (fun hc2 => ?_) (fun hc2 => ?_)
      · try simp only [decide_eq_true_eq, decide_eq_false_iff_not, Bool.not_eq_true', Bool.not_eq_false', Bool.not_eq_true, Bool.not_eq_false, Int.not_lt, Int.not_le, Nat.not_lt, Nat.not_le, Decidable.not_not, ne_eq] at hc2
        have hL : laterM bg t = 180 := by unfold laterM; rw [if_neg (by omega), if_pos (by omega)]
        rw [show kP_setR bg rows' set t ((i' : Int), t) = rows' from by unfold kP_setR; rw [if_neg (by rw [hL]; decide)], show kP_setN bg set t = set from by unfold kP_setN; rw [if_neg (by rw [hL]; decide)]]
        refine WC_seq fun K16 hK16 => ?_
        refine WC_sr fun K17 hK17 => ?_
        refine WL_rd (Rd_move rfl) rfl rfl rfl ?_
        refine WL_rd (Rd_isF (Rd_neq rfl rfl)) rfl rfl rfl ?_
        refine WL_end hK17 ?_
        refine WC_condF rfl ?_
        refine WC_skip ?_
        refine Ps_next hK16 ?_
        refine WC_exit ?_
        refine Ps_next hK11 ?_
        refine WC_region ?_
        refine WL_rd (Rd_addN (j := 1) rfl rfl) rfl rfl rfl ?_
        refine WL_rd (Rd_move rfl) rfl rfl rfl ?_
        refine WL_nil ?_
        refine Ps_wk ((Wk.cons (by first | rfl | (simp only [List.length_append, List.length_cons, List.length_nil, Nat.zero_add]; rfl) | (simp; done)) (Wk.cons (by first | rfl | (simp only [List.length_append, List.length_cons, List.length_nil, Nat.zero_add]; rfl) | (simp; done)) (Wk.cons (by first | rfl | (simp only [List.length_append, List.length_cons, List.length_nil, Nat.zero_add]; rfl) | (simp; done)) (Wk.cons (by first | rfl | (simp only [List.length_append, List.length_cons, List.length_nil, Nat.zero_add]; rfl) | (simp; done)) (Wk.cons (by first | rfl | (simp only [List.length_append, List.length_cons, List.length_nil, Nat.zero_add]; rfl) | (simp; done)) (Wk.cons (by first | rfl | (simp only [List.length_append, List.length_cons, List.length_nil, Nat.zero_add]; rfl) | (simp; done)) (Wk.cons (by first | rfl | (simp only [List.length_append, List.length_cons, List.length_nil, Nat.zero_add]; rfl) | (simp; done)) Wk.nil)))))))) (by first | with_reducible exact Sub.refl | (dsimp only; repeat (first | with_reducible exact Sub.refl | with_reducible exact Sub.nil | with_reducible refine Sub.cons (by repeat (first | with_reducible exact Ext.here | with_reducible apply Ext.there)) ?_ | with_reducible refine Sub.tail ?_))) (hK8 ⟨rows', set, i' + 1⟩ (⟨by dsimp only; omega, hlen, by dsimp only; omega, hH, hI, fun r h => ⟨(hr r h).1, by have := (hr r h).2; dsimp only; omega⟩⟩) (by dsimp only; omega))
      · try simp only [decide_eq_true_eq, decide_eq_false_iff_not, Bool.not_eq_true', Bool.not_eq_false', Bool.not_eq_true, Bool.not_eq_false, Int.not_lt, Int.not_le, Nat.not_lt, Nat.not_le, Decidable.not_not, ne_eq] at hc2
        have hL : laterM bg t = 0 := laterM_ok.2 (by omega)
        rw [show kP_setR bg rows' set t ((i' : Int), t) = (pushM (pl kP_lt) () rows' set ((set : Int), t, ((i' : Int), t))).1 from by unfold kP_setR; rw [if_pos hL], show kP_setN bg set t = set + 1 from by unfold kP_setN; rw [if_pos hL]]
        have hV : kP_setV bg set t = set := by unfold kP_setV; rw [if_pos hL]
        refine WC_skip ?_
        refine Ps_next hK14 ?_
        refine WC_seq fun K18 hK18 => ?_
        refine WC_sr fun K19 hK19 => ?_
        refine WL_rd (Rd_move rfl) rfl rfl rfl ?_
        refine WL_rd (Rd_isF (Rd_neq rfl rfl)) rfl rfl rfl ?_
        refine WL_rd (Rd_move rfl) rfl rfl rfl ?_
        refine WL_rd (Rd_move rfl) rfl rfl rfl ?_
        refine WL_rd (Rd_move rfl) rfl rfl rfl ?_
        refine WL_rd (Rd_isF (Rd_neqN rfl rfl)) rfl rfl rfl ?_
        refine WL_rd (Rd_pickF rfl rfl) rfl rfl rfl ?_
        refine WL_end hK19 ?_
        refine WC_condF rfl ?_
        refine WC_skip ?_
        refine Ps_next hK18 ?_
        refine WC_region ?_
        refine WL_rd (Rd_move rfl) rfl rfl rfl ?_
        refine WL_rd (Rd_addN (j := 1) rfl rfl) rfl rfl rfl ?_
        refine WL_rd (Rd_assign rfl) rfl rfl rfl ?_
        refine WL_nil ?_
        refine Ps_next hK11 ?_
        refine WC_region ?_
        refine WL_rd (Rd_addN (j := 1) rfl rfl) rfl rfl rfl ?_
        refine WL_rd (Rd_move rfl) rfl rfl rfl ?_
        refine WL_nil ?_
        refine Ps_wk ((Wk.cons (by first | rfl | (simp only [List.length_append, List.length_cons, List.length_nil, Nat.zero_add]; rfl) | (simp; done)) (Wk.cons (by first | rfl | (simp only [List.length_append, List.length_cons, List.length_nil, Nat.zero_add]; rfl) | (simp; done)) (Wk.cons (by first | rfl | (simp only [List.length_append, List.length_cons, List.length_nil, Nat.zero_add]; rfl) | (simp; done)) (Wk.cons (by first | rfl | (simp only [List.length_append, List.length_cons, List.length_nil, Nat.zero_add]; rfl) | (simp; done)) (Wk.cons (by first | rfl | (simp only [List.length_append, List.length_cons, List.length_nil, Nat.zero_add]; rfl) | (simp; done)) (Wk.cons (by first | rfl | (simp only [List.length_append, List.length_cons, List.length_nil, Nat.zero_add]; rfl) | (simp; done)) (Wk.cons (by first | rfl | (simp only [List.length_append, List.length_cons, List.length_nil, Nat.zero_add]; rfl) | (simp; done)) Wk.nil)))))))) (by first | with_reducible exact Sub.refl | (dsimp only; repeat (first | with_reducible exact Sub.refl | with_reducible exact Sub.nil | with_reducible refine Sub.cons (by repeat (first | with_reducible exact Ext.here | with_reducible apply Ext.there)) ?_ | with_reducible refine Sub.tail ?_))) (hK8 ⟨(pushM (pl kP_lt) () rows' set ((set : Int), t, ((i' : Int), t))).1, set + 1, i' + 1⟩ (⟨by dsimp only; omega, by dsimp only; rw [(pushM_perm _ _ _ _ _).length_eq]; simp [hlen], by dsimp only; omega, pushM_Hp kP_lt_od () hH, fun r h q h' e => by rcases List.mem_append.1 ((pushM_perm _ _ _ _ _).mem_iff.1 h) with a | a <;> rcases List.mem_append.1 ((pushM_perm _ _ _ _ _).mem_iff.1 h') with b | b; exact hI r a q b e; (simp at b; subst b; have := (hr r a).2; dsimp only at e; omega); (simp at a; subst a; have := (hr q b).2; dsimp only at e; omega); (simp at a b; subst a; subst b; rfl), fun r h => by rcases List.mem_append.1 ((pushM_perm _ _ _ _ _).mem_iff.1 h) with a | a; exact ⟨(hr r a).1, by have := (hr r a).2; dsimp only; omega⟩; (simp at a; subst a; exact ⟨⟨rfl, by dsimp only; omega, rfl, i', rfl, ht⟩, by dsimp only; omega⟩)⟩) (by dsimp only; omega))
    · try simp only [decide_eq_true_eq, decide_eq_false_iff_not, Bool.not_eq_true', Bool.not_eq_false', Bool.not_eq_true, Bool.not_eq_false, Int.not_lt, Int.not_le, Nat.not_lt, Nat.not_le, Decidable.not_not, ne_eq] at hc1
      refine WC_exit ?_
      refine Ps_next hK6 ?_
      refine WC_seq fun K20 hK20 => ?_
      refine WC_sr fun K21 hK21 => ?_
      refine WL_rd (Rd_move rfl) rfl rfl rfl ?_
      refine WL_ac (Ac_call cf12 rfl (hs := kP_len)) rfl rfl rfl ?_
      rintro _ _ ⟨⟨⟩, rfl, hA⟩
      simp only [List.cons_append, List.nil_append] at hA
      subst hA
      refine WL_rd (Rd_move rfl) rfl rfl rfl ?_
      refine WL_rd (Rd_isF (Rd_neqN rfl rfl)) rfl rfl rfl ?_
      refine WL_rd (Rd_move rfl) rfl rfl rfl ?_
      refine WL_rd (Rd_move rfl) rfl rfl rfl ?_
      refine WL_ac (Ac_call cf13 rfl (hs := kP_now)) rfl rfl rfl ?_
      rintro _ _ ⟨⟨⟩, rfl, hA⟩
      simp only [List.cons_append, List.nil_append] at hA
      subst hA
      refine WL_rd (Rd_move rfl) rfl rfl rfl ?_
      refine WL_rd (Rd_convZ rfl ikd22_3) rfl rfl rfl ?_
      refine WL_rd (Rd_isF (Rd_neq rfl rfl)) rfl rfl rfl ?_
      refine WL_rd (Rd_pickF rfl rfl) rfl rfl rfl ?_
      refine WL_end hK21 ?_
      refine WC_condF rfl ?_
      refine WC_skip ?_
      refine Ps_next hK20 ?_
      refine WC_sr fun K22 hK22 => ?_
      refine WL_rd (Rd_move rfl) rfl rfl rfl ?_
      refine WL_rd (Rd_convZ rfl ikd22_3) rfl rfl rfl ?_
      refine WL_rd (Rd_build pls35 rfl) rfl rfl rfl ?_
      refine WL_ac (Ac_alloc zr35) rfl rfl rfl ?_
      rintro _ _ ⟨b12, rfl, rfl⟩
      refine WL_ac0 (Ac_store rfl rfl sz35 (h1 := by simp [Value.cells, Value.oneCell', kS_h_itf, kP_h_itf])) rfl rfl ?_
      rintro _ _ rfl
      refine WL_end hK22 ?_
      refine WC_sr fun K23 hK23 => ?_
      refine WL_rd (Rd_move rfl) rfl rfl rfl ?_
      refine WL_rd (Rd_len_sv rfl rfl ud23) rfl rfl rfl ?_
      refine WL_ac (Ac_make (f := eBool) enc_bool false rfl rfl ud36 el4 zr4) rfl rfl rfl ?_
      rintro _ _ ⟨b87, rfl, rfl⟩
      refine WL_rd (Rd_assign rfl) rfl rfl rfl ?_
      refine WL_end hK23 ?_
      refine WC_seq fun K24 hK24 => ?_
      refine WC_sr fun K25 hK25 => ?_
      refine WL_rd (Rd_assign rfl) rfl rfl rfl ?_
      refine WL_end hK25 ?_
      refine WC_block ?_
      refine WC_loop (σ := (List (Nat × (Int × Int × (Int × Int)))) × Nat × ((Int × Int × (Int × Int))) × (List Bool) × Int) (fun ⟨rows2, i2, last, sn, now⟩ => [(0, .int .u16 bg), (1, v), (5, .pointer (some ⟨c, 0, none⟩)), (7, .int .i64 ((set : Nat) : Int)), (12, .pointer (some ⟨b12, 0, none⟩)), (13, sl (some b87) l.length l.length), (14, .int .i64 ((i2 : Nat) : Int))]) (fun ⟨rows2, i2, last, sn, now⟩ => cl c 109 [.int .i64 now, .int .i64 ((set : Nat) : Int), .pointer (some ⟨hb, 0, none⟩)] :: kP_h_hpA (.func (.func 42) #[] ([] : List Value).toArray) hb rows2 set :: emp :: X :: cl b12 35 [.int .i64 last.1, .int .i64 last.2.1, .int .i64 last.2.2.1, .int .i64 last.2.2.2] :: arr (some b87) l.length 1 4 eBool sn :: F) (fun ⟨rows2, i2, last, sn, now⟩ => i2 ≤ set ∧ rows2.length = set - i2 ∧ Hp kP_lt rows2 ∧ injR rows2 ∧ (∀ r ∈ rows2, okR l bg r) ∧ sn.length = l.length ∧ (∀ r ∈ rows2, sn[r.2.2.2.1.toNat]? = some false) ∧ (∀ r ∈ rows2, lastR last r)) (fun ⟨rows2, i2, last, sn, now⟩ => set - i2) ⟨rows', 0, (-1, bg, (0, 0)), List.replicate l.length false, bg⟩ ?_ ?_ ?_ ?_
      · exact ⟨by omega, by omega, hH, hI, fun r h => (hr r h).1, by simp, fun r h => by obtain ⟨_, _, _, k, e, hk⟩ := (hr r h).1; rw [e, Int.toNat_natCast, List.getElem?_replicate, if_pos (List.getElem?_eq_some_iff.1 hk).1], fun r h => by obtain ⟨e1, e2, _⟩ := (hr r h).1; unfold lastR; dsimp only; omega⟩
      · exact (Wk.cons (by first | rfl | (simp only [List.length_append, List.length_cons, List.length_nil, Nat.zero_add]; rfl) | (simp; done)) (Wk.cons (by first | rfl | (simp only [List.length_append, List.length_cons, List.length_nil, Nat.zero_add]; rfl) | (simp; done)) (Wk.cons (by first | rfl | (simp only [List.length_append, List.length_cons, List.length_nil, Nat.zero_add]; rfl) | (simp; done)) (Wk.cons (by first | rfl | (simp only [List.length_append, List.length_cons, List.length_nil, Nat.zero_add]; rfl) | (simp; done)) (Wk.cons (by first | rfl | (simp only [List.length_append, List.length_cons, List.length_nil, Nat.zero_add]; rfl) | (simp; done)) (Wk.cons (by first | rfl | (simp only [List.length_append, List.length_cons, List.length_nil, Nat.zero_add]; rfl) | (simp; done)) (Wk.cons (by first | rfl | (simp only [List.length_append, List.length_cons, List.length_nil, Nat.zero_add]; rfl) | (simp; done)) Wk.nil)))))))
      · repeat (first | with_reducible exact Sub.refl | with_reducible exact Sub.nil | with_reducible refine Sub.cons (by repeat (first | with_reducible exact Ext.here | with_reducible apply Ext.there)) ?_ | with_reducible refine Sub.tail ?_)
      · rintro ⟨rows2, i2, last, sn, now⟩ ⟨hi2, hlen2, hH2, hI2, hr2, hsl, hsn, hla⟩ K26 hK26
        dsimp only at *
        refine WC_fact (fun w h => kP_h_hp_gd (lv := (.func (.func 42) #[] ([] : List Value).toArray)) (b := hb) (by repeat (first | with_reducible exact Has.here | with_reducible refine Has.there ?_)) h) (fun hG2 => ?_)
        refine WC_seq fun K27 hK27 => ?_
        refine WC_sr fun K28 hK28 => ?_
        refine WL_rd (Rd_move rfl) rfl rfl rfl ?_
        refine WL_rd (Rd_move rfl) rfl rfl rfl ?_
        refine WL_rd (Rd_lssN rfl rfl) rfl rfl rfl ?_
        refine WL_end hK28 ?_
        refine WC_cond rfl (fun hc6 => ?_) (fun hc6 => ?_)
        · try simp only [decide_eq_true_eq, decide_eq_false_iff_not, Bool.not_eq_true', Bool.not_eq_false', Bool.not_eq_true, Bool.not_eq_false, Int.not_lt, Int.not_le, Nat.not_lt, Nat.not_le, Decidable.not_not, ne_eq] at hc6
          obtain ⟨x, hx0⟩ : ∃ x, rows2[0]? = some x := ⟨_, List.getElem?_eq_getElem (by omega)⟩
          have hxm : x ∈ rows2 := List.mem_of_getElem? hx0
          obtain ⟨hx1, hx2, hx3, kx, hkx, hlk⟩ := hr2 x hxm
          have hkl := (List.getElem?_eq_some_iff.1 hlk).1
          have hx4 := hla x hxm
          unfold lastR at hx4
          have hsk : sn[kx]? = some false := by have := hsn x hxm; rwa [hkx, Int.toNat_natCast] at this
          have hxr := hl _ (List.mem_of_getElem? hlk)
          refine WC_skip ?_
          refine Ps_next hK27 ?_
          refine WC_seq fun K29 hK29 => ?_
          refine WC_block ?_
          refine WC_sr fun K30 hK30 => ?_
          refine WL_rd (Rd_move rfl) rfl rfl rfl ?_
          refine WL_ac (Ac_call cf14 rfl (hs := kP_next (x := x))) rfl rfl rfl ?_
          rintro _ _ ⟨⟨⟩, rfl, hA⟩
          simp only [List.cons_append, List.nil_append] at hA
          subst hA
          refine WL_rd (Rd_move rfl) rfl rfl rfl ?_
          refine WL_rd (Rd_ext0 rfl) rfl rfl rfl ?_
          refine WL_rd (Rd_ext1 rfl) rfl rfl rfl ?_
          refine WL_rd (Rd_assign rfl) rfl rfl rfl ?_
          refine WL_rd (Rd_assign rfl) rfl rfl rfl ?_
          refine WL_end hK30 ?_
          refine WC_sr fun K31 hK31 => ?_
          refine WL_rd (Rd_move rfl) rfl rfl rfl ?_
          refine WL_ac (Ac_call cf15 rfl (hs := kP_take (x := x))) rfl rfl rfl ?_
          rintro _ _ ⟨⟨⟩, rfl, hA⟩
          simp only [List.cons_append, List.nil_append] at hA
          subst hA
          refine WL_rd (Rd_move rfl) rfl rfl rfl ?_
          refine WL_rd (Rd_ext0 rfl) rfl rfl rfl ?_
          refine WL_rd (Rd_ext1 rfl) rfl rfl rfl ?_
          refine WL_ac (Ac_alloc zr35) rfl rfl rfl ?_
          rintro _ _ ⟨b17, rfl, rfl⟩
          refine WL_ac0 (Ac_store rfl rfl sz35 (h1 := by simp [Value.cells, Value.oneCell', kS_h_itf, kP_h_itf])) rfl rfl ?_
          rintro _ _ rfl
          refine WL_rd (Rd_assign rfl) rfl rfl rfl ?_
          refine WL_end hK31 ?_
          refine WC_seq fun K32 hK32 => ?_
          refine WC_seq fun K33 hK33 => ?_
          refine WC_drawA mix (fun i => ([2, 2, 2, 2, 2, 2, 2, 2, 2, 2, 2, 2, 2, 2, 1, 2, 2, 2, 2, 2, 2, 2, 2, 2, 2, 2, 2, 2, 2, 2, 2, 2, 2, 2, 2, 2, 2, 2, 2, 2, 2, 2, 2, 2, 2, 2, 2, 2] : List Nat).getD i 0) ?_
          refine WJ_takeP 0 rfl (by kernel_rfl) (Rd_move rfl) rfl rfl rfl (hp _ _) ?_
          refine WJ_takeP 1 rfl (by kernel_rfl) (Rd_not rfl) rfl rfl rfl (hp _ _) ?_
          refine WJ_takeP 2 rfl (by kernel_rfl) (Rd_move rfl) rfl rfl rfl (hp _ _) ?_
          refine WJ_takeP 3 rfl (by kernel_rfl) (Rd_move rfl) rfl rfl rfl (hp _ _) ?_
          refine WJ_takeP 4 rfl (by kernel_rfl) (Rd_not rfl) rfl rfl rfl (hp _ _) ?_
          refine WJ_takeP 5 rfl (by kernel_rfl) (Rd_pickF rfl rfl) rfl rfl rfl (hp _ _) ?_
          refine WJ_takeP 6 rfl (by kernel_rfl) (Rd_move rfl) rfl rfl rfl (hp _ _) ?_
          refine WJ_takeP 7 rfl (by kernel_rfl) (Rd_move rfl) rfl rfl rfl (hp _ _) ?_
          refine WJ_takeP 8 rfl (by kernel_rfl) (Rd_fieldAddr rfl fo35_1) rfl rfl rfl (hp _ _) ?_
          refine WJ_tk 9 (Rd_load rfl tk3) hp ?_ rfl (by kernel_rfl) rfl rfl rfl
          refine WJ_takeP 10 rfl (by kernel_rfl) (Rd_isF (Rd_neq rfl rfl)) rfl rfl rfl (hp _ _) ?_
          refine WJ_takeP 11 rfl (by kernel_rfl) (Rd_pickF rfl rfl) rfl rfl rfl (hp _ _) ?_
          refine WJ_takeP 12 rfl (by kernel_rfl) (Rd_move rfl) rfl rfl rfl (hp _ _) ?_
          refine WJ_takeP 13 rfl (by kernel_rfl) (Rd_move rfl) rfl rfl rfl (hp _ _) ?_
          refine WJ_takeP 15 rfl (by kernel_rfl) (Rd_fieldAddr rfl fo35_1) rfl rfl rfl (hp _ _) ?_
          refine WJ_tk 16 (Rd_load rfl tk3) hp ?_ rfl (by kernel_rfl) rfl rfl rfl
          refine WJ_all (rs := [14]) (by kernel_rfl) rfl ?_
          refine WI_one ?_
          refine WI_ac rfl (Ac_call cf13 rfl (hs := kP_now)) rfl rfl rfl rfl ?_
          rintro _ _ ⟨⟨⟩, rfl, hA⟩
          simp only [List.cons_append, List.nil_append] at hA
          subst hA
          refine ⟨(fun _ => (by repeat (first | with_reducible exact Sub.refl | with_reducible exact Sub.nil | with_reducible refine Sub.cons (by repeat (first | with_reducible exact Ext.here | with_reducible apply Ext.there)) ?_ | with_reducible refine Sub.tail ?_))), ?_⟩
          refine WJ_takeP 17 rfl (by kernel_rfl) (Rd_isF (Rd_neq rfl rfl)) rfl rfl rfl (hp _ _) ?_
          refine WJ_takeP 18 rfl (by kernel_rfl) (Rd_pickF rfl rfl) rfl rfl rfl (hp _ _) ?_
          refine WJ_takeP 19 rfl (by kernel_rfl) (Rd_move rfl) rfl rfl rfl (hp _ _) ?_
          refine WJ_takeP 20 rfl (by kernel_rfl) (Rd_fieldAddr rfl fo35_1) rfl rfl rfl (hp _ _) ?_
          refine WJ_tk 21 (Rd_load rfl tk3) hp ?_ rfl (by kernel_rfl) rfl rfl rfl
          refine WJ_takeP 22 rfl (by kernel_rfl) (Rd_fieldAddr rfl fo35_2) rfl rfl rfl (hp _ _) ?_
          refine WJ_takeP 23 rfl (by kernel_rfl) (Rd_fieldAddr rfl fo29_1) rfl rfl rfl (hp _ _) ?_
          refine WJ_tk 24 (Rd_load rfl tk3) hp ?_ rfl (by kernel_rfl) rfl rfl rfl
          first | refine WJ_takeP 25 rfl (by kernel_rfl) (Rd_isF (Rd_neqN rfl rfl)) rfl rfl rfl (hp _ _) ?_ | refine WJ_takeP 25 rfl (by kernel_rfl) (Rd_isF (Rd_neq rfl rfl)) rfl rfl rfl (hp _ _) ?_
          refine WJ_takeP 26 rfl (by kernel_rfl) (Rd_pickF rfl rfl) rfl rfl rfl (hp _ _) ?_
          refine WJ_takeP 27 rfl (by kernel_rfl) (Rd_move rfl) rfl rfl rfl (hp _ _) ?_
          refine WJ_takeP 28 rfl (by kernel_rfl) (Rd_fieldAddr rfl fo35_1) rfl rfl rfl (hp _ _) ?_
          refine WJ_tk 29 (Rd_load rfl tk3) hp ?_ rfl (by kernel_rfl) rfl rfl rfl
          refine WJ_takeP 30 rfl (by kernel_rfl) (Rd_fieldAddr rfl fo35_1) rfl rfl rfl (hp _ _) ?_
          refine WJ_tk 31 (Rd_load rfl tk3) hp ?_ rfl (by kernel_rfl) rfl rfl rfl
          refine WJ_takeP 32 rfl (by kernel_rfl) (Rd_isF (Rd_lss rfl rfl)) rfl rfl rfl (hp _ _) ?_
          refine WJ_takeP 33 rfl (by kernel_rfl) (Rd_pickF rfl rfl) rfl rfl rfl (hp _ _) ?_
          refine WJ_takeP 34 rfl (by kernel_rfl) (Rd_move rfl) rfl rfl rfl (hp _ _) ?_
          refine WJ_takeP 35 rfl (by kernel_rfl) (Rd_fieldAddr rfl fo35_1) rfl rfl rfl (hp _ _) ?_
          refine WJ_tk 36 (Rd_load rfl tk3) hp ?_ rfl (by kernel_rfl) rfl rfl rfl
          refine WJ_takeP 37 rfl (by kernel_rfl) (Rd_fieldAddr rfl fo35_1) rfl rfl rfl (hp _ _) ?_
          refine WJ_tk 38 (Rd_load rfl tk3) hp ?_ rfl (by kernel_rfl) rfl rfl rfl
          refine WJ_takeP 39 rfl (by kernel_rfl) (Rd_eql rfl rfl) rfl rfl rfl (hp _ _) ?_
          refine WJ_takeP 40 rfl (by kernel_rfl) (Rd_move rfl) rfl rfl rfl (hp _ _) ?_
          refine WJ_bool 143 rfl (fun hg34 => ?_) (fun hg34 => ?_)
          · try simp only [decide_eq_true_eq, decide_eq_false_iff_not, Bool.not_eq_true', Bool.not_eq_false', Bool.not_eq_true, Bool.not_eq_false, Int.not_lt, Int.not_le, Nat.not_lt, Nat.not_le, Decidable.not_not, ne_eq] at hg34
            refine WJ_takeP 41 rfl (by kernel_rfl) (Rd_fieldAddr rfl fo35_0) rfl rfl rfl (hp _ _) ?_
            refine WJ_tk 42 (Rd_load rfl tk3) hp ?_ rfl (by kernel_rfl) rfl rfl rfl
            refine WJ_takeP 43 rfl (by kernel_rfl) (Rd_fieldAddr rfl fo35_0) rfl rfl rfl (hp _ _) ?_
            refine WJ_tk 44 (Rd_load rfl tk3) hp ?_ rfl (by kernel_rfl) rfl rfl rfl
            refine WJ_takeP 45 rfl (by kernel_rfl) (Rd_isF (Rd_leq rfl rfl)) rfl rfl rfl (hp _ _) ?_
            refine WJ_takeP 46 rfl (by kernel_rfl) (Rd_pickT rfl rfl) rfl rfl rfl (hp _ _) ?_
            refine WJ_takeP 47 rfl (by kernel_rfl) (Rd_pickF rfl rfl) rfl rfl rfl (hp _ _) ?_
            refine WJ_done (by kernel_rfl) ?_
            refine Ps_next hK33 ?_
            refine WC_condF rfl ?_
            refine WC_skip ?_
            refine Ps_next hK32 ?_
            refine WC_sr fun K35 hK35 => ?_
            refine WL_rd (Rd_fieldAddr rfl fo35_2) rfl rfl rfl ?_
            refine WL_rd (Rd_fieldAddr rfl fo29_0) rfl rfl rfl ?_
            refine WL_rd (Rd_load rfl tk3) rfl rfl rfl ?_
            refine WL_rd (Rd_assign rfl) rfl rfl rfl ?_
            refine WL_end hK35 ?_
            refine WC_seq fun K36 hK36 => ?_
            refine WC_seq fun K37 hK37 => ?_
            refine WC_drawA mix (fun i => ([2, 2, 2, 2, 2, 2, 2, 2, 2, 2, 2, 2, 2, 2, 2, 2, 2, 2, 2, 2, 2, 2, 2, 2] : List Nat).getD i 0) ?_
            refine WJ_takeP 0 rfl (by kernel_rfl) (Rd_move rfl) rfl rfl rfl (hp _ _) ?_
            first | refine WJ_takeP 1 rfl (by kernel_rfl) (Rd_isF (Rd_lssN (j := 0) rfl rfl)) rfl rfl rfl (hp _ _) ?_ | refine WJ_takeP 1 rfl (by kernel_rfl) (Rd_isF (Rd_lss rfl rfl)) rfl rfl rfl (hp _ _) ?_
            refine WJ_takeP 2 rfl (by kernel_rfl) (Rd_move rfl) rfl rfl rfl (hp _ _) ?_
            refine WJ_takeP 3 rfl (by kernel_rfl) (Rd_move rfl) rfl rfl rfl (hp _ _) ?_
            refine WJ_takeP 4 rfl (by kernel_rfl) (Rd_move rfl) rfl rfl rfl (hp _ _) ?_
            refine WJ_takeP 5 rfl (by kernel_rfl) (Rd_len_sv rfl rfl ud23) rfl rfl rfl (hp _ _) ?_
            first | refine WJ_takeP 6 rfl (by kernel_rfl) (Rd_isF (Rd_geqN rfl rfl)) rfl rfl rfl (hp _ _) ?_ | refine WJ_takeP 6 rfl (by kernel_rfl) (Rd_isF (Rd_geq rfl rfl)) rfl rfl rfl (hp _ _) ?_
            refine WJ_takeP 7 rfl (by kernel_rfl) (Rd_pickF rfl rfl) rfl rfl rfl (hp _ _) ?_
            refine WJ_takeP 8 rfl (by kernel_rfl) (Rd_move rfl) rfl rfl rfl (hp _ _) ?_
            refine WJ_takeP 9 rfl (by kernel_rfl) (Rd_move rfl) rfl rfl rfl (hp _ _) ?_
            refine WJ_takeP 10 rfl (by kernel_rfl) (Rd_move rfl) rfl rfl rfl (hp _ _) ?_
            refine WJ_takeP 11 rfl (by kernel_rfl) (Rd_index_sv kx rfl rfl ud23 sz22 (hj := by omega)) rfl rfl rfl (hp _ _) ?_
            refine WJ_tk 12 (Rd_load_sv rfl tk22 (j := 0)) hp ?_ rfl (by kernel_rfl) rfl rfl rfl
            first | refine WJ_takeP 13 rfl (by kernel_rfl) (Rd_convN rfl ikd22_3) rfl rfl rfl (hp _ _) ?_ | refine WJ_takeP 13 rfl (by kernel_rfl) (Rd_convZ rfl ikd22_3) rfl rfl rfl (hp _ _) ?_
            refine WJ_takeP 14 rfl (by kernel_rfl) (Rd_fieldAddr rfl fo35_1) rfl rfl rfl (hp _ _) ?_
            refine WJ_tk 15 (Rd_load rfl tk3) hp ?_ rfl (by kernel_rfl) rfl rfl rfl
            first | refine WJ_takeP 16 rfl (by kernel_rfl) (Rd_isF (Rd_neqN rfl rfl)) rfl rfl rfl (hp _ _) ?_ | refine WJ_takeP 16 rfl (by kernel_rfl) (Rd_isF (Rd_neq rfl rfl)) rfl rfl rfl (hp _ _) ?_
            refine WJ_takeP 17 rfl (by kernel_rfl) (Rd_pickF rfl rfl) rfl rfl rfl (hp _ _) ?_
            refine WJ_takeP 18 rfl (by kernel_rfl) (Rd_move rfl) rfl rfl rfl (hp _ _) ?_
            refine WJ_takeP 19 rfl (by kernel_rfl) (Rd_move rfl) rfl rfl rfl (hp _ _) ?_
            refine WJ_takeP 20 rfl (by kernel_rfl) (Rd_move rfl) rfl rfl rfl (hp _ _) ?_
            refine WJ_takeP 21 rfl (by kernel_rfl) (Rd_index kx rfl rfl ud36 sz4 (hj := by omega)) rfl rfl rfl (hp _ _) ?_
            refine WJ_tk 22 (Rd_load_arr rfl tk4 (j := 0)) hp ?_ rfl (by kernel_rfl) rfl rfl rfl
            refine WJ_takeP 23 rfl (by kernel_rfl) (Rd_pickF rfl rfl) rfl rfl rfl (hp _ _) ?_
            refine WJ_done (by kernel_rfl) ?_
            refine Ps_next hK37 ?_
            refine WC_condF rfl ?_
            refine WC_skip ?_
            refine Ps_next hK36 ?_
            refine WC_sr fun K38 hK38 => ?_
            refine WL_rd (Rd_move rfl) rfl rfl rfl ?_
            refine WL_rd (Rd_move rfl) rfl rfl rfl ?_
            refine WL_rd (Rd_index kx rfl rfl ud36 sz4 (hj := by omega)) rfl rfl rfl ?_
            refine WL_ac0 (Ac_store_arr true rfl rfl sz4 (j := 0)) rfl rfl ?_
            rintro _ _ rfl
            refine WL_end hK38 ?_
            refine WC_region ?_
            refine WL_rd (Rd_loadg rfl tk35) rfl rfl rfl ?_
            refine WL_ac0 (Ac_store rfl rfl sz35 (h1 := by simp [Value.cells, Value.oneCell', kS_h_itf, kP_h_itf])) rfl rfl ?_
            rintro _ _ rfl
            refine WL_nil ?_
            refine Ps_next hK29 ?_
            refine WC_region ?_
            refine WL_rd (Rd_move rfl) rfl rfl rfl ?_
            refine WL_rd (Rd_addN (j := 1) rfl rfl) rfl rfl rfl ?_
            refine WL_rd (Rd_assign rfl) rfl rfl rfl ?_
            refine WL_nil ?_
            refine Ps_wk ((Wk.cons (by first | rfl | (simp only [List.length_append, List.length_cons, List.length_nil, Nat.zero_add]; rfl) | (simp; done)) (Wk.cons (by first | rfl | (simp only [List.length_append, List.length_cons, List.length_nil, Nat.zero_add]; rfl) | (simp; done)) (Wk.cons (by first | rfl | (simp only [List.length_append, List.length_cons, List.length_nil, Nat.zero_add]; rfl) | (simp; done)) (Wk.cons (by first | rfl | (simp only [List.length_append, List.length_cons, List.length_nil, Nat.zero_add]; rfl) | (simp; done)) (Wk.cons (by first | rfl | (simp only [List.length_append, List.length_cons, List.length_nil, Nat.zero_add]; rfl) | (simp; done)) (Wk.cons (by first | rfl | (simp only [List.length_append, List.length_cons, List.length_nil, Nat.zero_add]; rfl) | (simp; done)) (Wk.cons (by first | rfl | (simp only [List.length_append, List.length_cons, List.length_nil, Nat.zero_add]; rfl) | (simp; done)) Wk.nil)))))))) (by first | with_reducible exact Sub.refl | (dsimp only; repeat (first | with_reducible exact Sub.refl | with_reducible exact Sub.nil | with_reducible refine Sub.cons (by repeat (first | with_reducible exact Ext.here | with_reducible apply Ext.there)) ?_ | with_reducible refine Sub.tail ?_))) (hK26 ⟨(takeM (pl kP_lt) () rows2 0).1, i2 + 1, x.2, sn.set kx true, x.2.2.1⟩ (⟨by dsimp only; omega, by dsimp only; rw [takeM_len]; omega, takeM_Hp kP_lt_od () (by omega) hH2, injR_take hI2 hx0, fun r h => hr2 r (nextR hG2 hH2 hI2 hx0 hr2 r h).1, by dsimp only; rw [List.length_set]; exact hsl, fun r h => by obtain ⟨h1, _, h3⟩ := nextR hG2 hH2 hI2 hx0 hr2 r h; obtain ⟨_, _, _, k, e, hk⟩ := hr2 r h1; rw [List.getElem?_set, if_neg (by rw [e, Int.toNat_natCast]; rw [e, hkx] at h3; omega)]; exact hsn r h1, fun r h => (nextR hG2 hH2 hI2 hx0 hr2 r h).2.1⟩) (by dsimp only; omega))
          · try simp only [decide_eq_true_eq, decide_eq_false_iff_not, Bool.not_eq_true', Bool.not_eq_false', Bool.not_eq_true, Bool.not_eq_false, Int.not_lt, Int.not_le, Nat.not_lt, Nat.not_le, Decidable.not_not, ne_eq] at hg34
            refine WJ_skip 41 rfl (by kernel_rfl) rfl rfl rfl (hp _ _) ?_
            refine WJ_skip 42 rfl (by kernel_rfl) rfl rfl rfl (hp _ _) ?_
            refine WJ_skip 43 rfl (by kernel_rfl) rfl rfl rfl (hp _ _) ?_
            refine WJ_skip 44 rfl (by kernel_rfl) rfl rfl rfl (hp _ _) ?_
            refine WJ_skip 45 rfl (by kernel_rfl) rfl rfl rfl (hp _ _) ?_
            refine WJ_takeP 46 rfl (by kernel_rfl) (Rd_pickF rfl rfl) rfl rfl rfl (hp _ _) ?_
            refine WJ_takeP 47 rfl (by kernel_rfl) (Rd_pickF rfl rfl) rfl rfl rfl (hp _ _) ?_
            refine WJ_done (by kernel_rfl) ?_
            refine Ps_next hK33 ?_
            refine WC_condF rfl ?_
            refine WC_skip ?_
            refine Ps_next hK32 ?_
            refine WC_sr fun K39 hK39 => ?_
            refine WL_rd (Rd_fieldAddr rfl fo35_2) rfl rfl rfl ?_
            refine WL_rd (Rd_fieldAddr rfl fo29_0) rfl rfl rfl ?_
            refine WL_rd (Rd_load rfl tk3) rfl rfl rfl ?_
            refine WL_rd (Rd_assign rfl) rfl rfl rfl ?_
            refine WL_end hK39 ?_
            refine WC_seq fun K40 hK40 => ?_
            refine WC_seq fun K41 hK41 => ?_
            refine WC_drawA mix (fun i => ([2, 2, 2, 2, 2, 2, 2, 2, 2, 2, 2, 2, 2, 2, 2, 2, 2, 2, 2, 2, 2, 2, 2, 2] : List Nat).getD i 0) ?_
            refine WJ_takeP 0 rfl (by kernel_rfl) (Rd_move rfl) rfl rfl rfl (hp _ _) ?_
            first | refine WJ_takeP 1 rfl (by kernel_rfl) (Rd_isF (Rd_lssN (j := 0) rfl rfl)) rfl rfl rfl (hp _ _) ?_ | refine WJ_takeP 1 rfl (by kernel_rfl) (Rd_isF (Rd_lss rfl rfl)) rfl rfl rfl (hp _ _) ?_
            refine WJ_takeP 2 rfl (by kernel_rfl) (Rd_move rfl) rfl rfl rfl (hp _ _) ?_
            refine WJ_takeP 3 rfl (by kernel_rfl) (Rd_move rfl) rfl rfl rfl (hp _ _) ?_
            refine WJ_takeP 4 rfl (by kernel_rfl) (Rd_move rfl) rfl rfl rfl (hp _ _) ?_
            refine WJ_takeP 5 rfl (by kernel_rfl) (Rd_len_sv rfl rfl ud23) rfl rfl rfl (hp _ _) ?_
            first | refine WJ_takeP 6 rfl (by kernel_rfl) (Rd_isF (Rd_geqN rfl rfl)) rfl rfl rfl (hp _ _) ?_ | refine WJ_takeP 6 rfl (by kernel_rfl) (Rd_isF (Rd_geq rfl rfl)) rfl rfl rfl (hp _ _) ?_
            refine WJ_takeP 7 rfl (by kernel_rfl) (Rd_pickF rfl rfl) rfl rfl rfl (hp _ _) ?_
            refine WJ_takeP 8 rfl (by kernel_rfl) (Rd_move rfl) rfl rfl rfl (hp _ _) ?_
            refine WJ_takeP 9 rfl (by kernel_rfl) (Rd_move rfl) rfl rfl rfl (hp _ _) ?_
            refine WJ_takeP 10 rfl (by kernel_rfl) (Rd_move rfl) rfl rfl rfl (hp _ _) ?_
            refine WJ_takeP 11 rfl (by kernel_rfl) (Rd_index_sv kx rfl rfl ud23 sz22 (hj := by omega)) rfl rfl rfl (hp _ _) ?_
            refine WJ_tk 12 (Rd_load_sv rfl tk22 (j := 0)) hp ?_ rfl (by kernel_rfl) rfl rfl rfl
            first | refine WJ_takeP 13 rfl (by kernel_rfl) (Rd_convN rfl ikd22_3) rfl rfl rfl (hp _ _) ?_ | refine WJ_takeP 13 rfl (by kernel_rfl) (Rd_convZ rfl ikd22_3) rfl rfl rfl (hp _ _) ?_
            refine WJ_takeP 14 rfl (by kernel_rfl) (Rd_fieldAddr rfl fo35_1) rfl rfl rfl (hp _ _) ?_
            refine WJ_tk 15 (Rd_load rfl tk3) hp ?_ rfl (by kernel_rfl) rfl rfl rfl
            first | refine WJ_takeP 16 rfl (by kernel_rfl) (Rd_isF (Rd_neqN rfl rfl)) rfl rfl rfl (hp _ _) ?_ | refine WJ_takeP 16 rfl (by kernel_rfl) (Rd_isF (Rd_neq rfl rfl)) rfl rfl rfl (hp _ _) ?_
            refine WJ_takeP 17 rfl (by kernel_rfl) (Rd_pickF rfl rfl) rfl rfl rfl (hp _ _) ?_
            refine WJ_takeP 18 rfl (by kernel_rfl) (Rd_move rfl) rfl rfl rfl (hp _ _) ?_
            refine WJ_takeP 19 rfl (by kernel_rfl) (Rd_move rfl) rfl rfl rfl (hp _ _) ?_
            refine WJ_takeP 20 rfl (by kernel_rfl) (Rd_move rfl) rfl rfl rfl (hp _ _) ?_
            refine WJ_takeP 21 rfl (by kernel_rfl) (Rd_index kx rfl rfl ud36 sz4 (hj := by omega)) rfl rfl rfl (hp _ _) ?_
            refine WJ_tk 22 (Rd_load_arr rfl tk4 (j := 0)) hp ?_ rfl (by kernel_rfl) rfl rfl rfl
            refine WJ_takeP 23 rfl (by kernel_rfl) (Rd_pickF rfl rfl) rfl rfl rfl (hp _ _) ?_
            refine WJ_done (by kernel_rfl) ?_
            refine Ps_next hK41 ?_
            refine WC_condF rfl ?_
            refine WC_skip ?_
            refine Ps_next hK40 ?_
            refine WC_sr fun K42 hK42 => ?_
            refine WL_rd (Rd_move rfl) rfl rfl rfl ?_
            refine WL_rd (Rd_move rfl) rfl rfl rfl ?_
            refine WL_rd (Rd_index kx rfl rfl ud36 sz4 (hj := by omega)) rfl rfl rfl ?_
            refine WL_ac0 (Ac_store_arr true rfl rfl sz4 (j := 0)) rfl rfl ?_
            rintro _ _ rfl
            refine WL_end hK42 ?_
            refine WC_region ?_
            refine WL_rd (Rd_loadg rfl tk35) rfl rfl rfl ?_
            refine WL_ac0 (Ac_store rfl rfl sz35 (h1 := by simp [Value.cells, Value.oneCell', kS_h_itf, kP_h_itf])) rfl rfl ?_
            rintro _ _ rfl
            refine WL_nil ?_
            refine Ps_next hK29 ?_
            refine WC_region ?_
            refine WL_rd (Rd_move rfl) rfl rfl rfl ?_
            refine WL_rd (Rd_addN (j := 1) rfl rfl) rfl rfl rfl ?_
            refine WL_rd (Rd_assign rfl) rfl rfl rfl ?_
            refine WL_nil ?_
            refine Ps_wk ((Wk.cons (by first | rfl | (simp only [List.length_append, List.length_cons, List.length_nil, Nat.zero_add]; rfl) | (simp; done)) (Wk.cons (by first | rfl | (simp only [List.length_append, List.length_cons, List.length_nil, Nat.zero_add]; rfl) | (simp; done)) (Wk.cons (by first | rfl | (simp only [List.length_append, List.length_cons, List.length_nil, Nat.zero_add]; rfl) | (simp; done)) (Wk.cons (by first | rfl | (simp only [List.length_append, List.length_cons, List.length_nil, Nat.zero_add]; rfl) | (simp; done)) (Wk.cons (by first | rfl | (simp only [List.length_append, List.length_cons, List.length_nil, Nat.zero_add]; rfl) | (simp; done)) (Wk.cons (by first | rfl | (simp only [List.length_append, List.length_cons, List.length_nil, Nat.zero_add]; rfl) | (simp; done)) (Wk.cons (by first | rfl | (simp only [List.length_append, List.length_cons, List.length_nil, Nat.zero_add]; rfl) | (simp; done)) Wk.nil)))))))) (by first | with_reducible exact Sub.refl | (dsimp only; repeat (first | with_reducible exact Sub.refl | with_reducible exact Sub.nil | with_reducible refine Sub.cons (by repeat (first | with_reducible exact Ext.here | with_reducible apply Ext.there)) ?_ | with_reducible refine Sub.tail ?_))) (hK26 ⟨(takeM (pl kP_lt) () rows2 0).1, i2 + 1, x.2, sn.set kx true, x.2.2.1⟩ (⟨by dsimp only; omega, by dsimp only; rw [takeM_len]; omega, takeM_Hp kP_lt_od () (by omega) hH2, injR_take hI2 hx0, fun r h => hr2 r (nextR hG2 hH2 hI2 hx0 hr2 r h).1, by dsimp only; rw [List.length_set]; exact hsl, fun r h => by obtain ⟨h1, _, h3⟩ := nextR hG2 hH2 hI2 hx0 hr2 r h; obtain ⟨_, _, _, k, e, hk⟩ := hr2 r h1; rw [List.getElem?_set, if_neg (by rw [e, Int.toNat_natCast]; rw [e, hkx] at h3; omega)]; exact hsn r h1, fun r h => (nextR hG2 hH2 hI2 hx0 hr2 r h).2.1⟩) (by dsimp only; omega))
        · try simp only [decide_eq_true_eq, decide_eq_false_iff_not, Bool.not_eq_true', Bool.not_eq_false', Bool.not_eq_true, Bool.not_eq_false, Int.not_lt, Int.not_le, Nat.not_lt, Nat.not_le, Decidable.not_not, ne_eq] at hc6
          have hrn : rows2 = [] := List.eq_nil_of_length_eq_zero (by omega)
          subst hrn
          refine WC_exit ?_
          refine Ps_next hK24 ?_
          refine WC_sr fun K43 hK43 => ?_
          refine WL_rd (Rd_move rfl) rfl rfl rfl ?_
          refine WL_ac (Ac_call cf15 rfl (hs := kP_take0)) rfl rfl rfl ?_
          rintro _ _ ⟨⟨⟩, rfl, hA⟩
          simp only [List.cons_append, List.nil_append] at hA
          subst hA
          refine WL_rd (Rd_move rfl) rfl rfl rfl ?_
          refine WL_rd (Rd_ext0 rfl) rfl rfl rfl ?_
          refine WL_rd (Rd_ext1 rfl) rfl rfl rfl ?_
          refine WL_ac (Ac_alloc zr35) rfl rfl rfl ?_
          rintro _ _ ⟨b20, rfl, rfl⟩
          refine WL_ac0 (Ac_store rfl rfl sz35 (h1 := by simp [Value.cells, Value.oneCell', kS_h_itf, kP_h_itf])) rfl rfl ?_
          rintro _ _ rfl
          refine WL_rd (Rd_assign rfl) rfl rfl rfl ?_
          refine WL_end hK43 ?_
          refine WC_sr fun K44 hK44 => ?_
          refine WL_rd (Rd_move rfl) rfl rfl rfl ?_
          refine WL_rd (Rd_not rfl) rfl rfl rfl ?_
          refine WL_rd (Rd_move rfl) rfl rfl rfl ?_
          refine WL_rd (Rd_move rfl) rfl rfl rfl ?_
          refine WL_ac (Ac_call cf12 rfl (hs := kP_len)) rfl rfl rfl ?_
          rintro _ _ ⟨⟨⟩, rfl, hA⟩
          simp only [List.cons_append, List.nil_append] at hA
          subst hA
          refine WL_rd (Rd_isT (Rd_eqlN (j := 0) rfl rfl)) rfl rfl rfl ?_
          refine WL_rd (Rd_pickT rfl rfl) rfl rfl rfl ?_
          refine WL_rd (Rd_assign rfl) rfl rfl rfl ?_
          refine WL_end hK44 ?_
          refine WC_ret ?_
          exact hret.go () (Rs1 rfl rfl)
end Go.Proofs.Ytcemkpiopijbmaa
