/-
  Contracts of functions that the claim reaches, or the row over them: the law returns true for every input of bulk at most 1048576. (Conditions: none beyond the statement.)
-/
import Derived.Test.YtcookmkklcbbnaaHqPair
import Derived.Test.YtcookmkklcbbnaaHqLives
import Derived.Test.YtcookmkklcbbnaaSlArg
set_option linter.all false
namespace Go.Proofs.Ytcookmkklcbbnaa
open Go.RowKit Go.SL Go.HpM
set_option maxHeartbeats 1000000
set_option maxRecDepth 20000
set_option linter.all false
theorem cf13 : cfn Try.prog 13 = true := by kernel_rfl
theorem cf15 : cfn Try.prog 15 = true := by kernel_rfl
theorem cf16 : cfn Try.prog 16 = true := by kernel_rfl
theorem fo39_0 : fo Try.prog 39 0 = some (0, 9) := by kernel_rfl
theorem fo39_1 : fo Try.prog 39 1 = some (1, 3) := by kernel_rfl
theorem pls39 : pls Try.prog 39 = some ([.string ⟨#[]⟩, .int .i64 0], [(0, 1), (1, 1)]) := by kernel_rfl
theorem sz9 : sz Try.prog 9 = some 1 := by kernel_rfl
theorem tk9 : tk Try.prog 9 = some none := by kernel_rfl
theorem ud9 : Try.prog.underlying 9 = some (.string) := by kernel_rfl
theorem ud32 : Try.prog.underlying 32 = some (.slice 9) := by kernel_rfl
theorem HP1_ct {x y : ByteArray × Int}  : Ct Try.prog 14 [.agg [.string x.1, .int .i64 x.2].toArray, .agg [.string y.1, .int .i64 y.2].toArray] [] (fun _ : Unit => .bool (decide (x.1.size < y.1.size))) (fun _ => []) := by
  refine Ct_body (n := 12) Try.func14 rfl rfl rfl fun F w0 Q hret hnorm hp => ?_
  change WC _ _ _ _ _ _ (F)
  refine WC_sr fun K1 hK1 => ?_
  refine WL_ac (Ac_box rfl rfl) rfl rfl rfl ?_
  rintro _ _ ⟨b2, rfl, rfl⟩
  refine WL_ac (Ac_box rfl rfl) rfl rfl rfl ?_
  rintro _ _ ⟨b3, rfl, rfl⟩
  refine WL_rd (Rd_assign rfl) rfl rfl rfl ?_
  refine WL_end hK1 ?_
  refine WC_sr fun K2 hK2 => ?_
  refine WL_rd (Rd_fieldAddr rfl fo39_0) rfl rfl rfl ?_
  refine WL_rd (Rd_load rfl tk9) rfl rfl rfl ?_
  refine WL_rd (Rd_strlen rfl rfl ud9) rfl rfl rfl ?_
  refine WL_rd (Rd_fieldAddr rfl fo39_0) rfl rfl rfl ?_
  refine WL_rd (Rd_load rfl tk9) rfl rfl rfl ?_
  refine WL_rd (Rd_strlen rfl rfl ud9) rfl rfl rfl ?_
  refine WL_rd (Rd_lssN rfl rfl) rfl rfl rfl ?_
  refine WL_rd (Rd_assign rfl) rfl rfl rfl ?_
  refine WL_end hK2 ?_
  refine WC_ret ?_
  exact hret.go () (Rs1 rfl rfl)

def ltP (x y : ByteArray × Int) : Bool := decide (x.1.size < y.1.size)
theorem ltP_od : Od ltP := by
  unfold ltP
  constructor
  · intro x; simp
  · intro x y z; simp; omega
  · intro x y z; simp; omega
theorem hcfP : cfn Try.prog 14 = true := by kernel_rfl
theorem hlessP : ∀ (s : Unit) (x y : ByteArray × Int), Ct Try.prog 14 ([.agg [.string x.1, .int .i64 x.2].toArray, .agg [.string y.1, .int .i64 y.2].toArray] ++ ([] : List Value)) [emp] (fun _ : Unit => .bool (pl ltP s x y).1) (fun _ => [emp]) := fun _ x y => (HP1_ct (x := x) (y := y)).frame [emp]
/-- the last that came out stands ahead -/
def lastP (l : ByteArray × Int) (r : Nat × (ByteArray × Int)) : Prop := l.1.size < r.2.1.size ∨ (l.1.size = r.2.1.size ∧ l.2 < r.2.2)
theorem lastP_next {rows : List (Nat × (ByteArray × Int))} {made : Nat} {x : Nat × (ByteArray × Int)} (hG : Gd rows made) (hH : Hp ltP rows) (hx : rows[0]? = some x) (hn : ∀ r ∈ rows, r.2.2 = (r.1 : Int)) : ∀ r ∈ (takeM (pl ltP) () rows 0).1, r ∈ rows ∧ lastP x.2 r := by
  intro r hr
  have hp := takeM_perm (pl ltP) () hx
  have hm : r ∈ rows := hp.mem_iff.1 (List.mem_cons_of_mem _ hr)
  have hxm : x ∈ rows := List.mem_of_getElem? hx
  refine ⟨hm, ?_⟩
  have hT := (hG.perm hp).1
  unfold Tk at hT
  rw [List.map_cons, List.nodup_cons] at hT
  have hne : r.1 ≠ x.1 := fun e => hT.1 (by rw [← e]; exact List.mem_map.2 ⟨r, hr, rfl⟩)
  have h := ah_false.1 (hH.top_mem ltP_od hx hm)
  unfold ltP at h
  simp only [decide_eq_false_iff_not, decide_eq_true_eq] at h
  have h1 := hn r hm
  have h2 := hn x hxm
  unfold lastP
  omega

theorem Pairs_ct {X : Asn} {v : Value} {texts : List ByteArray} {ao : Option Addr} {cap : Nat} (hS : Sv [X] v 1 eStr texts ao cap) (hn : texts.length ≤ 1048576) : Ct Try.prog 4 [v] [X] (fun _ : Unit => .bool true) (fun _ => [X]) := by
  refine Ct_body (n := 117) Try.func4 rfl rfl rfl fun F w0 Q hret hnorm hp => ?_
  change WC _ _ _ _ _ _ (_ :: F)
  refine WC_emp ?_
  refine WC_sr fun K1 hK1 => ?_
  refine WL_rd (Rd_assign rfl) rfl rfl rfl ?_
  refine WL_end hK1 ?_
  refine WC_seq fun K2 hK2 => ?_
  refine WC_sr fun K3 hK3 => ?_
  refine WL_ac (Ac_call cf12 rfl (hs := lives_ct)) rfl rfl rfl ?_
  rintro _ _ ⟨⟨⟩, rfl, hA⟩
  simp only [List.cons_append, List.nil_append] at hA
  subst hA
  refine WL_rd (Rd_not rfl) rfl rfl rfl ?_
  refine WL_end hK3 ?_
  refine WC_condF rfl ?_
  refine WC_skip ?_
  refine Ps_next hK2 ?_
  refine WC_sr fun K4 hK4 => ?_
  refine WL_ac (Ac_call cf13 rfl (hs := hP_new_hp (lf := 14) (caps := []))) rfl rfl rfl ?_
  rintro _ _ ⟨b, rfl, hA⟩
  simp only [List.cons_append, List.nil_append] at hA
  subst hA
  refine WL_rd (Rd_move rfl) rfl rfl rfl ?_
  refine WL_rd (Rd_ext0 rfl) rfl rfl rfl ?_
  refine WL_rd (Rd_ext1 rfl) rfl rfl rfl ?_
  refine WL_rd (Rd_assign rfl) rfl rfl rfl ?_
  refine WL_rd (Rd_assign rfl) rfl rfl rfl ?_
  refine WL_end hK4 ?_
  refine WC_seq fun K5 hK5 => ?_
  refine WC_sr fun K6 hK6 => ?_
  refine WL_rd (Rd_move rfl) rfl rfl rfl ?_
  refine WL_rd (Rd_neqN (i := 0) (j := 0) rfl rfl) rfl rfl rfl ?_
  refine WL_rd (Rd_move rfl) rfl rfl rfl ?_
  refine WL_rd (Rd_move rfl) rfl rfl rfl ?_
  refine WL_rd (Rd_peq rfl rfl ud34) rfl rfl rfl ?_
  refine WL_rd (Rd_pickF rfl rfl) rfl rfl rfl ?_
  refine WL_end hK6 ?_
  refine WC_condF rfl ?_
  refine WC_skip ?_
  refine Ps_next hK5 ?_
  refine WC_seq fun K7 hK7 => ?_
  refine WC_sr fun K8 hK8 => ?_
  refine WL_rd (Rd_assign rfl) rfl rfl rfl ?_
  refine WL_end hK8 ?_
  refine WC_block ?_
  refine WC_loop (σ := (List (Nat × (ByteArray × Int))) × Nat) (fun ⟨rows', i'⟩ => [(0, v), (3, .pointer (some ⟨b, 0, none⟩)), (5, .int .i64 ((i' : Nat) : Int))]) (fun ⟨rows', i'⟩ => hP_hpA (.func (.func 14) #[] ([] : List Value).toArray) b rows' i' :: emp :: X :: F) (fun ⟨rows', i'⟩ => i' ≤ texts.length ∧ rows'.length = i' ∧ Hp ltP rows' ∧ (∀ r ∈ rows', texts[r.1]? = some r.2.1 ∧ r.2.2 = (r.1 : Int))) (fun ⟨rows', i'⟩ => texts.length - i') ⟨[], 0⟩ ?_ ?_ ?_ ?_
  · exact ⟨by omega, rfl, Hp_nil, by simp⟩
  · exact (Wk.cons (by first | rfl | (simp; done) | (simp; omega)) (Wk.cons (by first | rfl | (simp; done) | (simp; omega)) (Wk.cons (by first | rfl | (simp; done) | (simp; omega)) Wk.nil)))
  · repeat (first | with_reducible exact Sub.refl | with_reducible exact Sub.nil | with_reducible refine Sub.cons (by repeat (first | with_reducible exact Ext.here | with_reducible apply Ext.there)) ?_ | with_reducible refine Sub.tail ?_)
  · rintro ⟨rows', i'⟩ ⟨hi, hl, hH, hr⟩ K9 hK9
    dsimp only at *
    refine WC_seq fun K10 hK10 => ?_
    refine WC_sr fun K11 hK11 => ?_
    refine WL_rd (Rd_move rfl) rfl rfl rfl ?_
    refine WL_rd (Rd_move rfl) rfl rfl rfl ?_
    refine WL_rd (Rd_len_sv rfl rfl ud32) rfl rfl rfl ?_
    refine WL_rd (Rd_lssN rfl rfl) rfl rfl rfl ?_
    refine WL_end hK11 ?_
    refine WC_cond rfl (fun hc2 => ?_) (fun hc2 => ?_)
    · try simp only [decide_eq_true_eq, decide_eq_false_iff_not, Bool.not_eq_true', Bool.not_eq_false', Bool.not_eq_true, Bool.not_eq_false, Int.not_lt, Int.not_le, Nat.not_lt, Nat.not_le, Decidable.not_not, ne_eq] at hc2
      obtain ⟨s, hs⟩ : ∃ s, texts[i']? = some s := ⟨_, List.getElem?_eq_getElem (by omega)⟩
      refine WC_skip ?_
      refine Ps_next hK10 ?_
      refine WC_seq fun K12 hK12 => ?_
      refine WC_block ?_
      refine WC_sr fun K13 hK13 => ?_
      refine WL_rd (Rd_move rfl) rfl rfl rfl ?_
      refine WL_rd (Rd_move rfl) rfl rfl rfl ?_
      refine WL_rd (Rd_move rfl) rfl rfl rfl ?_
      refine WL_rd (Rd_index_sv _ rfl rfl ud32 sz9) rfl rfl rfl ?_
      refine WL_rd (Rd_load_sv rfl tk9 (j := 0)) rfl rfl rfl ?_
      refine WL_rd (Rd_move rfl) rfl rfl rfl ?_
      refine WL_rd (Rd_build pls39 rfl) rfl rfl rfl ?_
      refine WL_ac (Ac_call cf15 rfl (hs := hP_push_hp hcfP hlessP (s := ()) (x := (s, (i' : Int))))) rfl rfl rfl ?_
      rintro _ _ ⟨⟨⟩, rfl, hA⟩
      simp only [List.cons_append, List.nil_append] at hA
      subst hA
      refine WL_rd (Rd_move rfl) rfl rfl rfl ?_
      refine WL_rd (Rd_ext0 rfl) rfl rfl rfl ?_
      refine WL_rd (Rd_ext1 rfl) rfl rfl rfl ?_
      refine WL_rd (Rd_assign rfl) rfl rfl rfl ?_
      refine WL_rd (Rd_assign rfl) rfl rfl rfl ?_
      refine WL_end hK13 ?_
      refine WC_sr fun K14 hK14 => ?_
      refine WL_rd (Rd_move rfl) rfl rfl rfl ?_
      refine WL_rd (Rd_neqN (i := 0) (j := 0) rfl rfl) rfl rfl rfl ?_
      refine WL_rd (Rd_move rfl) rfl rfl rfl ?_
      refine WL_rd (Rd_move rfl) rfl rfl rfl ?_
      refine WL_rd (Rd_move rfl) rfl rfl rfl ?_
      refine WL_rd (Rd_isF (Rd_neqN rfl rfl)) rfl rfl rfl ?_
      refine WL_rd (Rd_pickF rfl rfl) rfl rfl rfl ?_
      refine WL_end hK14 ?_
      refine WC_condF rfl ?_
      refine WC_skip ?_
      refine Ps_next hK12 ?_
      refine WC_region ?_
      refine WL_rd (Rd_move rfl) rfl rfl rfl ?_
      refine WL_rd (Rd_addN (j := 1) rfl rfl) rfl rfl rfl ?_
      refine WL_rd (Rd_assign rfl) rfl rfl rfl ?_
      refine WL_nil ?_
      refine Ps_wk ((Wk.cons (by first | rfl | (simp; done) | (simp; omega)) (Wk.cons (by first | rfl | (simp; done) | (simp; omega)) (Wk.cons (by first | rfl | (simp; done) | (simp; omega)) Wk.nil)))) (by first | with_reducible exact Sub.refl | (dsimp only; repeat (first | with_reducible exact Sub.refl | with_reducible exact Sub.nil | with_reducible refine Sub.cons (by repeat (first | with_reducible exact Ext.here | with_reducible apply Ext.there)) ?_ | with_reducible refine Sub.tail ?_))) (hK9 ⟨(pushM (pl ltP) () rows' i' (s, (i' : Int))).1, i' + 1⟩ (⟨by dsimp only; omega, by dsimp only; rw [(pushM_perm _ _ _ _ _).length_eq]; simp [hl], pushM_Hp ltP_od () hH, fun r hm => by rcases List.mem_append.1 ((pushM_perm _ _ _ _ _).mem_iff.1 hm) with q | q; exact hr r q; simp at q; subst q; exact ⟨hs, rfl⟩⟩) (by dsimp only; omega))
    · try simp only [decide_eq_true_eq, decide_eq_false_iff_not, Bool.not_eq_true', Bool.not_eq_false', Bool.not_eq_true, Bool.not_eq_false, Int.not_lt, Int.not_le, Nat.not_lt, Nat.not_le, Decidable.not_not, ne_eq] at hc2
      refine WC_exit ?_
      refine Ps_next hK7 ?_
      refine WC_sr fun K15 hK15 => ?_
      refine WL_rd (Rd_build pls39 rfl) rfl rfl rfl ?_
      refine WL_ac (Ac_alloc zr39) rfl rfl rfl ?_
      rintro _ _ ⟨b8, rfl, rfl⟩
      refine WL_ac0 (Ac_store rfl rfl sz39 (h1 := by simp [Value.cells, Value.oneCell', hI_itf, hP_itf])) rfl rfl ?_
      rintro _ _ rfl
      refine WL_end hK15 ?_
      refine WC_seq fun K16 hK16 => ?_
      refine WC_sr fun K17 hK17 => ?_
      refine WL_rd (Rd_assign rfl) rfl rfl rfl ?_
      refine WL_end hK17 ?_
      refine WC_block ?_
      refine WC_loop (σ := (List (Nat × (ByteArray × Int))) × Nat × (ByteArray × Int)) (fun ⟨rows2, i2, last⟩ => [(0, v), (3, .pointer (some ⟨b, 0, none⟩)), (8, .pointer (some ⟨b8, 0, none⟩)), (9, .int .i64 ((i2 : Nat) : Int))]) (fun ⟨rows2, i2, last⟩ => hP_hpA (.func (.func 14) #[] ([] : List Value).toArray) b rows2 i' :: emp :: X :: cl b8 39 [.string last.1, .int .i64 last.2] :: F) (fun ⟨rows2, i2, last⟩ => i2 ≤ texts.length ∧ rows2.length = texts.length - i2 ∧ Hp ltP rows2 ∧ (∀ r ∈ rows2, texts[r.1]? = some r.2.1 ∧ r.2.2 = (r.1 : Int)) ∧ (∀ r ∈ rows2, lastP last r)) (fun ⟨rows2, i2, last⟩ => texts.length - i2) ⟨rows', 0, (⟨#[]⟩, -1)⟩ ?_ ?_ ?_ ?_
      · exact ⟨by omega, by omega, hH, hr, fun r hm => by have := hr r hm; unfold lastP; dsimp only; rw [show (⟨#[]⟩ : ByteArray).size = 0 from rfl]; omega⟩
      · exact (Wk.cons (by first | rfl | (simp; done) | (simp; omega)) (Wk.cons (by first | rfl | (simp; done) | (simp; omega)) (Wk.cons (by first | rfl | (simp; done) | (simp; omega)) (Wk.cons (by first | rfl | (simp; done) | (simp; omega)) Wk.nil))))
      · repeat (first | with_reducible exact Sub.refl | with_reducible exact Sub.nil | with_reducible refine Sub.cons (by repeat (first | with_reducible exact Ext.here | with_reducible apply Ext.there)) ?_ | with_reducible refine Sub.tail ?_)
      · rintro ⟨rows2, i2, last⟩ ⟨hi2, hl2, hH2, hr2, hla⟩ K18 hK18
        dsimp only at *
        refine WC_fact (fun w h => hP_hp_gd (lv := (.func (.func 14) #[] ([] : List Value).toArray)) (b := b) (by repeat (first | with_reducible exact Has.here | with_reducible refine Has.there ?_)) h) (fun hG2 => ?_)
        refine WC_seq fun K19 hK19 => ?_
        refine WC_sr fun K20 hK20 => ?_
        refine WL_rd (Rd_move rfl) rfl rfl rfl ?_
        refine WL_rd (Rd_move rfl) rfl rfl rfl ?_
        refine WL_rd (Rd_len_sv rfl rfl ud32) rfl rfl rfl ?_
        refine WL_rd (Rd_lssN rfl rfl) rfl rfl rfl ?_
        refine WL_end hK20 ?_
        refine WC_cond rfl (fun hc4 => ?_) (fun hc4 => ?_)
        · try simp only [decide_eq_true_eq, decide_eq_false_iff_not, Bool.not_eq_true', Bool.not_eq_false', Bool.not_eq_true, Bool.not_eq_false, Int.not_lt, Int.not_le, Nat.not_lt, Nat.not_le, Decidable.not_not, ne_eq] at hc4
          obtain ⟨x, hx0⟩ : ∃ x, rows2[0]? = some x := ⟨_, List.getElem?_eq_getElem (by omega)⟩
          have hxm : x ∈ rows2 := List.mem_of_getElem? hx0
          obtain ⟨hx1, hx2⟩ := hr2 x hxm
          have hx3 := (List.getElem?_eq_some_iff.1 hx1).1
          have hx4 := hla x hxm
          unfold lastP at hx4
          refine WC_skip ?_
          refine Ps_next hK19 ?_
          refine WC_seq fun K21 hK21 => ?_
          refine WC_block ?_
          refine WC_sr fun K22 hK22 => ?_
          refine WL_rd (Rd_move rfl) rfl rfl rfl ?_
          refine WL_ac (Ac_call cf16 rfl (hs := hP_pop_hp hcfP hlessP (s := ()) (x := x))) rfl rfl rfl ?_
          rintro _ _ ⟨⟨⟩, rfl, hA⟩
          simp only [List.cons_append, List.nil_append] at hA
          subst hA
          refine WL_rd (Rd_move rfl) rfl rfl rfl ?_
          refine WL_rd (Rd_ext0 rfl) rfl rfl rfl ?_
          refine WL_rd (Rd_ext1 rfl) rfl rfl rfl ?_
          refine WL_ac (Ac_alloc zr39) rfl rfl rfl ?_
          rintro _ _ ⟨b10, rfl, rfl⟩
          refine WL_ac0 (Ac_store rfl rfl sz39 (h1 := by simp [Value.cells, Value.oneCell', hI_itf, hP_itf])) rfl rfl ?_
          rintro _ _ rfl
          refine WL_rd (Rd_assign rfl) rfl rfl rfl ?_
          refine WL_end hK22 ?_
          refine WC_seq fun K23 hK23 => ?_
          refine WC_seq fun K24 hK24 => ?_
          refine WC_drawA mix (fun i => ([2, 2, 2, 2, 2, 2, 2, 2, 2, 2, 2, 2, 2, 2, 2, 2, 2, 2, 2, 2, 2, 2, 2, 2] : List Nat).getD i 0) ?_
          refine WJ_takeP 0 rfl (by kernel_rfl) (Rd_move rfl) rfl rfl rfl (hp _ _) ?_
          refine WJ_takeP 1 rfl (by kernel_rfl) (Rd_not rfl) rfl rfl rfl (hp _ _) ?_
          refine WJ_takeP 2 rfl (by kernel_rfl) (Rd_move rfl) rfl rfl rfl (hp _ _) ?_
          refine WJ_takeP 3 rfl (by kernel_rfl) (Rd_fieldAddr rfl fo39_1) rfl rfl rfl (hp _ _) ?_
          refine WJ_tk 4 (Rd_load rfl tk3) hp ?_ rfl (by kernel_rfl) rfl rfl rfl
          first | refine WJ_takeP 5 rfl (by kernel_rfl) (Rd_isF (Rd_lssN (j := 0) rfl rfl)) rfl rfl rfl (hp _ _) ?_ | refine WJ_takeP 5 rfl (by kernel_rfl) (Rd_isF (Rd_lss rfl rfl)) rfl rfl rfl (hp _ _) ?_
          refine WJ_takeP 6 rfl (by kernel_rfl) (Rd_pickF rfl rfl) rfl rfl rfl (hp _ _) ?_
          refine WJ_takeP 7 rfl (by kernel_rfl) (Rd_move rfl) rfl rfl rfl (hp _ _) ?_
          refine WJ_takeP 8 rfl (by kernel_rfl) (Rd_fieldAddr rfl fo39_1) rfl rfl rfl (hp _ _) ?_
          refine WJ_tk 9 (Rd_load rfl tk3) hp ?_ rfl (by kernel_rfl) rfl rfl rfl
          refine WJ_takeP 10 rfl (by kernel_rfl) (Rd_move rfl) rfl rfl rfl (hp _ _) ?_
          refine WJ_takeP 11 rfl (by kernel_rfl) (Rd_len_sv rfl rfl ud32) rfl rfl rfl (hp _ _) ?_
          first | refine WJ_takeP 12 rfl (by kernel_rfl) (Rd_isF (Rd_geqN rfl rfl)) rfl rfl rfl (hp _ _) ?_ | refine WJ_takeP 12 rfl (by kernel_rfl) (Rd_isF (Rd_geq rfl rfl)) rfl rfl rfl (hp _ _) ?_
          refine WJ_takeP 13 rfl (by kernel_rfl) (Rd_pickF rfl rfl) rfl rfl rfl (hp _ _) ?_
          refine WJ_takeP 14 rfl (by kernel_rfl) (Rd_move rfl) rfl rfl rfl (hp _ _) ?_
          refine WJ_takeP 15 rfl (by kernel_rfl) (Rd_move rfl) rfl rfl rfl (hp _ _) ?_
          refine WJ_takeP 16 rfl (by kernel_rfl) (Rd_fieldAddr rfl fo39_1) rfl rfl rfl (hp _ _) ?_
          refine WJ_tk 17 (Rd_load rfl tk3) hp ?_ rfl (by kernel_rfl) rfl rfl rfl
          refine WJ_takeP 18 rfl (by kernel_rfl) (Rd_index_sv x.1 rfl rfl ud32 sz9 (hj := by omega)) rfl rfl rfl (hp _ _) ?_
          refine WJ_tk 19 (Rd_load_sv rfl tk9 (j := 0)) hp ?_ rfl (by kernel_rfl) rfl rfl rfl
          refine WJ_takeP 20 rfl (by kernel_rfl) (Rd_fieldAddr rfl fo39_0) rfl rfl rfl (hp _ _) ?_
          refine WJ_tk 21 (Rd_load rfl tk9) hp ?_ rfl (by kernel_rfl) rfl rfl rfl
          refine WJ_takeP 22 rfl (by kernel_rfl) (Rd_isF (Rd_strne rfl rfl)) rfl rfl rfl (hp _ _) ?_
          refine WJ_takeP 23 rfl (by kernel_rfl) (Rd_pickF rfl rfl) rfl rfl rfl (hp _ _) ?_
          refine WJ_done (by kernel_rfl) ?_
          refine Ps_next hK24 ?_
          refine WC_condF rfl ?_
          refine WC_skip ?_
          refine Ps_next hK23 ?_
          refine WC_seq fun K25 hK25 => ?_
          refine WC_sr fun K26 hK26 => ?_
          refine WL_rd (Rd_fieldAddr rfl fo39_0) rfl rfl rfl ?_
          refine WL_rd (Rd_load rfl tk9) rfl rfl rfl ?_
          refine WL_rd (Rd_strlen rfl rfl ud9) rfl rfl rfl ?_
          refine WL_rd (Rd_fieldAddr rfl fo39_0) rfl rfl rfl ?_
          refine WL_rd (Rd_load rfl tk9) rfl rfl rfl ?_
          refine WL_rd (Rd_strlen rfl rfl ud9) rfl rfl rfl ?_
          refine WL_rd (Rd_isF (Rd_lssN rfl rfl)) rfl rfl rfl ?_
          refine WL_rd (Rd_move rfl) rfl rfl rfl ?_
          refine WL_rd (Rd_fieldAddr rfl fo39_0) rfl rfl rfl ?_
          refine WL_rd (Rd_load rfl tk9) rfl rfl rfl ?_
          refine WL_rd (Rd_strlen rfl rfl ud9) rfl rfl rfl ?_
          refine WL_rd (Rd_fieldAddr rfl fo39_0) rfl rfl rfl ?_
          refine WL_rd (Rd_load rfl tk9) rfl rfl rfl ?_
          refine WL_rd (Rd_strlen rfl rfl ud9) rfl rfl rfl ?_
          refine WL_rd (Rd_eqlN rfl rfl) rfl rfl rfl ?_
          refine WL_rd (Rd_move rfl) rfl rfl rfl ?_
          refine WL_bool 101 rfl (fun hg27 => ?_) (fun hg27 => ?_)
          · try simp only [decide_eq_true_eq, decide_eq_false_iff_not, Bool.not_eq_true', Bool.not_eq_false', Bool.not_eq_true, Bool.not_eq_false, Int.not_lt, Int.not_le, Nat.not_lt, Nat.not_le, Decidable.not_not, ne_eq] at hg27
            refine WL_rd (Rd_fieldAddr rfl fo39_1) rfl rfl rfl ?_
            refine WL_rd (Rd_load rfl tk3) rfl rfl rfl ?_
            refine WL_rd (Rd_fieldAddr rfl fo39_1) rfl rfl rfl ?_
            refine WL_rd (Rd_load rfl tk3) rfl rfl rfl ?_
            refine WL_rd (Rd_isF (Rd_leq rfl rfl)) rfl rfl rfl ?_
            refine WL_rd (Rd_pickT rfl rfl) rfl rfl rfl ?_
            refine WL_rd (Rd_pickF rfl rfl) rfl rfl rfl ?_
            refine WL_end hK26 ?_
            refine WC_condF rfl ?_
            refine WC_skip ?_
            refine Ps_next hK25 ?_
            refine WC_region ?_
            refine WL_rd (Rd_loadg rfl tk39) rfl rfl rfl ?_
            refine WL_ac0 (Ac_store rfl rfl sz39 (h1 := by simp [Value.cells, Value.oneCell', hI_itf, hP_itf])) rfl rfl ?_
            rintro _ _ rfl
            refine WL_nil ?_
            refine Ps_next hK21 ?_
            refine WC_region ?_
            refine WL_rd (Rd_move rfl) rfl rfl rfl ?_
            refine WL_rd (Rd_addN (j := 1) rfl rfl) rfl rfl rfl ?_
            refine WL_rd (Rd_assign rfl) rfl rfl rfl ?_
            refine WL_nil ?_
            refine Ps_wk ((Wk.cons (by first | rfl | (simp; done) | (simp; omega)) (Wk.cons (by first | rfl | (simp; done) | (simp; omega)) (Wk.cons (by first | rfl | (simp; done) | (simp; omega)) (Wk.cons (by first | rfl | (simp; done) | (simp; omega)) Wk.nil))))) (by first | with_reducible exact Sub.refl | (dsimp only; repeat (first | with_reducible exact Sub.refl | with_reducible exact Sub.nil | with_reducible refine Sub.cons (by repeat (first | with_reducible exact Ext.here | with_reducible apply Ext.there)) ?_ | with_reducible refine Sub.tail ?_))) (hK18 ⟨(takeM (pl ltP) () rows2 0).1, i2 + 1, x.2⟩ (⟨by dsimp only; omega, by dsimp only; rw [takeM_len]; omega, takeM_Hp ltP_od () (by omega) hH2, fun r hm => hr2 r (lastP_next hG2 hH2 hx0 (fun r h => (hr2 r h).2) r hm).1, fun r hm => (lastP_next hG2 hH2 hx0 (fun r h => (hr2 r h).2) r hm).2⟩) (by dsimp only; omega))
          · try simp only [decide_eq_true_eq, decide_eq_false_iff_not, Bool.not_eq_true', Bool.not_eq_false', Bool.not_eq_true, Bool.not_eq_false, Int.not_lt, Int.not_le, Nat.not_lt, Nat.not_le, Decidable.not_not, ne_eq] at hg27
            refine WL_skip rfl rfl rfl ?_
            refine WL_skip rfl rfl rfl ?_
            refine WL_skip rfl rfl rfl ?_
            refine WL_skip rfl rfl rfl ?_
            refine WL_skip rfl rfl rfl ?_
            refine WL_rd (Rd_pickF rfl rfl) rfl rfl rfl ?_
            refine WL_rd (Rd_pickF rfl rfl) rfl rfl rfl ?_
            refine WL_end hK26 ?_
            refine WC_condF rfl ?_
            refine WC_skip ?_
            refine Ps_next hK25 ?_
            refine WC_region ?_
            refine WL_rd (Rd_loadg rfl tk39) rfl rfl rfl ?_
            refine WL_ac0 (Ac_store rfl rfl sz39 (h1 := by simp [Value.cells, Value.oneCell', hI_itf, hP_itf])) rfl rfl ?_
            rintro _ _ rfl
            refine WL_nil ?_
            refine Ps_next hK21 ?_
            refine WC_region ?_
            refine WL_rd (Rd_move rfl) rfl rfl rfl ?_
            refine WL_rd (Rd_addN (j := 1) rfl rfl) rfl rfl rfl ?_
            refine WL_rd (Rd_assign rfl) rfl rfl rfl ?_
            refine WL_nil ?_
            refine Ps_wk ((Wk.cons (by first | rfl | (simp; done) | (simp; omega)) (Wk.cons (by first | rfl | (simp; done) | (simp; omega)) (Wk.cons (by first | rfl | (simp; done) | (simp; omega)) (Wk.cons (by first | rfl | (simp; done) | (simp; omega)) Wk.nil))))) (by first | with_reducible exact Sub.refl | (dsimp only; repeat (first | with_reducible exact Sub.refl | with_reducible exact Sub.nil | with_reducible refine Sub.cons (by repeat (first | with_reducible exact Ext.here | with_reducible apply Ext.there)) ?_ | with_reducible refine Sub.tail ?_))) (hK18 ⟨(takeM (pl ltP) () rows2 0).1, i2 + 1, x.2⟩ (⟨by dsimp only; omega, by dsimp only; rw [takeM_len]; omega, takeM_Hp ltP_od () (by omega) hH2, fun r hm => hr2 r (lastP_next hG2 hH2 hx0 (fun r h => (hr2 r h).2) r hm).1, fun r hm => (lastP_next hG2 hH2 hx0 (fun r h => (hr2 r h).2) r hm).2⟩) (by dsimp only; omega))
        · try simp only [decide_eq_true_eq, decide_eq_false_iff_not, Bool.not_eq_true', Bool.not_eq_false', Bool.not_eq_true, Bool.not_eq_false, Int.not_lt, Int.not_le, Nat.not_lt, Nat.not_le, Decidable.not_not, ne_eq] at hc4
          have hrn : rows2 = [] := List.eq_nil_of_length_eq_zero (by omega)
          subst hrn
          refine WC_exit ?_
          refine Ps_next hK16 ?_
          refine WC_sr fun K28 hK28 => ?_
          refine WL_rd (Rd_move rfl) rfl rfl rfl ?_
          refine WL_ac (Ac_call cf16 rfl (hs := hP_pop0_hp (lf := 14) (caps := []))) rfl rfl rfl ?_
          rintro _ _ ⟨⟨⟩, rfl, hA⟩
          simp only [List.cons_append, List.nil_append] at hA
          subst hA
          refine WL_rd (Rd_move rfl) rfl rfl rfl ?_
          refine WL_rd (Rd_ext0 rfl) rfl rfl rfl ?_
          refine WL_rd (Rd_ext1 rfl) rfl rfl rfl ?_
          refine WL_ac (Ac_alloc zr39) rfl rfl rfl ?_
          rintro _ _ ⟨b12, rfl, rfl⟩
          refine WL_ac0 (Ac_store rfl rfl sz39 (h1 := by simp [Value.cells, Value.oneCell', hI_itf, hP_itf])) rfl rfl ?_
          rintro _ _ rfl
          refine WL_rd (Rd_assign rfl) rfl rfl rfl ?_
          refine WL_end hK28 ?_
          refine WC_sr fun K29 hK29 => ?_
          refine WL_rd (Rd_move rfl) rfl rfl rfl ?_
          refine WL_rd (Rd_not rfl) rfl rfl rfl ?_
          refine WL_rd (Rd_assign rfl) rfl rfl rfl ?_
          refine WL_end hK29 ?_
          refine WC_ret ?_
          exact hret.go () (Rs1 rfl rfl)
end Go.Proofs.Ytcookmkklcbbnaa
