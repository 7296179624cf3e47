/-
  Contracts of functions that the claim reaches, or the logic and the plain laws that they rest on, or the row over them. (Conditions: none beyond the statement.)
-/
import Derived.Test.YtcookmkklcbbnaaHqSortB
import Derived.Test.YtcookmkklcbbnaaHpCall
import Derived.Test.YtcookmkklcbbnaaSlLend2
import Derived.Test.YtcookmkklcbbnaaLibR
set_option linter.all false
namespace Go.Proofs.Ytcookmkklcbbnaa
open Go.RowKit Go.SL Go.HpM Go.ShM 
set_option maxHeartbeats 1000000
set_option maxRecDepth 20000
set_option linter.all false
theorem cf69 : cfn Try.prog 69 = true := by kernel_rfl
theorem cf71 : cfn Try.prog 71 = true := by kernel_rfl
theorem sz55 : sz Try.prog 55 = some 1 := by kernel_rfl
theorem tk55 : tk Try.prog 55 = some none := by kernel_rfl
theorem zr55 : zr Try.prog 55 = some [.pointer none] := by kernel_rfl
theorem hI_turn {σ : Type} {J : σ → Asn} {lt : σ → Int → Int → Bool × σ} {lf : FuncId} {caps : List Value} (hcf : cfn Try.prog lf = true) (hless : ∀ s x y, Ct Try.prog lf ([.int .i64 x, .int .i64 y] ++ caps) [J s] (fun _ : Unit => .bool (lt s x y).1) (fun _ => [J (lt s x y).2])) {b len cap m made : Nat} {a : Option Nat} {rows : List (Nat × Int)} {s : σ} {t : Int} {i : Nat} {x : Nat × Int} {z : Int} (hi : rows[i]? = some x := by assumption) (ht : t = (x.1 : Int)) (hT : Tk rows := by assumption) (hlen : len = rows.length := by first | assumption | omega) (hcap : len ≤ 1000000000 := by omega) : Ct Try.prog 55 [.pointer (some ⟨b, 0, none⟩), .int .i64 t, .int .i64 z] [cl b 85 [(.func (.func lf) #[] caps.toArray), sl a len cap, .map (some m), .int .i64 ((made : Nat) : Int)], arr a cap 2 101 hI_itf (rows), mpI m (atOf (rows)), J s] (fun _ : Unit => .int .i64 0) (fun _ => [cl b 85 [(.func (.func lf) #[] caps.toArray), sl a len cap, .map (some m), .int .i64 ((made : Nat) : Int)], arr a cap 2 101 hI_itf ((turnM lt s rows i (x.1, z)).1), mpI m (atOf ((turnM lt s rows i (x.1, z)).1)), J (turnM lt s rows i (x.1, z)).2]) := by
  refine Ct_body (n := 37) Try.func55 rfl rfl rfl fun F w0 Q hret hnorm hp => ?_
  change WC _ _ _ _ _ _ _ (_ :: _ :: _ :: _ :: F)
  have hil := (List.getElem?_eq_some_iff.1 hi).1
  have hTs : Tk (rows.set i (x.1, z)) := by unfold Tk at hT ⊢; rw [set_fst (y := (x.1, z)) hi rfl]; exact hT
  have hsl : (rows.set i (x.1, z)).length = rows.length := List.length_set ..
  have hTd : Tk (downM lt s (rows.set i (x.1, z)) i).1 := Tk_perm (downM_perm lt _ i s _ (Nat.le_refl _)) hTs
  have hld : (downM lt s (rows.set i (x.1, z)) i).1.length = rows.length := by rw [(downM_perm lt _ i s _ (Nat.le_refl _)).length_eq]; exact hsl
  have hat : atOf rows = atOf (rows.set i (x.1, z)) := atOf_set hi
  refine WC_some (a := a) (by repeat (first | with_reducible exact Has.here | with_reducible refine Has.there ?_)) (by omega) (fun gb hgb _ => ?_)
  subst hgb
  rw [hat]
  refine WC_sr fun K1 hK1 => ?_
  refine WL_rd (Rd_assign rfl) rfl rfl rfl ?_
  refine WL_end hK1 ?_
  refine WC_seq fun K2 hK2 => ?_
  refine WC_sr fun K3 hK3 => ?_
  refine WL_rd (Rd_move rfl) rfl rfl rfl ?_
  refine WL_ac (Ac_call cf49 rfl (hs := hI_ok)) rfl rfl rfl ?_
  rintro _ _ ⟨⟨⟩, rfl, hA⟩
  simp only [List.cons_append, List.nil_append] at hA
  replace hA := hA.symm
  subst hA
  refine WL_rd (Rd_not rfl) rfl rfl rfl ?_
  refine WL_end hK3 ?_
  refine WC_condF rfl ?_
  refine WC_skip ?_
  refine Ps_next hK2 ?_
  refine WC_sr fun K4 hK4 => ?_
  refine WL_rd (Rd_move rfl) rfl rfl rfl ?_
  refine WL_rd (Rd_nilCheck rfl) rfl rfl rfl ?_
  refine WL_rd (Rd_fieldAddr rfl fo85_2) rfl rfl rfl ?_
  refine WL_rd (Rd_load rfl tk83) rfl rfl rfl ?_
  refine WL_rd (Rd_move rfl) rfl rfl rfl ?_
  refine WL_rd (Rd_lookup2s rfl rfl ud83 ud3 zv3 (hv := by rw [← hat]; subst ht; exact atOf_some hT hi)) rfl rfl rfl ?_
  refine WL_rd (Rd_move rfl) rfl rfl rfl ?_
  refine WL_rd (Rd_ext0 rfl) rfl rfl rfl ?_
  refine WL_rd (Rd_ext1 rfl) rfl rfl rfl ?_
  refine WL_rd (Rd_assign rfl) rfl rfl rfl ?_
  refine WL_rd (Rd_assign rfl) rfl rfl rfl ?_
  refine WL_end hK4 ?_
  refine WC_seq fun K5 hK5 => ?_
  refine WC_sr fun K6 hK6 => ?_
  refine WL_rd (Rd_move rfl) rfl rfl rfl ?_
  refine WL_rd (Rd_not rfl) rfl rfl rfl ?_
  refine WL_end hK6 ?_
  refine WC_condF rfl ?_
  refine WC_skip ?_
  refine Ps_next hK5 ?_
  refine WC_sr fun K7 hK7 => ?_
  refine WL_rd (Rd_move rfl) rfl rfl rfl ?_
  refine WL_rd (Rd_nilCheck rfl) rfl rfl rfl ?_
  refine WL_rd (Rd_fieldAddr rfl fo85_1) rfl rfl rfl ?_
  refine WL_rd (Rd_load rfl tk82) rfl rfl rfl ?_
  refine WL_rd (Rd_move rfl) rfl rfl rfl ?_
  refine WL_rd (Rd_move rfl) rfl rfl rfl ?_
  refine WL_rd (Rd_index _ rfl rfl ud82 sz101) rfl rfl rfl ?_
  refine WL_rd (Rd_fieldAddr rfl fo101_1) rfl rfl rfl ?_
  refine WL_ac0 (Ac_store_arr (x.1, z) rfl rfl sz3 (j := 1) (i := i) (hl := hi)) rfl rfl ?_
  rintro _ _ rfl
  refine WL_end hK7 ?_
  refine WC_sr fun K8 hK8 => ?_
  refine WL_rd (Rd_move rfl) rfl rfl rfl ?_
  refine WL_rd (Rd_move rfl) rfl rfl rfl ?_
  refine WL_ac (Ac_call cf66 rfl (hs := hI_down hcf hless (rows := (rows.set i (x.1, z))) (s := s) (i := i) (len := len) (hlen := by omega))) rfl rfl rfl ?_
  rintro _ _ ⟨⟨⟩, rfl, hA⟩
  simp only [List.cons_append, List.nil_append] at hA
  replace hA := hA.symm
  subst hA
  refine WL_end hK8 ?_
  refine WC_sr fun K9 hK9 => ?_
  refine WL_rd (Rd_move rfl) rfl rfl rfl ?_
  refine WL_rd (Rd_move rfl) rfl rfl rfl ?_
  refine WL_ac (Ac_call cf50 rfl (hs := hI_up hcf hless (rows := (downM lt s (rows.set i (x.1, z)) i).1) (s := (downM lt s (rows.set i (x.1, z)) i).2) (i := i) (len := len) (hlen := by omega))) rfl rfl rfl ?_
  rintro _ _ ⟨⟨⟩, rfl, hA⟩
  simp only [List.cons_append, List.nil_append] at hA
  replace hA := hA.symm
  subst hA
  rw [show upM lt (downM lt s (rows.set i (x.1, z)) i).2 (downM lt s (rows.set i (x.1, z)) i).1 i = (turnM lt s rows i (x.1, z)) from rfl]
  refine WL_end hK9 ?_
  refine WC_sr fun K10 hK10 => ?_
  refine WL_rd (Rd_assign rfl) rfl rfl rfl ?_
  refine WL_end hK10 ?_
  refine WC_ret ?_
  exact hret.go () (Rs1 rfl rfl)

theorem hI_turn_no {lf : FuncId} {caps : List Value} {b len cap m made : Nat} {a : Option Nat} {rows : List (Nat × Int)} {t : Int} {z : Int} (ht : ∀ r ∈ rows, (r.1 : Int) ≠ t) : Ct Try.prog 55 [.pointer (some ⟨b, 0, none⟩), .int .i64 t, .int .i64 z] [cl b 85 [(.func (.func lf) #[] caps.toArray), sl a len cap, .map (some m), .int .i64 ((made : Nat) : Int)], arr a cap 2 101 hI_itf (rows), mpI m (atOf (rows))] (fun _ : Unit => .int .i64 171) (fun _ => [cl b 85 [(.func (.func lf) #[] caps.toArray), sl a len cap, .map (some m), .int .i64 ((made : Nat) : Int)], arr a cap 2 101 hI_itf (rows), mpI m (atOf (rows))]) := by
  refine Ct_body (n := 37) Try.func55 rfl rfl rfl fun F w0 Q hret hnorm hp => ?_
  change WC _ _ _ _ _ _ _ (_ :: _ :: _ :: F)
  refine WC_sr fun K1 hK1 => ?_
  refine WL_rd (Rd_assign rfl) rfl rfl rfl ?_
  refine WL_end hK1 ?_
  refine WC_seq fun K2 hK2 => ?_
  refine WC_sr fun K3 hK3 => ?_
  refine WL_rd (Rd_move rfl) rfl rfl rfl ?_
  refine WL_ac (Ac_call cf49 rfl (hs := hI_ok)) rfl rfl rfl ?_
  rintro _ _ ⟨⟨⟩, rfl, hA⟩
  simp only [List.cons_append, List.nil_append] at hA
  replace hA := hA.symm
  subst hA
  refine WL_rd (Rd_not rfl) rfl rfl rfl ?_
  refine WL_end hK3 ?_
  refine WC_condF rfl ?_
  refine WC_skip ?_
  refine Ps_next hK2 ?_
  refine WC_sr fun K4 hK4 => ?_
  refine WL_rd (Rd_move rfl) rfl rfl rfl ?_
  refine WL_rd (Rd_nilCheck rfl) rfl rfl rfl ?_
  refine WL_rd (Rd_fieldAddr rfl fo85_2) rfl rfl rfl ?_
  refine WL_rd (Rd_load rfl tk83) rfl rfl rfl ?_
  refine WL_rd (Rd_move rfl) rfl rfl rfl ?_
  refine WL_rd (Rd_lookup2n rfl rfl ud83 ud3 zv3 (hv := atOf_none ht)) rfl rfl rfl ?_
  refine WL_rd (Rd_move rfl) rfl rfl rfl ?_
  refine WL_rd (Rd_ext0 rfl) rfl rfl rfl ?_
  refine WL_rd (Rd_ext1 rfl) rfl rfl rfl ?_
  refine WL_rd (Rd_assign rfl) rfl rfl rfl ?_
  refine WL_rd (Rd_assign rfl) rfl rfl rfl ?_
  refine WL_end hK4 ?_
  refine WC_seq fun K5 hK5 => ?_
  refine WC_sr fun K6 hK6 => ?_
  refine WL_rd (Rd_move rfl) rfl rfl rfl ?_
  refine WL_rd (Rd_not rfl) rfl rfl rfl ?_
  refine WL_end hK6 ?_
  refine WC_condT rfl ?_
  refine WC_sr fun K7 hK7 => ?_
  refine WL_rd (Rd_assign rfl) rfl rfl rfl ?_
  refine WL_end hK7 ?_
  refine WC_ret ?_
  exact hret.go () (Rs1 rfl rfl)

theorem hI_turn_hp {σ : Type} {J : σ → Asn} {lt : σ → Int → Int → Bool × σ} {lf : FuncId} {caps : List Value} (hcf : cfn Try.prog lf = true) (hless : ∀ s x y, Ct Try.prog lf ([.int .i64 x, .int .i64 y] ++ caps) [J s] (fun _ : Unit => .bool (lt s x y).1) (fun _ => [J (lt s x y).2])) {b made : Nat} {rows : List (Nat × Int)} {s : σ} {t : Int} {i : Nat} {x : Nat × Int} {z : Int} (hi : rows[i]? = some x := by assumption) (ht : t = (x.1 : Int)) (hm : made ≤ 900000000 := by omega) : Ct Try.prog 55 [.pointer (some ⟨b, 0, none⟩), .int .i64 t, .int .i64 z] [hI_hpA (.func (.func lf) #[] caps.toArray) b rows made, J s] (fun _ : Unit => .int .i64 0) (fun _ => [hI_hpA (.func (.func lf) #[] caps.toArray) b ((turnM lt s rows i (x.1, z)).1) made, J (turnM lt s rows i (x.1, z)).2]) :=
  Ct_way fun F w hs => by
    obtain ⟨⟨a, cap, m⟩, hG, hs⟩ := hI_hp_open.1 hs
    have hGl := hG.len
    refine ⟨_, _, _, _, hI_turn hcf hless (b := b) (a := a) (cap := cap) (m := m) (s := s) (x := x) (z := z) (i := i) (ht := ht) (hT := hG.1) (hlen := rfl), hs, fun r w' hw => ⟨(), rfl, hI_hp_open.2 ⟨(a, cap, m), (hG.set (y := (x.1, z)) hi rfl).perm (turnM_perm lt s rows i (x.1, z)), by unfold hI_hpB; rw [(turnM_perm lt s rows i (x.1, z)).length_eq, List.length_set]; exact hw⟩⟩⟩

theorem hI_turn_no_hp {lf : FuncId} {caps : List Value} {b made : Nat} {rows : List (Nat × Int)} {t : Int} {z : Int} (ht : ∀ r ∈ rows, (r.1 : Int) ≠ t) : Ct Try.prog 55 [.pointer (some ⟨b, 0, none⟩), .int .i64 t, .int .i64 z] [hI_hpA (.func (.func lf) #[] caps.toArray) b rows made] (fun _ : Unit => .int .i64 171) (fun _ => [hI_hpA (.func (.func lf) #[] caps.toArray) b rows made]) :=
  Ct_way fun F w hs => by
    obtain ⟨⟨a, cap, m⟩, hG, hs⟩ := hI_hp_open.1 hs
    have hGl := hG.len
    exact ⟨_, _, _, _, (hI_turn_no (b := b) (a := a) (cap := cap) (m := m) (len := rows.length) (made := made) (lf := lf) (caps := caps) (ht := ht)), hs, fun r w' hw => ⟨(), rfl, hI_hp_open.2 ⟨(a, cap, m), hG, hw⟩⟩⟩

theorem hI_enc : Enc hI_itf 2 := ⟨hI_itf_len, hI_itf_one⟩
theorem hI_nilS {A : List Asn} {v : Value} {e : Nat} {f : Nat × Int → List Value} {l : List (Nat × Int)} {ao : Option Addr} {cap : Nat} (h : Sv A v e f l ao cap) (hn : ao.isNone = true) : l = [] := by
  rcases Nat.eq_zero_or_pos l.length with q | q
  · exact List.eq_nil_of_length_eq_zero q
  · have := h.ptr q
    rw [this] at hn; cases hn
/-- a copy: no ticket is given by it -/
def hI_cpA (lv : Value) (b : Nat) (rows : List (Nat × Int)) : Asn := fun h => ∃ x, Tk rows ∧ sep (hI_hpB lv b rows 0 x) h
theorem hI_cp_open {lv : Value} {b : Nat} {rows : List (Nat × Int)} {R : List Asn} {w : World} : sat w (hI_cpA lv b rows :: R) ↔ ∃ x, Tk rows ∧ sat w (hI_hpB lv b rows 0 x ++ R) := by
  unfold hI_cpA; rw [sat_ex]; exact exists_congr fun x => sat_and.trans (and_congr_right fun _ => sat_app)

theorem hI_cloneI {X : Asn} {v : Value} {l : List (Nat × Int)} {ao : Option Addr} {cap2 : Nat} (hS : Sv [X] v 2 hI_itf l ao cap2 := by assumption) (hl : l.length ≤ 900000000 := by omega) : Ct Try.prog 71 [v] [X] (fun g : Option Nat × Nat => sl g.1 l.length g.2) (fun g => [X, arr g.1 g.2 2 101 hI_itf (l)]) := by
  refine Ct_body (n := 8) Try.func71 rfl rfl rfl fun F w0 Q hret hnorm hp => ?_
  change WC _ _ _ _ _ _ _ (_ :: F)
  have hv0 := hS.val
  subst hv0
  refine WC_sr fun K1 hK1 => ?_
  refine WL_rd (Rd_assign (v := sl none 0 0) rfl) rfl rfl rfl ?_
  refine WL_end hK1 ?_
  refine WC_seq fun K2 hK2 => ?_
  refine WC_sr fun K3 hK3 => ?_
  refine WL_rd (Rd_move rfl) rfl rfl rfl ?_
  refine WL_rd (Rd_seq rfl rfl ud82) rfl rfl rfl ?_
  refine WL_end hK3 ?_
  refine WC_cond rfl (fun hc0 => ?_) (fun hc0 => ?_)
  · try simp only [decide_eq_true_eq, decide_eq_false_iff_not, Bool.not_eq_true', Bool.not_eq_false', Bool.not_eq_true, Bool.not_eq_false, Int.not_lt, Int.not_le, Nat.not_lt, Nat.not_le, Decidable.not_not, ne_eq] at hc0
    have hnil := hI_nilS hS hc0
    subst hnil
    refine WC_imp (fun w h => sat_nil (e := 2) (T := 101) (f := hI_itf) h) ?_
    refine WC_sr fun K4 hK4 => ?_
    refine WL_rd (Rd_assign (v := sl none 0 0) rfl) rfl rfl rfl ?_
    refine WL_end hK4 ?_
    refine WC_ret ?_
    first | exact hret.go (none, 0) (Rs1 rfl rfl) | exact hret.go (a7, cap7) (Rs1 rfl rfl)
  · try simp only [decide_eq_true_eq, decide_eq_false_iff_not, Bool.not_eq_true', Bool.not_eq_false', Bool.not_eq_true, Bool.not_eq_false, Int.not_lt, Int.not_le, Nat.not_lt, Nat.not_le, Decidable.not_not, ne_eq] at hc0
    refine WC_skip ?_
    refine Ps_next hK2 ?_
    refine WC_sr fun K5 hK5 => ?_
    refine WL_ac (Ac_bsL (f := hI_itf) (zs := [.int .i64 0, .int .i64 0]) (bs := []) [] hI_enc ud82 zr101 sz101 rfl (by rw [Array.toList_map, Array.toList_range]; rfl) (by rfl) (by rfl) (by rfl) (by rfl)) rfl rfl rfl ?_
    rintro _ _ ⟨b5, rfl, rfl⟩
    refine WL_rd (Rd_move rfl) rfl rfl rfl ?_
    refine WL_ac (Ac_appendS (f := hI_itf) hI_enc rfl rfl ud82 ud82 el101 (hS := hS) (hb := by simp only [List.length_nil]; omega)) rfl rfl rfl ?_
    rintro _ _ ⟨a7, cap7, rfl, rfl⟩
    rw [show ([] : List (Nat × Int)).length + l.length = l.length from Nat.zero_add _, List.nil_append]
    refine WL_rd (Rd_assign rfl) rfl rfl rfl ?_
    refine WL_end hK5 ?_
    refine WC_ret ?_
    first | exact hret.go (none, 0) (Rs1 rfl rfl) | exact hret.go (a7, cap7) (Rs1 rfl rfl)

theorem hI_copied {lf : FuncId} {caps : List Value} {b len cap m made : Nat} {a : Option Nat} {rows : List (Nat × Int)} (hT : Tk rows := by assumption) (hlen : len = rows.length := by first | assumption | omega) (hcap : len ≤ 900000000 := by omega) : Ct Try.prog 69 [.pointer (some ⟨b, 0, none⟩)] [cl b 85 [(.func (.func lf) #[] caps.toArray), sl a len cap, .map (some m), .int .i64 ((made : Nat) : Int)], arr a cap 2 101 hI_itf (rows)] (fun g : Nat × Option Nat × Nat × Nat => .pointer (some ⟨g.1, 0, none⟩)) (fun g => [cl b 85 [(.func (.func lf) #[] caps.toArray), sl a len cap, .map (some m), .int .i64 ((made : Nat) : Int)], arr a cap 2 101 hI_itf (rows), cl g.1 85 [(.func (.func lf) #[] caps.toArray), sl g.2.1 len g.2.2.1, .map (some g.2.2.2), .int .i64 ((0 : Nat) : Int)], arr g.2.1 g.2.2.1 2 101 hI_itf (rows), mpI g.2.2.2 (atOf (rows))]) := by
  refine Ct_body (n := 37) Try.func69 rfl rfl rfl fun F w0 Q hret hnorm hp => ?_
  change WC _ _ _ _ _ _ _ (_ :: _ :: F)
  refine WC_fact (fun w h => arr_facts (a := a) (cap := cap) (e := 2) (T := 101) (f := hI_itf) (l := rows) (by repeat (first | with_reducible exact Has.here | with_reducible refine Has.there ?_)) h) (fun hrf => ?_)
  have hRS : Sv [arr a cap 2 101 hI_itf (rows)] (sl a len cap) 2 hI_itf rows (a.map fun g => ⟨g, 0, none⟩) cap := by rw [hlen]; exact Sv_own' hI_enc hrf.1 hrf.2
  refine WC_sr fun K1 hK1 => ?_
  refine WL_rd (Rd_assign rfl) rfl rfl rfl ?_
  refine WL_end hK1 ?_
  refine WC_seq fun K2 hK2 => ?_
  refine WC_drawA mix (fun i => ([2, 2, 2, 2, 2, 2, 2, 2, 1, 1, 2, 1, 2] : List Nat).getD i 0) ?_
  refine WJ_takeP 0 rfl (by kernel_rfl) (Rd_move rfl) rfl rfl rfl (hp _ _) ?_
  refine WJ_takeP 1 rfl (by kernel_rfl) (Rd_nilCheck rfl) rfl rfl rfl (hp _ _) ?_
  refine WJ_takeP 2 rfl (by kernel_rfl) (Rd_fieldAddr rfl fo85_0) rfl rfl rfl (hp _ _) ?_
  refine WJ_tk 3 (Rd_load rfl tk50) hp ?_ rfl (by kernel_rfl) rfl rfl rfl
  refine WJ_takeP 4 rfl (by kernel_rfl) (Rd_move rfl) rfl rfl rfl (hp _ _) ?_
  refine WJ_takeP 5 rfl (by kernel_rfl) (Rd_nilCheck rfl) rfl rfl rfl (hp _ _) ?_
  refine WJ_takeP 6 rfl (by kernel_rfl) (Rd_fieldAddr rfl fo85_1) rfl rfl rfl (hp _ _) ?_
  refine WJ_tk 7 (Rd_load rfl tk82) hp ?_ rfl (by kernel_rfl) rfl rfl rfl
  refine WJ_all (rs := [8, 9]) (by kernel_rfl) rfl ?_
  refine WI_cons ?_ (WI_cons ?_ (by intro _ h; cases h))
  · skip
    refine WI_ac rfl (Ac_call cf71 rfl (hs := hI_cloneI (X := arr a cap 2 101 hI_itf (rows)) (v := sl a len cap) (l := rows) (hS := hRS))) rfl rfl rfl rfl ?_
    rintro _ _ ⟨⟨a14, cap14⟩, rfl, hA⟩
    simp only [List.cons_append, List.nil_append] at hA
    replace hA := hA.symm
    subst hA
    rw [← hlen]
    refine ⟨(fun _ => (by repeat (first | with_reducible exact Sub.refl | with_reducible exact Sub.nil | with_reducible refine Sub.cons (by repeat (first | with_reducible exact Ext.here | with_reducible apply Ext.there)) ?_ | with_reducible refine Sub.tail ?_))), ?_⟩
    refine WJ_all (rs := [9]) (by kernel_rfl) rfl ?_
    refine WI_one ?_
    refine WI_ac rfl (Ac_makeMap) rfl rfl rfl rfl ?_
    rintro _ _ ⟨m15, rfl, rfl⟩
    rw [show (fun _ : Int => (none : Option Value)) = atOf ([] : List (Nat × Int)) from rfl]
    refine ⟨(fun _ => (by repeat (first | with_reducible exact Sub.refl | with_reducible exact Sub.nil | with_reducible refine Sub.cons (by repeat (first | with_reducible exact Ext.here | with_reducible apply Ext.there)) ?_ | with_reducible refine Sub.tail ?_))), ?_⟩
    refine WJ_takeP 10 rfl (by kernel_rfl) (Rd_build pls85 rfl) rfl rfl rfl (hp _ _) ?_
    refine WJ_all (rs := [11]) (by kernel_rfl) rfl ?_
    refine WI_one ?_
    refine WI_ac rfl (Ac_box (xs := [(.func (.func lf) #[] caps.toArray), sl a14 len cap14, .map (some m15), .int .i64 ((0 : Nat) : Int)]) rfl rfl) rfl rfl rfl rfl ?_
    rintro _ _ ⟨b17, rfl, rfl⟩
    refine ⟨(fun _ => (by repeat (first | with_reducible exact Sub.refl | with_reducible exact Sub.nil | with_reducible refine Sub.cons (by repeat (first | with_reducible exact Ext.here | with_reducible apply Ext.there)) ?_ | with_reducible refine Sub.tail ?_))), ?_⟩
    refine WJ_takeP 12 rfl (by kernel_rfl) (Rd_assign rfl) rfl rfl rfl (hp _ _) ?_
    refine WJ_done (by kernel_rfl) ?_
    refine Ps_next hK2 ?_
    refine WC_seq fun K3 hK3 => ?_
    refine WC_sr fun K4 hK4 => ?_
    refine WL_rd (Rd_move rfl) rfl rfl rfl ?_
    refine WL_rd (Rd_nilCheck rfl) rfl rfl rfl ?_
    refine WL_rd (Rd_fieldAddr rfl fo85_1) rfl rfl rfl ?_
    refine WL_rd (Rd_load rfl tk82) rfl rfl rfl ?_
    refine WL_rd (Rd_len rfl rfl ud82) rfl rfl rfl ?_
    refine WL_rd (Rd_move rfl) rfl rfl rfl ?_
    refine WL_end hK4 ?_
    refine WC_block ?_
    rw [show mpI m15 (atOf ([] : List (Nat × Int))) = mpI m15 (atOf (rows.take 0)) from rfl]
    refine WC_loopK (σ := Nat) (fun k => [(23, .int .i64 ((k : Nat) : Int))]) (fun k => [mpI m15 (atOf (rows.take k))]) (fun k => k ≤ len) (fun k => len - k) (0) [2, 3, 21, 22, 36] (by repeat (first | exact Kep.nil | apply Kep.drop rfl | apply Kep.keep rfl)) (by (try dsimp only); repeat (first | with_reducible exact Gv.nil | (with_reducible apply Gv.cons; · (repeat (first | with_reducible exact Ext.here | with_reducible apply Ext.there))))) ?_ ?_ Sub.refl ?_
    · exact Nat.zero_le _
    · (try dsimp only); exact (Wk.cons (by first | rfl | (simp only [List.length_append, List.length_cons, List.length_nil, List.length_replicate, Nat.zero_add]; rfl) | (simp; done)) Wk.nil)
    · rintro k hk K5 hK5
      simp only [List.cons_append, List.nil_append]
      refine WC_sr fun K6 hK6 => ?_
      refine WL_rd (Rd_lssN rfl rfl) rfl rfl rfl ?_
      refine WL_end hK6 ?_
      refine WC_seq fun K7 hK7 => ?_
      refine WC_cond rfl (fun hc0 => ?_) (fun hc0 => ?_)
      · try simp only [decide_eq_true_eq, decide_eq_false_iff_not, Bool.not_eq_true', Bool.not_eq_false', Bool.not_eq_true, Bool.not_eq_false, Int.not_lt, Int.not_le, Nat.not_lt, Nat.not_le, Decidable.not_not, ne_eq] at hc0
        obtain ⟨x, hx⟩ : ∃ x, rows[k]? = some x := ⟨_, List.getElem?_eq_getElem (by omega)⟩
        refine WC_some (a := a14) (by repeat (first | with_reducible exact Has.here | with_reducible refine Has.there ?_)) (by omega) (fun gb hgb _ => ?_)
        subst hgb
        refine WC_skip ?_
        refine Ps_next hK7 ?_
        refine WC_seq fun K8 hK8 => ?_
        refine WC_block ?_
        refine WC_sr fun K9 hK9 => ?_
        refine WL_rd (Rd_move rfl) rfl rfl rfl ?_
        refine WL_rd (Rd_index k rfl rfl ud82 sz101 (hi := by omega)) rfl rfl rfl ?_
        refine WL_rd (Rd_loadg_arr (f := hI_itf) (i := k) rfl tk101 (hl := hx)) rfl rfl rfl ?_
        refine WL_ac (Ac_alloc zr101) rfl rfl rfl ?_
        rintro _ _ ⟨b5, rfl, rfl⟩
        refine WL_rd (Rd_assign rfl) rfl rfl rfl ?_
        refine WL_ac0 (Ac_store (ys := hI_itf x) rfl rfl sz101 (h1 := hI_itf_one x) (hr := rfl)) rfl rfl ?_
        rintro _ _ rfl
        refine WL_end hK9 ?_
        refine WC_drawA mix (fun i => ([2, 2, 2, 2, 2, 2, 2, 0] : List Nat).getD i 0) ?_
        refine WJ_takeP 0 rfl (by kernel_rfl) (Rd_move rfl) rfl rfl rfl (hp _ _) ?_
        refine WJ_takeP 1 rfl (by kernel_rfl) (Rd_nilCheck rfl) rfl rfl rfl (hp _ _) ?_
        refine WJ_takeP 2 rfl (by kernel_rfl) (Rd_fieldAddr rfl fo85_2) rfl rfl rfl (hp _ _) ?_
        refine WJ_tk 3 (Rd_load rfl tk83) hp ?_ rfl (by kernel_rfl) rfl rfl rfl
        refine WJ_takeP 4 rfl (by kernel_rfl) (Rd_fieldAddr rfl fo101_0) rfl rfl rfl (hp _ _) ?_
        refine WJ_tk 5 (Rd_load rfl tk3 (v := .int .i64 ((x.1 : Nat) : Int))) hp ?_ rfl (by kernel_rfl) rfl rfl rfl
        refine WJ_takeP 6 rfl (by kernel_rfl) (Rd_move rfl) rfl rfl rfl (hp _ _) ?_
        refine WJ_all (rs := [7]) (by kernel_rfl) rfl ?_
        refine WI_one ?_
        refine WI_ac0 rfl (Ac_mapUpdate rfl rfl rfl ud83 ud3) rfl rfl rfl ?_
        rintro _ _ rfl
        rw [show upd (atOf (rows.take k)) (x.1 : Int) (some (.int .i64 (k : Int))) = atOf (rows.take (k + 1)) from at_grow hT hx]
        refine ⟨(fun h => by cases h), ?_⟩
        refine WJ_done (by kernel_rfl) ?_
        refine Ps_next hK8 ?_
        refine WC_region ?_
        refine WL_rd (Rd_addN (j := 1) rfl rfl) rfl rfl rfl ?_
        refine WL_rd (Rd_move rfl) rfl rfl rfl ?_
        refine WL_nil ?_
        refine Ps_wk (by (try simp only [List.cons_append, List.nil_append]); repeat (first | with_reducible exact Wk.nil | refine Wk.cons (by first | rfl | (simp only [List.length_append, List.length_cons, List.length_nil, List.length_replicate, Nat.zero_add]; rfl) | (simp; done)) ?_)) (by (try simp only [List.cons_append, List.nil_append]); repeat (first | with_reducible exact Sub.refl | with_reducible exact Sub.nil | with_reducible refine Sub.cons (by repeat (first | with_reducible exact Ext.here | with_reducible apply Ext.there)) ?_ | with_reducible refine Sub.tail ?_)) (hK5 (k + 1) (by omega) (by omega))
      · try simp only [decide_eq_true_eq, decide_eq_false_iff_not, Bool.not_eq_true', Bool.not_eq_false', Bool.not_eq_true, Bool.not_eq_false, Int.not_lt, Int.not_le, Nat.not_lt, Nat.not_le, Decidable.not_not, ne_eq] at hc0
        obtain rfl : k = len := by omega
        rw [show rows.take k = rows from List.take_of_length_le (by omega)]
        refine WC_exit ?_
        refine Ps_next hK3 ?_
        refine WC_sr fun K10 hK10 => ?_
        refine WL_rd (Rd_move rfl) rfl rfl rfl ?_
        refine WL_rd (Rd_assign rfl) rfl rfl rfl ?_
        refine WL_end hK10 ?_
        refine WC_ret ?_
        exact hret.go (b17, a14, cap14, m15) (Rs1 rfl rfl)
  · skip
    refine WI_ac rfl (Ac_makeMap) rfl rfl rfl rfl ?_
    rintro _ _ ⟨m15, rfl, rfl⟩
    rw [show (fun _ : Int => (none : Option Value)) = atOf ([] : List (Nat × Int)) from rfl]
    refine ⟨(fun _ => (by repeat (first | with_reducible exact Sub.refl | with_reducible exact Sub.nil | with_reducible refine Sub.cons (by repeat (first | with_reducible exact Ext.here | with_reducible apply Ext.there)) ?_ | with_reducible refine Sub.tail ?_))), ?_⟩
    refine WJ_all (rs := [8]) (by kernel_rfl) rfl ?_
    refine WI_one ?_
    refine WI_ac rfl (Ac_call cf71 rfl (hs := hI_cloneI (X := arr a cap 2 101 hI_itf (rows)) (v := sl a len cap) (l := rows) (hS := hRS))) rfl rfl rfl rfl ?_
    rintro _ _ ⟨⟨a14, cap14⟩, rfl, hA⟩
    simp only [List.cons_append, List.nil_append] at hA
    replace hA := hA.symm
    subst hA
    rw [← hlen]
    refine ⟨(fun _ => (by repeat (first | with_reducible exact Sub.refl | with_reducible exact Sub.nil | with_reducible refine Sub.cons (by repeat (first | with_reducible exact Ext.here | with_reducible apply Ext.there)) ?_ | with_reducible refine Sub.tail ?_))), ?_⟩
    refine WJ_takeP 10 rfl (by kernel_rfl) (Rd_build pls85 rfl) rfl rfl rfl (hp _ _) ?_
    refine WJ_all (rs := [11]) (by kernel_rfl) rfl ?_
    refine WI_one ?_
    refine WI_ac rfl (Ac_box (xs := [(.func (.func lf) #[] caps.toArray), sl a14 len cap14, .map (some m15), .int .i64 ((0 : Nat) : Int)]) rfl rfl) rfl rfl rfl rfl ?_
    rintro _ _ ⟨b17, rfl, rfl⟩
    refine ⟨(fun _ => (by repeat (first | with_reducible exact Sub.refl | with_reducible exact Sub.nil | with_reducible refine Sub.cons (by repeat (first | with_reducible exact Ext.here | with_reducible apply Ext.there)) ?_ | with_reducible refine Sub.tail ?_))), ?_⟩
    refine WJ_takeP 12 rfl (by kernel_rfl) (Rd_assign rfl) rfl rfl rfl (hp _ _) ?_
    refine WJ_done (by kernel_rfl) ?_
    refine Ps_next hK2 ?_
    refine WC_seq fun K11 hK11 => ?_
    refine WC_sr fun K12 hK12 => ?_
    refine WL_rd (Rd_move rfl) rfl rfl rfl ?_
    refine WL_rd (Rd_nilCheck rfl) rfl rfl rfl ?_
    refine WL_rd (Rd_fieldAddr rfl fo85_1) rfl rfl rfl ?_
    refine WL_rd (Rd_load rfl tk82) rfl rfl rfl ?_
    refine WL_rd (Rd_len rfl rfl ud82) rfl rfl rfl ?_
    refine WL_rd (Rd_move rfl) rfl rfl rfl ?_
    refine WL_end hK12 ?_
    refine WC_block ?_
    rw [show mpI m15 (atOf ([] : List (Nat × Int))) = mpI m15 (atOf (rows.take 0)) from rfl]
    refine WC_loopK (σ := Nat) (fun k => [(23, .int .i64 ((k : Nat) : Int))]) (fun k => [mpI m15 (atOf (rows.take k))]) (fun k => k ≤ len) (fun k => len - k) (0) [2, 3, 21, 22, 36] (by repeat (first | exact Kep.nil | apply Kep.drop rfl | apply Kep.keep rfl)) (by (try dsimp only); repeat (first | with_reducible exact Gv.nil | (with_reducible apply Gv.cons; · (repeat (first | with_reducible exact Ext.here | with_reducible apply Ext.there))))) ?_ ?_ Sub.refl ?_
    · exact Nat.zero_le _
    · (try dsimp only); exact (Wk.cons (by first | rfl | (simp only [List.length_append, List.length_cons, List.length_nil, List.length_replicate, Nat.zero_add]; rfl) | (simp; done)) Wk.nil)
    · rintro k hk K13 hK13
      simp only [List.cons_append, List.nil_append]
      refine WC_sr fun K14 hK14 => ?_
      refine WL_rd (Rd_lssN rfl rfl) rfl rfl rfl ?_
      refine WL_end hK14 ?_
      refine WC_seq fun K15 hK15 => ?_
      refine WC_cond rfl (fun hc0 => ?_) (fun hc0 => ?_)
      · try simp only [decide_eq_true_eq, decide_eq_false_iff_not, Bool.not_eq_true', Bool.not_eq_false', Bool.not_eq_true, Bool.not_eq_false, Int.not_lt, Int.not_le, Nat.not_lt, Nat.not_le, Decidable.not_not, ne_eq] at hc0
        obtain ⟨x, hx⟩ : ∃ x, rows[k]? = some x := ⟨_, List.getElem?_eq_getElem (by omega)⟩
        refine WC_some (a := a14) (by repeat (first | with_reducible exact Has.here | with_reducible refine Has.there ?_)) (by omega) (fun gb hgb _ => ?_)
        subst hgb
        refine WC_skip ?_
        refine Ps_next hK15 ?_
        refine WC_seq fun K16 hK16 => ?_
        refine WC_block ?_
        refine WC_sr fun K17 hK17 => ?_
        refine WL_rd (Rd_move rfl) rfl rfl rfl ?_
        refine WL_rd (Rd_index k rfl rfl ud82 sz101 (hi := by omega)) rfl rfl rfl ?_
        refine WL_rd (Rd_loadg_arr (f := hI_itf) (i := k) rfl tk101 (hl := hx)) rfl rfl rfl ?_
        refine WL_ac (Ac_alloc zr101) rfl rfl rfl ?_
        rintro _ _ ⟨b5, rfl, rfl⟩
        refine WL_rd (Rd_assign rfl) rfl rfl rfl ?_
        refine WL_ac0 (Ac_store (ys := hI_itf x) rfl rfl sz101 (h1 := hI_itf_one x) (hr := rfl)) rfl rfl ?_
        rintro _ _ rfl
        refine WL_end hK17 ?_
        refine WC_drawA mix (fun i => ([2, 2, 2, 2, 2, 2, 2, 0] : List Nat).getD i 0) ?_
        refine WJ_takeP 0 rfl (by kernel_rfl) (Rd_move rfl) rfl rfl rfl (hp _ _) ?_
        refine WJ_takeP 1 rfl (by kernel_rfl) (Rd_nilCheck rfl) rfl rfl rfl (hp _ _) ?_
        refine WJ_takeP 2 rfl (by kernel_rfl) (Rd_fieldAddr rfl fo85_2) rfl rfl rfl (hp _ _) ?_
        refine WJ_tk 3 (Rd_load rfl tk83) hp ?_ rfl (by kernel_rfl) rfl rfl rfl
        refine WJ_takeP 4 rfl (by kernel_rfl) (Rd_fieldAddr rfl fo101_0) rfl rfl rfl (hp _ _) ?_
        refine WJ_tk 5 (Rd_load rfl tk3 (v := .int .i64 ((x.1 : Nat) : Int))) hp ?_ rfl (by kernel_rfl) rfl rfl rfl
        refine WJ_takeP 6 rfl (by kernel_rfl) (Rd_move rfl) rfl rfl rfl (hp _ _) ?_
        refine WJ_all (rs := [7]) (by kernel_rfl) rfl ?_
        refine WI_one ?_
        refine WI_ac0 rfl (Ac_mapUpdate rfl rfl rfl ud83 ud3) rfl rfl rfl ?_
        rintro _ _ rfl
        rw [show upd (atOf (rows.take k)) (x.1 : Int) (some (.int .i64 (k : Int))) = atOf (rows.take (k + 1)) from at_grow hT hx]
        refine ⟨(fun h => by cases h), ?_⟩
        refine WJ_done (by kernel_rfl) ?_
        refine Ps_next hK16 ?_
        refine WC_region ?_
        refine WL_rd (Rd_addN (j := 1) rfl rfl) rfl rfl rfl ?_
        refine WL_rd (Rd_move rfl) rfl rfl rfl ?_
        refine WL_nil ?_
        refine Ps_wk (by (try simp only [List.cons_append, List.nil_append]); repeat (first | with_reducible exact Wk.nil | refine Wk.cons (by first | rfl | (simp only [List.length_append, List.length_cons, List.length_nil, List.length_replicate, Nat.zero_add]; rfl) | (simp; done)) ?_)) (by (try simp only [List.cons_append, List.nil_append]); repeat (first | with_reducible exact Sub.refl | with_reducible exact Sub.nil | with_reducible refine Sub.cons (by repeat (first | with_reducible exact Ext.here | with_reducible apply Ext.there)) ?_ | with_reducible refine Sub.tail ?_)) (hK13 (k + 1) (by omega) (by omega))
      · try simp only [decide_eq_true_eq, decide_eq_false_iff_not, Bool.not_eq_true', Bool.not_eq_false', Bool.not_eq_true, Bool.not_eq_false, Int.not_lt, Int.not_le, Nat.not_lt, Nat.not_le, Decidable.not_not, ne_eq] at hc0
        obtain rfl : k = len := by omega
        rw [show rows.take k = rows from List.take_of_length_le (by omega)]
        refine WC_exit ?_
        refine Ps_next hK11 ?_
        refine WC_sr fun K18 hK18 => ?_
        refine WL_rd (Rd_move rfl) rfl rfl rfl ?_
        refine WL_rd (Rd_assign rfl) rfl rfl rfl ?_
        refine WL_end hK18 ?_
        refine WC_ret ?_
        exact hret.go (b17, a14, cap14, m15) (Rs1 rfl rfl)

theorem hI_all {lf : FuncId} {caps : List Value} {b len cap m made : Nat} {a : Option Nat} {rows : List (Nat × Int)} (hT : Tk rows := by assumption) (hcap : rows.length ≤ 900000000 := by omega) : Ct Try.prog 58 [.pointer (some ⟨b, 0, none⟩)] [cl b 85 [(.func (.func lf) #[] caps.toArray), sl a rows.length cap, .map (some m), .int .i64 ((made : Nat) : Int)], arr a cap 2 101 hI_itf (rows)] (fun g : Nat × Nat × Option Nat × Nat × Nat => .func (.func 70) #[] #[.pointer (some ⟨g.1, 0, none⟩)]) (fun g => [cl b 85 [(.func (.func lf) #[] caps.toArray), sl a rows.length cap, .map (some m), .int .i64 ((made : Nat) : Int)], arr a cap 2 101 hI_itf (rows), cl g.1 55 [.pointer (some ⟨g.2.1, 0, none⟩)], cl g.2.1 85 [(.func (.func lf) #[] caps.toArray), sl g.2.2.1 rows.length g.2.2.2.1, .map (some g.2.2.2.2), .int .i64 ((0 : Nat) : Int)], arr g.2.2.1 g.2.2.2.1 2 101 hI_itf rows]) := by
  refine Ct_body (n := 10) Try.func58 rfl rfl rfl fun F w0 Q hret hnorm hp => ?_
  change WC _ _ _ _ _ _ _ (_ :: _ :: F)
  refine WC_sr fun K1 hK1 => ?_
  refine WL_rd (Rd_assign rfl) rfl rfl rfl ?_
  refine WL_end hK1 ?_
  refine WC_seq fun K2 hK2 => ?_
  refine WC_sr fun K3 hK3 => ?_
  refine WL_rd (Rd_move rfl) rfl rfl rfl ?_
  refine WL_ac (Ac_call cf49 rfl (hs := hI_ok)) rfl rfl rfl ?_
  rintro _ _ ⟨⟨⟩, rfl, hA⟩
  simp only [List.cons_append, List.nil_append] at hA
  replace hA := hA.symm
  subst hA
  refine WL_rd (Rd_not rfl) rfl rfl rfl ?_
  refine WL_end hK3 ?_
  refine WC_condF rfl ?_
  refine WC_skip ?_
  refine Ps_next hK2 ?_
  refine WC_sr fun K4 hK4 => ?_
  refine WL_rd (Rd_move rfl) rfl rfl rfl ?_
  refine WL_ac (Ac_call cf69 rfl (hs := hI_copied (lf := lf) (caps := caps) (a := a) (cap := cap) (m := m) (made := made) (rows := rows) (len := rows.length) (hlen := rfl))) rfl rfl rfl ?_
  rintro _ _ ⟨⟨g8, ga, gc, gm⟩, rfl, hA⟩
  simp only [List.cons_append, List.nil_append] at hA
  replace hA := hA.symm
  subst hA
  refine WL_ac (Ac_alloc zr55) rfl rfl rfl ?_
  rintro _ _ ⟨b3, rfl, rfl⟩
  refine WL_ac0 (Ac_store1 rfl rfl sz55) rfl rfl ?_
  rintro _ _ rfl
  refine WL_end hK4 ?_
  refine WC_sr fun K5 hK5 => ?_
  refine WL_rd (Rd_makeFunc rfl rfl) rfl rfl rfl ?_
  refine WL_rd (Rd_assign rfl) rfl rfl rfl ?_
  refine WL_end hK5 ?_
  refine WC_ret ?_
  exact hret.go (b3, g8, ga, gc, gm) (Rs1 rfl rfl)

theorem hI_all_hp {lf : FuncId} {caps : List Value} {b made : Nat} {rows : List (Nat × Int)} (hm : made ≤ 900000000 := by omega) : Ct Try.prog 58 [.pointer (some ⟨b, 0, none⟩)] [hI_hpA (.func (.func lf) #[] caps.toArray) b rows made] (fun g : Nat × Nat × Option Nat × Nat × Nat => .func (.func 70) #[] #[.pointer (some ⟨g.1, 0, none⟩)]) (fun g => [hI_hpA (.func (.func lf) #[] caps.toArray) b rows made, cl g.1 55 [.pointer (some ⟨g.2.1, 0, none⟩)], cl g.2.1 85 [(.func (.func lf) #[] caps.toArray), sl g.2.2.1 rows.length g.2.2.2.1, .map (some g.2.2.2.2), .int .i64 ((0 : Nat) : Int)], arr g.2.2.1 g.2.2.2.1 2 101 hI_itf rows]) :=
  Ct_way fun F w hs => by
    obtain ⟨⟨a, cap, m⟩, hG, hs⟩ := hI_hp_open.1 hs
    have hGl := hG.len
    exact ⟨_, _, _, _, (hI_all (b := b) (a := a) (cap := cap) (m := m) (len := rows.length) (made := made) (rows := rows) (lf := lf) (caps := caps) (hT := hG.1)).frame [mpI m (atOf rows)], hs, fun r w' hw => ⟨r, rfl, (hI_hp_open (R := [cl r.1 55 [.pointer (some ⟨r.2.1, 0, none⟩)], cl r.2.1 85 [(.func (.func lf) #[] caps.toArray), sl r.2.2.1 rows.length r.2.2.2.1, .map (some r.2.2.2.2), .int .i64 ((0 : Nat) : Int)], arr r.2.2.1 r.2.2.2.1 2 101 hI_itf rows] ++ F)).2 ⟨(a, cap, m), hG, Sub.sat (by simp only [List.cons_append, List.nil_append, hI_hpB]; repeat (first | with_reducible exact Sub.refl | with_reducible exact Sub.nil | with_reducible refine Sub.cons (by repeat (first | with_reducible exact Ext.here | with_reducible apply Ext.there)) ?_ | with_reducible refine Sub.tail ?_)) hw⟩⟩⟩

theorem hI_allIt {J : Unit → Asn} {lt0 : Int → Int → Bool} {lf : FuncId} {caps : List Value} {l u tb tc tm : Nat} {ta : Option Nat} {rows L : List (Nat × Int)} {X Y : Nat → Asn} {JJ : Asn} (hcf : cfn Try.prog lf = true) (hless : ∀ (s : Unit) x y, Ct Try.prog lf ([.int .i64 x, .int .i64 y] ++ caps) [J s] (fun _ : Unit => .bool (pl lt0 s x y).1) (fun _ => [J (pl lt0 s x y).2])) (O : Od lt0) (hpm : rows.Perm L) (hu : L.Pairwise fun x y => x.1 < y.1) (hH : Hp lt0 rows) (hT : Tk rows) (hcap : rows.length ≤ 900000000) (hX : ∀ (i : Nat) (R : List Asn) (w : World), sat w (X i :: R) → sat w (cl u 55 [.pointer (some ⟨tb, 0, none⟩)] :: cl tb 85 [(.func (.func lf) #[] caps.toArray), sl ta rows.length tc, .map (some tm), .int .i64 ((0 : Nat) : Int)] :: arr ta tc 2 101 hI_itf rows :: J () :: Y i :: R)) (hX' : ∀ (i : Nat) (R : List Asn) (w : World), sat w (cl u 55 [.pointer (some ⟨tb, 0, none⟩)] :: cl tb 85 [(.func (.func lf) #[] caps.toArray), sl ta rows.length tc, .map (some tm), .int .i64 ((0 : Nat) : Int)] :: arr ta tc 2 101 hI_itf rows :: J () :: Y i :: R) → sat w (X i :: R)) (hy : ∀ (i : Nat) (x : Nat × Int), (srt lt0 L)[i]? = some x → Yd Try.prog l [.int .i64 ((x.1 : Nat) : Int), .int .i64 x.2] [X i] (fun b : Bool => .bool b) (fun b => [bif b then X (i + 1) else JJ])) : Ct Try.prog 70 [yv l, .pointer (some ⟨u, 0, none⟩)] [X 0] (fun b : Bool => .tuple #[]) (fun b => [bif b then X L.length else JJ]) := by
  refine Ct_body (n := 22) Try.func70 rfl rfl rfl fun F w0 Q hret hnorm hp => ?_
  change WC _ _ _ _ _ _ _ (_ :: F)
  refine WC_imp (fun w h => hX 0 _ w h) ?_
  have hll := hpm.length_eq
  refine WC_sr fun K1 hK1 => ?_
  refine WL_rd (Rd_load rfl tk55) rfl rfl rfl ?_
  refine WL_ac (Ac_call cf69 rfl (hs := hI_copied (lf := lf) (caps := caps) (a := ta) (cap := tc) (m := tm) (made := 0) (rows := rows) (len := rows.length) (hlen := rfl))) rfl rfl rfl ?_
  rintro _ _ ⟨⟨gb, ga, gc, gm⟩, rfl, hA⟩
  simp only [List.cons_append, List.nil_append] at hA
  replace hA := hA.symm
  subst hA
  refine WL_rd (Rd_assign rfl) rfl rfl rfl ?_
  refine WL_end hK1 ?_
  refine WC_block ?_
  rw [show Y 0 = Y ([] : List (Nat × Int)).length from rfl]
  refine WC_loopK (σ := (List (Nat × Int)) × (List (Nat × Int)) × (Option Nat) × Nat) (fun ⟨rs, out, ra, rc⟩ => []) (fun ⟨rs, out, ra, rc⟩ => [cl gb 85 [(.func (.func lf) #[] caps.toArray), sl ra rs.length rc, .map (some gm), .int .i64 ((0 : Nat) : Int)], arr ra rc 2 101 hI_itf rs, mpI gm (atOf rs), Y out.length]) (fun ⟨rs, out, ra, rc⟩ => OutG lt0 L out rs ∧ Hp lt0 rs ∧ Tk rs) (fun ⟨rs, out, ra, rc⟩ => rs.length) ⟨rows, [], ga, gc⟩ [0, 3] (by repeat (first | exact Kep.nil | apply Kep.drop rfl | apply Kep.keep rfl)) (by (try dsimp only); repeat (first | with_reducible exact Gv.nil | (with_reducible apply Gv.cons; · (repeat (first | with_reducible exact Ext.here | with_reducible apply Ext.there))))) ?_ ?_ Sub.refl ?_
  · exact ⟨OutG_0 hpm, hH, hT⟩
  · (try dsimp only); exact Wk.nil
  · rintro ⟨rs, out, ra, rc⟩ ⟨hO, hH2, hT2⟩ K2 hK2
    simp only [List.cons_append, List.nil_append]
    have hol := OutG_len hO
    refine WC_seq fun K3 hK3 => ?_
    refine WC_sr fun K4 hK4 => ?_
    refine WL_rd (Rd_move rfl) rfl rfl rfl ?_
    refine WL_rd (Rd_nilCheck rfl) rfl rfl rfl ?_
    refine WL_rd (Rd_fieldAddr rfl fo85_1) rfl rfl rfl ?_
    refine WL_rd (Rd_load rfl tk82) rfl rfl rfl ?_
    refine WL_rd (Rd_len rfl rfl ud82) rfl rfl rfl ?_
    refine WL_rd (Rd_gtrN (j := 0) rfl rfl) rfl rfl rfl ?_
    refine WL_end hK4 ?_
    refine WC_cond rfl (fun hc0 => ?_) (fun hc0 => ?_)
    · try simp only [decide_eq_true_eq, decide_eq_false_iff_not, Bool.not_eq_true', Bool.not_eq_false', Bool.not_eq_true, Bool.not_eq_false, Int.not_lt, Int.not_le, Nat.not_lt, Nat.not_le, Decidable.not_not, ne_eq] at hc0
      obtain ⟨x, hx⟩ : ∃ x, rs[0]? = some x := ⟨_, List.getElem?_eq_getElem (by omega)⟩
      have hO2 := OutG_heap O hO hH2 hx
      have hat := OutG_at O hu hO2
      have hT3 : Tk (takeM (pl lt0) () rs 0).1 := by have h := Tk_perm (takeM_perm (pl lt0) () hx) hT2; unfold Tk at h ⊢; rw [List.map_cons] at h; exact (List.nodup_cons.1 h).2
      refine WC_skip ?_
      refine Ps_next hK3 ?_
      refine WC_block ?_
      refine WC_sr fun K5 hK5 => ?_
      refine WL_rd (Rd_move rfl) rfl rfl rfl ?_
      refine WL_ac (Ac_call cf51 rfl (hs := hI_take hcf hless (rows := rs) (made := 0) (s := ()) (i := 0) (x := x) (hi := hx) (hlen := rfl))) rfl rfl rfl ?_
      rintro _ _ ⟨⟨⟩, rfl, hA⟩
      simp only [List.cons_append, List.nil_append] at hA
      replace hA := hA.symm
      subst hA
      refine WL_ac (Ac_alloc zr101) rfl rfl rfl ?_
      rintro _ _ ⟨b4, rfl, rfl⟩
      refine WL_ac0 (Ac_store (ys := hI_itf x) rfl rfl sz101 (h1 := hI_itf_one x) (hr := rfl)) rfl rfl ?_
      rintro _ _ rfl
      refine WL_end hK5 ?_
      refine WC_sr fun K6 hK6 => ?_
      refine WL_rd (Rd_move rfl) rfl rfl rfl ?_
      refine WL_rd (Rd_fieldAddr rfl fo101_0) rfl rfl rfl ?_
      refine WL_rd (Rd_load rfl tk3 (v := .int .i64 ((x.1 : Nat) : Int))) rfl rfl rfl ?_
      refine WL_rd (Rd_fieldAddr rfl fo101_1) rfl rfl rfl ?_
      refine WL_rd (Rd_load rfl tk3 (v := .int .i64 x.2)) rfl rfl rfl ?_
      refine WL_imp (fun w h => sat_lend4 (hX' out.length) (by repeat (first | with_reducible exact Ext.here | with_reducible apply Ext.there)) (by repeat (first | with_reducible exact Ext.here | with_reducible apply Ext.there)) (by repeat (first | with_reducible exact Ext.here | with_reducible apply Ext.there)) (by repeat (first | with_reducible exact Ext.here | with_reducible apply Ext.there)) (by repeat (first | with_reducible exact Ext.here | with_reducible apply Ext.there)) h) ?_
      refine WL_ac (Ac_yield rfl rfl (hy out.length x hat)) rfl rfl rfl ?_
      rintro _ _ ⟨b', rfl, hA⟩
      simp only [List.cons_append, List.nil_append] at hA
      replace hA := hA.symm
      subst hA
      refine WL_rd (Rd_not rfl) rfl rfl rfl ?_
      refine WL_end hK6 ?_
      refine WC_cond rfl (fun hc1 => ?_) (fun hc1 => ?_)
      · try simp only [decide_eq_true_eq, decide_eq_false_iff_not, Bool.not_eq_true', Bool.not_eq_false', Bool.not_eq_true, Bool.not_eq_false, Int.not_lt, Int.not_le, Nat.not_lt, Nat.not_le, Decidable.not_not, ne_eq] at hc1
        obtain rfl : b' = false := by revert hc1; cases b' <;> simp
        simp only [cond_false]
        have hstop : True := trivial
        refine WC_ret ?_
        first | (have := hstop; exact hret.go false (Rs0 rfl) (by simp only [List.cons_append, List.nil_append, cond_false]; repeat (first | with_reducible exact Sub.refl | with_reducible exact Sub.nil | with_reducible refine Sub.cons (by repeat (first | with_reducible exact Ext.here | with_reducible apply Ext.there)) ?_ | with_reducible refine Sub.tail ?_))) | exact hret.go true (Rs0 rfl) (by simp only [List.cons_append, List.nil_append, cond_true]; repeat (first | with_reducible exact Sub.refl | with_reducible exact Sub.nil | with_reducible refine Sub.cons (by repeat (first | with_reducible exact Ext.here | with_reducible apply Ext.there)) ?_ | with_reducible refine Sub.tail ?_))
      · try simp only [decide_eq_true_eq, decide_eq_false_iff_not, Bool.not_eq_true', Bool.not_eq_false', Bool.not_eq_true, Bool.not_eq_false, Int.not_lt, Int.not_le, Nat.not_lt, Nat.not_le, Decidable.not_not, ne_eq] at hc1
        obtain rfl : b' = true := by revert hc1; cases b' <;> simp
        simp only [cond_true]
        refine WC_imp (fun w h => hX (out.length + 1) _ w h) ?_
        rw [show out.length + 1 = (out ++ [x]).length from by simp]
        refine WC_skip ?_
        refine Ps_wk (by (try simp only [List.cons_append, List.nil_append]); repeat (first | with_reducible exact Wk.nil | refine Wk.cons (by first | rfl | (simp only [List.length_append, List.length_cons, List.length_nil, List.length_replicate, Nat.zero_add]; rfl) | (simp; done)) ?_)) (by (try simp only [List.cons_append, List.nil_append]); repeat (first | with_reducible exact Sub.refl | with_reducible exact Sub.nil | with_reducible refine Sub.cons (by repeat (first | with_reducible exact Ext.here | with_reducible apply Ext.there)) ?_ | with_reducible refine Sub.tail ?_)) (hK2 ⟨(takeM (pl lt0) () rs 0).1, out ++ [x], ra, rc⟩ (⟨hO2, takeM_Hp O () (by omega) hH2, hT3⟩) (by (try dsimp only); rw [takeM_len]; omega))
    · try simp only [decide_eq_true_eq, decide_eq_false_iff_not, Bool.not_eq_true', Bool.not_eq_false', Bool.not_eq_true, Bool.not_eq_false, Int.not_lt, Int.not_le, Nat.not_lt, Nat.not_le, Decidable.not_not, ne_eq] at hc0
      have hol2 : out.length = L.length := by omega
      refine WC_imp (fun w h => sat_lend4 (hX' out.length) (by repeat (first | with_reducible exact Ext.here | with_reducible apply Ext.there)) (by repeat (first | with_reducible exact Ext.here | with_reducible apply Ext.there)) (by repeat (first | with_reducible exact Ext.here | with_reducible apply Ext.there)) (by repeat (first | with_reducible exact Ext.here | with_reducible apply Ext.there)) (by repeat (first | with_reducible exact Ext.here | with_reducible apply Ext.there)) h) ?_
      rw [hol2]
      refine WC_exit ?_
      first | (have := hstop; exact hnorm.go false (Rs0 rfl) (by simp only [List.cons_append, List.nil_append, cond_false]; repeat (first | with_reducible exact Sub.refl | with_reducible exact Sub.nil | with_reducible refine Sub.cons (by repeat (first | with_reducible exact Ext.here | with_reducible apply Ext.there)) ?_ | with_reducible refine Sub.tail ?_))) | exact hnorm.go true (Rs0 rfl) (by simp only [List.cons_append, List.nil_append, cond_true]; repeat (first | with_reducible exact Sub.refl | with_reducible exact Sub.nil | with_reducible refine Sub.cons (by repeat (first | with_reducible exact Ext.here | with_reducible apply Ext.there)) ?_ | with_reducible refine Sub.tail ?_))

theorem hI_drop {σ : Type} {J : σ → Asn} {lt : σ → Int → Int → Bool × σ} {lf : FuncId} {caps : List Value} (hcf : cfn Try.prog lf = true) (hless : ∀ s x y, Ct Try.prog lf ([.int .i64 x, .int .i64 y] ++ caps) [J s] (fun _ : Unit => .bool (lt s x y).1) (fun _ => [J (lt s x y).2])) {b len cap m made : Nat} {a : Option Nat} {rows : List (Nat × Int)} {s : σ} {t : Int} {i : Nat} {x : Nat × Int} (hi : rows[i]? = some x := by assumption) (ht : t = (x.1 : Int)) (hT : Tk rows := by assumption) (hlen : len = rows.length := by first | assumption | omega) (hcap : len ≤ 1000000000 := by omega) : Ct Try.prog 32 [.pointer (some ⟨b, 0, none⟩), .int .i64 t] [cl b 85 [(.func (.func lf) #[] caps.toArray), sl a len cap, .map (some m), .int .i64 ((made : Nat) : Int)], arr a cap 2 101 hI_itf (rows), mpI m (atOf (rows)), J s] (fun _ : Unit => .tuple #[.int .i64 x.2, .int .i64 0]) (fun _ => [cl b 85 [(.func (.func lf) #[] caps.toArray), sl a (takeM lt s rows i).1.length cap, .map (some m), .int .i64 ((made : Nat) : Int)], arr a cap 2 101 hI_itf ((takeM lt s rows i).1), mpI m (atOf ((takeM lt s rows i).1)), J (takeM lt s rows i).2]) := by
  refine Ct_body (n := 29) Try.func32 rfl rfl rfl fun F w0 Q hret hnorm hp => ?_
  change WC _ _ _ _ _ _ _ (_ :: _ :: _ :: _ :: F)
  refine WC_sr fun K1 hK1 => ?_
  refine WL_rd (Rd_assign rfl) rfl rfl rfl ?_
  refine WL_rd (Rd_assign rfl) rfl rfl rfl ?_
  refine WL_end hK1 ?_
  refine WC_sr fun K2 hK2 => ?_
  refine WL_rd (Rd_assign rfl) rfl rfl rfl ?_
  refine WL_end hK2 ?_
  refine WC_seq fun K3 hK3 => ?_
  refine WC_sr fun K4 hK4 => ?_
  refine WL_rd (Rd_move rfl) rfl rfl rfl ?_
  refine WL_ac (Ac_call cf49 rfl (hs := hI_ok)) rfl rfl rfl ?_
  rintro _ _ ⟨⟨⟩, rfl, hA⟩
  simp only [List.cons_append, List.nil_append] at hA
  replace hA := hA.symm
  subst hA
  refine WL_rd (Rd_not rfl) rfl rfl rfl ?_
  refine WL_end hK4 ?_
  refine WC_condF rfl ?_
  refine WC_skip ?_
  refine Ps_next hK3 ?_
  refine WC_sr fun K5 hK5 => ?_
  refine WL_rd (Rd_move rfl) rfl rfl rfl ?_
  refine WL_rd (Rd_nilCheck rfl) rfl rfl rfl ?_
  refine WL_rd (Rd_fieldAddr rfl fo85_2) rfl rfl rfl ?_
  refine WL_rd (Rd_load rfl tk83) rfl rfl rfl ?_
  refine WL_rd (Rd_move rfl) rfl rfl rfl ?_
  refine WL_rd (Rd_lookup2s rfl rfl ud83 ud3 zv3 (hv := by subst ht; exact atOf_some hT hi)) rfl rfl rfl ?_
  refine WL_rd (Rd_move rfl) rfl rfl rfl ?_
  refine WL_rd (Rd_ext0 rfl) rfl rfl rfl ?_
  refine WL_rd (Rd_ext1 rfl) rfl rfl rfl ?_
  refine WL_rd (Rd_assign rfl) rfl rfl rfl ?_
  refine WL_rd (Rd_assign rfl) rfl rfl rfl ?_
  refine WL_end hK5 ?_
  refine WC_seq fun K6 hK6 => ?_
  refine WC_sr fun K7 hK7 => ?_
  refine WL_rd (Rd_move rfl) rfl rfl rfl ?_
  refine WL_rd (Rd_not rfl) rfl rfl rfl ?_
  refine WL_end hK7 ?_
  refine WC_condF rfl ?_
  refine WC_skip ?_
  refine Ps_next hK6 ?_
  refine WC_sr fun K8 hK8 => ?_
  refine WL_rd (Rd_move rfl) rfl rfl rfl ?_
  refine WL_rd (Rd_move rfl) rfl rfl rfl ?_
  refine WL_ac (Ac_call cf51 rfl (hs := hI_take hcf hless (x := x))) rfl rfl rfl ?_
  rintro _ _ ⟨⟨⟩, rfl, hA⟩
  simp only [List.cons_append, List.nil_append] at hA
  replace hA := hA.symm
  subst hA
  refine WL_rd (Rd_field rfl fo101_1 tk3) rfl rfl rfl ?_
  refine WL_rd (Rd_assign rfl) rfl rfl rfl ?_
  refine WL_rd (Rd_assign rfl) rfl rfl rfl ?_
  refine WL_end hK8 ?_
  refine WC_ret ?_
  exact hret.go () (Rs2 rfl rfl rfl)

theorem hI_drop_no {lf : FuncId} {caps : List Value} {b len cap m made : Nat} {a : Option Nat} {rows : List (Nat × Int)} {t : Int} (ht : ∀ r ∈ rows, (r.1 : Int) ≠ t) : Ct Try.prog 32 [.pointer (some ⟨b, 0, none⟩), .int .i64 t] [cl b 85 [(.func (.func lf) #[] caps.toArray), sl a len cap, .map (some m), .int .i64 ((made : Nat) : Int)], arr a cap 2 101 hI_itf (rows), mpI m (atOf (rows))] (fun _ : Unit => .tuple #[.int .i64 0, .int .i64 171]) (fun _ => [cl b 85 [(.func (.func lf) #[] caps.toArray), sl a len cap, .map (some m), .int .i64 ((made : Nat) : Int)], arr a cap 2 101 hI_itf (rows), mpI m (atOf (rows))]) := by
  refine Ct_body (n := 29) Try.func32 rfl rfl rfl fun F w0 Q hret hnorm hp => ?_
  change WC _ _ _ _ _ _ _ (_ :: _ :: _ :: F)
  refine WC_sr fun K1 hK1 => ?_
  refine WL_rd (Rd_assign rfl) rfl rfl rfl ?_
  refine WL_rd (Rd_assign rfl) rfl rfl rfl ?_
  refine WL_end hK1 ?_
  refine WC_sr fun K2 hK2 => ?_
  refine WL_rd (Rd_assign rfl) rfl rfl rfl ?_
  refine WL_end hK2 ?_
  refine WC_seq fun K3 hK3 => ?_
  refine WC_sr fun K4 hK4 => ?_
  refine WL_rd (Rd_move rfl) rfl rfl rfl ?_
  refine WL_ac (Ac_call cf49 rfl (hs := hI_ok)) rfl rfl rfl ?_
  rintro _ _ ⟨⟨⟩, rfl, hA⟩
  simp only [List.cons_append, List.nil_append] at hA
  replace hA := hA.symm
  subst hA
  refine WL_rd (Rd_not rfl) rfl rfl rfl ?_
  refine WL_end hK4 ?_
  refine WC_condF rfl ?_
  refine WC_skip ?_
  refine Ps_next hK3 ?_
  refine WC_sr fun K5 hK5 => ?_
  refine WL_rd (Rd_move rfl) rfl rfl rfl ?_
  refine WL_rd (Rd_nilCheck rfl) rfl rfl rfl ?_
  refine WL_rd (Rd_fieldAddr rfl fo85_2) rfl rfl rfl ?_
  refine WL_rd (Rd_load rfl tk83) rfl rfl rfl ?_
  refine WL_rd (Rd_move rfl) rfl rfl rfl ?_
  refine WL_rd (Rd_lookup2n rfl rfl ud83 ud3 zv3 (hv := atOf_none ht)) rfl rfl rfl ?_
  refine WL_rd (Rd_move rfl) rfl rfl rfl ?_
  refine WL_rd (Rd_ext0 rfl) rfl rfl rfl ?_
  refine WL_rd (Rd_ext1 rfl) rfl rfl rfl ?_
  refine WL_rd (Rd_assign rfl) rfl rfl rfl ?_
  refine WL_rd (Rd_assign rfl) rfl rfl rfl ?_
  refine WL_end hK5 ?_
  refine WC_seq fun K6 hK6 => ?_
  refine WC_sr fun K7 hK7 => ?_
  refine WL_rd (Rd_move rfl) rfl rfl rfl ?_
  refine WL_rd (Rd_not rfl) rfl rfl rfl ?_
  refine WL_end hK7 ?_
  refine WC_condT rfl ?_
  refine WC_sr fun K8 hK8 => ?_
  refine WL_rd (Rd_move rfl) rfl rfl rfl ?_
  refine WL_rd (Rd_assign rfl) rfl rfl rfl ?_
  refine WL_rd (Rd_assign rfl) rfl rfl rfl ?_
  refine WL_end hK8 ?_
  refine WC_ret ?_
  exact hret.go () (Rs2 rfl rfl rfl)

theorem hI_drop_hp {σ : Type} {J : σ → Asn} {lt : σ → Int → Int → Bool × σ} {lf : FuncId} {caps : List Value} (hcf : cfn Try.prog lf = true) (hless : ∀ s x y, Ct Try.prog lf ([.int .i64 x, .int .i64 y] ++ caps) [J s] (fun _ : Unit => .bool (lt s x y).1) (fun _ => [J (lt s x y).2])) {b made : Nat} {rows : List (Nat × Int)} {s : σ} {t : Int} {i : Nat} {x : Nat × Int} (hi : rows[i]? = some x := by assumption) (ht : t = (x.1 : Int)) (hm : made ≤ 900000000 := by omega) : Ct Try.prog 32 [.pointer (some ⟨b, 0, none⟩), .int .i64 t] [hI_hpA (.func (.func lf) #[] caps.toArray) b rows made, J s] (fun _ : Unit => .tuple #[.int .i64 x.2, .int .i64 0]) (fun _ => [hI_hpA (.func (.func lf) #[] caps.toArray) b ((takeM lt s rows i).1) made, J (takeM lt s rows i).2]) :=
  Ct_way fun F w hs => by
    obtain ⟨⟨a, cap, m⟩, hG, hs⟩ := hI_hp_open.1 hs
    have hGl := hG.len
    refine ⟨_, _, _, _, hI_drop hcf hless (b := b) (a := a) (cap := cap) (m := m) (s := s) (x := x) (i := i) (ht := ht) (hT := hG.1) (hlen := rfl), hs, fun r w' hw => ⟨(), rfl, hI_hp_open.2 ⟨(a, cap, m), hG.take hi, hw⟩⟩⟩

theorem hI_drop_no_hp {lf : FuncId} {caps : List Value} {b made : Nat} {rows : List (Nat × Int)} {t : Int} (ht : ∀ r ∈ rows, (r.1 : Int) ≠ t) : Ct Try.prog 32 [.pointer (some ⟨b, 0, none⟩), .int .i64 t] [hI_hpA (.func (.func lf) #[] caps.toArray) b rows made] (fun _ : Unit => .tuple #[.int .i64 0, .int .i64 171]) (fun _ => [hI_hpA (.func (.func lf) #[] caps.toArray) b rows made]) :=
  Ct_way fun F w hs => by
    obtain ⟨⟨a, cap, m⟩, hG, hs⟩ := hI_hp_open.1 hs
    have hGl := hG.len
    exact ⟨_, _, _, _, (hI_drop_no (b := b) (a := a) (cap := cap) (m := m) (len := rows.length) (made := made) (lf := lf) (caps := caps) (ht := ht)), hs, fun r w' hw => ⟨(), rfl, hI_hp_open.2 ⟨(a, cap, m), hG, hw⟩⟩⟩
end Go.Proofs.Ytcookmkklcbbnaa
