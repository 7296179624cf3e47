/-
  Contracts of functions that the claim reaches, or the logic and the plain laws that they rest on, or the row over them. (Conditions: none beyond the statement.)
-/
import Derived.Test.YtcemkpiopijbmaaCqSD
import Derived.Test.YtcemkpiopijbmaaCkLaw
import Derived.Test.YtcemkpiopijbmaaSlLend2
import Derived.Test.YtcemkpiopijbmaaLibR
import Derived.Test.YtcemkpiopijbmaaLibB
set_option linter.all false
namespace Go.Proofs.Ytcemkpiopijbmaa
open Go.RowKit Go.SL Go.HpM
set_option maxHeartbeats 1000000
set_option maxRecDepth 20000
set_option linter.all false
theorem cf91 : cfn Try.prog 91 = true := by kernel_rfl
theorem cf105 : cfn Try.prog 105 = true := by kernel_rfl
theorem sz116 : sz Try.prog 116 = some 1 := by kernel_rfl
theorem zr116 : zr Try.prog 116 = some [.pointer none] := by kernel_rfl
theorem kS_h_enc : Enc kS_h_itf 4 := ⟨kS_h_itf_len, kS_h_itf_one⟩
theorem kS_h_nilS {A : List Asn} {v : Value} {e : Nat} {f : Nat × (Int × Int × ByteArray) → List Value} {l : List (Nat × (Int × Int × ByteArray))} {ao : Option Addr} {cap : Nat} (h : Sv A v e f l ao cap) (hn : ao.isNone = true) : l = [] := by
  rcases Nat.eq_zero_or_pos l.length with q | q
  · exact List.eq_nil_of_length_eq_zero q
  · have := h.ptr q
    rw [this] at hn; cases hn
/-- a copy: no ticket is given by it -/
def kS_h_cpA (lv : Value) (b : Nat) (rows : List (Nat × (Int × Int × ByteArray))) : Asn := fun h => ∃ x, Tk rows ∧ sep (kS_h_hpB lv b rows 0 x) h
theorem kS_h_cp_open {lv : Value} {b : Nat} {rows : List (Nat × (Int × Int × ByteArray))} {R : List Asn} {w : World} : sat w (kS_h_cpA lv b rows :: R) ↔ ∃ x, Tk rows ∧ sat w (kS_h_hpB lv b rows 0 x ++ R) := by
  unfold kS_h_cpA; rw [sat_ex]; exact exists_congr fun x => sat_and.trans (and_congr_right fun _ => sat_app)

theorem kS_h_cloneI {X : Asn} {v : Value} {l : List (Nat × (Int × Int × ByteArray))} {ao : Option Addr} {cap2 : Nat} (hS : Sv [X] v 4 kS_h_itf l ao cap2 := by assumption) (hl : l.length ≤ 900000000 := by omega) : Ct Try.prog 105 [v] [X] (fun g : Option Nat × Nat => sl g.1 l.length g.2) (fun g => [X, arr g.1 g.2 4 159 kS_h_itf (l)]) := by
  refine Ct_body (n := 8) Try.func105 rfl rfl rfl fun F w0 Q hret hnorm hp => ?_
  change WC _ _ _ _ _ _ _ (_ :: F)
  have hv0 := hS.val
  subst hv0
  refine WC_sr fun K1 hK1 => ?_
  refine WL_rd (Rd_assign (v := sl none 0 0) rfl) rfl rfl rfl ?_
  refine WL_end hK1 ?_
  refine WC_seq fun K2 hK2 => ?_
  refine WC_sr fun K3 hK3 => ?_
  refine WL_rd (Rd_move rfl) rfl rfl rfl ?_
  refine WL_rd (Rd_seq rfl rfl ud155) rfl rfl rfl ?_
  refine WL_end hK3 ?_
  refine WC_cond rfl (fun hc0 => ?_) (fun hc0 => ?_)
  · try simp only [decide_eq_true_eq, decide_eq_false_iff_not, Bool.not_eq_true', Bool.not_eq_false', Bool.not_eq_true, Bool.not_eq_false, Int.not_lt, Int.not_le, Nat.not_lt, Nat.not_le, Decidable.not_not, ne_eq] at hc0
    have hnil := kS_h_nilS hS hc0
    subst hnil
    refine WC_imp (fun w h => sat_nil (e := 4) (T := 159) (f := kS_h_itf) h) ?_
    refine WC_sr fun K4 hK4 => ?_
    refine WL_rd (Rd_assign (v := sl none 0 0) rfl) rfl rfl rfl ?_
    refine WL_end hK4 ?_
    refine WC_ret ?_
    first | exact hret.go (none, 0) (Rs1 rfl rfl) | exact hret.go (a7, cap7) (Rs1 rfl rfl)
  · try simp only [decide_eq_true_eq, decide_eq_false_iff_not, Bool.not_eq_true', Bool.not_eq_false', Bool.not_eq_true, Bool.not_eq_false, Int.not_lt, Int.not_le, Nat.not_lt, Nat.not_le, Decidable.not_not, ne_eq] at hc0
    refine WC_skip ?_
    refine Ps_next hK2 ?_
    refine WC_sr fun K5 hK5 => ?_
    refine WL_ac (Ac_bsL (f := kS_h_itf) (zs := [.int .i64 0, .int .i64 0, .int .i64 0, .string ⟨#[]⟩]) (bs := []) [] kS_h_enc ud155 zr159 sz159 rfl (by rw [Array.toList_map, Array.toList_range]; rfl) (by rfl) (by rfl) (by rfl) (by rfl)) rfl rfl rfl ?_
    rintro _ _ ⟨b5, rfl, rfl⟩
    refine WL_rd (Rd_move rfl) rfl rfl rfl ?_
    refine WL_ac (Ac_appendS (f := kS_h_itf) kS_h_enc rfl rfl ud155 ud155 el159 (hS := hS) (hb := by simp only [List.length_nil]; omega)) rfl rfl rfl ?_
    rintro _ _ ⟨a7, cap7, rfl, rfl⟩
    rw [show ([] : List (Nat × (Int × Int × ByteArray))).length + l.length = l.length from Nat.zero_add _, List.nil_append]
    refine WL_rd (Rd_assign rfl) rfl rfl rfl ?_
    refine WL_end hK5 ?_
    refine WC_ret ?_
    first | exact hret.go (none, 0) (Rs1 rfl rfl) | exact hret.go (a7, cap7) (Rs1 rfl rfl)

theorem kS_h_copied {lf : FuncId} {caps : List Value} {b len cap m made : Nat} {a : Option Nat} {rows : List (Nat × (Int × Int × ByteArray))} (hT : Tk rows := by assumption) (hlen : len = rows.length := by first | assumption | omega) (hcap : len ≤ 900000000 := by omega) : Ct Try.prog 91 [.pointer (some ⟨b, 0, none⟩)] [cl b 157 [(.func (.func lf) #[] caps.toArray), sl a len cap, .map (some m), .int .i64 ((made : Nat) : Int)], arr a cap 4 159 kS_h_itf (rows)] (fun g : Nat × Option Nat × Nat × Nat => .pointer (some ⟨g.1, 0, none⟩)) (fun g => [cl b 157 [(.func (.func lf) #[] caps.toArray), sl a len cap, .map (some m), .int .i64 ((made : Nat) : Int)], arr a cap 4 159 kS_h_itf (rows), cl g.1 157 [(.func (.func lf) #[] caps.toArray), sl g.2.1 len g.2.2.1, .map (some g.2.2.2), .int .i64 ((0 : Nat) : Int)], arr g.2.1 g.2.2.1 4 159 kS_h_itf (rows), mpI g.2.2.2 (atOf (rows))]) := by
  refine Ct_body (n := 37) Try.func91 rfl rfl rfl fun F w0 Q hret hnorm hp => ?_
  change WC _ _ _ _ _ _ _ (_ :: _ :: F)
  refine WC_fact (fun w h => arr_facts (a := a) (cap := cap) (e := 4) (T := 159) (f := kS_h_itf) (l := rows) (by repeat (first | with_reducible exact Has.here | with_reducible refine Has.there ?_)) h) (fun hrf => ?_)
  have hRS : Sv [arr a cap 4 159 kS_h_itf (rows)] (sl a len cap) 4 kS_h_itf rows (a.map fun g => ⟨g, 0, none⟩) cap := by rw [hlen]; exact Sv_own' kS_h_enc hrf.1 hrf.2
  refine WC_sr fun K1 hK1 => ?_
  refine WL_rd (Rd_assign rfl) rfl rfl rfl ?_
  refine WL_end hK1 ?_
  refine WC_seq fun K2 hK2 => ?_
  refine WC_drawA mix (fun i => ([2, 2, 2, 2, 2, 2, 2, 2, 1, 1, 2, 1, 2] : List Nat).getD i 0) ?_
  refine WJ_takeP 0 rfl (by kernel_rfl) (Rd_move rfl) rfl rfl rfl (hp _ _) ?_
  refine WJ_takeP 1 rfl (by kernel_rfl) (Rd_nilCheck rfl) rfl rfl rfl (hp _ _) ?_
  refine WJ_takeP 2 rfl (by kernel_rfl) (Rd_fieldAddr rfl fo157_0) rfl rfl rfl (hp _ _) ?_
  refine WJ_tk 3 (Rd_load rfl tk119) hp ?_ rfl (by kernel_rfl) rfl rfl rfl
  refine WJ_takeP 4 rfl (by kernel_rfl) (Rd_move rfl) rfl rfl rfl (hp _ _) ?_
  refine WJ_takeP 5 rfl (by kernel_rfl) (Rd_nilCheck rfl) rfl rfl rfl (hp _ _) ?_
  refine WJ_takeP 6 rfl (by kernel_rfl) (Rd_fieldAddr rfl fo157_1) rfl rfl rfl (hp _ _) ?_
  refine WJ_tk 7 (Rd_load rfl tk155) hp ?_ rfl (by kernel_rfl) rfl rfl rfl
  refine WJ_all (rs := [8, 9]) (by kernel_rfl) rfl ?_
  refine WI_cons ?_ (WI_cons ?_ (by intro _ h; cases h))
  · skip
    refine WI_ac rfl (Ac_call cf105 rfl (hs := kS_h_cloneI (X := arr a cap 4 159 kS_h_itf (rows)) (v := sl a len cap) (l := rows) (hS := hRS))) rfl rfl rfl rfl ?_
    rintro _ _ ⟨⟨a14, cap14⟩, rfl, hA⟩
    simp only [List.cons_append, List.nil_append] at hA
    replace hA := hA.symm
    subst hA
    rw [← hlen]
    refine ⟨(fun _ => (by repeat (first | with_reducible exact Sub.refl | with_reducible exact Sub.nil | with_reducible refine Sub.cons (by repeat (first | with_reducible exact Ext.here | with_reducible apply Ext.there)) ?_ | with_reducible refine Sub.tail ?_))), ?_⟩
    refine WJ_all (rs := [9]) (by kernel_rfl) rfl ?_
    refine WI_one ?_
    refine WI_ac rfl (Ac_makeMap) rfl rfl rfl rfl ?_
    rintro _ _ ⟨m15, rfl, rfl⟩
    rw [show (fun _ : Int => (none : Option Value)) = atOf ([] : List (Nat × (Int × Int × ByteArray))) from rfl]
    refine ⟨(fun _ => (by repeat (first | with_reducible exact Sub.refl | with_reducible exact Sub.nil | with_reducible refine Sub.cons (by repeat (first | with_reducible exact Ext.here | with_reducible apply Ext.there)) ?_ | with_reducible refine Sub.tail ?_))), ?_⟩
    refine WJ_takeP 10 rfl (by kernel_rfl) (Rd_build pls157 rfl) rfl rfl rfl (hp _ _) ?_
    refine WJ_all (rs := [11]) (by kernel_rfl) rfl ?_
    refine WI_one ?_
    refine WI_ac rfl (Ac_box (xs := [(.func (.func lf) #[] caps.toArray), sl a14 len cap14, .map (some m15), .int .i64 ((0 : Nat) : Int)]) rfl rfl) rfl rfl rfl rfl ?_
    rintro _ _ ⟨b17, rfl, rfl⟩
    refine ⟨(fun _ => (by repeat (first | with_reducible exact Sub.refl | with_reducible exact Sub.nil | with_reducible refine Sub.cons (by repeat (first | with_reducible exact Ext.here | with_reducible apply Ext.there)) ?_ | with_reducible refine Sub.tail ?_))), ?_⟩
    refine WJ_takeP 12 rfl (by kernel_rfl) (Rd_assign rfl) rfl rfl rfl (hp _ _) ?_
    refine WJ_done (by kernel_rfl) ?_
    refine Ps_next hK2 ?_
    refine WC_seq fun K3 hK3 => ?_
    refine WC_sr fun K4 hK4 => ?_
    refine WL_rd (Rd_move rfl) rfl rfl rfl ?_
    refine WL_rd (Rd_nilCheck rfl) rfl rfl rfl ?_
    refine WL_rd (Rd_fieldAddr rfl fo157_1) rfl rfl rfl ?_
    refine WL_rd (Rd_load rfl tk155) rfl rfl rfl ?_
    refine WL_rd (Rd_len rfl rfl ud155) rfl rfl rfl ?_
    refine WL_rd (Rd_move rfl) rfl rfl rfl ?_
    refine WL_end hK4 ?_
    refine WC_block ?_
    rw [show mpI m15 (atOf ([] : List (Nat × (Int × Int × ByteArray)))) = mpI m15 (atOf (rows.take 0)) from rfl]
    refine WC_loopK (σ := Nat) (fun k => [(23, .int .i64 ((k : Nat) : Int))]) (fun k => [mpI m15 (atOf (rows.take k))]) (fun k => k ≤ len) (fun k => len - k) (0) [2, 3, 21, 22, 36] (by repeat (first | exact Kep.nil | apply Kep.drop rfl | apply Kep.keep rfl)) (by (try dsimp only); repeat (first | with_reducible exact Gv.nil | (with_reducible apply Gv.cons; · (repeat (first | with_reducible exact Ext.here | with_reducible apply Ext.there))))) ?_ ?_ Sub.refl ?_
    · exact Nat.zero_le _
    · (try dsimp only); exact (Wk.cons (by first | rfl | (simp only [List.length_append, List.length_cons, List.length_nil, List.length_replicate, Nat.zero_add]; rfl) | (simp; done)) Wk.nil)
    · rintro k hk K5 hK5
      simp only [List.cons_append, List.nil_append]
      refine WC_sr fun K6 hK6 => ?_
      refine WL_rd (Rd_lssN rfl rfl) rfl rfl rfl ?_
      refine WL_end hK6 ?_
      refine WC_seq fun K7 hK7 => ?_
      refine WC_cond rfl (fun hc0 => ?_) (fun hc0 => ?_)
      · try simp only [decide_eq_true_eq, decide_eq_false_iff_not, Bool.not_eq_true', Bool.not_eq_false', Bool.not_eq_true, Bool.not_eq_false, Int.not_lt, Int.not_le, Nat.not_lt, Nat.not_le, Decidable.not_not, ne_eq] at hc0
        obtain ⟨x, hx⟩ : ∃ x, rows[k]? = some x := ⟨_, List.getElem?_eq_getElem (by omega)⟩
        refine WC_some (a := a14) (by repeat (first | with_reducible exact Has.here | with_reducible refine Has.there ?_)) (by omega) (fun gb hgb _ => ?_)
        subst hgb
        refine WC_skip ?_
        refine Ps_next hK7 ?_
        refine WC_seq fun K8 hK8 => ?_
        refine WC_block ?_
        refine WC_sr fun K9 hK9 => ?_
        refine WL_rd (Rd_move rfl) rfl rfl rfl ?_
        refine WL_rd (Rd_index k rfl rfl ud155 sz159 (hi := by omega)) rfl rfl rfl ?_
        refine WL_rd (Rd_loadg_arr (f := kS_h_itf) (i := k) rfl tk159 (hl := hx)) rfl rfl rfl ?_
        refine WL_ac (Ac_alloc zr159) rfl rfl rfl ?_
        rintro _ _ ⟨b5, rfl, rfl⟩
        refine WL_rd (Rd_assign rfl) rfl rfl rfl ?_
        refine WL_ac0 (Ac_store (ys := kS_h_itf x) rfl rfl sz159 (h1 := kS_h_itf_one x) (hr := rfl)) rfl rfl ?_
        rintro _ _ rfl
        refine WL_end hK9 ?_
        refine WC_drawA mix (fun i => ([2, 2, 2, 2, 2, 2, 2, 0] : List Nat).getD i 0) ?_
        refine WJ_takeP 0 rfl (by kernel_rfl) (Rd_move rfl) rfl rfl rfl (hp _ _) ?_
        refine WJ_takeP 1 rfl (by kernel_rfl) (Rd_nilCheck rfl) rfl rfl rfl (hp _ _) ?_
        refine WJ_takeP 2 rfl (by kernel_rfl) (Rd_fieldAddr rfl fo157_2) rfl rfl rfl (hp _ _) ?_
        refine WJ_tk 3 (Rd_load rfl tk141) hp ?_ rfl (by kernel_rfl) rfl rfl rfl
        refine WJ_takeP 4 rfl (by kernel_rfl) (Rd_fieldAddr rfl fo159_0) rfl rfl rfl (hp _ _) ?_
        refine WJ_tk 5 (Rd_load rfl tk3 (v := .int .i64 ((x.1 : Nat) : Int))) hp ?_ rfl (by kernel_rfl) rfl rfl rfl
        refine WJ_takeP 6 rfl (by kernel_rfl) (Rd_move rfl) rfl rfl rfl (hp _ _) ?_
        refine WJ_all (rs := [7]) (by kernel_rfl) rfl ?_
        refine WI_one ?_
        refine WI_ac0 rfl (Ac_mapUpdate rfl rfl rfl ud141 ud3) rfl rfl rfl ?_
        rintro _ _ rfl
        rw [show upd (atOf (rows.take k)) (x.1 : Int) (some (.int .i64 (k : Int))) = atOf (rows.take (k + 1)) from at_grow hT hx]
        refine ⟨(fun h => by cases h), ?_⟩
        refine WJ_done (by kernel_rfl) ?_
        refine Ps_next hK8 ?_
        refine WC_region ?_
        refine WL_rd (Rd_addN (j := 1) rfl rfl) rfl rfl rfl ?_
        refine WL_rd (Rd_move rfl) rfl rfl rfl ?_
        refine WL_nil ?_
        refine Ps_wk (by (try simp only [List.cons_append, List.nil_append]); repeat (first | with_reducible exact Wk.nil | refine Wk.cons (by first | rfl | (simp only [List.length_append, List.length_cons, List.length_nil, List.length_replicate, Nat.zero_add]; rfl) | (simp; done)) ?_)) (by (try simp only [List.cons_append, List.nil_append]); repeat (first | with_reducible exact Sub.refl | with_reducible exact Sub.nil | with_reducible refine Sub.cons (by repeat (first | with_reducible exact Ext.here | with_reducible apply Ext.there)) ?_ | with_reducible refine Sub.tail ?_)) (hK5 (k + 1) (by omega) (by omega))
      · try simp only [decide_eq_true_eq, decide_eq_false_iff_not, Bool.not_eq_true', Bool.not_eq_false', Bool.not_eq_true, Bool.not_eq_false, Int.not_lt, Int.not_le, Nat.not_lt, Nat.not_le, Decidable.not_not, ne_eq] at hc0
        obtain rfl : k = len := by omega
        rw [show rows.take k = rows from List.take_of_length_le (by omega)]
        refine WC_exit ?_
        refine Ps_next hK3 ?_
        refine WC_sr fun K10 hK10 => ?_
        refine WL_rd (Rd_move rfl) rfl rfl rfl ?_
        refine WL_rd (Rd_assign rfl) rfl rfl rfl ?_
        refine WL_end hK10 ?_
        refine WC_ret ?_
        exact hret.go (b17, a14, cap14, m15) (Rs1 rfl rfl)
  · skip
    refine WI_ac rfl (Ac_makeMap) rfl rfl rfl rfl ?_
    rintro _ _ ⟨m15, rfl, rfl⟩
    rw [show (fun _ : Int => (none : Option Value)) = atOf ([] : List (Nat × (Int × Int × ByteArray))) from rfl]
    refine ⟨(fun _ => (by repeat (first | with_reducible exact Sub.refl | with_reducible exact Sub.nil | with_reducible refine Sub.cons (by repeat (first | with_reducible exact Ext.here | with_reducible apply Ext.there)) ?_ | with_reducible refine Sub.tail ?_))), ?_⟩
    refine WJ_all (rs := [8]) (by kernel_rfl) rfl ?_
    refine WI_one ?_
    refine WI_ac rfl (Ac_call cf105 rfl (hs := kS_h_cloneI (X := arr a cap 4 159 kS_h_itf (rows)) (v := sl a len cap) (l := rows) (hS := hRS))) rfl rfl rfl rfl ?_
    rintro _ _ ⟨⟨a14, cap14⟩, rfl, hA⟩
    simp only [List.cons_append, List.nil_append] at hA
    replace hA := hA.symm
    subst hA
    rw [← hlen]
    refine ⟨(fun _ => (by repeat (first | with_reducible exact Sub.refl | with_reducible exact Sub.nil | with_reducible refine Sub.cons (by repeat (first | with_reducible exact Ext.here | with_reducible apply Ext.there)) ?_ | with_reducible refine Sub.tail ?_))), ?_⟩
    refine WJ_takeP 10 rfl (by kernel_rfl) (Rd_build pls157 rfl) rfl rfl rfl (hp _ _) ?_
    refine WJ_all (rs := [11]) (by kernel_rfl) rfl ?_
    refine WI_one ?_
    refine WI_ac rfl (Ac_box (xs := [(.func (.func lf) #[] caps.toArray), sl a14 len cap14, .map (some m15), .int .i64 ((0 : Nat) : Int)]) rfl rfl) rfl rfl rfl rfl ?_
    rintro _ _ ⟨b17, rfl, rfl⟩
    refine ⟨(fun _ => (by repeat (first | with_reducible exact Sub.refl | with_reducible exact Sub.nil | with_reducible refine Sub.cons (by repeat (first | with_reducible exact Ext.here | with_reducible apply Ext.there)) ?_ | with_reducible refine Sub.tail ?_))), ?_⟩
    refine WJ_takeP 12 rfl (by kernel_rfl) (Rd_assign rfl) rfl rfl rfl (hp _ _) ?_
    refine WJ_done (by kernel_rfl) ?_
    refine Ps_next hK2 ?_
    refine WC_seq fun K11 hK11 => ?_
    refine WC_sr fun K12 hK12 => ?_
    refine WL_rd (Rd_move rfl) rfl rfl rfl ?_
    refine WL_rd (Rd_nilCheck rfl) rfl rfl rfl ?_
    refine WL_rd (Rd_fieldAddr rfl fo157_1) rfl rfl rfl ?_
    refine WL_rd (Rd_load rfl tk155) rfl rfl rfl ?_
    refine WL_rd (Rd_len rfl rfl ud155) rfl rfl rfl ?_
    refine WL_rd (Rd_move rfl) rfl rfl rfl ?_
    refine WL_end hK12 ?_
    refine WC_block ?_
    rw [show mpI m15 (atOf ([] : List (Nat × (Int × Int × ByteArray)))) = mpI m15 (atOf (rows.take 0)) from rfl]
    refine WC_loopK (σ := Nat) (fun k => [(23, .int .i64 ((k : Nat) : Int))]) (fun k => [mpI m15 (atOf (rows.take k))]) (fun k => k ≤ len) (fun k => len - k) (0) [2, 3, 21, 22, 36] (by repeat (first | exact Kep.nil | apply Kep.drop rfl | apply Kep.keep rfl)) (by (try dsimp only); repeat (first | with_reducible exact Gv.nil | (with_reducible apply Gv.cons; · (repeat (first | with_reducible exact Ext.here | with_reducible apply Ext.there))))) ?_ ?_ Sub.refl ?_
    · exact Nat.zero_le _
    · (try dsimp only); exact (Wk.cons (by first | rfl | (simp only [List.length_append, List.length_cons, List.length_nil, List.length_replicate, Nat.zero_add]; rfl) | (simp; done)) Wk.nil)
    · rintro k hk K13 hK13
      simp only [List.cons_append, List.nil_append]
      refine WC_sr fun K14 hK14 => ?_
      refine WL_rd (Rd_lssN rfl rfl) rfl rfl rfl ?_
      refine WL_end hK14 ?_
      refine WC_seq fun K15 hK15 => ?_
      refine WC_cond rfl (fun hc0 => ?_) (fun hc0 => ?_)
      · try simp only [decide_eq_true_eq, decide_eq_false_iff_not, Bool.not_eq_true', Bool.not_eq_false', Bool.not_eq_true, Bool.not_eq_false, Int.not_lt, Int.not_le, Nat.not_lt, Nat.not_le, Decidable.not_not, ne_eq] at hc0
        obtain ⟨x, hx⟩ : ∃ x, rows[k]? = some x := ⟨_, List.getElem?_eq_getElem (by omega)⟩
        refine WC_some (a := a14) (by repeat (first | with_reducible exact Has.here | with_reducible refine Has.there ?_)) (by omega) (fun gb hgb _ => ?_)
        subst hgb
        refine WC_skip ?_
        refine Ps_next hK15 ?_
        refine WC_seq fun K16 hK16 => ?_
        refine WC_block ?_
        refine WC_sr fun K17 hK17 => ?_
        refine WL_rd (Rd_move rfl) rfl rfl rfl ?_
        refine WL_rd (Rd_index k rfl rfl ud155 sz159 (hi := by omega)) rfl rfl rfl ?_
        refine WL_rd (Rd_loadg_arr (f := kS_h_itf) (i := k) rfl tk159 (hl := hx)) rfl rfl rfl ?_
        refine WL_ac (Ac_alloc zr159) rfl rfl rfl ?_
        rintro _ _ ⟨b5, rfl, rfl⟩
        refine WL_rd (Rd_assign rfl) rfl rfl rfl ?_
        refine WL_ac0 (Ac_store (ys := kS_h_itf x) rfl rfl sz159 (h1 := kS_h_itf_one x) (hr := rfl)) rfl rfl ?_
        rintro _ _ rfl
        refine WL_end hK17 ?_
        refine WC_drawA mix (fun i => ([2, 2, 2, 2, 2, 2, 2, 0] : List Nat).getD i 0) ?_
        refine WJ_takeP 0 rfl (by kernel_rfl) (Rd_move rfl) rfl rfl rfl (hp _ _) ?_
        refine WJ_takeP 1 rfl (by kernel_rfl) (Rd_nilCheck rfl) rfl rfl rfl (hp _ _) ?_
        refine WJ_takeP 2 rfl (by kernel_rfl) (Rd_fieldAddr rfl fo157_2) rfl rfl rfl (hp _ _) ?_
        refine WJ_tk 3 (Rd_load rfl tk141) hp ?_ rfl (by kernel_rfl) rfl rfl rfl
        refine WJ_takeP 4 rfl (by kernel_rfl) (Rd_fieldAddr rfl fo159_0) rfl rfl rfl (hp _ _) ?_
        refine WJ_tk 5 (Rd_load rfl tk3 (v := .int .i64 ((x.1 : Nat) : Int))) hp ?_ rfl (by kernel_rfl) rfl rfl rfl
        refine WJ_takeP 6 rfl (by kernel_rfl) (Rd_move rfl) rfl rfl rfl (hp _ _) ?_
        refine WJ_all (rs := [7]) (by kernel_rfl) rfl ?_
        refine WI_one ?_
        refine WI_ac0 rfl (Ac_mapUpdate rfl rfl rfl ud141 ud3) rfl rfl rfl ?_
        rintro _ _ rfl
        rw [show upd (atOf (rows.take k)) (x.1 : Int) (some (.int .i64 (k : Int))) = atOf (rows.take (k + 1)) from at_grow hT hx]
        refine ⟨(fun h => by cases h), ?_⟩
        refine WJ_done (by kernel_rfl) ?_
        refine Ps_next hK16 ?_
        refine WC_region ?_
        refine WL_rd (Rd_addN (j := 1) rfl rfl) rfl rfl rfl ?_
        refine WL_rd (Rd_move rfl) rfl rfl rfl ?_
        refine WL_nil ?_
        refine Ps_wk (by (try simp only [List.cons_append, List.nil_append]); repeat (first | with_reducible exact Wk.nil | refine Wk.cons (by first | rfl | (simp only [List.length_append, List.length_cons, List.length_nil, List.length_replicate, Nat.zero_add]; rfl) | (simp; done)) ?_)) (by (try simp only [List.cons_append, List.nil_append]); repeat (first | with_reducible exact Sub.refl | with_reducible exact Sub.nil | with_reducible refine Sub.cons (by repeat (first | with_reducible exact Ext.here | with_reducible apply Ext.there)) ?_ | with_reducible refine Sub.tail ?_)) (hK13 (k + 1) (by omega) (by omega))
      · try simp only [decide_eq_true_eq, decide_eq_false_iff_not, Bool.not_eq_true', Bool.not_eq_false', Bool.not_eq_true, Bool.not_eq_false, Int.not_lt, Int.not_le, Nat.not_lt, Nat.not_le, Decidable.not_not, ne_eq] at hc0
        obtain rfl : k = len := by omega
        rw [show rows.take k = rows from List.take_of_length_le (by omega)]
        refine WC_exit ?_
        refine Ps_next hK11 ?_
        refine WC_sr fun K18 hK18 => ?_
        refine WL_rd (Rd_move rfl) rfl rfl rfl ?_
        refine WL_rd (Rd_assign rfl) rfl rfl rfl ?_
        refine WL_end hK18 ?_
        refine WC_ret ?_
        exact hret.go (b17, a14, cap14, m15) (Rs1 rfl rfl)

theorem kS_h_all {lf : FuncId} {caps : List Value} {b len cap m made : Nat} {a : Option Nat} {rows : List (Nat × (Int × Int × ByteArray))} (hT : Tk rows := by assumption) (hcap : rows.length ≤ 900000000 := by omega) : Ct Try.prog 68 [.pointer (some ⟨b, 0, none⟩)] [cl b 157 [(.func (.func lf) #[] caps.toArray), sl a rows.length cap, .map (some m), .int .i64 ((made : Nat) : Int)], arr a cap 4 159 kS_h_itf (rows)] (fun g : Nat × Nat × Option Nat × Nat × Nat => .func (.func 92) #[] #[.pointer (some ⟨g.1, 0, none⟩)]) (fun g => [cl b 157 [(.func (.func lf) #[] caps.toArray), sl a rows.length cap, .map (some m), .int .i64 ((made : Nat) : Int)], arr a cap 4 159 kS_h_itf (rows), cl g.1 116 [.pointer (some ⟨g.2.1, 0, none⟩)], cl g.2.1 157 [(.func (.func lf) #[] caps.toArray), sl g.2.2.1 rows.length g.2.2.2.1, .map (some g.2.2.2.2), .int .i64 ((0 : Nat) : Int)], arr g.2.2.1 g.2.2.2.1 4 159 kS_h_itf rows]) := by
  refine Ct_body (n := 10) Try.func68 rfl rfl rfl fun F w0 Q hret hnorm hp => ?_
  change WC _ _ _ _ _ _ _ (_ :: _ :: F)
  refine WC_sr fun K1 hK1 => ?_
  refine WL_rd (Rd_assign rfl) rfl rfl rfl ?_
  refine WL_end hK1 ?_
  refine WC_seq fun K2 hK2 => ?_
  refine WC_sr fun K3 hK3 => ?_
  refine WL_rd (Rd_move rfl) rfl rfl rfl ?_
  refine WL_ac (Ac_call cf85 rfl (hs := kS_h_ok)) rfl rfl rfl ?_
  rintro _ _ ⟨⟨⟩, rfl, hA⟩
  simp only [List.cons_append, List.nil_append] at hA
  replace hA := hA.symm
  subst hA
  refine WL_rd (Rd_not rfl) rfl rfl rfl ?_
  refine WL_end hK3 ?_
  refine WC_condF rfl ?_
  refine WC_skip ?_
  refine Ps_next hK2 ?_
  refine WC_sr fun K4 hK4 => ?_
  refine WL_rd (Rd_move rfl) rfl rfl rfl ?_
  refine WL_ac (Ac_call cf91 rfl (hs := kS_h_copied (lf := lf) (caps := caps) (a := a) (cap := cap) (m := m) (made := made) (rows := rows) (len := rows.length) (hlen := rfl))) rfl rfl rfl ?_
  rintro _ _ ⟨⟨g8, ga, gc, gm⟩, rfl, hA⟩
  simp only [List.cons_append, List.nil_append] at hA
  replace hA := hA.symm
  subst hA
  refine WL_ac (Ac_alloc zr116) rfl rfl rfl ?_
  rintro _ _ ⟨b3, rfl, rfl⟩
  refine WL_ac0 (Ac_store1 rfl rfl sz116) rfl rfl ?_
  rintro _ _ rfl
  refine WL_end hK4 ?_
  refine WC_sr fun K5 hK5 => ?_
  refine WL_rd (Rd_makeFunc rfl rfl) rfl rfl rfl ?_
  refine WL_rd (Rd_assign rfl) rfl rfl rfl ?_
  refine WL_end hK5 ?_
  refine WC_ret ?_
  exact hret.go (b3, g8, ga, gc, gm) (Rs1 rfl rfl)

theorem kS_h_all_hp {lf : FuncId} {caps : List Value} {b made : Nat} {rows : List (Nat × (Int × Int × ByteArray))} (hm : made ≤ 900000000 := by omega) : Ct Try.prog 68 [.pointer (some ⟨b, 0, none⟩)] [kS_h_hpA (.func (.func lf) #[] caps.toArray) b rows made] (fun g : Nat × Nat × Option Nat × Nat × Nat => .func (.func 92) #[] #[.pointer (some ⟨g.1, 0, none⟩)]) (fun g => [kS_h_hpA (.func (.func lf) #[] caps.toArray) b rows made, cl g.1 116 [.pointer (some ⟨g.2.1, 0, none⟩)], cl g.2.1 157 [(.func (.func lf) #[] caps.toArray), sl g.2.2.1 rows.length g.2.2.2.1, .map (some g.2.2.2.2), .int .i64 ((0 : Nat) : Int)], arr g.2.2.1 g.2.2.2.1 4 159 kS_h_itf rows]) :=
  Ct_way fun F w hs => by
    obtain ⟨⟨a, cap, m⟩, hG, hs⟩ := kS_h_hp_open.1 hs
    have hGl := hG.len
    exact ⟨_, _, _, _, (kS_h_all (b := b) (a := a) (cap := cap) (m := m) (len := rows.length) (made := made) (rows := rows) (lf := lf) (caps := caps) (hT := hG.1)).frame [mpI m (atOf rows)], hs, fun r w' hw => ⟨r, rfl, (kS_h_hp_open (R := [cl r.1 116 [.pointer (some ⟨r.2.1, 0, none⟩)], cl r.2.1 157 [(.func (.func lf) #[] caps.toArray), sl r.2.2.1 rows.length r.2.2.2.1, .map (some r.2.2.2.2), .int .i64 ((0 : Nat) : Int)], arr r.2.2.1 r.2.2.2.1 4 159 kS_h_itf rows] ++ F)).2 ⟨(a, cap, m), hG, Sub.sat (by simp only [List.cons_append, List.nil_append, kS_h_hpB]; repeat (first | with_reducible exact Sub.refl | with_reducible exact Sub.nil | with_reducible refine Sub.cons (by repeat (first | with_reducible exact Ext.here | with_reducible apply Ext.there)) ?_ | with_reducible refine Sub.tail ?_)) hw⟩⟩⟩

theorem kS_h_allIt {J : Unit → Asn} {lt0 : (Int × Int × ByteArray) → (Int × Int × ByteArray) → Bool} {lf : FuncId} {caps : List Value} {l u tb tc tm : Nat} {ta : Option Nat} {rows L : List (Nat × (Int × Int × ByteArray))} {X Y : Nat → Asn} {JJ : Asn} (hcf : cfn Try.prog lf = true) (hless : ∀ (s : Unit) x y, Ct Try.prog lf ([.agg [.int .i64 x.1, .int .i64 x.2.1, .string x.2.2].toArray, .agg [.int .i64 y.1, .int .i64 y.2.1, .string y.2.2].toArray] ++ caps) [J s] (fun _ : Unit => .bool (pl lt0 s x y).1) (fun _ => [J (pl lt0 s x y).2])) (O : Od lt0) (hpm : rows.Perm L) (hu : L.Pairwise fun x y => x.1 < y.1) (hH : Hp lt0 rows) (hT : Tk rows) (hcap : rows.length ≤ 900000000) (hX : ∀ (i : Nat) (R : List Asn) (w : World), sat w (X i :: R) → sat w (cl u 116 [.pointer (some ⟨tb, 0, none⟩)] :: cl tb 157 [(.func (.func lf) #[] caps.toArray), sl ta rows.length tc, .map (some tm), .int .i64 ((0 : Nat) : Int)] :: arr ta tc 4 159 kS_h_itf rows :: J () :: Y i :: R)) (hX' : ∀ (i : Nat) (R : List Asn) (w : World), sat w (cl u 116 [.pointer (some ⟨tb, 0, none⟩)] :: cl tb 157 [(.func (.func lf) #[] caps.toArray), sl ta rows.length tc, .map (some tm), .int .i64 ((0 : Nat) : Int)] :: arr ta tc 4 159 kS_h_itf rows :: J () :: Y i :: R) → sat w (X i :: R)) (hy : ∀ (i : Nat) (x : Nat × (Int × Int × ByteArray)), (srt lt0 L)[i]? = some x → Yd Try.prog l [.int .i64 ((x.1 : Nat) : Int), .agg [.int .i64 x.2.1, .int .i64 x.2.2.1, .string x.2.2.2].toArray] [X i] (fun b : Bool => .bool b) (fun b => [bif b then X (i + 1) else JJ])) : Ct Try.prog 92 [yv l, .pointer (some ⟨u, 0, none⟩)] [X 0] (fun b : Bool => .tuple #[]) (fun b => [bif b then X L.length else JJ]) := by
  refine Ct_body (n := 22) Try.func92 rfl rfl rfl fun F w0 Q hret hnorm hp => ?_
  change WC _ _ _ _ _ _ _ (_ :: F)
  refine WC_imp (fun w h => hX 0 _ w h) ?_
  have hll := hpm.length_eq
  refine WC_sr fun K1 hK1 => ?_
  refine WL_rd (Rd_load rfl tk116) rfl rfl rfl ?_
  refine WL_ac (Ac_call cf91 rfl (hs := kS_h_copied (lf := lf) (caps := caps) (a := ta) (cap := tc) (m := tm) (made := 0) (rows := rows) (len := rows.length) (hlen := rfl))) rfl rfl rfl ?_
  rintro _ _ ⟨⟨gb, ga, gc, gm⟩, rfl, hA⟩
  simp only [List.cons_append, List.nil_append] at hA
  replace hA := hA.symm
  subst hA
  refine WL_rd (Rd_assign rfl) rfl rfl rfl ?_
  refine WL_end hK1 ?_
  refine WC_block ?_
  rw [show Y 0 = Y ([] : List (Nat × (Int × Int × ByteArray))).length from rfl]
  refine WC_loopK (σ := (List (Nat × (Int × Int × ByteArray))) × (List (Nat × (Int × Int × ByteArray))) × (Option Nat) × Nat) (fun ⟨rs, out, ra, rc⟩ => []) (fun ⟨rs, out, ra, rc⟩ => [cl gb 157 [(.func (.func lf) #[] caps.toArray), sl ra rs.length rc, .map (some gm), .int .i64 ((0 : Nat) : Int)], arr ra rc 4 159 kS_h_itf rs, mpI gm (atOf rs), Y out.length]) (fun ⟨rs, out, ra, rc⟩ => OutG lt0 L out rs ∧ Hp lt0 rs ∧ Tk rs) (fun ⟨rs, out, ra, rc⟩ => rs.length) ⟨rows, [], ga, gc⟩ [0, 3] (by repeat (first | exact Kep.nil | apply Kep.drop rfl | apply Kep.keep rfl)) (by (try dsimp only); repeat (first | with_reducible exact Gv.nil | (with_reducible apply Gv.cons; · (repeat (first | with_reducible exact Ext.here | with_reducible apply Ext.there))))) ?_ ?_ Sub.refl ?_
  · exact ⟨OutG_0 hpm, hH, hT⟩
  · (try dsimp only); exact Wk.nil
  · rintro ⟨rs, out, ra, rc⟩ ⟨hO, hH2, hT2⟩ K2 hK2
    simp only [List.cons_append, List.nil_append]
    have hol := OutG_len hO
    refine WC_seq fun K3 hK3 => ?_
    refine WC_sr fun K4 hK4 => ?_
    refine WL_rd (Rd_move rfl) rfl rfl rfl ?_
    refine WL_rd (Rd_nilCheck rfl) rfl rfl rfl ?_
    refine WL_rd (Rd_fieldAddr rfl fo157_1) rfl rfl rfl ?_
    refine WL_rd (Rd_load rfl tk155) rfl rfl rfl ?_
    refine WL_rd (Rd_len rfl rfl ud155) rfl rfl rfl ?_
    refine WL_rd (Rd_gtrN (j := 0) rfl rfl) rfl rfl rfl ?_
    refine WL_end hK4 ?_
    refine WC_cond rfl (fun hc0 => ?_) (fun hc0 => ?_)
    · try simp only [decide_eq_true_eq, decide_eq_false_iff_not, Bool.not_eq_true', Bool.not_eq_false', Bool.not_eq_true, Bool.not_eq_false, Int.not_lt, Int.not_le, Nat.not_lt, Nat.not_le, Decidable.not_not, ne_eq] at hc0
      obtain ⟨x, hx⟩ : ∃ x, rs[0]? = some x := ⟨_, List.getElem?_eq_getElem (by omega)⟩
      have hO2 := OutG_heap O hO hH2 hx
      have hat := OutG_at O hu hO2
      have hT3 : Tk (takeM (pl lt0) () rs 0).1 := by have h := Tk_perm (takeM_perm (pl lt0) () hx) hT2; unfold Tk at h ⊢; rw [List.map_cons] at h; exact (List.nodup_cons.1 h).2
      refine WC_skip ?_
      refine Ps_next hK3 ?_
      refine WC_block ?_
      refine WC_sr fun K5 hK5 => ?_
      refine WL_rd (Rd_move rfl) rfl rfl rfl ?_
      refine WL_ac (Ac_call cf87 rfl (hs := kS_h_take hcf hless (rows := rs) (made := 0) (s := ()) (i := 0) (x := x) (hi := hx) (hlen := rfl))) rfl rfl rfl ?_
      rintro _ _ ⟨⟨⟩, rfl, hA⟩
      simp only [List.cons_append, List.nil_append] at hA
      replace hA := hA.symm
      subst hA
      refine WL_ac (Ac_alloc zr159) rfl rfl rfl ?_
      rintro _ _ ⟨b4, rfl, rfl⟩
      refine WL_ac0 (Ac_store (ys := kS_h_itf x) rfl rfl sz159 (h1 := kS_h_itf_one x) (hr := rfl)) rfl rfl ?_
      rintro _ _ rfl
      refine WL_end hK5 ?_
      refine WC_sr fun K6 hK6 => ?_
      refine WL_rd (Rd_move rfl) rfl rfl rfl ?_
      refine WL_rd (Rd_fieldAddr rfl fo159_0) rfl rfl rfl ?_
      refine WL_rd (Rd_load rfl tk3 (v := .int .i64 ((x.1 : Nat) : Int))) rfl rfl rfl ?_
      refine WL_rd (Rd_fieldAddr rfl fo159_1) rfl rfl rfl ?_
      refine WL_rd (Rd_loadg (vs := [.int .i64 x.2.1, .int .i64 x.2.2.1, .string x.2.2.2]) rfl tk62 (hi := rfl)) rfl rfl rfl ?_
      refine WL_imp (fun w h => sat_lend4 (hX' out.length) (by repeat (first | with_reducible exact Ext.here | with_reducible apply Ext.there)) (by repeat (first | with_reducible exact Ext.here | with_reducible apply Ext.there)) (by repeat (first | with_reducible exact Ext.here | with_reducible apply Ext.there)) (by repeat (first | with_reducible exact Ext.here | with_reducible apply Ext.there)) (by repeat (first | with_reducible exact Ext.here | with_reducible apply Ext.there)) h) ?_
      refine WL_ac (Ac_yield rfl rfl (hy out.length x hat)) rfl rfl rfl ?_
      rintro _ _ ⟨b', rfl, hA⟩
      simp only [List.cons_append, List.nil_append] at hA
      replace hA := hA.symm
      subst hA
      refine WL_rd (Rd_not rfl) rfl rfl rfl ?_
      refine WL_end hK6 ?_
      refine WC_cond rfl (fun hc1 => ?_) (fun hc1 => ?_)
      · try simp only [decide_eq_true_eq, decide_eq_false_iff_not, Bool.not_eq_true', Bool.not_eq_false', Bool.not_eq_true, Bool.not_eq_false, Int.not_lt, Int.not_le, Nat.not_lt, Nat.not_le, Decidable.not_not, ne_eq] at hc1
        obtain rfl : b' = false := by revert hc1; cases b' <;> simp
        simp only [cond_false]
        have hstop : True := trivial
        refine WC_ret ?_
        first | (have := hstop; exact hret.go false (Rs0 rfl) (by simp only [List.cons_append, List.nil_append, cond_false]; repeat (first | with_reducible exact Sub.refl | with_reducible exact Sub.nil | with_reducible refine Sub.cons (by repeat (first | with_reducible exact Ext.here | with_reducible apply Ext.there)) ?_ | with_reducible refine Sub.tail ?_))) | exact hret.go true (Rs0 rfl) (by simp only [List.cons_append, List.nil_append, cond_true]; repeat (first | with_reducible exact Sub.refl | with_reducible exact Sub.nil | with_reducible refine Sub.cons (by repeat (first | with_reducible exact Ext.here | with_reducible apply Ext.there)) ?_ | with_reducible refine Sub.tail ?_))
      · try simp only [decide_eq_true_eq, decide_eq_false_iff_not, Bool.not_eq_true', Bool.not_eq_false', Bool.not_eq_true, Bool.not_eq_false, Int.not_lt, Int.not_le, Nat.not_lt, Nat.not_le, Decidable.not_not, ne_eq] at hc1
        obtain rfl : b' = true := by revert hc1; cases b' <;> simp
        simp only [cond_true]
        refine WC_imp (fun w h => hX (out.length + 1) _ w h) ?_
        rw [show out.length + 1 = (out ++ [x]).length from by simp]
        refine WC_skip ?_
        refine Ps_wk (by (try simp only [List.cons_append, List.nil_append]); repeat (first | with_reducible exact Wk.nil | refine Wk.cons (by first | rfl | (simp only [List.length_append, List.length_cons, List.length_nil, List.length_replicate, Nat.zero_add]; rfl) | (simp; done)) ?_)) (by (try simp only [List.cons_append, List.nil_append]); repeat (first | with_reducible exact Sub.refl | with_reducible exact Sub.nil | with_reducible refine Sub.cons (by repeat (first | with_reducible exact Ext.here | with_reducible apply Ext.there)) ?_ | with_reducible refine Sub.tail ?_)) (hK2 ⟨(takeM (pl lt0) () rs 0).1, out ++ [x], ra, rc⟩ (⟨hO2, takeM_Hp O () (by omega) hH2, hT3⟩) (by (try dsimp only); rw [takeM_len]; omega))
    · try simp only [decide_eq_true_eq, decide_eq_false_iff_not, Bool.not_eq_true', Bool.not_eq_false', Bool.not_eq_true, Bool.not_eq_false, Int.not_lt, Int.not_le, Nat.not_lt, Nat.not_le, Decidable.not_not, ne_eq] at hc0
      have hol2 : out.length = L.length := by omega
      refine WC_imp (fun w h => sat_lend4 (hX' out.length) (by repeat (first | with_reducible exact Ext.here | with_reducible apply Ext.there)) (by repeat (first | with_reducible exact Ext.here | with_reducible apply Ext.there)) (by repeat (first | with_reducible exact Ext.here | with_reducible apply Ext.there)) (by repeat (first | with_reducible exact Ext.here | with_reducible apply Ext.there)) (by repeat (first | with_reducible exact Ext.here | with_reducible apply Ext.there)) h) ?_
      rw [hol2]
      refine WC_exit ?_
      first | (have := hstop; exact hnorm.go false (Rs0 rfl) (by simp only [List.cons_append, List.nil_append, cond_false]; repeat (first | with_reducible exact Sub.refl | with_reducible exact Sub.nil | with_reducible refine Sub.cons (by repeat (first | with_reducible exact Ext.here | with_reducible apply Ext.there)) ?_ | with_reducible refine Sub.tail ?_))) | exact hnorm.go true (Rs0 rfl) (by simp only [List.cons_append, List.nil_append, cond_true]; repeat (first | with_reducible exact Sub.refl | with_reducible exact Sub.nil | with_reducible refine Sub.cons (by repeat (first | with_reducible exact Ext.here | with_reducible apply Ext.there)) ?_ | with_reducible refine Sub.tail ?_))
end Go.Proofs.Ytcemkpiopijbmaa
