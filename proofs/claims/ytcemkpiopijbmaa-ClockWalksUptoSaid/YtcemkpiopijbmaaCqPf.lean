/-
  Contracts of functions that the claim reaches, or the logic and the plain laws that they rest on, or the row over them. (Conditions: none beyond the statement.)
-/
import Derived.Test.YtcemkpiopijbmaaCqPe
set_option linter.all false
namespace Go.Proofs.Ytcemkpiopijbmaa
open Go.RowKit Go.SL Go.HpM Go.ShM 
set_option maxHeartbeats 1000000
set_option maxRecDepth 20000
set_option linter.all false
theorem cf66 : cfn Try.prog 66 = true := by kernel_rfl
theorem dAll_ct {y made cap : Nat} {a : Option Nat} {tick : Int} {L : List (Nat × DW)} (hU : L.Pairwise fun x y => x.1 < y.1 := by assumption) (hlen : L.length ≤ 100000000 := by omega) : Ct Try.prog 32 [.pointer (some ⟨y, 0, none⟩)] [cl y 90 [.int .i64 tick, .int .i64 ((made : Nat) : Int), sl a L.length cap], arr a cap 3 81 eDR L] (fun g : Option Nat × Nat => sl g.1 (srt dlt L).length g.2) (fun g => [cl y 90 [.int .i64 tick, .int .i64 ((made : Nat) : Int), sl a L.length cap], arr a cap 3 81 eDR L, arr g.1 g.2 3 81 eDR (srt dlt L)]) := by
  refine Ct_body (n := 33) Try.func32 rfl rfl rfl fun F w0 Q hret hnorm hp => ?_
  change WC _ _ _ _ _ _ _ (_ :: _ :: F)
  refine WC_imp (fun w h => sat_nil (e := 3) (T := 81) (f := eDR) h) ?_
  refine WC_fact (fun w h => arr_facts (a := a) (cap := cap) (e := 3) (T := 81) (f := eDR) (l := L) (by repeat (first | with_reducible exact Has.here | with_reducible refine Has.there ?_)) h) (fun hRSf => ?_)
  have hRS : Sv [arr a cap 3 81 eDR L] (sl a L.length cap) 3 eDR L (a.map fun g => ⟨g, 0, none⟩) cap := Sv_own' encDR hRSf.1 hRSf.2
  refine WC_sr fun K1 hK1 => ?_
  refine WL_rd (Rd_assign (v := sl none 0 0) rfl) rfl rfl rfl ?_
  refine WL_end hK1 ?_
  refine WC_sr fun K2 hK2 => ?_
  refine WL_rd (Rd_build pls90 rfl) rfl rfl rfl ?_
  refine WL_ac (Ac_box (xs := [.int .i64 0, .int .i64 0, .slice none 0 0]) rfl rfl) rfl rfl rfl ?_
  rintro _ _ ⟨c, rfl, rfl⟩
  refine WL_rd (Rd_assign rfl) rfl rfl rfl ?_
  refine WL_end hK2 ?_
  refine WC_seq fun K3 hK3 => ?_
  refine WC_drawA mix (fun i => ([2, 2, 2, 2, 2, 2, 2, 2, 2, 0, 2, 2, 0] : List Nat).getD i 0) ?_
  refine WJ_takeP 0 rfl (by kernel_rfl) (Rd_move rfl) rfl rfl rfl (hp _ _) ?_
  refine WJ_takeP 1 rfl (by kernel_rfl) (Rd_move rfl) rfl rfl rfl (hp _ _) ?_
  refine WJ_takeP 2 rfl (by kernel_rfl) (Rd_nilCheck rfl) rfl rfl rfl (hp _ _) ?_
  refine WJ_takeP 3 rfl (by kernel_rfl) (Rd_fieldAddr rfl fo90_2) rfl rfl rfl (hp _ _) ?_
  refine WJ_tk 4 (Rd_load rfl tk75) hp ?_ rfl (by kernel_rfl) rfl rfl rfl
  refine WJ_takeP 5 rfl (by kernel_rfl) (Rd_move rfl) rfl rfl rfl (hp _ _) ?_
  refine WJ_takeP 6 rfl (by kernel_rfl) (Rd_nilCheck rfl) rfl rfl rfl (hp _ _) ?_
  refine WJ_takeP 7 rfl (by kernel_rfl) (Rd_fieldAddr rfl fo90_2) rfl rfl rfl (hp _ _) ?_
  refine WJ_tk 8 (Rd_load rfl tk75) hp ?_ rfl (by kernel_rfl) rfl rfl rfl
  refine WJ_all (rs := [9]) (by kernel_rfl) rfl ?_
  refine WI_one ?_
  refine WI_ac rfl (Ac_appendS (f := eDR) (a := none) (cap := 0) (l := []) encDR rfl rfl ud75 ud75 el81 (hS := hRS) (hb := by simp only [List.length_nil]; omega)) rfl rfl rfl rfl ?_
  rintro _ _ ⟨a18, cap18, rfl, rfl⟩
  refine ⟨(fun h => by cases h), ?_⟩
  rw [show ([] : List (Nat × DW)) ++ L = L from rfl]
  simp only [List.length_nil, Nat.zero_add]
  refine WJ_takeP 10 rfl (by kernel_rfl) (Rd_nilCheck rfl) rfl rfl rfl (hp _ _) ?_
  refine WJ_takeP 11 rfl (by kernel_rfl) (Rd_fieldAddr rfl fo90_2) rfl rfl rfl (hp _ _) ?_
  refine WJ_all (rs := [12]) (by kernel_rfl) rfl ?_
  refine WI_one ?_
  refine WI_ac0 rfl (Ac_store1 rfl rfl sz75) rfl rfl rfl ?_
  rintro _ _ rfl
  refine ⟨(fun h => by cases h), ?_⟩
  refine WJ_done (by kernel_rfl) ?_
  refine Ps_next hK3 ?_
  refine WC_sr fun K4 hK4 => ?_
  refine WL_rd (Rd_assign (v := sl none 0 0) rfl) rfl rfl rfl ?_
  refine WL_nilarr eDR 3 81 ?_
  refine WL_end hK4 ?_
  refine WC_block ?_
  rw [show cl c 90 [.int .i64 0, .int .i64 0, sl a18 L.length cap18] = cl c 90 [.int .i64 0, .int .i64 ((0 : Nat) : Int), sl a18 L.length cap18] from rfl]
  refine WC_loopK (σ := (List (Nat × DW)) × (List (Nat × DW)) × (Option Nat) × Nat × (Option Nat) × Nat × Int) (fun ⟨rs, out, ca, cc, oa, oc, tk⟩ => [(4, sl oa out.length oc)]) (fun ⟨rs, out, ca, cc, oa, oc, tk⟩ => [cl c 90 [.int .i64 tk, .int .i64 ((0 : Nat) : Int), sl ca rs.length cc], arr ca cc 3 81 eDR rs, arr oa oc 3 81 eDR out]) (fun ⟨rs, out, ca, cc, oa, oc, tk⟩ => OutG dlt L out rs ∧ rs.Pairwise fun x y => x.1 < y.1) (fun ⟨rs, out, ca, cc, oa, oc, tk⟩ => rs.length) ⟨L, [], a18, cap18, none, 0, 0⟩ [3] (by repeat (first | exact Kep.nil | apply Kep.drop rfl | apply Kep.keep rfl)) (by (try dsimp only); repeat (first | with_reducible exact Gv.nil | (with_reducible apply Gv.cons; · (repeat (first | with_reducible exact Ext.here | with_reducible apply Ext.there))))) ?_ ?_ Sub.refl ?_
  · exact ⟨OutG_0 (List.Perm.refl _), hU⟩
  · (try dsimp only); exact (Wk.cons (by first | rfl | (simp only [List.length_append, List.length_cons, List.length_nil, List.length_replicate, Nat.zero_add]; rfl) | (simp; done)) Wk.nil)
  · rintro ⟨rs, out, ca, cc, oa, oc, tk⟩ ⟨hO, hU2⟩ K5 hK5
    simp only [List.cons_append, List.nil_append]
    have hol := OutG_len hO
    refine WC_block ?_
    refine WC_sr fun K6 hK6 => ?_
    refine WL_rd (Rd_move rfl) rfl rfl rfl ?_
    refine WL_ac (Ac_call cf66 rfl (hs := dTake_ct (y := c) (made := 0) (tick := tk) (L := rs))) rfl rfl rfl ?_
    rintro _ _ ⟨⟨a23, cap23⟩, rfl, hA⟩
    simp only [List.cons_append, List.nil_append] at hA
    replace hA := hA.symm
    subst hA
    refine WL_rd (Rd_move rfl) rfl rfl rfl ?_
    refine WL_rd (Rd_ext0 rfl) rfl rfl rfl ?_
    refine WL_rd (Rd_ext1 rfl) rfl rfl rfl ?_
    refine WL_ac (Ac_alloc zr81) rfl rfl rfl ?_
    rintro _ _ ⟨b5, rfl, rfl⟩
    refine WL_ac0 (Ac_store (ys := eDR (lsX rs)) rfl rfl sz81 (h1 := encDR.one (lsX rs)) (hr := rfl)) rfl rfl ?_
    rintro _ _ rfl
    refine WL_rd (Rd_assign rfl) rfl rfl rfl ?_
    refine WL_end hK6 ?_
    refine WC_seq fun K7 hK7 => ?_
    refine WC_sr fun K8 hK8 => ?_
    refine WL_rd (Rd_move rfl) rfl rfl rfl ?_
    refine WL_rd (Rd_not rfl) rfl rfl rfl ?_
    refine WL_end hK8 ?_
    refine WC_cond rfl (fun hc0 => ?_) (fun hc0 => ?_)
    · try simp only [decide_eq_true_eq, decide_eq_false_iff_not, Bool.not_eq_true', Bool.not_eq_false', Bool.not_eq_true, Bool.not_eq_false, Int.not_lt, Int.not_le, Nat.not_lt, Nat.not_le, Decidable.not_not, ne_eq] at hc0
      obtain rfl : rs = [] := by simpa using hc0
      obtain rfl : out = srt dlt L := OutG_end dlt_od hU hO
      refine WC_sr fun K9 hK9 => ?_
      refine WL_rd (Rd_move rfl) rfl rfl rfl ?_
      refine WL_rd (Rd_assign rfl) rfl rfl rfl ?_
      refine WL_end hK9 ?_
      refine WC_ret ?_
      exact hret.go (oa, oc) (Rs1 rfl rfl)
    · try simp only [decide_eq_true_eq, decide_eq_false_iff_not, Bool.not_eq_true', Bool.not_eq_false', Bool.not_eq_true, Bool.not_eq_false, Int.not_lt, Int.not_le, Nat.not_lt, Nat.not_le, Decidable.not_not, ne_eq] at hc0
      have hpos : 0 < rs.length := Nat.pos_of_ne_zero fun e => by rw [List.eq_nil_of_length_eq_zero e] at hc0; simp at hc0
      refine WC_skip ?_
      refine Ps_next hK7 ?_
      refine WC_region ?_
      refine WL_rd (Rd_move rfl) rfl rfl rfl ?_
      refine WL_rd (Rd_loadg (vs := eDR (lsX rs)) rfl tk81 (hi := rfl)) rfl rfl rfl ?_
      refine WL_ac (Ac_bs1 (xs := eDR (lsX rs)) rfl ud75 zr81 sz81) rfl rfl rfl ?_
      rintro _ _ ⟨b31, rfl, rfl⟩
      refine WL_ac (Ac_append1 (f := eDR) encDR (lsX rs) rfl rfl ud75 ud75 el81) rfl rfl rfl ?_
      rintro _ _ ⟨a32, cap32, rfl, rfl⟩
      rw [show out.length + 1 = (out ++ [lsX rs]).length from by simp]
      refine WL_rd (Rd_assign rfl) rfl rfl rfl ?_
      refine WL_nil ?_
      refine Ps_wk (by (try simp only [List.cons_append, List.nil_append]); repeat (first | with_reducible exact Wk.nil | refine Wk.cons (by first | rfl | (simp only [List.length_append, List.length_cons, List.length_nil, List.length_replicate, Nat.zero_add]; rfl) | (simp; done)) ?_)) (by (try simp only [List.cons_append, List.nil_append]); repeat (first | with_reducible exact Sub.refl | with_reducible exact Sub.nil | with_reducible refine Sub.cons (by repeat (first | with_reducible exact Ext.here | with_reducible apply Ext.there)) ?_ | with_reducible refine Sub.tail ?_)) (hK5 ⟨lsL dlt rs, out ++ [lsX rs], a23, cap23, a32, cap32, tkD tk rs⟩ (⟨OutG_list dlt_od hO hU2 hpos (lsX_at hpos), up_erase _ hU2⟩) (by (try dsimp only); rw [lsL_len]; omega))
end Go.Proofs.Ytcemkpiopijbmaa
