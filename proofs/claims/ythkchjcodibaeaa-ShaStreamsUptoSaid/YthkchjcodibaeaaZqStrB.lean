/-
  Contracts of functions that the claim reaches, or the logic and the plain laws that they rest on, or the row over them. (Conditions: none beyond the statement.)
-/
import Derived.Test.YthkchjcodibaeaaZqStrA
set_option linter.all false
namespace Go.Proofs.Ythkchjcodibaeaa
open Go.RowKit Go.SL Go.ShM
set_option maxHeartbeats 1000000
set_option maxRecDepth 20000
set_option linter.all false
theorem cf39 : cfn Try.prog 39 = true := by kernel_rfl
theorem cf41 : cfn Try.prog 41 = true := by kernel_rfl
theorem cf42 : cfn Try.prog 42 = true := by kernel_rfl
theorem cf46 : cfn Try.prog 46 = true := by kernel_rfl
theorem fo57_0 : fo Try.prog 57 0 = some (0, 3) := by kernel_rfl
theorem fo57_1 : fo Try.prog 57 1 = some (1, 3) := by kernel_rfl
theorem fo57_2 : fo Try.prog 57 2 = some (2, 32) := by kernel_rfl
theorem pls54 : pls Try.prog 54 = some ([.pointer none, .pointer none, .pointer none], [(0, 1), (1, 1), (2, 1)]) := by kernel_rfl
theorem sz47 : sz Try.prog 47 = some 1 := by kernel_rfl
theorem sz54 : sz Try.prog 54 = some 3 := by kernel_rfl
theorem sz57 : sz Try.prog 57 = some 3 := by kernel_rfl
theorem tk47 : tk Try.prog 47 = some none := by kernel_rfl
theorem tk57 : tk Try.prog 57 = some (some 3) := by kernel_rfl
theorem ud53 : Try.prog.underlying 53 = some (.slice 57) := by kernel_rfl
theorem ud54 : Try.prog.underlying 54 = some (.array 3 47) := by kernel_rfl
theorem ud55 : Try.prog.underlying 55 = some (.array 3 32) := by kernel_rfl
theorem zr54 : zr Try.prog 54 = some [.pointer none, .pointer none, .pointer none] := by kernel_rfl
theorem zr55 : zr Try.prog 55 = some [.slice none 0 0, .slice none 0 0, .slice none 0 0] := by kernel_rfl
theorem zr57 : zr Try.prog 57 = some [.int .i64 0, .int .i64 0, .slice none 0 0] := by kernel_rfl
def FI (it : It) : Asn := sep [cl it.b 68 (hsh (hM it.M) (sl it.ha (rM it.M).length it.hc) (.int .i64 ((it.M.length : Nat) : Int))), arr it.ha it.hc 1 5 (eU .u8) (rM it.M), arr it.a it.cap 1 5 (eU .u8) it.M]

theorem Streams_ct {X : Asn} {v : Value} {qs : List AP} {ao : Option Addr} {cap : Nat} (hS : Sv [X] v 3 eAct qs ao cap := by assumption) (hP : ∀ q ∈ qs, RdP [X] q.p := by assumption) (hn : qs.length ≤ 1048576 := by omega) (hj : (joinP (qs.map AP.p)).length ≤ 1048576 := by omega) : Ct Try.prog 8 [v] [X] (fun _ : Unit => .bool true) (fun _ => [X]) := by
  refine Ct_body (n := 153) Try.func8 rfl rfl rfl fun F w0 Q hret hnorm hp => ?_
  change WC _ _ _ _ _ _ _ (_ :: F)
  refine WC_sr fun K1 hK1 => ?_
  refine WL_rd (Rd_assign rfl) rfl rfl rfl ?_
  refine WL_end hK1 ?_
  refine WC_seq fun K2 hK2 => ?_
  refine WC_sr fun K3 hK3 => ?_
  refine WL_ac (Ac_call cf24 rfl (hs := lives_ct)) rfl rfl rfl ?_
  rintro _ _ ⟨⟨⟩, rfl, hA⟩
  simp only [List.cons_append, List.nil_append] at hA
  replace hA := hA.symm
  subst hA
  refine WL_rd (Rd_not rfl) rfl rfl rfl ?_
  refine WL_end hK3 ?_
  refine WC_condF rfl ?_
  refine WC_skip ?_
  refine Ps_next hK2 ?_
  refine WC_sr fun K4 hK4 => ?_
  refine WL_ac (Ac_call cf35 rfl (hs := new_ct)) rfl rfl rfl ?_
  rintro _ _ ⟨b13, rfl, hA⟩
  simp only [List.cons_append, List.nil_append] at hA
  replace hA := hA.symm
  subst hA
  refine WL_ac (Ac_call cf35 rfl (hs := new_ct)) rfl rfl rfl ?_
  rintro _ _ ⟨b14, rfl, hA⟩
  simp only [List.cons_append, List.nil_append] at hA
  replace hA := hA.symm
  subst hA
  refine WL_ac (Ac_call cf35 rfl (hs := new_ct)) rfl rfl rfl ?_
  rintro _ _ ⟨b15, rfl, hA⟩
  simp only [List.cons_append, List.nil_append] at hA
  replace hA := hA.symm
  subst hA
  refine WL_rd (Rd_build pls54 rfl) rfl rfl rfl ?_
  refine WL_ac (Ac_alloc zr54) rfl rfl rfl ?_
  rintro _ _ ⟨b3, rfl, rfl⟩
  refine WL_ac0 (Ac_store (ys := [.pointer (some ⟨b13, 0, none⟩), .pointer (some ⟨b14, 0, none⟩), .pointer (some ⟨b15, 0, none⟩)]) rfl rfl sz54 (hr := rfl)) rfl rfl ?_
  rintro _ _ rfl
  refine WL_end hK4 ?_
  refine WC_sr fun K5 hK5 => ?_
  refine WL_ac (Ac_alloc zr55) rfl rfl rfl ?_
  rintro _ _ ⟨b4, rfl, rfl⟩
  refine WL_end hK5 ?_
  refine WC_seq fun K6 hK6 => ?_
  refine WC_sr fun K7 hK7 => ?_
  refine WL_rd (Rd_assign rfl) rfl rfl rfl ?_
  refine WL_end hK7 ?_
  refine WC_block ?_
  refine WC_imp (fun w h => sat_nil (e := 1) (T := 5) (f := eU .u8 (w := 8)) h) ?_
  refine WC_imp (fun w h => sat_nil (e := 1) (T := 5) (f := eU .u8 (w := 8)) h) ?_
  refine WC_imp (fun w h => sat_nil (e := 1) (T := 5) (f := eU .u8 (w := 8)) h) ?_
  refine WC_pk0 ?_
  refine WC_pull (arr none 0 1 5 (eU .u8) ([] : List B8)) ?_
  refine WC_pull (arr none 0 1 5 (eU .u8) (rM ([] : List B8))) ?_
  refine WC_pull (cl b13 68 (hsh (hM ([] : List B8)) (sl none (rM ([] : List B8)).length 0) (.int .i64 ((([] : List B8).length : Nat) : Int)))) ?_
  rw [show sep [cl b13 68 (hsh (hM ([] : List B8)) (sl none (rM ([] : List B8)).length 0) (.int .i64 ((([] : List B8).length : Nat) : Int))), arr none 0 1 5 (eU .u8) (rM ([] : List B8)), arr none 0 1 5 (eU .u8) ([] : List B8)] = FI ⟨b13, none, 0, none, 0, []⟩ from rfl]
  refine WC_pk0 ?_
  refine WC_pull (arr none 0 1 5 (eU .u8) ([] : List B8)) ?_
  refine WC_pull (arr none 0 1 5 (eU .u8) (rM ([] : List B8))) ?_
  refine WC_pull (cl b14 68 (hsh (hM ([] : List B8)) (sl none (rM ([] : List B8)).length 0) (.int .i64 ((([] : List B8).length : Nat) : Int)))) ?_
  rw [show sep [cl b14 68 (hsh (hM ([] : List B8)) (sl none (rM ([] : List B8)).length 0) (.int .i64 ((([] : List B8).length : Nat) : Int))), arr none 0 1 5 (eU .u8) (rM ([] : List B8)), arr none 0 1 5 (eU .u8) ([] : List B8)] = FI ⟨b14, none, 0, none, 0, []⟩ from rfl]
  refine WC_pk0 ?_
  refine WC_pull (arr none 0 1 5 (eU .u8) ([] : List B8)) ?_
  refine WC_pull (arr none 0 1 5 (eU .u8) (rM ([] : List B8))) ?_
  refine WC_pull (cl b15 68 (hsh (hM ([] : List B8)) (sl none (rM ([] : List B8)).length 0) (.int .i64 ((([] : List B8).length : Nat) : Int)))) ?_
  rw [show sep [cl b15 68 (hsh (hM ([] : List B8)) (sl none (rM ([] : List B8)).length 0) (.int .i64 ((([] : List B8).length : Nat) : Int))), arr none 0 1 5 (eU .u8) (rM ([] : List B8)), arr none 0 1 5 (eU .u8) ([] : List B8)] = FI ⟨b15, none, 0, none, 0, []⟩ from rfl]
  refine WC_imp (fun w h => sat_star3 (F := FI) (x := ⟨b13, none, 0, none, 0, []⟩) (y := ⟨b14, none, 0, none, 0, []⟩) (z := ⟨b15, none, 0, none, 0, []⟩) (by repeat (first | with_reducible exact Ext.here | with_reducible apply Ext.there)) (by repeat (first | with_reducible exact Ext.here | with_reducible apply Ext.there)) (by repeat (first | with_reducible exact Ext.here | with_reducible apply Ext.there)) h) ?_
  refine WC_imp (fun w h => sat_arr (b := b3) (e := 1) (n := 3) (T := 54) (f := eHB) (l := [(⟨b13, none, 0, none, 0, []⟩ : It), ⟨b14, none, 0, none, 0, []⟩, ⟨b15, none, 0, none, 0, []⟩].map It.b) (xs := [.pointer (some ⟨b13, 0, none⟩), .pointer (some ⟨b14, 0, none⟩), .pointer (some ⟨b15, 0, none⟩)]) (fun _ => rfl) (by simp [maxLen]) rfl rfl (by repeat (first | with_reducible exact Ext.here | with_reducible apply Ext.there)) h) ?_
  refine WC_imp (fun w h => sat_arr (b := b4) (e := 1) (n := 3) (T := 55) (f := eMS) (l := [(⟨b13, none, 0, none, 0, []⟩ : It), ⟨b14, none, 0, none, 0, []⟩, ⟨b15, none, 0, none, 0, []⟩].map It.ms) (xs := [.slice none 0 0, .slice none 0 0, .slice none 0 0]) (fun _ => rfl) (by simp [maxLen]) rfl rfl (by repeat (first | with_reducible exact Ext.here | with_reducible apply Ext.there)) h) ?_
  refine WC_loopK (σ := Nat × (List It)) (fun ⟨k, its⟩ => [(5, .int .i64 ((k : Nat) : Int))]) (fun ⟨k, its⟩ => [star FI its, arr (some b3) 3 1 54 eHB (its.map It.b), arr (some b4) 3 1 55 eMS (its.map It.ms)]) (fun ⟨k, its⟩ => k ≤ qs.length ∧ its.length = 3 ∧ (∀ x ∈ its, x.M.length ≤ tlA qs k)) (fun ⟨k, its⟩ => qs.length - k) ⟨0, [(⟨b13, none, 0, none, 0, []⟩ : It), ⟨b14, none, 0, none, 0, []⟩, ⟨b15, none, 0, none, 0, []⟩]⟩ [0, 3, 4, 10, 123, 124, 125, 126, 127, 128, 129, 130, 131, 132, 133, 134, 135, 136, 137, 138, 139, 140, 141, 142, 143, 144, 145, 146, 147, 148, 149, 150, 151, 152] (by repeat (first | exact Kep.nil | apply Kep.drop rfl | apply Kep.keep rfl)) (by (try dsimp only); repeat (first | with_reducible exact Gv.nil | (with_reducible apply Gv.cons; · (repeat (first | with_reducible exact Ext.here | with_reducible apply Ext.there))))) ?_ ?_ Sub.refl ?_
  · exact ⟨Nat.zero_le _, rfl, fun x hx => by simp only [List.mem_cons, List.not_mem_nil, or_false] at hx; rcases hx with rfl | rfl | rfl <;> exact Nat.zero_le _⟩
  · (try dsimp only); exact (Wk.cons (by first | rfl | (simp only [List.length_append, List.length_cons, List.length_nil, List.length_replicate, Nat.zero_add]; rfl) | (simp; done)) Wk.nil)
  · rintro ⟨k, its⟩ ⟨hk, h3, hbM⟩ K8 hK8
    simp only [List.cons_append, List.nil_append]
    refine WC_seq fun K9 hK9 => ?_
    refine WC_sr fun K10 hK10 => ?_
    refine WL_rd (Rd_move rfl) rfl rfl rfl ?_
    refine WL_rd (Rd_move rfl) rfl rfl rfl ?_
    refine WL_rd (Rd_len_sv rfl rfl ud53) rfl rfl rfl ?_
    refine WL_rd (Rd_lssN rfl rfl) rfl rfl rfl ?_
    refine WL_end hK10 ?_
    refine WC_cond rfl (fun hc1 => ?_) (fun hc1 => ?_)
    · try simp only [decide_eq_true_eq, decide_eq_false_iff_not, Bool.not_eq_true', Bool.not_eq_false', Bool.not_eq_true, Bool.not_eq_false, Int.not_lt, Int.not_le, Nat.not_lt, Nat.not_le, Decidable.not_not, ne_eq] at hc1
      obtain ⟨q, hq⟩ := at_i (l := qs) (i := k) (by omega)
      have hqS : Sv [X] q.p.v 1 (eU .u8 (w := 8)) q.p.l q.p.ao q.p.cap := hP q (List.mem_of_getElem? hq)
      have hts := tlA_succ hq
      have htl := tlA_le qs (k + 1)
      refine WC_skip ?_
      refine Ps_next hK9 ?_
      refine WC_seq fun K11 hK11 => ?_
      refine WC_block ?_
      refine WC_sr fun K12 hK12 => ?_
      refine WL_rd (Rd_move rfl) rfl rfl rfl ?_
      refine WL_rd (Rd_move rfl) rfl rfl rfl ?_
      refine WL_rd (Rd_index_sv k rfl rfl ud53 sz57 (hA := hS) (hi := by omega)) rfl rfl rfl ?_
      refine WL_rd (Rd_loadg_sv (f := eAct) (i := k) rfl tk57 (hA := hS) (hl := hq)) rfl rfl rfl ?_
      refine WL_ac (Ac_alloc zr57) rfl rfl rfl ?_
      rintro _ _ ⟨b6, rfl, rfl⟩
      refine WL_ac0 (Ac_store (ys := [.int .i64 q.on, .int .i64 q.call, q.p.v]) rfl rfl sz57 (h1 := encAct.one q) (hr := rfl)) rfl rfl ?_
      rintro _ _ rfl
      refine WL_end hK12 ?_
      refine WC_sr fun K13 hK13 => ?_
      refine WL_rd (Rd_fieldAddr rfl fo57_0) rfl rfl rfl ?_
      refine WL_rd (Rd_load rfl tk3) rfl rfl rfl ?_
      refine WL_ac (Ac_call cf39 rfl (hs := pick_ct (x := q.on) (n := 3))) rfl rfl rfl ?_
      rintro _ _ ⟨⟨⟩, rfl, hA⟩
      simp only [List.cons_append, List.nil_append] at hA
      replace hA := hA.symm
      subst hA
      have hn3 := pickN_lt (x := q.on) (n := 3) (by omega)
      generalize pickN q.on 3 = pn at hn3 ⊢
      obtain ⟨it, hit⟩ := at_i (l := its) (i := pn) (by omega)
      have hMl := hbM it (List.mem_of_getElem? hit)
      have hbi : (its.map It.b)[pn]? = some it.b := by rw [List.getElem?_map, hit]; rfl
      have hmi : (its.map It.ms)[pn]? = some it.ms := by rw [List.getElem?_map, hit]; rfl
      refine WL_rd (Rd_assign rfl) rfl rfl rfl ?_
      refine WL_end hK13 ?_
      refine WC_seq fun K14 hK14 => ?_
      refine WC_sr fun K15 hK15 => ?_
      refine WL_rd (Rd_move rfl) rfl rfl rfl ?_
      refine WL_rd (Rd_ixA pn rfl rfl ud54 sz47 (hi := by omega)) rfl rfl rfl ?_
      refine WL_rd (Rd_load_arr (f := eHB) (i := pn) (j := 0) (v := .pointer (some ⟨it.b, 0, none⟩)) rfl tk47 (hl := hbi) (hv := rfl)) rfl rfl rfl ?_
      refine WL_rd (Rd_peq rfl rfl ud47) rfl rfl rfl ?_
      refine WL_end hK15 ?_
      refine WC_condF rfl ?_
      refine WC_skip ?_
      refine Ps_next hK14 ?_
      refine WC_sr fun K16 hK16 => ?_
      refine WL_rd (Rd_fieldAddr rfl fo57_1) rfl rfl rfl ?_
      refine WL_rd (Rd_load rfl tk3) rfl rfl rfl ?_
      refine WL_end hK16 ?_
      refine WC_block ?_
      refine WC_sr fun K17 hK17 => ?_
      refine WL_rd (Rd_eql rfl rfl) rfl rfl rfl ?_
      refine WL_rd (Rd_assign rfl) rfl rfl rfl ?_
      refine WL_end hK17 ?_
      refine WC_cond rfl (fun hc3 => ?_) (fun hc3 => ?_)
      · try simp only [decide_eq_true_eq, decide_eq_false_iff_not, Bool.not_eq_true', Bool.not_eq_false', Bool.not_eq_true, Bool.not_eq_false, Int.not_lt, Int.not_le, Nat.not_lt, Nat.not_le, Decidable.not_not, ne_eq] at hc3
        refine WC_open FI its pn (x := it) hit ?_
        rw [show FI it = sep [cl it.b 68 (hsh (hM it.M) (sl it.ha (rM it.M).length it.hc) (.int .i64 ((it.M.length : Nat) : Int))), arr it.ha it.hc 1 5 (eU .u8) (rM it.M), arr it.a it.cap 1 5 (eU .u8) it.M] from rfl]
        refine WC_unpk [cl it.b 68 (hsh (hM it.M) (sl it.ha (rM it.M).length it.hc) (.int .i64 ((it.M.length : Nat) : Int))), arr it.ha it.hc 1 5 (eU .u8) (rM it.M), arr it.a it.cap 1 5 (eU .u8) it.M] ?_
        simp only [List.cons_append, List.nil_append]
        refine WC_fact (fun w h => arr_facts (a := it.a) (cap := it.cap) (e := 1) (T := 5) (f := eU .u8 (w := 8)) (l := it.M) (by repeat (first | with_reducible exact Has.here | with_reducible refine Has.there ?_)) h) (fun hmf => ?_)
        have hSm : Sv [arr it.a it.cap 1 5 (eU .u8) it.M] (sl it.a it.M.length it.cap) 1 (eU .u8 (w := 8)) it.M (it.a.map fun g => ⟨g, 0, none⟩) it.cap := Sv_own' (encU .u8 (w := 8)) hmf.1 hmf.2
        refine WC_sr fun K18 hK18 => ?_
        refine WL_rd (Rd_fieldAddr rfl fo57_2) rfl rfl rfl ?_
        refine WL_rd (Rd_load rfl tk32) rfl rfl rfl ?_
        refine WL_ac (Ac_call cf40 rfl (hs := lent_ct (hS := hqS))) rfl rfl rfl ?_
        rintro _ _ ⟨⟨a45, cap45⟩, rfl, hA⟩
        simp only [List.cons_append, List.nil_append] at hA
        replace hA := hA.symm
        subst hA
        have hll := lentB_len q.p.l
        refine WL_fact (fun w h => arr_facts (a := a45) (cap := cap45) (e := 1) (T := 5) (f := eU .u8 (w := 8)) (l := (lentB q.p.l)) (by repeat (first | with_reducible exact Has.here | with_reducible refine Has.there ?_)) h) (fun hlf => ?_)
        have hF1 : Sv [arr a45 cap45 1 5 (eU .u8) (lentB q.p.l)] (sl a45 q.p.l.length cap45) 1 (eU .u8 (w := 8)) q.p.l (a45.map fun g => ⟨g, 0, none⟩) cap45 := Sv_pre (encU .u8 (w := 8)) (List.prefix_append _ _) hlf.1 hlf.2
        have hFF : Sv [arr a45 cap45 1 5 (eU .u8) (lentB q.p.l)] (sl a45 (lentB q.p.l).length cap45) 1 (eU .u8 (w := 8)) (lentB q.p.l) (a45.map fun g => ⟨g, 0, none⟩) cap45 := Sv_own' (encU .u8 (w := 8)) hlf.1 hlf.2
        have hcap45 := hlf.2
        refine WL_rd (Rd_assign rfl) rfl rfl rfl ?_
        refine WL_end hK18 ?_
        refine WC_seq fun K19 hK19 => ?_
        refine WC_drawA mix (fun i => ([2, 2, 2, 2, 2, 2, 2, 2, 0, 2] : List Nat).getD i 0) ?_
        refine WJ_takeP 0 rfl (by kernel_rfl) (Rd_move rfl) rfl rfl rfl (hp _ _) ?_
        refine WJ_takeP 1 rfl (by kernel_rfl) (Rd_ixA pn rfl rfl ud54 sz47 (hi := by omega)) rfl rfl rfl (hp _ _) ?_
        refine WJ_tk 2 (Rd_load_arr (f := eHB) (i := pn) (j := 0) (v := .pointer (some ⟨it.b, 0, none⟩)) rfl tk47 (hl := hbi) (hv := rfl)) hp ?_ rfl (by kernel_rfl) rfl rfl rfl
        refine WJ_takeP 3 rfl (by kernel_rfl) (Rd_move rfl) rfl rfl rfl (hp _ _) ?_
        refine WJ_takeP 4 rfl (by kernel_rfl) (Rd_fieldAddr rfl fo57_2) rfl rfl rfl (hp _ _) ?_
        refine WJ_all (rs := [5]) (by kernel_rfl) rfl ?_
        refine WI_one ?_
        refine WI_rd rfl (Rd_load rfl tk32) rfl rfl rfl (fun h => by cases h) ?_
        refine WJ_takeP 6 rfl (by kernel_rfl) (Rd_len_sv rfl rfl ud32) rfl rfl rfl (hp _ _) ?_
        refine WJ_takeP 7 rfl (by kernel_rfl) (Rd_slice_hi q.p.l.length rfl rfl ud32 sz5 (hi := by omega)) rfl rfl rfl (hp _ _) ?_
        refine WJ_all (rs := [8]) (by kernel_rfl) rfl ?_
        refine WI_one ?_
        refine WI_ac rfl (Ac_call cf36 rfl (hs := write_ct (X := arr a45 cap45 1 5 (eU .u8) (lentB q.p.l)) (b := it.b) (M := it.M) (a := it.ha) (cap := it.hc) (l := q.p.l) (hS := hF1))) rfl rfl rfl rfl ?_
        rintro _ _ ⟨⟨a54, cap54⟩, rfl, hA⟩
        simp only [List.cons_append, List.nil_append] at hA
        replace hA := hA.symm
        subst hA
        refine ⟨(fun h => by cases h), ?_⟩
        refine WJ_takeP 9 rfl (by kernel_rfl) (Rd_assign rfl) rfl rfl rfl (hp _ _) ?_
        refine WJ_done (by kernel_rfl) ?_
        refine Ps_next hK19 ?_
        refine WC_seq fun K20 hK20 => ?_
        refine WC_sr fun K21 hK21 => ?_
        refine WL_rd (Rd_move rfl) rfl rfl rfl ?_
        refine WL_rd (Rd_neqN (i := 0) (j := 0) rfl rfl) rfl rfl rfl ?_
        refine WL_rd (Rd_move rfl) rfl rfl rfl ?_
        refine WL_rd (Rd_move rfl) rfl rfl rfl ?_
        refine WL_rd (Rd_fieldAddr rfl fo57_2) rfl rfl rfl ?_
        refine WL_rd (Rd_load rfl tk32) rfl rfl rfl ?_
        refine WL_ac (Ac_call cf41 rfl (hs := Ct.un0 (Xs := [arr a45 cap45 1 5 (eU .u8) (lentB q.p.l), X]) (kept_ct (X := sep [arr a45 cap45 1 5 (eU .u8) (lentB q.p.l), X]) (l := (lentB q.p.l)) (l' := q.p.l) (hS := hFF.pk (by repeat (first | with_reducible exact Has.here | with_reducible refine Has.there ?_))) (hS' := hqS.pk (by repeat (first | with_reducible exact Has.here | with_reducible refine Has.there ?_)))))) rfl rfl rfl ?_
        rintro _ _ ⟨⟨⟩, rfl, hA⟩
        simp only [List.cons_append, List.nil_append] at hA
        replace hA := hA.symm
        subst hA
        rw [decide_eq_true (rfl : (lentB q.p.l) = (lentB q.p.l))]
        refine WL_rd (Rd_not rfl) rfl rfl rfl ?_
        refine WL_rd (Rd_pickF rfl rfl) rfl rfl rfl ?_
        refine WL_end hK21 ?_
        refine WC_condF rfl ?_
        refine WC_skip ?_
        refine Ps_next hK20 ?_
        refine WC_sr fun K22 hK22 => ?_
        refine WL_rd (Rd_move rfl) rfl rfl rfl ?_
        refine WL_ac (Ac_call cf42 rfl (hs := over_ct (l := (lentB q.p.l)) (a := a45) (cap := cap45))) rfl rfl rfl ?_
        rintro _ _ ⟨⟨⟩, rfl, hA⟩
        simp only [List.cons_append, List.nil_append] at hA
        replace hA := hA.symm
        subst hA
        refine WL_end hK22 ?_
        refine WC_drawA mix (fun i => ([2, 2, 2, 2, 2, 2, 0, 2, 0] : List Nat).getD i 0) ?_
        refine WJ_takeP 0 rfl (by kernel_rfl) (Rd_move rfl) rfl rfl rfl (hp _ _) ?_
        refine WJ_takeP 1 rfl (by kernel_rfl) (Rd_move rfl) rfl rfl rfl (hp _ _) ?_
        refine WJ_takeP 2 rfl (by kernel_rfl) (Rd_ixA pn rfl rfl ud55 sz32 (hi := by omega)) rfl rfl rfl (hp _ _) ?_
        refine WJ_tk 3 (Rd_load_arr (f := eMS) (i := pn) (j := 0) (v := sl it.a it.M.length it.cap) rfl tk32 (hl := hmi) (hv := rfl)) hp ?_ rfl (by kernel_rfl) rfl rfl rfl
        refine WJ_takeP 4 rfl (by kernel_rfl) (Rd_fieldAddr rfl fo57_2) rfl rfl rfl (hp _ _) ?_
        refine WJ_tk 5 (Rd_load rfl tk32) hp ?_ rfl (by kernel_rfl) rfl rfl rfl
        refine WJ_all (rs := [6]) (by kernel_rfl) rfl ?_
        refine WI_one ?_
        refine WI_ac rfl (Ac_appendS (f := eU .u8 (w := 8)) (a := it.a) (cap := it.cap) (l := it.M) (encU .u8) rfl rfl ud32 ud32 el5 (hS := hqS)) rfl rfl rfl rfl ?_
        rintro _ _ ⟨a72, cap72, rfl, rfl⟩
        refine ⟨(fun h => by cases h), ?_⟩
        rw [← List.length_append]
        refine WJ_takeP 7 rfl (by kernel_rfl) (Rd_ixA pn rfl rfl ud55 sz32 (hi := by omega)) rfl rfl rfl (hp _ _) ?_
        refine WJ_all (rs := [8]) (by kernel_rfl) rfl ?_
        refine WI_one ?_
        refine WI_ac0 rfl (Ac_store_arr ⟨a72, cap72, it.M ++ q.p.l⟩ rfl rfl sz32 (j := 0) (i := pn) (hl := hmi)) rfl rfl rfl ?_
        rintro _ _ rfl
        refine ⟨(fun h => by cases h), ?_⟩
        refine WJ_done (by kernel_rfl) ?_
        refine Ps_next hK11 ?_
        refine WC_region ?_
        refine WL_pk0 ?_
        refine WL_pull (arr a72 cap72 1 5 (eU .u8) (it.M ++ q.p.l)) ?_
        refine WL_pull (arr a54 cap54 1 5 (eU .u8) (rM (it.M ++ q.p.l))) ?_
        refine WL_pull (cl it.b 68 (hsh (hM (it.M ++ q.p.l)) (sl a54 (rM (it.M ++ q.p.l)).length cap54) (.int .i64 (((it.M ++ q.p.l).length : Nat) : Int)))) ?_
        rw [show sep [cl it.b 68 (hsh (hM (it.M ++ q.p.l)) (sl a54 (rM (it.M ++ q.p.l)).length cap54) (.int .i64 (((it.M ++ q.p.l).length : Nat) : Int))), arr a54 cap54 1 5 (eU .u8) (rM (it.M ++ q.p.l)), arr a72 cap72 1 5 (eU .u8) (it.M ++ q.p.l)] = FI ⟨it.b, a54, cap54, a72, cap72, (it.M ++ q.p.l)⟩ from rfl]
        refine WL_shut FI its pn ⟨it.b, a54, cap54, a72, cap72, (it.M ++ q.p.l)⟩ (by omega) ?_
        rw [show (its.map It.ms).set pn ⟨a72, cap72, it.M ++ q.p.l⟩ = (its.set pn ⟨it.b, a54, cap54, a72, cap72, (it.M ++ q.p.l)⟩).map It.ms from by rw [List.map_set]; rfl]
        rw [show its.map It.b = (its.set pn ⟨it.b, a54, cap54, a72, cap72, (it.M ++ q.p.l)⟩).map It.b from map_same hit rfl]
        refine WL_rd (Rd_move rfl) rfl rfl rfl ?_
        refine WL_rd (Rd_addN (j := 1) rfl rfl) rfl rfl rfl ?_
        refine WL_rd (Rd_assign rfl) rfl rfl rfl ?_
        refine WL_nil ?_
        refine Ps_wk (by (try simp only [List.cons_append, List.nil_append]); repeat (first | with_reducible exact Wk.nil | refine Wk.cons (by first | rfl | (simp only [List.length_append, List.length_cons, List.length_nil, List.length_replicate, Nat.zero_add]; rfl) | (simp; done)) ?_)) (by (try simp only [List.cons_append, List.nil_append]); repeat (first | with_reducible exact Sub.refl | with_reducible exact Sub.nil | with_reducible refine Sub.cons (by repeat (first | with_reducible exact Ext.here | with_reducible apply Ext.there)) ?_ | with_reducible refine Sub.tail ?_)) (hK8 ⟨k + 1, its.set pn ⟨it.b, a54, cap54, a72, cap72, (it.M ++ q.p.l)⟩⟩ (⟨by (try dsimp only); omega, by (try dsimp only); rw [List.length_set]; exact h3, bnd_set hbM (by omega) (by (try dsimp only); (try rw [List.length_append]); (try simp only [List.length_nil]); omega)⟩) (by (try dsimp only); omega))
      · try simp only [decide_eq_true_eq, decide_eq_false_iff_not, Bool.not_eq_true', Bool.not_eq_false', Bool.not_eq_true, Bool.not_eq_false, Int.not_lt, Int.not_le, Nat.not_lt, Nat.not_le, Decidable.not_not, ne_eq] at hc3
        refine WC_sr fun K23 hK23 => ?_
        refine WL_rd (Rd_eql rfl rfl) rfl rfl rfl ?_
        refine WL_rd (Rd_assign rfl) rfl rfl rfl ?_
        refine WL_end hK23 ?_
        refine WC_cond rfl (fun hc5 => ?_) (fun hc5 => ?_)
        · try simp only [decide_eq_true_eq, decide_eq_false_iff_not, Bool.not_eq_true', Bool.not_eq_false', Bool.not_eq_true, Bool.not_eq_false, Int.not_lt, Int.not_le, Nat.not_lt, Nat.not_le, Decidable.not_not, ne_eq] at hc5
          refine WC_open FI its pn (x := it) hit ?_
          rw [show FI it = sep [cl it.b 68 (hsh (hM it.M) (sl it.ha (rM it.M).length it.hc) (.int .i64 ((it.M.length : Nat) : Int))), arr it.ha it.hc 1 5 (eU .u8) (rM it.M), arr it.a it.cap 1 5 (eU .u8) it.M] from rfl]
          refine WC_unpk [cl it.b 68 (hsh (hM it.M) (sl it.ha (rM it.M).length it.hc) (.int .i64 ((it.M.length : Nat) : Int))), arr it.ha it.hc 1 5 (eU .u8) (rM it.M), arr it.a it.cap 1 5 (eU .u8) it.M] ?_
          simp only [List.cons_append, List.nil_append]
          refine WC_fact (fun w h => arr_facts (a := it.a) (cap := it.cap) (e := 1) (T := 5) (f := eU .u8 (w := 8)) (l := it.M) (by repeat (first | with_reducible exact Has.here | with_reducible refine Has.there ?_)) h) (fun hmf => ?_)
          have hSm : Sv [arr it.a it.cap 1 5 (eU .u8) it.M] (sl it.a it.M.length it.cap) 1 (eU .u8 (w := 8)) it.M (it.a.map fun g => ⟨g, 0, none⟩) it.cap := Sv_own' (encU .u8 (w := 8)) hmf.1 hmf.2
          have hdl := dgM_len it.M
          refine WC_seq fun K24 hK24 => ?_
          refine WC_drawA mix (fun i => ([2, 2, 2, 1, 2, 2, 2, 1, 2] : List Nat).getD i 0) ?_
          refine WJ_takeP 0 rfl (by kernel_rfl) (Rd_move rfl) rfl rfl rfl (hp _ _) ?_
          refine WJ_takeP 1 rfl (by kernel_rfl) (Rd_ixA pn rfl rfl ud54 sz47 (hi := by omega)) rfl rfl rfl (hp _ _) ?_
          refine WJ_tk 2 (Rd_load_arr (f := eHB) (i := pn) (j := 0) (v := .pointer (some ⟨it.b, 0, none⟩)) rfl tk47 (hl := hbi) (hv := rfl)) hp ?_ rfl (by kernel_rfl) rfl rfl rfl
          refine WJ_takeP 4 rfl (by kernel_rfl) (Rd_move rfl) rfl rfl rfl (hp _ _) ?_
          refine WJ_takeP 5 rfl (by kernel_rfl) (Rd_ixA pn rfl rfl ud55 sz32 (hi := by omega)) rfl rfl rfl (hp _ _) ?_
          refine WJ_tk 6 (Rd_load_arr (f := eMS) (i := pn) (j := 0) (v := sl it.a it.M.length it.cap) rfl tk32 (hl := hmi) (hv := rfl)) hp ?_ rfl (by kernel_rfl) rfl rfl rfl
          refine WJ_all (rs := [3]) (by kernel_rfl) rfl ?_
          refine WI_one ?_
          refine WI_ac rfl (Ac_call cf37 rfl (hs := hsum_ct (b := it.b) (M := it.M) (a := it.ha) (cap := it.hc))) rfl rfl rfl rfl ?_
          rintro _ _ ⟨⟨⟩, rfl, hA⟩
          simp only [List.cons_append, List.nil_append] at hA
          replace hA := hA.symm
          subst hA
          refine ⟨(fun _ => (by repeat (first | with_reducible exact Sub.refl | with_reducible exact Sub.nil | with_reducible refine Sub.cons (by repeat (first | with_reducible exact Ext.here | with_reducible apply Ext.there)) ?_ | with_reducible refine Sub.tail ?_))), ?_⟩
          refine WJ_all (rs := [7]) (by kernel_rfl) rfl ?_
          refine WI_one ?_
          refine WI_ac rfl (Ac_call cf43 rfl (hs := sumR_ct (X := arr it.a it.cap 1 5 (eU .u8) it.M) (l := it.M) (hS := hSm))) rfl rfl rfl rfl ?_
          rintro _ _ ⟨⟨⟩, rfl, hA⟩
          simp only [List.cons_append, List.nil_append] at hA
          replace hA := hA.symm
          subst hA
          refine ⟨(fun _ => (by repeat (first | with_reducible exact Sub.refl | with_reducible exact Sub.nil | with_reducible refine Sub.cons (by repeat (first | with_reducible exact Ext.here | with_reducible apply Ext.there)) ?_ | with_reducible refine Sub.tail ?_))), ?_⟩
          refine WJ_takeP 8 rfl (by kernel_rfl) (Rd_isF (Rd_neW rfl rfl ais42) (by simp)) rfl rfl rfl (hp _ _) ?_
          refine WJ_done (by kernel_rfl) ?_
          refine Ps_next hK24 ?_
          refine WC_condF rfl ?_
          refine WC_skip ?_
          refine Ps_next hK11 ?_
          refine WC_region ?_
          refine WL_pk0 ?_
          refine WL_pull (arr it.a it.cap 1 5 (eU .u8) it.M) ?_
          refine WL_pull (arr it.ha it.hc 1 5 (eU .u8) (rM it.M)) ?_
          refine WL_pull (cl it.b 68 (hsh (hM it.M) (sl it.ha (rM it.M).length it.hc) (.int .i64 ((it.M.length : Nat) : Int)))) ?_
          rw [show sep [cl it.b 68 (hsh (hM it.M) (sl it.ha (rM it.M).length it.hc) (.int .i64 ((it.M.length : Nat) : Int))), arr it.ha it.hc 1 5 (eU .u8) (rM it.M), arr it.a it.cap 1 5 (eU .u8) it.M] = FI ⟨it.b, it.ha, it.hc, it.a, it.cap, it.M⟩ from rfl]
          refine WL_shut FI its pn it (by omega) ?_
          rw [set_same hit]
          refine WL_rd (Rd_move rfl) rfl rfl rfl ?_
          refine WL_rd (Rd_addN (j := 1) rfl rfl) rfl rfl rfl ?_
          refine WL_rd (Rd_assign rfl) rfl rfl rfl ?_
          refine WL_nil ?_
          refine Ps_wk (by (try simp only [List.cons_append, List.nil_append]); repeat (first | with_reducible exact Wk.nil | refine Wk.cons (by first | rfl | (simp only [List.length_append, List.length_cons, List.length_nil, List.length_replicate, Nat.zero_add]; rfl) | (simp; done)) ?_)) (by (try simp only [List.cons_append, List.nil_append]); repeat (first | with_reducible exact Sub.refl | with_reducible exact Sub.nil | with_reducible refine Sub.cons (by repeat (first | with_reducible exact Ext.here | with_reducible apply Ext.there)) ?_ | with_reducible refine Sub.tail ?_)) (hK8 ⟨k + 1, its⟩ (⟨by (try dsimp only); omega, h3, fun x hx => Nat.le_trans (hbM x hx) (by omega)⟩) (by (try dsimp only); omega))
        · try simp only [decide_eq_true_eq, decide_eq_false_iff_not, Bool.not_eq_true', Bool.not_eq_false', Bool.not_eq_true, Bool.not_eq_false, Int.not_lt, Int.not_le, Nat.not_lt, Nat.not_le, Decidable.not_not, ne_eq] at hc5
          refine WC_sr fun K25 hK25 => ?_
          refine WL_rd (Rd_eql rfl rfl) rfl rfl rfl ?_
          refine WL_rd (Rd_assign rfl) rfl rfl rfl ?_
          refine WL_end hK25 ?_
          refine WC_cond rfl (fun hc7 => ?_) (fun hc7 => ?_)
          · try simp only [decide_eq_true_eq, decide_eq_false_iff_not, Bool.not_eq_true', Bool.not_eq_false', Bool.not_eq_true, Bool.not_eq_false, Int.not_lt, Int.not_le, Nat.not_lt, Nat.not_le, Decidable.not_not, ne_eq] at hc7
            refine WC_open FI its pn (x := it) hit ?_
            rw [show FI it = sep [cl it.b 68 (hsh (hM it.M) (sl it.ha (rM it.M).length it.hc) (.int .i64 ((it.M.length : Nat) : Int))), arr it.ha it.hc 1 5 (eU .u8) (rM it.M), arr it.a it.cap 1 5 (eU .u8) it.M] from rfl]
            refine WC_unpk [cl it.b 68 (hsh (hM it.M) (sl it.ha (rM it.M).length it.hc) (.int .i64 ((it.M.length : Nat) : Int))), arr it.ha it.hc 1 5 (eU .u8) (rM it.M), arr it.a it.cap 1 5 (eU .u8) it.M] ?_
            simp only [List.cons_append, List.nil_append]
            refine WC_fact (fun w h => arr_facts (a := it.a) (cap := it.cap) (e := 1) (T := 5) (f := eU .u8 (w := 8)) (l := it.M) (by repeat (first | with_reducible exact Has.here | with_reducible refine Has.there ?_)) h) (fun hmf => ?_)
            have hSm : Sv [arr it.a it.cap 1 5 (eU .u8) it.M] (sl it.a it.M.length it.cap) 1 (eU .u8 (w := 8)) it.M (it.a.map fun g => ⟨g, 0, none⟩) it.cap := Sv_own' (encU .u8 (w := 8)) hmf.1 hmf.2
            refine WC_seq fun K26 hK26 => ?_
            refine WC_drawA mix (fun i => ([2, 2, 2, 1, 2, 2, 2, 2, 2] : List Nat).getD i 0) ?_
            refine WJ_takeP 0 rfl (by kernel_rfl) (Rd_move rfl) rfl rfl rfl (hp _ _) ?_
            refine WJ_takeP 1 rfl (by kernel_rfl) (Rd_ixA pn rfl rfl ud54 sz47 (hi := by omega)) rfl rfl rfl (hp _ _) ?_
            refine WJ_tk 2 (Rd_load_arr (f := eHB) (i := pn) (j := 0) (v := .pointer (some ⟨it.b, 0, none⟩)) rfl tk47 (hl := hbi) (hv := rfl)) hp ?_ rfl (by kernel_rfl) rfl rfl rfl
            refine WJ_takeP 4 rfl (by kernel_rfl) (Rd_move rfl) rfl rfl rfl (hp _ _) ?_
            refine WJ_takeP 5 rfl (by kernel_rfl) (Rd_ixA pn rfl rfl ud55 sz32 (hi := by omega)) rfl rfl rfl (hp _ _) ?_
            refine WJ_tk 6 (Rd_load_arr (f := eMS) (i := pn) (j := 0) (v := sl it.a it.M.length it.cap) rfl tk32 (hl := hmi) (hv := rfl)) hp ?_ rfl (by kernel_rfl) rfl rfl rfl
            refine WJ_takeP 7 rfl (by kernel_rfl) (Rd_len rfl rfl ud32) rfl rfl rfl (hp _ _) ?_
            refine WJ_all (rs := [3]) (by kernel_rfl) rfl ?_
            refine WI_one ?_
            refine WI_ac rfl (Ac_call cf38 rfl (hs := size_ct (b := it.b) (M := it.M) (a := it.ha) (cap := it.hc))) rfl rfl rfl rfl ?_
            rintro _ _ ⟨⟨⟩, rfl, hA⟩
            simp only [List.cons_append, List.nil_append] at hA
            replace hA := hA.symm
            subst hA
            refine ⟨(fun _ => (by repeat (first | with_reducible exact Sub.refl | with_reducible exact Sub.nil | with_reducible refine Sub.cons (by repeat (first | with_reducible exact Ext.here | with_reducible apply Ext.there)) ?_ | with_reducible refine Sub.tail ?_))), ?_⟩
            refine WJ_takeP 8 rfl (by kernel_rfl) (Rd_isF (Rd_neqN rfl rfl)) rfl rfl rfl (hp _ _) ?_
            refine WJ_done (by kernel_rfl) ?_
            refine Ps_next hK26 ?_
            refine WC_condF rfl ?_
            refine WC_skip ?_
            refine Ps_next hK11 ?_
            refine WC_region ?_
            refine WL_pk0 ?_
            refine WL_pull (arr it.a it.cap 1 5 (eU .u8) it.M) ?_
            refine WL_pull (arr it.ha it.hc 1 5 (eU .u8) (rM it.M)) ?_
            refine WL_pull (cl it.b 68 (hsh (hM it.M) (sl it.ha (rM it.M).length it.hc) (.int .i64 ((it.M.length : Nat) : Int)))) ?_
            rw [show sep [cl it.b 68 (hsh (hM it.M) (sl it.ha (rM it.M).length it.hc) (.int .i64 ((it.M.length : Nat) : Int))), arr it.ha it.hc 1 5 (eU .u8) (rM it.M), arr it.a it.cap 1 5 (eU .u8) it.M] = FI ⟨it.b, it.ha, it.hc, it.a, it.cap, it.M⟩ from rfl]
            refine WL_shut FI its pn it (by omega) ?_
            rw [set_same hit]
            refine WL_rd (Rd_move rfl) rfl rfl rfl ?_
            refine WL_rd (Rd_addN (j := 1) rfl rfl) rfl rfl rfl ?_
            refine WL_rd (Rd_assign rfl) rfl rfl rfl ?_
            refine WL_nil ?_
            refine Ps_wk (by (try simp only [List.cons_append, List.nil_append]); repeat (first | with_reducible exact Wk.nil | refine Wk.cons (by first | rfl | (simp only [List.length_append, List.length_cons, List.length_nil, List.length_replicate, Nat.zero_add]; rfl) | (simp; done)) ?_)) (by (try simp only [List.cons_append, List.nil_append]); repeat (first | with_reducible exact Sub.refl | with_reducible exact Sub.nil | with_reducible refine Sub.cons (by repeat (first | with_reducible exact Ext.here | with_reducible apply Ext.there)) ?_ | with_reducible refine Sub.tail ?_)) (hK8 ⟨k + 1, its⟩ (⟨by (try dsimp only); omega, h3, fun x hx => Nat.le_trans (hbM x hx) (by omega)⟩) (by (try dsimp only); omega))
          · try simp only [decide_eq_true_eq, decide_eq_false_iff_not, Bool.not_eq_true', Bool.not_eq_false', Bool.not_eq_true, Bool.not_eq_false, Int.not_lt, Int.not_le, Nat.not_lt, Nat.not_le, Decidable.not_not, ne_eq] at hc7
            refine WC_sr fun K27 hK27 => ?_
            refine WL_rd (Rd_eql rfl rfl) rfl rfl rfl ?_
            refine WL_rd (Rd_assign rfl) rfl rfl rfl ?_
            refine WL_end hK27 ?_
            refine WC_cond rfl (fun hc9 => ?_) (fun hc9 => ?_)
            · try simp only [decide_eq_true_eq, decide_eq_false_iff_not, Bool.not_eq_true', Bool.not_eq_false', Bool.not_eq_true, Bool.not_eq_false, Int.not_lt, Int.not_le, Nat.not_lt, Nat.not_le, Decidable.not_not, ne_eq] at hc9
              refine WC_open FI its pn (x := it) hit ?_
              rw [show FI it = sep [cl it.b 68 (hsh (hM it.M) (sl it.ha (rM it.M).length it.hc) (.int .i64 ((it.M.length : Nat) : Int))), arr it.ha it.hc 1 5 (eU .u8) (rM it.M), arr it.a it.cap 1 5 (eU .u8) it.M] from rfl]
              refine WC_unpk [cl it.b 68 (hsh (hM it.M) (sl it.ha (rM it.M).length it.hc) (.int .i64 ((it.M.length : Nat) : Int))), arr it.ha it.hc 1 5 (eU .u8) (rM it.M), arr it.a it.cap 1 5 (eU .u8) it.M] ?_
              simp only [List.cons_append, List.nil_append]
              refine WC_fact (fun w h => arr_facts (a := it.a) (cap := it.cap) (e := 1) (T := 5) (f := eU .u8 (w := 8)) (l := it.M) (by repeat (first | with_reducible exact Has.here | with_reducible refine Has.there ?_)) h) (fun hmf => ?_)
              have hSm : Sv [arr it.a it.cap 1 5 (eU .u8) it.M] (sl it.a it.M.length it.cap) 1 (eU .u8 (w := 8)) it.M (it.a.map fun g => ⟨g, 0, none⟩) it.cap := Sv_own' (encU .u8 (w := 8)) hmf.1 hmf.2
              refine WC_seq fun K28 hK28 => ?_
              refine WC_sr fun K29 hK29 => ?_
              refine WL_rd (Rd_move rfl) rfl rfl rfl ?_
              refine WL_rd (Rd_ixA pn rfl rfl ud54 sz47 (hi := by omega)) rfl rfl rfl ?_
              refine WL_rd (Rd_load_arr (f := eHB) (i := pn) (j := 0) (v := .pointer (some ⟨it.b, 0, none⟩)) rfl tk47 (hl := hbi) (hv := rfl)) rfl rfl rfl ?_
              refine WL_ac (Ac_call cf44 rfl (hs := reset_ct (b := it.b) (M := it.M) (a := it.ha) (cap := it.hc))) rfl rfl rfl ?_
              rintro _ _ ⟨⟨⟩, rfl, hA⟩
              simp only [List.cons_append, List.nil_append] at hA
              replace hA := hA.symm
              subst hA
              refine WL_rd (Rd_neqN (i := 0) (j := 0) rfl rfl) rfl rfl rfl ?_
              refine WL_end hK29 ?_
              refine WC_condF rfl ?_
              refine WC_skip ?_
              refine Ps_next hK28 ?_
              refine WC_region ?_
              refine WL_rd (Rd_move rfl) rfl rfl rfl ?_
              refine WL_rd (Rd_ixA pn rfl rfl ud55 sz32 (hi := by omega)) rfl rfl rfl ?_
              refine WL_ac0 (Ac_store_arr ⟨none, 0, []⟩ rfl rfl sz32 (j := 0) (i := pn) (hl := hmi)) rfl rfl ?_
              rintro _ _ rfl
              refine WL_nil ?_
              refine Ps_next hK11 ?_
              refine WC_region ?_
              refine WL_imp (fun w h => sat_nil (e := 1) (T := 5) (f := eU .u8 (w := 8)) h) ?_
              refine WL_pk0 ?_
              refine WL_pull (arr none 0 1 5 (eU .u8) ([] : List B8)) ?_
              refine WL_pull (arr none 0 1 5 (eU .u8) (rM ([] : List B8))) ?_
              refine WL_pull (cl it.b 68 (hsh (hM ([] : List B8)) (sl none (rM ([] : List B8)).length 0) (.int .i64 ((([] : List B8).length : Nat) : Int)))) ?_
              rw [show sep [cl it.b 68 (hsh (hM ([] : List B8)) (sl none (rM ([] : List B8)).length 0) (.int .i64 ((([] : List B8).length : Nat) : Int))), arr none 0 1 5 (eU .u8) (rM ([] : List B8)), arr none 0 1 5 (eU .u8) ([] : List B8)] = FI ⟨it.b, none, 0, none, 0, ([] : List B8)⟩ from rfl]
              refine WL_shut FI its pn ⟨it.b, none, 0, none, 0, ([] : List B8)⟩ (by omega) ?_
              rw [show (its.map It.ms).set pn ⟨none, 0, []⟩ = (its.set pn ⟨it.b, none, 0, none, 0, ([] : List B8)⟩).map It.ms from by rw [List.map_set]; rfl]
              rw [show its.map It.b = (its.set pn ⟨it.b, none, 0, none, 0, ([] : List B8)⟩).map It.b from map_same hit rfl]
              refine WL_rd (Rd_move rfl) rfl rfl rfl ?_
              refine WL_rd (Rd_addN (j := 1) rfl rfl) rfl rfl rfl ?_
              refine WL_rd (Rd_assign rfl) rfl rfl rfl ?_
              refine WL_nil ?_
              refine Ps_wk (by (try simp only [List.cons_append, List.nil_append]); repeat (first | with_reducible exact Wk.nil | refine Wk.cons (by first | rfl | (simp only [List.length_append, List.length_cons, List.length_nil, List.length_replicate, Nat.zero_add]; rfl) | (simp; done)) ?_)) (by (try simp only [List.cons_append, List.nil_append]); repeat (first | with_reducible exact Sub.refl | with_reducible exact Sub.nil | with_reducible refine Sub.cons (by repeat (first | with_reducible exact Ext.here | with_reducible apply Ext.there)) ?_ | with_reducible refine Sub.tail ?_)) (hK8 ⟨k + 1, its.set pn ⟨it.b, none, 0, none, 0, ([] : List B8)⟩⟩ (⟨by (try dsimp only); omega, by (try dsimp only); rw [List.length_set]; exact h3, bnd_set hbM (by omega) (by (try dsimp only); (try rw [List.length_append]); (try simp only [List.length_nil]); omega)⟩) (by (try dsimp only); omega))
            · try simp only [decide_eq_true_eq, decide_eq_false_iff_not, Bool.not_eq_true', Bool.not_eq_false', Bool.not_eq_true, Bool.not_eq_false, Int.not_lt, Int.not_le, Nat.not_lt, Nat.not_le, Decidable.not_not, ne_eq] at hc9
              refine WC_sr fun K30 hK30 => ?_
              refine WL_rd (Rd_eql rfl rfl) rfl rfl rfl ?_
              refine WL_rd (Rd_assign rfl) rfl rfl rfl ?_
              refine WL_end hK30 ?_
              refine WC_cond rfl (fun hc11 => ?_) (fun hc11 => ?_)
              · try simp only [decide_eq_true_eq, decide_eq_false_iff_not, Bool.not_eq_true', Bool.not_eq_false', Bool.not_eq_true, Bool.not_eq_false, Int.not_lt, Int.not_le, Nat.not_lt, Nat.not_le, Decidable.not_not, ne_eq] at hc11
                refine WC_open FI its pn (x := it) hit ?_
                rw [show FI it = sep [cl it.b 68 (hsh (hM it.M) (sl it.ha (rM it.M).length it.hc) (.int .i64 ((it.M.length : Nat) : Int))), arr it.ha it.hc 1 5 (eU .u8) (rM it.M), arr it.a it.cap 1 5 (eU .u8) it.M] from rfl]
                refine WC_unpk [cl it.b 68 (hsh (hM it.M) (sl it.ha (rM it.M).length it.hc) (.int .i64 ((it.M.length : Nat) : Int))), arr it.ha it.hc 1 5 (eU .u8) (rM it.M), arr it.a it.cap 1 5 (eU .u8) it.M] ?_
                simp only [List.cons_append, List.nil_append]
                refine WC_fact (fun w h => arr_facts (a := it.a) (cap := it.cap) (e := 1) (T := 5) (f := eU .u8 (w := 8)) (l := it.M) (by repeat (first | with_reducible exact Has.here | with_reducible refine Has.there ?_)) h) (fun hmf => ?_)
                have hSm : Sv [arr it.a it.cap 1 5 (eU .u8) it.M] (sl it.a it.M.length it.cap) 1 (eU .u8 (w := 8)) it.M (it.a.map fun g => ⟨g, 0, none⟩) it.cap := Sv_own' (encU .u8 (w := 8)) hmf.1 hmf.2
                obtain ⟨itq, hitq⟩ := at_i (l := its) (i := (pn + 1) % 3) (by omega)
                have hbr : (its.map It.b)[((pn + 1) % 3)]? = some itq.b := by rw [List.getElem?_map, hitq]; rfl
                have hmr : (its.map It.ms)[((pn + 1) % 3)]? = some itq.ms := by rw [List.getElem?_map, hitq]; rfl
                refine WC_sr fun K31 hK31 => ?_
                refine WL_rd (Rd_move rfl) rfl rfl rfl ?_
                refine WL_rd (Rd_addN (j := 1) rfl rfl) rfl rfl rfl ?_
                refine WL_rd (Rd_remN (j := 3) rfl rfl) rfl rfl rfl ?_
                refine WL_rd (Rd_move rfl) rfl rfl rfl ?_
                refine WL_rd (Rd_ixA pn rfl rfl ud54 sz47 (hi := by omega)) rfl rfl rfl ?_
                refine WL_rd (Rd_load_arr (f := eHB) (i := pn) (j := 0) (v := .pointer (some ⟨it.b, 0, none⟩)) rfl tk47 (hl := hbi) (hv := rfl)) rfl rfl rfl ?_
                refine WL_ac (Ac_call cf45 rfl (hs := clone_ct (b := it.b) (M := it.M) (a := it.ha) (cap := it.hc))) rfl rfl rfl ?_
                rintro _ _ ⟨⟨cb, ca, cc⟩, rfl, hA⟩
                simp only [List.cons_append, List.nil_append] at hA
                replace hA := hA.symm
                subst hA
                refine WL_rd (Rd_ixA ((pn + 1) % 3) rfl rfl ud54 sz47 (hi := by omega)) rfl rfl rfl ?_
                refine WL_ac0 (Ac_store_arr cb rfl rfl sz47 (j := 0) (i := ((pn + 1) % 3)) (hl := hbr)) rfl rfl ?_
                rintro _ _ rfl
                refine WL_end hK31 ?_
                refine WC_region ?_
                refine WL_rd (Rd_move rfl) rfl rfl rfl ?_
                refine WL_rd (Rd_addN (j := 1) rfl rfl) rfl rfl rfl ?_
                refine WL_rd (Rd_remN (j := 3) rfl rfl) rfl rfl rfl ?_
                refine WL_rd (Rd_move rfl) rfl rfl rfl ?_
                refine WL_rd (Rd_ixA pn rfl rfl ud55 sz32 (hi := by omega)) rfl rfl rfl ?_
                refine WL_rd (Rd_load_arr (f := eMS) (i := pn) (j := 0) (v := sl it.a it.M.length it.cap) rfl tk32 (hl := hmi) (hv := rfl)) rfl rfl rfl ?_
                refine WL_ac (Ac_call cf46 rfl (hs := copy_ct (X := arr it.a it.cap 1 5 (eU .u8) it.M) (l := it.M) (hS := hSm))) rfl rfl rfl ?_
                rintro _ _ ⟨⟨a121, cap121⟩, rfl, hA⟩
                simp only [List.cons_append, List.nil_append] at hA
                replace hA := hA.symm
                subst hA
                refine WL_rd (Rd_ixA ((pn + 1) % 3) rfl rfl ud55 sz32 (hi := by omega)) rfl rfl rfl ?_
                refine WL_ac0 (Ac_store_arr ⟨a121, cap121, it.M⟩ rfl rfl sz32 (j := 0) (i := ((pn + 1) % 3)) (hl := hmr)) rfl rfl ?_
                rintro _ _ rfl
                refine WL_nil ?_
                refine Ps_next hK11 ?_
                refine WC_region ?_
                refine WL_pk0 ?_
                refine WL_pull (arr it.a it.cap 1 5 (eU .u8) it.M) ?_
                refine WL_pull (arr it.ha it.hc 1 5 (eU .u8) (rM it.M)) ?_
                refine WL_pull (cl it.b 68 (hsh (hM it.M) (sl it.ha (rM it.M).length it.hc) (.int .i64 ((it.M.length : Nat) : Int)))) ?_
                rw [show sep [cl it.b 68 (hsh (hM it.M) (sl it.ha (rM it.M).length it.hc) (.int .i64 ((it.M.length : Nat) : Int))), arr it.ha it.hc 1 5 (eU .u8) (rM it.M), arr it.a it.cap 1 5 (eU .u8) it.M] = FI ⟨it.b, it.ha, it.hc, it.a, it.cap, it.M⟩ from rfl]
                refine WL_shut FI its pn it (by omega) ?_
                rw [set_same hit]
                obtain ⟨itr, hitr⟩ := at_i (l := its) (i := (pn + 1) % 3) (by omega)
                refine WL_open FI its ((pn + 1) % 3) (x := itr) hitr ?_
                refine WL_pk0 ?_
                refine WL_pull (arr a121 cap121 1 5 (eU .u8) it.M) ?_
                refine WL_pull (arr ca cc 1 5 (eU .u8) (rM it.M)) ?_
                refine WL_pull (cl cb 68 (hsh (hM it.M) (sl ca (rM it.M).length cc) (.int .i64 ((it.M.length : Nat) : Int)))) ?_
                rw [show sep [cl cb 68 (hsh (hM it.M) (sl ca (rM it.M).length cc) (.int .i64 ((it.M.length : Nat) : Int))), arr ca cc 1 5 (eU .u8) (rM it.M), arr a121 cap121 1 5 (eU .u8) it.M] = FI ⟨cb, ca, cc, a121, cap121, it.M⟩ from rfl]
                refine WL_shut FI its ((pn + 1) % 3) ⟨cb, ca, cc, a121, cap121, it.M⟩ (by omega) ?_
                rw [show (its.map It.ms).set ((pn + 1) % 3) ⟨a121, cap121, it.M⟩ = (its.set ((pn + 1) % 3) ⟨cb, ca, cc, a121, cap121, it.M⟩).map It.ms from by rw [List.map_set]; rfl]
                rw [show (its.map It.b).set ((pn + 1) % 3) cb = (its.set ((pn + 1) % 3) ⟨cb, ca, cc, a121, cap121, it.M⟩).map It.b from by rw [List.map_set]]
                refine WL_rd (Rd_move rfl) rfl rfl rfl ?_
                refine WL_rd (Rd_addN (j := 1) rfl rfl) rfl rfl rfl ?_
                refine WL_rd (Rd_assign rfl) rfl rfl rfl ?_
                refine WL_nil ?_
                refine Ps_wk (by (try simp only [List.cons_append, List.nil_append]); repeat (first | with_reducible exact Wk.nil | refine Wk.cons (by first | rfl | (simp only [List.length_append, List.length_cons, List.length_nil, List.length_replicate, Nat.zero_add]; rfl) | (simp; done)) ?_)) (by (try simp only [List.cons_append, List.nil_append]); repeat (first | with_reducible exact Sub.refl | with_reducible exact Sub.nil | with_reducible refine Sub.cons (by repeat (first | with_reducible exact Ext.here | with_reducible apply Ext.there)) ?_ | with_reducible refine Sub.tail ?_)) (hK8 ⟨k + 1, its.set ((pn + 1) % 3) ⟨cb, ca, cc, a121, cap121, it.M⟩⟩ (⟨by (try dsimp only); omega, by (try dsimp only); rw [List.length_set]; exact h3, bnd_set hbM (by omega) (by (try dsimp only); (try rw [List.length_append]); (try simp only [List.length_nil]); omega)⟩) (by (try dsimp only); omega))
              · try simp only [decide_eq_true_eq, decide_eq_false_iff_not, Bool.not_eq_true', Bool.not_eq_false', Bool.not_eq_true, Bool.not_eq_false, Int.not_lt, Int.not_le, Nat.not_lt, Nat.not_le, Decidable.not_not, ne_eq] at hc11
                refine WC_open FI its pn (x := it) hit ?_
                rw [show FI it = sep [cl it.b 68 (hsh (hM it.M) (sl it.ha (rM it.M).length it.hc) (.int .i64 ((it.M.length : Nat) : Int))), arr it.ha it.hc 1 5 (eU .u8) (rM it.M), arr it.a it.cap 1 5 (eU .u8) it.M] from rfl]
                refine WC_unpk [cl it.b 68 (hsh (hM it.M) (sl it.ha (rM it.M).length it.hc) (.int .i64 ((it.M.length : Nat) : Int))), arr it.ha it.hc 1 5 (eU .u8) (rM it.M), arr it.a it.cap 1 5 (eU .u8) it.M] ?_
                simp only [List.cons_append, List.nil_append]
                refine WC_fact (fun w h => arr_facts (a := it.a) (cap := it.cap) (e := 1) (T := 5) (f := eU .u8 (w := 8)) (l := it.M) (by repeat (first | with_reducible exact Has.here | with_reducible refine Has.there ?_)) h) (fun hmf => ?_)
                have hSm : Sv [arr it.a it.cap 1 5 (eU .u8) it.M] (sl it.a it.M.length it.cap) 1 (eU .u8 (w := 8)) it.M (it.a.map fun g => ⟨g, 0, none⟩) it.cap := Sv_own' (encU .u8 (w := 8)) hmf.1 hmf.2
                refine WC_sr fun K32 hK32 => ?_
                refine WL_rd (Rd_move rfl) rfl rfl rfl ?_
                refine WL_ac (Ac_call cf35 rfl (hs := new_ct)) rfl rfl rfl ?_
                rintro _ _ ⟨b37, rfl, hA⟩
                simp only [List.cons_append, List.nil_append] at hA
                replace hA := hA.symm
                subst hA
                refine WL_rd (Rd_ixA pn rfl rfl ud54 sz47 (hi := by omega)) rfl rfl rfl ?_
                refine WL_ac0 (Ac_store_arr b37 rfl rfl sz47 (j := 0) (i := pn) (hl := hbi)) rfl rfl ?_
                rintro _ _ rfl
                refine WL_end hK32 ?_
                refine WC_region ?_
                refine WL_rd (Rd_move rfl) rfl rfl rfl ?_
                refine WL_rd (Rd_ixA pn rfl rfl ud55 sz32 (hi := by omega)) rfl rfl rfl ?_
                refine WL_ac0 (Ac_store_arr ⟨none, 0, []⟩ rfl rfl sz32 (j := 0) (i := pn) (hl := hmi)) rfl rfl ?_
                rintro _ _ rfl
                refine WL_nil ?_
                refine Ps_next hK11 ?_
                refine WC_region ?_
                refine WL_imp (fun w h => sat_nil (e := 1) (T := 5) (f := eU .u8 (w := 8)) h) ?_
                refine WL_pk0 ?_
                refine WL_pull (arr none 0 1 5 (eU .u8) ([] : List B8)) ?_
                refine WL_pull (arr none 0 1 5 (eU .u8) (rM ([] : List B8))) ?_
                refine WL_pull (cl b37 68 (hsh (hM ([] : List B8)) (sl none (rM ([] : List B8)).length 0) (.int .i64 ((([] : List B8).length : Nat) : Int)))) ?_
                rw [show sep [cl b37 68 (hsh (hM ([] : List B8)) (sl none (rM ([] : List B8)).length 0) (.int .i64 ((([] : List B8).length : Nat) : Int))), arr none 0 1 5 (eU .u8) (rM ([] : List B8)), arr none 0 1 5 (eU .u8) ([] : List B8)] = FI ⟨b37, none, 0, none, 0, ([] : List B8)⟩ from rfl]
                refine WL_shut FI its pn ⟨b37, none, 0, none, 0, ([] : List B8)⟩ (by omega) ?_
                rw [show (its.map It.ms).set pn ⟨none, 0, []⟩ = (its.set pn ⟨b37, none, 0, none, 0, ([] : List B8)⟩).map It.ms from by rw [List.map_set]; rfl]
                rw [show (its.map It.b).set pn b37 = (its.set pn ⟨b37, none, 0, none, 0, ([] : List B8)⟩).map It.b from by rw [List.map_set]]
                refine WL_rd (Rd_move rfl) rfl rfl rfl ?_
                refine WL_rd (Rd_addN (j := 1) rfl rfl) rfl rfl rfl ?_
                refine WL_rd (Rd_assign rfl) rfl rfl rfl ?_
                refine WL_nil ?_
                refine Ps_wk (by (try simp only [List.cons_append, List.nil_append]); repeat (first | with_reducible exact Wk.nil | refine Wk.cons (by first | rfl | (simp only [List.length_append, List.length_cons, List.length_nil, List.length_replicate, Nat.zero_add]; rfl) | (simp; done)) ?_)) (by (try simp only [List.cons_append, List.nil_append]); repeat (first | with_reducible exact Sub.refl | with_reducible exact Sub.nil | with_reducible refine Sub.cons (by repeat (first | with_reducible exact Ext.here | with_reducible apply Ext.there)) ?_ | with_reducible refine Sub.tail ?_)) (hK8 ⟨k + 1, its.set pn ⟨b37, none, 0, none, 0, ([] : List B8)⟩⟩ (⟨by (try dsimp only); omega, by (try dsimp only); rw [List.length_set]; exact h3, bnd_set hbM (by omega) (by (try dsimp only); (try rw [List.length_append]); (try simp only [List.length_nil]); omega)⟩) (by (try dsimp only); omega))
    · try simp only [decide_eq_true_eq, decide_eq_false_iff_not, Bool.not_eq_true', Bool.not_eq_false', Bool.not_eq_true, Bool.not_eq_false, Int.not_lt, Int.not_le, Nat.not_lt, Nat.not_le, Decidable.not_not, ne_eq] at hc1
      have htl := tlA_le qs k
      refine WC_exit ?_
      refine Ps_next hK6 ?_
      refine WC_seq fun K33 hK33 => ?_
      refine WC_sr fun K34 hK34 => ?_
      refine WL_rd (Rd_assign rfl) rfl rfl rfl ?_
      refine WL_end hK34 ?_
      refine WC_block ?_
      refine WC_loopK (σ := Nat) (fun j => [(10, .int .i64 ((j : Nat) : Int))]) (fun j => []) (fun j => j ≤ 3) (fun j => 3 - j) (0) [3, 4] (by repeat (first | exact Kep.nil | apply Kep.drop rfl | apply Kep.keep rfl)) (by (try dsimp only); repeat (first | with_reducible exact Gv.nil | (with_reducible apply Gv.cons; · (repeat (first | with_reducible exact Ext.here | with_reducible apply Ext.there))))) ?_ ?_ Sub.refl ?_
      · exact Nat.zero_le _
      · (try dsimp only); exact (Wk.cons (by first | rfl | (simp only [List.length_append, List.length_cons, List.length_nil, List.length_replicate, Nat.zero_add]; rfl) | (simp; done)) Wk.nil)
      · rintro j hjj K35 hK35
        simp only [List.cons_append, List.nil_append]
        refine WC_seq fun K36 hK36 => ?_
        refine WC_sr fun K37 hK37 => ?_
        refine WL_rd (Rd_move rfl) rfl rfl rfl ?_
        refine WL_rd (Rd_lssN (j := 3) rfl rfl) rfl rfl rfl ?_
        refine WL_end hK37 ?_
        refine WC_cond rfl (fun hc12 => ?_) (fun hc12 => ?_)
        · try simp only [decide_eq_true_eq, decide_eq_false_iff_not, Bool.not_eq_true', Bool.not_eq_false', Bool.not_eq_true, Bool.not_eq_false, Int.not_lt, Int.not_le, Nat.not_lt, Nat.not_le, Decidable.not_not, ne_eq] at hc12
          obtain ⟨it, hit⟩ := at_i (l := its) (i := j) (by omega)
          have hMl := hbM it (List.mem_of_getElem? hit)
          have hbi : (its.map It.b)[j]? = some it.b := by rw [List.getElem?_map, hit]; rfl
          have hmi : (its.map It.ms)[j]? = some it.ms := by rw [List.getElem?_map, hit]; rfl
          refine WC_open FI its j (x := it) hit ?_
          rw [show FI it = sep [cl it.b 68 (hsh (hM it.M) (sl it.ha (rM it.M).length it.hc) (.int .i64 ((it.M.length : Nat) : Int))), arr it.ha it.hc 1 5 (eU .u8) (rM it.M), arr it.a it.cap 1 5 (eU .u8) it.M] from rfl]
          refine WC_unpk [cl it.b 68 (hsh (hM it.M) (sl it.ha (rM it.M).length it.hc) (.int .i64 ((it.M.length : Nat) : Int))), arr it.ha it.hc 1 5 (eU .u8) (rM it.M), arr it.a it.cap 1 5 (eU .u8) it.M] ?_
          simp only [List.cons_append, List.nil_append]
          refine WC_fact (fun w h => arr_facts (a := it.a) (cap := it.cap) (e := 1) (T := 5) (f := eU .u8 (w := 8)) (l := it.M) (by repeat (first | with_reducible exact Has.here | with_reducible refine Has.there ?_)) h) (fun hmf => ?_)
          have hSm : Sv [arr it.a it.cap 1 5 (eU .u8) it.M] (sl it.a it.M.length it.cap) 1 (eU .u8 (w := 8)) it.M (it.a.map fun g => ⟨g, 0, none⟩) it.cap := Sv_own' (encU .u8 (w := 8)) hmf.1 hmf.2
          have hdl := dgM_len it.M
          refine WC_skip ?_
          refine Ps_next hK36 ?_
          refine WC_seq fun K38 hK38 => ?_
          refine WC_block ?_
          refine WC_seq fun K39 hK39 => ?_
          refine WC_drawA mix (fun i => ([2, 2, 2, 2, 2, 2, 2, 2, 1, 2, 2, 2, 1, 2, 2, 2, 2, 2, 2, 1, 2, 2, 2, 2, 2, 2] : List Nat).getD i 0) ?_
          refine WJ_takeP 0 rfl (by kernel_rfl) (Rd_move rfl) rfl rfl rfl (hp _ _) ?_
          refine WJ_takeP 1 rfl (by kernel_rfl) (Rd_ixA j rfl rfl ud54 sz47 (hi := by omega)) rfl rfl rfl (hp _ _) ?_
          refine WJ_tk 2 (Rd_load_arr (f := eHB) (i := j) (j := 0) (v := .pointer (some ⟨it.b, 0, none⟩)) rfl tk47 (hl := hbi) (hv := rfl)) hp ?_ rfl (by kernel_rfl) rfl rfl rfl
          refine WJ_takeP 3 rfl (by kernel_rfl) (Rd_peq rfl rfl ud47) rfl rfl rfl (hp _ _) ?_
          refine WJ_takeP 4 rfl (by kernel_rfl) (Rd_move rfl) rfl rfl rfl (hp _ _) ?_
          refine WJ_takeP 5 rfl (by kernel_rfl) (Rd_move rfl) rfl rfl rfl (hp _ _) ?_
          refine WJ_takeP 6 rfl (by kernel_rfl) (Rd_ixA j rfl rfl ud54 sz47 (hi := by omega)) rfl rfl rfl (hp _ _) ?_
          refine WJ_tk 7 (Rd_load_arr (f := eHB) (i := j) (j := 0) (v := .pointer (some ⟨it.b, 0, none⟩)) rfl tk47 (hl := hbi) (hv := rfl)) hp ?_ rfl (by kernel_rfl) rfl rfl rfl
          refine WJ_takeP 9 rfl (by kernel_rfl) (Rd_move rfl) rfl rfl rfl (hp _ _) ?_
          refine WJ_takeP 10 rfl (by kernel_rfl) (Rd_ixA j rfl rfl ud55 sz32 (hi := by omega)) rfl rfl rfl (hp _ _) ?_
          refine WJ_tk 11 (Rd_load_arr (f := eMS) (i := j) (j := 0) (v := sl it.a it.M.length it.cap) rfl tk32 (hl := hmi) (hv := rfl)) hp ?_ rfl (by kernel_rfl) rfl rfl rfl
          refine WJ_all (rs := [8]) (by kernel_rfl) rfl ?_
          refine WI_one ?_
          refine WI_ac rfl (Ac_call cf37 rfl (hs := hsum_ct (b := it.b) (M := it.M) (a := it.ha) (cap := it.hc))) rfl rfl rfl rfl ?_
          rintro _ _ ⟨⟨⟩, rfl, hA⟩
          simp only [List.cons_append, List.nil_append] at hA
          replace hA := hA.symm
          subst hA
          refine ⟨(fun _ => (by repeat (first | with_reducible exact Sub.refl | with_reducible exact Sub.nil | with_reducible refine Sub.cons (by repeat (first | with_reducible exact Ext.here | with_reducible apply Ext.there)) ?_ | with_reducible refine Sub.tail ?_))), ?_⟩
          refine WJ_all (rs := [12]) (by kernel_rfl) rfl ?_
          refine WI_one ?_
          refine WI_ac rfl (Ac_call cf43 rfl (hs := sumR_ct (X := arr it.a it.cap 1 5 (eU .u8) it.M) (l := it.M) (hS := hSm))) rfl rfl rfl rfl ?_
          rintro _ _ ⟨⟨⟩, rfl, hA⟩
          simp only [List.cons_append, List.nil_append] at hA
          replace hA := hA.symm
          subst hA
          refine ⟨(fun _ => (by repeat (first | with_reducible exact Sub.refl | with_reducible exact Sub.nil | with_reducible refine Sub.cons (by repeat (first | with_reducible exact Ext.here | with_reducible apply Ext.there)) ?_ | with_reducible refine Sub.tail ?_))), ?_⟩
          refine WJ_takeP 13 rfl (by kernel_rfl) (Rd_isF (Rd_neW rfl rfl ais42) (by simp)) rfl rfl rfl (hp _ _) ?_
          refine WJ_takeP 14 rfl (by kernel_rfl) (Rd_pickF rfl rfl) rfl rfl rfl (hp _ _) ?_
          refine WJ_takeP 15 rfl (by kernel_rfl) (Rd_move rfl) rfl rfl rfl (hp _ _) ?_
          refine WJ_takeP 16 rfl (by kernel_rfl) (Rd_move rfl) rfl rfl rfl (hp _ _) ?_
          refine WJ_takeP 17 rfl (by kernel_rfl) (Rd_ixA j rfl rfl ud54 sz47 (hi := by omega)) rfl rfl rfl (hp _ _) ?_
          refine WJ_tk 18 (Rd_load_arr (f := eHB) (i := j) (j := 0) (v := .pointer (some ⟨it.b, 0, none⟩)) rfl tk47 (hl := hbi) (hv := rfl)) hp ?_ rfl (by kernel_rfl) rfl rfl rfl
          refine WJ_takeP 20 rfl (by kernel_rfl) (Rd_move rfl) rfl rfl rfl (hp _ _) ?_
          refine WJ_takeP 21 rfl (by kernel_rfl) (Rd_ixA j rfl rfl ud55 sz32 (hi := by omega)) rfl rfl rfl (hp _ _) ?_
          refine WJ_tk 22 (Rd_load_arr (f := eMS) (i := j) (j := 0) (v := sl it.a it.M.length it.cap) rfl tk32 (hl := hmi) (hv := rfl)) hp ?_ rfl (by kernel_rfl) rfl rfl rfl
          refine WJ_takeP 23 rfl (by kernel_rfl) (Rd_len rfl rfl ud32) rfl rfl rfl (hp _ _) ?_
          refine WJ_all (rs := [19]) (by kernel_rfl) rfl ?_
          refine WI_one ?_
          refine WI_ac rfl (Ac_call cf38 rfl (hs := size_ct (b := it.b) (M := it.M) (a := it.ha) (cap := it.hc))) rfl rfl rfl rfl ?_
          rintro _ _ ⟨⟨⟩, rfl, hA⟩
          simp only [List.cons_append, List.nil_append] at hA
          replace hA := hA.symm
          subst hA
          refine ⟨(fun _ => (by repeat (first | with_reducible exact Sub.refl | with_reducible exact Sub.nil | with_reducible refine Sub.cons (by repeat (first | with_reducible exact Ext.here | with_reducible apply Ext.there)) ?_ | with_reducible refine Sub.tail ?_))), ?_⟩
          refine WJ_takeP 24 rfl (by kernel_rfl) (Rd_isF (Rd_neqN rfl rfl)) rfl rfl rfl (hp _ _) ?_
          refine WJ_takeP 25 rfl (by kernel_rfl) (Rd_pickF rfl rfl) rfl rfl rfl (hp _ _) ?_
          refine WJ_done (by kernel_rfl) ?_
          refine Ps_next hK39 ?_
          refine WC_condF rfl ?_
          refine WC_skip ?_
          refine Ps_next hK38 ?_
          refine WC_region ?_
          refine WL_pk0 ?_
          refine WL_pull (arr it.a it.cap 1 5 (eU .u8) it.M) ?_
          refine WL_pull (arr it.ha it.hc 1 5 (eU .u8) (rM it.M)) ?_
          refine WL_pull (cl it.b 68 (hsh (hM it.M) (sl it.ha (rM it.M).length it.hc) (.int .i64 ((it.M.length : Nat) : Int)))) ?_
          rw [show sep [cl it.b 68 (hsh (hM it.M) (sl it.ha (rM it.M).length it.hc) (.int .i64 ((it.M.length : Nat) : Int))), arr it.ha it.hc 1 5 (eU .u8) (rM it.M), arr it.a it.cap 1 5 (eU .u8) it.M] = FI ⟨it.b, it.ha, it.hc, it.a, it.cap, it.M⟩ from rfl]
          refine WL_shut FI its j it (by omega) ?_
          rw [set_same hit]
          refine WL_rd (Rd_move rfl) rfl rfl rfl ?_
          refine WL_rd (Rd_addN (j := 1) rfl rfl) rfl rfl rfl ?_
          refine WL_rd (Rd_assign rfl) rfl rfl rfl ?_
          refine WL_nil ?_
          refine Ps_wk (by (try simp only [List.cons_append, List.nil_append]); repeat (first | with_reducible exact Wk.nil | refine Wk.cons (by first | rfl | (simp only [List.length_append, List.length_cons, List.length_nil, List.length_replicate, Nat.zero_add]; rfl) | (simp; done)) ?_)) (by (try simp only [List.cons_append, List.nil_append]); repeat (first | with_reducible exact Sub.refl | with_reducible exact Sub.nil | with_reducible refine Sub.cons (by repeat (first | with_reducible exact Ext.here | with_reducible apply Ext.there)) ?_ | with_reducible refine Sub.tail ?_)) (hK35 (j + 1) (by omega) (by omega))
        · try simp only [decide_eq_true_eq, decide_eq_false_iff_not, Bool.not_eq_true', Bool.not_eq_false', Bool.not_eq_true, Bool.not_eq_false, Int.not_lt, Int.not_le, Nat.not_lt, Nat.not_le, Decidable.not_not, ne_eq] at hc12
          refine WC_exit ?_
          refine Ps_next hK33 ?_
          refine WC_sr fun K40 hK40 => ?_
          refine WL_rd (Rd_assign rfl) rfl rfl rfl ?_
          refine WL_end hK40 ?_
          refine WC_ret ?_
          exact hret.go () (Rs1 rfl rfl)
end Go.Proofs.Ythkchjcodibaeaa
