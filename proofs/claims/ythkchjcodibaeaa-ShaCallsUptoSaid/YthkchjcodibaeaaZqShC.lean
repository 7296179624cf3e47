/-
  Contracts of functions that the claim reaches, or the logic and the plain laws that they rest on, or the row over them. (Conditions: none beyond the statement.)
-/
import Derived.Test.YthkchjcodibaeaaZqLst
import Derived.Test.YthkchjcodibaeaaZqApB
import Derived.Test.YthkchjcodibaeaaShOp
set_option linter.all false
namespace Go.Proofs.Ythkchjcodibaeaa
open Go.RowKit Go.SL Go.ShM
set_option maxHeartbeats 1000000
set_option maxRecDepth 20000
set_option linter.all false
theorem cf42 : cfn Try.prog 42 = true := by kernel_rfl
theorem cf86 : cfn Try.prog 86 = true := by kernel_rfl
theorem cf87 : cfn Try.prog 87 = true := by kernel_rfl
theorem cf88 : cfn Try.prog 88 = true := by kernel_rfl
theorem joinR_ct {X : Asn} {v : Value} {ps : List Pt} {ao : Option Addr} {cap2 : Nat} (hS : Sv [X] v 1 fP ps ao cap2 := by assumption) (hP : ∀ p ∈ ps, RdP [X] p := by assumption) (hn : (joinP ps).length ≤ 900000000000 := by omega) (hk : ps.length ≤ 900000000000 := by omega) : Ct Try.prog 87 [v] [X] (fun g : Option Nat × Nat => sl g.1 (joinP ps).length g.2) (fun g => [X, arr g.1 g.2 1 5 (eU .u8) (joinP ps)]) := by
  refine Ct_body (n := 18) Try.func87 rfl rfl rfl fun F w0 Q hret hnorm hp => ?_
  change WC _ _ _ _ _ _ _ (_ :: F)
  refine WC_sr fun K1 hK1 => ?_
  refine WL_rd (Rd_assign (v := sl none 0 0) rfl) rfl rfl rfl ?_
  refine WL_end hK1 ?_
  refine WC_sr fun K2 hK2 => ?_
  refine WL_rd (Rd_assign (v := sl none 0 0) rfl) rfl rfl rfl ?_
  refine WL_nilarr (eU .u8 (w := 8)) 1 5 ?_
  refine WL_end hK2 ?_
  refine WC_seq fun K3 hK3 => ?_
  refine WC_sr fun K4 hK4 => ?_
  refine WL_rd (Rd_assign rfl) rfl rfl rfl ?_
  refine WL_end hK4 ?_
  refine WC_block ?_
  rw [show ([] : List B8) = joinP (ps.take 0) from rfl]
  refine WC_loopK (σ := Nat × (Option Nat) × Nat) (fun ⟨k, a, c⟩ => [(3, sl a (joinP (ps.take k)).length c), (3, sl a (joinP (ps.take k)).length c), (4, .int .i64 ((k : Nat) : Int))]) (fun ⟨k, a, c⟩ => [arr a c 1 5 (eU .u8) (joinP (ps.take k))]) (fun ⟨k, a, c⟩ => k ≤ ps.length) (fun ⟨k, a, c⟩ => ps.length - k) ⟨0, none, 0⟩ [0, 2, 17] (by repeat (first | exact Kep.nil | apply Kep.drop rfl | apply Kep.keep rfl)) (by (try dsimp only); repeat (first | with_reducible exact Gv.nil | (with_reducible apply Gv.cons; · (repeat (first | with_reducible exact Ext.here | with_reducible apply Ext.there))))) ?_ ?_ Sub.refl ?_
  · exact Nat.zero_le _
  · (try dsimp only); exact (Wk.cons (by first | rfl | (simp only [List.length_append, List.length_cons, List.length_nil, List.length_replicate, Nat.zero_add]; rfl) | (simp; done)) (Wk.cons (by first | rfl | (simp only [List.length_append, List.length_cons, List.length_nil, List.length_replicate, Nat.zero_add]; rfl) | (simp; done)) (Wk.cons (by first | rfl | (simp only [List.length_append, List.length_cons, List.length_nil, List.length_replicate, Nat.zero_add]; rfl) | (simp; done)) Wk.nil)))
  · rintro ⟨k, a, c⟩ hk0 K5 hK5
    simp only [List.cons_append, List.nil_append]
    have hjt := joinP_le ps k
    refine WC_seq fun K6 hK6 => ?_
    refine WC_sr fun K7 hK7 => ?_
    refine WL_rd (Rd_move rfl) rfl rfl rfl ?_
    refine WL_rd (Rd_move rfl) rfl rfl rfl ?_
    refine WL_rd (Rd_len_sv rfl rfl ud27) rfl rfl rfl ?_
    refine WL_rd (Rd_lssN rfl rfl) rfl rfl rfl ?_
    refine WL_end hK7 ?_
    refine WC_cond rfl (fun hc0 => ?_) (fun hc0 => ?_)
    · try simp only [decide_eq_true_eq, decide_eq_false_iff_not, Bool.not_eq_true', Bool.not_eq_false', Bool.not_eq_true, Bool.not_eq_false, Int.not_lt, Int.not_le, Nat.not_lt, Nat.not_le, Decidable.not_not, ne_eq] at hc0
      obtain ⟨p, hpk⟩ : ∃ p, ps[k]? = some p := ⟨_, List.getElem?_eq_getElem (by omega)⟩
      have hpS : Sv [X] p.v 1 (eU .u8 (w := 8)) p.l p.ao p.cap := hP p (List.mem_of_getElem? hpk)
      have hjk := joinP_take hpk
      have hjl := congrArg List.length hjk
      rw [List.length_append] at hjl
      have hjt2 := joinP_le ps (k + 1)
      refine WC_skip ?_
      refine Ps_next hK6 ?_
      refine WC_seq fun K8 hK8 => ?_
      refine WC_block ?_
      refine WC_region ?_
      refine WL_rd (Rd_move rfl) rfl rfl rfl ?_
      refine WL_rd (Rd_move rfl) rfl rfl rfl ?_
      refine WL_rd (Rd_move rfl) rfl rfl rfl ?_
      refine WL_rd (Rd_index_sv k rfl rfl ud27 sz32 (hA := hS) (hi := by omega)) rfl rfl rfl ?_
      refine WL_rd (Rd_load_sv (i := k) (j := 0) rfl tk32 (hA := hS) (hl := hpk)) rfl rfl rfl ?_
      refine WL_ac (Ac_appendS (f := (eU .u8 (w := 8))) (encU .u8) rfl rfl ud32 ud32 el5 (hS := hpS)) rfl rfl rfl ?_
      rintro _ _ ⟨a16, cap16, rfl, rfl⟩
      rw [hjk, hjl]
      refine WL_rd (Rd_assign rfl) rfl rfl rfl ?_
      refine WL_nil ?_
      refine Ps_next hK8 ?_
      refine WC_region ?_
      refine WL_rd (Rd_move rfl) rfl rfl rfl ?_
      refine WL_rd (Rd_addN (j := 1) rfl rfl) rfl rfl rfl ?_
      refine WL_rd (Rd_assign rfl) rfl rfl rfl ?_
      refine WL_nil ?_
      refine Ps_wk (by (try simp only [List.cons_append, List.nil_append]); repeat (first | with_reducible exact Wk.nil | refine Wk.cons (by first | rfl | (simp only [List.length_append, List.length_cons, List.length_nil, List.length_replicate, Nat.zero_add]; rfl) | (simp; done)) ?_)) (by (try simp only [List.cons_append, List.nil_append]); repeat (first | with_reducible exact Sub.refl | with_reducible exact Sub.nil | with_reducible refine Sub.cons (by repeat (first | with_reducible exact Ext.here | with_reducible apply Ext.there)) ?_ | with_reducible refine Sub.tail ?_)) (hK5 ⟨k + 1, a16, cap16⟩ (by dsimp only; omega) (by dsimp only; omega))
    · try simp only [decide_eq_true_eq, decide_eq_false_iff_not, Bool.not_eq_true', Bool.not_eq_false', Bool.not_eq_true, Bool.not_eq_false, Int.not_lt, Int.not_le, Nat.not_lt, Nat.not_le, Decidable.not_not, ne_eq] at hc0
      obtain rfl : k = ps.length := by omega
      rw [List.take_length]
      refine WC_exit ?_
      refine Ps_next hK3 ?_
      refine WC_sr fun K9 hK9 => ?_
      refine WL_rd (Rd_move rfl) rfl rfl rfl ?_
      refine WL_rd (Rd_assign rfl) rfl rfl rfl ?_
      refine WL_end hK9 ?_
      refine WC_ret ?_
      exact hret.go (a, c) (Rs1 rfl rfl)

theorem iniR_ct   : Ct Try.prog 26 [] [] (fun _ : Unit => aU .u32 iniM) (fun _ => []) := by
  refine Ct_body (n := 2) Try.func26 rfl rfl rfl fun F w0 Q hret hnorm hp => ?_
  change WC _ _ _ _ _ _ _ (F)
  have hkl := iniM_len
  refine WC_sr fun K1 hK1 => ?_
  refine WL_ac (Ac_allocW (k := .u32) (w := 32) (m := 8) zr25) rfl rfl rfl ?_
  rintro _ _ ⟨b0, rfl, rfl⟩
  refine WL_end hK1 ?_
  refine WC_sr fun K2 hK2 => ?_
  refine WL_rd (Rd_aU (k := .u32) (l := iniM) (Rd_build pls66 rfl) (by rfl)) rfl rfl rfl ?_
  refine WL_ac0 (Ac_storeW rfl rfl sz25) rfl rfl ?_
  rintro _ _ rfl
  refine WL_end hK2 ?_
  refine WC_ret ?_
  exact hret.go () (Rs1W rfl rfl tk25)

theorem padR_no {n : Int} (hn : n < 0 ∨ 1152921504606846976 < n) : Ct Try.prog 30 [.int .i64 n] [] (fun _ : Unit => .tuple #[sl none 0 0, .int .i64 2]) (fun _ => []) := by
  refine Ct_body (n := 40) Try.func30 rfl rfl rfl fun F w0 Q hret hnorm hp => ?_
  change WC _ _ _ _ _ _ _ (F)
  refine WC_sr fun K1 hK1 => ?_
  refine WL_rd (Rd_assign (v := sl none 0 0) rfl) rfl rfl rfl ?_
  refine WL_rd (Rd_assign rfl) rfl rfl rfl ?_
  refine WL_end hK1 ?_
  refine WC_seq fun K2 hK2 => ?_
  refine WC_sr fun K3 hK3 => ?_
  refine WL_rd (Rd_move rfl) rfl rfl rfl ?_
  refine WL_rd (Rd_lss rfl rfl) rfl rfl rfl ?_
  refine WL_rd (Rd_move rfl) rfl rfl rfl ?_
  refine WL_bool 9 rfl (fun hg4 => ?_) (fun hg4 => ?_)
  · try simp only [decide_eq_true_eq, decide_eq_false_iff_not, Bool.not_eq_true', Bool.not_eq_false', Bool.not_eq_true, Bool.not_eq_false, Int.not_lt, Int.not_le, Nat.not_lt, Nat.not_le, Decidable.not_not, ne_eq] at hg4
    refine WL_skip rfl rfl rfl ?_
    refine WL_skip rfl rfl rfl ?_
    refine WL_rd (Rd_pickT rfl rfl) rfl rfl rfl ?_
    refine WL_end hK3 ?_
    refine WC_condT rfl ?_
    refine WC_sr fun K5 hK5 => ?_
    refine WL_rd (Rd_assign (v := sl none 0 0) rfl) rfl rfl rfl ?_
    refine WL_rd (Rd_assign rfl) rfl rfl rfl ?_
    refine WL_end hK5 ?_
    refine WC_ret ?_
    exact hret.go () (Rs2 rfl rfl rfl)
  · try simp only [decide_eq_true_eq, decide_eq_false_iff_not, Bool.not_eq_true', Bool.not_eq_false', Bool.not_eq_true, Bool.not_eq_false, Int.not_lt, Int.not_le, Nat.not_lt, Nat.not_le, Decidable.not_not, ne_eq] at hg4
    refine WL_rd (Rd_move rfl) rfl rfl rfl ?_
    refine WL_rd (Rd_gtr rfl rfl) rfl rfl rfl ?_
    refine WL_rd (Rd_pickF rfl rfl) rfl rfl rfl ?_
    refine WL_end hK3 ?_
    refine WC_cond rfl (fun hc0 => ?_) (fun hc0 => ?_)
    · try simp only [decide_eq_true_eq, decide_eq_false_iff_not, Bool.not_eq_true', Bool.not_eq_false', Bool.not_eq_true, Bool.not_eq_false, Int.not_lt, Int.not_le, Nat.not_lt, Nat.not_le, Decidable.not_not, ne_eq] at hc0
      refine WC_sr fun K6 hK6 => ?_
      refine WL_rd (Rd_assign (v := sl none 0 0) rfl) rfl rfl rfl ?_
      refine WL_rd (Rd_assign rfl) rfl rfl rfl ?_
      refine WL_end hK6 ?_
      refine WC_ret ?_
      exact hret.go () (Rs2 rfl rfl rfl)
    · try simp only [decide_eq_true_eq, decide_eq_false_iff_not, Bool.not_eq_true', Bool.not_eq_false', Bool.not_eq_true, Bool.not_eq_false, Int.not_lt, Int.not_le, Nat.not_lt, Nat.not_le, Decidable.not_not, ne_eq] at hc0
      omega

theorem padI_ct {n : Int} : Ct Try.prog 29 [.int .i64 n] [] (fun g : Option Nat × Nat => .tuple #[sl g.1 (padL n).length g.2, .int .i64 (padE n)]) (fun g => [arr g.1 g.2 1 5 (eU .u8) (padL n)]) := by
  by_cases h : 0 ≤ n ∧ n ≤ 1152921504606846976
  · obtain ⟨k, rfl⟩ := Int.eq_ofNat_of_zero_le h.1
    have hk : k ≤ 1152921504606846976 := by omega
    rw [(padL_nat hk).1, (padL_nat hk).2]
    exact pad_ct
  · have hn : n < 0 ∨ 1152921504606846976 < n := by omega
    rw [(padL_no hn).1, (padL_no hn).2]
    exact Ct_way fun F w hs => ⟨Unit, [], _, _, pad_no hn, hs, fun _ w' hw => ⟨(none, 0), rfl, sat_nil hw⟩⟩

theorem padRI_ct {n : Int} : Ct Try.prog 30 [.int .i64 n] [] (fun g : Option Nat × Nat => .tuple #[sl g.1 (padL n).length g.2, .int .i64 (padE n)]) (fun g => [arr g.1 g.2 1 5 (eU .u8) (padL n)]) := by
  by_cases h : 0 ≤ n ∧ n ≤ 1152921504606846976
  · obtain ⟨k, rfl⟩ := Int.eq_ofNat_of_zero_le h.1
    have hk : k ≤ 1152921504606846976 := by omega
    rw [(padL_nat hk).1, (padL_nat hk).2]
    exact padR_ct
  · have hn : n < 0 ∨ 1152921504606846976 < n := by omega
    rw [(padL_no hn).1, (padL_no hn).2]
    exact Ct_way fun F w hs => ⟨Unit, [], _, _, padR_no hn, hs, fun _ w' hw => ⟨(none, 0), rfl, sat_nil hw⟩⟩

theorem summed_ct {X : Asn} {v : Value} {ps : List Pt} {ao : Option Addr} {cap2 : Nat} (hS : Sv [X] v 1 fP ps ao cap2 := by assumption) (hP : ∀ p ∈ ps, RdP [X] p := by assumption) (hn : (joinP ps).length ≤ 1048576 := by omega) (hk : ps.length ≤ 1048576 := by omega) : Ct Try.prog 31 [v] [X] (fun _ : Unit => .bool true) (fun _ => [X]) := by
  refine Ct_body (n := 50) Try.func31 rfl rfl rfl fun F w0 Q hret hnorm hp => ?_
  change WC _ _ _ _ _ _ _ (_ :: F)
  have hb : ∀ p ∈ ps, p.l.length ≤ 800000000000 := fun p h => by have := join_mem h; omega
  have hdl := dgM_len (joinP ps)
  refine WC_sr fun K1 hK1 => ?_
  refine WL_rd (Rd_assign rfl) rfl rfl rfl ?_
  refine WL_end hK1 ?_
  refine WC_sr fun K2 hK2 => ?_
  refine WL_rd (Rd_move rfl) rfl rfl rfl ?_
  refine WL_ac (Ac_call cf86 rfl (hs := lentL_ct (X := X) (ps := ps) (hS := hS) (hP := hP))) rfl rfl rfl ?_
  rintro _ _ ⟨⟨g, hg⟩, rfl, hA⟩
  simp only [List.cons_append, List.nil_append] at hA
  replace hA := hA.symm
  subst hA
  obtain ⟨hel, hsl⟩ := LG_len hg
  dsimp only
  refine WL_ac (Ac_alloc zr141) rfl rfl rfl ?_
  rintro _ _ ⟨b3, rfl, rfl⟩
  refine WL_ac0 (Ac_store (ys := [sl g.la ps.length g.lc, sl g.la (ps.length + 70) g.lc, sl g.ea ps.length g.ec]) rfl rfl sz141 (h1 := by simp [Value.cells, Value.oneCell', sl]) (hr := rfl)) rfl rfl ?_
  rintro _ _ rfl
  refine WL_end hK2 ?_
  refine WC_sr fun K3 hK3 => ?_
  refine WL_rd (Rd_move rfl) rfl rfl rfl ?_
  refine WL_ac (Ac_call cf87 rfl (hs := joinR_ct (X := X) (ps := ps) (hS := hS) (hP := hP))) rfl rfl rfl ?_
  rintro _ _ ⟨⟨a9, cap9⟩, rfl, hA⟩
  simp only [List.cons_append, List.nil_append] at hA
  replace hA := hA.symm
  subst hA
  refine WL_fact (fun w h => arr_facts (a := a9) (cap := cap9) (e := 1) (T := 5) (f := eU .u8 (w := 8)) (l := (joinP ps)) (by repeat (first | with_reducible exact Has.here | with_reducible refine Has.there ?_)) h) (fun hJf => ?_)
  have hJ : Sv [arr a9 cap9 1 5 (eU .u8) (joinP ps)] (sl a9 (joinP ps).length cap9) 1 (eU .u8 (w := 8)) (joinP ps) (a9.map fun g => ⟨g, 0, none⟩) cap9 := Sv_own' (encU .u8 (w := 8)) hJf.1 hJf.2
  refine WL_ac (Ac_call cf43 rfl (hs := sumR_ct (X := arr a9 cap9 1 5 (eU .u8) (joinP ps)) (l := (joinP ps)) (hS := hJ))) rfl rfl rfl ?_
  rintro _ _ ⟨⟨⟩, rfl, hA⟩
  simp only [List.cons_append, List.nil_append] at hA
  replace hA := hA.symm
  subst hA
  refine WL_ac (Ac_allocW (k := .u8) (w := 8) (m := 32) zr42) rfl rfl rfl ?_
  rintro _ _ ⟨b4, rfl, rfl⟩
  refine WL_ac0 (Ac_storeW rfl rfl sz42) rfl rfl ?_
  rintro _ _ rfl
  refine WL_fact (fun w h => arr_facts (a := g.la) (cap := g.lc) (e := 1) (T := 32) (f := eLn) (l := (g.es ++ g.sp)) (by repeat (first | with_reducible exact Has.here | with_reducible refine Has.there ?_)) h) (fun hla => ?_)
  refine WL_fact (fun w h => arr_facts (a := g.ea) (cap := g.ec) (e := 1) (T := 32) (f := eEn) (l := g.es) (by repeat (first | with_reducible exact Has.here | with_reducible refine Has.there ?_)) h) (fun hea => ?_)
  have hal := LG_all hg
  have hlc9 := hla.2
  have hL := SvL (T := 32) hg hla
  have hLt := SvLt (T := 32) hg hla
  have hF := SvF (T := 32) hg hla
  have hG := SvG (T := 32) hg hea
  have hGe := SvGe (T := 32) hg hea
  have hM := SvM (T := 32) hg hla
  have hLP : ∀ p ∈ g.es.map ptE, RdP [sep [star (FL 5) (g.es ++ g.sp), arr g.la g.lc 1 32 eLn (g.es ++ g.sp), arr g.ea g.ec 1 32 eEn g.es, X]] p := fun p h => (Rd_subE (T := 5) (LG_ok hg) p h).pk (by repeat (first | with_reducible exact Has.here | with_reducible refine Has.there ?_))
  have hFP : ∀ p ∈ (g.es ++ g.sp).map ptE, RdP [sep [star (FL 5) (g.es ++ g.sp), arr g.la g.lc 1 32 eLn (g.es ++ g.sp), arr g.ea g.ec 1 32 eEn g.es, X]] p := fun p h => (Rd_allE (T := 5) (LG_ok hg) p h).pk (by repeat (first | with_reducible exact Has.here | with_reducible refine Has.there ?_))
  have hGP : ∀ p ∈ g.es.map ptF, RdP [sep [star (FL 5) (g.es ++ g.sp), arr g.la g.lc 1 32 eLn (g.es ++ g.sp), arr g.ea g.ec 1 32 eEn g.es, X]] p := fun p h => (Rd_allF (T := 5) (LG_ok hg) p h).pk (by repeat (first | with_reducible exact Has.here | with_reducible refine Has.there ?_))
  have hPX : ∀ p ∈ ps, RdP [sep [star (FL 5) (g.es ++ g.sp), arr g.la g.lc 1 32 eLn (g.es ++ g.sp), arr g.ea g.ec 1 32 eEn g.es, X]] p := fun p h => (hP p h).pk (by repeat (first | with_reducible exact Has.here | with_reducible refine Has.there ?_))
  have hMP : ∀ p ∈ ((g.es.map ovE).map ptE), RdP [sep [star (FL 5) (g.es.map ovE ++ g.sp), arr g.la g.lc 1 32 eLn (g.es ++ g.sp), arr g.ea g.ec 1 32 eEn g.es, X]] p := fun p h => (Rd_subE (T := 5) (LG_ok2 hg) p h).pk (by repeat (first | with_reducible exact Has.here | with_reducible refine Has.there ?_))
  have hKK := LG_kok hg
  have hdl2 := dgM_len (joinP ((g.es.map ovE).map ptE))
  have hje := LG_join hg
  have hjo := LG_ojoin hg
  have hel1 : (g.es.map ptE).length = ps.length := by rw [List.length_map]; exact hel
  have hel2 : ((g.es.map ovE).map ptE).length = ps.length := by rw [List.length_map, List.length_map]; exact hel
  refine WL_pk0 ?_
  refine WL_pull (X) ?_
  refine WL_pull (arr g.ea g.ec 1 32 eEn g.es) ?_
  refine WL_pull (arr g.la g.lc 1 32 eLn (g.es ++ g.sp)) ?_
  refine WL_pull (star (FL 5) (g.es ++ g.sp)) ?_
  refine WL_end hK3 ?_
  refine WC_seq fun K4 hK4 => ?_
  refine WC_seq fun K5 hK5 => ?_
  refine WC_drawA mix (fun i => ([2, 2, 1, 2, 2, 2, 2, 2, 1, 2, 2, 2, 2, 2, 2, 1, 2, 2] : List Nat).getD i 0) ?_
  refine WJ_takeP 0 rfl (by kernel_rfl) (Rd_fieldAddr rfl fo141_0) rfl rfl rfl (hp _ _) ?_
  refine WJ_tk 1 (Rd_load rfl tk27 (v := sl g.la ps.length g.lc)) hp ?_ rfl (by kernel_rfl) rfl rfl rfl
  refine WJ_tk 3 (Rd_loadW rfl tk42) hp ?_ rfl (by kernel_rfl) rfl rfl rfl
  refine WJ_all (rs := [2]) (by kernel_rfl) rfl ?_
  refine WI_one ?_
  refine WI_ac rfl (Ac_call cf34 rfl (hs := sum_ct (X := sep [star (FL 5) (g.es ++ g.sp), arr g.la g.lc 1 32 eLn (g.es ++ g.sp), arr g.ea g.ec 1 32 eEn g.es, X]) (ps := g.es.map ptE) (hS := hL.pk (by repeat (first | with_reducible exact Has.here | with_reducible refine Has.there ?_))) (hP := hLP) (hn := by rw [hje]; omega) (hk := by rw [hel1]; omega))) rfl rfl rfl rfl ?_
  rintro _ _ ⟨⟨⟩, rfl, hA⟩
  simp only [List.cons_append, List.nil_append] at hA
  replace hA := hA.symm
  subst hA
  rw [hje]
  refine ⟨(fun _ => (by repeat (first | with_reducible exact Sub.refl | with_reducible exact Sub.nil | with_reducible refine Sub.cons (by repeat (first | with_reducible exact Ext.here | with_reducible apply Ext.there)) ?_ | with_reducible refine Sub.tail ?_))), ?_⟩
  refine WJ_takeP 4 rfl (by kernel_rfl) (Rd_isF (Rd_neW rfl rfl ais42) (by simp)) rfl rfl rfl (hp _ _) ?_
  refine WJ_takeP 5 rfl (by kernel_rfl) (Rd_move rfl) rfl rfl rfl (hp _ _) ?_
  refine WJ_takeP 6 rfl (by kernel_rfl) (Rd_fieldAddr rfl fo141_0) rfl rfl rfl (hp _ _) ?_
  refine WJ_tk 7 (Rd_load rfl tk27 (v := sl g.la ps.length g.lc)) hp ?_ rfl (by kernel_rfl) rfl rfl rfl
  refine WJ_tk 9 (Rd_loadW rfl tk42) hp ?_ rfl (by kernel_rfl) rfl rfl rfl
  refine WJ_all (rs := [8]) (by kernel_rfl) rfl ?_
  refine WI_one ?_
  refine WI_ac rfl (Ac_call cf34 rfl (hs := sum_ct (X := sep [star (FL 5) (g.es ++ g.sp), arr g.la g.lc 1 32 eLn (g.es ++ g.sp), arr g.ea g.ec 1 32 eEn g.es, X]) (ps := g.es.map ptE) (hS := hL.pk (by repeat (first | with_reducible exact Has.here | with_reducible refine Has.there ?_))) (hP := hLP) (hn := by rw [hje]; omega) (hk := by rw [hel1]; omega))) rfl rfl rfl rfl ?_
  rintro _ _ ⟨⟨⟩, rfl, hA⟩
  simp only [List.cons_append, List.nil_append] at hA
  replace hA := hA.symm
  subst hA
  rw [hje]
  refine ⟨(fun _ => (by repeat (first | with_reducible exact Sub.refl | with_reducible exact Sub.nil | with_reducible refine Sub.cons (by repeat (first | with_reducible exact Ext.here | with_reducible apply Ext.there)) ?_ | with_reducible refine Sub.tail ?_))), ?_⟩
  refine WJ_takeP 10 rfl (by kernel_rfl) (Rd_isF (Rd_neW rfl rfl ais42) (by simp)) rfl rfl rfl (hp _ _) ?_
  refine WJ_takeP 11 rfl (by kernel_rfl) (Rd_pickF rfl rfl) rfl rfl rfl (hp _ _) ?_
  refine WJ_takeP 12 rfl (by kernel_rfl) (Rd_move rfl) rfl rfl rfl (hp _ _) ?_
  refine WJ_tk 13 (Rd_loadg (vs := [sl g.la ps.length g.lc, sl g.la (ps.length + 70) g.lc, sl g.ea ps.length g.ec]) rfl tk141 (hi := rfl)) hp ?_ rfl (by kernel_rfl) rfl rfl rfl
  refine WJ_takeP 14 rfl (by kernel_rfl) (Rd_move rfl) rfl rfl rfl (hp _ _) ?_
  refine WJ_all (rs := [15]) (by kernel_rfl) rfl ?_
  refine WI_one ?_
  refine WI_ac rfl (Ac_call cf88 rfl (hs := keptL_ct (X := sep [star (FL 5) (g.es ++ g.sp), arr g.la g.lc 1 32 eLn (g.es ++ g.sp), arr g.ea g.ec 1 32 eEn g.es, X]) (ps := ps) (fs := (g.es ++ g.sp).map ptE) (gs := g.es.map ptF) (hS := hS.pk (by repeat (first | with_reducible exact Has.here | with_reducible refine Has.there ?_))) (hP := hPX) (hF := hF.pk (by repeat (first | with_reducible exact Has.here | with_reducible refine Has.there ?_))) (hL := hLt.pk (by repeat (first | with_reducible exact Has.here | with_reducible refine Has.there ?_))) (hG := hG.pk (by repeat (first | with_reducible exact Has.here | with_reducible refine Has.there ?_))) (hFP := hFP) (hGP := hGP) (hK := hKK) (hlc := by omega))) rfl rfl rfl rfl ?_
  rintro _ _ ⟨⟨⟩, rfl, hA⟩
  simp only [List.cons_append, List.nil_append] at hA
  replace hA := hA.symm
  subst hA
  refine ⟨(fun _ => (by repeat (first | with_reducible exact Sub.refl | with_reducible exact Sub.nil | with_reducible refine Sub.cons (by repeat (first | with_reducible exact Ext.here | with_reducible apply Ext.there)) ?_ | with_reducible refine Sub.tail ?_))), ?_⟩
  refine WJ_takeP 16 rfl (by kernel_rfl) (Rd_not rfl) rfl rfl rfl (hp _ _) ?_
  refine WJ_takeP 17 rfl (by kernel_rfl) (Rd_pickF rfl rfl) rfl rfl rfl (hp _ _) ?_
  refine WJ_done (by kernel_rfl) ?_
  refine Ps_next hK5 ?_
  refine WC_condF rfl ?_
  refine WC_skip ?_
  refine Ps_next hK4 ?_
  refine WC_seq fun K6 hK6 => ?_
  refine WC_sr fun K7 hK7 => ?_
  refine WL_rd (Rd_assign rfl) rfl rfl rfl ?_
  refine WL_end hK7 ?_
  refine WC_block ?_
  refine WC_unpk [star (FL 5) (g.es ++ g.sp), arr g.la g.lc 1 32 eLn (g.es ++ g.sp), arr g.ea g.ec 1 32 eEn g.es, X] ?_
  simp only [List.cons_append, List.nil_append]
  rw [show star (FL 5) (g.es ++ g.sp) = star (FL 5) (ovK g.es 0 ++ g.sp) from by rw [ovK_0]]
  refine WC_loopK (σ := Nat) (fun k => [(5, .int .i64 ((k : Nat) : Int))]) (fun k => [star (FL 5) (ovK g.es k ++ g.sp)]) (fun k => k ≤ ps.length) (fun k => ps.length - k) (0) [2, 3, 42, 43, 44, 45, 46, 47, 48, 49] (by repeat (first | exact Kep.nil | apply Kep.drop rfl | apply Kep.keep rfl)) (by (try dsimp only); repeat (first | with_reducible exact Gv.nil | (with_reducible apply Gv.cons; · (repeat (first | with_reducible exact Ext.here | with_reducible apply Ext.there))))) ?_ ?_ Sub.refl ?_
  · exact Nat.zero_le _
  · (try dsimp only); exact (Wk.cons (by first | rfl | (simp only [List.length_append, List.length_cons, List.length_nil, List.length_replicate, Nat.zero_add]; rfl) | (simp; done)) Wk.nil)
  · rintro k hk0 K8 hK8
    simp only [List.cons_append, List.nil_append]
    refine WC_seq fun K9 hK9 => ?_
    refine WC_sr fun K10 hK10 => ?_
    refine WL_rd (Rd_move rfl) rfl rfl rfl ?_
    refine WL_rd (Rd_fieldAddr rfl fo141_0) rfl rfl rfl ?_
    refine WL_rd (Rd_load rfl tk27 (v := sl g.la ps.length g.lc)) rfl rfl rfl ?_
    refine WL_rd (Rd_len rfl rfl ud27) rfl rfl rfl ?_
    refine WL_rd (Rd_lssN rfl rfl) rfl rfl rfl ?_
    refine WL_end hK10 ?_
    refine WC_cond rfl (fun hc1 => ?_) (fun hc1 => ?_)
    · try simp only [decide_eq_true_eq, decide_eq_false_iff_not, Bool.not_eq_true', Bool.not_eq_false', Bool.not_eq_true, Bool.not_eq_false, Int.not_lt, Int.not_le, Nat.not_lt, Nat.not_le, Decidable.not_not, ne_eq] at hc1
      obtain ⟨e, hek⟩ : ∃ e, g.es[k]? = some e := ⟨_, List.getElem?_eq_getElem (by omega)⟩
      obtain ⟨p, hpk⟩ : ∃ p, ps[k]? = some p := ⟨_, List.getElem?_eq_getElem (by omega)⟩
      have hee := LG_es hg hek hpk
      have hpb := hb p (List.mem_of_getElem? hpk)
      have heL : e.L.length = p.l.length + 70 := by rw [hee.1, lentB_len]
      refine WC_open (FL 5) (ovK g.es k ++ g.sp) k (x := e) (ovK_here hek) ?_
      rw [show FL 5 e = arr e.a e.cap 1 5 (eU .u8) e.L from rfl]
      refine WC_skip ?_
      refine Ps_next hK9 ?_
      refine WC_seq fun K11 hK11 => ?_
      refine WC_block ?_
      refine WC_region ?_
      refine WL_rd (Rd_fieldAddr rfl fo141_2) rfl rfl rfl ?_
      refine WL_rd (Rd_load rfl tk27 (v := sl g.ea ps.length g.ec)) rfl rfl rfl ?_
      refine WL_rd (Rd_move rfl) rfl rfl rfl ?_
      refine WL_rd (Rd_index_sv k rfl rfl ud27 sz32 (hA := hGe) (hi := by omega)) rfl rfl rfl ?_
      refine WL_rd (Rd_load_sv (i := k) (j := 0) (u := sl e.a e.L.length e.cap) rfl tk32 (hA := hGe) (hl := hek)) rfl rfl rfl ?_
      refine WL_ac (Ac_call cf42 rfl (hs := over_ct (l := e.L) (a := e.a) (cap := e.cap))) rfl rfl rfl ?_
      rintro _ _ ⟨⟨⟩, rfl, hA⟩
      simp only [List.cons_append, List.nil_append] at hA
      replace hA := hA.symm
      subst hA
      rw [show arr e.a e.cap 1 5 (eU .u8) (overB e.L.length) = FL 5 (ovE e) from rfl]
      refine WL_shut (FL 5) (ovK g.es k ++ g.sp) k (ovE e) (by rw [List.length_append, ovK_len]; omega) ?_
      rw [ovK_next hek]
      refine WL_nil ?_
      refine Ps_next hK11 ?_
      refine WC_region ?_
      refine WL_rd (Rd_move rfl) rfl rfl rfl ?_
      refine WL_rd (Rd_addN (j := 1) rfl rfl) rfl rfl rfl ?_
      refine WL_rd (Rd_assign rfl) rfl rfl rfl ?_
      refine WL_nil ?_
      refine Ps_wk (by (try simp only [List.cons_append, List.nil_append]); repeat (first | with_reducible exact Wk.nil | refine Wk.cons (by first | rfl | (simp only [List.length_append, List.length_cons, List.length_nil, List.length_replicate, Nat.zero_add]; rfl) | (simp; done)) ?_)) (by (try simp only [List.cons_append, List.nil_append]); repeat (first | with_reducible exact Sub.refl | with_reducible exact Sub.nil | with_reducible refine Sub.cons (by repeat (first | with_reducible exact Ext.here | with_reducible apply Ext.there)) ?_ | with_reducible refine Sub.tail ?_)) (hK8 (k + 1) (by omega) (by omega))
    · try simp only [decide_eq_true_eq, decide_eq_false_iff_not, Bool.not_eq_true', Bool.not_eq_false', Bool.not_eq_true, Bool.not_eq_false, Int.not_lt, Int.not_le, Nat.not_lt, Nat.not_le, Decidable.not_not, ne_eq] at hc1
      obtain hkl : k = ps.length := by omega
      rw [show ovK g.es k = g.es.map ovE from by rw [hkl, ← hel]; exact ovK_all _]
      refine WC_pk0 ?_
      refine WC_pull (X) ?_
      refine WC_pull (arr g.ea g.ec 1 32 eEn g.es) ?_
      refine WC_pull (arr g.la g.lc 1 32 eLn (g.es ++ g.sp)) ?_
      refine WC_pull (star (FL 5) (g.es.map ovE ++ g.sp)) ?_
      refine WC_exit ?_
      refine Ps_next hK6 ?_
      refine WC_seq fun K12 hK12 => ?_
      refine WC_drawA mix (fun i => ([2, 2, 1, 2, 2, 1, 1, 2, 2] : List Nat).getD i 0) ?_
      refine WJ_takeP 0 rfl (by kernel_rfl) (Rd_fieldAddr rfl fo141_0) rfl rfl rfl (hp _ _) ?_
      refine WJ_tk 1 (Rd_load rfl tk27 (v := sl g.la ps.length g.lc)) hp ?_ rfl (by kernel_rfl) rfl rfl rfl
      refine WJ_takeP 3 rfl (by kernel_rfl) (Rd_fieldAddr rfl fo141_0) rfl rfl rfl (hp _ _) ?_
      refine WJ_tk 4 (Rd_load rfl tk27 (v := sl g.la ps.length g.lc)) hp ?_ rfl (by kernel_rfl) rfl rfl rfl
      refine WJ_all (rs := [2]) (by kernel_rfl) rfl ?_
      refine WI_one ?_
      refine WI_ac rfl (Ac_call cf34 rfl (hs := sum_ct (X := sep [star (FL 5) (g.es.map ovE ++ g.sp), arr g.la g.lc 1 32 eLn (g.es ++ g.sp), arr g.ea g.ec 1 32 eEn g.es, X]) (ps := ((g.es.map ovE).map ptE)) (hS := hM.pk (by repeat (first | with_reducible exact Has.here | with_reducible refine Has.there ?_))) (hP := hMP) (hn := by rw [hjo]; omega) (hk := by rw [hel2]; omega))) rfl rfl rfl rfl ?_
      rintro _ _ ⟨⟨⟩, rfl, hA⟩
      simp only [List.cons_append, List.nil_append] at hA
      replace hA := hA.symm
      subst hA
      refine ⟨(fun _ => (by repeat (first | with_reducible exact Sub.refl | with_reducible exact Sub.nil | with_reducible refine Sub.cons (by repeat (first | with_reducible exact Ext.here | with_reducible apply Ext.there)) ?_ | with_reducible refine Sub.tail ?_))), ?_⟩
      refine WJ_all (rs := [5]) (by kernel_rfl) rfl ?_
      refine WI_one ?_
      refine WI_ac rfl (Ac_call cf87 rfl (hs := joinR_ct (X := sep [star (FL 5) (g.es.map ovE ++ g.sp), arr g.la g.lc 1 32 eLn (g.es ++ g.sp), arr g.ea g.ec 1 32 eEn g.es, X]) (ps := ((g.es.map ovE).map ptE)) (hS := hM.pk (by repeat (first | with_reducible exact Has.here | with_reducible refine Has.there ?_))) (hP := hMP) (hn := by rw [hjo]; omega) (hk := by rw [hel2]; omega))) rfl rfl rfl rfl ?_
      rintro _ _ ⟨⟨a47, cap47⟩, rfl, hA⟩
      simp only [List.cons_append, List.nil_append] at hA
      replace hA := hA.symm
      subst hA
      refine ⟨(fun _ => (by repeat (first | with_reducible exact Sub.refl | with_reducible exact Sub.nil | with_reducible refine Sub.cons (by repeat (first | with_reducible exact Ext.here | with_reducible apply Ext.there)) ?_ | with_reducible refine Sub.tail ?_))), ?_⟩
      refine WJ_all (rs := [6]) (by kernel_rfl) rfl ?_
      refine WI_one ?_
      refine WI_factZ (fun w h => arr_facts (a := a47) (cap := cap47) (e := 1) (T := 5) (f := eU .u8 (w := 8)) (l := (joinP ((g.es.map ovE).map ptE))) (by repeat (first | with_reducible exact Has.here | with_reducible refine Has.there ?_)) h) (fun hJ2f => ?_)
      have hJ2 : Sv [arr a47 cap47 1 5 (eU .u8) (joinP ((g.es.map ovE).map ptE))] (sl a47 (joinP ((g.es.map ovE).map ptE)).length cap47) 1 (eU .u8 (w := 8)) (joinP ((g.es.map ovE).map ptE)) (a47.map fun g => ⟨g, 0, none⟩) cap47 := Sv_own' (encU .u8 (w := 8)) hJ2f.1 hJ2f.2
      refine WI_ac rfl (Ac_call cf43 rfl (hs := sumR_ct (X := arr a47 cap47 1 5 (eU .u8) (joinP ((g.es.map ovE).map ptE))) (l := (joinP ((g.es.map ovE).map ptE))) (hS := hJ2))) rfl rfl rfl rfl ?_
      rintro _ _ ⟨⟨⟩, rfl, hA⟩
      simp only [List.cons_append, List.nil_append] at hA
      replace hA := hA.symm
      subst hA
      refine ⟨(fun _ => (by repeat (first | with_reducible exact Sub.refl | with_reducible exact Sub.nil | with_reducible refine Sub.cons (by repeat (first | with_reducible exact Ext.here | with_reducible apply Ext.there)) ?_ | with_reducible refine Sub.tail ?_))), ?_⟩
      refine WJ_takeP 7 rfl (by kernel_rfl) (Rd_isT (Rd_eqW rfl rfl ais42) (by simp)) rfl rfl rfl (hp _ _) ?_
      refine WJ_takeP 8 rfl (by kernel_rfl) (Rd_assign rfl) rfl rfl rfl (hp _ _) ?_
      refine WJ_done (by kernel_rfl) ?_
      refine Ps_next hK12 ?_
      refine WC_ret ?_
      refine Ps_imp (fun _ h => sat_unpk (Xs := [star (FL 5) (g.es.map ovE ++ g.sp), arr g.la g.lc 1 32 eLn (g.es ++ g.sp), arr g.ea g.ec 1 32 eEn g.es, X]) (by repeat (first | with_reducible exact Ext.here | with_reducible apply Ext.there)) h) ?_
      simp only [List.cons_append, List.nil_append]
      exact hret.go () (Rs1 rfl rfl)
end Go.Proofs.Ythkchjcodibaeaa
