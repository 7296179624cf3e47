/-
  Contracts of functions that the claim reaches, or the logic and the plain laws that they rest on, or the row over them. (Conditions: none beyond the statement.)
-/
import Derived.Test.YthkchjcodibaeaaZqRdC
set_option linter.all false
namespace Go.Proofs.Ythkchjcodibaeaa
open Go.RowKit Go.SL Go.ShM
set_option maxHeartbeats 1000000
set_option maxRecDepth 20000
set_option linter.all false
theorem cf60 : cfn Try.prog 60 = true := by kernel_rfl
theorem TagBack_ct {X : Asn} {t : B8} {v v2 : Value} {ps : List Pt} {b : List B8} {ao ao2 : Option Addr} {cap cap2 : Nat} (hS : Sv [X] v 1 fP ps ao cap := by assumption) (hP : ∀ p ∈ ps, RdP [X] p := by assumption) (hB : Sv [X] v2 1 (eU .u8 (w := 8)) b ao2 cap2 := by assumption) (hn : (joinP ps).length ≤ 100000000 := by omega) (hk : ps.length ≤ 100000000 := by omega) (hb : b.length ≤ 100000000 := by omega) : Ct Try.prog 15 [.int .u8 ((t.toNat : Nat) : Int), v, v2] [X] (fun _ : Unit => .bool true) (fun _ => [X]) := by
  refine Ct_body (n := 82) Try.func15 rfl rfl rfl fun F w0 Q hret hnorm hp => ?_
  change WC _ _ _ _ _ _ _ (_ :: F)
  have htl := tagB_len t (ps.map (·.l))
  rw [← joinP_flat, List.length_map] at htl
  refine WC_sr fun K1 hK1 => ?_
  refine WL_rd (Rd_assign rfl) rfl rfl rfl ?_
  refine WL_end hK1 ?_
  refine WC_seq fun K2 hK2 => ?_
  refine WC_sr fun K3 hK3 => ?_
  refine WL_ac (Ac_call cf48 rfl (hs := tlives_ct)) rfl rfl rfl ?_
  rintro _ _ ⟨⟨⟩, rfl, hA⟩
  simp only [List.cons_append, List.nil_append] at hA
  replace hA := hA.symm
  subst hA
  refine WL_rd (Rd_not rfl) rfl rfl rfl ?_
  refine WL_end hK3 ?_
  refine WC_condF rfl ?_
  refine WC_skip ?_
  refine Ps_next hK2 ?_
  refine WC_sr fun K4 hK4 => ?_
  refine WL_rd (Rd_move rfl) rfl rfl rfl ?_
  refine WL_rd (Rd_move rfl) rfl rfl rfl ?_
  refine WL_ac (Ac_call cf49 rfl (hs := bytes_ct (X := X) (t := t) (ps := ps) (hS := hS) (hP := hP))) rfl rfl rfl ?_
  rintro _ _ ⟨⟨a24, cap24⟩, rfl, hA⟩
  simp only [List.cons_append, List.nil_append] at hA
  replace hA := hA.symm
  subst hA
  refine WL_rd (Rd_move rfl) rfl rfl rfl ?_
  refine WL_rd (Rd_ext0 rfl) rfl rfl rfl ?_
  refine WL_rd (Rd_ext1 rfl) rfl rfl rfl ?_
  refine WL_rd (Rd_assign rfl) rfl rfl rfl ?_
  refine WL_rd (Rd_assign rfl) rfl rfl rfl ?_
  refine WL_end hK4 ?_
  refine WC_seq fun K5 hK5 => ?_
  refine WC_sr fun K6 hK6 => ?_
  refine WL_rd (Rd_move rfl) rfl rfl rfl ?_
  refine WL_rd (Rd_eqlN (j := 0) rfl rfl) rfl rfl rfl ?_
  refine WL_end hK6 ?_
  refine WC_cond rfl (fun hc1 => ?_) (fun hc1 => ?_)
  · try simp only [decide_eq_true_eq, decide_eq_false_iff_not, Bool.not_eq_true', Bool.not_eq_false', Bool.not_eq_true, Bool.not_eq_false, Int.not_lt, Int.not_le, Nat.not_lt, Nat.not_le, Decidable.not_not, ne_eq] at hc1
    have hrb := rd_back hc1 (lt64 (by omega))
    refine WC_sr fun K7 hK7 => ?_
    refine WL_rd (Rd_move rfl) rfl rfl rfl ?_
    refine WL_fact (fun w h => arr_facts (a := a24) (cap := cap24) (e := 1) (T := 5) (f := eU .u8 (w := 8)) (l := (tagB t (ps.map (·.l)))) (by repeat (first | with_reducible exact Has.here | with_reducible refine Has.there ?_)) h) (fun hSwf => ?_)
    have hSw : Sv [arr a24 cap24 1 5 (eU .u8) (tagB t (ps.map (·.l)))] (sl a24 (tagB t (ps.map (·.l))).length cap24) 1 (eU .u8 (w := 8)) (tagB t (ps.map (·.l))) (a24.map fun g => ⟨g, 0, none⟩) cap24 := Sv_own' (encU .u8 (w := 8)) hSwf.1 hSwf.2
    refine WL_ac (Ac_call cf60 rfl (hs := read_ct (X := arr a24 cap24 1 5 (eU .u8) (tagB t (ps.map (·.l)))) (l := (tagB t (ps.map (·.l)))) (hS := hSw))) rfl rfl rfl ?_
    rintro _ _ ⟨⟨g, hgl, hgb⟩, rfl, hA⟩
    simp only [List.cons_append, List.nil_append] at hA
    replace hA := hA.symm
    subst hA
    dsimp only
    refine WL_fact (fun w h => arr_facts (a := g.a) (cap := g.cap) (e := 1) (T := 32) (f := ePB) (l := g.ps) (by repeat (first | with_reducible exact Has.here | with_reducible refine Has.there ?_)) h) (fun gf => ?_)
    have gS : Sv [arr g.a g.cap 1 32 ePB g.ps] (sl g.a g.ps.length g.cap) 1 fP (g.ps.map ptB) (g.a.map fun q => ⟨q, 0, none⟩) g.cap := Sv_mapped (Sv_own' encPB gf.1 gf.2) (fun e _ => rfl)
    have gm : (g.ps.map ptB).map (·.l) = g.ps.map (·.l) := by rw [List.map_map]; rfl
    have e1 : (rdM (tagB t (ps.map (·.l)))).1 = t := by rw [hrb]
    have e3 : (rdM (tagB t (ps.map (·.l)))).2.2.1 = 0 := by rw [hrb]
    have e4 : (rdM (tagB t (ps.map (·.l)))).2.2.2 = 0 := by rw [hrb]
    have hgl2 : g.ps.map (·.l) = ps.map (·.l) := by rw [hgl, hrb]
    have hgn : g.ps.length = ps.length := by have := congrArg List.length hgl2; simpa using this
    have hPg : ∀ p ∈ g.ps.map ptB, RdP [sep [star (FPB 5) g.ps, arr g.a g.cap 1 32 ePB g.ps, X]] p := fun p h => (Rd_ptB (T := 5) hgb p h).pk (by repeat (first | with_reducible exact Has.here | with_reducible refine Has.there ?_))
    have hPx : ∀ p ∈ ps, RdP [sep [star (FPB 5) g.ps, arr g.a g.cap 1 32 ePB g.ps, X]] p := fun p h => (hP p h).pk (by repeat (first | with_reducible exact Has.here | with_reducible refine Has.there ?_))
    refine WL_pk0 ?_
    refine WL_pull (X) ?_
    refine WL_pull (arr g.a g.cap 1 32 ePB g.ps) ?_
    refine WL_pull (star (FPB 5) g.ps) ?_
    refine WL_rd (Rd_move rfl) rfl rfl rfl ?_
    refine WL_rd (Rd_ext0 rfl) rfl rfl rfl ?_
    refine WL_rd (Rd_ext1 rfl) rfl rfl rfl ?_
    refine WL_rd (Rd_ext2 rfl) rfl rfl rfl ?_
    refine WL_rd (Rd_ext3 rfl) rfl rfl rfl ?_
    refine WL_rd (Rd_assign rfl) rfl rfl rfl ?_
    refine WL_rd (Rd_assign rfl) rfl rfl rfl ?_
    refine WL_rd (Rd_assign rfl) rfl rfl rfl ?_
    refine WL_rd (Rd_assign rfl) rfl rfl rfl ?_
    refine WL_end hK7 ?_
    refine WC_sr fun K8 hK8 => ?_
    refine WL_rd (Rd_move rfl) rfl rfl rfl ?_
    refine WL_rd (Rd_isF (Rd_neqN (j := 0) rfl rfl)) rfl rfl rfl ?_
    refine WL_rd (Rd_move rfl) rfl rfl rfl ?_
    refine WL_rd (Rd_move rfl) rfl rfl rfl ?_
    refine WL_rd (Rd_isF (Rd_neqN (j := 0) rfl rfl)) rfl rfl rfl ?_
    refine WL_rd (Rd_pickF rfl rfl) rfl rfl rfl ?_
    refine WL_rd (Rd_move rfl) rfl rfl rfl ?_
    refine WL_rd (Rd_move rfl) rfl rfl rfl ?_
    refine WL_rd (Rd_move rfl) rfl rfl rfl ?_
    refine WL_rd (Rd_isF (Rd_neqU rfl rfl)) rfl rfl rfl ?_
    refine WL_rd (Rd_pickF rfl rfl) rfl rfl rfl ?_
    refine WL_rd (Rd_move rfl) rfl rfl rfl ?_
    refine WL_rd (Rd_move rfl) rfl rfl rfl ?_
    refine WL_rd (Rd_move rfl) rfl rfl rfl ?_
    refine WL_ac (Ac_call cf32 rfl (hs := sameL_ct (X := sep [star (FPB 5) g.ps, arr g.a g.cap 1 32 ePB g.ps, X]) (ps := g.ps.map ptB) (qs := ps) (hS := gS.pk (by repeat (first | with_reducible exact Has.here | with_reducible refine Has.there ?_))) (hS' := hS.pk (by repeat (first | with_reducible exact Has.here | with_reducible refine Has.there ?_))) (hP := hPg) (hQ := hPx) (hl := by rw [List.length_map]; omega) (hb := BOk_bt hgb))) rfl rfl rfl ?_
    rintro _ _ ⟨⟨⟩, rfl, hA⟩
    simp only [List.cons_append, List.nil_append] at hA
    replace hA := hA.symm
    subst hA
    rw [decide_eq_true (gm.trans hgl2)]
    refine WL_unpk [star (FPB 5) g.ps, arr g.a g.cap 1 32 ePB g.ps, X] ?_
    simp only [List.cons_append, List.nil_append]
    refine WL_rd (Rd_not rfl) rfl rfl rfl ?_
    refine WL_rd (Rd_pickF rfl rfl) rfl rfl rfl ?_
    refine WL_end hK8 ?_
    refine WC_condF rfl ?_
    refine WC_skip ?_
    refine Ps_next hK5 ?_
    refine WC_sr fun K9 hK9 => ?_
    refine WL_rd (Rd_move rfl) rfl rfl rfl ?_
    refine WL_ac (Ac_call cf60 rfl (hs := read_ct (X := X) (l := b) (hS := hB))) rfl rfl rfl ?_
    rintro _ _ ⟨⟨q, hql, hqb⟩, rfl, hA⟩
    simp only [List.cons_append, List.nil_append] at hA
    replace hA := hA.symm
    subst hA
    dsimp only
    refine WL_fact (fun w h => arr_facts (a := q.a) (cap := q.cap) (e := 1) (T := 32) (f := ePB) (l := q.ps) (by repeat (first | with_reducible exact Has.here | with_reducible refine Has.there ?_)) h) (fun qf => ?_)
    have qS : Sv [arr q.a q.cap 1 32 ePB q.ps] (sl q.a q.ps.length q.cap) 1 fP (q.ps.map ptB) (q.a.map fun q => ⟨q, 0, none⟩) q.cap := Sv_mapped (Sv_own' encPB qf.1 qf.2) (fun e _ => rfl)
    have qm : (q.ps.map ptB).map (·.l) = q.ps.map (·.l) := by rw [List.map_map]; rfl
    have hqn : q.ps.length = (rdM b).2.1.length := by have := congrArg List.length hql; simpa using this
    refine WL_rd (Rd_move rfl) rfl rfl rfl ?_
    refine WL_rd (Rd_ext0 rfl) rfl rfl rfl ?_
    refine WL_rd (Rd_ext1 rfl) rfl rfl rfl ?_
    refine WL_rd (Rd_ext2 rfl) rfl rfl rfl ?_
    refine WL_rd (Rd_ext3 rfl) rfl rfl rfl ?_
    refine WL_rd (Rd_assign rfl) rfl rfl rfl ?_
    refine WL_rd (Rd_assign rfl) rfl rfl rfl ?_
    refine WL_rd (Rd_assign rfl) rfl rfl rfl ?_
    refine WL_rd (Rd_assign rfl) rfl rfl rfl ?_
    refine WL_end hK9 ?_
    refine WC_seq fun K10 hK10 => ?_
    refine WC_sr fun K11 hK11 => ?_
    refine WL_rd (Rd_move rfl) rfl rfl rfl ?_
    refine WL_rd (Rd_neqN (j := 0) rfl rfl) rfl rfl rfl ?_
    refine WL_end hK11 ?_
    refine WC_cond rfl (fun hc3 => ?_) (fun hc3 => ?_)
    · try simp only [decide_eq_true_eq, decide_eq_false_iff_not, Bool.not_eq_true', Bool.not_eq_false', Bool.not_eq_true, Bool.not_eq_false, Int.not_lt, Int.not_le, Nat.not_lt, Nat.not_le, Decidable.not_not, ne_eq] at hc3
      obtain ⟨q1, q2⟩ := rd_err hc3
      rw [q2] at hqn
      refine WC_sr fun K12 hK12 => ?_
      refine WL_rd (Rd_move rfl) rfl rfl rfl ?_
      refine WL_rd (Rd_isT (Rd_eqlU (b := 0#8) rfl rfl)) rfl rfl rfl ?_
      refine WL_rd (Rd_move rfl) rfl rfl rfl ?_
      refine WL_rd (Rd_move rfl) rfl rfl rfl ?_
      refine WL_rd (Rd_len rfl rfl ud27) rfl rfl rfl ?_
      refine WL_rd (Rd_isT (Rd_eqlN (j := 0) rfl rfl)) rfl rfl rfl ?_
      refine WL_rd (Rd_pickT rfl rfl) rfl rfl rfl ?_
      refine WL_rd (Rd_assign rfl) rfl rfl rfl ?_
      refine WL_end hK12 ?_
      refine WC_ret ?_
      exact hret.go () (Rs1 rfl rfl)
    · try simp only [decide_eq_true_eq, decide_eq_false_iff_not, Bool.not_eq_true', Bool.not_eq_false', Bool.not_eq_true, Bool.not_eq_false, Int.not_lt, Int.not_le, Nat.not_lt, Nat.not_le, Decidable.not_not, ne_eq] at hc3
      obtain ⟨hw1, hw2⟩ := rd_wrote hc3
      obtain ⟨hl1, hl2⟩ := rd_lens hc3
      have hPq : ∀ p ∈ q.ps.map ptB, RdP [sep [star (FPB 5) q.ps, arr q.a q.cap 1 32 ePB q.ps]] p := fun p h => (Rd_ptB (T := 5) hqb p h).pk (by repeat (first | with_reducible exact Has.here | with_reducible refine Has.there ?_))
      refine WC_pk0 ?_
      refine WC_pull (arr q.a q.cap 1 32 ePB q.ps) ?_
      refine WC_pull (star (FPB 5) q.ps) ?_
      refine WC_skip ?_
      refine Ps_next hK10 ?_
      refine WC_sr fun K13 hK13 => ?_
      refine WL_rd (Rd_move rfl) rfl rfl rfl ?_
      refine WL_rd (Rd_move rfl) rfl rfl rfl ?_
      refine WL_ac (Ac_call cf49 rfl (hs := bytes_ct (X := sep [star (FPB 5) q.ps, arr q.a q.cap 1 32 ePB q.ps]) (t := (rdM b).1) (ps := q.ps.map ptB) (hS := qS.pk (by repeat (first | with_reducible exact Has.here | with_reducible refine Has.there ?_))) (hP := hPq) (hn := by rw [joinP_flat, qm, hql]; omega) (hk := by rw [List.length_map]; omega))) rfl rfl rfl ?_
      rintro _ _ ⟨⟨a72, cap72⟩, rfl, hA⟩
      simp only [List.cons_append, List.nil_append] at hA
      replace hA := hA.symm
      subst hA
      rw [qm, hql, hw2]
      refine WL_fact (fun w h => arr_facts (a := a72) (cap := cap72) (e := 1) (T := 5) (f := eU .u8 (w := 8)) (l := b) (by repeat (first | with_reducible exact Has.here | with_reducible refine Has.there ?_)) h) (fun hSaf => ?_)
      have hSa : Sv [arr a72 cap72 1 5 (eU .u8) b] (sl a72 b.length cap72) 1 (eU .u8 (w := 8)) b (a72.map fun g => ⟨g, 0, none⟩) cap72 := Sv_own' (encU .u8 (w := 8)) hSaf.1 hSaf.2
      refine WL_pk0 ?_
      refine WL_pull (X) ?_
      refine WL_pull (arr a72 cap72 1 5 (eU .u8) b) ?_
      refine WL_rd (Rd_move rfl) rfl rfl rfl ?_
      refine WL_rd (Rd_ext0 rfl) rfl rfl rfl ?_
      refine WL_rd (Rd_ext1 rfl) rfl rfl rfl ?_
      refine WL_rd (Rd_assign rfl) rfl rfl rfl ?_
      refine WL_rd (Rd_assign rfl) rfl rfl rfl ?_
      refine WL_end hK13 ?_
      refine WC_sr fun K14 hK14 => ?_
      refine WL_rd (Rd_move rfl) rfl rfl rfl ?_
      refine WL_rd (Rd_isT (Rd_eqlN (j := 0) rfl rfl)) rfl rfl rfl ?_
      refine WL_rd (Rd_move rfl) rfl rfl rfl ?_
      refine WL_rd (Rd_move rfl) rfl rfl rfl ?_
      refine WL_rd (Rd_move rfl) rfl rfl rfl ?_
      refine WL_ac (Ac_call cf50 rfl (hs := same_ct (X := sep [arr a72 cap72 1 5 (eU .u8) b, X]) (l := b) (l' := b) (hS := hSa.pk (by repeat (first | with_reducible exact Has.here | with_reducible refine Has.there ?_))) (hS' := hB.pk (by repeat (first | with_reducible exact Has.here | with_reducible refine Has.there ?_))))) rfl rfl rfl ?_
      rintro _ _ ⟨⟨⟩, rfl, hA⟩
      simp only [List.cons_append, List.nil_append] at hA
      replace hA := hA.symm
      subst hA
      rw [decide_eq_true rfl]
      refine WL_unpk [arr a72 cap72 1 5 (eU .u8) b, X] ?_
      simp only [List.cons_append, List.nil_append]
      refine WL_rd (Rd_pickT rfl rfl) rfl rfl rfl ?_
      refine WL_rd (Rd_assign rfl) rfl rfl rfl ?_
      refine WL_end hK14 ?_
      refine WC_ret ?_
      exact hret.go () (Rs1 rfl rfl)
  · try simp only [decide_eq_true_eq, decide_eq_false_iff_not, Bool.not_eq_true', Bool.not_eq_false', Bool.not_eq_true, Bool.not_eq_false, Int.not_lt, Int.not_le, Nat.not_lt, Nat.not_le, Decidable.not_not, ne_eq] at hc1
    refine WC_skip ?_
    refine Ps_next hK5 ?_
    refine WC_sr fun K15 hK15 => ?_
    refine WL_rd (Rd_move rfl) rfl rfl rfl ?_
    refine WL_ac (Ac_call cf60 rfl (hs := read_ct (X := X) (l := b) (hS := hB))) rfl rfl rfl ?_
    rintro _ _ ⟨⟨q, hql, hqb⟩, rfl, hA⟩
    simp only [List.cons_append, List.nil_append] at hA
    replace hA := hA.symm
    subst hA
    dsimp only
    refine WL_fact (fun w h => arr_facts (a := q.a) (cap := q.cap) (e := 1) (T := 32) (f := ePB) (l := q.ps) (by repeat (first | with_reducible exact Has.here | with_reducible refine Has.there ?_)) h) (fun qf => ?_)
    have qS : Sv [arr q.a q.cap 1 32 ePB q.ps] (sl q.a q.ps.length q.cap) 1 fP (q.ps.map ptB) (q.a.map fun q => ⟨q, 0, none⟩) q.cap := Sv_mapped (Sv_own' encPB qf.1 qf.2) (fun e _ => rfl)
    have qm : (q.ps.map ptB).map (·.l) = q.ps.map (·.l) := by rw [List.map_map]; rfl
    have hqn : q.ps.length = (rdM b).2.1.length := by have := congrArg List.length hql; simpa using this
    refine WL_rd (Rd_move rfl) rfl rfl rfl ?_
    refine WL_rd (Rd_ext0 rfl) rfl rfl rfl ?_
    refine WL_rd (Rd_ext1 rfl) rfl rfl rfl ?_
    refine WL_rd (Rd_ext2 rfl) rfl rfl rfl ?_
    refine WL_rd (Rd_ext3 rfl) rfl rfl rfl ?_
    refine WL_rd (Rd_assign rfl) rfl rfl rfl ?_
    refine WL_rd (Rd_assign rfl) rfl rfl rfl ?_
    refine WL_rd (Rd_assign rfl) rfl rfl rfl ?_
    refine WL_rd (Rd_assign rfl) rfl rfl rfl ?_
    refine WL_end hK15 ?_
    refine WC_seq fun K16 hK16 => ?_
    refine WC_sr fun K17 hK17 => ?_
    refine WL_rd (Rd_move rfl) rfl rfl rfl ?_
    refine WL_rd (Rd_neqN (j := 0) rfl rfl) rfl rfl rfl ?_
    refine WL_end hK17 ?_
    refine WC_cond rfl (fun hc3 => ?_) (fun hc3 => ?_)
    · try simp only [decide_eq_true_eq, decide_eq_false_iff_not, Bool.not_eq_true', Bool.not_eq_false', Bool.not_eq_true, Bool.not_eq_false, Int.not_lt, Int.not_le, Nat.not_lt, Nat.not_le, Decidable.not_not, ne_eq] at hc3
      obtain ⟨q1, q2⟩ := rd_err hc3
      rw [q2] at hqn
      refine WC_sr fun K18 hK18 => ?_
      refine WL_rd (Rd_move rfl) rfl rfl rfl ?_
      refine WL_rd (Rd_isT (Rd_eqlU (b := 0#8) rfl rfl)) rfl rfl rfl ?_
      refine WL_rd (Rd_move rfl) rfl rfl rfl ?_
      refine WL_rd (Rd_move rfl) rfl rfl rfl ?_
      refine WL_rd (Rd_len rfl rfl ud27) rfl rfl rfl ?_
      refine WL_rd (Rd_isT (Rd_eqlN (j := 0) rfl rfl)) rfl rfl rfl ?_
      refine WL_rd (Rd_pickT rfl rfl) rfl rfl rfl ?_
      refine WL_rd (Rd_assign rfl) rfl rfl rfl ?_
      refine WL_end hK18 ?_
      refine WC_ret ?_
      exact hret.go () (Rs1 rfl rfl)
    · try simp only [decide_eq_true_eq, decide_eq_false_iff_not, Bool.not_eq_true', Bool.not_eq_false', Bool.not_eq_true, Bool.not_eq_false, Int.not_lt, Int.not_le, Nat.not_lt, Nat.not_le, Decidable.not_not, ne_eq] at hc3
      obtain ⟨hw1, hw2⟩ := rd_wrote hc3
      obtain ⟨hl1, hl2⟩ := rd_lens hc3
      have hPq : ∀ p ∈ q.ps.map ptB, RdP [sep [star (FPB 5) q.ps, arr q.a q.cap 1 32 ePB q.ps]] p := fun p h => (Rd_ptB (T := 5) hqb p h).pk (by repeat (first | with_reducible exact Has.here | with_reducible refine Has.there ?_))
      refine WC_pk0 ?_
      refine WC_pull (arr q.a q.cap 1 32 ePB q.ps) ?_
      refine WC_pull (star (FPB 5) q.ps) ?_
      refine WC_skip ?_
      refine Ps_next hK16 ?_
      refine WC_sr fun K19 hK19 => ?_
      refine WL_rd (Rd_move rfl) rfl rfl rfl ?_
      refine WL_rd (Rd_move rfl) rfl rfl rfl ?_
      refine WL_ac (Ac_call cf49 rfl (hs := bytes_ct (X := sep [star (FPB 5) q.ps, arr q.a q.cap 1 32 ePB q.ps]) (t := (rdM b).1) (ps := q.ps.map ptB) (hS := qS.pk (by repeat (first | with_reducible exact Has.here | with_reducible refine Has.there ?_))) (hP := hPq) (hn := by rw [joinP_flat, qm, hql]; omega) (hk := by rw [List.length_map]; omega))) rfl rfl rfl ?_
      rintro _ _ ⟨⟨a72, cap72⟩, rfl, hA⟩
      simp only [List.cons_append, List.nil_append] at hA
      replace hA := hA.symm
      subst hA
      rw [qm, hql, hw2]
      refine WL_fact (fun w h => arr_facts (a := a72) (cap := cap72) (e := 1) (T := 5) (f := eU .u8 (w := 8)) (l := b) (by repeat (first | with_reducible exact Has.here | with_reducible refine Has.there ?_)) h) (fun hSaf => ?_)
      have hSa : Sv [arr a72 cap72 1 5 (eU .u8) b] (sl a72 b.length cap72) 1 (eU .u8 (w := 8)) b (a72.map fun g => ⟨g, 0, none⟩) cap72 := Sv_own' (encU .u8 (w := 8)) hSaf.1 hSaf.2
      refine WL_pk0 ?_
      refine WL_pull (X) ?_
      refine WL_pull (arr a72 cap72 1 5 (eU .u8) b) ?_
      refine WL_rd (Rd_move rfl) rfl rfl rfl ?_
      refine WL_rd (Rd_ext0 rfl) rfl rfl rfl ?_
      refine WL_rd (Rd_ext1 rfl) rfl rfl rfl ?_
      refine WL_rd (Rd_assign rfl) rfl rfl rfl ?_
      refine WL_rd (Rd_assign rfl) rfl rfl rfl ?_
      refine WL_end hK19 ?_
      refine WC_sr fun K20 hK20 => ?_
      refine WL_rd (Rd_move rfl) rfl rfl rfl ?_
      refine WL_rd (Rd_isT (Rd_eqlN (j := 0) rfl rfl)) rfl rfl rfl ?_
      refine WL_rd (Rd_move rfl) rfl rfl rfl ?_
      refine WL_rd (Rd_move rfl) rfl rfl rfl ?_
      refine WL_rd (Rd_move rfl) rfl rfl rfl ?_
      refine WL_ac (Ac_call cf50 rfl (hs := same_ct (X := sep [arr a72 cap72 1 5 (eU .u8) b, X]) (l := b) (l' := b) (hS := hSa.pk (by repeat (first | with_reducible exact Has.here | with_reducible refine Has.there ?_))) (hS' := hB.pk (by repeat (first | with_reducible exact Has.here | with_reducible refine Has.there ?_))))) rfl rfl rfl ?_
      rintro _ _ ⟨⟨⟩, rfl, hA⟩
      simp only [List.cons_append, List.nil_append] at hA
      replace hA := hA.symm
      subst hA
      rw [decide_eq_true rfl]
      refine WL_unpk [arr a72 cap72 1 5 (eU .u8) b, X] ?_
      simp only [List.cons_append, List.nil_append]
      refine WL_rd (Rd_pickT rfl rfl) rfl rfl rfl ?_
      refine WL_rd (Rd_assign rfl) rfl rfl rfl ?_
      refine WL_end hK20 ?_
      refine WC_ret ?_
      exact hret.go () (Rs1 rfl rfl)
end Go.Proofs.Ythkchjcodibaeaa
