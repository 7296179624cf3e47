/-
  Contracts of functions that the claim reaches, or the logic and the plain laws that they rest on, or the row over them. (Conditions: none beyond the statement.)
-/
import Derived.Test.YtlcafifjhilleaaTkJ
import Derived.Test.YtlcafifjhilleaaTkK
import Derived.Test.YtlcafifjhilleaaTkF
import Derived.Test.YtlcafifjhilleaaTgBk
set_option linter.all false
namespace Go.Proofs.Ytlcafifjhilleaa
open Go.RowKit Go.SL Go.ShM
set_option maxHeartbeats 1000000
set_option maxRecDepth 20000
set_option linter.all false
theorem cf5 : cfn Try.prog 5 = true := by kernel_rfl
theorem cf7 : cfn Try.prog 7 = true := by kernel_rfl
theorem cf24 : cfn Try.prog 24 = true := by kernel_rfl
theorem cf27 : cfn Try.prog 27 = true := by kernel_rfl
theorem cf28 : cfn Try.prog 28 = true := by kernel_rfl
theorem cf32 : cfn Try.prog 32 = true := by kernel_rfl
theorem cf33 : cfn Try.prog 33 = true := by kernel_rfl
theorem cf35 : cfn Try.prog 35 = true := by kernel_rfl
theorem fo37_0 : fo Try.prog 37 0 = some (0, 22) := by kernel_rfl
theorem fo37_1 : fo Try.prog 37 1 = some (1, 22) := by kernel_rfl
theorem fo37_2 : fo Try.prog 37 2 = some (2, 35) := by kernel_rfl
theorem fo37_3 : fo Try.prog 37 3 = some (3, 35) := by kernel_rfl
theorem fo46_0 : fo Try.prog 46 0 = some (0, 3) := by kernel_rfl
theorem fo46_1 : fo Try.prog 46 1 = some (1, 5) := by kernel_rfl
theorem sz35 : sz Try.prog 35 = some 1 := by kernel_rfl
theorem tk28 : tk Try.prog 28 = some none := by kernel_rfl
theorem tk35 : tk Try.prog 35 = some none := by kernel_rfl
theorem tk46 : tk Try.prog 46 = some (some 88) := by kernel_rfl
def eML (m : RL) : List Value := [mgV m.a m.cap m.ps]
theorem encML : Enc eML 1 := ⟨fun _ => rfl, fun x v hv => by
  unfold eML at hv
  rw [List.mem_singleton] at hv
  subst hv
  cases hq : x.ps <;> rfl⟩
def FML (m : RL) : Asn := sep [star (FPB 5) m.ps, (FRL 23) m]
theorem Sv_ML {m : RL} (hm : RLk m) : ∃ (ao : Option Addr) (cap : Nat), Sv [FML m] (mgV m.a m.cap m.ps) 1 fP ((m.ps.drop 1).map ptB) ao cap := by
  cases hq : m.ps with
  | nil => exact ⟨none, 0, Sv_nil _⟩
  | cons x r =>
    have h := Sv_drop1 (T := 23) hm (by rw [hq]; simp)
    have e1 : m.ps.length - 1 = r.length := by rw [hq]; simp
    have e2 : m.ps.drop 1 = r := by rw [hq]; rfl
    rw [e1, e2] at h
    exact ⟨_, _, (Sv_mapped h (fun e _ => rfl)).pk (.there .here)⟩
theorem Rd_ML {m : RL} (hm : RLk m) : ∀ p ∈ (m.ps.drop 1).map ptB, RdP [FML m] p := fun p hp => by
  obtain ⟨q, hq, rfl⟩ := List.mem_map.1 hp
  exact (Rd_ptB (T := 5) hm.2.2 (ptB q) (List.mem_map.2 ⟨q, List.mem_of_mem_drop hq, rfl⟩)).pk .here

theorem overL2_ct {la ea : Option Nat} {lc ec n : Nat} {es sp : List LE} (hel : es.length = n) (hsp : sp.length = 70) (hb : ∀ e ∈ es, e.L.length ≤ 900000000000) (hn : n ≤ 900000000 := by omega) : Ct Try.prog 28 [.agg [sl la n lc, sl la (n + 70) lc, sl ea n ec].toArray] [star (FL 5) (es ++ sp), arr la lc 1 23 eLn (es ++ sp), arr ea ec 1 23 eEn es] (fun _ : Unit => .tuple #[]) (fun _ => []) := by
  subst hel
  exact overL_ct (hsp := hsp) (hb := hb) (hn := hn)
theorem mgV_cells (a : Option Nat) (c : Nat) (ps : List PB) : (mgV a c ps).cells = #[mgV a c ps] := by cases ps <;> rfl

theorem LG_bnd {ps : List Pt} {g : LG} (h : LGok ps g) (hb : ∀ p ∈ ps, p.l.length ≤ 800000000000) : ∀ e ∈ g.es, e.L.length ≤ 900000000000 := fun e he => by
  obtain ⟨i, hi, rfl⟩ := List.getElem_of_mem he
  have hl := (LG_len h).1
  obtain ⟨p, hp⟩ : ∃ p, ps[i]? = some p := ⟨_, List.getElem?_eq_getElem (by omega)⟩
  have h2 := LG_es h (List.getElem?_eq_getElem hi) hp
  rw [h2.1, lentB_len]
  have := hb p (List.mem_of_getElem? hp)
  omega

theorem ask_ct {W : World} {q : KQ} {n z bk : Nat} {ps ws : List PB} {os ms : List RL} {pa wa oa ma : Option Nat} {pc wc oc mc : Nat} (hq : OKk W 1048576 q := by assumption) (hg0 : BKok n z ⟨ps, pa, pc, ws, wa, wc, os, oa, oc, ms, ma, mc⟩ := by assumption) (hn : n ≤ 90000000 := by omega) (hz : z ≤ 90000000 := by omega) : Ct Try.prog 10 [.pointer (some ⟨bk, 0, none⟩), .agg (eKQ q).toArray] [cl bk 37 [sl pa ps.length pc, sl wa ws.length wc, sl oa os.length oc, sl ma ms.length mc], star (FPB 5) ps, arr pa pc 1 23 ePB ps, star (FPB 5) ws, arr wa wc 1 23 ePB ws, star (FPB 5) (allP os), star (FRL 23) os, arr oa oc 1 22 eRL os, star FML ms, arr ma mc 1 22 eML ms, old W] (fun g : {g : BK // BKok (n + 1) (z + q.d.l.length) g} => .bool true) (fun g => [cl bk 37 [sl g.val.pa g.val.ps.length g.val.pc, sl g.val.wa g.val.ws.length g.val.wc, sl g.val.oa g.val.os.length g.val.oc, sl g.val.ma g.val.ms.length g.val.mc], star (FPB 5) g.val.ps, arr g.val.pa g.val.pc 1 23 ePB g.val.ps, star (FPB 5) g.val.ws, arr g.val.wa g.val.wc 1 23 ePB g.val.ws, star (FPB 5) (allP g.val.os), star (FRL 23) g.val.os, arr g.val.oa g.val.oc 1 22 eRL g.val.os, star FML g.val.ms, arr g.val.ma g.val.mc 1 22 eML g.val.ms, old W]) := by
  refine Ct_body (n := 181) Try.func10 rfl rfl rfl fun F w0 Q hret hnorm hp => ?_
  change WC _ _ _ _ _ _ _ (_ :: _ :: _ :: _ :: _ :: _ :: _ :: _ :: _ :: _ :: _ :: F)
  have hqx := hq
  obtain ⟨hqS, hqP, hqj, hqn, hqd, hdl⟩ := hq
  have hqdS : Sv [old W] q.d.v 1 (eU .u8 (w := 8)) q.d.l q.d.ao q.d.cap := hqd
  have hlb := lentB_len q.d.l
  have htl := tagB_len q.tag (q.p.l.map (·.l))
  rw [← joinP_flat, List.length_map] at htl
  have htd := tagD_len q.tag (q.p.l.map (·.l))
  have hTBl : (tagB q.tag (q.p.l.map (·.l))).length ≤ 900000000000 := by omega
  have hb8 : ∀ p ∈ q.p.l, p.l.length ≤ 800000000000 := fun p h => by have := join_mem h; omega
  have hpn := hg0.pn
  have hon := hg0.on
  have hol := hg0.ol
  have hlen := hg0.len
  dsimp only at hpn hon hol hlen
  refine WC_sr fun K1 hK1 => ?_
  refine WL_ac (Ac_box (xs := eKQ q) rfl rfl) rfl rfl rfl ?_
  rintro _ _ ⟨b3, rfl, rfl⟩
  refine WL_rd (Rd_assign rfl) rfl rfl rfl ?_
  refine WL_end hK1 ?_
  refine WC_sr fun K2 hK2 => ?_
  refine WL_rd (Rd_fieldAddr rfl fo46_1) rfl rfl rfl ?_
  refine WL_rd (Rd_load rfl tk28 (v := .int .u8 ((q.tag.toNat : Nat) : Int)) (hi := eKQ_tag q)) rfl rfl rfl ?_
  refine WL_rd (Rd_assign rfl) rfl rfl rfl ?_
  refine WL_end hK2 ?_
  refine WC_seq fun K3 hK3 => ?_
  refine WC_sr fun K4 hK4 => ?_
  refine WL_rd (Rd_fieldAddr rfl fo46_0) rfl rfl rfl ?_
  refine WL_rd (Rd_load rfl tk3 (v := .int .i64 q.call) (hi := eKQ_call q)) rfl rfl rfl ?_
  refine WL_end hK4 ?_
  refine WC_block ?_
  refine WC_seq fun K5 hK5 => ?_
  refine WC_sr fun K6 hK6 => ?_
  refine WL_rd (Rd_eql rfl rfl) rfl rfl rfl ?_
  refine WL_rd (Rd_assign rfl) rfl rfl rfl ?_
  refine WL_end hK6 ?_
  refine WC_cond rfl (fun hc0 => ?_) (fun hc0 => ?_)
  · try simp only [decide_eq_true_eq, decide_eq_false_iff_not, Bool.not_eq_true', Bool.not_eq_false', Bool.not_eq_true, Bool.not_eq_false, Int.not_lt, Int.not_le, Nat.not_lt, Nat.not_le, Decidable.not_not, ne_eq] at hc0
    rw [show decide (q.call = 0) = true from decide_eq_true hc0]
    refine WC_skip ?_
    refine Ps_next hK5 ?_
    refine WC_condT rfl ?_
    refine WC_sr fun K7 hK7 => ?_
    refine WL_rd (Rd_fieldAddr rfl fo46_2) rfl rfl rfl ?_
    refine WL_rd (Rd_load rfl tk22 (v := q.p.v) (hi := eKQ_p q)) rfl rfl rfl ?_
    refine WL_ac (Ac_call cf24 rfl (hs := lentL_ct (X := old W) (ps := q.p.l) (hS := hqS) (hP := hqP))) rfl rfl rfl ?_
    rintro _ _ ⟨⟨g, hg⟩, rfl, hA⟩
    simp only [List.cons_append, List.nil_append] at hA
    replace hA := hA.symm
    subst hA
    obtain ⟨hel, hsl⟩ := LG_len hg
    dsimp only
    refine WL_fact (fun w h => arr_facts (a := g.la) (cap := g.lc) (e := 1) (T := 23) (f := eLn) (l := (g.es ++ g.sp)) (by repeat (first | with_reducible exact Has.here | with_reducible refine Has.there ?_)) h) (fun hla => ?_)
    refine WL_fact (fun w h => arr_facts (a := g.ea) (cap := g.ec) (e := 1) (T := 23) (f := eEn) (l := g.es) (by repeat (first | with_reducible exact Has.here | with_reducible refine Has.there ?_)) h) (fun hea => ?_)
    have hal := LG_all hg
    have hlc9 := hla.2
    have hL := SvL (T := 23) hg hla
    have hLt := SvLt (T := 23) hg hla
    have hF := SvF (T := 23) hg hla
    have hG := SvG (T := 23) hg hea
    have hLP : ∀ p ∈ g.es.map ptE, RdP [sep [star (FL 5) (g.es ++ g.sp), arr g.la g.lc 1 23 eLn (g.es ++ g.sp), arr g.ea g.ec 1 23 eEn g.es, old W]] p := fun p h => (Rd_subE (T := 5) (LG_ok hg) p h).pk (by repeat (first | with_reducible exact Has.here | with_reducible refine Has.there ?_))
    have hFP : ∀ p ∈ (g.es ++ g.sp).map ptE, RdP [sep [star (FL 5) (g.es ++ g.sp), arr g.la g.lc 1 23 eLn (g.es ++ g.sp), arr g.ea g.ec 1 23 eEn g.es, old W]] p := fun p h => (Rd_allE (T := 5) (LG_ok hg) p h).pk (by repeat (first | with_reducible exact Has.here | with_reducible refine Has.there ?_))
    have hGP : ∀ p ∈ g.es.map ptF, RdP [sep [star (FL 5) (g.es ++ g.sp), arr g.la g.lc 1 23 eLn (g.es ++ g.sp), arr g.ea g.ec 1 23 eEn g.es, old W]] p := fun p h => (Rd_allF (T := 5) (LG_ok hg) p h).pk (by repeat (first | with_reducible exact Has.here | with_reducible refine Has.there ?_))
    have hPX : ∀ p ∈ q.p.l, RdP [sep [star (FL 5) (g.es ++ g.sp), arr g.la g.lc 1 23 eLn (g.es ++ g.sp), arr g.ea g.ec 1 23 eEn g.es, old W]] p := fun p h => (hqP p h).pk (by repeat (first | with_reducible exact Has.here | with_reducible refine Has.there ?_))
    have hKK := LG_kok hg
    have hje := LG_join hg
    have hel1 : (g.es.map ptE).length = q.p.l.length := by rw [List.length_map]; exact hel
    have hmm : (g.es.map ptE).map (·.l) = q.p.l.map (·.l) := by rw [← LG_take hg]; exact hKK.hd
    have hbE : ∀ e ∈ g.es, e.L.length ≤ 900000000000 := LG_bnd hg hb8
    refine WL_ac (Ac_alloc zr64) rfl rfl rfl ?_
    rintro _ _ ⟨b6, rfl, rfl⟩
    refine WL_ac0 (Ac_store (ys := [sl g.la q.p.l.length g.lc, sl g.la (q.p.l.length + 70) g.lc, sl g.ea q.p.l.length g.ec]) rfl rfl sz64 (h1 := by simp [Value.cells, Value.oneCell', sl]) (hr := rfl)) rfl rfl ?_
    rintro _ _ rfl
    refine WL_end hK7 ?_
    refine WC_sr fun K8 hK8 => ?_
    refine WL_rd (Rd_move rfl) rfl rfl rfl ?_
    refine WL_rd (Rd_fieldAddr rfl fo46_2) rfl rfl rfl ?_
    refine WL_rd (Rd_load rfl tk22 (v := q.p.v) (hi := eKQ_p q)) rfl rfl rfl ?_
    refine WL_ac (Ac_call cf25 rfl (hs := bytesR_ct (X := old W) (t := q.tag) (ps := q.p.l) (hS := hqS) (hP := hqP))) rfl rfl rfl ?_
    rintro _ _ ⟨⟨a39, cap39⟩, rfl, hA⟩
    simp only [List.cons_append, List.nil_append] at hA
    replace hA := hA.symm
    subst hA
    refine WL_fact (fun w h => arr_facts (a := a39) (cap := cap39) (e := 1) (T := 5) (f := (eU .u8 (w := 8))) (l := (tagB q.tag (q.p.l.map (·.l)))) (by repeat (first | with_reducible exact Has.here | with_reducible refine Has.there ?_)) h) (fun h39 => ?_)
    have hW39 : Sv [arr a39 cap39 1 5 (eU .u8) (tagB q.tag (q.p.l.map (·.l)))] (sl a39 (tagB q.tag (q.p.l.map (·.l))).length cap39) 1 (eU .u8 (w := 8)) (tagB q.tag (q.p.l.map (·.l))) (a39.map fun g => ⟨g, 0, none⟩) cap39 := Sv_own' (T := 5) (encU .u8 (w := 8)) h39.1 h39.2
    refine WL_rd (Rd_move rfl) rfl rfl rfl ?_
    refine WL_rd (Rd_ext0 rfl) rfl rfl rfl ?_
    refine WL_rd (Rd_ext1 rfl) rfl rfl rfl ?_
    refine WL_rd (Rd_assign rfl) rfl rfl rfl ?_
    refine WL_rd (Rd_assign rfl) rfl rfl rfl ?_
    refine WL_end hK8 ?_
    refine WC_sr fun K9 hK9 => ?_
    refine WL_ac (Ac_allocW (k := .u8) (w := 8) (m := 32) zr43) rfl rfl rfl ?_
    rintro _ _ ⟨b9, rfl, rfl⟩
    refine WL_end hK9 ?_
    refine WC_sr fun K10 hK10 => ?_
    refine WL_rd (Rd_move rfl) rfl rfl rfl ?_
    refine WL_rd (Rd_fieldAddr rfl fo64_0) rfl rfl rfl ?_
    refine WL_rd (Rd_load rfl tk22 (v := sl g.la q.p.l.length g.lc)) rfl rfl rfl ?_
    refine WL_ac (Ac_call cf26 rfl (hs := Ct.un0 (Xs := [star (FL 5) (g.es ++ g.sp), arr g.la g.lc 1 23 eLn (g.es ++ g.sp), arr g.ea g.ec 1 23 eEn g.es, old W]) (digest_ct (X := sep [star (FL 5) (g.es ++ g.sp), arr g.la g.lc 1 23 eLn (g.es ++ g.sp), arr g.ea g.ec 1 23 eEn g.es, old W]) (t := q.tag) (ps := g.es.map ptE) (hS := hL.pk (by repeat (first | with_reducible exact Has.here | with_reducible refine Has.there ?_))) (hP := hLP) (hn := by rw [hje]; omega) (hk := by rw [hel1]; omega)))) rfl rfl rfl ?_
    rintro _ _ ⟨⟨⟩, rfl, hA⟩
    simp only [List.cons_append, List.nil_append] at hA
    replace hA := hA.symm
    subst hA
    rw [hmm]
    refine WL_rd (Rd_move rfl) rfl rfl rfl ?_
    refine WL_rd (Rd_ext0 rfl) rfl rfl rfl ?_
    refine WL_rd (Rd_ext1 rfl) rfl rfl rfl ?_
    refine WL_ac (Ac_allocW (k := .u8) (w := 8) (m := 32) zr43) rfl rfl rfl ?_
    rintro _ _ ⟨b10, rfl, rfl⟩
    refine WL_ac0 (Ac_storeW rfl rfl sz43) rfl rfl ?_
    rintro _ _ rfl
    refine WL_rd (Rd_assign rfl) rfl rfl rfl ?_
    refine WL_end hK10 ?_
    refine WC_sr fun K11 hK11 => ?_
    refine WL_rd (Rd_move rfl) rfl rfl rfl ?_
    refine WL_rd (Rd_fieldAddr rfl fo64_0) rfl rfl rfl ?_
    refine WL_rd (Rd_load rfl tk22 (v := sl g.la q.p.l.length g.lc)) rfl rfl rfl ?_
    refine WL_ac (Ac_call cf6 rfl (hs := Ct.un0 (Xs := [star (FL 5) (g.es ++ g.sp), arr g.la g.lc 1 23 eLn (g.es ++ g.sp), arr g.ea g.ec 1 23 eEn g.es, old W]) (bytes_ct (X := sep [star (FL 5) (g.es ++ g.sp), arr g.la g.lc 1 23 eLn (g.es ++ g.sp), arr g.ea g.ec 1 23 eEn g.es, old W]) (t := q.tag) (ps := g.es.map ptE) (hS := hL.pk (by repeat (first | with_reducible exact Has.here | with_reducible refine Has.there ?_))) (hP := hLP) (hn := by rw [hje]; omega) (hk := by rw [hel1]; omega)))) rfl rfl rfl ?_
    rintro _ _ ⟨⟨a53, cap53⟩, rfl, hA⟩
    simp only [List.cons_append, List.nil_append] at hA
    replace hA := hA.symm
    subst hA
    rw [hmm]
    refine WL_fact (fun w h => arr_facts (a := a53) (cap := cap53) (e := 1) (T := 5) (f := (eU .u8 (w := 8))) (l := (tagB q.tag (q.p.l.map (·.l)))) (by repeat (first | with_reducible exact Has.here | with_reducible refine Has.there ?_)) h) (fun h53 => ?_)
    refine WL_rd (Rd_move rfl) rfl rfl rfl ?_
    refine WL_rd (Rd_ext0 rfl) rfl rfl rfl ?_
    refine WL_rd (Rd_ext1 rfl) rfl rfl rfl ?_
    refine WL_rd (Rd_assign rfl) rfl rfl rfl ?_
    refine WL_rd (Rd_assign rfl) rfl rfl rfl ?_
    refine WL_end hK11 ?_
    refine WC_seq fun K12 hK12 => ?_
    refine WC_sr fun K13 hK13 => ?_
    refine WL_rd (Rd_move rfl) rfl rfl rfl ?_
    refine WL_rd (Rd_eqlN (j := 0) rfl rfl) rfl rfl rfl ?_
    refine WL_end hK13 ?_
    refine WC_cond rfl (fun hc2 => ?_) (fun hc2 => ?_)
    · try simp only [decide_eq_true_eq, decide_eq_false_iff_not, Bool.not_eq_true', Bool.not_eq_false', Bool.not_eq_true, Bool.not_eq_false, Int.not_lt, Int.not_le, Nat.not_lt, Nat.not_le, Decidable.not_not, ne_eq] at hc2
      refine WC_region ?_
      refine WL_rd (Rd_move rfl) rfl rfl rfl ?_
      refine WL_ac (Ac_call cf14 rfl (hs := sumR_ct (X := arr a39 cap39 1 5 (eU .u8) (tagB q.tag (q.p.l.map (·.l)))) (l := (tagB q.tag (q.p.l.map (·.l)))) (hS := hW39))) rfl rfl rfl ?_
      rintro _ _ ⟨⟨⟩, rfl, hA⟩
      simp only [List.cons_append, List.nil_append] at hA
      replace hA := hA.symm
      subst hA
      rw [← tagD_ok hc2]
      refine WL_ac0 (Ac_storeW rfl rfl sz43) rfl rfl ?_
      rintro _ _ rfl
      refine WL_nil ?_
      refine Ps_next hK12 ?_
      refine WC_sr fun K14 hK14 => ?_
      refine WL_rd (Rd_move rfl) rfl rfl rfl ?_
      refine WL_rd (Rd_move rfl) rfl rfl rfl ?_
      refine WL_rd (Rd_nilCheck rfl) rfl rfl rfl ?_
      refine WL_rd (Rd_fieldAddr rfl fo37_0) rfl rfl rfl ?_
      refine WL_rd (Rd_load rfl tk22 (v := sl pa ps.length pc)) rfl rfl rfl ?_
      refine WL_rd (Rd_move rfl) rfl rfl rfl ?_
      refine WL_ac (Ac_bs1 (xs := [sl a53 (tagB q.tag (q.p.l.map (·.l))).length cap53]) rfl ud22 zr23 sz23) rfl rfl rfl ?_
      rintro _ _ ⟨b66, rfl, rfl⟩
      refine WL_ac (Ac_append1 (f := ePB) encPB (⟨a53, cap53, (tagB q.tag (q.p.l.map (·.l)))⟩ : PB) rfl rfl ud22 ud22 el23) rfl rfl rfl ?_
      rintro _ _ ⟨a67, cap67, rfl, rfl⟩
      refine WL_rd (Rd_nilCheck rfl) rfl rfl rfl ?_
      refine WL_rd (Rd_fieldAddr rfl fo37_0) rfl rfl rfl ?_
      refine WL_ac0 (Ac_store1 rfl rfl sz22) rfl rfl ?_
      rintro _ _ rfl
      refine WL_end hK14 ?_
      refine WC_sr fun K15 hK15 => ?_
      refine WL_rd (Rd_move rfl) rfl rfl rfl ?_
      refine WL_rd (Rd_move rfl) rfl rfl rfl ?_
      refine WL_rd (Rd_nilCheck rfl) rfl rfl rfl ?_
      refine WL_rd (Rd_fieldAddr rfl fo37_1) rfl rfl rfl ?_
      refine WL_rd (Rd_load rfl tk22 (v := sl wa ws.length wc)) rfl rfl rfl ?_
      refine WL_rd (Rd_move rfl) rfl rfl rfl ?_
      refine WL_ac (Ac_bs1 (xs := [sl a39 (tagB q.tag (q.p.l.map (·.l))).length cap39]) rfl ud22 zr23 sz23) rfl rfl rfl ?_
      rintro _ _ ⟨b76, rfl, rfl⟩
      refine WL_ac (Ac_append1 (f := ePB) encPB (⟨a39, cap39, (tagB q.tag (q.p.l.map (·.l)))⟩ : PB) rfl rfl ud22 ud22 el23) rfl rfl rfl ?_
      rintro _ _ ⟨a77, cap77, rfl, rfl⟩
      refine WL_rd (Rd_nilCheck rfl) rfl rfl rfl ?_
      refine WL_rd (Rd_fieldAddr rfl fo37_1) rfl rfl rfl ?_
      refine WL_ac0 (Ac_store1 rfl rfl sz22) rfl rfl ?_
      rintro _ _ rfl
      rw [show arr a53 cap53 1 5 (eU .u8) (tagB q.tag (q.p.l.map (·.l))) = (FPB 5) (⟨a53, cap53, (tagB q.tag (q.p.l.map (·.l)))⟩ : PB) from rfl]
      refine WL_snoc (FPB 5) ps (⟨a53, cap53, (tagB q.tag (q.p.l.map (·.l)))⟩ : PB) ?_
      rw [show arr a39 cap39 1 5 (eU .u8) (tagB q.tag (q.p.l.map (·.l))) = (FPB 5) (⟨a39, cap39, (tagB q.tag (q.p.l.map (·.l)))⟩ : PB) from rfl]
      refine WL_snoc (FPB 5) ws (⟨a39, cap39, (tagB q.tag (q.p.l.map (·.l)))⟩ : PB) ?_
      refine WL_end hK15 ?_
      refine WC_sr fun K16 hK16 => ?_
      refine WL_rd (Rd_loadg (vs := [sl g.la q.p.l.length g.lc, sl g.la (q.p.l.length + 70) g.lc, sl g.ea q.p.l.length g.ec]) rfl tk64 (hi := rfl)) rfl rfl rfl ?_
      refine WL_rd (Rd_fieldAddr rfl fo46_2) rfl rfl rfl ?_
      refine WL_rd (Rd_load rfl tk22 (v := q.p.v) (hi := eKQ_p q)) rfl rfl rfl ?_
      refine WL_ac (Ac_call cf27 rfl (hs := Ct.un0 (Xs := [star (FL 5) (g.es ++ g.sp), arr g.la g.lc 1 23 eLn (g.es ++ g.sp), arr g.ea g.ec 1 23 eEn g.es, old W]) (keptL_ct (X := sep [star (FL 5) (g.es ++ g.sp), arr g.la g.lc 1 23 eLn (g.es ++ g.sp), arr g.ea g.ec 1 23 eEn g.es, old W]) (ps := q.p.l) (fs := (g.es ++ g.sp).map ptE) (gs := g.es.map ptF) (hS := hqS.pk (by repeat (first | with_reducible exact Has.here | with_reducible refine Has.there ?_))) (hP := hPX) (hF := hF.pk (by repeat (first | with_reducible exact Has.here | with_reducible refine Has.there ?_))) (hL := hLt.pk (by repeat (first | with_reducible exact Has.here | with_reducible refine Has.there ?_))) (hG := hG.pk (by repeat (first | with_reducible exact Has.here | with_reducible refine Has.there ?_))) (hFP := hFP) (hGP := hGP) (hK := hKK) (hlc := by omega)))) rfl rfl rfl ?_
      rintro _ _ ⟨⟨⟩, rfl, hA⟩
      simp only [List.cons_append, List.nil_append] at hA
      replace hA := hA.symm
      subst hA
      refine WL_rd (Rd_assign rfl) rfl rfl rfl ?_
      refine WL_end hK16 ?_
      refine WC_sr fun K17 hK17 => ?_
      refine WL_rd (Rd_loadg (vs := [sl g.la q.p.l.length g.lc, sl g.la (q.p.l.length + 70) g.lc, sl g.ea q.p.l.length g.ec]) rfl tk64 (hi := rfl)) rfl rfl rfl ?_
      refine WL_ac (Ac_call cf28 rfl (hs := overL2_ct (la := g.la) (ea := g.ea) (lc := g.lc) (ec := g.ec) (es := g.es) (sp := g.sp) hel hsl hbE)) rfl rfl rfl ?_
      rintro _ _ ⟨⟨⟩, rfl, hA⟩
      simp only [List.cons_append, List.nil_append] at hA
      replace hA := hA.symm
      subst hA
      refine WL_end hK17 ?_
      refine WC_sr fun K18 hK18 => ?_
      refine WL_rd (Rd_move rfl) rfl rfl rfl ?_
      refine WL_rd (Rd_move rfl) rfl rfl rfl ?_
      refine WL_rd (Rd_isT (Rd_eqlN rfl rfl) (by simp)) rfl rfl rfl ?_
      refine WL_rd (Rd_move rfl) rfl rfl rfl ?_
      refine WL_rd (Rd_move rfl) rfl rfl rfl ?_
      refine WL_rd (Rd_move rfl) rfl rfl rfl ?_
      refine WL_rd (Rd_isT (Rd_eqlN rfl rfl) (by simp)) rfl rfl rfl ?_
      refine WL_rd (Rd_pickT rfl rfl) rfl rfl rfl ?_
      refine WL_rd (Rd_move rfl) rfl rfl rfl ?_
      refine WL_rd (Rd_loadW rfl tk43) rfl rfl rfl ?_
      refine WL_rd (Rd_loadW rfl tk43) rfl rfl rfl ?_
      refine WL_rd (Rd_isT (Rd_eqW rfl rfl ais43) (decide_eq_true rfl)) rfl rfl rfl ?_
      refine WL_rd (Rd_pickT rfl rfl) rfl rfl rfl ?_
      refine WL_rd (Rd_move rfl) rfl rfl rfl ?_
      refine WL_rd (Rd_move rfl) rfl rfl rfl ?_
      refine WL_rd (Rd_pickT rfl rfl) rfl rfl rfl ?_
      refine WL_rd (Rd_assign rfl) rfl rfl rfl ?_
      refine WL_end hK18 ?_
      refine WC_ret ?_
      rw [show ps.length + 1 = (ps ++ [(⟨a53, cap53, (tagB q.tag (q.p.l.map (·.l)))⟩ : PB)]).length from by rw [List.length_append]; rfl, show ws.length + 1 = (ws ++ [(⟨a39, cap39, (tagB q.tag (q.p.l.map (·.l)))⟩ : PB)]).length from by rw [List.length_append]; rfl]
      exact hret.go ⟨⟨ps ++ [(⟨a53, cap53, (tagB q.tag (q.p.l.map (·.l)))⟩ : PB)], a67, cap67, ws ++ [(⟨a39, cap39, (tagB q.tag (q.p.l.map (·.l)))⟩ : PB)], a77, cap77, os, oa, oc, ms, ma, mc⟩, BKok_up (BKok_b (x := (⟨a53, cap53, (tagB q.tag (q.p.l.map (·.l)))⟩ : PB)) (y := (⟨a39, cap39, (tagB q.tag (q.p.l.map (·.l)))⟩ : PB)) hg0 rfl h53.1 h53.2 hTBl h39.1 h39.2) (Nat.le_refl _) (Nat.le_add_right _ _)⟩ (Rs1 rfl rfl)
    · try simp only [decide_eq_true_eq, decide_eq_false_iff_not, Bool.not_eq_true', Bool.not_eq_false', Bool.not_eq_true, Bool.not_eq_false, Int.not_lt, Int.not_le, Nat.not_lt, Nat.not_le, Decidable.not_not, ne_eq] at hc2
      refine WC_skip ?_
      refine Ps_next hK12 ?_
      refine WC_sr fun K19 hK19 => ?_
      refine WL_rd (Rd_move rfl) rfl rfl rfl ?_
      refine WL_rd (Rd_move rfl) rfl rfl rfl ?_
      refine WL_rd (Rd_nilCheck rfl) rfl rfl rfl ?_
      refine WL_rd (Rd_fieldAddr rfl fo37_0) rfl rfl rfl ?_
      refine WL_rd (Rd_load rfl tk22 (v := sl pa ps.length pc)) rfl rfl rfl ?_
      refine WL_rd (Rd_move rfl) rfl rfl rfl ?_
      refine WL_ac (Ac_bs1 (xs := [sl a53 (tagB q.tag (q.p.l.map (·.l))).length cap53]) rfl ud22 zr23 sz23) rfl rfl rfl ?_
      rintro _ _ ⟨b66, rfl, rfl⟩
      refine WL_ac (Ac_append1 (f := ePB) encPB (⟨a53, cap53, (tagB q.tag (q.p.l.map (·.l)))⟩ : PB) rfl rfl ud22 ud22 el23) rfl rfl rfl ?_
      rintro _ _ ⟨a67, cap67, rfl, rfl⟩
      refine WL_rd (Rd_nilCheck rfl) rfl rfl rfl ?_
      refine WL_rd (Rd_fieldAddr rfl fo37_0) rfl rfl rfl ?_
      refine WL_ac0 (Ac_store1 rfl rfl sz22) rfl rfl ?_
      rintro _ _ rfl
      refine WL_end hK19 ?_
      refine WC_sr fun K20 hK20 => ?_
      refine WL_rd (Rd_move rfl) rfl rfl rfl ?_
      refine WL_rd (Rd_move rfl) rfl rfl rfl ?_
      refine WL_rd (Rd_nilCheck rfl) rfl rfl rfl ?_
      refine WL_rd (Rd_fieldAddr rfl fo37_1) rfl rfl rfl ?_
      refine WL_rd (Rd_load rfl tk22 (v := sl wa ws.length wc)) rfl rfl rfl ?_
      refine WL_rd (Rd_move rfl) rfl rfl rfl ?_
      refine WL_ac (Ac_bs1 (xs := [sl a39 (tagB q.tag (q.p.l.map (·.l))).length cap39]) rfl ud22 zr23 sz23) rfl rfl rfl ?_
      rintro _ _ ⟨b76, rfl, rfl⟩
      refine WL_ac (Ac_append1 (f := ePB) encPB (⟨a39, cap39, (tagB q.tag (q.p.l.map (·.l)))⟩ : PB) rfl rfl ud22 ud22 el23) rfl rfl rfl ?_
      rintro _ _ ⟨a77, cap77, rfl, rfl⟩
      refine WL_rd (Rd_nilCheck rfl) rfl rfl rfl ?_
      refine WL_rd (Rd_fieldAddr rfl fo37_1) rfl rfl rfl ?_
      refine WL_ac0 (Ac_store1 rfl rfl sz22) rfl rfl ?_
      rintro _ _ rfl
      rw [show arr a53 cap53 1 5 (eU .u8) (tagB q.tag (q.p.l.map (·.l))) = (FPB 5) (⟨a53, cap53, (tagB q.tag (q.p.l.map (·.l)))⟩ : PB) from rfl]
      refine WL_snoc (FPB 5) ps (⟨a53, cap53, (tagB q.tag (q.p.l.map (·.l)))⟩ : PB) ?_
      rw [show arr a39 cap39 1 5 (eU .u8) (tagB q.tag (q.p.l.map (·.l))) = (FPB 5) (⟨a39, cap39, (tagB q.tag (q.p.l.map (·.l)))⟩ : PB) from rfl]
      refine WL_snoc (FPB 5) ws (⟨a39, cap39, (tagB q.tag (q.p.l.map (·.l)))⟩ : PB) ?_
      refine WL_end hK20 ?_
      refine WC_sr fun K21 hK21 => ?_
      refine WL_rd (Rd_loadg (vs := [sl g.la q.p.l.length g.lc, sl g.la (q.p.l.length + 70) g.lc, sl g.ea q.p.l.length g.ec]) rfl tk64 (hi := rfl)) rfl rfl rfl ?_
      refine WL_rd (Rd_fieldAddr rfl fo46_2) rfl rfl rfl ?_
      refine WL_rd (Rd_load rfl tk22 (v := q.p.v) (hi := eKQ_p q)) rfl rfl rfl ?_
      refine WL_ac (Ac_call cf27 rfl (hs := Ct.un0 (Xs := [star (FL 5) (g.es ++ g.sp), arr g.la g.lc 1 23 eLn (g.es ++ g.sp), arr g.ea g.ec 1 23 eEn g.es, old W]) (keptL_ct (X := sep [star (FL 5) (g.es ++ g.sp), arr g.la g.lc 1 23 eLn (g.es ++ g.sp), arr g.ea g.ec 1 23 eEn g.es, old W]) (ps := q.p.l) (fs := (g.es ++ g.sp).map ptE) (gs := g.es.map ptF) (hS := hqS.pk (by repeat (first | with_reducible exact Has.here | with_reducible refine Has.there ?_))) (hP := hPX) (hF := hF.pk (by repeat (first | with_reducible exact Has.here | with_reducible refine Has.there ?_))) (hL := hLt.pk (by repeat (first | with_reducible exact Has.here | with_reducible refine Has.there ?_))) (hG := hG.pk (by repeat (first | with_reducible exact Has.here | with_reducible refine Has.there ?_))) (hFP := hFP) (hGP := hGP) (hK := hKK) (hlc := by omega)))) rfl rfl rfl ?_
      rintro _ _ ⟨⟨⟩, rfl, hA⟩
      simp only [List.cons_append, List.nil_append] at hA
      replace hA := hA.symm
      subst hA
      refine WL_rd (Rd_assign rfl) rfl rfl rfl ?_
      refine WL_end hK21 ?_
      refine WC_sr fun K22 hK22 => ?_
      refine WL_rd (Rd_loadg (vs := [sl g.la q.p.l.length g.lc, sl g.la (q.p.l.length + 70) g.lc, sl g.ea q.p.l.length g.ec]) rfl tk64 (hi := rfl)) rfl rfl rfl ?_
      refine WL_ac (Ac_call cf28 rfl (hs := overL2_ct (la := g.la) (ea := g.ea) (lc := g.lc) (ec := g.ec) (es := g.es) (sp := g.sp) hel hsl hbE)) rfl rfl rfl ?_
      rintro _ _ ⟨⟨⟩, rfl, hA⟩
      simp only [List.cons_append, List.nil_append] at hA
      replace hA := hA.symm
      subst hA
      refine WL_end hK22 ?_
      refine WC_sr fun K23 hK23 => ?_
      refine WL_rd (Rd_move rfl) rfl rfl rfl ?_
      refine WL_rd (Rd_move rfl) rfl rfl rfl ?_
      refine WL_rd (Rd_isT (Rd_eqlN rfl rfl) (by simp)) rfl rfl rfl ?_
      refine WL_rd (Rd_move rfl) rfl rfl rfl ?_
      refine WL_rd (Rd_move rfl) rfl rfl rfl ?_
      refine WL_rd (Rd_move rfl) rfl rfl rfl ?_
      refine WL_rd (Rd_isT (Rd_eqlN rfl rfl) (by simp)) rfl rfl rfl ?_
      refine WL_rd (Rd_pickT rfl rfl) rfl rfl rfl ?_
      refine WL_rd (Rd_move rfl) rfl rfl rfl ?_
      refine WL_rd (Rd_loadW rfl tk43) rfl rfl rfl ?_
      refine WL_rd (Rd_loadW rfl tk43) rfl rfl rfl ?_
      refine WL_rd (Rd_isT (Rd_eqW rfl rfl ais43) (decide_eq_true (tagD_no hc2))) rfl rfl rfl ?_
      refine WL_rd (Rd_pickT rfl rfl) rfl rfl rfl ?_
      refine WL_rd (Rd_move rfl) rfl rfl rfl ?_
      refine WL_rd (Rd_move rfl) rfl rfl rfl ?_
      refine WL_rd (Rd_pickT rfl rfl) rfl rfl rfl ?_
      refine WL_rd (Rd_assign rfl) rfl rfl rfl ?_
      refine WL_end hK23 ?_
      refine WC_ret ?_
      rw [show ps.length + 1 = (ps ++ [(⟨a53, cap53, (tagB q.tag (q.p.l.map (·.l)))⟩ : PB)]).length from by rw [List.length_append]; rfl, show ws.length + 1 = (ws ++ [(⟨a39, cap39, (tagB q.tag (q.p.l.map (·.l)))⟩ : PB)]).length from by rw [List.length_append]; rfl]
      exact hret.go ⟨⟨ps ++ [(⟨a53, cap53, (tagB q.tag (q.p.l.map (·.l)))⟩ : PB)], a67, cap67, ws ++ [(⟨a39, cap39, (tagB q.tag (q.p.l.map (·.l)))⟩ : PB)], a77, cap77, os, oa, oc, ms, ma, mc⟩, BKok_up (BKok_b (x := (⟨a53, cap53, (tagB q.tag (q.p.l.map (·.l)))⟩ : PB)) (y := (⟨a39, cap39, (tagB q.tag (q.p.l.map (·.l)))⟩ : PB)) hg0 rfl h53.1 h53.2 hTBl h39.1 h39.2) (Nat.le_refl _) (Nat.le_add_right _ _)⟩ (Rs1 rfl rfl)
  · try simp only [decide_eq_true_eq, decide_eq_false_iff_not, Bool.not_eq_true', Bool.not_eq_false', Bool.not_eq_true, Bool.not_eq_false, Int.not_lt, Int.not_le, Nat.not_lt, Nat.not_le, Decidable.not_not, ne_eq] at hc0
    refine WC_region ?_
    refine WL_rd (Rd_eql rfl rfl) rfl rfl rfl ?_
    refine WL_rd (Rd_assign rfl) rfl rfl rfl ?_
    refine WL_nil ?_
    refine Ps_next hK5 ?_
    refine WC_cond rfl (fun hc1 => ?_) (fun hc1 => ?_)
    · try simp only [decide_eq_true_eq, decide_eq_false_iff_not, Bool.not_eq_true', Bool.not_eq_false', Bool.not_eq_true, Bool.not_eq_false, Int.not_lt, Int.not_le, Nat.not_lt, Nat.not_le, Decidable.not_not, ne_eq] at hc1
      refine WC_sr fun K24 hK24 => ?_
      refine WL_rd (Rd_fieldAddr rfl fo46_2) rfl rfl rfl ?_
      refine WL_rd (Rd_load rfl tk22 (v := q.p.v) (hi := eKQ_p q)) rfl rfl rfl ?_
      refine WL_ac (Ac_call cf24 rfl (hs := lentL_ct (X := old W) (ps := q.p.l) (hS := hqS) (hP := hqP))) rfl rfl rfl ?_
      rintro _ _ ⟨⟨g, hg⟩, rfl, hA⟩
      simp only [List.cons_append, List.nil_append] at hA
      replace hA := hA.symm
      subst hA
      obtain ⟨hel, hsl⟩ := LG_len hg
      dsimp only
      refine WL_fact (fun w h => arr_facts (a := g.la) (cap := g.lc) (e := 1) (T := 23) (f := eLn) (l := (g.es ++ g.sp)) (by repeat (first | with_reducible exact Has.here | with_reducible refine Has.there ?_)) h) (fun hla => ?_)
      refine WL_fact (fun w h => arr_facts (a := g.ea) (cap := g.ec) (e := 1) (T := 23) (f := eEn) (l := g.es) (by repeat (first | with_reducible exact Has.here | with_reducible refine Has.there ?_)) h) (fun hea => ?_)
      have hal := LG_all hg
      have hlc9 := hla.2
      have hL := SvL (T := 23) hg hla
      have hLt := SvLt (T := 23) hg hla
      have hF := SvF (T := 23) hg hla
      have hG := SvG (T := 23) hg hea
      have hLP : ∀ p ∈ g.es.map ptE, RdP [sep [star (FL 5) (g.es ++ g.sp), arr g.la g.lc 1 23 eLn (g.es ++ g.sp), arr g.ea g.ec 1 23 eEn g.es, old W]] p := fun p h => (Rd_subE (T := 5) (LG_ok hg) p h).pk (by repeat (first | with_reducible exact Has.here | with_reducible refine Has.there ?_))
      have hFP : ∀ p ∈ (g.es ++ g.sp).map ptE, RdP [sep [star (FL 5) (g.es ++ g.sp), arr g.la g.lc 1 23 eLn (g.es ++ g.sp), arr g.ea g.ec 1 23 eEn g.es, old W]] p := fun p h => (Rd_allE (T := 5) (LG_ok hg) p h).pk (by repeat (first | with_reducible exact Has.here | with_reducible refine Has.there ?_))
      have hGP : ∀ p ∈ g.es.map ptF, RdP [sep [star (FL 5) (g.es ++ g.sp), arr g.la g.lc 1 23 eLn (g.es ++ g.sp), arr g.ea g.ec 1 23 eEn g.es, old W]] p := fun p h => (Rd_allF (T := 5) (LG_ok hg) p h).pk (by repeat (first | with_reducible exact Has.here | with_reducible refine Has.there ?_))
      have hPX : ∀ p ∈ q.p.l, RdP [sep [star (FL 5) (g.es ++ g.sp), arr g.la g.lc 1 23 eLn (g.es ++ g.sp), arr g.ea g.ec 1 23 eEn g.es, old W]] p := fun p h => (hqP p h).pk (by repeat (first | with_reducible exact Has.here | with_reducible refine Has.there ?_))
      have hKK := LG_kok hg
      have hje := LG_join hg
      have hel1 : (g.es.map ptE).length = q.p.l.length := by rw [List.length_map]; exact hel
      have hmm : (g.es.map ptE).map (·.l) = q.p.l.map (·.l) := by rw [← LG_take hg]; exact hKK.hd
      have hbE : ∀ e ∈ g.es, e.L.length ≤ 900000000000 := LG_bnd hg hb8
      refine WL_ac (Ac_alloc zr64) rfl rfl rfl ?_
      rintro _ _ ⟨b6, rfl, rfl⟩
      refine WL_ac0 (Ac_store (ys := [sl g.la q.p.l.length g.lc, sl g.la (q.p.l.length + 70) g.lc, sl g.ea q.p.l.length g.ec]) rfl rfl sz64 (h1 := by simp [Value.cells, Value.oneCell', sl]) (hr := rfl)) rfl rfl ?_
      rintro _ _ rfl
      refine WL_end hK24 ?_
      refine WC_sr fun K25 hK25 => ?_
      refine WL_rd (Rd_move rfl) rfl rfl rfl ?_
      refine WL_rd (Rd_fieldAddr rfl fo46_2) rfl rfl rfl ?_
      refine WL_rd (Rd_load rfl tk22 (v := q.p.v) (hi := eKQ_p q)) rfl rfl rfl ?_
      refine WL_ac (Ac_call cf25 rfl (hs := bytesR_ct (X := old W) (t := q.tag) (ps := q.p.l) (hS := hqS) (hP := hqP))) rfl rfl rfl ?_
      rintro _ _ ⟨⟨a39, cap39⟩, rfl, hA⟩
      simp only [List.cons_append, List.nil_append] at hA
      replace hA := hA.symm
      subst hA
      refine WL_fact (fun w h => arr_facts (a := a39) (cap := cap39) (e := 1) (T := 5) (f := (eU .u8 (w := 8))) (l := (tagB q.tag (q.p.l.map (·.l)))) (by repeat (first | with_reducible exact Has.here | with_reducible refine Has.there ?_)) h) (fun h39 => ?_)
      have hW39 : Sv [arr a39 cap39 1 5 (eU .u8) (tagB q.tag (q.p.l.map (·.l)))] (sl a39 (tagB q.tag (q.p.l.map (·.l))).length cap39) 1 (eU .u8 (w := 8)) (tagB q.tag (q.p.l.map (·.l))) (a39.map fun g => ⟨g, 0, none⟩) cap39 := Sv_own' (T := 5) (encU .u8 (w := 8)) h39.1 h39.2
      refine WL_rd (Rd_move rfl) rfl rfl rfl ?_
      refine WL_rd (Rd_ext0 rfl) rfl rfl rfl ?_
      refine WL_rd (Rd_ext1 rfl) rfl rfl rfl ?_
      refine WL_rd (Rd_assign rfl) rfl rfl rfl ?_
      refine WL_rd (Rd_assign rfl) rfl rfl rfl ?_
      refine WL_end hK25 ?_
      refine WC_sr fun K26 hK26 => ?_
      refine WL_ac (Ac_allocW (k := .u8) (w := 8) (m := 32) zr43) rfl rfl rfl ?_
      rintro _ _ ⟨b9, rfl, rfl⟩
      refine WL_end hK26 ?_
      refine WC_sr fun K27 hK27 => ?_
      refine WL_rd (Rd_move rfl) rfl rfl rfl ?_
      refine WL_rd (Rd_fieldAddr rfl fo64_0) rfl rfl rfl ?_
      refine WL_rd (Rd_load rfl tk22 (v := sl g.la q.p.l.length g.lc)) rfl rfl rfl ?_
      refine WL_ac (Ac_call cf26 rfl (hs := Ct.un0 (Xs := [star (FL 5) (g.es ++ g.sp), arr g.la g.lc 1 23 eLn (g.es ++ g.sp), arr g.ea g.ec 1 23 eEn g.es, old W]) (digest_ct (X := sep [star (FL 5) (g.es ++ g.sp), arr g.la g.lc 1 23 eLn (g.es ++ g.sp), arr g.ea g.ec 1 23 eEn g.es, old W]) (t := q.tag) (ps := g.es.map ptE) (hS := hL.pk (by repeat (first | with_reducible exact Has.here | with_reducible refine Has.there ?_))) (hP := hLP) (hn := by rw [hje]; omega) (hk := by rw [hel1]; omega)))) rfl rfl rfl ?_
      rintro _ _ ⟨⟨⟩, rfl, hA⟩
      simp only [List.cons_append, List.nil_append] at hA
      replace hA := hA.symm
      subst hA
      rw [hmm]
      refine WL_rd (Rd_move rfl) rfl rfl rfl ?_
      refine WL_rd (Rd_ext0 rfl) rfl rfl rfl ?_
      refine WL_rd (Rd_ext1 rfl) rfl rfl rfl ?_
      refine WL_ac (Ac_allocW (k := .u8) (w := 8) (m := 32) zr43) rfl rfl rfl ?_
      rintro _ _ ⟨b10, rfl, rfl⟩
      refine WL_ac0 (Ac_storeW rfl rfl sz43) rfl rfl ?_
      rintro _ _ rfl
      refine WL_rd (Rd_assign rfl) rfl rfl rfl ?_
      refine WL_end hK27 ?_
      refine WC_sr fun K28 hK28 => ?_
      refine WL_rd (Rd_move rfl) rfl rfl rfl ?_
      refine WL_rd (Rd_fieldAddr rfl fo64_0) rfl rfl rfl ?_
      refine WL_rd (Rd_load rfl tk22 (v := sl g.la q.p.l.length g.lc)) rfl rfl rfl ?_
      refine WL_ac (Ac_call cf6 rfl (hs := Ct.un0 (Xs := [star (FL 5) (g.es ++ g.sp), arr g.la g.lc 1 23 eLn (g.es ++ g.sp), arr g.ea g.ec 1 23 eEn g.es, old W]) (bytes_ct (X := sep [star (FL 5) (g.es ++ g.sp), arr g.la g.lc 1 23 eLn (g.es ++ g.sp), arr g.ea g.ec 1 23 eEn g.es, old W]) (t := q.tag) (ps := g.es.map ptE) (hS := hL.pk (by repeat (first | with_reducible exact Has.here | with_reducible refine Has.there ?_))) (hP := hLP) (hn := by rw [hje]; omega) (hk := by rw [hel1]; omega)))) rfl rfl rfl ?_
      rintro _ _ ⟨⟨a53, cap53⟩, rfl, hA⟩
      simp only [List.cons_append, List.nil_append] at hA
      replace hA := hA.symm
      subst hA
      rw [hmm]
      refine WL_fact (fun w h => arr_facts (a := a53) (cap := cap53) (e := 1) (T := 5) (f := (eU .u8 (w := 8))) (l := (tagB q.tag (q.p.l.map (·.l)))) (by repeat (first | with_reducible exact Has.here | with_reducible refine Has.there ?_)) h) (fun h53 => ?_)
      refine WL_rd (Rd_move rfl) rfl rfl rfl ?_
      refine WL_rd (Rd_ext0 rfl) rfl rfl rfl ?_
      refine WL_rd (Rd_ext1 rfl) rfl rfl rfl ?_
      refine WL_rd (Rd_assign rfl) rfl rfl rfl ?_
      refine WL_rd (Rd_assign rfl) rfl rfl rfl ?_
      refine WL_end hK28 ?_
      refine WC_seq fun K29 hK29 => ?_
      refine WC_sr fun K30 hK30 => ?_
      refine WL_rd (Rd_move rfl) rfl rfl rfl ?_
      refine WL_rd (Rd_eqlN (j := 0) rfl rfl) rfl rfl rfl ?_
      refine WL_end hK30 ?_
      refine WC_cond rfl (fun hc2 => ?_) (fun hc2 => ?_)
      · try simp only [decide_eq_true_eq, decide_eq_false_iff_not, Bool.not_eq_true', Bool.not_eq_false', Bool.not_eq_true, Bool.not_eq_false, Int.not_lt, Int.not_le, Nat.not_lt, Nat.not_le, Decidable.not_not, ne_eq] at hc2
        refine WC_region ?_
        refine WL_rd (Rd_move rfl) rfl rfl rfl ?_
        refine WL_ac (Ac_call cf14 rfl (hs := sumR_ct (X := arr a39 cap39 1 5 (eU .u8) (tagB q.tag (q.p.l.map (·.l)))) (l := (tagB q.tag (q.p.l.map (·.l)))) (hS := hW39))) rfl rfl rfl ?_
        rintro _ _ ⟨⟨⟩, rfl, hA⟩
        simp only [List.cons_append, List.nil_append] at hA
        replace hA := hA.symm
        subst hA
        rw [← tagD_ok hc2]
        refine WL_ac0 (Ac_storeW rfl rfl sz43) rfl rfl ?_
        rintro _ _ rfl
        refine WL_nil ?_
        refine Ps_next hK29 ?_
        refine WC_sr fun K31 hK31 => ?_
        refine WL_rd (Rd_move rfl) rfl rfl rfl ?_
        refine WL_rd (Rd_move rfl) rfl rfl rfl ?_
        refine WL_rd (Rd_nilCheck rfl) rfl rfl rfl ?_
        refine WL_rd (Rd_fieldAddr rfl fo37_0) rfl rfl rfl ?_
        refine WL_rd (Rd_load rfl tk22 (v := sl pa ps.length pc)) rfl rfl rfl ?_
        refine WL_rd (Rd_move rfl) rfl rfl rfl ?_
        refine WL_ac (Ac_bs1 (xs := [sl a53 (tagB q.tag (q.p.l.map (·.l))).length cap53]) rfl ud22 zr23 sz23) rfl rfl rfl ?_
        rintro _ _ ⟨b66, rfl, rfl⟩
        refine WL_ac (Ac_append1 (f := ePB) encPB (⟨a53, cap53, (tagB q.tag (q.p.l.map (·.l)))⟩ : PB) rfl rfl ud22 ud22 el23) rfl rfl rfl ?_
        rintro _ _ ⟨a67, cap67, rfl, rfl⟩
        refine WL_rd (Rd_nilCheck rfl) rfl rfl rfl ?_
        refine WL_rd (Rd_fieldAddr rfl fo37_0) rfl rfl rfl ?_
        refine WL_ac0 (Ac_store1 rfl rfl sz22) rfl rfl ?_
        rintro _ _ rfl
        refine WL_end hK31 ?_
        refine WC_sr fun K32 hK32 => ?_
        refine WL_rd (Rd_move rfl) rfl rfl rfl ?_
        refine WL_rd (Rd_move rfl) rfl rfl rfl ?_
        refine WL_rd (Rd_nilCheck rfl) rfl rfl rfl ?_
        refine WL_rd (Rd_fieldAddr rfl fo37_1) rfl rfl rfl ?_
        refine WL_rd (Rd_load rfl tk22 (v := sl wa ws.length wc)) rfl rfl rfl ?_
        refine WL_rd (Rd_move rfl) rfl rfl rfl ?_
        refine WL_ac (Ac_bs1 (xs := [sl a39 (tagB q.tag (q.p.l.map (·.l))).length cap39]) rfl ud22 zr23 sz23) rfl rfl rfl ?_
        rintro _ _ ⟨b76, rfl, rfl⟩
        refine WL_ac (Ac_append1 (f := ePB) encPB (⟨a39, cap39, (tagB q.tag (q.p.l.map (·.l)))⟩ : PB) rfl rfl ud22 ud22 el23) rfl rfl rfl ?_
        rintro _ _ ⟨a77, cap77, rfl, rfl⟩
        refine WL_rd (Rd_nilCheck rfl) rfl rfl rfl ?_
        refine WL_rd (Rd_fieldAddr rfl fo37_1) rfl rfl rfl ?_
        refine WL_ac0 (Ac_store1 rfl rfl sz22) rfl rfl ?_
        rintro _ _ rfl
        rw [show arr a53 cap53 1 5 (eU .u8) (tagB q.tag (q.p.l.map (·.l))) = (FPB 5) (⟨a53, cap53, (tagB q.tag (q.p.l.map (·.l)))⟩ : PB) from rfl]
        refine WL_snoc (FPB 5) ps (⟨a53, cap53, (tagB q.tag (q.p.l.map (·.l)))⟩ : PB) ?_
        rw [show arr a39 cap39 1 5 (eU .u8) (tagB q.tag (q.p.l.map (·.l))) = (FPB 5) (⟨a39, cap39, (tagB q.tag (q.p.l.map (·.l)))⟩ : PB) from rfl]
        refine WL_snoc (FPB 5) ws (⟨a39, cap39, (tagB q.tag (q.p.l.map (·.l)))⟩ : PB) ?_
        refine WL_end hK32 ?_
        refine WC_sr fun K33 hK33 => ?_
        refine WL_rd (Rd_loadg (vs := [sl g.la q.p.l.length g.lc, sl g.la (q.p.l.length + 70) g.lc, sl g.ea q.p.l.length g.ec]) rfl tk64 (hi := rfl)) rfl rfl rfl ?_
        refine WL_rd (Rd_fieldAddr rfl fo46_2) rfl rfl rfl ?_
        refine WL_rd (Rd_load rfl tk22 (v := q.p.v) (hi := eKQ_p q)) rfl rfl rfl ?_
        refine WL_ac (Ac_call cf27 rfl (hs := Ct.un0 (Xs := [star (FL 5) (g.es ++ g.sp), arr g.la g.lc 1 23 eLn (g.es ++ g.sp), arr g.ea g.ec 1 23 eEn g.es, old W]) (keptL_ct (X := sep [star (FL 5) (g.es ++ g.sp), arr g.la g.lc 1 23 eLn (g.es ++ g.sp), arr g.ea g.ec 1 23 eEn g.es, old W]) (ps := q.p.l) (fs := (g.es ++ g.sp).map ptE) (gs := g.es.map ptF) (hS := hqS.pk (by repeat (first | with_reducible exact Has.here | with_reducible refine Has.there ?_))) (hP := hPX) (hF := hF.pk (by repeat (first | with_reducible exact Has.here | with_reducible refine Has.there ?_))) (hL := hLt.pk (by repeat (first | with_reducible exact Has.here | with_reducible refine Has.there ?_))) (hG := hG.pk (by repeat (first | with_reducible exact Has.here | with_reducible refine Has.there ?_))) (hFP := hFP) (hGP := hGP) (hK := hKK) (hlc := by omega)))) rfl rfl rfl ?_
        rintro _ _ ⟨⟨⟩, rfl, hA⟩
        simp only [List.cons_append, List.nil_append] at hA
        replace hA := hA.symm
        subst hA
        refine WL_rd (Rd_assign rfl) rfl rfl rfl ?_
        refine WL_end hK33 ?_
        refine WC_sr fun K34 hK34 => ?_
        refine WL_rd (Rd_loadg (vs := [sl g.la q.p.l.length g.lc, sl g.la (q.p.l.length + 70) g.lc, sl g.ea q.p.l.length g.ec]) rfl tk64 (hi := rfl)) rfl rfl rfl ?_
        refine WL_ac (Ac_call cf28 rfl (hs := overL2_ct (la := g.la) (ea := g.ea) (lc := g.lc) (ec := g.ec) (es := g.es) (sp := g.sp) hel hsl hbE)) rfl rfl rfl ?_
        rintro _ _ ⟨⟨⟩, rfl, hA⟩
        simp only [List.cons_append, List.nil_append] at hA
        replace hA := hA.symm
        subst hA
        refine WL_end hK34 ?_
        refine WC_sr fun K35 hK35 => ?_
        refine WL_rd (Rd_move rfl) rfl rfl rfl ?_
        refine WL_rd (Rd_move rfl) rfl rfl rfl ?_
        refine WL_rd (Rd_isT (Rd_eqlN rfl rfl) (by simp)) rfl rfl rfl ?_
        refine WL_rd (Rd_move rfl) rfl rfl rfl ?_
        refine WL_rd (Rd_move rfl) rfl rfl rfl ?_
        refine WL_rd (Rd_move rfl) rfl rfl rfl ?_
        refine WL_rd (Rd_isT (Rd_eqlN rfl rfl) (by simp)) rfl rfl rfl ?_
        refine WL_rd (Rd_pickT rfl rfl) rfl rfl rfl ?_
        refine WL_rd (Rd_move rfl) rfl rfl rfl ?_
        refine WL_rd (Rd_loadW rfl tk43) rfl rfl rfl ?_
        refine WL_rd (Rd_loadW rfl tk43) rfl rfl rfl ?_
        refine WL_rd (Rd_isT (Rd_eqW rfl rfl ais43) (decide_eq_true rfl)) rfl rfl rfl ?_
        refine WL_rd (Rd_pickT rfl rfl) rfl rfl rfl ?_
        refine WL_rd (Rd_move rfl) rfl rfl rfl ?_
        refine WL_rd (Rd_move rfl) rfl rfl rfl ?_
        refine WL_rd (Rd_pickT rfl rfl) rfl rfl rfl ?_
        refine WL_rd (Rd_assign rfl) rfl rfl rfl ?_
        refine WL_end hK35 ?_
        refine WC_ret ?_
        rw [show ps.length + 1 = (ps ++ [(⟨a53, cap53, (tagB q.tag (q.p.l.map (·.l)))⟩ : PB)]).length from by rw [List.length_append]; rfl, show ws.length + 1 = (ws ++ [(⟨a39, cap39, (tagB q.tag (q.p.l.map (·.l)))⟩ : PB)]).length from by rw [List.length_append]; rfl]
        exact hret.go ⟨⟨ps ++ [(⟨a53, cap53, (tagB q.tag (q.p.l.map (·.l)))⟩ : PB)], a67, cap67, ws ++ [(⟨a39, cap39, (tagB q.tag (q.p.l.map (·.l)))⟩ : PB)], a77, cap77, os, oa, oc, ms, ma, mc⟩, BKok_up (BKok_b (x := (⟨a53, cap53, (tagB q.tag (q.p.l.map (·.l)))⟩ : PB)) (y := (⟨a39, cap39, (tagB q.tag (q.p.l.map (·.l)))⟩ : PB)) hg0 rfl h53.1 h53.2 hTBl h39.1 h39.2) (Nat.le_refl _) (Nat.le_add_right _ _)⟩ (Rs1 rfl rfl)
      · try simp only [decide_eq_true_eq, decide_eq_false_iff_not, Bool.not_eq_true', Bool.not_eq_false', Bool.not_eq_true, Bool.not_eq_false, Int.not_lt, Int.not_le, Nat.not_lt, Nat.not_le, Decidable.not_not, ne_eq] at hc2
        refine WC_skip ?_
        refine Ps_next hK29 ?_
        refine WC_sr fun K36 hK36 => ?_
        refine WL_rd (Rd_move rfl) rfl rfl rfl ?_
        refine WL_rd (Rd_move rfl) rfl rfl rfl ?_
        refine WL_rd (Rd_nilCheck rfl) rfl rfl rfl ?_
        refine WL_rd (Rd_fieldAddr rfl fo37_0) rfl rfl rfl ?_
        refine WL_rd (Rd_load rfl tk22 (v := sl pa ps.length pc)) rfl rfl rfl ?_
        refine WL_rd (Rd_move rfl) rfl rfl rfl ?_
        refine WL_ac (Ac_bs1 (xs := [sl a53 (tagB q.tag (q.p.l.map (·.l))).length cap53]) rfl ud22 zr23 sz23) rfl rfl rfl ?_
        rintro _ _ ⟨b66, rfl, rfl⟩
        refine WL_ac (Ac_append1 (f := ePB) encPB (⟨a53, cap53, (tagB q.tag (q.p.l.map (·.l)))⟩ : PB) rfl rfl ud22 ud22 el23) rfl rfl rfl ?_
        rintro _ _ ⟨a67, cap67, rfl, rfl⟩
        refine WL_rd (Rd_nilCheck rfl) rfl rfl rfl ?_
        refine WL_rd (Rd_fieldAddr rfl fo37_0) rfl rfl rfl ?_
        refine WL_ac0 (Ac_store1 rfl rfl sz22) rfl rfl ?_
        rintro _ _ rfl
        refine WL_end hK36 ?_
        refine WC_sr fun K37 hK37 => ?_
        refine WL_rd (Rd_move rfl) rfl rfl rfl ?_
        refine WL_rd (Rd_move rfl) rfl rfl rfl ?_
        refine WL_rd (Rd_nilCheck rfl) rfl rfl rfl ?_
        refine WL_rd (Rd_fieldAddr rfl fo37_1) rfl rfl rfl ?_
        refine WL_rd (Rd_load rfl tk22 (v := sl wa ws.length wc)) rfl rfl rfl ?_
        refine WL_rd (Rd_move rfl) rfl rfl rfl ?_
        refine WL_ac (Ac_bs1 (xs := [sl a39 (tagB q.tag (q.p.l.map (·.l))).length cap39]) rfl ud22 zr23 sz23) rfl rfl rfl ?_
        rintro _ _ ⟨b76, rfl, rfl⟩
        refine WL_ac (Ac_append1 (f := ePB) encPB (⟨a39, cap39, (tagB q.tag (q.p.l.map (·.l)))⟩ : PB) rfl rfl ud22 ud22 el23) rfl rfl rfl ?_
        rintro _ _ ⟨a77, cap77, rfl, rfl⟩
        refine WL_rd (Rd_nilCheck rfl) rfl rfl rfl ?_
        refine WL_rd (Rd_fieldAddr rfl fo37_1) rfl rfl rfl ?_
        refine WL_ac0 (Ac_store1 rfl rfl sz22) rfl rfl ?_
        rintro _ _ rfl
        rw [show arr a53 cap53 1 5 (eU .u8) (tagB q.tag (q.p.l.map (·.l))) = (FPB 5) (⟨a53, cap53, (tagB q.tag (q.p.l.map (·.l)))⟩ : PB) from rfl]
        refine WL_snoc (FPB 5) ps (⟨a53, cap53, (tagB q.tag (q.p.l.map (·.l)))⟩ : PB) ?_
        rw [show arr a39 cap39 1 5 (eU .u8) (tagB q.tag (q.p.l.map (·.l))) = (FPB 5) (⟨a39, cap39, (tagB q.tag (q.p.l.map (·.l)))⟩ : PB) from rfl]
        refine WL_snoc (FPB 5) ws (⟨a39, cap39, (tagB q.tag (q.p.l.map (·.l)))⟩ : PB) ?_
        refine WL_end hK37 ?_
        refine WC_sr fun K38 hK38 => ?_
        refine WL_rd (Rd_loadg (vs := [sl g.la q.p.l.length g.lc, sl g.la (q.p.l.length + 70) g.lc, sl g.ea q.p.l.length g.ec]) rfl tk64 (hi := rfl)) rfl rfl rfl ?_
        refine WL_rd (Rd_fieldAddr rfl fo46_2) rfl rfl rfl ?_
        refine WL_rd (Rd_load rfl tk22 (v := q.p.v) (hi := eKQ_p q)) rfl rfl rfl ?_
        refine WL_ac (Ac_call cf27 rfl (hs := Ct.un0 (Xs := [star (FL 5) (g.es ++ g.sp), arr g.la g.lc 1 23 eLn (g.es ++ g.sp), arr g.ea g.ec 1 23 eEn g.es, old W]) (keptL_ct (X := sep [star (FL 5) (g.es ++ g.sp), arr g.la g.lc 1 23 eLn (g.es ++ g.sp), arr g.ea g.ec 1 23 eEn g.es, old W]) (ps := q.p.l) (fs := (g.es ++ g.sp).map ptE) (gs := g.es.map ptF) (hS := hqS.pk (by repeat (first | with_reducible exact Has.here | with_reducible refine Has.there ?_))) (hP := hPX) (hF := hF.pk (by repeat (first | with_reducible exact Has.here | with_reducible refine Has.there ?_))) (hL := hLt.pk (by repeat (first | with_reducible exact Has.here | with_reducible refine Has.there ?_))) (hG := hG.pk (by repeat (first | with_reducible exact Has.here | with_reducible refine Has.there ?_))) (hFP := hFP) (hGP := hGP) (hK := hKK) (hlc := by omega)))) rfl rfl rfl ?_
        rintro _ _ ⟨⟨⟩, rfl, hA⟩
        simp only [List.cons_append, List.nil_append] at hA
        replace hA := hA.symm
        subst hA
        refine WL_rd (Rd_assign rfl) rfl rfl rfl ?_
        refine WL_end hK38 ?_
        refine WC_sr fun K39 hK39 => ?_
        refine WL_rd (Rd_loadg (vs := [sl g.la q.p.l.length g.lc, sl g.la (q.p.l.length + 70) g.lc, sl g.ea q.p.l.length g.ec]) rfl tk64 (hi := rfl)) rfl rfl rfl ?_
        refine WL_ac (Ac_call cf28 rfl (hs := overL2_ct (la := g.la) (ea := g.ea) (lc := g.lc) (ec := g.ec) (es := g.es) (sp := g.sp) hel hsl hbE)) rfl rfl rfl ?_
        rintro _ _ ⟨⟨⟩, rfl, hA⟩
        simp only [List.cons_append, List.nil_append] at hA
        replace hA := hA.symm
        subst hA
        refine WL_end hK39 ?_
        refine WC_sr fun K40 hK40 => ?_
        refine WL_rd (Rd_move rfl) rfl rfl rfl ?_
        refine WL_rd (Rd_move rfl) rfl rfl rfl ?_
        refine WL_rd (Rd_isT (Rd_eqlN rfl rfl) (by simp)) rfl rfl rfl ?_
        refine WL_rd (Rd_move rfl) rfl rfl rfl ?_
        refine WL_rd (Rd_move rfl) rfl rfl rfl ?_
        refine WL_rd (Rd_move rfl) rfl rfl rfl ?_
        refine WL_rd (Rd_isT (Rd_eqlN rfl rfl) (by simp)) rfl rfl rfl ?_
        refine WL_rd (Rd_pickT rfl rfl) rfl rfl rfl ?_
        refine WL_rd (Rd_move rfl) rfl rfl rfl ?_
        refine WL_rd (Rd_loadW rfl tk43) rfl rfl rfl ?_
        refine WL_rd (Rd_loadW rfl tk43) rfl rfl rfl ?_
        refine WL_rd (Rd_isT (Rd_eqW rfl rfl ais43) (decide_eq_true (tagD_no hc2))) rfl rfl rfl ?_
        refine WL_rd (Rd_pickT rfl rfl) rfl rfl rfl ?_
        refine WL_rd (Rd_move rfl) rfl rfl rfl ?_
        refine WL_rd (Rd_move rfl) rfl rfl rfl ?_
        refine WL_rd (Rd_pickT rfl rfl) rfl rfl rfl ?_
        refine WL_rd (Rd_assign rfl) rfl rfl rfl ?_
        refine WL_end hK40 ?_
        refine WC_ret ?_
        rw [show ps.length + 1 = (ps ++ [(⟨a53, cap53, (tagB q.tag (q.p.l.map (·.l)))⟩ : PB)]).length from by rw [List.length_append]; rfl, show ws.length + 1 = (ws ++ [(⟨a39, cap39, (tagB q.tag (q.p.l.map (·.l)))⟩ : PB)]).length from by rw [List.length_append]; rfl]
        exact hret.go ⟨⟨ps ++ [(⟨a53, cap53, (tagB q.tag (q.p.l.map (·.l)))⟩ : PB)], a67, cap67, ws ++ [(⟨a39, cap39, (tagB q.tag (q.p.l.map (·.l)))⟩ : PB)], a77, cap77, os, oa, oc, ms, ma, mc⟩, BKok_up (BKok_b (x := (⟨a53, cap53, (tagB q.tag (q.p.l.map (·.l)))⟩ : PB)) (y := (⟨a39, cap39, (tagB q.tag (q.p.l.map (·.l)))⟩ : PB)) hg0 rfl h53.1 h53.2 hTBl h39.1 h39.2) (Nat.le_refl _) (Nat.le_add_right _ _)⟩ (Rs1 rfl rfl)
    · try simp only [decide_eq_true_eq, decide_eq_false_iff_not, Bool.not_eq_true', Bool.not_eq_false', Bool.not_eq_true, Bool.not_eq_false, Int.not_lt, Int.not_le, Nat.not_lt, Nat.not_le, Decidable.not_not, ne_eq] at hc1
      refine WC_sr fun K41 hK41 => ?_
      refine WL_rd (Rd_eql rfl rfl) rfl rfl rfl ?_
      refine WL_rd (Rd_assign rfl) rfl rfl rfl ?_
      refine WL_end hK41 ?_
      refine WC_cond rfl (fun hc3 => ?_) (fun hc3 => ?_)
      · try simp only [decide_eq_true_eq, decide_eq_false_iff_not, Bool.not_eq_true', Bool.not_eq_false', Bool.not_eq_true, Bool.not_eq_false, Int.not_lt, Int.not_le, Nat.not_lt, Nat.not_le, Decidable.not_not, ne_eq] at hc3
        refine WC_sr fun K42 hK42 => ?_
        refine WL_rd (Rd_fieldAddr rfl fo46_3) rfl rfl rfl ?_
        refine WL_rd (Rd_load rfl tk23 (v := q.d.v) (hi := eKQ_d q)) rfl rfl rfl ?_
        refine WL_ac (Ac_call cf29 rfl (hs := lent_ct (X := old W) (l := q.d.l) (hS := hqdS))) rfl rfl rfl ?_
        rintro _ _ ⟨⟨a106, cap106⟩, rfl, hA⟩
        simp only [List.cons_append, List.nil_append] at hA
        replace hA := hA.symm
        subst hA
        refine WL_fact (fun w h => arr_facts (a := a106) (cap := cap106) (e := 1) (T := 5) (f := (eU .u8 (w := 8))) (l := (lentB q.d.l)) (by repeat (first | with_reducible exact Has.here | with_reducible refine Has.there ?_)) h) (fun h20 => ?_)
        have hSl : Sv [arr a106 cap106 1 5 (eU .u8) (lentB q.d.l)] (sl a106 q.d.l.length cap106) 1 (eU .u8 (w := 8)) q.d.l (a106.map fun g => ⟨g, 0, none⟩) cap106 := Sv_pre (T := 5) (encU .u8 (w := 8)) (lentB_pre q.d.l) (fun e => by have := h20.1 e; rw [this] at hlb; simp at hlb) h20.2
        have hSf : Sv [arr a106 cap106 1 5 (eU .u8) (lentB q.d.l)] (sl a106 (lentB q.d.l).length cap106) 1 (eU .u8 (w := 8)) (lentB q.d.l) (a106.map fun g => ⟨g, 0, none⟩) cap106 := Sv_own' (T := 5) (encU .u8 (w := 8)) h20.1 h20.2
        refine WL_rd (Rd_assign rfl) rfl rfl rfl ?_
        refine WL_end hK42 ?_
        refine WC_sr fun K43 hK43 => ?_
        refine WL_rd (Rd_move rfl) rfl rfl rfl ?_
        refine WL_rd (Rd_fieldAddr rfl fo46_3) rfl rfl rfl ?_
        refine WL_rd (Rd_load rfl tk23 (v := q.d.v) (hi := eKQ_d q)) rfl rfl rfl ?_
        refine WL_rd (Rd_len_sv rfl rfl ud23) rfl rfl rfl ?_
        refine WL_rd (Rd_slice_hi q.d.l.length rfl rfl ud23 sz5 (hi := by omega)) rfl rfl rfl ?_
        refine WL_ac (Ac_call cf7 rfl (hs := read_ct (X := arr a106 cap106 1 5 (eU .u8) (lentB q.d.l)) (l := q.d.l) (hS := hSl))) rfl rfl rfl ?_
        rintro _ _ ⟨⟨u, hul, hub⟩, rfl, hA⟩
        simp only [List.cons_append, List.nil_append] at hA
        replace hA := hA.symm
        subst hA
        dsimp only
        refine WL_fact (fun w h => arr_facts (a := u.a) (cap := u.cap) (e := 1) (T := 23) (f := ePB) (l := u.ps) (by repeat (first | with_reducible exact Has.here | with_reducible refine Has.there ?_)) h) (fun huf => ?_)
        refine WL_rd (Rd_move rfl) rfl rfl rfl ?_
        refine WL_rd (Rd_ext0 rfl) rfl rfl rfl ?_
        refine WL_rd (Rd_ext1 rfl) rfl rfl rfl ?_
        refine WL_rd (Rd_ext2 rfl) rfl rfl rfl ?_
        refine WL_rd (Rd_ext3 rfl) rfl rfl rfl ?_
        refine WL_rd (Rd_assign rfl) rfl rfl rfl ?_
        refine WL_rd (Rd_assign rfl) rfl rfl rfl ?_
        refine WL_rd (Rd_assign rfl) rfl rfl rfl ?_
        refine WL_rd (Rd_assign rfl) rfl rfl rfl ?_
        refine WL_end hK43 ?_
        refine WC_sr fun K44 hK44 => ?_
        refine WL_rd (Rd_move rfl) rfl rfl rfl ?_
        refine WL_rd (Rd_fieldAddr rfl fo46_3) rfl rfl rfl ?_
        refine WL_rd (Rd_load rfl tk23 (v := q.d.v) (hi := eKQ_d q)) rfl rfl rfl ?_
        refine WL_ac (Ac_call cf30 rfl (hs := Ct.un0 (Xs := [arr a106 cap106 1 5 (eU .u8) (lentB q.d.l), old W]) (kept_ct (X := sep [arr a106 cap106 1 5 (eU .u8) (lentB q.d.l), old W]) (l := (lentB q.d.l)) (l' := q.d.l) (hS := hSf.pk (by repeat (first | with_reducible exact Has.here | with_reducible refine Has.there ?_))) (hS' := hqdS.pk (by repeat (first | with_reducible exact Has.here | with_reducible refine Has.there ?_)))))) rfl rfl rfl ?_
        rintro _ _ ⟨⟨⟩, rfl, hA⟩
        simp only [List.cons_append, List.nil_append] at hA
        replace hA := hA.symm
        subst hA
        rw [decide_eq_true rfl]
        refine WL_rd (Rd_assign rfl) rfl rfl rfl ?_
        refine WL_end hK44 ?_
        refine WC_sr fun K45 hK45 => ?_
        refine WL_rd (Rd_move rfl) rfl rfl rfl ?_
        refine WL_ac (Ac_call cf31 rfl (hs := over_ct (l := (lentB q.d.l)) (a := a106) (cap := cap106))) rfl rfl rfl ?_
        rintro _ _ ⟨⟨⟩, rfl, hA⟩
        simp only [List.cons_append, List.nil_append] at hA
        replace hA := hA.symm
        subst hA
        refine WL_end hK45 ?_
        refine WC_sr fun K46 hK46 => ?_
        refine WL_rd (Rd_fieldAddr rfl fo46_3) rfl rfl rfl ?_
        refine WL_rd (Rd_load rfl tk23 (v := q.d.v) (hi := eKQ_d q)) rfl rfl rfl ?_
        refine WL_ac (Ac_call cf32 rfl (hs := readR_ct (X := old W) (l := q.d.l) (hS := hqdS))) rfl rfl rfl ?_
        rintro _ _ ⟨⟨w, hwl, hwb⟩, rfl, hA⟩
        simp only [List.cons_append, List.nil_append] at hA
        replace hA := hA.symm
        subst hA
        dsimp only
        refine WL_fact (fun w_ h => arr_facts (a := w.a) (cap := w.cap) (e := 1) (T := 23) (f := ePB) (l := w.ps) (by repeat (first | with_reducible exact Has.here | with_reducible refine Has.there ?_)) h) (fun hwf => ?_)
        have hrl := rd_lenA q.d.l
        have hul2 : u.ps.length ≤ q.d.l.length := by have := congrArg List.length hul; rw [List.length_map] at this; omega
        refine WL_rd (Rd_move rfl) rfl rfl rfl ?_
        refine WL_rd (Rd_ext0 rfl) rfl rfl rfl ?_
        refine WL_rd (Rd_ext1 rfl) rfl rfl rfl ?_
        refine WL_rd (Rd_ext2 rfl) rfl rfl rfl ?_
        refine WL_rd (Rd_ext3 rfl) rfl rfl rfl ?_
        refine WL_rd (Rd_assign rfl) rfl rfl rfl ?_
        refine WL_rd (Rd_assign rfl) rfl rfl rfl ?_
        refine WL_rd (Rd_assign rfl) rfl rfl rfl ?_
        refine WL_rd (Rd_assign rfl) rfl rfl rfl ?_
        refine WL_end hK46 ?_
        refine WC_sr fun K47 hK47 => ?_
        refine WL_rd (Rd_move rfl) rfl rfl rfl ?_
        refine WL_rd (Rd_move rfl) rfl rfl rfl ?_
        refine WL_rd (Rd_nilCheck rfl) rfl rfl rfl ?_
        refine WL_rd (Rd_fieldAddr rfl fo37_2) rfl rfl rfl ?_
        refine WL_rd (Rd_load rfl tk35 (v := sl oa os.length oc)) rfl rfl rfl ?_
        refine WL_rd (Rd_move rfl) rfl rfl rfl ?_
        refine WL_ac (Ac_bs1 (xs := [sl u.a u.ps.length u.cap]) rfl ud35 zr22 sz22) rfl rfl rfl ?_
        rintro _ _ ⟨b138, rfl, rfl⟩
        refine WL_ac (Ac_append1 (f := eRL) encRL (⟨u.a, u.cap, u.ps⟩ : RL) rfl rfl ud35 ud35 el22) rfl rfl rfl ?_
        rintro _ _ ⟨a139, cap139, rfl, rfl⟩
        refine WL_rd (Rd_nilCheck rfl) rfl rfl rfl ?_
        refine WL_rd (Rd_fieldAddr rfl fo37_2) rfl rfl rfl ?_
        refine WL_ac0 (Ac_store1 rfl rfl sz35) rfl rfl ?_
        rintro _ _ rfl
        refine WL_end hK47 ?_
        refine WC_sr fun K48 hK48 => ?_
        refine WL_rd (Rd_move rfl) rfl rfl rfl ?_
        refine WL_rd (Rd_move rfl) rfl rfl rfl ?_
        refine WL_rd (Rd_nilCheck rfl) rfl rfl rfl ?_
        refine WL_rd (Rd_fieldAddr rfl fo37_3) rfl rfl rfl ?_
        refine WL_rd (Rd_load rfl tk35 (v := sl ma ms.length mc)) rfl rfl rfl ?_
        refine WL_rd (Rd_move rfl) rfl rfl rfl ?_
        refine WL_ac (Ac_bs1 (xs := [mgV w.a w.cap w.ps]) rfl ud35 zr22 sz22 (hv := mgV_cells _ _ _)) rfl rfl rfl ?_
        rintro _ _ ⟨b148, rfl, rfl⟩
        refine WL_ac (Ac_append1 (f := eML) encML (⟨w.a, w.cap, w.ps⟩ : RL) rfl rfl ud35 ud35 el22) rfl rfl rfl ?_
        rintro _ _ ⟨a149, cap149, rfl, rfl⟩
        refine WL_rd (Rd_nilCheck rfl) rfl rfl rfl ?_
        refine WL_rd (Rd_fieldAddr rfl fo37_3) rfl rfl rfl ?_
        refine WL_ac0 (Ac_store1 rfl rfl sz35) rfl rfl ?_
        rintro _ _ rfl
        rw [show arr u.a u.cap 1 23 ePB u.ps = (FRL 23) (⟨u.a, u.cap, u.ps⟩ : RL) from rfl]
        refine WL_snoc (FRL 23) os (⟨u.a, u.cap, u.ps⟩ : RL) ?_
        refine WL_starapp (FPB 5) (allP os) u.ps ?_
        rw [show allP os ++ u.ps = allP (os ++ [(⟨u.a, u.cap, u.ps⟩ : RL)]) from (allP_snoc os (⟨u.a, u.cap, u.ps⟩ : RL)).symm]
        rw [show arr w.a w.cap 1 23 ePB w.ps = (FRL 23) (⟨w.a, w.cap, w.ps⟩ : RL) from rfl]
        refine WL_pk0 ?_
        refine WL_pull ((FRL 23) (⟨w.a, w.cap, w.ps⟩ : RL)) ?_
        refine WL_pull (star (FPB 5) w.ps) ?_
        rw [show sep [star (FPB 5) w.ps, (FRL 23) (⟨w.a, w.cap, w.ps⟩ : RL)] = FML (⟨w.a, w.cap, w.ps⟩ : RL) from rfl]
        refine WL_snoc FML ms (⟨w.a, w.cap, w.ps⟩ : RL) ?_
        refine WL_end hK48 ?_
        refine WC_sr fun K49 hK49 => ?_
        refine WL_rd (Rd_move rfl) rfl rfl rfl ?_
        refine WL_rd (Rd_move rfl) rfl rfl rfl ?_
        refine WL_rd (Rd_isT (Rd_eqlU rfl rfl) (by simp)) rfl rfl rfl ?_
        refine WL_rd (Rd_move rfl) rfl rfl rfl ?_
        refine WL_rd (Rd_move rfl) rfl rfl rfl ?_
        refine WL_rd (Rd_move rfl) rfl rfl rfl ?_
        refine WL_rd (Rd_isT (Rd_eqlN rfl rfl) (by simp)) rfl rfl rfl ?_
        refine WL_rd (Rd_pickT rfl rfl) rfl rfl rfl ?_
        refine WL_rd (Rd_move rfl) rfl rfl rfl ?_
        refine WL_rd (Rd_move rfl) rfl rfl rfl ?_
        refine WL_rd (Rd_move rfl) rfl rfl rfl ?_
        refine WL_rd (Rd_isT (Rd_eqlN rfl rfl) (by simp)) rfl rfl rfl ?_
        refine WL_rd (Rd_pickT rfl rfl) rfl rfl rfl ?_
        refine WL_rd (Rd_move rfl) rfl rfl rfl ?_
        refine WL_rd (Rd_move rfl) rfl rfl rfl ?_
        refine WL_rd (Rd_pickT rfl rfl) rfl rfl rfl ?_
        refine WL_rd (Rd_assign rfl) rfl rfl rfl ?_
        refine WL_end hK49 ?_
        refine WC_ret ?_
        rw [show os.length + 1 = (os ++ [(⟨u.a, u.cap, u.ps⟩ : RL)]).length from by rw [List.length_append]; rfl, show ms.length + 1 = (ms ++ [(⟨w.a, w.cap, w.ps⟩ : RL)]).length from by rw [List.length_append]; rfl]
        exact hret.go ⟨⟨ps, pa, pc, ws, wa, wc, os ++ [(⟨u.a, u.cap, u.ps⟩ : RL)], a139, cap139, ms ++ [(⟨w.a, w.cap, w.ps⟩ : RL)], a149, cap149⟩, BKok_o (x := (⟨u.a, u.cap, u.ps⟩ : RL)) (y := (⟨w.a, w.cap, w.ps⟩ : RL)) hg0 (hul.trans hwl.symm) ⟨huf.1, huf.2, hub⟩ ⟨hwf.1, hwf.2, hwb⟩ hul2⟩ (Rs1 rfl rfl)
      · try simp only [decide_eq_true_eq, decide_eq_false_iff_not, Bool.not_eq_true', Bool.not_eq_false', Bool.not_eq_true, Bool.not_eq_false, Int.not_lt, Int.not_le, Nat.not_lt, Nat.not_le, Decidable.not_not, ne_eq] at hc3
        refine WC_sr fun K50 hK50 => ?_
        refine WL_rd (Rd_eql rfl rfl) rfl rfl rfl ?_
        refine WL_rd (Rd_assign rfl) rfl rfl rfl ?_
        refine WL_end hK50 ?_
        refine WC_cond rfl (fun hc4 => ?_) (fun hc4 => ?_)
        · try simp only [decide_eq_true_eq, decide_eq_false_iff_not, Bool.not_eq_true', Bool.not_eq_false', Bool.not_eq_true, Bool.not_eq_false, Int.not_lt, Int.not_le, Nat.not_lt, Nat.not_le, Decidable.not_not, ne_eq] at hc4
          refine WC_sr fun K51 hK51 => ?_
          refine WL_rd (Rd_loadg (vs := eKQ q) rfl tk46 (hl := by rw [eKQ_len]; omega) (hi := by rw [List.drop_zero, List.take_of_length_le (by rw [eKQ_len]; omega)])) rfl rfl rfl ?_
          refine WL_ac (Ac_call cf33 rfl (hs := keyL_ct (hq := hqx))) rfl rfl rfl ?_
          rintro _ _ ⟨⟨⟩, rfl, hA⟩
          simp only [List.cons_append, List.nil_append] at hA
          replace hA := hA.symm
          subst hA
          refine WL_rd (Rd_assign rfl) rfl rfl rfl ?_
          refine WL_end hK51 ?_
          refine WC_ret ?_
          exact hret.go ⟨⟨ps, pa, pc, ws, wa, wc, os, oa, oc, ms, ma, mc⟩, BKok_up hg0 (Nat.le_succ _) (Nat.le_add_right _ _)⟩ (Rs1 rfl rfl)
        · try simp only [decide_eq_true_eq, decide_eq_false_iff_not, Bool.not_eq_true', Bool.not_eq_false', Bool.not_eq_true, Bool.not_eq_false, Int.not_lt, Int.not_le, Nat.not_lt, Nat.not_le, Decidable.not_not, ne_eq] at hc4
          refine WC_sr fun K52 hK52 => ?_
          refine WL_rd (Rd_eql rfl rfl) rfl rfl rfl ?_
          refine WL_rd (Rd_assign rfl) rfl rfl rfl ?_
          refine WL_end hK52 ?_
          refine WC_cond rfl (fun hc5 => ?_) (fun hc5 => ?_)
          · try simp only [decide_eq_true_eq, decide_eq_false_iff_not, Bool.not_eq_true', Bool.not_eq_false', Bool.not_eq_true, Bool.not_eq_false, Int.not_lt, Int.not_le, Nat.not_lt, Nat.not_le, Decidable.not_not, ne_eq] at hc5
            refine WC_sr fun K53 hK53 => ?_
            refine WL_rd (Rd_move rfl) rfl rfl rfl ?_
            refine WL_ac (Ac_call cf15 rfl (hs := word_ct (t := q.tag))) rfl rfl rfl ?_
            rintro _ _ ⟨⟨⟩, rfl, hA⟩
            simp only [List.cons_append, List.nil_append] at hA
            replace hA := hA.symm
            subst hA
            refine WL_rd (Rd_move rfl) rfl rfl rfl ?_
            refine WL_ac (Ac_call cf34 rfl (hs := wordR_ct (t := q.tag))) rfl rfl rfl ?_
            rintro _ _ ⟨⟨⟩, rfl, hA⟩
            simp only [List.cons_append, List.nil_append] at hA
            replace hA := hA.symm
            subst hA
            refine WL_rd (Rd_isT (Rd_streq rfl rfl) (by simp)) rfl rfl rfl ?_
            refine WL_rd (Rd_assign rfl) rfl rfl rfl ?_
            refine WL_end hK53 ?_
            refine WC_ret ?_
            exact hret.go ⟨⟨ps, pa, pc, ws, wa, wc, os, oa, oc, ms, ma, mc⟩, BKok_up hg0 (Nat.le_succ _) (Nat.le_add_right _ _)⟩ (Rs1 rfl rfl)
          · try simp only [decide_eq_true_eq, decide_eq_false_iff_not, Bool.not_eq_true', Bool.not_eq_false', Bool.not_eq_true, Bool.not_eq_false, Int.not_lt, Int.not_le, Nat.not_lt, Nat.not_le, Decidable.not_not, ne_eq] at hc5
            refine WC_skip ?_
            refine Ps_next hK3 ?_
            refine WC_sr fun K54 hK54 => ?_
            refine WL_rd (Rd_loadg (vs := eKQ q) rfl tk46 (hl := by rw [eKQ_len]; omega) (hi := by rw [List.drop_zero, List.take_of_length_le (by rw [eKQ_len]; omega)])) rfl rfl rfl ?_
            refine WL_ac (Ac_call cf35 rfl (hs := each_ct (hq := hqx))) rfl rfl rfl ?_
            rintro _ _ ⟨⟨⟩, rfl, hA⟩
            simp only [List.cons_append, List.nil_append] at hA
            replace hA := hA.symm
            subst hA
            refine WL_rd (Rd_assign rfl) rfl rfl rfl ?_
            refine WL_end hK54 ?_
            refine WC_ret ?_
            exact hret.go ⟨⟨ps, pa, pc, ws, wa, wc, os, oa, oc, ms, ma, mc⟩, BKok_up hg0 (Nat.le_succ _) (Nat.le_add_right _ _)⟩ (Rs1 rfl rfl)
end Go.Proofs.Ytlcafifjhilleaa
