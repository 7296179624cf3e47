/-
  Contracts of functions that the claim reaches, or the logic and the plain laws that they rest on, or the row over them. (Conditions: none beyond the statement.)
-/
import Derived.Test.YtcookmkklcbbnaaHqCallC
set_option linter.all false
namespace Go.Proofs.Ytcookmkklcbbnaa
open Go.RowKit Go.SL Go.HpM Go.ShM 
set_option maxHeartbeats 1000000
set_option maxRecDepth 20000
set_option linter.all false
theorem cf58 : cfn Try.prog 58 = true := by kernel_rfl
theorem cf70 : cfn Try.prog 70 = true := by kernel_rfl
theorem fo77_2 : fo Try.prog 77 2 = some (2, 3) := by kernel_rfl
theorem fo77_4 : fo Try.prog 77 4 = some (4, 3) := by kernel_rfl
theorem sz4 : sz Try.prog 4 = some 1 := by kernel_rfl
theorem tk4 : tk Try.prog 4 = some none := by kernel_rfl
theorem tk70 : tk Try.prog 70 = some none := by kernel_rfl
theorem zr4 : zr Try.prog 4 = some [.bool false] := by kernel_rfl
theorem zr71 : zr Try.prog 71 = some [.slice none 0 0] := by kernel_rfl
/-- one call: on which heap, what, a thing, a ticket, how far -/
structure HO where
  on : Int
  call : Int
  th : Int
  tk : Int
  st : Int
def eHO (q : HO) : List Value := [.int .i64 q.on, .int .i64 q.call, .int .i64 q.th, .int .i64 q.tk, .int .i64 q.st]
theorem encHO : Enc eHO 5 := ⟨fun _ => rfl, fun q v hv => by simp only [eHO, List.mem_cons, List.not_mem_nil, or_false] at hv; rcases hv with rfl | rfl | rfl | rfl | rfl <;> rfl⟩
/-- a heap and the document's, as they stand -/
structure HG where
  rows : List (Nat × Int)
  L : List (Nat × Int)
  made : Nat
  a : Option Nat
  cap : Nat
theorem pl_unit (lt : Int → Int → Bool) (s : Unit) (rows : List (Nat × Int)) (made : Nat) (x : Int) : (pushM (pl lt) s rows made x).1 = (pushM (pl lt) () rows made x).1 := rfl

theorem gone_ct {by_ : Int} {hb rb c : Nat} {p : HG} {q : HO} (hR : Rl (ltz by_) p.rows p.L p.made := by assumption) (hpm : p.made ≤ 50000000 := by omega) : Ct Try.prog 57 [.pointer (some ⟨hb, 0, none⟩), .pointer (some ⟨rb, 0, none⟩), .agg (eHO q).toArray] [hI_hpA (.func (.func 45) #[] (caO c).toArray) hb p.rows p.made, JO c by_, cl rb 73 [.int .i64 by_, sl p.a p.L.length p.cap, .int .i64 ((p.made : Nat) : Int)], arr p.a p.cap 2 99 eIt p.L] (fun g : {g : HG // Rl (ltz by_) g.rows g.L g.made ∧ g.made ≤ p.made + 1} => .bool true) (fun g => [hI_hpA (.func (.func 45) #[] (caO c).toArray) hb g.val.rows g.val.made, JO c by_, cl rb 73 [.int .i64 by_, sl g.val.a g.val.L.length g.val.cap, .int .i64 ((g.val.made : Nat) : Int)], arr g.val.a g.val.cap 2 99 eIt g.val.L]) := by
  refine Ct_body (n := 92) Try.func57 rfl rfl rfl fun F w0 Q hret hnorm hp => ?_
  change WC _ _ _ _ _ _ _ (_ :: _ :: _ :: _ :: F)
  have hpl := hR.len
  have hgl := hR.gd.len
  refine WC_dfrs0 ?_
  refine WC_sr fun K1 hK1 => ?_
  refine WL_ac (Ac_box rfl rfl) rfl rfl rfl ?_
  rintro _ _ ⟨b3, rfl, rfl⟩
  refine WL_ac (Ac_box rfl rfl) rfl rfl rfl ?_
  rintro _ _ ⟨b4, rfl, rfl⟩
  refine WL_ac (Ac_box (xs := eHO q) rfl rfl) rfl rfl rfl ?_
  rintro _ _ ⟨b5, rfl, rfl⟩
  refine WL_ac (Ac_alloc zr4) rfl rfl rfl ?_
  rintro _ _ ⟨b6, rfl, rfl⟩
  refine WL_end hK1 ?_
  refine WC_sr fun K2 hK2 => ?_
  refine WL_rd (Rd_load rfl tk55) rfl rfl rfl ?_
  refine WL_ac (Ac_call cf58 rfl (hs := hI_all_hp (b := hb) (lf := 45) (caps := caO c) (rows := p.rows) (made := p.made))) rfl rfl rfl ?_
  rintro _ _ ⟨⟨u, tb, ta, tc, tm⟩, rfl, hA⟩
  simp only [List.cons_append, List.nil_append] at hA
  replace hA := hA.symm
  subst hA
  refine WL_rd (Rd_assign rfl) rfl rfl rfl ?_
  refine WL_end hK2 ?_
  refine WC_sr fun K3 hK3 => ?_
  refine WL_rd (Rd_load rfl tk70) rfl rfl rfl ?_
  refine WL_ac (Ac_call cf48 rfl (hs := rAllG_ct (b := rb) (by_ := by_) (rows := p.L) (made := p.made) (hU := hR.up))) rfl rfl rfl ?_
  rintro _ _ ⟨⟨wa, wc⟩, rfl, hA⟩
  simp only [List.cons_append, List.nil_append] at hA
  replace hA := hA.symm
  subst hA
  refine WL_fact (fun w h => arr_facts (a := wa) (cap := wc) (e := 2) (T := 99) (f := eIt) (l := (srt (ltz by_) p.L)) (by repeat (first | with_reducible exact Has.here | with_reducible refine Has.there ?_)) h) (fun hWSf => ?_)
  have hWS : Sv [arr wa wc 2 99 eIt (srt (ltz by_) p.L)] (sl wa (srt (ltz by_) p.L).length wc) 2 eIt (srt (ltz by_) p.L) (wa.map fun g => ⟨g, 0, none⟩) wc := Sv_own' encIt hWSf.1 hWSf.2
  have hsl := srt_len (lt := ltz by_) p.L
  refine WL_ac (Ac_alloc zr71) rfl rfl rfl ?_
  rintro _ _ ⟨b8, rfl, rfl⟩
  refine WL_ac0 (Ac_store1 rfl rfl sz71) rfl rfl ?_
  rintro _ _ rfl
  refine WL_end hK3 ?_
  refine WC_seq fun K4 hK4 => ?_
  refine WC_sr fun K5 hK5 => ?_
  refine WL_rd (Rd_move rfl) rfl rfl rfl ?_
  first | refine WL_rd (Rd_feq rfl rfl Try.underlying105) rfl rfl rfl ?_ | refine WL_rd (Rd_feq0 rfl rfl Try.underlying105) rfl rfl rfl ?_
  refine WL_end hK5 ?_
  refine WC_condF rfl ?_
  refine WC_skip ?_
  refine Ps_next hK4 ?_
  refine WC_seq fun K6 hK6 => ?_
  refine WC_sr fun K7 hK7 => ?_
  refine WL_ac (Ac_alloc zr3) rfl rfl rfl ?_
  rintro _ _ ⟨b9, rfl, rfl⟩
  refine WL_ac0 (Ac_store1 rfl rfl sz3) rfl rfl ?_
  rintro _ _ rfl
  refine WL_end hK7 ?_
  refine WC_block ?_
  rw [show cl b9 3 [.int .i64 0] = cl b9 3 [.int .i64 ((0 : Nat) : Int)] from rfl]
  refine WC_loopKD (σ := Nat × (List Nat) × Nat × HG) (fun ⟨r, Ds, r9, s⟩ => [(9, .pointer (some ⟨r9, 0, none⟩))]) (fun ⟨r, Ds, r9, s⟩ => [dfrs Ds, cl r9 3 [.int .i64 ((r : Nat) : Int)], hI_hpA (.func (.func 45) #[] (caO c).toArray) hb s.rows s.made, cl rb 73 [.int .i64 by_, sl s.a s.L.length s.cap, .int .i64 ((s.made : Nat) : Int)], arr s.a s.cap 2 99 eIt s.L]) (fun ⟨r, Ds, r9, s⟩ => r ≤ 3 ∧ Rl (ltz by_) s.rows s.L s.made ∧ s.made ≤ p.made + (if r = 0 then 0 else 1)) (fun ⟨r, Ds, r9, s⟩ => 3 - r) (fun ⟨r, Ds, r9, s⟩ => Ds.map dmk) ⟨0, [], b9, p⟩ [3, 4, 5, 6, 7, 8, 26, 27] (by repeat (first | exact Kep.nil | apply Kep.drop rfl | apply Kep.keep rfl)) (by (try dsimp only); repeat (first | with_reducible exact Gv.nil | (with_reducible apply Gv.cons; · (repeat (first | with_reducible exact Ext.here | with_reducible apply Ext.there))))) ?_ rfl ?_ Sub.refl ?_
  · exact ⟨Nat.zero_le _, hR, Nat.le_refl _⟩
  · (try dsimp only); exact (Wk.cons (by first | rfl | (simp only [List.length_append, List.length_cons, List.length_nil, List.length_replicate, Nat.zero_add]; rfl) | (simp; done)) Wk.nil)
  · rintro ⟨r, Ds, r9, s⟩ ⟨hr3, hRs, hsm⟩ K8 hK8
    simp only [List.cons_append, List.nil_append]
    refine WC_seq fun K9 hK9 => ?_
    refine WC_sr fun K10 hK10 => ?_
    refine WL_rd (Rd_load rfl tk3) rfl rfl rfl ?_
    refine WL_rd (Rd_lssN (j := 3) rfl rfl) rfl rfl rfl ?_
    refine WL_end hK10 ?_
    refine WC_cond rfl (fun hc1 => ?_) (fun hc1 => ?_)
    · try simp only [decide_eq_true_eq, decide_eq_false_iff_not, Bool.not_eq_true', Bool.not_eq_false', Bool.not_eq_true, Bool.not_eq_false, Int.not_lt, Int.not_le, Nat.not_lt, Nat.not_le, Decidable.not_not, ne_eq] at hc1
      refine WC_skip ?_
      refine Ps_next hK9 ?_
      refine WC_seq fun K11 hK11 => ?_
      refine WC_block ?_
      refine WC_sr fun K12 hK12 => ?_
      refine WL_ac (Ac_alloc zr3) rfl rfl rfl ?_
      rintro _ _ ⟨b10, rfl, rfl⟩
      refine WL_ac0 (Ac_store1 rfl rfl sz3) rfl rfl ?_
      rintro _ _ rfl
      refine WL_end hK12 ?_
      refine WC_seq fun K13 hK13 => ?_
      refine WC_sr fun K14 hK14 => ?_
      refine WL_rd (Rd_move rfl) rfl rfl rfl ?_
      refine WL_end hK14 ?_
      refine WC_block ?_
      rw [show cl b10 3 [.int .i64 0] = cl b10 3 [.int .i64 ((0 : Nat) : Int)] from rfl]
      refine WC_rf (f := 70) (caps := [.pointer (some ⟨u, 0, none⟩)]) rfl cf70 fun lrf_0 Drf_0 rrf_0 hstrf_0 hpdrf_0 hparf_0 hasrf_0 hbdrf_0 hfrrf_0 => ?_
      have hyrf_0 : ∀ (i : Nat) (x : Nat × Int), (srt (ltz by_) p.L)[i]? = some x → Yd Try.prog lrf_0 [.int .i64 ((x.1 : Nat) : Int), .int .i64 x.2] [(fun (i : Nat) => exA (fun (s' : HG) => Rl (ltz by_) s'.rows s'.L s'.made ∧ s'.made ≤ p.made + (if r = 0 ∧ i = 0 then 0 else 1)) (fun (s' : HG) => [lp lrf_0 rrf_0, cl u 55 [.pointer (some ⟨tb, 0, none⟩)], cl tb 85 [(.func (.func 45) #[] (caO c).toArray), sl ta p.rows.length tc, .map (some tm), .int .i64 ((0 : Nat) : Int)], arr ta tc 2 101 hI_itf p.rows, JO c by_, cl b10 3 [.int .i64 ((i : Nat) : Int)], cl r9 3 [.int .i64 ((r : Nat) : Int)], hI_hpA (.func (.func 45) #[] (caO c).toArray) hb s'.rows s'.made, cl rb 73 [.int .i64 by_, sl s'.a s'.L.length s'.cap, .int .i64 ((s'.made : Nat) : Int)], arr s'.a s'.cap 2 99 eIt s'.L, cl b8 71 [sl wa (srt (ltz by_) p.L).length wc], arr wa wc 2 99 eIt (srt (ltz by_) p.L), cl b3 55 [.pointer (some ⟨hb, 0, none⟩)], cl b4 70 [.pointer (some ⟨rb, 0, none⟩)], cl b5 77 (eHO q), cl b6 4 [.bool false]])) i] (fun b : Bool => .bool b) (fun b => [bif b then (fun (i : Nat) => exA (fun (s' : HG) => Rl (ltz by_) s'.rows s'.L s'.made ∧ s'.made ≤ p.made + (if r = 0 ∧ i = 0 then 0 else 1)) (fun (s' : HG) => [lp lrf_0 rrf_0, cl u 55 [.pointer (some ⟨tb, 0, none⟩)], cl tb 85 [(.func (.func 45) #[] (caO c).toArray), sl ta p.rows.length tc, .map (some tm), .int .i64 ((0 : Nat) : Int)], arr ta tc 2 101 hI_itf p.rows, JO c by_, cl b10 3 [.int .i64 ((i : Nat) : Int)], cl r9 3 [.int .i64 ((r : Nat) : Int)], hI_hpA (.func (.func 45) #[] (caO c).toArray) hb s'.rows s'.made, cl rb 73 [.int .i64 by_, sl s'.a s'.L.length s'.cap, .int .i64 ((s'.made : Nat) : Int)], arr s'.a s'.cap 2 99 eIt s'.L, cl b8 71 [sl wa (srt (ltz by_) p.L).length wc], arr wa wc 2 99 eIt (srt (ltz by_) p.L), cl b3 55 [.pointer (some ⟨hb, 0, none⟩)], cl b4 70 [.pointer (some ⟨rb, 0, none⟩)], cl b5 77 (eHO q), cl b6 4 [.bool false]])) (i + 1) else (exA (fun (⟨j', s'⟩ : Nat × HG) => r = 1 ∧ Rl (ltz by_) s'.rows s'.L s'.made ∧ s'.made ≤ p.made + 1) (fun (⟨j', s'⟩ : Nat × HG) => [lp lrf_0 (rcD rrf_0 (.exit 2)), cl u 55 [.pointer (some ⟨tb, 0, none⟩)], cl tb 85 [(.func (.func 45) #[] (caO c).toArray), sl ta p.rows.length tc, .map (some tm), .int .i64 ((0 : Nat) : Int)], arr ta tc 2 101 hI_itf p.rows, JO c by_, cl b10 3 [.int .i64 ((j' : Nat) : Int)], cl r9 3 [.int .i64 ((r : Nat) : Int)], hI_hpA (.func (.func 45) #[] (caO c).toArray) hb s'.rows s'.made, cl rb 73 [.int .i64 by_, sl s'.a s'.L.length s'.cap, .int .i64 ((s'.made : Nat) : Int)], arr s'.a s'.cap 2 99 eIt s'.L, cl b8 71 [sl wa (srt (ltz by_) p.L).length wc], arr wa wc 2 99 eIt (srt (ltz by_) p.L), cl b3 55 [.pointer (some ⟨hb, 0, none⟩)], cl b4 70 [.pointer (some ⟨rb, 0, none⟩)], cl b5 77 (eHO q), cl b6 4 [.bool false]]))]) := by
        intro i x hix
        refine Yd_ex ?_
        rintro s' ⟨hRs', hsm'⟩
        refine Yd_of (pre := [cl u 55 [.pointer (some ⟨tb, 0, none⟩)], cl tb 85 [(.func (.func 45) #[] (caO c).toArray), sl ta p.rows.length tc, .map (some tm), .int .i64 ((0 : Nat) : Int)], arr ta tc 2 101 hI_itf p.rows, JO c by_, cl b10 3 [.int .i64 ((i : Nat) : Int)], cl r9 3 [.int .i64 ((r : Nat) : Int)], hI_hpA (.func (.func 45) #[] (caO c).toArray) hb s'.rows s'.made, cl rb 73 [.int .i64 by_, sl s'.a s'.L.length s'.cap, .int .i64 ((s'.made : Nat) : Int)], arr s'.a s'.cap 2 99 eIt s'.L, cl b8 71 [sl wa (srt (ltz by_) p.L).length wc], arr wa wc 2 99 eIt (srt (ltz by_) p.L), cl b3 55 [.pointer (some ⟨hb, 0, none⟩)], cl b4 70 [.pointer (some ⟨rb, 0, none⟩)], cl b5 77 (eHO q), cl b6 4 [.bool false]]) hstrf_0 hpdrf_0 hparf_0 hasrf_0 hbdrf_0 hfrrf_0 rfl rfl fun F w0 Q K hp hend hbeg => ?_
        change WC _ _ _ _ _ _ ((27, .int .i64 x.2) :: (26, .int .i64 ((x.1 : Nat) : Int)) :: _) (_ :: _ :: _ :: _ :: _ :: _ :: _ :: _ :: _ :: _ :: _ :: _ :: _ :: _ :: _ :: _ :: F)
        dsimp only at *
        have hil := (List.getElem?_eq_some_iff.1 hix).1
        have hil2 := hil
        rw [srt_len] at hil2
        have hsm2 : s'.made ≤ p.made + 1 := by split at hsm' <;> omega
        have hsl2 := hRs'.len
        have hgl2 := hRs'.gd.len
        refine WC_sr fun K15 hK15 => ?_
        refine WL_rd (Rd_assign rfl) rfl rfl rfl ?_
        refine WL_end hK15 ?_
        refine WC_region ?_
        refine WL_rd (Rd_assign rfl) rfl rfl rfl ?_
        refine WL_nil ?_
        refine hbeg (by repeat (first | with_reducible exact Ext.here | with_reducible apply Ext.there)) ?_
        refine WC_block ?_
        refine WC_seq fun K16 hK16 => ?_
        refine WC_sr fun K17 hK17 => ?_
        refine WL_rd (Rd_load rfl tk3) rfl rfl rfl ?_
        refine WL_rd (Rd_load rfl tk71 (v := sl wa (srt (ltz by_) p.L).length wc)) rfl rfl rfl ?_
        refine WL_rd (Rd_len rfl rfl ud71) rfl rfl rfl ?_
        refine WL_rd (Rd_isF (Rd_geqN rfl rfl)) rfl rfl rfl ?_
        refine WL_rd (Rd_move rfl) rfl rfl rfl ?_
        refine WL_rd (Rd_load rfl tk71 (v := sl wa (srt (ltz by_) p.L).length wc)) rfl rfl rfl ?_
        refine WL_rd (Rd_load rfl tk3) rfl rfl rfl ?_
        refine WL_rd (Rd_index_sv i rfl rfl ud71 sz99 (hA := hWS) (hi := by omega)) rfl rfl rfl ?_
        refine WL_rd (Rd_fieldAddr rfl fo99_0) rfl rfl rfl ?_
        refine WL_rd (Rd_load_sv (f := eIt) (i := i) (j := 0) rfl tk3 (hA := hWS) (hl := hix)) rfl rfl rfl ?_
        refine WL_rd (Rd_move rfl) rfl rfl rfl ?_
        refine WL_rd (Rd_isF (Rd_neqN rfl rfl)) rfl rfl rfl ?_
        refine WL_rd (Rd_pickF rfl rfl) rfl rfl rfl ?_
        refine WL_rd (Rd_move rfl) rfl rfl rfl ?_
        refine WL_rd (Rd_load rfl tk71 (v := sl wa (srt (ltz by_) p.L).length wc)) rfl rfl rfl ?_
        refine WL_rd (Rd_load rfl tk3) rfl rfl rfl ?_
        refine WL_rd (Rd_index_sv i rfl rfl ud71 sz99 (hA := hWS) (hi := by omega)) rfl rfl rfl ?_
        refine WL_rd (Rd_fieldAddr rfl fo99_1) rfl rfl rfl ?_
        refine WL_rd (Rd_load_sv (f := eIt) (i := i) (j := 1) rfl tk3 (hA := hWS) (hl := hix)) rfl rfl rfl ?_
        refine WL_rd (Rd_move rfl) rfl rfl rfl ?_
        refine WL_rd (Rd_isF (Rd_neq rfl rfl)) rfl rfl rfl ?_
        refine WL_rd (Rd_pickF rfl rfl) rfl rfl rfl ?_
        refine WL_end hK17 ?_
        refine WC_condF rfl ?_
        refine WC_skip ?_
        refine Ps_next hK16 ?_
        refine WC_sr fun K18 hK18 => ?_
        refine WL_rd (Rd_load rfl tk3) rfl rfl rfl ?_
        refine WL_rd (Rd_addN (j := 1) rfl rfl) rfl rfl rfl ?_
        refine WL_ac0 (Ac_store1 rfl rfl sz3) rfl rfl ?_
        rintro _ _ rfl
        refine WL_end hK18 ?_
        refine WC_seq fun K19 hK19 => ?_
        refine WC_sr fun K20 hK20 => ?_
        refine WL_rd (Rd_load rfl tk3) rfl rfl rfl ?_
        refine WL_rd (Rd_eqlN (j := 1) rfl rfl) rfl rfl rfl ?_
        refine WL_rd (Rd_move rfl) rfl rfl rfl ?_
        refine WL_bool 54 rfl (fun hg21 => ?_) (fun hg21 => ?_)
        · try simp only [decide_eq_true_eq, decide_eq_false_iff_not, Bool.not_eq_true', Bool.not_eq_false', Bool.not_eq_true, Bool.not_eq_false, Int.not_lt, Int.not_le, Nat.not_lt, Nat.not_le, Decidable.not_not, ne_eq] at hg21
          refine WL_rd (Rd_load rfl tk3) rfl rfl rfl ?_
          refine WL_rd (Rd_fieldAddr rfl fo77_4) rfl rfl rfl ?_
          refine WL_rd (Rd_load rfl tk3 (v := .int .i64 q.st)) rfl rfl rfl ?_
          refine WL_rd (Rd_gtr rfl rfl) rfl rfl rfl ?_
          refine WL_rd (Rd_pickT rfl rfl) rfl rfl rfl ?_
          refine WL_end hK20 ?_
          refine WC_cond rfl (fun hc3 => ?_) (fun hc3 => ?_)
          · try simp only [decide_eq_true_eq, decide_eq_false_iff_not, Bool.not_eq_true', Bool.not_eq_false', Bool.not_eq_true, Bool.not_eq_false, Int.not_lt, Int.not_le, Nat.not_lt, Nat.not_le, Decidable.not_not, ne_eq] at hc3
            refine WC_exit ?_
            refine hend.exi 2 false rfl (by repeat (first | with_reducible exact Ext.here | with_reducible apply Ext.there)) ?_
            try simp only [List.cons_append, List.nil_append, cond_true, cond_false]
            exact imp_ex (⟨i + 1, s'⟩) (⟨by omega, hRs', by (try dsimp only); omega⟩) (by (try dsimp only); (try simp only [List.cons_append, List.nil_append]); repeat (first | with_reducible exact Sub.refl | with_reducible exact Sub.nil | with_reducible refine Sub.cons (by repeat (first | with_reducible exact Ext.here | with_reducible apply Ext.there)) ?_ | with_reducible refine Sub.tail ?_))
          · try simp only [decide_eq_true_eq, decide_eq_false_iff_not, Bool.not_eq_true', Bool.not_eq_false', Bool.not_eq_true, Bool.not_eq_false, Int.not_lt, Int.not_le, Nat.not_lt, Nat.not_le, Decidable.not_not, ne_eq] at hc3
            refine WC_skip ?_
            refine Ps_next hK19 ?_
            refine WC_sr fun K22 hK22 => ?_
            refine WL_rd (Rd_load rfl tk3) rfl rfl rfl ?_
            refine WL_rd (Rd_eqlN (j := 0) rfl rfl) rfl rfl rfl ?_
            refine WL_rd (Rd_move rfl) rfl rfl rfl ?_
            refine WL_bool 62 rfl (fun hg23 => ?_) (fun hg23 => ?_)
            · try simp only [decide_eq_true_eq, decide_eq_false_iff_not, Bool.not_eq_true', Bool.not_eq_false', Bool.not_eq_true, Bool.not_eq_false, Int.not_lt, Int.not_le, Nat.not_lt, Nat.not_le, Decidable.not_not, ne_eq] at hg23
              refine WL_rd (Rd_load rfl tk3) rfl rfl rfl ?_
              refine WL_rd (Rd_eqlN (j := 1) rfl rfl) rfl rfl rfl ?_
              refine WL_rd (Rd_pickT rfl rfl) rfl rfl rfl ?_
              refine WL_end hK22 ?_
              refine WC_cond rfl (fun hc4 => ?_) (fun hc4 => ?_)
              · try simp only [decide_eq_true_eq, decide_eq_false_iff_not, Bool.not_eq_true', Bool.not_eq_false', Bool.not_eq_true, Bool.not_eq_false, Int.not_lt, Int.not_le, Nat.not_lt, Nat.not_le, Decidable.not_not, ne_eq] at hc4
                refine WC_sr fun K24 hK24 => ?_
                refine WL_rd (Rd_load rfl tk55) rfl rfl rfl ?_
                refine WL_rd (Rd_fieldAddr rfl fo77_2) rfl rfl rfl ?_
                refine WL_rd (Rd_load rfl tk3 (v := .int .i64 q.th)) rfl rfl rfl ?_
                refine WL_ac (Ac_call cf25 rfl (hs := hI_push_hp hcfO (hlessO c by_) (b := hb) (s := ()) (rows := s'.rows) (made := s'.made) (x := q.th))) rfl rfl rfl ?_
                rintro _ _ ⟨⟨⟩, rfl, hA⟩
                simp only [List.cons_append, List.nil_append] at hA
                replace hA := hA.symm
                subst hA
                refine WL_rd (Rd_move rfl) rfl rfl rfl ?_
                refine WL_rd (Rd_ext0 rfl) rfl rfl rfl ?_
                refine WL_rd (Rd_ext1 rfl) rfl rfl rfl ?_
                refine WL_rd (Rd_assign rfl) rfl rfl rfl ?_
                refine WL_rd (Rd_assign rfl) rfl rfl rfl ?_
                refine WL_end hK24 ?_
                refine WC_sr fun K25 hK25 => ?_
                refine WL_rd (Rd_move rfl) rfl rfl rfl ?_
                refine WL_rd (Rd_neqN (i := 0) (j := 0) rfl rfl) rfl rfl rfl ?_
                refine WL_rd (Rd_move rfl) rfl rfl rfl ?_
                refine WL_rd (Rd_move rfl) rfl rfl rfl ?_
                refine WL_rd (Rd_load rfl tk70) rfl rfl rfl ?_
                refine WL_rd (Rd_fieldAddr rfl fo77_2) rfl rfl rfl ?_
                refine WL_rd (Rd_load rfl tk3 (v := .int .i64 q.th)) rfl rfl rfl ?_
                refine WL_ac (Ac_call cf47 rfl (hs := rPush_ct (b := rb) (by_ := by_) (rows := s'.L) (made := s'.made) (x := q.th))) rfl rfl rfl ?_
                rintro _ _ ⟨⟨a80, cap80⟩, rfl, hA⟩
                simp only [List.cons_append, List.nil_append] at hA
                replace hA := hA.symm
                subst hA
                refine WL_rd (Rd_isF (Rd_neqN rfl rfl)) rfl rfl rfl ?_
                refine WL_rd (Rd_pickF rfl rfl) rfl rfl rfl ?_
                refine WL_end hK25 ?_
                refine WC_condF rfl ?_
                refine WC_skip ?_
                refine hend.nrm true rfl (by repeat (first | with_reducible exact Ext.here | with_reducible apply Ext.there)) ?_
                try simp only [List.cons_append, List.nil_append, cond_true, cond_false]
                exact imp_ex ((⟨(pushM (pl (ltz by_)) () s'.rows s'.made q.th).1, s'.L ++ [(s'.made, q.th)], s'.made + 1, a80, cap80⟩ : HG)) (⟨hRs'.push (ltz_od by_) q.th, by (try dsimp only); rw [if_pos (by omega)] at hsm'; rw [if_neg (by omega)]; omega⟩) (by (try dsimp only); (try simp only [List.cons_append, List.nil_append]); repeat (first | with_reducible exact Sub.refl | with_reducible exact Sub.nil | with_reducible refine Sub.cons (by repeat (first | with_reducible exact Ext.here | with_reducible apply Ext.there)) ?_ | with_reducible refine Sub.tail ?_))
              · try simp only [decide_eq_true_eq, decide_eq_false_iff_not, Bool.not_eq_true', Bool.not_eq_false', Bool.not_eq_true, Bool.not_eq_false, Int.not_lt, Int.not_le, Nat.not_lt, Nat.not_le, Decidable.not_not, ne_eq] at hc4
                refine WC_skip ?_
                refine hend.nrm true rfl (by repeat (first | with_reducible exact Ext.here | with_reducible apply Ext.there)) ?_
                try simp only [List.cons_append, List.nil_append, cond_true, cond_false]
                exact imp_ex (s') (⟨hRs', by (try dsimp only); rw [if_neg (by omega)]; omega⟩) (by (try dsimp only); (try simp only [List.cons_append, List.nil_append]); repeat (first | with_reducible exact Sub.refl | with_reducible exact Sub.nil | with_reducible refine Sub.cons (by repeat (first | with_reducible exact Ext.here | with_reducible apply Ext.there)) ?_ | with_reducible refine Sub.tail ?_))
            · try simp only [decide_eq_true_eq, decide_eq_false_iff_not, Bool.not_eq_true', Bool.not_eq_false', Bool.not_eq_true, Bool.not_eq_false, Int.not_lt, Int.not_le, Nat.not_lt, Nat.not_le, Decidable.not_not, ne_eq] at hg23
              refine WL_skip rfl rfl rfl ?_
              refine WL_skip rfl rfl rfl ?_
              refine WL_rd (Rd_pickF rfl rfl) rfl rfl rfl ?_
              refine WL_end hK22 ?_
              refine WC_condF rfl ?_
              refine WC_skip ?_
              refine hend.nrm true rfl (by repeat (first | with_reducible exact Ext.here | with_reducible apply Ext.there)) ?_
              try simp only [List.cons_append, List.nil_append, cond_true, cond_false]
              exact imp_ex (s') (⟨hRs', by (try dsimp only); rw [if_neg (by omega)]; omega⟩) (by (try dsimp only); (try simp only [List.cons_append, List.nil_append]); repeat (first | with_reducible exact Sub.refl | with_reducible exact Sub.nil | with_reducible refine Sub.cons (by repeat (first | with_reducible exact Ext.here | with_reducible apply Ext.there)) ?_ | with_reducible refine Sub.tail ?_))
        · try simp only [decide_eq_true_eq, decide_eq_false_iff_not, Bool.not_eq_true', Bool.not_eq_false', Bool.not_eq_true, Bool.not_eq_false, Int.not_lt, Int.not_le, Nat.not_lt, Nat.not_le, Decidable.not_not, ne_eq] at hg21
          refine WL_skip rfl rfl rfl ?_
          refine WL_skip rfl rfl rfl ?_
          refine WL_skip rfl rfl rfl ?_
          refine WL_skip rfl rfl rfl ?_
          refine WL_rd (Rd_pickF rfl rfl) rfl rfl rfl ?_
          refine WL_end hK20 ?_
          refine WC_condF rfl ?_
          refine WC_skip ?_
          refine Ps_next hK19 ?_
          refine WC_sr fun K26 hK26 => ?_
          refine WL_rd (Rd_load rfl tk3) rfl rfl rfl ?_
          refine WL_rd (Rd_eqlN (j := 0) rfl rfl) rfl rfl rfl ?_
          refine WL_rd (Rd_move rfl) rfl rfl rfl ?_
          refine WL_bool 62 rfl (fun hg27 => ?_) (fun hg27 => ?_)
          · try simp only [decide_eq_true_eq, decide_eq_false_iff_not, Bool.not_eq_true', Bool.not_eq_false', Bool.not_eq_true, Bool.not_eq_false, Int.not_lt, Int.not_le, Nat.not_lt, Nat.not_le, Decidable.not_not, ne_eq] at hg27
            refine WL_rd (Rd_load rfl tk3) rfl rfl rfl ?_
            refine WL_rd (Rd_eqlN (j := 1) rfl rfl) rfl rfl rfl ?_
            refine WL_rd (Rd_pickT rfl rfl) rfl rfl rfl ?_
            refine WL_end hK26 ?_
            refine WC_cond rfl (fun hc4 => ?_) (fun hc4 => ?_)
            · try simp only [decide_eq_true_eq, decide_eq_false_iff_not, Bool.not_eq_true', Bool.not_eq_false', Bool.not_eq_true, Bool.not_eq_false, Int.not_lt, Int.not_le, Nat.not_lt, Nat.not_le, Decidable.not_not, ne_eq] at hc4
              refine WC_sr fun K28 hK28 => ?_
              refine WL_rd (Rd_load rfl tk55) rfl rfl rfl ?_
              refine WL_rd (Rd_fieldAddr rfl fo77_2) rfl rfl rfl ?_
              refine WL_rd (Rd_load rfl tk3 (v := .int .i64 q.th)) rfl rfl rfl ?_
              refine WL_ac (Ac_call cf25 rfl (hs := hI_push_hp hcfO (hlessO c by_) (b := hb) (s := ()) (rows := s'.rows) (made := s'.made) (x := q.th))) rfl rfl rfl ?_
              rintro _ _ ⟨⟨⟩, rfl, hA⟩
              simp only [List.cons_append, List.nil_append] at hA
              replace hA := hA.symm
              subst hA
              refine WL_rd (Rd_move rfl) rfl rfl rfl ?_
              refine WL_rd (Rd_ext0 rfl) rfl rfl rfl ?_
              refine WL_rd (Rd_ext1 rfl) rfl rfl rfl ?_
              refine WL_rd (Rd_assign rfl) rfl rfl rfl ?_
              refine WL_rd (Rd_assign rfl) rfl rfl rfl ?_
              refine WL_end hK28 ?_
              refine WC_sr fun K29 hK29 => ?_
              refine WL_rd (Rd_move rfl) rfl rfl rfl ?_
              refine WL_rd (Rd_neqN (i := 0) (j := 0) rfl rfl) rfl rfl rfl ?_
              refine WL_rd (Rd_move rfl) rfl rfl rfl ?_
              refine WL_rd (Rd_move rfl) rfl rfl rfl ?_
              refine WL_rd (Rd_load rfl tk70) rfl rfl rfl ?_
              refine WL_rd (Rd_fieldAddr rfl fo77_2) rfl rfl rfl ?_
              refine WL_rd (Rd_load rfl tk3 (v := .int .i64 q.th)) rfl rfl rfl ?_
              refine WL_ac (Ac_call cf47 rfl (hs := rPush_ct (b := rb) (by_ := by_) (rows := s'.L) (made := s'.made) (x := q.th))) rfl rfl rfl ?_
              rintro _ _ ⟨⟨a80, cap80⟩, rfl, hA⟩
              simp only [List.cons_append, List.nil_append] at hA
              replace hA := hA.symm
              subst hA
              refine WL_rd (Rd_isF (Rd_neqN rfl rfl)) rfl rfl rfl ?_
              refine WL_rd (Rd_pickF rfl rfl) rfl rfl rfl ?_
              refine WL_end hK29 ?_
              refine WC_condF rfl ?_
              refine WC_skip ?_
              refine hend.nrm true rfl (by repeat (first | with_reducible exact Ext.here | with_reducible apply Ext.there)) ?_
              try simp only [List.cons_append, List.nil_append, cond_true, cond_false]
              exact imp_ex ((⟨(pushM (pl (ltz by_)) () s'.rows s'.made q.th).1, s'.L ++ [(s'.made, q.th)], s'.made + 1, a80, cap80⟩ : HG)) (⟨hRs'.push (ltz_od by_) q.th, by (try dsimp only); rw [if_pos (by omega)] at hsm'; rw [if_neg (by omega)]; omega⟩) (by (try dsimp only); (try simp only [List.cons_append, List.nil_append]); repeat (first | with_reducible exact Sub.refl | with_reducible exact Sub.nil | with_reducible refine Sub.cons (by repeat (first | with_reducible exact Ext.here | with_reducible apply Ext.there)) ?_ | with_reducible refine Sub.tail ?_))
            · try simp only [decide_eq_true_eq, decide_eq_false_iff_not, Bool.not_eq_true', Bool.not_eq_false', Bool.not_eq_true, Bool.not_eq_false, Int.not_lt, Int.not_le, Nat.not_lt, Nat.not_le, Decidable.not_not, ne_eq] at hc4
              refine WC_skip ?_
              refine hend.nrm true rfl (by repeat (first | with_reducible exact Ext.here | with_reducible apply Ext.there)) ?_
              try simp only [List.cons_append, List.nil_append, cond_true, cond_false]
              exact imp_ex (s') (⟨hRs', by (try dsimp only); rw [if_neg (by omega)]; omega⟩) (by (try dsimp only); (try simp only [List.cons_append, List.nil_append]); repeat (first | with_reducible exact Sub.refl | with_reducible exact Sub.nil | with_reducible refine Sub.cons (by repeat (first | with_reducible exact Ext.here | with_reducible apply Ext.there)) ?_ | with_reducible refine Sub.tail ?_))
          · try simp only [decide_eq_true_eq, decide_eq_false_iff_not, Bool.not_eq_true', Bool.not_eq_false', Bool.not_eq_true, Bool.not_eq_false, Int.not_lt, Int.not_le, Nat.not_lt, Nat.not_le, Decidable.not_not, ne_eq] at hg27
            refine WL_skip rfl rfl rfl ?_
            refine WL_skip rfl rfl rfl ?_
            refine WL_rd (Rd_pickF rfl rfl) rfl rfl rfl ?_
            refine WL_end hK26 ?_
            refine WC_condF rfl ?_
            refine WC_skip ?_
            refine hend.nrm true rfl (by repeat (first | with_reducible exact Ext.here | with_reducible apply Ext.there)) ?_
            try simp only [List.cons_append, List.nil_append, cond_true, cond_false]
            exact imp_ex (s') (⟨hRs', by (try dsimp only); rw [if_neg (by omega)]; omega⟩) (by (try dsimp only); (try simp only [List.cons_append, List.nil_append]); repeat (first | with_reducible exact Sub.refl | with_reducible exact Sub.nil | with_reducible refine Sub.cons (by repeat (first | with_reducible exact Ext.here | with_reducible apply Ext.there)) ?_ | with_reducible refine Sub.tail ?_))
      refine ⟨_, _, _, _, _, hI_allIt (J := fun _ : Unit => JO c by_) (lt0 := (ltz by_)) (lf := 45) (caps := caO c) (u := u) (tb := tb) (ta := ta) (tc := tc) (tm := tm) (rows := p.rows) (L := p.L) (X := (fun (i : Nat) => exA (fun (s' : HG) => Rl (ltz by_) s'.rows s'.L s'.made ∧ s'.made ≤ p.made + (if r = 0 ∧ i = 0 then 0 else 1)) (fun (s' : HG) => [lp lrf_0 rrf_0, cl u 55 [.pointer (some ⟨tb, 0, none⟩)], cl tb 85 [(.func (.func 45) #[] (caO c).toArray), sl ta p.rows.length tc, .map (some tm), .int .i64 ((0 : Nat) : Int)], arr ta tc 2 101 hI_itf p.rows, JO c by_, cl b10 3 [.int .i64 ((i : Nat) : Int)], cl r9 3 [.int .i64 ((r : Nat) : Int)], hI_hpA (.func (.func 45) #[] (caO c).toArray) hb s'.rows s'.made, cl rb 73 [.int .i64 by_, sl s'.a s'.L.length s'.cap, .int .i64 ((s'.made : Nat) : Int)], arr s'.a s'.cap 2 99 eIt s'.L, cl b8 71 [sl wa (srt (ltz by_) p.L).length wc], arr wa wc 2 99 eIt (srt (ltz by_) p.L), cl b3 55 [.pointer (some ⟨hb, 0, none⟩)], cl b4 70 [.pointer (some ⟨rb, 0, none⟩)], cl b5 77 (eHO q), cl b6 4 [.bool false]]))) (JJ := (exA (fun (⟨j', s'⟩ : Nat × HG) => r = 1 ∧ Rl (ltz by_) s'.rows s'.L s'.made ∧ s'.made ≤ p.made + 1) (fun (⟨j', s'⟩ : Nat × HG) => [lp lrf_0 (rcD rrf_0 (.exit 2)), cl u 55 [.pointer (some ⟨tb, 0, none⟩)], cl tb 85 [(.func (.func 45) #[] (caO c).toArray), sl ta p.rows.length tc, .map (some tm), .int .i64 ((0 : Nat) : Int)], arr ta tc 2 101 hI_itf p.rows, JO c by_, cl b10 3 [.int .i64 ((j' : Nat) : Int)], cl r9 3 [.int .i64 ((r : Nat) : Int)], hI_hpA (.func (.func 45) #[] (caO c).toArray) hb s'.rows s'.made, cl rb 73 [.int .i64 by_, sl s'.a s'.L.length s'.cap, .int .i64 ((s'.made : Nat) : Int)], arr s'.a s'.cap 2 99 eIt s'.L, cl b8 71 [sl wa (srt (ltz by_) p.L).length wc], arr wa wc 2 99 eIt (srt (ltz by_) p.L), cl b3 55 [.pointer (some ⟨hb, 0, none⟩)], cl b4 70 [.pointer (some ⟨rb, 0, none⟩)], cl b5 77 (eHO q), cl b6 4 [.bool false]]))) (l := lrf_0) hcfO (hlessO c by_) (ltz_od by_) hR.pm hR.up hR.hp hR.gd.1 (by omega) (fun i R w h => exA_lend4.1 h) (fun i R w h => exA_lend4.2 h) hyrf_0, imp_rf (Y := []) ((s)) (⟨hRs, by (try dsimp only); split at hsm <;> split <;> omega⟩) (by repeat (first | with_reducible exact Gv.nil | (with_reducible apply Gv.cons; · (repeat (first | with_reducible exact Ext.here | with_reducible apply Ext.there))))) (by (try dsimp only); repeat (first | with_reducible exact Gv.nil | (with_reducible apply Gv.cons; · (repeat (first | with_reducible exact Ext.here | with_reducible apply Ext.there))))), ?_⟩
      · rintro (_ | _)
        · skip
          simp only [List.cons_append, List.nil_append, cond_true, cond_false]
          refine RfEnd_ex ?_
          rintro ⟨j', s'⟩ ⟨hJ, hRs', hsm'⟩
          simp only [List.cons_append, List.nil_append]
          refine RfEnd_jmp ?_
          refine WC_exit ?_
          refine Ps_next hK13 ?_
          refine WC_sr fun K30 hK30 => ?_
          refine WL_rd (Rd_load rfl tk3) rfl rfl rfl ?_
          refine WL_rd (Rd_neqN (j := 1) rfl rfl) rfl rfl rfl ?_
          refine WL_rd (Rd_move rfl) rfl rfl rfl ?_
          refine WL_bool 85 rfl (fun hg31 => ?_) (fun hg31 => ?_)
          · try simp only [decide_eq_true_eq, decide_eq_false_iff_not, Bool.not_eq_true', Bool.not_eq_false', Bool.not_eq_true, Bool.not_eq_false, Int.not_lt, Int.not_le, Nat.not_lt, Nat.not_le, Decidable.not_not, ne_eq] at hg31
            refine WL_rd (Rd_load rfl tk3) rfl rfl rfl ?_
            refine WL_rd (Rd_load rfl tk71 (v := sl wa (srt (ltz by_) p.L).length wc)) rfl rfl rfl ?_
            refine WL_rd (Rd_len rfl rfl ud71) rfl rfl rfl ?_
            refine WL_rd (Rd_isF (Rd_neqN rfl rfl)) rfl rfl rfl ?_
            refine WL_rd (Rd_pickT rfl rfl) rfl rfl rfl ?_
            refine WL_end hK30 ?_
            refine WC_condF rfl ?_
            refine WC_skip ?_
            refine Ps_next hK11 ?_
            refine WC_seq fun K32 hK32 => ?_
            refine WC_sr fun K33 hK33 => ?_
            refine WL_rd (Rd_load rfl tk3) rfl rfl rfl ?_
            refine WL_end hK33 ?_
            refine WC_region ?_
            refine WL_ac (Ac_alloc zr3) rfl rfl rfl ?_
            rintro _ _ ⟨b9, rfl, rfl⟩
            refine WL_ac0 (Ac_store1 rfl rfl sz3) rfl rfl ?_
            rintro _ _ rfl
            refine WL_nil ?_
            refine Ps_next hK32 ?_
            refine WC_region ?_
            refine WL_rd (Rd_load rfl tk3) rfl rfl rfl ?_
            refine WL_rd (Rd_addN (j := 1) rfl rfl) rfl rfl rfl ?_
            refine WL_ac0 (Ac_store1 rfl rfl sz3) rfl rfl ?_
            rintro _ _ rfl
            refine WL_nil ?_
            refine Ps_dfrs (D := Drf_0) ?_
            refine Ps_wk (by (try simp only [List.cons_append, List.nil_append]); repeat (first | with_reducible exact Wk.nil | refine Wk.cons (by first | rfl | (simp only [List.length_append, List.length_cons, List.length_nil, List.length_replicate, Nat.zero_add]; rfl) | (simp; done)) ?_)) (by (try simp only [List.cons_append, List.nil_append]); repeat (first | with_reducible exact Sub.refl | with_reducible exact Sub.nil | with_reducible refine Sub.cons (by repeat (first | with_reducible exact Ext.here | with_reducible apply Ext.there)) ?_ | with_reducible refine Sub.tail ?_)) (hK8 ⟨r + 1, Drf_0 :: Ds, b9, s'⟩ (⟨by (try dsimp only); omega, hRs', by (try dsimp only); rw [if_neg (by omega)]; (try dsimp only at hsm'); first | omega | (split at hsm' <;> omega)⟩) (by (try dsimp only); omega))
          · try simp only [decide_eq_true_eq, decide_eq_false_iff_not, Bool.not_eq_true', Bool.not_eq_false', Bool.not_eq_true, Bool.not_eq_false, Int.not_lt, Int.not_le, Nat.not_lt, Nat.not_le, Decidable.not_not, ne_eq] at hg31
            refine WL_skip rfl rfl rfl ?_
            refine WL_skip rfl rfl rfl ?_
            refine WL_skip rfl rfl rfl ?_
            refine WL_skip rfl rfl rfl ?_
            refine WL_rd (Rd_pickF rfl rfl) rfl rfl rfl ?_
            refine WL_end hK30 ?_
            refine WC_condF rfl ?_
            refine WC_skip ?_
            refine Ps_next hK11 ?_
            refine WC_seq fun K34 hK34 => ?_
            refine WC_sr fun K35 hK35 => ?_
            refine WL_rd (Rd_load rfl tk3) rfl rfl rfl ?_
            refine WL_end hK35 ?_
            refine WC_region ?_
            refine WL_ac (Ac_alloc zr3) rfl rfl rfl ?_
            rintro _ _ ⟨b9, rfl, rfl⟩
            refine WL_ac0 (Ac_store1 rfl rfl sz3) rfl rfl ?_
            rintro _ _ rfl
            refine WL_nil ?_
            refine Ps_next hK34 ?_
            refine WC_region ?_
            refine WL_rd (Rd_load rfl tk3) rfl rfl rfl ?_
            refine WL_rd (Rd_addN (j := 1) rfl rfl) rfl rfl rfl ?_
            refine WL_ac0 (Ac_store1 rfl rfl sz3) rfl rfl ?_
            rintro _ _ rfl
            refine WL_nil ?_
            refine Ps_dfrs (D := Drf_0) ?_
            refine Ps_wk (by (try simp only [List.cons_append, List.nil_append]); repeat (first | with_reducible exact Wk.nil | refine Wk.cons (by first | rfl | (simp only [List.length_append, List.length_cons, List.length_nil, List.length_replicate, Nat.zero_add]; rfl) | (simp; done)) ?_)) (by (try simp only [List.cons_append, List.nil_append]); repeat (first | with_reducible exact Sub.refl | with_reducible exact Sub.nil | with_reducible refine Sub.cons (by repeat (first | with_reducible exact Ext.here | with_reducible apply Ext.there)) ?_ | with_reducible refine Sub.tail ?_)) (hK8 ⟨r + 1, Drf_0 :: Ds, b9, s'⟩ (⟨by (try dsimp only); omega, hRs', by (try dsimp only); rw [if_neg (by omega)]; (try dsimp only at hsm'); first | omega | (split at hsm' <;> omega)⟩) (by (try dsimp only); omega))
        · simp only [List.cons_append, List.nil_append, cond_true, cond_false]
          refine RfEnd_ex ?_
          rintro s' ⟨hRs', hsm'⟩
          simp only [List.cons_append, List.nil_append]
          refine RfEnd_nrm hstrf_0 hpdrf_0 ?_
          refine Ps_next hK13 ?_
          refine WC_sr fun K36 hK36 => ?_
          refine WL_rd (Rd_load rfl tk3) rfl rfl rfl ?_
          refine WL_rd (Rd_neqN (j := 1) rfl rfl) rfl rfl rfl ?_
          refine WL_rd (Rd_move rfl) rfl rfl rfl ?_
          refine WL_bool 85 rfl (fun hg37 => ?_) (fun hg37 => ?_)
          · try simp only [decide_eq_true_eq, decide_eq_false_iff_not, Bool.not_eq_true', Bool.not_eq_false', Bool.not_eq_true, Bool.not_eq_false, Int.not_lt, Int.not_le, Nat.not_lt, Nat.not_le, Decidable.not_not, ne_eq] at hg37
            refine WL_rd (Rd_load rfl tk3) rfl rfl rfl ?_
            refine WL_rd (Rd_load rfl tk71 (v := sl wa (srt (ltz by_) p.L).length wc)) rfl rfl rfl ?_
            refine WL_rd (Rd_len rfl rfl ud71) rfl rfl rfl ?_
            refine WL_rd (Rd_isF (Rd_neqN rfl rfl)) rfl rfl rfl ?_
            refine WL_rd (Rd_pickT rfl rfl) rfl rfl rfl ?_
            refine WL_end hK36 ?_
            refine WC_condF rfl ?_
            refine WC_skip ?_
            refine Ps_next hK11 ?_
            refine WC_seq fun K38 hK38 => ?_
            refine WC_sr fun K39 hK39 => ?_
            refine WL_rd (Rd_load rfl tk3) rfl rfl rfl ?_
            refine WL_end hK39 ?_
            refine WC_region ?_
            refine WL_ac (Ac_alloc zr3) rfl rfl rfl ?_
            rintro _ _ ⟨b9, rfl, rfl⟩
            refine WL_ac0 (Ac_store1 rfl rfl sz3) rfl rfl ?_
            rintro _ _ rfl
            refine WL_nil ?_
            refine Ps_next hK38 ?_
            refine WC_region ?_
            refine WL_rd (Rd_load rfl tk3) rfl rfl rfl ?_
            refine WL_rd (Rd_addN (j := 1) rfl rfl) rfl rfl rfl ?_
            refine WL_ac0 (Ac_store1 rfl rfl sz3) rfl rfl ?_
            rintro _ _ rfl
            refine WL_nil ?_
            refine Ps_dfrs (D := Drf_0) ?_
            refine Ps_wk (by (try simp only [List.cons_append, List.nil_append]); repeat (first | with_reducible exact Wk.nil | refine Wk.cons (by first | rfl | (simp only [List.length_append, List.length_cons, List.length_nil, List.length_replicate, Nat.zero_add]; rfl) | (simp; done)) ?_)) (by (try simp only [List.cons_append, List.nil_append]); repeat (first | with_reducible exact Sub.refl | with_reducible exact Sub.nil | with_reducible refine Sub.cons (by repeat (first | with_reducible exact Ext.here | with_reducible apply Ext.there)) ?_ | with_reducible refine Sub.tail ?_)) (hK8 ⟨r + 1, Drf_0 :: Ds, b9, s'⟩ (⟨by (try dsimp only); omega, hRs', by (try dsimp only); rw [if_neg (by omega)]; (try dsimp only at hsm'); first | omega | (split at hsm' <;> omega)⟩) (by (try dsimp only); omega))
          · try simp only [decide_eq_true_eq, decide_eq_false_iff_not, Bool.not_eq_true', Bool.not_eq_false', Bool.not_eq_true, Bool.not_eq_false, Int.not_lt, Int.not_le, Nat.not_lt, Nat.not_le, Decidable.not_not, ne_eq] at hg37
            refine WL_skip rfl rfl rfl ?_
            refine WL_skip rfl rfl rfl ?_
            refine WL_skip rfl rfl rfl ?_
            refine WL_skip rfl rfl rfl ?_
            refine WL_rd (Rd_pickF rfl rfl) rfl rfl rfl ?_
            refine WL_end hK36 ?_
            refine WC_condF rfl ?_
            refine WC_skip ?_
            refine Ps_next hK11 ?_
            refine WC_seq fun K40 hK40 => ?_
            refine WC_sr fun K41 hK41 => ?_
            refine WL_rd (Rd_load rfl tk3) rfl rfl rfl ?_
            refine WL_end hK41 ?_
            refine WC_region ?_
            refine WL_ac (Ac_alloc zr3) rfl rfl rfl ?_
            rintro _ _ ⟨b9, rfl, rfl⟩
            refine WL_ac0 (Ac_store1 rfl rfl sz3) rfl rfl ?_
            rintro _ _ rfl
            refine WL_nil ?_
            refine Ps_next hK40 ?_
            refine WC_region ?_
            refine WL_rd (Rd_load rfl tk3) rfl rfl rfl ?_
            refine WL_rd (Rd_addN (j := 1) rfl rfl) rfl rfl rfl ?_
            refine WL_ac0 (Ac_store1 rfl rfl sz3) rfl rfl ?_
            rintro _ _ rfl
            refine WL_nil ?_
            refine Ps_dfrs (D := Drf_0) ?_
            refine Ps_wk (by (try simp only [List.cons_append, List.nil_append]); repeat (first | with_reducible exact Wk.nil | refine Wk.cons (by first | rfl | (simp only [List.length_append, List.length_cons, List.length_nil, List.length_replicate, Nat.zero_add]; rfl) | (simp; done)) ?_)) (by (try simp only [List.cons_append, List.nil_append]); repeat (first | with_reducible exact Sub.refl | with_reducible exact Sub.nil | with_reducible refine Sub.cons (by repeat (first | with_reducible exact Ext.here | with_reducible apply Ext.there)) ?_ | with_reducible refine Sub.tail ?_)) (hK8 ⟨r + 1, Drf_0 :: Ds, b9, s'⟩ (⟨by (try dsimp only); omega, hRs', by (try dsimp only); rw [if_neg (by omega)]; (try dsimp only at hsm'); first | omega | (split at hsm' <;> omega)⟩) (by (try dsimp only); omega))
    · try simp only [decide_eq_true_eq, decide_eq_false_iff_not, Bool.not_eq_true', Bool.not_eq_false', Bool.not_eq_true, Bool.not_eq_false, Int.not_lt, Int.not_le, Nat.not_lt, Nat.not_le, Decidable.not_not, ne_eq] at hc1
      refine WC_exit ?_
      refine Ps_next hK6 ?_
      refine WC_sr fun K42 hK42 => ?_
      refine WL_ac0 (Ac_store1 rfl rfl sz4) rfl rfl ?_
      rintro _ _ rfl
      refine WL_end hK42 ?_
      refine WC_ret ?_
      refine hret.goSE ⟨s, hRs, by split at hsm <;> omega⟩ ?_ rfl
      exact Rs1cs rfl rfl tk4
end Go.Proofs.Ytcookmkklcbbnaa
