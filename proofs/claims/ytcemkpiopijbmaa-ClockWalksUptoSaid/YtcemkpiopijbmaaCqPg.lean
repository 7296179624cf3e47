/-
  Contracts of functions that the claim reaches, or the logic and the plain laws that they rest on, or the row over them. (Conditions: none beyond the statement.)
-/
import Derived.Test.YtcemkpiopijbmaaCqPf
set_option linter.all false
namespace Go.Proofs.Ytcemkpiopijbmaa
open Go.RowKit Go.SL Go.HpM Go.ShM 
set_option maxHeartbeats 1000000
set_option maxRecDepth 20000
set_option linter.all false
theorem cf33 : cfn Try.prog 33 = true := by kernel_rfl
theorem cf34 : cfn Try.prog 34 = true := by kernel_rfl
theorem cf69 : cfn Try.prog 69 = true := by kernel_rfl
theorem sz78 : sz Try.prog 78 = some 1 := by kernel_rfl
theorem tk78 : tk Try.prog 78 = some none := by kernel_rfl
theorem zr78 : zr Try.prog 78 = some [.nilFunc] := by kernel_rfl
theorem walked_ct {c hb made m : Nat} {now : Int} {rows : List (Nat × (Int × Int × ByteArray))} {L : List (Nat × DW)} {W : Asn} {v : Value} {ao : Option Addr} {cap : Nat} (hC : Ck kS_lt rows L made) (hW : Sv [W] v 3 eDR (srt dlt L) ao cap) (hm1 : 1 ≤ m) (hm : made ≤ 900000000 := by omega) (hmm : m ≤ 900000000 := by omega) : Ct Try.prog 37 [.pointer (some ⟨c, 0, none⟩), v, .int .i64 ((m : Nat) : Int)] [cl c 121 [.int .i64 now, .int .i64 ((made : Nat) : Int), .pointer (some ⟨hb, 0, none⟩)], kS_h_hpA (.func (.func 59) #[] ([] : List Value).toArray) hb rows made, emp, W] (fun _ : Unit => .bool true) (fun _ => [cl c 121 [.int .i64 now, .int .i64 ((made : Nat) : Int), .pointer (some ⟨hb, 0, none⟩)], kS_h_hpA (.func (.func 59) #[] ([] : List Value).toArray) hb rows made, emp, W]) := by
  refine Ct_body (n := 74) Try.func37 rfl rfl rfl fun F w0 Q hret hnorm hp => ?_
  change WC _ _ _ _ _ _ _ (_ :: _ :: _ :: _ :: F)
  have hsl : (srt dlt L).length = L.length := srt_len L
  have hlm : (L.map toD).length = L.length := List.length_map _
  have hlr := hC.len
  have hlmd := hC.made
  refine WC_sr fun K1 hK1 => ?_
  refine WL_ac (Ac_box (xs := [v]) rfl (by rw [hW.val]; rfl)) rfl rfl rfl ?_
  rintro _ _ ⟨b4, rfl, rfl⟩
  refine WL_ac (Ac_box (xs := [.int .i64 ((m : Nat) : Int)]) rfl rfl) rfl rfl rfl ?_
  rintro _ _ ⟨b5, rfl, rfl⟩
  refine WL_ac (Ac_alloc zr4) rfl rfl rfl ?_
  rintro _ _ ⟨b6, rfl, rfl⟩
  refine WL_end hK1 ?_
  refine WC_sr fun K2 hK2 => ?_
  refine WL_rd (Rd_move rfl) rfl rfl rfl ?_
  refine WL_ac (Ac_call cf33 rfl (hs := kS_all (c := c) (hb := hb) (made := made) (now := now) (rows := rows))) rfl rfl rfl ?_
  rintro _ _ ⟨⟨cw, u, tb, ta, tc, tm⟩, rfl, hA⟩
  simp only [List.cons_append, List.nil_append] at hA
  replace hA := hA.symm
  subst hA
  refine WL_ac (Ac_alloc zr78) rfl rfl rfl ?_
  rintro _ _ ⟨b7, rfl, rfl⟩
  refine WL_ac0 (Ac_store1 rfl rfl sz78) rfl rfl ?_
  rintro _ _ rfl
  refine WL_end hK2 ?_
  refine WC_seq fun K3 hK3 => ?_
  refine WC_sr fun K4 hK4 => ?_
  refine WL_rd (Rd_load rfl tk78 (v := .func (.func 69) #[] #[.pointer (some ⟨cw, 0, none⟩)])) rfl rfl rfl ?_
  first | refine WL_rd (Rd_feq rfl rfl Try.underlying78) rfl rfl rfl ?_ | refine WL_rd (Rd_feq0 rfl rfl Try.underlying78) rfl rfl rfl ?_
  refine WL_end hK4 ?_
  refine WC_condF rfl ?_
  refine WC_skip ?_
  refine Ps_next hK3 ?_
  refine WC_sr fun K5 hK5 => ?_
  refine WL_ac (Ac_alloc zr3) rfl rfl rfl ?_
  rintro _ _ ⟨b8, rfl, rfl⟩
  refine WL_ac0 (Ac_store1 rfl rfl sz3) rfl rfl ?_
  rintro _ _ rfl
  refine WL_end hK5 ?_
  refine WC_seq fun K6 hK6 => ?_
  refine WC_sr fun K7 hK7 => ?_
  refine WL_rd (Rd_load rfl tk78 (v := .func (.func 69) #[] #[.pointer (some ⟨cw, 0, none⟩)])) rfl rfl rfl ?_
  refine WL_end hK7 ?_
  refine WC_block ?_
  rw [show cl b8 3 [.int .i64 0] = cl b8 3 [.int .i64 ((0 : Nat) : Int)] from rfl]
  refine WC_rf (f := 69) (caps := [.pointer (some ⟨cw, 0, none⟩)]) rfl cf69 fun lrf_0 Drf_0 rrf_0 hstrf_0 hpdrf_0 hparf_0 hasrf_0 hbdrf_0 hfrrf_0 => ?_
  have hyrf_0 : ∀ (i : Nat) (x : Nat × (Int × Int × ByteArray)), (srt kS_lt (L.map toD))[i]? = some x → Yd Try.prog lrf_0 [.agg [.int .i64 x.2.1, .int .i64 x.2.2.1, .string x.2.2.2].toArray] [(fun (i : Nat) => exA (fun (_u : Unit) => True) (fun (_u : Unit) => [lp lrf_0 rrf_0, LCk cw u tb ta tc tm rows, cl b8 3 [.int .i64 ((i : Nat) : Int)], cl b5 3 [.int .i64 ((m : Nat) : Int)], cl b6 4 [.bool false], cl b4 75 [v], W])) i] (fun b : Bool => .bool b) (fun b => [bif b then (fun (i : Nat) => exA (fun (_u : Unit) => True) (fun (_u : Unit) => [lp lrf_0 rrf_0, LCk cw u tb ta tc tm rows, cl b8 3 [.int .i64 ((i : Nat) : Int)], cl b5 3 [.int .i64 ((m : Nat) : Int)], cl b6 4 [.bool false], cl b4 75 [v], W])) (i + 1) else (exA (fun (n' : Nat) => m ≤ n' ∧ n' ≤ L.length) (fun (n' : Nat) => [lp lrf_0 (rcD rrf_0 (.exit 0)), LCk cw u tb ta tc tm rows, cl b8 3 [.int .i64 ((n' : Nat) : Int)], cl b5 3 [.int .i64 ((m : Nat) : Int)], cl b6 4 [.bool false], cl b4 75 [v], W]))]) := by
    intro i x hix
    refine Yd_ex ?_
    rintro _u hφ
    refine Yd_of (pre := [LCk cw u tb ta tc tm rows, cl b8 3 [.int .i64 ((i : Nat) : Int)], cl b5 3 [.int .i64 ((m : Nat) : Int)], cl b6 4 [.bool false], cl b4 75 [v], W]) hstrf_0 hpdrf_0 hparf_0 hasrf_0 hbdrf_0 hfrrf_0 rfl rfl fun F w0 Q K hp hend hbeg => ?_
    change WC _ _ _ _ _ _ ((17, .agg [.int .i64 x.2.1, .int .i64 x.2.2.1, .string x.2.2.2].toArray) :: _) (_ :: _ :: _ :: _ :: _ :: _ :: _ :: F)
    dsimp only at *
    obtain ⟨y, hyi, rfl⟩ := hC.all kS_lt_od kS_cm hix
    have hil := (List.getElem?_eq_some_iff.1 hyi).1
    refine WC_region ?_
    refine WL_ac (Ac_alloc zr62) rfl rfl rfl ?_
    rintro _ _ ⟨b9, rfl, rfl⟩
    refine WL_ac0 (Ac_store (ys := [.int .i64 (toD y).2.1, .int .i64 (toD y).2.2.1, .string (toD y).2.2.2]) rfl rfl sz62 (h1 := kS_encD.one (toD y).2) (hr := rfl)) rfl rfl ?_
    rintro _ _ rfl
    refine WL_nil ?_
    refine hbeg (by repeat (first | with_reducible exact Ext.here | with_reducible apply Ext.there)) ?_
    refine WC_block ?_
    refine WC_seq fun K8 hK8 => ?_
    refine WC_seq fun K9 hK9 => ?_
    refine WC_drawA mix (fun i => ([2, 2, 2, 2, 2, 2, 2, 2, 2, 2, 1, 2, 2] : List Nat).getD i 0) ?_
    refine WJ_tk 0 (Rd_load rfl tk3) hp ?_ rfl (by kernel_rfl) rfl rfl rfl
    refine WJ_tk 1 (Rd_load rfl tk75 (v := v)) hp ?_ rfl (by kernel_rfl) rfl rfl rfl
    refine WJ_takeP 2 rfl (by kernel_rfl) (Rd_len_sv rfl rfl ud75 (hA := hW)) rfl rfl rfl (hp _ _) ?_
    refine WJ_takeP 3 rfl (by kernel_rfl) (Rd_isF (Rd_geqN rfl rfl)) rfl rfl rfl (hp _ _) ?_
    refine WJ_takeP 4 rfl (by kernel_rfl) (Rd_move rfl) rfl rfl rfl (hp _ _) ?_
    refine WJ_tk 5 (Rd_loadg (vs := [.int .i64 (toD y).2.1, .int .i64 (toD y).2.2.1, .string (toD y).2.2.2]) rfl tk62 (hi := rfl)) hp ?_ rfl (by kernel_rfl) rfl rfl rfl
    refine WJ_tk 6 (Rd_load rfl tk75 (v := v)) hp ?_ rfl (by kernel_rfl) rfl rfl rfl
    refine WJ_tk 7 (Rd_load rfl tk3) hp ?_ rfl (by kernel_rfl) rfl rfl rfl
    refine WJ_takeP 8 rfl (by kernel_rfl) (Rd_index_sv i rfl rfl ud75 sz81 (hA := hW) (hi := by omega)) rfl rfl rfl (hp _ _) ?_
    refine WJ_tk 9 (Rd_loadg_sv (f := eDR) (i := i) rfl tk81 (hA := hW) (hl := hyi)) hp ?_ rfl (by kernel_rfl) rfl rfl rfl
    refine WJ_all (rs := [10]) (by kernel_rfl) rfl ?_
    refine WI_one ?_
    refine WI_ac rfl (Ac_call cf34 rfl (hs := alike_ct (y := y))) rfl rfl rfl rfl ?_
    rintro _ _ ⟨⟨⟩, rfl, hA⟩
    simp only [List.cons_append, List.nil_append] at hA
    replace hA := hA.symm
    subst hA
    refine ⟨(fun _ => (by repeat (first | with_reducible exact Sub.refl | with_reducible exact Sub.nil | with_reducible refine Sub.cons (by repeat (first | with_reducible exact Ext.here | with_reducible apply Ext.there)) ?_ | with_reducible refine Sub.tail ?_))), ?_⟩
    refine WJ_takeP 11 rfl (by kernel_rfl) (Rd_not rfl) rfl rfl rfl (hp _ _) ?_
    refine WJ_takeP 12 rfl (by kernel_rfl) (Rd_pickF rfl rfl) rfl rfl rfl (hp _ _) ?_
    refine WJ_done (by kernel_rfl) ?_
    refine Ps_next hK9 ?_
    refine WC_condF rfl ?_
    refine WC_skip ?_
    refine Ps_next hK8 ?_
    refine WC_sr fun K10 hK10 => ?_
    refine WL_rd (Rd_load rfl tk3) rfl rfl rfl ?_
    refine WL_rd (Rd_addN (j := 1) rfl rfl) rfl rfl rfl ?_
    refine WL_ac0 (Ac_store1 rfl rfl sz3) rfl rfl ?_
    rintro _ _ rfl
    refine WL_end hK10 ?_
    refine WC_sr fun K11 hK11 => ?_
    refine WL_rd (Rd_load rfl tk3) rfl rfl rfl ?_
    refine WL_rd (Rd_load rfl tk3) rfl rfl rfl ?_
    refine WL_rd (Rd_geqN rfl rfl) rfl rfl rfl ?_
    refine WL_end hK11 ?_
    refine WC_cond rfl (fun hc2 => ?_) (fun hc2 => ?_)
    · try simp only [decide_eq_true_eq, decide_eq_false_iff_not, Bool.not_eq_true', Bool.not_eq_false', Bool.not_eq_true, Bool.not_eq_false, Int.not_lt, Int.not_le, Nat.not_lt, Nat.not_le, Decidable.not_not, ne_eq] at hc2
      refine WC_exit ?_
      refine hend.exi 0 false rfl (by repeat (first | with_reducible exact Ext.here | with_reducible apply Ext.there)) ?_
      try simp only [List.cons_append, List.nil_append, cond_true, cond_false]
      exact imp_ex (i + 1) (⟨by omega, by omega⟩) (by (try dsimp only); (try simp only [List.cons_append, List.nil_append]); repeat (first | with_reducible exact Sub.refl | with_reducible exact Sub.nil | with_reducible refine Sub.cons (by repeat (first | with_reducible exact Ext.here | with_reducible apply Ext.there)) ?_ | with_reducible refine Sub.tail ?_))
    · try simp only [decide_eq_true_eq, decide_eq_false_iff_not, Bool.not_eq_true', Bool.not_eq_false', Bool.not_eq_true, Bool.not_eq_false, Int.not_lt, Int.not_le, Nat.not_lt, Nat.not_le, Decidable.not_not, ne_eq] at hc2
      refine WC_skip ?_
      refine hend.nrm true rfl (by repeat (first | with_reducible exact Ext.here | with_reducible apply Ext.there)) ?_
      try simp only [List.cons_append, List.nil_append, cond_true, cond_false]
      exact imp_ex (()) (trivial) (by (try dsimp only); (try simp only [List.cons_append, List.nil_append]); repeat (first | with_reducible exact Sub.refl | with_reducible exact Sub.nil | with_reducible refine Sub.cons (by repeat (first | with_reducible exact Ext.here | with_reducible apply Ext.there)) ?_ | with_reducible refine Sub.tail ?_))
  refine ⟨_, _, _, _, _, kS_it (cw := cw) (u := u) (tb := tb) (tc := tc) (tm := tm) (ta := ta) (rows := rows) (L := L.map toD) (X := (fun (i : Nat) => exA (fun (_u : Unit) => True) (fun (_u : Unit) => [lp lrf_0 rrf_0, LCk cw u tb ta tc tm rows, cl b8 3 [.int .i64 ((i : Nat) : Int)], cl b5 3 [.int .i64 ((m : Nat) : Int)], cl b6 4 [.bool false], cl b4 75 [v], W]))) (JJ := (exA (fun (n' : Nat) => m ≤ n' ∧ n' ≤ L.length) (fun (n' : Nat) => [lp lrf_0 (rcD rrf_0 (.exit 0)), LCk cw u tb ta tc tm rows, cl b8 3 [.int .i64 ((n' : Nat) : Int)], cl b5 3 [.int .i64 ((m : Nat) : Int)], cl b6 4 [.bool false], cl b4 75 [v], W]))) (l := lrf_0) hC.rl.pm hC.rl.up hC.rl.hp hC.rl.gd.1 (by omega) (fun i R w => exA_lend1) hyrf_0, imp_rf (Y := []) ((())) (trivial) (by repeat (first | with_reducible exact Gv.nil | (with_reducible apply Gv.cons; · (repeat (first | with_reducible exact Ext.here | with_reducible apply Ext.there))))) (by (try dsimp only); repeat (first | with_reducible exact Gv.nil | (with_reducible apply Gv.cons; · (repeat (first | with_reducible exact Ext.here | with_reducible apply Ext.there))))), ?_⟩
  · rintro (_ | _)
    · skip
      simp only [List.cons_append, List.nil_append, cond_true, cond_false]
      refine RfEnd_ex ?_
      rintro n' ⟨hJ, hJ2⟩
      simp only [List.cons_append, List.nil_append]
      refine RfEnd_jmp ?_
      refine WC_exit ?_
      refine Ps_next hK6 ?_
      refine WC_seq fun K12 hK12 => ?_
      refine WC_sr fun K13 hK13 => ?_
      refine WL_rd (Rd_load rfl tk3) rfl rfl rfl ?_
      refine WL_rd (Rd_load rfl tk3) rfl rfl rfl ?_
      refine WL_rd (Rd_lssN rfl rfl) rfl rfl rfl ?_
      refine WL_rd (Rd_move rfl) rfl rfl rfl ?_
      refine WL_bool 39 rfl (fun hg14 => ?_) (fun hg14 => ?_)
      · try simp only [decide_eq_true_eq, decide_eq_false_iff_not, Bool.not_eq_true', Bool.not_eq_false', Bool.not_eq_true, Bool.not_eq_false, Int.not_lt, Int.not_le, Nat.not_lt, Nat.not_le, Decidable.not_not, ne_eq] at hg14
        have q0 := hg14
        refine WL_rd (Rd_load rfl tk3) rfl rfl rfl ?_
        refine WL_rd (Rd_load rfl tk75 (v := v)) rfl rfl rfl ?_
        refine WL_rd (Rd_len_sv rfl rfl ud75 (hA := hW)) rfl rfl rfl ?_
        refine WL_rd (Rd_isF (Rd_neqN rfl rfl)) rfl rfl rfl ?_
        refine WL_rd (Rd_pickT rfl rfl) rfl rfl rfl ?_
        refine WL_end hK13 ?_
        refine WC_condF rfl ?_
        refine WC_skip ?_
        refine Ps_next hK12 ?_
        refine WC_sr fun K15 hK15 => ?_
        refine WL_ac0 (Ac_store1 rfl rfl sz3) rfl rfl ?_
        rintro _ _ rfl
        refine WL_end hK15 ?_
        refine WC_seq fun K16 hK16 => ?_
        refine WC_sr fun K17 hK17 => ?_
        refine WL_rd (Rd_load rfl tk78 (v := .func (.func 69) #[] #[.pointer (some ⟨cw, 0, none⟩)])) rfl rfl rfl ?_
        refine WL_end hK17 ?_
        refine WC_block ?_
        rw [show cl b8 3 [.int .i64 0] = cl b8 3 [.int .i64 ((0 : Nat) : Int)] from rfl]
        refine WC_rf (f := 69) (caps := [.pointer (some ⟨cw, 0, none⟩)]) rfl cf69 fun lrf_1 Drf_1 rrf_1 hstrf_1 hpdrf_1 hparf_1 hasrf_1 hbdrf_1 hfrrf_1 => ?_
        have hyrf_1 : ∀ (i : Nat) (x : Nat × (Int × Int × ByteArray)), (srt kS_lt (L.map toD))[i]? = some x → Yd Try.prog lrf_1 [.agg [.int .i64 x.2.1, .int .i64 x.2.2.1, .string x.2.2.2].toArray] [(fun (i : Nat) => exA (fun (_u : Unit) => True) (fun (_u : Unit) => [lp lrf_1 rrf_1, LCk cw u tb ta tc tm rows, cl b8 3 [.int .i64 ((i : Nat) : Int)], cl b6 4 [.bool false], cl b7 78 [.func (.func 69) #[] #[.pointer (some ⟨cw, 0, none⟩)]], cl b4 75 [v], W])) i] (fun b : Bool => .bool b) (fun b => [bif b then (fun (i : Nat) => exA (fun (_u : Unit) => True) (fun (_u : Unit) => [lp lrf_1 rrf_1, LCk cw u tb ta tc tm rows, cl b8 3 [.int .i64 ((i : Nat) : Int)], cl b6 4 [.bool false], cl b7 78 [.func (.func 69) #[] #[.pointer (some ⟨cw, 0, none⟩)]], cl b4 75 [v], W])) (i + 1) else (exA (fun _ : Unit => False) (fun _ => []))]) := by
          intro i x hix
          refine Yd_ex ?_
          rintro _u hφ
          refine Yd_of (pre := [LCk cw u tb ta tc tm rows, cl b8 3 [.int .i64 ((i : Nat) : Int)], cl b6 4 [.bool false], cl b7 78 [.func (.func 69) #[] #[.pointer (some ⟨cw, 0, none⟩)]], cl b4 75 [v], W]) hstrf_1 hpdrf_1 hparf_1 hasrf_1 hbdrf_1 hfrrf_1 rfl rfl fun F w0 Q K hp hend hbeg => ?_
          change WC _ _ _ _ _ _ ((46, .agg [.int .i64 x.2.1, .int .i64 x.2.2.1, .string x.2.2.2].toArray) :: _) (_ :: _ :: _ :: _ :: _ :: _ :: _ :: F)
          dsimp only at *
          obtain ⟨y, hyi, rfl⟩ := hC.all kS_lt_od kS_cm hix
          have hil := (List.getElem?_eq_some_iff.1 hyi).1
          refine WC_region ?_
          refine WL_ac (Ac_alloc zr62) rfl rfl rfl ?_
          rintro _ _ ⟨b10, rfl, rfl⟩
          refine WL_ac0 (Ac_store (ys := [.int .i64 (toD y).2.1, .int .i64 (toD y).2.2.1, .string (toD y).2.2.2]) rfl rfl sz62 (h1 := kS_encD.one (toD y).2) (hr := rfl)) rfl rfl ?_
          rintro _ _ rfl
          refine WL_nil ?_
          refine hbeg (by repeat (first | with_reducible exact Ext.here | with_reducible apply Ext.there)) ?_
          refine WC_block ?_
          refine WC_seq fun K18 hK18 => ?_
          refine WC_seq fun K19 hK19 => ?_
          refine WC_drawA mix (fun i => ([2, 2, 2, 2, 2, 2, 2, 2, 2, 2, 1, 2, 2] : List Nat).getD i 0) ?_
          refine WJ_tk 0 (Rd_load rfl tk3) hp ?_ rfl (by kernel_rfl) rfl rfl rfl
          refine WJ_tk 1 (Rd_load rfl tk75 (v := v)) hp ?_ rfl (by kernel_rfl) rfl rfl rfl
          refine WJ_takeP 2 rfl (by kernel_rfl) (Rd_len_sv rfl rfl ud75 (hA := hW)) rfl rfl rfl (hp _ _) ?_
          refine WJ_takeP 3 rfl (by kernel_rfl) (Rd_isF (Rd_geqN rfl rfl)) rfl rfl rfl (hp _ _) ?_
          refine WJ_takeP 4 rfl (by kernel_rfl) (Rd_move rfl) rfl rfl rfl (hp _ _) ?_
          refine WJ_tk 5 (Rd_loadg (vs := [.int .i64 (toD y).2.1, .int .i64 (toD y).2.2.1, .string (toD y).2.2.2]) rfl tk62 (hi := rfl)) hp ?_ rfl (by kernel_rfl) rfl rfl rfl
          refine WJ_tk 6 (Rd_load rfl tk75 (v := v)) hp ?_ rfl (by kernel_rfl) rfl rfl rfl
          refine WJ_tk 7 (Rd_load rfl tk3) hp ?_ rfl (by kernel_rfl) rfl rfl rfl
          refine WJ_takeP 8 rfl (by kernel_rfl) (Rd_index_sv i rfl rfl ud75 sz81 (hA := hW) (hi := by omega)) rfl rfl rfl (hp _ _) ?_
          refine WJ_tk 9 (Rd_loadg_sv (f := eDR) (i := i) rfl tk81 (hA := hW) (hl := hyi)) hp ?_ rfl (by kernel_rfl) rfl rfl rfl
          refine WJ_all (rs := [10]) (by kernel_rfl) rfl ?_
          refine WI_one ?_
          refine WI_ac rfl (Ac_call cf34 rfl (hs := alike_ct (y := y))) rfl rfl rfl rfl ?_
          rintro _ _ ⟨⟨⟩, rfl, hA⟩
          simp only [List.cons_append, List.nil_append] at hA
          replace hA := hA.symm
          subst hA
          refine ⟨(fun _ => (by repeat (first | with_reducible exact Sub.refl | with_reducible exact Sub.nil | with_reducible refine Sub.cons (by repeat (first | with_reducible exact Ext.here | with_reducible apply Ext.there)) ?_ | with_reducible refine Sub.tail ?_))), ?_⟩
          refine WJ_takeP 11 rfl (by kernel_rfl) (Rd_not rfl) rfl rfl rfl (hp _ _) ?_
          refine WJ_takeP 12 rfl (by kernel_rfl) (Rd_pickF rfl rfl) rfl rfl rfl (hp _ _) ?_
          refine WJ_done (by kernel_rfl) ?_
          refine Ps_next hK19 ?_
          refine WC_condF rfl ?_
          refine WC_skip ?_
          refine Ps_next hK18 ?_
          refine WC_seq fun K20 hK20 => ?_
          refine WC_sr fun K21 hK21 => ?_
          refine WL_rd (Rd_load rfl tk78 (v := .func (.func 69) #[] #[.pointer (some ⟨cw, 0, none⟩)])) rfl rfl rfl ?_
          refine WL_end hK21 ?_
          refine WC_block ?_
          refine WC_rfi (f := 69) (caps := [.pointer (some ⟨cw, 0, none⟩)]) rfl cf69 fun lrf_2 rrf_2 hstrf_2 hpdrf_2 hparf_2 hasrf_2 hbdrf_2 hfrrf_2 => ?_
          have hyrf_2 : ∀ (j : Nat) (x2 : Nat × (Int × Int × ByteArray)), (srt kS_lt (L.map toD))[j]? = some x2 → Yd Try.prog lrf_2 [.agg [.int .i64 x2.2.1, .int .i64 x2.2.2.1, .string x2.2.2.2].toArray] [(fun (j : Nat) => exA (fun (_u : Unit) => j = 0) (fun (_u : Unit) => [lp lrf_2 rrf_2, LCk cw u tb ta tc tm rows, cl b6 4 [.bool false], cl b4 75 [v], W])) j] (fun b : Bool => .bool b) (fun b => [bif b then (fun (j : Nat) => exA (fun (_u : Unit) => j = 0) (fun (_u : Unit) => [lp lrf_2 rrf_2, LCk cw u tb ta tc tm rows, cl b6 4 [.bool false], cl b4 75 [v], W])) (j + 1) else (exA (fun (_u : Unit) => True) (fun (_u : Unit) => [lp lrf_2 (rcD rrf_2 (.exit 4)), LCk cw u tb ta tc tm rows, cl b6 4 [.bool false], cl b4 75 [v], W]))]) := by
            intro j x2 hjx
            refine Yd_ex ?_
            rintro _u hj0
            refine Yd_of (pre := [LCk cw u tb ta tc tm rows, cl b6 4 [.bool false], cl b4 75 [v], W]) hstrf_2 hpdrf_2 hparf_2 hasrf_2 hbdrf_2 hfrrf_2 rfl rfl fun F w0 Q K hp hend hbeg => ?_
            change WC _ _ _ _ _ _ ((61, .agg [.int .i64 x2.2.1, .int .i64 x2.2.2.1, .string x2.2.2.2].toArray) :: _) (_ :: _ :: _ :: _ :: _ :: F)
            dsimp only at *
            subst hj0
            obtain ⟨y2, hy2, rfl⟩ := hC.all kS_lt_od kS_cm hjx
            have hil2 := (List.getElem?_eq_some_iff.1 hy2).1
            refine WC_region ?_
            refine WL_ac (Ac_alloc zr62) rfl rfl rfl ?_
            rintro _ _ ⟨b11, rfl, rfl⟩
            refine WL_ac0 (Ac_store (ys := [.int .i64 (toD y2).2.1, .int .i64 (toD y2).2.2.1, .string (toD y2).2.2.2]) rfl rfl sz62 (h1 := kS_encD.one (toD y2).2) (hr := rfl)) rfl rfl ?_
            rintro _ _ rfl
            refine WL_nil ?_
            refine hbeg (by repeat (first | with_reducible exact Ext.here | with_reducible apply Ext.there)) ?_
            refine WC_block ?_
            refine WC_seq fun K22 hK22 => ?_
            refine WC_seq fun K23 hK23 => ?_
            refine WC_drawA mix (fun i => ([2, 2, 2, 2, 1, 2] : List Nat).getD i 0) ?_
            refine WJ_tk 0 (Rd_loadg (vs := [.int .i64 (toD y2).2.1, .int .i64 (toD y2).2.2.1, .string (toD y2).2.2.2]) rfl tk62 (hi := rfl)) hp ?_ rfl (by kernel_rfl) rfl rfl rfl
            refine WJ_tk 1 (Rd_load rfl tk75 (v := v)) hp ?_ rfl (by kernel_rfl) rfl rfl rfl
            refine WJ_takeP 2 rfl (by kernel_rfl) (Rd_index_sv 0 rfl rfl ud75 sz81 (hA := hW) (hi := by omega)) rfl rfl rfl (hp _ _) ?_
            refine WJ_tk 3 (Rd_loadg_sv (f := eDR) (i := 0) rfl tk81 (hA := hW) (hl := hy2)) hp ?_ rfl (by kernel_rfl) rfl rfl rfl
            refine WJ_all (rs := [4]) (by kernel_rfl) rfl ?_
            refine WI_one ?_
            refine WI_ac rfl (Ac_call cf34 rfl (hs := alike_ct (y := y2))) rfl rfl rfl rfl ?_
            rintro _ _ ⟨⟨⟩, rfl, hA⟩
            simp only [List.cons_append, List.nil_append] at hA
            replace hA := hA.symm
            subst hA
            refine ⟨(fun _ => (by repeat (first | with_reducible exact Sub.refl | with_reducible exact Sub.nil | with_reducible refine Sub.cons (by repeat (first | with_reducible exact Ext.here | with_reducible apply Ext.there)) ?_ | with_reducible refine Sub.tail ?_))), ?_⟩
            refine WJ_takeP 5 rfl (by kernel_rfl) (Rd_not rfl) rfl rfl rfl (hp _ _) ?_
            refine WJ_done (by kernel_rfl) ?_
            refine Ps_next hK23 ?_
            refine WC_condF rfl ?_
            refine WC_skip ?_
            refine Ps_next hK22 ?_
            refine WC_exit ?_
            refine hend.exi 4 false rfl (by repeat (first | with_reducible exact Ext.here | with_reducible apply Ext.there)) ?_
            try simp only [List.cons_append, List.nil_append, cond_true, cond_false]
            exact imp_ex (()) (trivial) (by (try dsimp only); (try simp only [List.cons_append, List.nil_append]); repeat (first | with_reducible exact Sub.refl | with_reducible exact Sub.nil | with_reducible refine Sub.cons (by repeat (first | with_reducible exact Ext.here | with_reducible apply Ext.there)) ?_ | with_reducible refine Sub.tail ?_))
          refine ⟨_, _, _, _, _, kS_it (cw := cw) (u := u) (tb := tb) (tc := tc) (tm := tm) (ta := ta) (rows := rows) (L := L.map toD) (X := (fun (j : Nat) => exA (fun (_u : Unit) => j = 0) (fun (_u : Unit) => [lp lrf_2 rrf_2, LCk cw u tb ta tc tm rows, cl b6 4 [.bool false], cl b4 75 [v], W]))) (JJ := (exA (fun (_u : Unit) => True) (fun (_u : Unit) => [lp lrf_2 (rcD rrf_2 (.exit 4)), LCk cw u tb ta tc tm rows, cl b6 4 [.bool false], cl b4 75 [v], W]))) (l := lrf_2) hC.rl.pm hC.rl.up hC.rl.hp hC.rl.gd.1 (by omega) (fun i R w => exA_lend1) hyrf_2, imp_rf (Y := []) ((())) (rfl) (by repeat (first | with_reducible exact Gv.nil | (with_reducible apply Gv.cons; · (repeat (first | with_reducible exact Ext.here | with_reducible apply Ext.there))))) (by (try dsimp only); repeat (first | with_reducible exact Gv.nil | (with_reducible apply Gv.cons; · (repeat (first | with_reducible exact Ext.here | with_reducible apply Ext.there))))), ?_⟩
          · rintro (_ | _)
            · skip
              simp only [List.cons_append, List.nil_append, cond_true, cond_false]
              refine RfEnd_ex ?_
              rintro _u hJ3
              simp only [List.cons_append, List.nil_append]
              refine RfEnd_jmp ?_
              refine WC_exit ?_
              refine Ps_next hK20 ?_
              refine WC_region ?_
              refine WL_rd (Rd_load rfl tk3) rfl rfl rfl ?_
              refine WL_rd (Rd_addN (j := 1) rfl rfl) rfl rfl rfl ?_
              refine WL_ac0 (Ac_store1 rfl rfl sz3) rfl rfl ?_
              rintro _ _ rfl
              refine WL_nil ?_
              refine hend.nrm true rfl (by repeat (first | with_reducible exact Ext.here | with_reducible apply Ext.there)) ?_
              try simp only [List.cons_append, List.nil_append, cond_true, cond_false]
              exact imp_ex (()) (trivial) (by (try dsimp only); (try simp only [List.cons_append, List.nil_append]); repeat (first | with_reducible exact Sub.refl | with_reducible exact Sub.nil | with_reducible refine Sub.cons (by repeat (first | with_reducible exact Ext.here | with_reducible apply Ext.there)) ?_ | with_reducible refine Sub.tail ?_))
            · simp only [List.cons_append, List.nil_append, cond_true, cond_false]
              refine RfEnd_ex ?_
              rintro _u hj0
              simp only [List.cons_append, List.nil_append]
              exact absurd hj0 (by rw [hlm]; omega)
        refine ⟨_, _, _, _, _, kS_it (cw := cw) (u := u) (tb := tb) (tc := tc) (tm := tm) (ta := ta) (rows := rows) (L := L.map toD) (X := (fun (i : Nat) => exA (fun (_u : Unit) => True) (fun (_u : Unit) => [lp lrf_1 rrf_1, LCk cw u tb ta tc tm rows, cl b8 3 [.int .i64 ((i : Nat) : Int)], cl b6 4 [.bool false], cl b7 78 [.func (.func 69) #[] #[.pointer (some ⟨cw, 0, none⟩)]], cl b4 75 [v], W]))) (JJ := (exA (fun _ : Unit => False) (fun _ => []))) (l := lrf_1) hC.rl.pm hC.rl.up hC.rl.hp hC.rl.gd.1 (by omega) (fun i R w => exA_lend1) hyrf_1, imp_rf (Y := []) ((())) (trivial) (by repeat (first | with_reducible exact Gv.nil | (with_reducible apply Gv.cons; · (repeat (first | with_reducible exact Ext.here | with_reducible apply Ext.there))))) (by (try dsimp only); repeat (first | with_reducible exact Gv.nil | (with_reducible apply Gv.cons; · (repeat (first | with_reducible exact Ext.here | with_reducible apply Ext.there))))), ?_⟩
        · rintro (_ | _)
          · simp only [List.cons_append, List.nil_append, cond_true, cond_false]
            refine RfEnd_ex ?_
            exact fun _ h => h.elim
          · simp only [List.cons_append, List.nil_append, cond_true, cond_false]
            refine RfEnd_ex ?_
            rintro _u hφ
            simp only [List.cons_append, List.nil_append]
            rw [hlm]
            refine RfEnd_nrm hstrf_1 hpdrf_1 ?_
            refine Ps_next hK16 ?_
            refine WC_sr fun K24 hK24 => ?_
            refine WL_rd (Rd_load rfl tk3) rfl rfl rfl ?_
            refine WL_rd (Rd_load rfl tk75 (v := v)) rfl rfl rfl ?_
            refine WL_rd (Rd_len_sv rfl rfl ud75 (hA := hW)) rfl rfl rfl ?_
            refine WL_rd (Rd_isT (Rd_eqlN rfl rfl)) rfl rfl rfl ?_
            refine WL_ac0 (Ac_store1 rfl rfl sz4) rfl rfl ?_
            rintro _ _ rfl
            refine WL_end hK24 ?_
            refine WC_ret ?_
            refine hret.goDD () ?_
            exact Rs1cs rfl rfl tk4
      · try simp only [decide_eq_true_eq, decide_eq_false_iff_not, Bool.not_eq_true', Bool.not_eq_false', Bool.not_eq_true, Bool.not_eq_false, Int.not_lt, Int.not_le, Nat.not_lt, Nat.not_le, Decidable.not_not, ne_eq] at hg14
        have q0 := hg14
        refine WL_skip rfl rfl rfl ?_
        refine WL_skip rfl rfl rfl ?_
        refine WL_skip rfl rfl rfl ?_
        refine WL_skip rfl rfl rfl ?_
        refine WL_rd (Rd_pickF rfl rfl) rfl rfl rfl ?_
        refine WL_end hK13 ?_
        refine WC_condF rfl ?_
        refine WC_skip ?_
        refine Ps_next hK12 ?_
        refine WC_sr fun K25 hK25 => ?_
        refine WL_ac0 (Ac_store1 rfl rfl sz3) rfl rfl ?_
        rintro _ _ rfl
        refine WL_end hK25 ?_
        refine WC_seq fun K26 hK26 => ?_
        refine WC_sr fun K27 hK27 => ?_
        refine WL_rd (Rd_load rfl tk78 (v := .func (.func 69) #[] #[.pointer (some ⟨cw, 0, none⟩)])) rfl rfl rfl ?_
        refine WL_end hK27 ?_
        refine WC_block ?_
        rw [show cl b8 3 [.int .i64 0] = cl b8 3 [.int .i64 ((0 : Nat) : Int)] from rfl]
        refine WC_rf (f := 69) (caps := [.pointer (some ⟨cw, 0, none⟩)]) rfl cf69 fun lrf_1 Drf_1 rrf_1 hstrf_1 hpdrf_1 hparf_1 hasrf_1 hbdrf_1 hfrrf_1 => ?_
        have hyrf_1 : ∀ (i : Nat) (x : Nat × (Int × Int × ByteArray)), (srt kS_lt (L.map toD))[i]? = some x → Yd Try.prog lrf_1 [.agg [.int .i64 x.2.1, .int .i64 x.2.2.1, .string x.2.2.2].toArray] [(fun (i : Nat) => exA (fun (_u : Unit) => True) (fun (_u : Unit) => [lp lrf_1 rrf_1, LCk cw u tb ta tc tm rows, cl b8 3 [.int .i64 ((i : Nat) : Int)], cl b6 4 [.bool false], cl b7 78 [.func (.func 69) #[] #[.pointer (some ⟨cw, 0, none⟩)]], cl b4 75 [v], W])) i] (fun b : Bool => .bool b) (fun b => [bif b then (fun (i : Nat) => exA (fun (_u : Unit) => True) (fun (_u : Unit) => [lp lrf_1 rrf_1, LCk cw u tb ta tc tm rows, cl b8 3 [.int .i64 ((i : Nat) : Int)], cl b6 4 [.bool false], cl b7 78 [.func (.func 69) #[] #[.pointer (some ⟨cw, 0, none⟩)]], cl b4 75 [v], W])) (i + 1) else (exA (fun _ : Unit => False) (fun _ => []))]) := by
          intro i x hix
          refine Yd_ex ?_
          rintro _u hφ
          refine Yd_of (pre := [LCk cw u tb ta tc tm rows, cl b8 3 [.int .i64 ((i : Nat) : Int)], cl b6 4 [.bool false], cl b7 78 [.func (.func 69) #[] #[.pointer (some ⟨cw, 0, none⟩)]], cl b4 75 [v], W]) hstrf_1 hpdrf_1 hparf_1 hasrf_1 hbdrf_1 hfrrf_1 rfl rfl fun F w0 Q K hp hend hbeg => ?_
          change WC _ _ _ _ _ _ ((46, .agg [.int .i64 x.2.1, .int .i64 x.2.2.1, .string x.2.2.2].toArray) :: _) (_ :: _ :: _ :: _ :: _ :: _ :: _ :: F)
          dsimp only at *
          obtain ⟨y, hyi, rfl⟩ := hC.all kS_lt_od kS_cm hix
          have hil := (List.getElem?_eq_some_iff.1 hyi).1
          refine WC_region ?_
          refine WL_ac (Ac_alloc zr62) rfl rfl rfl ?_
          rintro _ _ ⟨b10, rfl, rfl⟩
          refine WL_ac0 (Ac_store (ys := [.int .i64 (toD y).2.1, .int .i64 (toD y).2.2.1, .string (toD y).2.2.2]) rfl rfl sz62 (h1 := kS_encD.one (toD y).2) (hr := rfl)) rfl rfl ?_
          rintro _ _ rfl
          refine WL_nil ?_
          refine hbeg (by repeat (first | with_reducible exact Ext.here | with_reducible apply Ext.there)) ?_
          refine WC_block ?_
          refine WC_seq fun K28 hK28 => ?_
          refine WC_seq fun K29 hK29 => ?_
          refine WC_drawA mix (fun i => ([2, 2, 2, 2, 2, 2, 2, 2, 2, 2, 1, 2, 2] : List Nat).getD i 0) ?_
          refine WJ_tk 0 (Rd_load rfl tk3) hp ?_ rfl (by kernel_rfl) rfl rfl rfl
          refine WJ_tk 1 (Rd_load rfl tk75 (v := v)) hp ?_ rfl (by kernel_rfl) rfl rfl rfl
          refine WJ_takeP 2 rfl (by kernel_rfl) (Rd_len_sv rfl rfl ud75 (hA := hW)) rfl rfl rfl (hp _ _) ?_
          refine WJ_takeP 3 rfl (by kernel_rfl) (Rd_isF (Rd_geqN rfl rfl)) rfl rfl rfl (hp _ _) ?_
          refine WJ_takeP 4 rfl (by kernel_rfl) (Rd_move rfl) rfl rfl rfl (hp _ _) ?_
          refine WJ_tk 5 (Rd_loadg (vs := [.int .i64 (toD y).2.1, .int .i64 (toD y).2.2.1, .string (toD y).2.2.2]) rfl tk62 (hi := rfl)) hp ?_ rfl (by kernel_rfl) rfl rfl rfl
          refine WJ_tk 6 (Rd_load rfl tk75 (v := v)) hp ?_ rfl (by kernel_rfl) rfl rfl rfl
          refine WJ_tk 7 (Rd_load rfl tk3) hp ?_ rfl (by kernel_rfl) rfl rfl rfl
          refine WJ_takeP 8 rfl (by kernel_rfl) (Rd_index_sv i rfl rfl ud75 sz81 (hA := hW) (hi := by omega)) rfl rfl rfl (hp _ _) ?_
          refine WJ_tk 9 (Rd_loadg_sv (f := eDR) (i := i) rfl tk81 (hA := hW) (hl := hyi)) hp ?_ rfl (by kernel_rfl) rfl rfl rfl
          refine WJ_all (rs := [10]) (by kernel_rfl) rfl ?_
          refine WI_one ?_
          refine WI_ac rfl (Ac_call cf34 rfl (hs := alike_ct (y := y))) rfl rfl rfl rfl ?_
          rintro _ _ ⟨⟨⟩, rfl, hA⟩
          simp only [List.cons_append, List.nil_append] at hA
          replace hA := hA.symm
          subst hA
          refine ⟨(fun _ => (by repeat (first | with_reducible exact Sub.refl | with_reducible exact Sub.nil | with_reducible refine Sub.cons (by repeat (first | with_reducible exact Ext.here | with_reducible apply Ext.there)) ?_ | with_reducible refine Sub.tail ?_))), ?_⟩
          refine WJ_takeP 11 rfl (by kernel_rfl) (Rd_not rfl) rfl rfl rfl (hp _ _) ?_
          refine WJ_takeP 12 rfl (by kernel_rfl) (Rd_pickF rfl rfl) rfl rfl rfl (hp _ _) ?_
          refine WJ_done (by kernel_rfl) ?_
          refine Ps_next hK29 ?_
          refine WC_condF rfl ?_
          refine WC_skip ?_
          refine Ps_next hK28 ?_
          refine WC_seq fun K30 hK30 => ?_
          refine WC_sr fun K31 hK31 => ?_
          refine WL_rd (Rd_load rfl tk78 (v := .func (.func 69) #[] #[.pointer (some ⟨cw, 0, none⟩)])) rfl rfl rfl ?_
          refine WL_end hK31 ?_
          refine WC_block ?_
          refine WC_rfi (f := 69) (caps := [.pointer (some ⟨cw, 0, none⟩)]) rfl cf69 fun lrf_2 rrf_2 hstrf_2 hpdrf_2 hparf_2 hasrf_2 hbdrf_2 hfrrf_2 => ?_
          have hyrf_2 : ∀ (j : Nat) (x2 : Nat × (Int × Int × ByteArray)), (srt kS_lt (L.map toD))[j]? = some x2 → Yd Try.prog lrf_2 [.agg [.int .i64 x2.2.1, .int .i64 x2.2.2.1, .string x2.2.2.2].toArray] [(fun (j : Nat) => exA (fun (_u : Unit) => j = 0) (fun (_u : Unit) => [lp lrf_2 rrf_2, LCk cw u tb ta tc tm rows, cl b6 4 [.bool false], cl b4 75 [v], W])) j] (fun b : Bool => .bool b) (fun b => [bif b then (fun (j : Nat) => exA (fun (_u : Unit) => j = 0) (fun (_u : Unit) => [lp lrf_2 rrf_2, LCk cw u tb ta tc tm rows, cl b6 4 [.bool false], cl b4 75 [v], W])) (j + 1) else (exA (fun (_u : Unit) => True) (fun (_u : Unit) => [lp lrf_2 (rcD rrf_2 (.exit 4)), LCk cw u tb ta tc tm rows, cl b6 4 [.bool false], cl b4 75 [v], W]))]) := by
            intro j x2 hjx
            refine Yd_ex ?_
            rintro _u hj0
            refine Yd_of (pre := [LCk cw u tb ta tc tm rows, cl b6 4 [.bool false], cl b4 75 [v], W]) hstrf_2 hpdrf_2 hparf_2 hasrf_2 hbdrf_2 hfrrf_2 rfl rfl fun F w0 Q K hp hend hbeg => ?_
            change WC _ _ _ _ _ _ ((61, .agg [.int .i64 x2.2.1, .int .i64 x2.2.2.1, .string x2.2.2.2].toArray) :: _) (_ :: _ :: _ :: _ :: _ :: F)
            dsimp only at *
            subst hj0
            obtain ⟨y2, hy2, rfl⟩ := hC.all kS_lt_od kS_cm hjx
            have hil2 := (List.getElem?_eq_some_iff.1 hy2).1
            refine WC_region ?_
            refine WL_ac (Ac_alloc zr62) rfl rfl rfl ?_
            rintro _ _ ⟨b11, rfl, rfl⟩
            refine WL_ac0 (Ac_store (ys := [.int .i64 (toD y2).2.1, .int .i64 (toD y2).2.2.1, .string (toD y2).2.2.2]) rfl rfl sz62 (h1 := kS_encD.one (toD y2).2) (hr := rfl)) rfl rfl ?_
            rintro _ _ rfl
            refine WL_nil ?_
            refine hbeg (by repeat (first | with_reducible exact Ext.here | with_reducible apply Ext.there)) ?_
            refine WC_block ?_
            refine WC_seq fun K32 hK32 => ?_
            refine WC_seq fun K33 hK33 => ?_
            refine WC_drawA mix (fun i => ([2, 2, 2, 2, 1, 2] : List Nat).getD i 0) ?_
            refine WJ_tk 0 (Rd_loadg (vs := [.int .i64 (toD y2).2.1, .int .i64 (toD y2).2.2.1, .string (toD y2).2.2.2]) rfl tk62 (hi := rfl)) hp ?_ rfl (by kernel_rfl) rfl rfl rfl
            refine WJ_tk 1 (Rd_load rfl tk75 (v := v)) hp ?_ rfl (by kernel_rfl) rfl rfl rfl
            refine WJ_takeP 2 rfl (by kernel_rfl) (Rd_index_sv 0 rfl rfl ud75 sz81 (hA := hW) (hi := by omega)) rfl rfl rfl (hp _ _) ?_
            refine WJ_tk 3 (Rd_loadg_sv (f := eDR) (i := 0) rfl tk81 (hA := hW) (hl := hy2)) hp ?_ rfl (by kernel_rfl) rfl rfl rfl
            refine WJ_all (rs := [4]) (by kernel_rfl) rfl ?_
            refine WI_one ?_
            refine WI_ac rfl (Ac_call cf34 rfl (hs := alike_ct (y := y2))) rfl rfl rfl rfl ?_
            rintro _ _ ⟨⟨⟩, rfl, hA⟩
            simp only [List.cons_append, List.nil_append] at hA
            replace hA := hA.symm
            subst hA
            refine ⟨(fun _ => (by repeat (first | with_reducible exact Sub.refl | with_reducible exact Sub.nil | with_reducible refine Sub.cons (by repeat (first | with_reducible exact Ext.here | with_reducible apply Ext.there)) ?_ | with_reducible refine Sub.tail ?_))), ?_⟩
            refine WJ_takeP 5 rfl (by kernel_rfl) (Rd_not rfl) rfl rfl rfl (hp _ _) ?_
            refine WJ_done (by kernel_rfl) ?_
            refine Ps_next hK33 ?_
            refine WC_condF rfl ?_
            refine WC_skip ?_
            refine Ps_next hK32 ?_
            refine WC_exit ?_
            refine hend.exi 4 false rfl (by repeat (first | with_reducible exact Ext.here | with_reducible apply Ext.there)) ?_
            try simp only [List.cons_append, List.nil_append, cond_true, cond_false]
            exact imp_ex (()) (trivial) (by (try dsimp only); (try simp only [List.cons_append, List.nil_append]); repeat (first | with_reducible exact Sub.refl | with_reducible exact Sub.nil | with_reducible refine Sub.cons (by repeat (first | with_reducible exact Ext.here | with_reducible apply Ext.there)) ?_ | with_reducible refine Sub.tail ?_))
          refine ⟨_, _, _, _, _, kS_it (cw := cw) (u := u) (tb := tb) (tc := tc) (tm := tm) (ta := ta) (rows := rows) (L := L.map toD) (X := (fun (j : Nat) => exA (fun (_u : Unit) => j = 0) (fun (_u : Unit) => [lp lrf_2 rrf_2, LCk cw u tb ta tc tm rows, cl b6 4 [.bool false], cl b4 75 [v], W]))) (JJ := (exA (fun (_u : Unit) => True) (fun (_u : Unit) => [lp lrf_2 (rcD rrf_2 (.exit 4)), LCk cw u tb ta tc tm rows, cl b6 4 [.bool false], cl b4 75 [v], W]))) (l := lrf_2) hC.rl.pm hC.rl.up hC.rl.hp hC.rl.gd.1 (by omega) (fun i R w => exA_lend1) hyrf_2, imp_rf (Y := []) ((())) (rfl) (by repeat (first | with_reducible exact Gv.nil | (with_reducible apply Gv.cons; · (repeat (first | with_reducible exact Ext.here | with_reducible apply Ext.there))))) (by (try dsimp only); repeat (first | with_reducible exact Gv.nil | (with_reducible apply Gv.cons; · (repeat (first | with_reducible exact Ext.here | with_reducible apply Ext.there))))), ?_⟩
          · rintro (_ | _)
            · skip
              simp only [List.cons_append, List.nil_append, cond_true, cond_false]
              refine RfEnd_ex ?_
              rintro _u hJ3
              simp only [List.cons_append, List.nil_append]
              refine RfEnd_jmp ?_
              refine WC_exit ?_
              refine Ps_next hK30 ?_
              refine WC_region ?_
              refine WL_rd (Rd_load rfl tk3) rfl rfl rfl ?_
              refine WL_rd (Rd_addN (j := 1) rfl rfl) rfl rfl rfl ?_
              refine WL_ac0 (Ac_store1 rfl rfl sz3) rfl rfl ?_
              rintro _ _ rfl
              refine WL_nil ?_
              refine hend.nrm true rfl (by repeat (first | with_reducible exact Ext.here | with_reducible apply Ext.there)) ?_
              try simp only [List.cons_append, List.nil_append, cond_true, cond_false]
              exact imp_ex (()) (trivial) (by (try dsimp only); (try simp only [List.cons_append, List.nil_append]); repeat (first | with_reducible exact Sub.refl | with_reducible exact Sub.nil | with_reducible refine Sub.cons (by repeat (first | with_reducible exact Ext.here | with_reducible apply Ext.there)) ?_ | with_reducible refine Sub.tail ?_))
            · simp only [List.cons_append, List.nil_append, cond_true, cond_false]
              refine RfEnd_ex ?_
              rintro _u hj0
              simp only [List.cons_append, List.nil_append]
              exact absurd hj0 (by rw [hlm]; omega)
        refine ⟨_, _, _, _, _, kS_it (cw := cw) (u := u) (tb := tb) (tc := tc) (tm := tm) (ta := ta) (rows := rows) (L := L.map toD) (X := (fun (i : Nat) => exA (fun (_u : Unit) => True) (fun (_u : Unit) => [lp lrf_1 rrf_1, LCk cw u tb ta tc tm rows, cl b8 3 [.int .i64 ((i : Nat) : Int)], cl b6 4 [.bool false], cl b7 78 [.func (.func 69) #[] #[.pointer (some ⟨cw, 0, none⟩)]], cl b4 75 [v], W]))) (JJ := (exA (fun _ : Unit => False) (fun _ => []))) (l := lrf_1) hC.rl.pm hC.rl.up hC.rl.hp hC.rl.gd.1 (by omega) (fun i R w => exA_lend1) hyrf_1, imp_rf (Y := []) ((())) (trivial) (by repeat (first | with_reducible exact Gv.nil | (with_reducible apply Gv.cons; · (repeat (first | with_reducible exact Ext.here | with_reducible apply Ext.there))))) (by (try dsimp only); repeat (first | with_reducible exact Gv.nil | (with_reducible apply Gv.cons; · (repeat (first | with_reducible exact Ext.here | with_reducible apply Ext.there))))), ?_⟩
        · rintro (_ | _)
          · simp only [List.cons_append, List.nil_append, cond_true, cond_false]
            refine RfEnd_ex ?_
            exact fun _ h => h.elim
          · simp only [List.cons_append, List.nil_append, cond_true, cond_false]
            refine RfEnd_ex ?_
            rintro _u hφ
            simp only [List.cons_append, List.nil_append]
            rw [hlm]
            refine RfEnd_nrm hstrf_1 hpdrf_1 ?_
            refine Ps_next hK26 ?_
            refine WC_sr fun K34 hK34 => ?_
            refine WL_rd (Rd_load rfl tk3) rfl rfl rfl ?_
            refine WL_rd (Rd_load rfl tk75 (v := v)) rfl rfl rfl ?_
            refine WL_rd (Rd_len_sv rfl rfl ud75 (hA := hW)) rfl rfl rfl ?_
            refine WL_rd (Rd_isT (Rd_eqlN rfl rfl)) rfl rfl rfl ?_
            refine WL_ac0 (Ac_store1 rfl rfl sz4) rfl rfl ?_
            rintro _ _ rfl
            refine WL_end hK34 ?_
            refine WC_ret ?_
            refine hret.goDD () ?_
            exact Rs1cs rfl rfl tk4
    · simp only [List.cons_append, List.nil_append, cond_true, cond_false]
      refine RfEnd_ex ?_
      rintro _u hφ
      simp only [List.cons_append, List.nil_append]
      rw [hlm]
      refine RfEnd_nrm hstrf_0 hpdrf_0 ?_
      refine Ps_next hK6 ?_
      refine WC_seq fun K35 hK35 => ?_
      refine WC_sr fun K36 hK36 => ?_
      refine WL_rd (Rd_load rfl tk3) rfl rfl rfl ?_
      refine WL_rd (Rd_load rfl tk3) rfl rfl rfl ?_
      refine WL_rd (Rd_lssN rfl rfl) rfl rfl rfl ?_
      refine WL_rd (Rd_move rfl) rfl rfl rfl ?_
      refine WL_bool 39 rfl (fun hg37 => ?_) (fun hg37 => ?_)
      · try simp only [decide_eq_true_eq, decide_eq_false_iff_not, Bool.not_eq_true', Bool.not_eq_false', Bool.not_eq_true, Bool.not_eq_false, Int.not_lt, Int.not_le, Nat.not_lt, Nat.not_le, Decidable.not_not, ne_eq] at hg37
        have q0 := hg37
        refine WL_rd (Rd_load rfl tk3) rfl rfl rfl ?_
        refine WL_rd (Rd_load rfl tk75 (v := v)) rfl rfl rfl ?_
        refine WL_rd (Rd_len_sv rfl rfl ud75 (hA := hW)) rfl rfl rfl ?_
        refine WL_rd (Rd_isF (Rd_neqN rfl rfl)) rfl rfl rfl ?_
        refine WL_rd (Rd_pickT rfl rfl) rfl rfl rfl ?_
        refine WL_end hK36 ?_
        refine WC_condF rfl ?_
        refine WC_skip ?_
        refine Ps_next hK35 ?_
        refine WC_sr fun K38 hK38 => ?_
        refine WL_ac0 (Ac_store1 rfl rfl sz3) rfl rfl ?_
        rintro _ _ rfl
        refine WL_end hK38 ?_
        refine WC_seq fun K39 hK39 => ?_
        refine WC_sr fun K40 hK40 => ?_
        refine WL_rd (Rd_load rfl tk78 (v := .func (.func 69) #[] #[.pointer (some ⟨cw, 0, none⟩)])) rfl rfl rfl ?_
        refine WL_end hK40 ?_
        refine WC_block ?_
        rw [show cl b8 3 [.int .i64 0] = cl b8 3 [.int .i64 ((0 : Nat) : Int)] from rfl]
        refine WC_rf (f := 69) (caps := [.pointer (some ⟨cw, 0, none⟩)]) rfl cf69 fun lrf_1 Drf_1 rrf_1 hstrf_1 hpdrf_1 hparf_1 hasrf_1 hbdrf_1 hfrrf_1 => ?_
        have hyrf_1 : ∀ (i : Nat) (x : Nat × (Int × Int × ByteArray)), (srt kS_lt (L.map toD))[i]? = some x → Yd Try.prog lrf_1 [.agg [.int .i64 x.2.1, .int .i64 x.2.2.1, .string x.2.2.2].toArray] [(fun (i : Nat) => exA (fun (_u : Unit) => True) (fun (_u : Unit) => [lp lrf_1 rrf_1, LCk cw u tb ta tc tm rows, cl b8 3 [.int .i64 ((i : Nat) : Int)], cl b6 4 [.bool false], cl b7 78 [.func (.func 69) #[] #[.pointer (some ⟨cw, 0, none⟩)]], cl b4 75 [v], W])) i] (fun b : Bool => .bool b) (fun b => [bif b then (fun (i : Nat) => exA (fun (_u : Unit) => True) (fun (_u : Unit) => [lp lrf_1 rrf_1, LCk cw u tb ta tc tm rows, cl b8 3 [.int .i64 ((i : Nat) : Int)], cl b6 4 [.bool false], cl b7 78 [.func (.func 69) #[] #[.pointer (some ⟨cw, 0, none⟩)]], cl b4 75 [v], W])) (i + 1) else (exA (fun _ : Unit => False) (fun _ => []))]) := by
          intro i x hix
          refine Yd_ex ?_
          rintro _u hφ
          refine Yd_of (pre := [LCk cw u tb ta tc tm rows, cl b8 3 [.int .i64 ((i : Nat) : Int)], cl b6 4 [.bool false], cl b7 78 [.func (.func 69) #[] #[.pointer (some ⟨cw, 0, none⟩)]], cl b4 75 [v], W]) hstrf_1 hpdrf_1 hparf_1 hasrf_1 hbdrf_1 hfrrf_1 rfl rfl fun F w0 Q K hp hend hbeg => ?_
          change WC _ _ _ _ _ _ ((46, .agg [.int .i64 x.2.1, .int .i64 x.2.2.1, .string x.2.2.2].toArray) :: _) (_ :: _ :: _ :: _ :: _ :: _ :: _ :: F)
          dsimp only at *
          obtain ⟨y, hyi, rfl⟩ := hC.all kS_lt_od kS_cm hix
          have hil := (List.getElem?_eq_some_iff.1 hyi).1
          refine WC_region ?_
          refine WL_ac (Ac_alloc zr62) rfl rfl rfl ?_
          rintro _ _ ⟨b10, rfl, rfl⟩
          refine WL_ac0 (Ac_store (ys := [.int .i64 (toD y).2.1, .int .i64 (toD y).2.2.1, .string (toD y).2.2.2]) rfl rfl sz62 (h1 := kS_encD.one (toD y).2) (hr := rfl)) rfl rfl ?_
          rintro _ _ rfl
          refine WL_nil ?_
          refine hbeg (by repeat (first | with_reducible exact Ext.here | with_reducible apply Ext.there)) ?_
          refine WC_block ?_
          refine WC_seq fun K41 hK41 => ?_
          refine WC_seq fun K42 hK42 => ?_
          refine WC_drawA mix (fun i => ([2, 2, 2, 2, 2, 2, 2, 2, 2, 2, 1, 2, 2] : List Nat).getD i 0) ?_
          refine WJ_tk 0 (Rd_load rfl tk3) hp ?_ rfl (by kernel_rfl) rfl rfl rfl
          refine WJ_tk 1 (Rd_load rfl tk75 (v := v)) hp ?_ rfl (by kernel_rfl) rfl rfl rfl
          refine WJ_takeP 2 rfl (by kernel_rfl) (Rd_len_sv rfl rfl ud75 (hA := hW)) rfl rfl rfl (hp _ _) ?_
          refine WJ_takeP 3 rfl (by kernel_rfl) (Rd_isF (Rd_geqN rfl rfl)) rfl rfl rfl (hp _ _) ?_
          refine WJ_takeP 4 rfl (by kernel_rfl) (Rd_move rfl) rfl rfl rfl (hp _ _) ?_
          refine WJ_tk 5 (Rd_loadg (vs := [.int .i64 (toD y).2.1, .int .i64 (toD y).2.2.1, .string (toD y).2.2.2]) rfl tk62 (hi := rfl)) hp ?_ rfl (by kernel_rfl) rfl rfl rfl
          refine WJ_tk 6 (Rd_load rfl tk75 (v := v)) hp ?_ rfl (by kernel_rfl) rfl rfl rfl
          refine WJ_tk 7 (Rd_load rfl tk3) hp ?_ rfl (by kernel_rfl) rfl rfl rfl
          refine WJ_takeP 8 rfl (by kernel_rfl) (Rd_index_sv i rfl rfl ud75 sz81 (hA := hW) (hi := by omega)) rfl rfl rfl (hp _ _) ?_
          refine WJ_tk 9 (Rd_loadg_sv (f := eDR) (i := i) rfl tk81 (hA := hW) (hl := hyi)) hp ?_ rfl (by kernel_rfl) rfl rfl rfl
          refine WJ_all (rs := [10]) (by kernel_rfl) rfl ?_
          refine WI_one ?_
          refine WI_ac rfl (Ac_call cf34 rfl (hs := alike_ct (y := y))) rfl rfl rfl rfl ?_
          rintro _ _ ⟨⟨⟩, rfl, hA⟩
          simp only [List.cons_append, List.nil_append] at hA
          replace hA := hA.symm
          subst hA
          refine ⟨(fun _ => (by repeat (first | with_reducible exact Sub.refl | with_reducible exact Sub.nil | with_reducible refine Sub.cons (by repeat (first | with_reducible exact Ext.here | with_reducible apply Ext.there)) ?_ | with_reducible refine Sub.tail ?_))), ?_⟩
          refine WJ_takeP 11 rfl (by kernel_rfl) (Rd_not rfl) rfl rfl rfl (hp _ _) ?_
          refine WJ_takeP 12 rfl (by kernel_rfl) (Rd_pickF rfl rfl) rfl rfl rfl (hp _ _) ?_
          refine WJ_done (by kernel_rfl) ?_
          refine Ps_next hK42 ?_
          refine WC_condF rfl ?_
          refine WC_skip ?_
          refine Ps_next hK41 ?_
          refine WC_seq fun K43 hK43 => ?_
          refine WC_sr fun K44 hK44 => ?_
          refine WL_rd (Rd_load rfl tk78 (v := .func (.func 69) #[] #[.pointer (some ⟨cw, 0, none⟩)])) rfl rfl rfl ?_
          refine WL_end hK44 ?_
          refine WC_block ?_
          refine WC_rfi (f := 69) (caps := [.pointer (some ⟨cw, 0, none⟩)]) rfl cf69 fun lrf_2 rrf_2 hstrf_2 hpdrf_2 hparf_2 hasrf_2 hbdrf_2 hfrrf_2 => ?_
          have hyrf_2 : ∀ (j : Nat) (x2 : Nat × (Int × Int × ByteArray)), (srt kS_lt (L.map toD))[j]? = some x2 → Yd Try.prog lrf_2 [.agg [.int .i64 x2.2.1, .int .i64 x2.2.2.1, .string x2.2.2.2].toArray] [(fun (j : Nat) => exA (fun (_u : Unit) => j = 0) (fun (_u : Unit) => [lp lrf_2 rrf_2, LCk cw u tb ta tc tm rows, cl b6 4 [.bool false], cl b4 75 [v], W])) j] (fun b : Bool => .bool b) (fun b => [bif b then (fun (j : Nat) => exA (fun (_u : Unit) => j = 0) (fun (_u : Unit) => [lp lrf_2 rrf_2, LCk cw u tb ta tc tm rows, cl b6 4 [.bool false], cl b4 75 [v], W])) (j + 1) else (exA (fun (_u : Unit) => True) (fun (_u : Unit) => [lp lrf_2 (rcD rrf_2 (.exit 4)), LCk cw u tb ta tc tm rows, cl b6 4 [.bool false], cl b4 75 [v], W]))]) := by
            intro j x2 hjx
            refine Yd_ex ?_
            rintro _u hj0
            refine Yd_of (pre := [LCk cw u tb ta tc tm rows, cl b6 4 [.bool false], cl b4 75 [v], W]) hstrf_2 hpdrf_2 hparf_2 hasrf_2 hbdrf_2 hfrrf_2 rfl rfl fun F w0 Q K hp hend hbeg => ?_
            change WC _ _ _ _ _ _ ((61, .agg [.int .i64 x2.2.1, .int .i64 x2.2.2.1, .string x2.2.2.2].toArray) :: _) (_ :: _ :: _ :: _ :: _ :: F)
            dsimp only at *
            subst hj0
            obtain ⟨y2, hy2, rfl⟩ := hC.all kS_lt_od kS_cm hjx
            have hil2 := (List.getElem?_eq_some_iff.1 hy2).1
            refine WC_region ?_
            refine WL_ac (Ac_alloc zr62) rfl rfl rfl ?_
            rintro _ _ ⟨b11, rfl, rfl⟩
            refine WL_ac0 (Ac_store (ys := [.int .i64 (toD y2).2.1, .int .i64 (toD y2).2.2.1, .string (toD y2).2.2.2]) rfl rfl sz62 (h1 := kS_encD.one (toD y2).2) (hr := rfl)) rfl rfl ?_
            rintro _ _ rfl
            refine WL_nil ?_
            refine hbeg (by repeat (first | with_reducible exact Ext.here | with_reducible apply Ext.there)) ?_
            refine WC_block ?_
            refine WC_seq fun K45 hK45 => ?_
            refine WC_seq fun K46 hK46 => ?_
            refine WC_drawA mix (fun i => ([2, 2, 2, 2, 1, 2] : List Nat).getD i 0) ?_
            refine WJ_tk 0 (Rd_loadg (vs := [.int .i64 (toD y2).2.1, .int .i64 (toD y2).2.2.1, .string (toD y2).2.2.2]) rfl tk62 (hi := rfl)) hp ?_ rfl (by kernel_rfl) rfl rfl rfl
            refine WJ_tk 1 (Rd_load rfl tk75 (v := v)) hp ?_ rfl (by kernel_rfl) rfl rfl rfl
            refine WJ_takeP 2 rfl (by kernel_rfl) (Rd_index_sv 0 rfl rfl ud75 sz81 (hA := hW) (hi := by omega)) rfl rfl rfl (hp _ _) ?_
            refine WJ_tk 3 (Rd_loadg_sv (f := eDR) (i := 0) rfl tk81 (hA := hW) (hl := hy2)) hp ?_ rfl (by kernel_rfl) rfl rfl rfl
            refine WJ_all (rs := [4]) (by kernel_rfl) rfl ?_
            refine WI_one ?_
            refine WI_ac rfl (Ac_call cf34 rfl (hs := alike_ct (y := y2))) rfl rfl rfl rfl ?_
            rintro _ _ ⟨⟨⟩, rfl, hA⟩
            simp only [List.cons_append, List.nil_append] at hA
            replace hA := hA.symm
            subst hA
            refine ⟨(fun _ => (by repeat (first | with_reducible exact Sub.refl | with_reducible exact Sub.nil | with_reducible refine Sub.cons (by repeat (first | with_reducible exact Ext.here | with_reducible apply Ext.there)) ?_ | with_reducible refine Sub.tail ?_))), ?_⟩
            refine WJ_takeP 5 rfl (by kernel_rfl) (Rd_not rfl) rfl rfl rfl (hp _ _) ?_
            refine WJ_done (by kernel_rfl) ?_
            refine Ps_next hK46 ?_
            refine WC_condF rfl ?_
            refine WC_skip ?_
            refine Ps_next hK45 ?_
            refine WC_exit ?_
            refine hend.exi 4 false rfl (by repeat (first | with_reducible exact Ext.here | with_reducible apply Ext.there)) ?_
            try simp only [List.cons_append, List.nil_append, cond_true, cond_false]
            exact imp_ex (()) (trivial) (by (try dsimp only); (try simp only [List.cons_append, List.nil_append]); repeat (first | with_reducible exact Sub.refl | with_reducible exact Sub.nil | with_reducible refine Sub.cons (by repeat (first | with_reducible exact Ext.here | with_reducible apply Ext.there)) ?_ | with_reducible refine Sub.tail ?_))
          refine ⟨_, _, _, _, _, kS_it (cw := cw) (u := u) (tb := tb) (tc := tc) (tm := tm) (ta := ta) (rows := rows) (L := L.map toD) (X := (fun (j : Nat) => exA (fun (_u : Unit) => j = 0) (fun (_u : Unit) => [lp lrf_2 rrf_2, LCk cw u tb ta tc tm rows, cl b6 4 [.bool false], cl b4 75 [v], W]))) (JJ := (exA (fun (_u : Unit) => True) (fun (_u : Unit) => [lp lrf_2 (rcD rrf_2 (.exit 4)), LCk cw u tb ta tc tm rows, cl b6 4 [.bool false], cl b4 75 [v], W]))) (l := lrf_2) hC.rl.pm hC.rl.up hC.rl.hp hC.rl.gd.1 (by omega) (fun i R w => exA_lend1) hyrf_2, imp_rf (Y := []) ((())) (rfl) (by repeat (first | with_reducible exact Gv.nil | (with_reducible apply Gv.cons; · (repeat (first | with_reducible exact Ext.here | with_reducible apply Ext.there))))) (by (try dsimp only); repeat (first | with_reducible exact Gv.nil | (with_reducible apply Gv.cons; · (repeat (first | with_reducible exact Ext.here | with_reducible apply Ext.there))))), ?_⟩
          · rintro (_ | _)
            · skip
              simp only [List.cons_append, List.nil_append, cond_true, cond_false]
              refine RfEnd_ex ?_
              rintro _u hJ3
              simp only [List.cons_append, List.nil_append]
              refine RfEnd_jmp ?_
              refine WC_exit ?_
              refine Ps_next hK43 ?_
              refine WC_region ?_
              refine WL_rd (Rd_load rfl tk3) rfl rfl rfl ?_
              refine WL_rd (Rd_addN (j := 1) rfl rfl) rfl rfl rfl ?_
              refine WL_ac0 (Ac_store1 rfl rfl sz3) rfl rfl ?_
              rintro _ _ rfl
              refine WL_nil ?_
              refine hend.nrm true rfl (by repeat (first | with_reducible exact Ext.here | with_reducible apply Ext.there)) ?_
              try simp only [List.cons_append, List.nil_append, cond_true, cond_false]
              exact imp_ex (()) (trivial) (by (try dsimp only); (try simp only [List.cons_append, List.nil_append]); repeat (first | with_reducible exact Sub.refl | with_reducible exact Sub.nil | with_reducible refine Sub.cons (by repeat (first | with_reducible exact Ext.here | with_reducible apply Ext.there)) ?_ | with_reducible refine Sub.tail ?_))
            · simp only [List.cons_append, List.nil_append, cond_true, cond_false]
              refine RfEnd_ex ?_
              rintro _u hj0
              simp only [List.cons_append, List.nil_append]
              exact absurd hj0 (by rw [hlm]; omega)
        refine ⟨_, _, _, _, _, kS_it (cw := cw) (u := u) (tb := tb) (tc := tc) (tm := tm) (ta := ta) (rows := rows) (L := L.map toD) (X := (fun (i : Nat) => exA (fun (_u : Unit) => True) (fun (_u : Unit) => [lp lrf_1 rrf_1, LCk cw u tb ta tc tm rows, cl b8 3 [.int .i64 ((i : Nat) : Int)], cl b6 4 [.bool false], cl b7 78 [.func (.func 69) #[] #[.pointer (some ⟨cw, 0, none⟩)]], cl b4 75 [v], W]))) (JJ := (exA (fun _ : Unit => False) (fun _ => []))) (l := lrf_1) hC.rl.pm hC.rl.up hC.rl.hp hC.rl.gd.1 (by omega) (fun i R w => exA_lend1) hyrf_1, imp_rf (Y := []) ((())) (trivial) (by repeat (first | with_reducible exact Gv.nil | (with_reducible apply Gv.cons; · (repeat (first | with_reducible exact Ext.here | with_reducible apply Ext.there))))) (by (try dsimp only); repeat (first | with_reducible exact Gv.nil | (with_reducible apply Gv.cons; · (repeat (first | with_reducible exact Ext.here | with_reducible apply Ext.there))))), ?_⟩
        · rintro (_ | _)
          · simp only [List.cons_append, List.nil_append, cond_true, cond_false]
            refine RfEnd_ex ?_
            exact fun _ h => h.elim
          · simp only [List.cons_append, List.nil_append, cond_true, cond_false]
            refine RfEnd_ex ?_
            rintro _u hφ
            simp only [List.cons_append, List.nil_append]
            rw [hlm]
            refine RfEnd_nrm hstrf_1 hpdrf_1 ?_
            refine Ps_next hK39 ?_
            refine WC_sr fun K47 hK47 => ?_
            refine WL_rd (Rd_load rfl tk3) rfl rfl rfl ?_
            refine WL_rd (Rd_load rfl tk75 (v := v)) rfl rfl rfl ?_
            refine WL_rd (Rd_len_sv rfl rfl ud75 (hA := hW)) rfl rfl rfl ?_
            refine WL_rd (Rd_isT (Rd_eqlN rfl rfl)) rfl rfl rfl ?_
            refine WL_ac0 (Ac_store1 rfl rfl sz4) rfl rfl ?_
            rintro _ _ rfl
            refine WL_end hK47 ?_
            refine WC_ret ?_
            refine hret.goDD () ?_
            exact Rs1cs rfl rfl tk4
      · try simp only [decide_eq_true_eq, decide_eq_false_iff_not, Bool.not_eq_true', Bool.not_eq_false', Bool.not_eq_true, Bool.not_eq_false, Int.not_lt, Int.not_le, Nat.not_lt, Nat.not_le, Decidable.not_not, ne_eq] at hg37
        have q0 := hg37
        refine WL_skip rfl rfl rfl ?_
        refine WL_skip rfl rfl rfl ?_
        refine WL_skip rfl rfl rfl ?_
        refine WL_skip rfl rfl rfl ?_
        refine WL_rd (Rd_pickF rfl rfl) rfl rfl rfl ?_
        refine WL_end hK36 ?_
        refine WC_condF rfl ?_
        refine WC_skip ?_
        refine Ps_next hK35 ?_
        refine WC_sr fun K48 hK48 => ?_
        refine WL_ac0 (Ac_store1 rfl rfl sz3) rfl rfl ?_
        rintro _ _ rfl
        refine WL_end hK48 ?_
        refine WC_seq fun K49 hK49 => ?_
        refine WC_sr fun K50 hK50 => ?_
        refine WL_rd (Rd_load rfl tk78 (v := .func (.func 69) #[] #[.pointer (some ⟨cw, 0, none⟩)])) rfl rfl rfl ?_
        refine WL_end hK50 ?_
        refine WC_block ?_
        rw [show cl b8 3 [.int .i64 0] = cl b8 3 [.int .i64 ((0 : Nat) : Int)] from rfl]
        refine WC_rf (f := 69) (caps := [.pointer (some ⟨cw, 0, none⟩)]) rfl cf69 fun lrf_1 Drf_1 rrf_1 hstrf_1 hpdrf_1 hparf_1 hasrf_1 hbdrf_1 hfrrf_1 => ?_
        have hyrf_1 : ∀ (i : Nat) (x : Nat × (Int × Int × ByteArray)), (srt kS_lt (L.map toD))[i]? = some x → Yd Try.prog lrf_1 [.agg [.int .i64 x.2.1, .int .i64 x.2.2.1, .string x.2.2.2].toArray] [(fun (i : Nat) => exA (fun (_u : Unit) => True) (fun (_u : Unit) => [lp lrf_1 rrf_1, LCk cw u tb ta tc tm rows, cl b8 3 [.int .i64 ((i : Nat) : Int)], cl b6 4 [.bool false], cl b7 78 [.func (.func 69) #[] #[.pointer (some ⟨cw, 0, none⟩)]], cl b4 75 [v], W])) i] (fun b : Bool => .bool b) (fun b => [bif b then (fun (i : Nat) => exA (fun (_u : Unit) => True) (fun (_u : Unit) => [lp lrf_1 rrf_1, LCk cw u tb ta tc tm rows, cl b8 3 [.int .i64 ((i : Nat) : Int)], cl b6 4 [.bool false], cl b7 78 [.func (.func 69) #[] #[.pointer (some ⟨cw, 0, none⟩)]], cl b4 75 [v], W])) (i + 1) else (exA (fun _ : Unit => False) (fun _ => []))]) := by
          intro i x hix
          refine Yd_ex ?_
          rintro _u hφ
          refine Yd_of (pre := [LCk cw u tb ta tc tm rows, cl b8 3 [.int .i64 ((i : Nat) : Int)], cl b6 4 [.bool false], cl b7 78 [.func (.func 69) #[] #[.pointer (some ⟨cw, 0, none⟩)]], cl b4 75 [v], W]) hstrf_1 hpdrf_1 hparf_1 hasrf_1 hbdrf_1 hfrrf_1 rfl rfl fun F w0 Q K hp hend hbeg => ?_
          change WC _ _ _ _ _ _ ((46, .agg [.int .i64 x.2.1, .int .i64 x.2.2.1, .string x.2.2.2].toArray) :: _) (_ :: _ :: _ :: _ :: _ :: _ :: _ :: F)
          dsimp only at *
          obtain ⟨y, hyi, rfl⟩ := hC.all kS_lt_od kS_cm hix
          have hil := (List.getElem?_eq_some_iff.1 hyi).1
          refine WC_region ?_
          refine WL_ac (Ac_alloc zr62) rfl rfl rfl ?_
          rintro _ _ ⟨b10, rfl, rfl⟩
          refine WL_ac0 (Ac_store (ys := [.int .i64 (toD y).2.1, .int .i64 (toD y).2.2.1, .string (toD y).2.2.2]) rfl rfl sz62 (h1 := kS_encD.one (toD y).2) (hr := rfl)) rfl rfl ?_
          rintro _ _ rfl
          refine WL_nil ?_
          refine hbeg (by repeat (first | with_reducible exact Ext.here | with_reducible apply Ext.there)) ?_
          refine WC_block ?_
          refine WC_seq fun K51 hK51 => ?_
          refine WC_seq fun K52 hK52 => ?_
          refine WC_drawA mix (fun i => ([2, 2, 2, 2, 2, 2, 2, 2, 2, 2, 1, 2, 2] : List Nat).getD i 0) ?_
          refine WJ_tk 0 (Rd_load rfl tk3) hp ?_ rfl (by kernel_rfl) rfl rfl rfl
          refine WJ_tk 1 (Rd_load rfl tk75 (v := v)) hp ?_ rfl (by kernel_rfl) rfl rfl rfl
          refine WJ_takeP 2 rfl (by kernel_rfl) (Rd_len_sv rfl rfl ud75 (hA := hW)) rfl rfl rfl (hp _ _) ?_
          refine WJ_takeP 3 rfl (by kernel_rfl) (Rd_isF (Rd_geqN rfl rfl)) rfl rfl rfl (hp _ _) ?_
          refine WJ_takeP 4 rfl (by kernel_rfl) (Rd_move rfl) rfl rfl rfl (hp _ _) ?_
          refine WJ_tk 5 (Rd_loadg (vs := [.int .i64 (toD y).2.1, .int .i64 (toD y).2.2.1, .string (toD y).2.2.2]) rfl tk62 (hi := rfl)) hp ?_ rfl (by kernel_rfl) rfl rfl rfl
          refine WJ_tk 6 (Rd_load rfl tk75 (v := v)) hp ?_ rfl (by kernel_rfl) rfl rfl rfl
          refine WJ_tk 7 (Rd_load rfl tk3) hp ?_ rfl (by kernel_rfl) rfl rfl rfl
          refine WJ_takeP 8 rfl (by kernel_rfl) (Rd_index_sv i rfl rfl ud75 sz81 (hA := hW) (hi := by omega)) rfl rfl rfl (hp _ _) ?_
          refine WJ_tk 9 (Rd_loadg_sv (f := eDR) (i := i) rfl tk81 (hA := hW) (hl := hyi)) hp ?_ rfl (by kernel_rfl) rfl rfl rfl
          refine WJ_all (rs := [10]) (by kernel_rfl) rfl ?_
          refine WI_one ?_
          refine WI_ac rfl (Ac_call cf34 rfl (hs := alike_ct (y := y))) rfl rfl rfl rfl ?_
          rintro _ _ ⟨⟨⟩, rfl, hA⟩
          simp only [List.cons_append, List.nil_append] at hA
          replace hA := hA.symm
          subst hA
          refine ⟨(fun _ => (by repeat (first | with_reducible exact Sub.refl | with_reducible exact Sub.nil | with_reducible refine Sub.cons (by repeat (first | with_reducible exact Ext.here | with_reducible apply Ext.there)) ?_ | with_reducible refine Sub.tail ?_))), ?_⟩
          refine WJ_takeP 11 rfl (by kernel_rfl) (Rd_not rfl) rfl rfl rfl (hp _ _) ?_
          refine WJ_takeP 12 rfl (by kernel_rfl) (Rd_pickF rfl rfl) rfl rfl rfl (hp _ _) ?_
          refine WJ_done (by kernel_rfl) ?_
          refine Ps_next hK52 ?_
          refine WC_condF rfl ?_
          refine WC_skip ?_
          refine Ps_next hK51 ?_
          refine WC_seq fun K53 hK53 => ?_
          refine WC_sr fun K54 hK54 => ?_
          refine WL_rd (Rd_load rfl tk78 (v := .func (.func 69) #[] #[.pointer (some ⟨cw, 0, none⟩)])) rfl rfl rfl ?_
          refine WL_end hK54 ?_
          refine WC_block ?_
          refine WC_rfi (f := 69) (caps := [.pointer (some ⟨cw, 0, none⟩)]) rfl cf69 fun lrf_2 rrf_2 hstrf_2 hpdrf_2 hparf_2 hasrf_2 hbdrf_2 hfrrf_2 => ?_
          have hyrf_2 : ∀ (j : Nat) (x2 : Nat × (Int × Int × ByteArray)), (srt kS_lt (L.map toD))[j]? = some x2 → Yd Try.prog lrf_2 [.agg [.int .i64 x2.2.1, .int .i64 x2.2.2.1, .string x2.2.2.2].toArray] [(fun (j : Nat) => exA (fun (_u : Unit) => j = 0) (fun (_u : Unit) => [lp lrf_2 rrf_2, LCk cw u tb ta tc tm rows, cl b6 4 [.bool false], cl b4 75 [v], W])) j] (fun b : Bool => .bool b) (fun b => [bif b then (fun (j : Nat) => exA (fun (_u : Unit) => j = 0) (fun (_u : Unit) => [lp lrf_2 rrf_2, LCk cw u tb ta tc tm rows, cl b6 4 [.bool false], cl b4 75 [v], W])) (j + 1) else (exA (fun (_u : Unit) => True) (fun (_u : Unit) => [lp lrf_2 (rcD rrf_2 (.exit 4)), LCk cw u tb ta tc tm rows, cl b6 4 [.bool false], cl b4 75 [v], W]))]) := by
            intro j x2 hjx
            refine Yd_ex ?_
            rintro _u hj0
            refine Yd_of (pre := [LCk cw u tb ta tc tm rows, cl b6 4 [.bool false], cl b4 75 [v], W]) hstrf_2 hpdrf_2 hparf_2 hasrf_2 hbdrf_2 hfrrf_2 rfl rfl fun F w0 Q K hp hend hbeg => ?_
            change WC _ _ _ _ _ _ ((61, .agg [.int .i64 x2.2.1, .int .i64 x2.2.2.1, .string x2.2.2.2].toArray) :: _) (_ :: _ :: _ :: _ :: _ :: F)
            dsimp only at *
            subst hj0
            obtain ⟨y2, hy2, rfl⟩ := hC.all kS_lt_od kS_cm hjx
            have hil2 := (List.getElem?_eq_some_iff.1 hy2).1
            refine WC_region ?_
            refine WL_ac (Ac_alloc zr62) rfl rfl rfl ?_
            rintro _ _ ⟨b11, rfl, rfl⟩
            refine WL_ac0 (Ac_store (ys := [.int .i64 (toD y2).2.1, .int .i64 (toD y2).2.2.1, .string (toD y2).2.2.2]) rfl rfl sz62 (h1 := kS_encD.one (toD y2).2) (hr := rfl)) rfl rfl ?_
            rintro _ _ rfl
            refine WL_nil ?_
            refine hbeg (by repeat (first | with_reducible exact Ext.here | with_reducible apply Ext.there)) ?_
            refine WC_block ?_
            refine WC_seq fun K55 hK55 => ?_
            refine WC_seq fun K56 hK56 => ?_
            refine WC_drawA mix (fun i => ([2, 2, 2, 2, 1, 2] : List Nat).getD i 0) ?_
            refine WJ_tk 0 (Rd_loadg (vs := [.int .i64 (toD y2).2.1, .int .i64 (toD y2).2.2.1, .string (toD y2).2.2.2]) rfl tk62 (hi := rfl)) hp ?_ rfl (by kernel_rfl) rfl rfl rfl
            refine WJ_tk 1 (Rd_load rfl tk75 (v := v)) hp ?_ rfl (by kernel_rfl) rfl rfl rfl
            refine WJ_takeP 2 rfl (by kernel_rfl) (Rd_index_sv 0 rfl rfl ud75 sz81 (hA := hW) (hi := by omega)) rfl rfl rfl (hp _ _) ?_
            refine WJ_tk 3 (Rd_loadg_sv (f := eDR) (i := 0) rfl tk81 (hA := hW) (hl := hy2)) hp ?_ rfl (by kernel_rfl) rfl rfl rfl
            refine WJ_all (rs := [4]) (by kernel_rfl) rfl ?_
            refine WI_one ?_
            refine WI_ac rfl (Ac_call cf34 rfl (hs := alike_ct (y := y2))) rfl rfl rfl rfl ?_
            rintro _ _ ⟨⟨⟩, rfl, hA⟩
            simp only [List.cons_append, List.nil_append] at hA
            replace hA := hA.symm
            subst hA
            refine ⟨(fun _ => (by repeat (first | with_reducible exact Sub.refl | with_reducible exact Sub.nil | with_reducible refine Sub.cons (by repeat (first | with_reducible exact Ext.here | with_reducible apply Ext.there)) ?_ | with_reducible refine Sub.tail ?_))), ?_⟩
            refine WJ_takeP 5 rfl (by kernel_rfl) (Rd_not rfl) rfl rfl rfl (hp _ _) ?_
            refine WJ_done (by kernel_rfl) ?_
            refine Ps_next hK56 ?_
            refine WC_condF rfl ?_
            refine WC_skip ?_
            refine Ps_next hK55 ?_
            refine WC_exit ?_
            refine hend.exi 4 false rfl (by repeat (first | with_reducible exact Ext.here | with_reducible apply Ext.there)) ?_
            try simp only [List.cons_append, List.nil_append, cond_true, cond_false]
            exact imp_ex (()) (trivial) (by (try dsimp only); (try simp only [List.cons_append, List.nil_append]); repeat (first | with_reducible exact Sub.refl | with_reducible exact Sub.nil | with_reducible refine Sub.cons (by repeat (first | with_reducible exact Ext.here | with_reducible apply Ext.there)) ?_ | with_reducible refine Sub.tail ?_))
          refine ⟨_, _, _, _, _, kS_it (cw := cw) (u := u) (tb := tb) (tc := tc) (tm := tm) (ta := ta) (rows := rows) (L := L.map toD) (X := (fun (j : Nat) => exA (fun (_u : Unit) => j = 0) (fun (_u : Unit) => [lp lrf_2 rrf_2, LCk cw u tb ta tc tm rows, cl b6 4 [.bool false], cl b4 75 [v], W]))) (JJ := (exA (fun (_u : Unit) => True) (fun (_u : Unit) => [lp lrf_2 (rcD rrf_2 (.exit 4)), LCk cw u tb ta tc tm rows, cl b6 4 [.bool false], cl b4 75 [v], W]))) (l := lrf_2) hC.rl.pm hC.rl.up hC.rl.hp hC.rl.gd.1 (by omega) (fun i R w => exA_lend1) hyrf_2, imp_rf (Y := []) ((())) (rfl) (by repeat (first | with_reducible exact Gv.nil | (with_reducible apply Gv.cons; · (repeat (first | with_reducible exact Ext.here | with_reducible apply Ext.there))))) (by (try dsimp only); repeat (first | with_reducible exact Gv.nil | (with_reducible apply Gv.cons; · (repeat (first | with_reducible exact Ext.here | with_reducible apply Ext.there))))), ?_⟩
          · rintro (_ | _)
            · skip
              simp only [List.cons_append, List.nil_append, cond_true, cond_false]
              refine RfEnd_ex ?_
              rintro _u hJ3
              simp only [List.cons_append, List.nil_append]
              refine RfEnd_jmp ?_
              refine WC_exit ?_
              refine Ps_next hK53 ?_
              refine WC_region ?_
              refine WL_rd (Rd_load rfl tk3) rfl rfl rfl ?_
              refine WL_rd (Rd_addN (j := 1) rfl rfl) rfl rfl rfl ?_
              refine WL_ac0 (Ac_store1 rfl rfl sz3) rfl rfl ?_
              rintro _ _ rfl
              refine WL_nil ?_
              refine hend.nrm true rfl (by repeat (first | with_reducible exact Ext.here | with_reducible apply Ext.there)) ?_
              try simp only [List.cons_append, List.nil_append, cond_true, cond_false]
              exact imp_ex (()) (trivial) (by (try dsimp only); (try simp only [List.cons_append, List.nil_append]); repeat (first | with_reducible exact Sub.refl | with_reducible exact Sub.nil | with_reducible refine Sub.cons (by repeat (first | with_reducible exact Ext.here | with_reducible apply Ext.there)) ?_ | with_reducible refine Sub.tail ?_))
            · simp only [List.cons_append, List.nil_append, cond_true, cond_false]
              refine RfEnd_ex ?_
              rintro _u hj0
              simp only [List.cons_append, List.nil_append]
              exact absurd hj0 (by rw [hlm]; omega)
        refine ⟨_, _, _, _, _, kS_it (cw := cw) (u := u) (tb := tb) (tc := tc) (tm := tm) (ta := ta) (rows := rows) (L := L.map toD) (X := (fun (i : Nat) => exA (fun (_u : Unit) => True) (fun (_u : Unit) => [lp lrf_1 rrf_1, LCk cw u tb ta tc tm rows, cl b8 3 [.int .i64 ((i : Nat) : Int)], cl b6 4 [.bool false], cl b7 78 [.func (.func 69) #[] #[.pointer (some ⟨cw, 0, none⟩)]], cl b4 75 [v], W]))) (JJ := (exA (fun _ : Unit => False) (fun _ => []))) (l := lrf_1) hC.rl.pm hC.rl.up hC.rl.hp hC.rl.gd.1 (by omega) (fun i R w => exA_lend1) hyrf_1, imp_rf (Y := []) ((())) (trivial) (by repeat (first | with_reducible exact Gv.nil | (with_reducible apply Gv.cons; · (repeat (first | with_reducible exact Ext.here | with_reducible apply Ext.there))))) (by (try dsimp only); repeat (first | with_reducible exact Gv.nil | (with_reducible apply Gv.cons; · (repeat (first | with_reducible exact Ext.here | with_reducible apply Ext.there))))), ?_⟩
        · rintro (_ | _)
          · simp only [List.cons_append, List.nil_append, cond_true, cond_false]
            refine RfEnd_ex ?_
            exact fun _ h => h.elim
          · simp only [List.cons_append, List.nil_append, cond_true, cond_false]
            refine RfEnd_ex ?_
            rintro _u hφ
            simp only [List.cons_append, List.nil_append]
            rw [hlm]
            refine RfEnd_nrm hstrf_1 hpdrf_1 ?_
            refine Ps_next hK49 ?_
            refine WC_sr fun K57 hK57 => ?_
            refine WL_rd (Rd_load rfl tk3) rfl rfl rfl ?_
            refine WL_rd (Rd_load rfl tk75 (v := v)) rfl rfl rfl ?_
            refine WL_rd (Rd_len_sv rfl rfl ud75 (hA := hW)) rfl rfl rfl ?_
            refine WL_rd (Rd_isT (Rd_eqlN rfl rfl)) rfl rfl rfl ?_
            refine WL_ac0 (Ac_store1 rfl rfl sz4) rfl rfl ?_
            rintro _ _ rfl
            refine WL_end hK57 ?_
            refine WC_ret ?_
            refine hret.goDD () ?_
            exact Rs1cs rfl rfl tk4
end Go.Proofs.Ytcemkpiopijbmaa
