/-
  Contracts of functions that the claim reaches, or the logic and the plain laws that they rest on, or the row over them. (Conditions: none beyond the statement.)
-/
import Derived.Test.YtlcafifjhilleaaPqRdC
set_option linter.all false
namespace Go.Proofs.Ytlcafifjhilleaa
open Go.RowKit Go.SL Go.ShM
set_option maxHeartbeats 1000000
set_option maxRecDepth 20000
set_option linter.all false
theorem sz98 : sz Try.prog 98 = some 16 := by kernel_rfl
theorem tk98 : tk Try.prog 98 = some (some 16) := by kernel_rfl
theorem ud41 : Try.prog.underlying 41 = some (.array 16 5) := by kernel_rfl
theorem ud98 : Try.prog.underlying 98 = some (.array 16 5) := by kernel_rfl
theorem zr98 : zr Try.prog 98 = some [.int .u8 0, .int .u8 0, .int .u8 0, .int .u8 0, .int .u8 0, .int .u8 0, .int .u8 0, .int .u8 0, .int .u8 0, .int .u8 0, .int .u8 0, .int .u8 0, .int .u8 0, .int .u8 0, .int .u8 0, .int .u8 0] := by kernel_rfl
theorem bigR4_ct {x : B32} : Ct Try.prog 78 [.int .u64 (((x.setWidth 64).toNat : Nat) : Int), .int .i64 4] [] (fun g : { g : Nat × Nat // 4 ≤ g.2 } => sl (some g.1.1) 4 g.1.2) (fun g => [arr (some g.1.1) g.1.2 1 5 (eU .u8) (big32 x)]) :=
  Ct_way fun F w hs0 => ⟨_, _, _, _, bigR_ct (x := x.setWidth 64) (n := 4), hs0, fun r w' hs => by
    rw [bigN_4] at hs
    obtain ⟨gb, hgb⟩ := arr_some (A := [arr r.1 r.2 1 5 (eU .u8) (big32 x)] ++ F) Has.here hs (by rw [big32_len]; omega)
    have hc := arr_cap (A := [arr r.1 r.2 1 5 (eU .u8) (big32 x)] ++ F) Has.here hs
    rw [big32_len] at hc
    exact ⟨⟨(gb, r.2), hc⟩, by rw [hgb], by rw [← hgb]; exact hs⟩⟩
def cpL (l : List B8) (i : Nat) : List B8 := l.take i ++ List.replicate (16 - i) 0#8
theorem cpL_0 (l : List B8) : cpL l 0 = List.replicate 16 0#8 := by unfold cpL; rw [List.take_zero, List.nil_append]
theorem cpL_16 (l : List B8) : cpL l 16 = l.take 16 := by unfold cpL; rw [show 16 - 16 = 0 from rfl, List.replicate_zero, List.append_nil]
theorem cpL_len {l : List B8} {i : Nat} (h : l.length = 32) (hi : i ≤ 16) : (cpL l i).length = 16 := by unfold cpL; rw [List.length_append, List.length_take, List.length_replicate]; omega
theorem cpL_set {l : List B8} {i : Nat} (h : l.length = 32) (hi : i < 16) : (cpL l i).set i (l.getD i 0#8) = cpL l (i + 1) := by
  unfold cpL
  apply List.ext_getElem?
  intro j
  rw [List.getElem?_set, List.length_append, List.length_take, List.length_replicate]
  by_cases e : i = j
  · subst e
    rw [if_pos rfl, if_pos (by omega), List.getElem?_append_left (by rw [List.length_take]; omega), List.getElem?_take_of_lt (by omega), List.getD_eq_getElem?_getD, List.getElem?_eq_getElem (by omega)]
    rfl
  · rw [if_neg e]
    rcases Nat.lt_or_ge j i with q | q
    · rw [List.getElem?_append_left (by rw [List.length_take]; omega), List.getElem?_append_left (by rw [List.length_take]; omega), List.getElem?_take_of_lt q, List.getElem?_take_of_lt (by omega)]
    · rw [List.getElem?_append_right (by rw [List.length_take]; omega), List.getElem?_append_right (by rw [List.length_take]; omega), List.getElem?_replicate, List.getElem?_replicate, List.length_take, List.length_take]
      have e1 : (j - min i l.length < 16 - i) = (j - min (i + 1) l.length < 16 - (i + 1)) := propext (by omega)
      simp only [e1]

theorem index_ct {k : List B8} (hk : k.length = 16 := by first | with_reducible assumption | omega) : Ct Try.prog 60 [aU .u8 k] [] (fun _ : Unit => aU .u8 ((tagD 2#8 [k]).take 16)) (fun _ => []) := by
  refine Ct_body (n := 10) Try.func60 rfl rfl rfl fun F w0 Q hret hnorm hp => ?_
  change WC _ _ _ _ _ _ _ (F)
  have htd := tagD_len 2#8 [k]
  have h16 : ((tagD 2#8 [k]).take 16).length = 16 := by rw [List.length_take]; omega
  refine WC_sr fun K1 hK1 => ?_
  refine WL_ac (Ac_boxW (k := .u8) rfl) rfl rfl rfl ?_
  rintro _ _ ⟨b1, rfl, rfl⟩
  refine WL_ac (Ac_allocW (k := .u8) (w := 8) (m := 16) zr98) rfl rfl rfl ?_
  rintro _ _ ⟨b2, rfl, rfl⟩
  refine WL_end hK1 ?_
  refine WC_sr fun K2 hK2 => ?_
  refine WL_rd (Rd_valE (v := sl (some b1) k.length k.length) (Rd_sliceA0 rfl ud41 sz5) (by rw [hk])) rfl rfl rfl ?_
  refine WL_ac (Ac_bsL (f := fP) (zs := [.slice none 0 0]) (bs := [.slice none 0 0]) [(⟨k, some ⟨b1, 0, none⟩, k.length⟩ : Pt)] encP ud22 zr23 sz23 rfl (by rw [Array.toList_map, Array.toList_range]; rfl) (by rfl) (by rfl) (by rfl) (by rfl)) rfl rfl rfl ?_
  rintro _ _ ⟨b5, rfl, rfl⟩
  have hp0 : RdP [arr (some b1) k.length 1 41 (eU .u8 (w := 8)) k] (⟨k, some ⟨b1, 0, none⟩, k.length⟩ : Pt) := by have h := Sv_own' (a := some b1) (cap := k.length) (T := 41) (encU .u8 (w := 8)) (l := k) (by simp) (Nat.le_refl _); exact h
  have hL : Sv [arr (some b5) 1 1 23 fP [(⟨k, some ⟨b1, 0, none⟩, k.length⟩ : Pt)]] (sl (some b5) 1 1) 1 fP [(⟨k, some ⟨b1, 0, none⟩, k.length⟩ : Pt)] (some ⟨b5, 0, none⟩) 1 := Sv_own' (a := some b5) (cap := 1) (T := 23) encP (l := [(⟨k, some ⟨b1, 0, none⟩, k.length⟩ : Pt)]) (by simp) (Nat.le_refl 1)
  have hmp : ([(⟨k, some ⟨b1, 0, none⟩, k.length⟩ : Pt)].map (·.l)) = [k] := rfl
  have hjl : (joinP [(⟨k, some ⟨b1, 0, none⟩, k.length⟩ : Pt)]).length = k.length := by simp [joinP]
  refine WL_ac (Ac_call cf37 rfl (hs := Ct.un0 (Xs := [arr (some b5) 1 1 23 fP [(⟨k, some ⟨b1, 0, none⟩, k.length⟩ : Pt)], arr (some b1) k.length 1 41 (eU .u8 (w := 8)) k]) (made_ct (t := 2#8) (X := sep [arr (some b5) 1 1 23 fP [(⟨k, some ⟨b1, 0, none⟩, k.length⟩ : Pt)], arr (some b1) k.length 1 41 (eU .u8 (w := 8)) k]) (ps := [(⟨k, some ⟨b1, 0, none⟩, k.length⟩ : Pt)]) (hS := hL.pk (by repeat (first | with_reducible exact Has.here | with_reducible refine Has.there ?_))) (hP := List.forall_mem_cons.2 ⟨hp0.pk (by repeat (first | with_reducible exact Has.here | with_reducible refine Has.there ?_)), by simp⟩) (hn := by rw [hjl]; omega) (hk := by show 1 ≤ _; omega)))) rfl rfl rfl ?_
  rintro _ _ ⟨⟨⟩, rfl, hA⟩
  simp only [List.cons_append, List.nil_append] at hA
  replace hA := hA.symm
  subst hA
  rw [hmp]
  refine WL_ac (Ac_allocW (k := .u8) (w := 8) (m := 32) zr43) rfl rfl rfl ?_
  rintro _ _ ⟨b3, rfl, rfl⟩
  refine WL_ac0 (Ac_storeW rfl rfl sz43) rfl rfl ?_
  rintro _ _ rfl
  refine WL_end hK2 ?_
  refine WC_sr fun K3 hK3 => ?_
  have hD16 : Sv [arr (some b3) 32 1 43 (eU .u8 (w := 8)) (tagD 2#8 [k])] (sl (some b3) 16 32) 1 (eU .u8 (w := 8)) ((tagD 2#8 [k]).take 16) (some ⟨b3, 0, none⟩) 32 := by have h := Sv_pre (T := 43) (a := some b3) (cap := 32) (encU .u8 (w := 8)) (List.take_prefix 16 (tagD 2#8 [k])) (by simp) (by omega); rw [h16] at h; exact h
  refine WL_rd (Rd_sliceAh 16 rfl rfl ud43 sz5) rfl rfl rfl ?_
  refine WL_rd (Rd_s2a (ao := some ⟨b3, 0, none⟩) (cap := 32) rfl ud98 (hA := hD16)) rfl rfl rfl ?_
  refine WL_rd (Rd_valE (v := aU .u8 ((tagD 2#8 [k]).take 16)) (Rd_loadW_sv (ao := some ⟨b3, 0, none⟩) (cap := 32) rfl tk98 (hA := hD16)) (by rw [List.take_take]; rfl)) rfl rfl rfl ?_
  refine WL_ac0 (Ac_storeW rfl rfl sz98) rfl rfl ?_
  rintro _ _ rfl
  refine WL_end hK3 ?_
  refine WC_ret ?_
  exact hret.go () (Rs1W rfl rfl tk98)

theorem indexR_ct {k : List B8} (hk : k.length = 16 := by first | with_reducible assumption | omega) : Ct Try.prog 61 [aU .u8 k] [] (fun _ : Unit => aU .u8 ((tagD 2#8 [k]).take 16)) (fun _ => []) := by
  refine Ct_body (n := 19) Try.func61 rfl rfl rfl fun F w0 Q hret hnorm hp => ?_
  change WC _ _ _ _ _ _ _ (F)
  have htd := tagD_len 2#8 [k]
  have h16 : ((tagD 2#8 [k]).take 16).length = 16 := by rw [List.length_take]; omega
  have hok : tagE 2#8 [k] = 0 := by unfold tagE; rw [if_neg (by decide), if_pos (by rw [fitM_2 rfl]; simp [lens, *])]
  refine WC_sr fun K1 hK1 => ?_
  refine WL_ac (Ac_boxW (k := .u8) rfl) rfl rfl rfl ?_
  rintro _ _ ⟨b1, rfl, rfl⟩
  refine WL_ac (Ac_allocW (k := .u8) (w := 8) (m := 16) zr98) rfl rfl rfl ?_
  rintro _ _ ⟨b2, rfl, rfl⟩
  refine WL_end hK1 ?_
  refine WC_sr fun K2 hK2 => ?_
  refine WL_rd (Rd_valE (v := sl (some b1) k.length k.length) (Rd_sliceA0 rfl ud41 sz5) (by rw [hk])) rfl rfl rfl ?_
  refine WL_ac (Ac_bsL (f := fP) (zs := [.slice none 0 0]) (bs := [.slice none 0 0]) [(⟨k, some ⟨b1, 0, none⟩, k.length⟩ : Pt)] encP ud22 zr23 sz23 rfl (by rw [Array.toList_map, Array.toList_range]; rfl) (by rfl) (by rfl) (by rfl) (by rfl)) rfl rfl rfl ?_
  rintro _ _ ⟨b7, rfl, rfl⟩
  have hp0 : RdP [arr (some b1) k.length 1 41 (eU .u8 (w := 8)) k] (⟨k, some ⟨b1, 0, none⟩, k.length⟩ : Pt) := by have h := Sv_own' (a := some b1) (cap := k.length) (T := 41) (encU .u8 (w := 8)) (l := k) (by simp) (Nat.le_refl _); exact h
  have hL : Sv [arr (some b7) 1 1 23 fP [(⟨k, some ⟨b1, 0, none⟩, k.length⟩ : Pt)]] (sl (some b7) 1 1) 1 fP [(⟨k, some ⟨b1, 0, none⟩, k.length⟩ : Pt)] (some ⟨b7, 0, none⟩) 1 := Sv_own' (a := some b7) (cap := 1) (T := 23) encP (l := [(⟨k, some ⟨b1, 0, none⟩, k.length⟩ : Pt)]) (by simp) (Nat.le_refl 1)
  have hmp : ([(⟨k, some ⟨b1, 0, none⟩, k.length⟩ : Pt)].map (·.l)) = [k] := rfl
  have hjl : (joinP [(⟨k, some ⟨b1, 0, none⟩, k.length⟩ : Pt)]).length = k.length := by simp [joinP]
  refine WL_ac (Ac_call cf84 rfl (hs := Ct.un0 (Xs := [arr (some b7) 1 1 23 fP [(⟨k, some ⟨b1, 0, none⟩, k.length⟩ : Pt)], arr (some b1) k.length 1 41 (eU .u8 (w := 8)) k]) (digestR_ct (t := 2#8) (X := sep [arr (some b7) 1 1 23 fP [(⟨k, some ⟨b1, 0, none⟩, k.length⟩ : Pt)], arr (some b1) k.length 1 41 (eU .u8 (w := 8)) k]) (ps := [(⟨k, some ⟨b1, 0, none⟩, k.length⟩ : Pt)]) (hS := hL.pk (by repeat (first | with_reducible exact Has.here | with_reducible refine Has.there ?_))) (hP := List.forall_mem_cons.2 ⟨hp0.pk (by repeat (first | with_reducible exact Has.here | with_reducible refine Has.there ?_)), by simp⟩) (hn := by rw [hjl]; omega) (hk := by show 1 ≤ _; omega) (hok := hok)))) rfl rfl rfl ?_
  rintro _ _ ⟨⟨⟩, rfl, hA⟩
  simp only [List.cons_append, List.nil_append] at hA
  replace hA := hA.symm
  subst hA
  rw [hmp]
  refine WL_ac (Ac_allocW (k := .u8) (w := 8) (m := 32) zr43) rfl rfl rfl ?_
  rintro _ _ ⟨b3, rfl, rfl⟩
  refine WL_ac0 (Ac_storeW rfl rfl sz43) rfl rfl ?_
  rintro _ _ rfl
  refine WL_end hK2 ?_
  refine WC_sr fun K3 hK3 => ?_
  refine WL_ac (Ac_allocW (k := .u8) (w := 8) (m := 16) zr98) rfl rfl rfl ?_
  rintro _ _ ⟨b4, rfl, rfl⟩
  refine WL_end hK3 ?_
  refine WC_seq fun K4 hK4 => ?_
  refine WC_sr fun K5 hK5 => ?_
  refine WL_rd (Rd_assign rfl) rfl rfl rfl ?_
  refine WL_end hK5 ?_
  refine WC_block ?_
  rw [show arr (some b4) 16 1 98 (eU .u8 (w := 8)) (List.replicate 16 0#8) = arr (some b4) 16 1 98 (eU .u8 (w := 8)) (cpL (tagD 2#8 [k]) 0) from by rw [cpL_0]]
  refine WC_loopK (σ := Nat) (fun i' => [(5, .int .i64 ((i' : Nat) : Int))]) (fun i' => [arr (some b4) 16 1 98 (eU .u8 (w := 8)) (cpL (tagD 2#8 [k]) i')]) (fun i' => i' ≤ 16) (fun i' => 16 - i') (0) [2, 3, 4, 18] (by repeat (first | exact Kep.nil | apply Kep.drop rfl | apply Kep.keep rfl)) (by (try dsimp only); repeat (first | with_reducible exact Gv.nil | (with_reducible apply Gv.cons; · (repeat (first | with_reducible exact Ext.here | with_reducible apply Ext.there))))) ?_ ?_ Sub.refl ?_
  · exact Nat.zero_le _
  · (try dsimp only); exact (Wk.cons (by first | rfl | (simp only [List.length_append, List.length_cons, List.length_nil, List.length_replicate, Nat.zero_add]; rfl) | (simp; done)) Wk.nil)
  · rintro i' hi K6 hK6
    simp only [List.cons_append, List.nil_append]
    have hcl := cpL_len (l := (tagD 2#8 [k])) htd hi
    refine WC_seq fun K7 hK7 => ?_
    refine WC_sr fun K8 hK8 => ?_
    refine WL_rd (Rd_move rfl) rfl rfl rfl ?_
    refine WL_rd (Rd_lssN (j := 16) rfl rfl) rfl rfl rfl ?_
    refine WL_end hK8 ?_
    refine WC_cond rfl (fun hc0 => ?_) (fun hc0 => ?_)
    · try simp only [decide_eq_true_eq, decide_eq_false_iff_not, Bool.not_eq_true', Bool.not_eq_false', Bool.not_eq_true, Bool.not_eq_false, Int.not_lt, Int.not_le, Nat.not_lt, Nat.not_le, Decidable.not_not, ne_eq] at hc0
      refine WC_skip ?_
      refine Ps_next hK7 ?_
      refine WC_seq fun K9 hK9 => ?_
      refine WC_block ?_
      refine WC_region ?_
      refine WL_rd (Rd_move rfl) rfl rfl rfl ?_
      refine WL_rd (Rd_move rfl) rfl rfl rfl ?_
      refine WL_rd (Rd_ixA _ rfl rfl ud43 sz5) rfl rfl rfl ?_
      refine WL_rd (Rd_loadU rfl tk5) rfl rfl rfl ?_
      refine WL_rd (Rd_ixA _ rfl rfl ud98 sz5) rfl rfl rfl ?_
      refine WL_ac0 (Ac_storeU rfl rfl sz5) rfl rfl ?_
      rintro _ _ rfl
      rw [cpL_set htd (by omega)]
      refine WL_nil ?_
      refine Ps_next hK9 ?_
      refine WC_region ?_
      refine WL_rd (Rd_move rfl) rfl rfl rfl ?_
      refine WL_rd (Rd_addN (j := 1) rfl rfl) rfl rfl rfl ?_
      refine WL_rd (Rd_assign rfl) rfl rfl rfl ?_
      refine WL_nil ?_
      refine Ps_wk (by (try simp only [List.cons_append, List.nil_append]); repeat (first | with_reducible exact Wk.nil | refine Wk.cons (by first | rfl | (simp only [List.length_append, List.length_cons, List.length_nil, List.length_replicate, Nat.zero_add]; rfl) | (simp; done)) ?_)) (by (try simp only [List.cons_append, List.nil_append]); repeat (first | with_reducible exact Sub.refl | with_reducible exact Sub.nil | with_reducible refine Sub.cons (by repeat (first | with_reducible exact Ext.here | with_reducible apply Ext.there)) ?_ | with_reducible refine Sub.tail ?_)) (hK6 (i' + 1) (by omega) (by omega))
    · try simp only [decide_eq_true_eq, decide_eq_false_iff_not, Bool.not_eq_true', Bool.not_eq_false', Bool.not_eq_true, Bool.not_eq_false, Int.not_lt, Int.not_le, Nat.not_lt, Nat.not_le, Decidable.not_not, ne_eq] at hc0
      obtain rfl : i' = 16 := by omega
      rw [cpL_16]
      refine WC_exit ?_
      refine Ps_next hK4 ?_
      refine WC_sr fun K10 hK10 => ?_
      refine WL_rd (Rd_loadW rfl tk98) rfl rfl rfl ?_
      refine WL_ac0 (Ac_storeW rfl rfl sz98) rfl rfl ?_
      rintro _ _ rfl
      refine WL_end hK10 ?_
      refine WC_ret ?_
      exact hret.go () (Rs1W rfl rfl tk98)

theorem block_ct {X : Asn} {v : Value} {l : List B8} {ao : Option Addr} {cap2 : Nat} (hS : Sv [X] v 1 (eU .u8 (w := 8)) l ao cap2 := by assumption) (hl : l.length ≤ 400000000000 := by omega) : Ct Try.prog 54 [v] [X] (fun _ : Unit => aU .u8 (tagD 3#8 [l])) (fun _ => [X]) := by
  refine Ct_body (n := 6) Try.func54 rfl rfl rfl fun F w0 Q hret hnorm hp => ?_
  change WC _ _ _ _ _ _ _ (_ :: F)
  have hv0 := hS.val
  subst hv0
  have htd := tagD_len 3#8 [l]
  refine WC_sr fun K1 hK1 => ?_
  refine WL_ac (Ac_allocW (k := .u8) (w := 8) (m := 32) zr43) rfl rfl rfl ?_
  rintro _ _ ⟨b2, rfl, rfl⟩
  refine WL_end hK1 ?_
  refine WC_sr fun K2 hK2 => ?_
  refine WL_rd (Rd_move rfl) rfl rfl rfl ?_
  refine WL_ac (Ac_bsL (f := fP) (zs := [.slice none 0 0]) (bs := [.slice none 0 0]) [(⟨l, ao, cap2⟩ : Pt)] encP ud22 zr23 sz23 rfl (by rw [Array.toList_map, Array.toList_range]; rfl) (by rfl) (by rfl) (by rfl) (by rfl)) rfl rfl rfl ?_
  rintro _ _ ⟨b4, rfl, rfl⟩
  have hL : Sv [arr (some b4) 1 1 23 fP [(⟨l, ao, cap2⟩ : Pt)]] (sl (some b4) 1 1) 1 fP [(⟨l, ao, cap2⟩ : Pt)] (some ⟨b4, 0, none⟩) 1 := Sv_own' (a := some b4) (cap := 1) (T := 23) encP (l := [(⟨l, ao, cap2⟩ : Pt)]) (by simp) (Nat.le_refl 1)
  have hp0 : RdP [X] (⟨l, ao, cap2⟩ : Pt) := hS
  have hmp : ([(⟨l, ao, cap2⟩ : Pt)].map (·.l)) = [l] := rfl
  have hjl : (joinP [(⟨l, ao, cap2⟩ : Pt)]).length = l.length := by simp [joinP]
  refine WL_ac (Ac_call cf37 rfl (hs := Ct.un0 (Xs := [arr (some b4) 1 1 23 fP [(⟨l, ao, cap2⟩ : Pt)], X]) (made_ct (t := 3#8) (X := sep [arr (some b4) 1 1 23 fP [(⟨l, ao, cap2⟩ : Pt)], X]) (ps := [(⟨l, ao, cap2⟩ : Pt)]) (hS := hL.pk (by repeat (first | with_reducible exact Has.here | with_reducible refine Has.there ?_))) (hP := List.forall_mem_cons.2 ⟨hp0.pk (by repeat (first | with_reducible exact Has.here | with_reducible refine Has.there ?_)), by simp⟩) (hn := by rw [hjl]; omega) (hk := by show 1 ≤ _; omega)))) rfl rfl rfl ?_
  rintro _ _ ⟨⟨⟩, rfl, hA⟩
  simp only [List.cons_append, List.nil_append] at hA
  replace hA := hA.symm
  subst hA
  rw [hmp]
  refine WL_ac0 (Ac_storeW rfl rfl sz43) rfl rfl ?_
  rintro _ _ rfl
  refine WL_end hK2 ?_
  refine WC_ret ?_
  exact hret.go () (Rs1W rfl rfl tk43)

theorem blockR_ct {X : Asn} {v : Value} {l : List B8} {ao : Option Addr} {cap2 : Nat} (hS : Sv [X] v 1 (eU .u8 (w := 8)) l ao cap2 := by assumption) (hl : l.length ≤ 400000000000 := by omega) : Ct Try.prog 55 [v] [X] (fun _ : Unit => aU .u8 (tagD 3#8 [l])) (fun _ => [X]) := by
  refine Ct_body (n := 6) Try.func55 rfl rfl rfl fun F w0 Q hret hnorm hp => ?_
  change WC _ _ _ _ _ _ _ (_ :: F)
  have hv0 := hS.val
  subst hv0
  have htd := tagD_len 3#8 [l]
  have hok : tagE 3#8 [l] = 0 := by unfold tagE; rw [if_neg (by decide), if_pos (by rw [fitM_o (by decide)]; rfl)]
  refine WC_sr fun K1 hK1 => ?_
  refine WL_ac (Ac_allocW (k := .u8) (w := 8) (m := 32) zr43) rfl rfl rfl ?_
  rintro _ _ ⟨b2, rfl, rfl⟩
  refine WL_end hK1 ?_
  refine WC_sr fun K2 hK2 => ?_
  refine WL_rd (Rd_move rfl) rfl rfl rfl ?_
  refine WL_ac (Ac_bsL (f := fP) (zs := [.slice none 0 0]) (bs := [.slice none 0 0]) [(⟨l, ao, cap2⟩ : Pt)] encP ud22 zr23 sz23 rfl (by rw [Array.toList_map, Array.toList_range]; rfl) (by rfl) (by rfl) (by rfl) (by rfl)) rfl rfl rfl ?_
  rintro _ _ ⟨b4, rfl, rfl⟩
  have hL : Sv [arr (some b4) 1 1 23 fP [(⟨l, ao, cap2⟩ : Pt)]] (sl (some b4) 1 1) 1 fP [(⟨l, ao, cap2⟩ : Pt)] (some ⟨b4, 0, none⟩) 1 := Sv_own' (a := some b4) (cap := 1) (T := 23) encP (l := [(⟨l, ao, cap2⟩ : Pt)]) (by simp) (Nat.le_refl 1)
  have hp0 : RdP [X] (⟨l, ao, cap2⟩ : Pt) := hS
  have hmp : ([(⟨l, ao, cap2⟩ : Pt)].map (·.l)) = [l] := rfl
  have hjl : (joinP [(⟨l, ao, cap2⟩ : Pt)]).length = l.length := by simp [joinP]
  refine WL_ac (Ac_call cf84 rfl (hs := Ct.un0 (Xs := [arr (some b4) 1 1 23 fP [(⟨l, ao, cap2⟩ : Pt)], X]) (digestR_ct (t := 3#8) (X := sep [arr (some b4) 1 1 23 fP [(⟨l, ao, cap2⟩ : Pt)], X]) (ps := [(⟨l, ao, cap2⟩ : Pt)]) (hS := hL.pk (by repeat (first | with_reducible exact Has.here | with_reducible refine Has.there ?_))) (hP := List.forall_mem_cons.2 ⟨hp0.pk (by repeat (first | with_reducible exact Has.here | with_reducible refine Has.there ?_)), by simp⟩) (hn := by rw [hjl]; omega) (hk := by show 1 ≤ _; omega) (hok := hok)))) rfl rfl rfl ?_
  rintro _ _ ⟨⟨⟩, rfl, hA⟩
  simp only [List.cons_append, List.nil_append] at hA
  replace hA := hA.symm
  subst hA
  rw [hmp]
  refine WL_ac0 (Ac_storeW rfl rfl sz43) rfl rfl ?_
  rintro _ _ rfl
  refine WL_end hK2 ?_
  refine WC_ret ?_
  exact hret.go () (Rs1W rfl rfl tk43)

theorem segment_ct {X : Asn} {v : Value} {l : List B8} {ao : Option Addr} {cap2 : Nat} (hS : Sv [X] v 1 (eU .u8 (w := 8)) l ao cap2 := by assumption) (hl : l.length ≤ 400000000000 := by omega) : Ct Try.prog 56 [v] [X] (fun _ : Unit => aU .u8 (tagD 4#8 [l])) (fun _ => [X]) := by
  refine Ct_body (n := 6) Try.func56 rfl rfl rfl fun F w0 Q hret hnorm hp => ?_
  change WC _ _ _ _ _ _ _ (_ :: F)
  have hv0 := hS.val
  subst hv0
  have htd := tagD_len 4#8 [l]
  refine WC_sr fun K1 hK1 => ?_
  refine WL_ac (Ac_allocW (k := .u8) (w := 8) (m := 32) zr43) rfl rfl rfl ?_
  rintro _ _ ⟨b2, rfl, rfl⟩
  refine WL_end hK1 ?_
  refine WC_sr fun K2 hK2 => ?_
  refine WL_rd (Rd_move rfl) rfl rfl rfl ?_
  refine WL_ac (Ac_bsL (f := fP) (zs := [.slice none 0 0]) (bs := [.slice none 0 0]) [(⟨l, ao, cap2⟩ : Pt)] encP ud22 zr23 sz23 rfl (by rw [Array.toList_map, Array.toList_range]; rfl) (by rfl) (by rfl) (by rfl) (by rfl)) rfl rfl rfl ?_
  rintro _ _ ⟨b4, rfl, rfl⟩
  have hL : Sv [arr (some b4) 1 1 23 fP [(⟨l, ao, cap2⟩ : Pt)]] (sl (some b4) 1 1) 1 fP [(⟨l, ao, cap2⟩ : Pt)] (some ⟨b4, 0, none⟩) 1 := Sv_own' (a := some b4) (cap := 1) (T := 23) encP (l := [(⟨l, ao, cap2⟩ : Pt)]) (by simp) (Nat.le_refl 1)
  have hp0 : RdP [X] (⟨l, ao, cap2⟩ : Pt) := hS
  have hmp : ([(⟨l, ao, cap2⟩ : Pt)].map (·.l)) = [l] := rfl
  have hjl : (joinP [(⟨l, ao, cap2⟩ : Pt)]).length = l.length := by simp [joinP]
  refine WL_ac (Ac_call cf37 rfl (hs := Ct.un0 (Xs := [arr (some b4) 1 1 23 fP [(⟨l, ao, cap2⟩ : Pt)], X]) (made_ct (t := 4#8) (X := sep [arr (some b4) 1 1 23 fP [(⟨l, ao, cap2⟩ : Pt)], X]) (ps := [(⟨l, ao, cap2⟩ : Pt)]) (hS := hL.pk (by repeat (first | with_reducible exact Has.here | with_reducible refine Has.there ?_))) (hP := List.forall_mem_cons.2 ⟨hp0.pk (by repeat (first | with_reducible exact Has.here | with_reducible refine Has.there ?_)), by simp⟩) (hn := by rw [hjl]; omega) (hk := by show 1 ≤ _; omega)))) rfl rfl rfl ?_
  rintro _ _ ⟨⟨⟩, rfl, hA⟩
  simp only [List.cons_append, List.nil_append] at hA
  replace hA := hA.symm
  subst hA
  rw [hmp]
  refine WL_ac0 (Ac_storeW rfl rfl sz43) rfl rfl ?_
  rintro _ _ rfl
  refine WL_end hK2 ?_
  refine WC_ret ?_
  exact hret.go () (Rs1W rfl rfl tk43)

theorem segmentR_ct {X : Asn} {v : Value} {l : List B8} {ao : Option Addr} {cap2 : Nat} (hS : Sv [X] v 1 (eU .u8 (w := 8)) l ao cap2 := by assumption) (hl : l.length ≤ 400000000000 := by omega) : Ct Try.prog 57 [v] [X] (fun _ : Unit => aU .u8 (tagD 4#8 [l])) (fun _ => [X]) := by
  refine Ct_body (n := 6) Try.func57 rfl rfl rfl fun F w0 Q hret hnorm hp => ?_
  change WC _ _ _ _ _ _ _ (_ :: F)
  have hv0 := hS.val
  subst hv0
  have htd := tagD_len 4#8 [l]
  have hok : tagE 4#8 [l] = 0 := by unfold tagE; rw [if_neg (by decide), if_pos (by rw [fitM_o (by decide)]; rfl)]
  refine WC_sr fun K1 hK1 => ?_
  refine WL_ac (Ac_allocW (k := .u8) (w := 8) (m := 32) zr43) rfl rfl rfl ?_
  rintro _ _ ⟨b2, rfl, rfl⟩
  refine WL_end hK1 ?_
  refine WC_sr fun K2 hK2 => ?_
  refine WL_rd (Rd_move rfl) rfl rfl rfl ?_
  refine WL_ac (Ac_bsL (f := fP) (zs := [.slice none 0 0]) (bs := [.slice none 0 0]) [(⟨l, ao, cap2⟩ : Pt)] encP ud22 zr23 sz23 rfl (by rw [Array.toList_map, Array.toList_range]; rfl) (by rfl) (by rfl) (by rfl) (by rfl)) rfl rfl rfl ?_
  rintro _ _ ⟨b4, rfl, rfl⟩
  have hL : Sv [arr (some b4) 1 1 23 fP [(⟨l, ao, cap2⟩ : Pt)]] (sl (some b4) 1 1) 1 fP [(⟨l, ao, cap2⟩ : Pt)] (some ⟨b4, 0, none⟩) 1 := Sv_own' (a := some b4) (cap := 1) (T := 23) encP (l := [(⟨l, ao, cap2⟩ : Pt)]) (by simp) (Nat.le_refl 1)
  have hp0 : RdP [X] (⟨l, ao, cap2⟩ : Pt) := hS
  have hmp : ([(⟨l, ao, cap2⟩ : Pt)].map (·.l)) = [l] := rfl
  have hjl : (joinP [(⟨l, ao, cap2⟩ : Pt)]).length = l.length := by simp [joinP]
  refine WL_ac (Ac_call cf84 rfl (hs := Ct.un0 (Xs := [arr (some b4) 1 1 23 fP [(⟨l, ao, cap2⟩ : Pt)], X]) (digestR_ct (t := 4#8) (X := sep [arr (some b4) 1 1 23 fP [(⟨l, ao, cap2⟩ : Pt)], X]) (ps := [(⟨l, ao, cap2⟩ : Pt)]) (hS := hL.pk (by repeat (first | with_reducible exact Has.here | with_reducible refine Has.there ?_))) (hP := List.forall_mem_cons.2 ⟨hp0.pk (by repeat (first | with_reducible exact Has.here | with_reducible refine Has.there ?_)), by simp⟩) (hn := by rw [hjl]; omega) (hk := by show 1 ≤ _; omega) (hok := hok)))) rfl rfl rfl ?_
  rintro _ _ ⟨⟨⟩, rfl, hA⟩
  simp only [List.cons_append, List.nil_append] at hA
  replace hA := hA.symm
  subst hA
  rw [hmp]
  refine WL_ac0 (Ac_storeW rfl rfl sz43) rfl rfl ?_
  rintro _ _ rfl
  refine WL_end hK2 ?_
  refine WC_ret ?_
  exact hret.go () (Rs1W rfl rfl tk43)

theorem ueb_ct {X : Asn} {v : Value} {l : List B8} {ao : Option Addr} {cap2 : Nat} (hS : Sv [X] v 1 (eU .u8 (w := 8)) l ao cap2 := by assumption) (hl : l.length ≤ 400000000000 := by omega) : Ct Try.prog 58 [v] [X] (fun _ : Unit => aU .u8 (tagD 8#8 [l])) (fun _ => [X]) := by
  refine Ct_body (n := 6) Try.func58 rfl rfl rfl fun F w0 Q hret hnorm hp => ?_
  change WC _ _ _ _ _ _ _ (_ :: F)
  have hv0 := hS.val
  subst hv0
  have htd := tagD_len 8#8 [l]
  refine WC_sr fun K1 hK1 => ?_
  refine WL_ac (Ac_allocW (k := .u8) (w := 8) (m := 32) zr43) rfl rfl rfl ?_
  rintro _ _ ⟨b2, rfl, rfl⟩
  refine WL_end hK1 ?_
  refine WC_sr fun K2 hK2 => ?_
  refine WL_rd (Rd_move rfl) rfl rfl rfl ?_
  refine WL_ac (Ac_bsL (f := fP) (zs := [.slice none 0 0]) (bs := [.slice none 0 0]) [(⟨l, ao, cap2⟩ : Pt)] encP ud22 zr23 sz23 rfl (by rw [Array.toList_map, Array.toList_range]; rfl) (by rfl) (by rfl) (by rfl) (by rfl)) rfl rfl rfl ?_
  rintro _ _ ⟨b4, rfl, rfl⟩
  have hL : Sv [arr (some b4) 1 1 23 fP [(⟨l, ao, cap2⟩ : Pt)]] (sl (some b4) 1 1) 1 fP [(⟨l, ao, cap2⟩ : Pt)] (some ⟨b4, 0, none⟩) 1 := Sv_own' (a := some b4) (cap := 1) (T := 23) encP (l := [(⟨l, ao, cap2⟩ : Pt)]) (by simp) (Nat.le_refl 1)
  have hp0 : RdP [X] (⟨l, ao, cap2⟩ : Pt) := hS
  have hmp : ([(⟨l, ao, cap2⟩ : Pt)].map (·.l)) = [l] := rfl
  have hjl : (joinP [(⟨l, ao, cap2⟩ : Pt)]).length = l.length := by simp [joinP]
  refine WL_ac (Ac_call cf37 rfl (hs := Ct.un0 (Xs := [arr (some b4) 1 1 23 fP [(⟨l, ao, cap2⟩ : Pt)], X]) (made_ct (t := 8#8) (X := sep [arr (some b4) 1 1 23 fP [(⟨l, ao, cap2⟩ : Pt)], X]) (ps := [(⟨l, ao, cap2⟩ : Pt)]) (hS := hL.pk (by repeat (first | with_reducible exact Has.here | with_reducible refine Has.there ?_))) (hP := List.forall_mem_cons.2 ⟨hp0.pk (by repeat (first | with_reducible exact Has.here | with_reducible refine Has.there ?_)), by simp⟩) (hn := by rw [hjl]; omega) (hk := by show 1 ≤ _; omega)))) rfl rfl rfl ?_
  rintro _ _ ⟨⟨⟩, rfl, hA⟩
  simp only [List.cons_append, List.nil_append] at hA
  replace hA := hA.symm
  subst hA
  rw [hmp]
  refine WL_ac0 (Ac_storeW rfl rfl sz43) rfl rfl ?_
  rintro _ _ rfl
  refine WL_end hK2 ?_
  refine WC_ret ?_
  exact hret.go () (Rs1W rfl rfl tk43)

theorem uebR_ct {X : Asn} {v : Value} {l : List B8} {ao : Option Addr} {cap2 : Nat} (hS : Sv [X] v 1 (eU .u8 (w := 8)) l ao cap2 := by assumption) (hl : l.length ≤ 400000000000 := by omega) : Ct Try.prog 59 [v] [X] (fun _ : Unit => aU .u8 (tagD 8#8 [l])) (fun _ => [X]) := by
  refine Ct_body (n := 6) Try.func59 rfl rfl rfl fun F w0 Q hret hnorm hp => ?_
  change WC _ _ _ _ _ _ _ (_ :: F)
  have hv0 := hS.val
  subst hv0
  have htd := tagD_len 8#8 [l]
  have hok : tagE 8#8 [l] = 0 := by unfold tagE; rw [if_neg (by decide), if_pos (by rw [fitM_o (by decide)]; rfl)]
  refine WC_sr fun K1 hK1 => ?_
  refine WL_ac (Ac_allocW (k := .u8) (w := 8) (m := 32) zr43) rfl rfl rfl ?_
  rintro _ _ ⟨b2, rfl, rfl⟩
  refine WL_end hK1 ?_
  refine WC_sr fun K2 hK2 => ?_
  refine WL_rd (Rd_move rfl) rfl rfl rfl ?_
  refine WL_ac (Ac_bsL (f := fP) (zs := [.slice none 0 0]) (bs := [.slice none 0 0]) [(⟨l, ao, cap2⟩ : Pt)] encP ud22 zr23 sz23 rfl (by rw [Array.toList_map, Array.toList_range]; rfl) (by rfl) (by rfl) (by rfl) (by rfl)) rfl rfl rfl ?_
  rintro _ _ ⟨b4, rfl, rfl⟩
  have hL : Sv [arr (some b4) 1 1 23 fP [(⟨l, ao, cap2⟩ : Pt)]] (sl (some b4) 1 1) 1 fP [(⟨l, ao, cap2⟩ : Pt)] (some ⟨b4, 0, none⟩) 1 := Sv_own' (a := some b4) (cap := 1) (T := 23) encP (l := [(⟨l, ao, cap2⟩ : Pt)]) (by simp) (Nat.le_refl 1)
  have hp0 : RdP [X] (⟨l, ao, cap2⟩ : Pt) := hS
  have hmp : ([(⟨l, ao, cap2⟩ : Pt)].map (·.l)) = [l] := rfl
  have hjl : (joinP [(⟨l, ao, cap2⟩ : Pt)]).length = l.length := by simp [joinP]
  refine WL_ac (Ac_call cf84 rfl (hs := Ct.un0 (Xs := [arr (some b4) 1 1 23 fP [(⟨l, ao, cap2⟩ : Pt)], X]) (digestR_ct (t := 8#8) (X := sep [arr (some b4) 1 1 23 fP [(⟨l, ao, cap2⟩ : Pt)], X]) (ps := [(⟨l, ao, cap2⟩ : Pt)]) (hS := hL.pk (by repeat (first | with_reducible exact Has.here | with_reducible refine Has.there ?_))) (hP := List.forall_mem_cons.2 ⟨hp0.pk (by repeat (first | with_reducible exact Has.here | with_reducible refine Has.there ?_)), by simp⟩) (hn := by rw [hjl]; omega) (hk := by show 1 ≤ _; omega) (hok := hok)))) rfl rfl rfl ?_
  rintro _ _ ⟨⟨⟩, rfl, hA⟩
  simp only [List.cons_append, List.nil_append] at hA
  replace hA := hA.symm
  subst hA
  rw [hmp]
  refine WL_ac0 (Ac_storeW rfl rfl sz43) rfl rfl ?_
  rintro _ _ rfl
  refine WL_end hK2 ?_
  refine WC_ret ?_
  exact hret.go () (Rs1W rfl rfl tk43)

theorem ring_ct {i : List B8} {x : B32} (hi : i.length = 16 := by first | with_reducible assumption | omega) : Ct Try.prog 67 [aU .u8 i, .int .u32 ((x.toNat : Nat) : Int)] [] (fun _ : Unit => aU .u8 (tagD 9#8 [i, big32 x])) (fun _ => []) := by
  refine Ct_body (n := 10) Try.func67 rfl rfl rfl fun F w0 Q hret hnorm hp => ?_
  change WC _ _ _ _ _ _ _ (F)
  have hb4 := big32_len x
  have htd := tagD_len 9#8 [i, big32 x]
  refine WC_sr fun K1 hK1 => ?_
  refine WL_ac (Ac_boxW (k := .u8) rfl) rfl rfl rfl ?_
  rintro _ _ ⟨b2, rfl, rfl⟩
  refine WL_ac (Ac_allocW (k := .u8) (w := 8) (m := 32) zr43) rfl rfl rfl ?_
  rintro _ _ ⟨b4, rfl, rfl⟩
  refine WL_end hK1 ?_
  refine WC_seq fun K2 hK2 => ?_
  refine WC_drawA mix (fun i => ([2, 2, 1, 1, 1, 0] : List Nat).getD i 0) ?_
  refine WJ_takeP 0 rfl (by kernel_rfl) (Rd_valE (v := sl (some b2) i.length i.length) (Rd_sliceA0 rfl ud98 sz5) (by rw [hi])) rfl rfl rfl (hp _ _) ?_
  refine WJ_takeP 1 rfl (by kernel_rfl) (Rd_move rfl) rfl rfl rfl (hp _ _) ?_
  refine WJ_all (rs := [2]) (by kernel_rfl) rfl ?_
  refine WI_one ?_
  refine WI_ac rfl (Ac_call cf38 rfl (hs := bigu32_ct (x := x))) rfl rfl rfl rfl ?_
  rintro _ _ ⟨g7, rfl, hA⟩
  simp only [List.cons_append, List.nil_append] at hA
  replace hA := hA.symm
  subst hA
  refine ⟨(fun _ => (by repeat (first | with_reducible exact Sub.refl | with_reducible exact Sub.nil | with_reducible refine Sub.cons (by repeat (first | with_reducible exact Ext.here | with_reducible apply Ext.there)) ?_ | with_reducible refine Sub.tail ?_))), ?_⟩
  refine WJ_all (rs := [3]) (by kernel_rfl) rfl ?_
  refine WI_one ?_
  refine WI_ac rfl (Ac_bsL (f := fP) (zs := [.slice none 0 0]) (bs := [.slice none 0 0, .slice none 0 0]) [(⟨i, some ⟨b2, 0, none⟩, i.length⟩ : Pt), (⟨(big32 x), some ⟨g7, 0, none⟩, 4⟩ : Pt)] encP ud22 zr23 sz23 rfl (by rw [Array.toList_map, Array.toList_range]; rfl) (by rfl) (by rfl) (by rfl) (by rfl)) rfl rfl rfl rfl ?_
  rintro _ _ ⟨b8, rfl, rfl⟩
  refine ⟨(fun _ => (by repeat (first | with_reducible exact Sub.refl | with_reducible exact Sub.nil | with_reducible refine Sub.cons (by repeat (first | with_reducible exact Ext.here | with_reducible apply Ext.there)) ?_ | with_reducible refine Sub.tail ?_))), ?_⟩
  refine WJ_all (rs := [4]) (by kernel_rfl) rfl ?_
  refine WI_one ?_
  have hp0 : RdP [arr (some b2) i.length 1 98 (eU .u8 (w := 8)) i] (⟨i, some ⟨b2, 0, none⟩, i.length⟩ : Pt) := by have h := Sv_own' (a := some b2) (cap := i.length) (T := 98) (encU .u8 (w := 8)) (l := i) (by simp) (Nat.le_refl _); exact h
  have hp1 : RdP [arr (some g7) 4 1 5 (eU .u8 (w := 8)) (big32 x)] (⟨(big32 x), some ⟨g7, 0, none⟩, 4⟩ : Pt) := by have h := Sv_own' (a := some g7) (cap := 4) (T := 5) (encU .u8 (w := 8)) (l := (big32 x)) (by simp) (by rw [hb4]; exact Nat.le_refl _); exact h
  have hL : Sv [arr (some b8) 2 1 23 fP [(⟨i, some ⟨b2, 0, none⟩, i.length⟩ : Pt), (⟨(big32 x), some ⟨g7, 0, none⟩, 4⟩ : Pt)]] (sl (some b8) 2 2) 1 fP [(⟨i, some ⟨b2, 0, none⟩, i.length⟩ : Pt), (⟨(big32 x), some ⟨g7, 0, none⟩, 4⟩ : Pt)] (some ⟨b8, 0, none⟩) 2 := Sv_own' (a := some b8) (cap := 2) (T := 23) encP (l := [(⟨i, some ⟨b2, 0, none⟩, i.length⟩ : Pt), (⟨(big32 x), some ⟨g7, 0, none⟩, 4⟩ : Pt)]) (by simp) (Nat.le_refl 2)
  have hmp : ([(⟨i, some ⟨b2, 0, none⟩, i.length⟩ : Pt), (⟨(big32 x), some ⟨g7, 0, none⟩, 4⟩ : Pt)].map (·.l)) = [i, (big32 x)] := rfl
  have hjl : (joinP [(⟨i, some ⟨b2, 0, none⟩, i.length⟩ : Pt), (⟨(big32 x), some ⟨g7, 0, none⟩, 4⟩ : Pt)]).length = i.length + (big32 x).length := by simp [joinP]
  refine WI_ac rfl (Ac_call cf37 rfl (hs := Ct.un0 (Xs := [arr (some b8) 2 1 23 fP [(⟨i, some ⟨b2, 0, none⟩, i.length⟩ : Pt), (⟨(big32 x), some ⟨g7, 0, none⟩, 4⟩ : Pt)], arr (some b2) i.length 1 98 (eU .u8 (w := 8)) i, arr (some g7) 4 1 5 (eU .u8 (w := 8)) (big32 x)]) (made_ct (t := 9#8) (X := sep [arr (some b8) 2 1 23 fP [(⟨i, some ⟨b2, 0, none⟩, i.length⟩ : Pt), (⟨(big32 x), some ⟨g7, 0, none⟩, 4⟩ : Pt)], arr (some b2) i.length 1 98 (eU .u8 (w := 8)) i, arr (some g7) 4 1 5 (eU .u8 (w := 8)) (big32 x)]) (ps := [(⟨i, some ⟨b2, 0, none⟩, i.length⟩ : Pt), (⟨(big32 x), some ⟨g7, 0, none⟩, 4⟩ : Pt)]) (hS := hL.pk (by repeat (first | with_reducible exact Has.here | with_reducible refine Has.there ?_))) (hP := List.forall_mem_cons.2 ⟨hp0.pk (by repeat (first | with_reducible exact Has.here | with_reducible refine Has.there ?_)), List.forall_mem_cons.2 ⟨hp1.pk (by repeat (first | with_reducible exact Has.here | with_reducible refine Has.there ?_)), by simp⟩⟩) (hn := by rw [hjl]; omega) (hk := by show 2 ≤ _; omega)))) rfl rfl rfl rfl ?_
  rintro _ _ ⟨⟨⟩, rfl, hA⟩
  simp only [List.cons_append, List.nil_append] at hA
  replace hA := hA.symm
  subst hA
  rw [hmp]
  refine ⟨(fun _ => (by repeat (first | with_reducible exact Sub.refl | with_reducible exact Sub.nil | with_reducible refine Sub.cons (by repeat (first | with_reducible exact Ext.here | with_reducible apply Ext.there)) ?_ | with_reducible refine Sub.tail ?_))), ?_⟩
  refine WJ_all (rs := [5]) (by kernel_rfl) rfl ?_
  refine WI_one ?_
  refine WI_ac0 rfl (Ac_storeW rfl rfl sz43) rfl rfl rfl ?_
  rintro _ _ rfl
  refine ⟨(fun h => by cases h), ?_⟩
  refine WJ_done (by kernel_rfl) ?_
  refine Ps_next hK2 ?_
  refine WC_ret ?_
  exact hret.go () (Rs1W rfl rfl tk43)

theorem ringR_ct {i : List B8} {x : B32} (hi : i.length = 16 := by first | with_reducible assumption | omega) : Ct Try.prog 68 [aU .u8 i, .int .u32 ((x.toNat : Nat) : Int)] [] (fun _ : Unit => aU .u8 (tagD 9#8 [i, big32 x])) (fun _ => []) := by
  refine Ct_body (n := 11) Try.func68 rfl rfl rfl fun F w0 Q hret hnorm hp => ?_
  change WC _ _ _ _ _ _ _ (F)
  have hb4 := big32_len x
  have htd := tagD_len 9#8 [i, big32 x]
  have hok : tagE 9#8 [i, big32 x] = 0 := by unfold tagE; rw [if_neg (by decide), if_pos (by rw [fitM_9 rfl]; simp [lens, *])]
  refine WC_sr fun K1 hK1 => ?_
  refine WL_ac (Ac_boxW (k := .u8) rfl) rfl rfl rfl ?_
  rintro _ _ ⟨b2, rfl, rfl⟩
  refine WL_ac (Ac_allocW (k := .u8) (w := 8) (m := 32) zr43) rfl rfl rfl ?_
  rintro _ _ ⟨b4, rfl, rfl⟩
  refine WL_end hK1 ?_
  refine WC_seq fun K2 hK2 => ?_
  refine WC_drawA mix (fun i => ([2, 2, 2, 1, 1, 1, 0] : List Nat).getD i 0) ?_
  refine WJ_takeP 0 rfl (by kernel_rfl) (Rd_valE (v := sl (some b2) i.length i.length) (Rd_sliceA0 rfl ud98 sz5) (by rw [hi])) rfl rfl rfl (hp _ _) ?_
  refine WJ_takeP 1 rfl (by kernel_rfl) (Rd_move rfl) rfl rfl rfl (hp _ _) ?_
  refine WJ_takeP 2 rfl (by kernel_rfl) (Rd_convU rfl ikd44_58 (h' := uk64)) rfl rfl rfl (hp _ _) ?_
  refine WJ_all (rs := [3]) (by kernel_rfl) rfl ?_
  refine WI_one ?_
  refine WI_ac rfl (Ac_call cf78 rfl (hs := bigR4_ct (x := x))) rfl rfl rfl rfl ?_
  rintro _ _ ⟨⟨⟨g8, c8⟩, hc8⟩, rfl, hA⟩
  simp only [List.cons_append, List.nil_append] at hA
  replace hA := hA.symm
  subst hA
  dsimp only at hc8 ⊢
  refine ⟨(fun _ => (by repeat (first | with_reducible exact Sub.refl | with_reducible exact Sub.nil | with_reducible refine Sub.cons (by repeat (first | with_reducible exact Ext.here | with_reducible apply Ext.there)) ?_ | with_reducible refine Sub.tail ?_))), ?_⟩
  refine WJ_all (rs := [4]) (by kernel_rfl) rfl ?_
  refine WI_one ?_
  refine WI_ac rfl (Ac_bsL (f := fP) (zs := [.slice none 0 0]) (bs := [.slice none 0 0, .slice none 0 0]) [(⟨i, some ⟨b2, 0, none⟩, i.length⟩ : Pt), (⟨(big32 x), some ⟨g8, 0, none⟩, c8⟩ : Pt)] encP ud22 zr23 sz23 rfl (by rw [Array.toList_map, Array.toList_range]; rfl) (by rfl) (by rfl) (by rfl) (by rfl)) rfl rfl rfl rfl ?_
  rintro _ _ ⟨b9, rfl, rfl⟩
  refine ⟨(fun _ => (by repeat (first | with_reducible exact Sub.refl | with_reducible exact Sub.nil | with_reducible refine Sub.cons (by repeat (first | with_reducible exact Ext.here | with_reducible apply Ext.there)) ?_ | with_reducible refine Sub.tail ?_))), ?_⟩
  refine WJ_all (rs := [5]) (by kernel_rfl) rfl ?_
  refine WI_one ?_
  have hp0 : RdP [arr (some b2) i.length 1 98 (eU .u8 (w := 8)) i] (⟨i, some ⟨b2, 0, none⟩, i.length⟩ : Pt) := by have h := Sv_own' (a := some b2) (cap := i.length) (T := 98) (encU .u8 (w := 8)) (l := i) (by simp) (Nat.le_refl _); exact h
  have hp1 : RdP [arr (some g8) c8 1 5 (eU .u8 (w := 8)) (big32 x)] (⟨(big32 x), some ⟨g8, 0, none⟩, c8⟩ : Pt) := by have h := Sv_own' (a := some g8) (cap := c8) (T := 5) (encU .u8 (w := 8)) (l := (big32 x)) (by simp) (by rw [hb4]; exact hc8); exact h
  have hL : Sv [arr (some b9) 2 1 23 fP [(⟨i, some ⟨b2, 0, none⟩, i.length⟩ : Pt), (⟨(big32 x), some ⟨g8, 0, none⟩, c8⟩ : Pt)]] (sl (some b9) 2 2) 1 fP [(⟨i, some ⟨b2, 0, none⟩, i.length⟩ : Pt), (⟨(big32 x), some ⟨g8, 0, none⟩, c8⟩ : Pt)] (some ⟨b9, 0, none⟩) 2 := Sv_own' (a := some b9) (cap := 2) (T := 23) encP (l := [(⟨i, some ⟨b2, 0, none⟩, i.length⟩ : Pt), (⟨(big32 x), some ⟨g8, 0, none⟩, c8⟩ : Pt)]) (by simp) (Nat.le_refl 2)
  have hmp : ([(⟨i, some ⟨b2, 0, none⟩, i.length⟩ : Pt), (⟨(big32 x), some ⟨g8, 0, none⟩, c8⟩ : Pt)].map (·.l)) = [i, (big32 x)] := rfl
  have hjl : (joinP [(⟨i, some ⟨b2, 0, none⟩, i.length⟩ : Pt), (⟨(big32 x), some ⟨g8, 0, none⟩, c8⟩ : Pt)]).length = i.length + (big32 x).length := by simp [joinP]
  refine WI_ac rfl (Ac_call cf84 rfl (hs := Ct.un0 (Xs := [arr (some b9) 2 1 23 fP [(⟨i, some ⟨b2, 0, none⟩, i.length⟩ : Pt), (⟨(big32 x), some ⟨g8, 0, none⟩, c8⟩ : Pt)], arr (some b2) i.length 1 98 (eU .u8 (w := 8)) i, arr (some g8) c8 1 5 (eU .u8 (w := 8)) (big32 x)]) (digestR_ct (t := 9#8) (X := sep [arr (some b9) 2 1 23 fP [(⟨i, some ⟨b2, 0, none⟩, i.length⟩ : Pt), (⟨(big32 x), some ⟨g8, 0, none⟩, c8⟩ : Pt)], arr (some b2) i.length 1 98 (eU .u8 (w := 8)) i, arr (some g8) c8 1 5 (eU .u8 (w := 8)) (big32 x)]) (ps := [(⟨i, some ⟨b2, 0, none⟩, i.length⟩ : Pt), (⟨(big32 x), some ⟨g8, 0, none⟩, c8⟩ : Pt)]) (hS := hL.pk (by repeat (first | with_reducible exact Has.here | with_reducible refine Has.there ?_))) (hP := List.forall_mem_cons.2 ⟨hp0.pk (by repeat (first | with_reducible exact Has.here | with_reducible refine Has.there ?_)), List.forall_mem_cons.2 ⟨hp1.pk (by repeat (first | with_reducible exact Has.here | with_reducible refine Has.there ?_)), by simp⟩⟩) (hn := by rw [hjl]; omega) (hk := by show 2 ≤ _; omega) (hok := hok)))) rfl rfl rfl rfl ?_
  rintro _ _ ⟨⟨⟩, rfl, hA⟩
  simp only [List.cons_append, List.nil_append] at hA
  replace hA := hA.symm
  subst hA
  rw [hmp]
  refine ⟨(fun _ => (by repeat (first | with_reducible exact Sub.refl | with_reducible exact Sub.nil | with_reducible refine Sub.cons (by repeat (first | with_reducible exact Ext.here | with_reducible apply Ext.there)) ?_ | with_reducible refine Sub.tail ?_))), ?_⟩
  refine WJ_all (rs := [6]) (by kernel_rfl) rfl ?_
  refine WI_one ?_
  refine WI_ac0 rfl (Ac_storeW rfl rfl sz43) rfl rfl rfl ?_
  rintro _ _ rfl
  refine ⟨(fun h => by cases h), ?_⟩
  refine WJ_done (by kernel_rfl) ?_
  refine Ps_next hK2 ?_
  refine WC_ret ?_
  exact hret.go () (Rs1W rfl rfl tk43)

theorem padTR_ct {x : B32}  : Ct Try.prog 66 [.int .u32 ((x.toNat : Nat) : Int)] [] (fun _ : Unit => aU .u8 (tagD 7#8 [big32 x])) (fun _ => []) := by
  refine Ct_body (n := 8) Try.func66 rfl rfl rfl fun F w0 Q hret hnorm hp => ?_
  change WC _ _ _ _ _ _ _ (F)
  have hb4 := big32_len x
  have htd := tagD_len 7#8 [big32 x]
  have hok : tagE 7#8 [big32 x] = 0 := by unfold tagE; rw [if_neg (by decide), if_pos (by rw [fitM_7 rfl]; simp [lens, *])]
  refine WC_sr fun K1 hK1 => ?_
  refine WL_ac (Ac_allocW (k := .u8) (w := 8) (m := 32) zr43) rfl rfl rfl ?_
  rintro _ _ ⟨b2, rfl, rfl⟩
  refine WL_end hK1 ?_
  refine WC_sr fun K2 hK2 => ?_
  refine WL_rd (Rd_move rfl) rfl rfl rfl ?_
  refine WL_rd (Rd_convU rfl ikd44_58 (h' := uk64)) rfl rfl rfl ?_
  refine WL_ac (Ac_call cf78 rfl (hs := bigR4_ct (x := x))) rfl rfl rfl ?_
  rintro _ _ ⟨⟨⟨g5, c5⟩, hc5⟩, rfl, hA⟩
  simp only [List.cons_append, List.nil_append] at hA
  replace hA := hA.symm
  subst hA
  dsimp only at hc5 ⊢
  refine WL_ac (Ac_bsL (f := fP) (zs := [.slice none 0 0]) (bs := [.slice none 0 0]) [(⟨(big32 x), some ⟨g5, 0, none⟩, c5⟩ : Pt)] encP ud22 zr23 sz23 rfl (by rw [Array.toList_map, Array.toList_range]; rfl) (by rfl) (by rfl) (by rfl) (by rfl)) rfl rfl rfl ?_
  rintro _ _ ⟨b6, rfl, rfl⟩
  have hp0 : RdP [arr (some g5) c5 1 5 (eU .u8 (w := 8)) (big32 x)] (⟨(big32 x), some ⟨g5, 0, none⟩, c5⟩ : Pt) := by have h := Sv_own' (a := some g5) (cap := c5) (T := 5) (encU .u8 (w := 8)) (l := (big32 x)) (by simp) hc5; exact h
  have hL : Sv [arr (some b6) 1 1 23 fP [(⟨(big32 x), some ⟨g5, 0, none⟩, c5⟩ : Pt)]] (sl (some b6) 1 1) 1 fP [(⟨(big32 x), some ⟨g5, 0, none⟩, c5⟩ : Pt)] (some ⟨b6, 0, none⟩) 1 := Sv_own' (a := some b6) (cap := 1) (T := 23) encP (l := [(⟨(big32 x), some ⟨g5, 0, none⟩, c5⟩ : Pt)]) (by simp) (Nat.le_refl 1)
  have hmp : ([(⟨(big32 x), some ⟨g5, 0, none⟩, c5⟩ : Pt)].map (·.l)) = [(big32 x)] := rfl
  have hjl : (joinP [(⟨(big32 x), some ⟨g5, 0, none⟩, c5⟩ : Pt)]).length = (big32 x).length := by simp [joinP]
  refine WL_ac (Ac_call cf84 rfl (hs := Ct.un0 (Xs := [arr (some b6) 1 1 23 fP [(⟨(big32 x), some ⟨g5, 0, none⟩, c5⟩ : Pt)], arr (some g5) c5 1 5 (eU .u8 (w := 8)) (big32 x)]) (digestR_ct (t := 7#8) (X := sep [arr (some b6) 1 1 23 fP [(⟨(big32 x), some ⟨g5, 0, none⟩, c5⟩ : Pt)], arr (some g5) c5 1 5 (eU .u8 (w := 8)) (big32 x)]) (ps := [(⟨(big32 x), some ⟨g5, 0, none⟩, c5⟩ : Pt)]) (hS := hL.pk (by repeat (first | with_reducible exact Has.here | with_reducible refine Has.there ?_))) (hP := List.forall_mem_cons.2 ⟨hp0.pk (by repeat (first | with_reducible exact Has.here | with_reducible refine Has.there ?_)), by simp⟩) (hn := by rw [hjl]; omega) (hk := by show 1 ≤ _; omega) (hok := hok)))) rfl rfl rfl ?_
  rintro _ _ ⟨⟨⟩, rfl, hA⟩
  simp only [List.cons_append, List.nil_append] at hA
  replace hA := hA.symm
  subst hA
  rw [hmp]
  refine WL_ac0 (Ac_storeW rfl rfl sz43) rfl rfl ?_
  rintro _ _ rfl
  refine WL_end hK2 ?_
  refine WC_ret ?_
  exact hret.go () (Rs1W rfl rfl tk43)
end Go.Proofs.Ytlcafifjhilleaa
