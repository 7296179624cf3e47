/-
  Contracts of functions that the claim reaches, or the logic and the plain laws that they rest on, or the row over them. (Conditions: none beyond the statement.)
-/
import Derived.Test.YthkchjcodibaeaaZqD
import Derived.Test.YthkchjcodibaeaaLibS
import Derived.Test.YthkchjcodibaeaaLibR
import Derived.Test.YthkchjcodibaeaaLibA
set_option linter.all false
namespace Go.Proofs.Ythkchjcodibaeaa
open Go.RowKit Go.SL Go.ShM
set_option maxHeartbeats 1000000
set_option maxRecDepth 20000
set_option linter.all false
theorem ud120 : Try.prog.underlying 120 = some (.array 16 5) := by kernel_rfl
theorem ring_ct {x : List B8} {s : B32} (hx : x.length = 16 := by first | with_reducible assumption | omega) : Ct Try.prog 77 [aU .u8 x, .int .u32 ((s.toNat : Nat) : Int)] [] (fun _ : Unit => aU .u8 (tagD 9#8 [x, big32 s])) (fun _ => []) := by
  refine Ct_body (n := 10) Try.func77 rfl rfl rfl fun F w0 Q hret hnorm hp => ?_
  change WC _ _ _ _ _ _ _ (F)
  have hb4 := big32_len s
  have htd := tagD_len 9#8 [x, big32 s]
  refine WC_sr fun K1 hK1 => ?_
  refine WL_ac (Ac_boxW (k := .u8) rfl) rfl rfl rfl ?_
  rintro _ _ ⟨b2, rfl, rfl⟩
  refine WL_ac (Ac_allocW (k := .u8) (w := 8) (m := 32) zr42) rfl rfl rfl ?_
  rintro _ _ ⟨b4, rfl, rfl⟩
  refine WL_end hK1 ?_
  refine WC_seq fun K2 hK2 => ?_
  refine WC_drawA mix (fun i => ([2, 2, 1, 1, 1, 0] : List Nat).getD i 0) ?_
  refine WJ_takeP 0 rfl (by kernel_rfl) (Rd_valE (v := sl (some b2) x.length x.length) (Rd_sliceA0 rfl ud120 sz5) (by rw [hx])) rfl rfl rfl (hp _ _) ?_
  refine WJ_takeP 1 rfl (by kernel_rfl) (Rd_move rfl) rfl rfl rfl (hp _ _) ?_
  refine WJ_all (rs := [2]) (by kernel_rfl) rfl ?_
  refine WI_one ?_
  refine WI_ac rfl (Ac_call cf92 rfl (hs := bigu32_ct (x := s))) rfl rfl rfl rfl ?_
  rintro _ _ ⟨g7, rfl, hA⟩
  simp only [List.cons_append, List.nil_append] at hA
  replace hA := hA.symm
  subst hA
  refine ⟨(fun _ => (by repeat (first | with_reducible exact Sub.refl | with_reducible exact Sub.nil | with_reducible refine Sub.cons (by repeat (first | with_reducible exact Ext.here | with_reducible apply Ext.there)) ?_ | with_reducible refine Sub.tail ?_))), ?_⟩
  refine WJ_all (rs := [3]) (by kernel_rfl) rfl ?_
  refine WI_one ?_
  refine WI_ac rfl (Ac_bsL (f := fP) (zs := [.slice none 0 0]) (bs := [.slice none 0 0, .slice none 0 0]) [(⟨x, some ⟨b2, 0, none⟩, x.length⟩ : Pt), (⟨(big32 s), some ⟨g7, 0, none⟩, 4⟩ : Pt)] encP ud27 zr32 sz32 rfl (by rw [Array.toList_map, Array.toList_range]; rfl) (by rfl) (by rfl) (by rfl) (by rfl)) rfl rfl rfl rfl ?_
  rintro _ _ ⟨b8, rfl, rfl⟩
  refine ⟨(fun _ => (by repeat (first | with_reducible exact Sub.refl | with_reducible exact Sub.nil | with_reducible refine Sub.cons (by repeat (first | with_reducible exact Ext.here | with_reducible apply Ext.there)) ?_ | with_reducible refine Sub.tail ?_))), ?_⟩
  refine WJ_all (rs := [4]) (by kernel_rfl) rfl ?_
  refine WI_one ?_
  have hp0 : RdP [arr (some b2) x.length 1 120 (eU .u8 (w := 8)) x] (⟨x, some ⟨b2, 0, none⟩, x.length⟩ : Pt) := by have h := Sv_own' (a := some b2) (cap := x.length) (T := 120) (encU .u8 (w := 8)) (l := x) (by simp) (Nat.le_refl _); exact h
  have hp1 : RdP [arr (some g7) 4 1 5 (eU .u8 (w := 8)) (big32 s)] (⟨(big32 s), some ⟨g7, 0, none⟩, 4⟩ : Pt) := by have h := Sv_own' (a := some g7) (cap := 4) (T := 5) (encU .u8 (w := 8)) (l := (big32 s)) (by simp) (by rw [hb4]; exact Nat.le_refl _); exact h
  have hL : Sv [arr (some b8) 2 1 32 fP [(⟨x, some ⟨b2, 0, none⟩, x.length⟩ : Pt), (⟨(big32 s), some ⟨g7, 0, none⟩, 4⟩ : Pt)]] (sl (some b8) 2 2) 1 fP [(⟨x, some ⟨b2, 0, none⟩, x.length⟩ : Pt), (⟨(big32 s), some ⟨g7, 0, none⟩, 4⟩ : Pt)] (some ⟨b8, 0, none⟩) 2 := Sv_own' (a := some b8) (cap := 2) (T := 32) encP (l := [(⟨x, some ⟨b2, 0, none⟩, x.length⟩ : Pt), (⟨(big32 s), some ⟨g7, 0, none⟩, 4⟩ : Pt)]) (by simp) (Nat.le_refl 2)
  have hmp : ([(⟨x, some ⟨b2, 0, none⟩, x.length⟩ : Pt), (⟨(big32 s), some ⟨g7, 0, none⟩, 4⟩ : Pt)].map (·.l)) = [x, (big32 s)] := rfl
  have hjl : (joinP [(⟨x, some ⟨b2, 0, none⟩, x.length⟩ : Pt), (⟨(big32 s), some ⟨g7, 0, none⟩, 4⟩ : Pt)]).length = x.length + (big32 s).length := by simp [joinP]
  refine WI_ac rfl (Ac_call cf132 rfl (hs := Ct.un0 (Xs := [arr (some b8) 2 1 32 fP [(⟨x, some ⟨b2, 0, none⟩, x.length⟩ : Pt), (⟨(big32 s), some ⟨g7, 0, none⟩, 4⟩ : Pt)], arr (some b2) x.length 1 120 (eU .u8 (w := 8)) x, arr (some g7) 4 1 5 (eU .u8 (w := 8)) (big32 s)]) (made_ct (t := 9#8) (X := sep [arr (some b8) 2 1 32 fP [(⟨x, some ⟨b2, 0, none⟩, x.length⟩ : Pt), (⟨(big32 s), some ⟨g7, 0, none⟩, 4⟩ : Pt)], arr (some b2) x.length 1 120 (eU .u8 (w := 8)) x, arr (some g7) 4 1 5 (eU .u8 (w := 8)) (big32 s)]) (ps := [(⟨x, some ⟨b2, 0, none⟩, x.length⟩ : Pt), (⟨(big32 s), some ⟨g7, 0, none⟩, 4⟩ : Pt)]) (hS := hL.pk (by repeat (first | with_reducible exact Has.here | with_reducible refine Has.there ?_))) (hP := List.forall_mem_cons.2 ⟨hp0.pk (by repeat (first | with_reducible exact Has.here | with_reducible refine Has.there ?_)), List.forall_mem_cons.2 ⟨hp1.pk (by repeat (first | with_reducible exact Has.here | with_reducible refine Has.there ?_)), by simp⟩⟩) (hn := by rw [hjl]; omega) (hk := by show 2 ≤ _; omega)))) rfl rfl rfl rfl ?_
  rintro _ _ ⟨⟨⟩, rfl, hA⟩
  simp only [List.cons_append, List.nil_append] at hA
  replace hA := hA.symm
  subst hA
  rw [hmp]
  refine ⟨(fun _ => (by repeat (first | with_reducible exact Sub.refl | with_reducible exact Sub.nil | with_reducible refine Sub.cons (by repeat (first | with_reducible exact Ext.here | with_reducible apply Ext.there)) ?_ | with_reducible refine Sub.tail ?_))), ?_⟩
  refine WJ_all (rs := [5]) (by kernel_rfl) rfl ?_
  refine WI_one ?_
  refine WI_ac0 rfl (Ac_storeW rfl rfl sz42) rfl rfl rfl ?_
  rintro _ _ rfl
  refine ⟨(fun h => by cases h), ?_⟩
  refine WJ_done (by kernel_rfl) ?_
  refine Ps_next hK2 ?_
  refine WC_ret ?_
  exact hret.go () (Rs1W rfl rfl tk42)

theorem bigR4_ct {x : B32} : Ct Try.prog 174 [.int .u64 (((x.setWidth 64).toNat : Nat) : Int), .int .i64 4] [] (fun g : { g : Nat × Nat // 4 ≤ g.2 } => sl (some g.1.1) 4 g.1.2) (fun g => [arr (some g.1.1) g.1.2 1 5 (eU .u8) (big32 x)]) :=
  (bigR_ct (x := x.setWidth 64) (n := 4)).reg fun r F w hs => by
    rw [bigN_4] at hs
    obtain ⟨gb, hgb⟩ := arr_some (A := [arr r.1 r.2 1 5 (eU .u8) (big32 x)] ++ F) Has.here hs (by rw [big32_len]; omega)
    have hc := arr_cap (A := [arr r.1 r.2 1 5 (eU .u8) (big32 x)] ++ F) Has.here hs
    rw [big32_len] at hc
    exact ⟨⟨(gb, r.2), hc⟩, by rw [hgb], by rw [← hgb]; exact hs⟩

theorem ringR_ct {x : List B8} {s : B32} (hx : x.length = 16 := by first | with_reducible assumption | omega) : Ct Try.prog 160 [aU .u8 x, .int .u32 ((s.toNat : Nat) : Int)] [] (fun _ : Unit => aU .u8 (tagD 9#8 [x, big32 s])) (fun _ => []) := by
  refine Ct_body (n := 11) Try.func160 rfl rfl rfl fun F w0 Q hret hnorm hp => ?_
  change WC _ _ _ _ _ _ _ (F)
  have hb4 := big32_len s
  have htd := tagD_len 9#8 [x, big32 s]
  have hok : tagE 9#8 [x, big32 s] = 0 := by unfold tagE; rw [if_neg (by decide), if_pos (by rw [fitM_9 rfl]; simp [lens, *])]
  refine WC_sr fun K1 hK1 => ?_
  refine WL_ac (Ac_boxW (k := .u8) rfl) rfl rfl rfl ?_
  rintro _ _ ⟨b2, rfl, rfl⟩
  refine WL_ac (Ac_allocW (k := .u8) (w := 8) (m := 32) zr42) rfl rfl rfl ?_
  rintro _ _ ⟨b4, rfl, rfl⟩
  refine WL_end hK1 ?_
  refine WC_seq fun K2 hK2 => ?_
  refine WC_drawA mix (fun i => ([2, 2, 2, 1, 1, 1, 0] : List Nat).getD i 0) ?_
  refine WJ_takeP 0 rfl (by kernel_rfl) (Rd_valE (v := sl (some b2) x.length x.length) (Rd_sliceA0 rfl ud120 sz5) (by rw [hx])) rfl rfl rfl (hp _ _) ?_
  refine WJ_takeP 1 rfl (by kernel_rfl) (Rd_move rfl) rfl rfl rfl (hp _ _) ?_
  refine WJ_takeP 2 rfl (by kernel_rfl) (Rd_convU rfl ikd24_39 (h' := uk64)) rfl rfl rfl (hp _ _) ?_
  refine WJ_all (rs := [3]) (by kernel_rfl) rfl ?_
  refine WI_one ?_
  refine WI_ac rfl (Ac_call cf174 rfl (hs := bigR4_ct (x := s))) rfl rfl rfl rfl ?_
  rintro _ _ ⟨⟨⟨g8, c8⟩, hc8⟩, rfl, hA⟩
  simp only [List.cons_append, List.nil_append] at hA
  replace hA := hA.symm
  subst hA
  dsimp only at hc8 ⊢
  refine ⟨(fun _ => (by repeat (first | with_reducible exact Sub.refl | with_reducible exact Sub.nil | with_reducible refine Sub.cons (by repeat (first | with_reducible exact Ext.here | with_reducible apply Ext.there)) ?_ | with_reducible refine Sub.tail ?_))), ?_⟩
  refine WJ_all (rs := [4]) (by kernel_rfl) rfl ?_
  refine WI_one ?_
  refine WI_ac rfl (Ac_bsL (f := fP) (zs := [.slice none 0 0]) (bs := [.slice none 0 0, .slice none 0 0]) [(⟨x, some ⟨b2, 0, none⟩, x.length⟩ : Pt), (⟨(big32 s), some ⟨g8, 0, none⟩, c8⟩ : Pt)] encP ud27 zr32 sz32 rfl (by rw [Array.toList_map, Array.toList_range]; rfl) (by rfl) (by rfl) (by rfl) (by rfl)) rfl rfl rfl rfl ?_
  rintro _ _ ⟨b9, rfl, rfl⟩
  refine ⟨(fun _ => (by repeat (first | with_reducible exact Sub.refl | with_reducible exact Sub.nil | with_reducible refine Sub.cons (by repeat (first | with_reducible exact Ext.here | with_reducible apply Ext.there)) ?_ | with_reducible refine Sub.tail ?_))), ?_⟩
  refine WJ_all (rs := [5]) (by kernel_rfl) rfl ?_
  refine WI_one ?_
  have hp0 : RdP [arr (some b2) x.length 1 120 (eU .u8 (w := 8)) x] (⟨x, some ⟨b2, 0, none⟩, x.length⟩ : Pt) := by have h := Sv_own' (a := some b2) (cap := x.length) (T := 120) (encU .u8 (w := 8)) (l := x) (by simp) (Nat.le_refl _); exact h
  have hp1 : RdP [arr (some g8) c8 1 5 (eU .u8 (w := 8)) (big32 s)] (⟨(big32 s), some ⟨g8, 0, none⟩, c8⟩ : Pt) := by have h := Sv_own' (a := some g8) (cap := c8) (T := 5) (encU .u8 (w := 8)) (l := (big32 s)) (by simp) hc8; exact h
  have hL : Sv [arr (some b9) 2 1 32 fP [(⟨x, some ⟨b2, 0, none⟩, x.length⟩ : Pt), (⟨(big32 s), some ⟨g8, 0, none⟩, c8⟩ : Pt)]] (sl (some b9) 2 2) 1 fP [(⟨x, some ⟨b2, 0, none⟩, x.length⟩ : Pt), (⟨(big32 s), some ⟨g8, 0, none⟩, c8⟩ : Pt)] (some ⟨b9, 0, none⟩) 2 := Sv_own' (a := some b9) (cap := 2) (T := 32) encP (l := [(⟨x, some ⟨b2, 0, none⟩, x.length⟩ : Pt), (⟨(big32 s), some ⟨g8, 0, none⟩, c8⟩ : Pt)]) (by simp) (Nat.le_refl 2)
  have hmp : ([(⟨x, some ⟨b2, 0, none⟩, x.length⟩ : Pt), (⟨(big32 s), some ⟨g8, 0, none⟩, c8⟩ : Pt)].map (·.l)) = [x, (big32 s)] := rfl
  have hjl : (joinP [(⟨x, some ⟨b2, 0, none⟩, x.length⟩ : Pt), (⟨(big32 s), some ⟨g8, 0, none⟩, c8⟩ : Pt)]).length = x.length + (big32 s).length := by simp [joinP]
  refine WI_ac rfl (Ac_call cf140 rfl (hs := Ct.un0 (Xs := [arr (some b9) 2 1 32 fP [(⟨x, some ⟨b2, 0, none⟩, x.length⟩ : Pt), (⟨(big32 s), some ⟨g8, 0, none⟩, c8⟩ : Pt)], arr (some b2) x.length 1 120 (eU .u8 (w := 8)) x, arr (some g8) c8 1 5 (eU .u8 (w := 8)) (big32 s)]) (digestR_ct (t := 9#8) (X := sep [arr (some b9) 2 1 32 fP [(⟨x, some ⟨b2, 0, none⟩, x.length⟩ : Pt), (⟨(big32 s), some ⟨g8, 0, none⟩, c8⟩ : Pt)], arr (some b2) x.length 1 120 (eU .u8 (w := 8)) x, arr (some g8) c8 1 5 (eU .u8 (w := 8)) (big32 s)]) (ps := [(⟨x, some ⟨b2, 0, none⟩, x.length⟩ : Pt), (⟨(big32 s), some ⟨g8, 0, none⟩, c8⟩ : Pt)]) (hS := hL.pk (by repeat (first | with_reducible exact Has.here | with_reducible refine Has.there ?_))) (hP := List.forall_mem_cons.2 ⟨hp0.pk (by repeat (first | with_reducible exact Has.here | with_reducible refine Has.there ?_)), List.forall_mem_cons.2 ⟨hp1.pk (by repeat (first | with_reducible exact Has.here | with_reducible refine Has.there ?_)), by simp⟩⟩) (hn := by rw [hjl]; omega) (hk := by show 2 ≤ _; omega) (hok := hok)))) rfl rfl rfl rfl ?_
  rintro _ _ ⟨⟨⟩, rfl, hA⟩
  simp only [List.cons_append, List.nil_append] at hA
  replace hA := hA.symm
  subst hA
  rw [hmp]
  refine ⟨(fun _ => (by repeat (first | with_reducible exact Sub.refl | with_reducible exact Sub.nil | with_reducible refine Sub.cons (by repeat (first | with_reducible exact Ext.here | with_reducible apply Ext.there)) ?_ | with_reducible refine Sub.tail ?_))), ?_⟩
  refine WJ_all (rs := [6]) (by kernel_rfl) rfl ?_
  refine WI_one ?_
  refine WI_ac0 rfl (Ac_storeW rfl rfl sz42) rfl rfl rfl ?_
  rintro _ _ rfl
  refine ⟨(fun h => by cases h), ?_⟩
  refine WJ_done (by kernel_rfl) ?_
  refine Ps_next hK2 ?_
  refine WC_ret ?_
  exact hret.go () (Rs1W rfl rfl tk42)
end Go.Proofs.Ythkchjcodibaeaa
namespace Go.Proofs.Ythkchjcodibaeaa
open Go.RowKit Go.SL Go.ShM
set_option maxHeartbeats 1000000
set_option maxRecDepth 20000
set_option linter.all false
theorem ikd5_3 : ikd Try.prog 5 3 = some .i64 := by kernel_rfl
theorem tk76 : tk Try.prog 76 = some none := by kernel_rfl
theorem ud76 : Try.prog.underlying 76 = some (.slice 42) := by kernel_rfl
theorem mks_at0 {α : Type} {g : Nat → α} {n i : Nat} (h : i < n) : (mks g 0 n)[i]? = some (g i) := by rw [mks_at h, Nat.zero_add]
theorem mks_id (n : Nat) : mks (fun i => i) 0 n = List.range n := by simp [mks]
theorem at_N {l : List Nat} {i : Nat} (h : i < l.length) : l[i]? = some (l.getD i 0) := by rw [List.getD_eq_getElem?_getD, List.getElem?_eq_getElem h]; rfl
theorem Dg_at {d : Dg} {k : Nat} (h : k < 32) : d.1[k]? = some (d.1.getD k 0#8) := by rw [List.getD_eq_getElem?_getD, List.getElem?_eq_getElem (by rw [Dg_len]; exact h)]; rfl
theorem ovl_rep {α : Type} (g : Nat → α) (z : α) (n : Nat) : ovl g (List.replicate n z) n = mks g 0 n := by
  have := ovl_all g (List.replicate n z)
  rwa [List.length_replicate] at this

theorem order1_ct {bd gb n a b : Nat} {d : Nat → Dg} (ha : a < n) (hb : b < n) (hn : n ≤ 32 := by omega) : Ct Try.prog 128 [.int .i64 ((a : Nat) : Int), .int .i64 ((b : Nat) : Int), .pointer (some ⟨bd, 0, none⟩)] [cl bd 76 [sl (some gb) n n], arr (some gb) n 32 42 fD (mks d 0 n)] (fun _ : Unit => .int .i64 (cfM d a b)) (fun _ => [cl bd 76 [sl (some gb) n n], arr (some gb) n 32 42 fD (mks d 0 n)]) := by
  refine Ct_body (n := 42) Try.func128 rfl rfl rfl fun F w0 Q hret hnorm hp => ?_
  change WC _ _ _ _ _ _ _ (_ :: _ :: F)
  refine WC_sr fun K1 hK1 => ?_
  refine WL_rd (Rd_assign rfl) rfl rfl rfl ?_
  refine WL_end hK1 ?_
  refine WC_seq fun K2 hK2 => ?_
  refine WC_sr fun K3 hK3 => ?_
  refine WL_rd (Rd_move rfl) rfl rfl rfl ?_
  refine WL_end hK3 ?_
  refine WC_block ?_
  refine WC_loopK (σ := Nat) (fun k => [(7, .int .i64 ((k : Nat) : Int))]) (fun k => []) (fun k => k ≤ 32 ∧ diffL ((d a).1.drop k) ((d b).1.drop k) = diffL (d a).1 (d b).1) (fun k => 32 - k) (0) [0, 1, 2, 39, 40, 41] (by repeat (first | exact Kep.nil | apply Kep.drop rfl | apply Kep.keep rfl)) (by (try dsimp only); repeat (first | with_reducible exact Gv.nil | (with_reducible apply Gv.cons; · (repeat (first | with_reducible exact Ext.here | with_reducible apply Ext.there))))) ?_ ?_ Sub.refl ?_
  · exact ⟨Nat.zero_le _, rfl⟩
  · (try dsimp only); exact (Wk.cons (by first | rfl | (simp only [List.length_append, List.length_cons, List.length_nil, List.length_replicate, Nat.zero_add]; rfl) | (simp; done)) Wk.nil)
  · rintro k ⟨hk, hdf⟩ K4 hK4
    simp only [List.cons_append, List.nil_append]
    refine WC_sr fun K5 hK5 => ?_
    refine WL_rd (Rd_lssN (j := 32) rfl rfl) rfl rfl rfl ?_
    refine WL_end hK5 ?_
    refine WC_seq fun K6 hK6 => ?_
    refine WC_cond rfl (fun hc0 => ?_) (fun hc0 => ?_)
    · try simp only [decide_eq_true_eq, decide_eq_false_iff_not, Bool.not_eq_true', Bool.not_eq_false', Bool.not_eq_true, Bool.not_eq_false, Int.not_lt, Int.not_le, Nat.not_lt, Nat.not_le, Decidable.not_not, ne_eq] at hc0
      have hxa := ((d a).1.getD k 0#8).isLt
      have hxb := ((d b).1.getD k 0#8).isLt
      refine WC_skip ?_
      refine Ps_next hK6 ?_
      refine WC_seq fun K7 hK7 => ?_
      refine WC_block ?_
      refine WC_sr fun K8 hK8 => ?_
      refine WL_rd (Rd_move rfl) rfl rfl rfl ?_
      refine WL_rd (Rd_assign rfl) rfl rfl rfl ?_
      refine WL_end hK8 ?_
      refine WC_seq fun K9 hK9 => ?_
      refine WC_drawA mix (fun i => ([2, 2, 2, 2, 2, 2, 2, 2, 2, 2, 2, 2, 2] : List Nat).getD i 0) ?_
      refine WJ_tk 0 (Rd_load rfl tk76) hp ?_ rfl (by kernel_rfl) rfl rfl rfl
      refine WJ_takeP 1 rfl (by kernel_rfl) (Rd_move rfl) rfl rfl rfl (hp _ _) ?_
      refine WJ_takeP 2 rfl (by kernel_rfl) (Rd_move rfl) rfl rfl rfl (hp _ _) ?_
      refine WJ_takeP 3 rfl (by kernel_rfl) (Rd_index a rfl rfl ud76 sz42 (hi := by omega)) rfl rfl rfl (hp _ _) ?_
      refine WJ_takeP 4 rfl (by kernel_rfl) (Rd_indexA k rfl rfl ud42 sz5 rfl (by omega)) rfl rfl rfl (hp _ _) ?_
      refine WJ_tk 5 (Rd_load_arr (f := fD) (i := a) (j := k) rfl tk5 (hoff := by omega) (hl := mks_at0 (by omega)) (hv := fD_at (by omega))) hp ?_ rfl (by kernel_rfl) rfl rfl rfl
      refine WJ_tk 6 (Rd_load rfl tk76) hp ?_ rfl (by kernel_rfl) rfl rfl rfl
      refine WJ_takeP 7 rfl (by kernel_rfl) (Rd_move rfl) rfl rfl rfl (hp _ _) ?_
      refine WJ_takeP 8 rfl (by kernel_rfl) (Rd_move rfl) rfl rfl rfl (hp _ _) ?_
      refine WJ_takeP 9 rfl (by kernel_rfl) (Rd_index b rfl rfl ud76 sz42 (hi := by omega)) rfl rfl rfl (hp _ _) ?_
      refine WJ_takeP 10 rfl (by kernel_rfl) (Rd_indexA k rfl rfl ud42 sz5 rfl (by omega)) rfl rfl rfl (hp _ _) ?_
      refine WJ_tk 11 (Rd_load_arr (f := fD) (i := b) (j := k) rfl tk5 (hoff := by omega) (hl := mks_at0 (by omega)) (hv := fD_at (by omega))) hp ?_ rfl (by kernel_rfl) rfl rfl rfl
      refine WJ_takeP 12 rfl (by kernel_rfl) (Rd_neqU rfl rfl) rfl rfl rfl (hp _ _) ?_
      refine WJ_done (by kernel_rfl) ?_
      refine Ps_next hK9 ?_
      refine WC_cond rfl (fun hc1 => ?_) (fun hc1 => ?_)
      · try simp only [decide_eq_true_eq, decide_eq_false_iff_not, Bool.not_eq_true', Bool.not_eq_false', Bool.not_eq_true, Bool.not_eq_false, Int.not_lt, Int.not_le, Nat.not_lt, Nat.not_le, Decidable.not_not, ne_eq] at hc1
        refine WC_seq fun K10 hK10 => ?_
        refine WC_drawA mix (fun i => ([2, 2, 2, 2, 2, 2, 2, 2, 2, 2, 2, 2, 2, 2, 2, 2] : List Nat).getD i 0) ?_
        refine WJ_tk 0 (Rd_load rfl tk76) hp ?_ rfl (by kernel_rfl) rfl rfl rfl
        refine WJ_takeP 1 rfl (by kernel_rfl) (Rd_move rfl) rfl rfl rfl (hp _ _) ?_
        refine WJ_takeP 2 rfl (by kernel_rfl) (Rd_move rfl) rfl rfl rfl (hp _ _) ?_
        refine WJ_takeP 3 rfl (by kernel_rfl) (Rd_index a rfl rfl ud76 sz42 (hi := by omega)) rfl rfl rfl (hp _ _) ?_
        refine WJ_takeP 4 rfl (by kernel_rfl) (Rd_indexA k rfl rfl ud42 sz5 rfl (by omega)) rfl rfl rfl (hp _ _) ?_
        refine WJ_tk 5 (Rd_load_arr (f := fD) (i := a) (j := k) rfl tk5 (hoff := by omega) (hl := mks_at0 (by omega)) (hv := fD_at (by omega))) hp ?_ rfl (by kernel_rfl) rfl rfl rfl
        refine WJ_takeP 6 rfl (by kernel_rfl) (Rd_convN rfl ikd5_3) rfl rfl rfl (hp _ _) ?_
        refine WJ_tk 7 (Rd_load rfl tk76) hp ?_ rfl (by kernel_rfl) rfl rfl rfl
        refine WJ_takeP 8 rfl (by kernel_rfl) (Rd_move rfl) rfl rfl rfl (hp _ _) ?_
        refine WJ_takeP 9 rfl (by kernel_rfl) (Rd_move rfl) rfl rfl rfl (hp _ _) ?_
        refine WJ_takeP 10 rfl (by kernel_rfl) (Rd_index b rfl rfl ud76 sz42 (hi := by omega)) rfl rfl rfl (hp _ _) ?_
        refine WJ_takeP 11 rfl (by kernel_rfl) (Rd_indexA k rfl rfl ud42 sz5 rfl (by omega)) rfl rfl rfl (hp _ _) ?_
        refine WJ_tk 12 (Rd_load_arr (f := fD) (i := b) (j := k) rfl tk5 (hoff := by omega) (hl := mks_at0 (by omega)) (hv := fD_at (by omega))) hp ?_ rfl (by kernel_rfl) rfl rfl rfl
        refine WJ_takeP 13 rfl (by kernel_rfl) (Rd_convN rfl ikd5_3) rfl rfl rfl (hp _ _) ?_
        refine WJ_takeP 14 rfl (by kernel_rfl) (Rd_sub' rfl rfl (wr64 rfl (by omega) (by omega))) rfl rfl rfl (hp _ _) ?_
        refine WJ_takeP 15 rfl (by kernel_rfl) (Rd_assign rfl) rfl rfl rfl (hp _ _) ?_
        refine WJ_done (by kernel_rfl) ?_
        refine Ps_next hK10 ?_
        refine WC_ret ?_
        first | exact hret.goE () (Rs1 rfl rfl) (by rw [← cfM_at hdf (Dg_at (by omega)) (Dg_at (by omega)) hc1]) | exact hret.goE () (Rs1 rfl rfl) (by rw [← cfM_end hdf (by omega)])
      · try simp only [decide_eq_true_eq, decide_eq_false_iff_not, Bool.not_eq_true', Bool.not_eq_false', Bool.not_eq_true, Bool.not_eq_false, Int.not_lt, Int.not_le, Nat.not_lt, Nat.not_le, Decidable.not_not, ne_eq] at hc1
        refine WC_skip ?_
        refine Ps_next hK7 ?_
        refine WC_region ?_
        refine WL_rd (Rd_addN (j := 1) rfl rfl) rfl rfl rfl ?_
        refine WL_rd (Rd_move rfl) rfl rfl rfl ?_
        refine WL_nil ?_
        refine Ps_wk (by (try simp only [List.cons_append, List.nil_append]); repeat (first | with_reducible exact Wk.nil | refine Wk.cons (by first | rfl | (simp only [List.length_append, List.length_cons, List.length_nil, List.length_replicate, Nat.zero_add]; rfl) | (simp; done)) ?_)) (by (try simp only [List.cons_append, List.nil_append]); repeat (first | with_reducible exact Sub.refl | with_reducible exact Sub.nil | with_reducible refine Sub.cons (by repeat (first | with_reducible exact Ext.here | with_reducible apply Ext.there)) ?_ | with_reducible refine Sub.tail ?_)) (hK4 (k + 1) (⟨by omega, diff_next hdf (Dg_at (by omega)) (Dg_at (by omega)) hc1⟩) (by omega))
    · try simp only [decide_eq_true_eq, decide_eq_false_iff_not, Bool.not_eq_true', Bool.not_eq_false', Bool.not_eq_true, Bool.not_eq_false, Int.not_lt, Int.not_le, Nat.not_lt, Nat.not_le, Decidable.not_not, ne_eq] at hc0
      obtain rfl : k = 32 := by omega
      refine WC_exit ?_
      refine Ps_next hK2 ?_
      refine WC_sr fun K11 hK11 => ?_
      refine WL_rd (Rd_move rfl) rfl rfl rfl ?_
      refine WL_rd (Rd_move rfl) rfl rfl rfl ?_
      refine WL_rd (Rd_sub' rfl rfl (wr64 rfl (by omega) (by omega))) rfl rfl rfl ?_
      refine WL_rd (Rd_assign rfl) rfl rfl rfl ?_
      refine WL_end hK11 ?_
      refine WC_ret ?_
      first | exact hret.goE () (Rs1 rfl rfl) (by rw [← cfM_at hdf (Dg_at (by omega)) (Dg_at (by omega)) hc1]) | exact hret.goE () (Rs1 rfl rfl) (by rw [← cfM_end hdf (by omega)])
end Go.Proofs.Ythkchjcodibaeaa
namespace Go.Proofs.Ythkchjcodibaeaa
open Go.RowKit Go.SL Go.ShM Go.Proofs Go.Shelf Go.Sort Go.Lib
set_option maxHeartbeats 1000000
set_option maxRecDepth 20000
set_option linter.all false

theorem RGL {α : Type} (g : Nat → α) (n : Nat) : mks g 0 n = (List.range n).map g := by simp [mks]
theorem fin_range (m : Nat) : (List.finRange (m + 1)).map (fun x : Fin (m + 1) => x.1) = List.range (m + 1) := by
  apply List.ext_getElem
  · simp
  · intro i h1 h2; simp

def sortL_ren : Go.Shelf.Ren := ⟨fun | 6 => 127 | 15 => 167 | 14 => 166 | 28 => 185 | 29 => 186 | 20 => 177 | 21 => 178 | 22 => 179 | 23 => 180 | 24 => 181 | 25 => 182 | 26 => 183 | 27 => 184 | 46 => 190 | 47 => 191 | 48 => 192 | 49 => 193 | 50 => 194 | 57 => 195 | n => n, fun | 22 => 101 | 24 => 3 | 25 => 58 | 3 => 3 | 39 => 44 | 0 => 0 | 53 => 24 | 55 => 39 | 4 => 4 | 46 => 204 | 45 => 203 | 50 => 79 | 5 => 5 | 9 => 9 | 66 => 211 | 70 => 214 | 76 => 216 | 77 => 217 | n => n, fun | n => n⟩
theorem sortL : Go.Proofs.SlLaysF.n6 Try.prog sortL_ren := {
  mixed := by kernel_rfl
  f6 := ⟨Try.f127.name, by decide, Try.func127.trans (congrArg some (by kernel_rfl))⟩
  f14 := ⟨Try.f166.name, by decide, Try.func166.trans (congrArg some (by kernel_rfl))⟩
  f15 := Try.func167.trans (congrArg some (by kernel_rfl))
  f20 := ⟨Try.f177.name, by decide, Try.func177.trans (congrArg some (by kernel_rfl))⟩
  f21 := ⟨Try.f178.name, by decide, Try.func178.trans (congrArg some (by kernel_rfl))⟩
  f22 := ⟨Try.f179.name, by decide, Try.func179.trans (congrArg some (by kernel_rfl))⟩
  f23 := ⟨Try.f180.name, by decide, Try.func180.trans (congrArg some (by kernel_rfl))⟩
  f24 := ⟨Try.f181.name, by decide, Try.func181.trans (congrArg some (by kernel_rfl))⟩
  f25 := ⟨Try.f182.name, by decide, Try.func182.trans (congrArg some (by kernel_rfl))⟩
  f26 := ⟨Try.f183.name, by decide, Try.func183.trans (congrArg some (by kernel_rfl))⟩
  f27 := ⟨Try.f184.name, by decide, Try.func184.trans (congrArg some (by kernel_rfl))⟩
  f28 := Try.func185.trans (congrArg some (by kernel_rfl))
  f29 := Try.func186.trans (congrArg some (by kernel_rfl))
  f46 := ⟨Try.f190.name, by decide, Try.func190.trans (congrArg some (by kernel_rfl))⟩
  f47 := Try.func191.trans (congrArg some (by kernel_rfl))
  f48 := Try.func192.trans (congrArg some (by kernel_rfl))
  f49 := ⟨Try.f193.name, by decide, Try.func193.trans (congrArg some (by kernel_rfl))⟩
  f50 := ⟨Try.f194.name, by decide, Try.func194.trans (congrArg some (by kernel_rfl))⟩
  f57 := ⟨Try.f195.name, by decide, Try.func195.trans (congrArg some (by kernel_rfl))⟩
  t0 := Try.underlying0
  a0 := Try.isAgg0
  z0 := Try.sizeOf0
  v0 := Try.zeroValue0
  t3 := Try.underlying3
  a3 := Try.isAgg3
  z3 := Try.sizeOf3
  v3 := Try.zeroValue3
  t4 := Try.underlying4
  a4 := Try.isAgg4
  z4 := Try.sizeOf4
  v4 := Try.zeroValue4
  t5 := Try.underlying5
  a5 := Try.isAgg5
  z5 := Try.sizeOf5
  v5 := Try.zeroValue5
  t9 := Try.underlying9
  a9 := Try.isAgg9
  z9 := Try.sizeOf9
  v9 := Try.zeroValue9
  t22 := Try.underlying101
  a22 := Try.isAgg101
  z22 := Try.sizeOf101
  v22 := Try.zeroValue101
  a24 := Try.isAgg3
  z24 := Try.sizeOf3
  t25 := Try.underlying58
  a25 := Try.isAgg58
  z25 := Try.sizeOf58
  v25 := Try.zeroValue58
  t39 := Try.underlying44
  a39 := Try.isAgg44
  z39 := Try.sizeOf44
  v39 := Try.zeroValue44
  t45 := Try.underlying203
  a45 := Try.isAgg203
  z45 := Try.sizeOf203
  v45 := Try.zeroValue203
  t46 := Try.underlying204
  a46 := Try.isAgg204
  z46 := Try.sizeOf204
  v46 := Try.zeroValue204
  t50 := Try.underlying79
  a50 := Try.isAgg79
  z50 := Try.sizeOf79
  v50 := Try.zeroValue79
  t53 := Try.underlying24
  a53 := Try.isAgg24
  z53 := Try.sizeOf24
  v53 := Try.zeroValue24
  t55 := Try.underlying39
  a55 := Try.isAgg39
  z55 := Try.sizeOf39
  v55 := Try.zeroValue39
  t66 := Try.underlying211
  a66 := Try.isAgg211
  z66 := Try.sizeOf211
  v66 := Try.zeroValue211
  t70 := Try.underlying214
  a70 := Try.isAgg214
  z70 := Try.sizeOf214
  v70 := Try.zeroValue214
  t76 := Try.underlying216
  a76 := Try.isAgg216
  z76 := Try.sizeOf216
  v76 := Try.zeroValue216
  t77 := Try.underlying217
  a77 := Try.isAgg217
  z77 := Try.sizeOf217
  v77 := Try.zeroValue217
  }

theorem enc1 (m : Nat) : OneCell (fun x : Fin (m + 1) => Value.int .i64 ((x.1 : Nat) : Int)) := fun _ => rfl
def ptO (bd gb n : Nat) (d : Nat → Dg) : List (Nat × Obj) := [(bd, .cells #[sl (some gb) n n] 76 (0, 0)), (gb, .cells ((mks d 0 n).flatMap fD).toArray 42 (0, 0))]
theorem order1_pts {bd gb m : Nat} {d : Nat → Dg} (hm : m + 1 ≤ 32) (x y : Fin (m + 1)) : Ct Try.prog 128 [.int .i64 ((x.1 : Nat) : Int), .int .i64 ((y.1 : Nat) : Int), .pointer (some ⟨bd, 0, none⟩)] (pts (ptO bd gb (m + 1) d)) (fun _ : Unit => .int .i64 (cfM d x.1 y.1)) (fun _ => pts (ptO bd gb (m + 1) d)) := by
  have hl := mks_len d 0 (m + 1)
  have e : pts (ptO bd gb (m + 1) d) = [cl bd 76 [sl (some gb) (m + 1) (m + 1)], cl gb 42 ((mks d 0 (m + 1)).flatMap fD)] := rfl
  rw [e]
  refine (order1_ct (bd := bd) (gb := gb) (n := m + 1) (a := x.1) (b := y.1) (d := d) x.2 y.2 hm).conv (fun F w h => ?_) (fun r F w h => ?_)
  · have h2 := arr_of_cl (e := 32) encD.len (by rw [hl]; simp [maxLen]; omega) (sat_perm (.swap _ _ _) h)
    rw [hl] at h2
    exact sat_perm (.swap _ _ _) h2
  · have h2 : sat w (arr (some gb) (mks d 0 (m + 1)).length 32 42 fD (mks d 0 (m + 1)) :: cl bd 76 [sl (some gb) (m + 1) (m + 1)] :: F) := by rw [hl]; exact sat_perm (.swap _ _ _) h
    exact sat_perm (.swap _ _ _) (cl_of_arr h2)
theorem sort_ct {m bo bd gb : Nat} {d : Nat → Dg} (hm : m + 1 ≤ 32 := by omega) : Ct Try.prog 127 [sl (some bo) (m + 1) (m + 1), .func (.func 128) #[] #[.pointer (some ⟨bd, 0, none⟩)]] [arr (some bo) (m + 1) 1 3 eN (List.range (m + 1)), cl bd 76 [sl (some gb) (m + 1) (m + 1)], arr (some gb) (m + 1) 32 42 fD (mks d 0 (m + 1))] (fun _ : Unit => .tuple #[]) (fun _ => [arr (some bo) (m + 1) 1 3 eN (ordL d (m + 1)), cl bd 76 [sl (some gb) (m + 1) (m + 1)], arr (some gb) (m + 1) 32 42 fD (mks d 0 (m + 1))]) := by
  have hl := mks_len d 0 (m + 1)
  have h := Ct_sort sortL (fun x : Fin (m + 1) => Value.int .i64 ((x.1 : Nat) : Int)) (enc1 m) (fun x y : Fin (m + 1) => cfM d x.1 y.1) (swoR d (m + 1)) (totR d (m + 1)) 128 [.pointer (some ⟨bd, 0, none⟩)] (by kernel_rfl) (ptO bd gb (m + 1) d) (fun x y => order1_pts hm x y) bo (m + 1) 3 (List.finRange (m + 1)) (by simp; omega)
  rw [List.length_finRange] at h
  have e : pts (ptO bd gb (m + 1) d) = [cl bd 76 [sl (some gb) (m + 1) (m + 1)], cl gb 42 ((mks d 0 (m + 1)).flatMap fD)] := rfl
  rw [e] at h
  refine h.conv (fun F w h => ?_) (fun r F w h => ?_)
  · have h1 : sat w (arr (some bo) (m + 1) 1 3 (fun x : Fin (m + 1) => [Value.int .i64 ((x.1 : Nat) : Int)]) (List.finRange (m + 1)) :: cl bd 76 [sl (some gb) (m + 1) (m + 1)] :: arr (some gb) (m + 1) 32 42 fD (mks d 0 (m + 1)) :: F) := by
      refine sat_imp (fun hp q => ?_) h
      rw [← fin_range] at q
      exact arr_unmap (f := eN) (g := fun x : Fin (m + 1) => x.1) (fun _ => rfl) hp q
    have h2 : sat w (arr (some gb) (mks d 0 (m + 1)).length 32 42 fD (mks d 0 (m + 1)) :: arr (some bo) (m + 1) 1 3 (fun x : Fin (m + 1) => [Value.int .i64 ((x.1 : Nat) : Int)]) (List.finRange (m + 1)) :: cl bd 76 [sl (some gb) (m + 1) (m + 1)] :: F) := by
      rw [hl]
      exact sat_perm ((List.Perm.cons _ (.swap _ _ _)).trans (.swap _ _ _)) h1
    exact sat_perm ((List.Perm.swap _ _ _).trans (List.Perm.cons _ (.swap _ _ _))) (cl_of_arr h2)
  · have h1 : sat w (arr (some bo) (m + 1) 1 3 eN (ordL d (m + 1)) :: cl bd 76 [sl (some gb) (m + 1) (m + 1)] :: cl gb 42 ((mks d 0 (m + 1)).flatMap fD) :: F) := by
      refine sat_imp (fun hp q => ?_) h
      rw [← ordL_fin]
      exact arr_map (f := eN) (g := fun x : Fin (m + 1) => x.1) (fun _ => rfl) hp q
    have h2 := arr_of_cl (e := 32) encD.len (by rw [hl]; simp [maxLen]; omega) (sat_perm ((List.Perm.cons _ (.swap _ _ _)).trans (.swap _ _ _)) h1)
    rw [hl] at h2
    exact sat_perm ((List.Perm.swap _ _ _).trans (List.Perm.cons _ (.swap _ _ _))) h2
end Go.Proofs.Ythkchjcodibaeaa
namespace Go.Proofs.Ythkchjcodibaeaa
open Go.RowKit Go.SL Go.ShM
set_option maxHeartbeats 1000000
set_option maxRecDepth 20000
set_option linter.all false
theorem cf77 : cfn Try.prog 77 = true := by kernel_rfl
theorem cf127 : cfn Try.prog 127 = true := by kernel_rfl
theorem el3 : el Try.prog 3 = some (1, 8) := by kernel_rfl
theorem el42 : el Try.prog 42 = some (32, 32) := by kernel_rfl
theorem sz76 : sz Try.prog 76 = some 1 := by kernel_rfl
theorem tk120 : tk Try.prog 120 = some (some 16) := by kernel_rfl
theorem ud101 : Try.prog.underlying 101 = some (.slice 3) := by kernel_rfl
theorem zr3 : zr Try.prog 3 = some [.int .i64 0] := by kernel_rfl
theorem zr76 : zr Try.prog 76 = some [.slice none 0 0] := by kernel_rfl
theorem orderN_ct {x : List B8} {n : Int} (hx : x.length = 16 := by first | with_reducible assumption | omega) (hb : n < 1 ∨ 32 < n) : Ct Try.prog 71 [aU .u8 x, .int .i64 n] [] (fun _ : Unit => .tuple #[sl none 0 0, .int .i64 2]) (fun _ => []) := by
  refine Ct_body (n := 39) Try.func71 rfl rfl rfl fun F w0 Q hret hnorm hp => ?_
  change WC _ _ _ _ _ _ _ (F)
  refine WC_sr fun K1 hK1 => ?_
  refine WL_ac (Ac_boxW (k := .u8) rfl) rfl rfl rfl ?_
  rintro _ _ ⟨b2, rfl, rfl⟩
  refine WL_rd (Rd_assign (v := sl none 0 0) rfl) rfl rfl rfl ?_
  refine WL_rd (Rd_assign rfl) rfl rfl rfl ?_
  refine WL_end hK1 ?_
  refine WC_seq fun K2 hK2 => ?_
  refine WC_sr fun K3 hK3 => ?_
  refine WL_rd (Rd_move rfl) rfl rfl rfl ?_
  refine WL_rd (Rd_lss rfl rfl) rfl rfl rfl ?_
  refine WL_rd (Rd_move rfl) rfl rfl rfl ?_
  refine WL_bool 11 rfl (fun hg4 => ?_) (fun hg4 => ?_)
  · try simp only [decide_eq_true_eq, decide_eq_false_iff_not, Bool.not_eq_true', Bool.not_eq_false', Bool.not_eq_true, Bool.not_eq_false, Int.not_lt, Int.not_le, Nat.not_lt, Nat.not_le, Decidable.not_not, ne_eq] at hg4
    refine WL_skip rfl rfl rfl ?_
    refine WL_skip rfl rfl rfl ?_
    refine WL_rd (Rd_pickT rfl rfl) rfl rfl rfl ?_
    refine WL_end hK3 ?_
    refine WC_condT rfl ?_
    refine WC_sr fun K5 hK5 => ?_
    refine WL_rd (Rd_assign (v := sl none 0 0) rfl) rfl rfl rfl ?_
    refine WL_rd (Rd_assign rfl) rfl rfl rfl ?_
    refine WL_end hK5 ?_
    refine WC_ret ?_
    exact hret.go () (Rs2 rfl rfl rfl)
  · try simp only [decide_eq_true_eq, decide_eq_false_iff_not, Bool.not_eq_true', Bool.not_eq_false', Bool.not_eq_true, Bool.not_eq_false, Int.not_lt, Int.not_le, Nat.not_lt, Nat.not_le, Decidable.not_not, ne_eq] at hg4
    refine WL_rd (Rd_move rfl) rfl rfl rfl ?_
    refine WL_rd (Rd_gtr rfl rfl) rfl rfl rfl ?_
    refine WL_rd (Rd_pickF rfl rfl) rfl rfl rfl ?_
    refine WL_end hK3 ?_
    refine WC_cond rfl (fun hc0 => ?_) (fun hc0 => ?_)
    · try simp only [decide_eq_true_eq, decide_eq_false_iff_not, Bool.not_eq_true', Bool.not_eq_false', Bool.not_eq_true, Bool.not_eq_false, Int.not_lt, Int.not_le, Nat.not_lt, Nat.not_le, Decidable.not_not, ne_eq] at hc0
      refine WC_sr fun K6 hK6 => ?_
      refine WL_rd (Rd_assign (v := sl none 0 0) rfl) rfl rfl rfl ?_
      refine WL_rd (Rd_assign rfl) rfl rfl rfl ?_
      refine WL_end hK6 ?_
      refine WC_ret ?_
      exact hret.go () (Rs2 rfl rfl rfl)
    · try simp only [decide_eq_true_eq, decide_eq_false_iff_not, Bool.not_eq_true', Bool.not_eq_false', Bool.not_eq_true, Bool.not_eq_false, Int.not_lt, Int.not_le, Nat.not_lt, Nat.not_le, Decidable.not_not, ne_eq] at hc0
      omega

theorem orderM_ct {x : List B8} {m : Nat} (hx : x.length = 16 := by first | with_reducible assumption | omega) (hm : m + 1 ≤ 32 := by omega) : Ct Try.prog 71 [aU .u8 x, .int .i64 (((m + 1) : Nat) : Int)] [] (fun g : Nat => .tuple #[sl (some g) (m + 1) (m + 1), .int .i64 0]) (fun g => [arr (some g) (m + 1) 1 3 eN (ordL (ringD x) (m + 1))]) := by
  refine Ct_body (n := 39) Try.func71 rfl rfl rfl fun F w0 Q hret hnorm hp => ?_
  change WC _ _ _ _ _ _ _ (F)
  refine WC_sr fun K1 hK1 => ?_
  refine WL_ac (Ac_boxW (k := .u8) rfl) rfl rfl rfl ?_
  rintro _ _ ⟨b2, rfl, rfl⟩
  refine WL_rd (Rd_assign (v := sl none 0 0) rfl) rfl rfl rfl ?_
  refine WL_rd (Rd_assign rfl) rfl rfl rfl ?_
  refine WL_end hK1 ?_
  refine WC_seq fun K2 hK2 => ?_
  refine WC_sr fun K3 hK3 => ?_
  refine WL_rd (Rd_move rfl) rfl rfl rfl ?_
  refine WL_rd (Rd_lssN (j := 1) rfl rfl) rfl rfl rfl ?_
  refine WL_rd (Rd_move rfl) rfl rfl rfl ?_
  refine WL_bool 11 rfl (fun hg4 => ?_) (fun hg4 => ?_)
  · try simp only [decide_eq_true_eq, decide_eq_false_iff_not, Bool.not_eq_true', Bool.not_eq_false', Bool.not_eq_true, Bool.not_eq_false, Int.not_lt, Int.not_le, Nat.not_lt, Nat.not_le, Decidable.not_not, ne_eq] at hg4
    refine WL_skip rfl rfl rfl ?_
    refine WL_skip rfl rfl rfl ?_
    refine WL_rd (Rd_pickT rfl rfl) rfl rfl rfl ?_
    refine WL_end hK3 ?_
    refine WC_condT rfl ?_
    omega
  · try simp only [decide_eq_true_eq, decide_eq_false_iff_not, Bool.not_eq_true', Bool.not_eq_false', Bool.not_eq_true, Bool.not_eq_false, Int.not_lt, Int.not_le, Nat.not_lt, Nat.not_le, Decidable.not_not, ne_eq] at hg4
    refine WL_rd (Rd_move rfl) rfl rfl rfl ?_
    refine WL_rd (Rd_gtrN (j := 32) rfl rfl) rfl rfl rfl ?_
    refine WL_rd (Rd_pickF rfl rfl) rfl rfl rfl ?_
    refine WL_end hK3 ?_
    refine WC_cond rfl (fun hc0 => ?_) (fun hc0 => ?_)
    · try simp only [decide_eq_true_eq, decide_eq_false_iff_not, Bool.not_eq_true', Bool.not_eq_false', Bool.not_eq_true, Bool.not_eq_false, Int.not_lt, Int.not_le, Nat.not_lt, Nat.not_le, Decidable.not_not, ne_eq] at hc0
      omega
    · try simp only [decide_eq_true_eq, decide_eq_false_iff_not, Bool.not_eq_true', Bool.not_eq_false', Bool.not_eq_true, Bool.not_eq_false, Int.not_lt, Int.not_le, Nat.not_lt, Nat.not_le, Decidable.not_not, ne_eq] at hc0
      refine WC_skip ?_
      refine Ps_next hK2 ?_
      refine WC_sr fun K5 hK5 => ?_
      refine WL_rd (Rd_move rfl) rfl rfl rfl ?_
      refine WL_ac (Ac_make (f := fD) (l := m + 1) (c := m + 1) encD zD rfl rfl ud76 el42 zr42) rfl rfl rfl ?_
      rintro _ _ ⟨b16, rfl, rfl⟩
      refine WL_ac (Ac_alloc zr76) rfl rfl rfl ?_
      rintro _ _ ⟨b6, rfl, rfl⟩
      refine WL_ac0 (Ac_store1 rfl rfl sz76) rfl rfl ?_
      rintro _ _ rfl
      rw [show cl b6 76 [Value.slice (some ⟨b16, 0, none⟩) (m + 1) (m + 1)] = cl b6 76 [sl (some b16) (m + 1) (m + 1)] from rfl]
      refine WL_end hK5 ?_
      refine WC_sr fun K6 hK6 => ?_
      refine WL_rd (Rd_move rfl) rfl rfl rfl ?_
      refine WL_ac (Ac_make (f := eN) (l := m + 1) (c := m + 1) encN 0 rfl rfl ud101 el3 zr3) rfl rfl rfl ?_
      rintro _ _ ⟨b18, rfl, rfl⟩
      refine WL_rd (Rd_assign rfl) rfl rfl rfl ?_
      refine WL_end hK6 ?_
      refine WC_seq fun K7 hK7 => ?_
      refine WC_sr fun K8 hK8 => ?_
      refine WL_rd (Rd_move rfl) rfl rfl rfl ?_
      refine WL_rd (Rd_move rfl) rfl rfl rfl ?_
      refine WL_end hK8 ?_
      refine WC_block ?_
      rw [show arr (some b16) (m + 1) 32 42 fD (List.replicate (m + 1) zD) = arr (some b16) (m + 1) 32 42 fD (ovl (ringD x) (List.replicate (m + 1) zD) 0) from by rw [ovl_0]]
      rw [show arr (some b18) (m + 1) 1 3 eN (List.replicate (m + 1) 0) = arr (some b18) (m + 1) 1 3 eN (ovl (fun i => i) (List.replicate (m + 1) 0) 0) from by rw [ovl_0]]
      refine WC_loopK (σ := Nat) (fun i' => [(20, .int .i64 ((i' : Nat) : Int))]) (fun i' => [arr (some b16) (m + 1) 32 42 fD (ovl (ringD x) (List.replicate (m + 1) zD) i'), arr (some b18) (m + 1) 1 3 eN (ovl (fun i => i) (List.replicate (m + 1) 0) i')]) (fun i' => i' ≤ m + 1) (fun i' => m + 1 - i') (0) [2, 4, 5, 6, 7, 19, 35, 36, 38] (by repeat (first | exact Kep.nil | apply Kep.drop rfl | apply Kep.keep rfl)) (by (try dsimp only); repeat (first | with_reducible exact Gv.nil | (with_reducible apply Gv.cons; · (repeat (first | with_reducible exact Ext.here | with_reducible apply Ext.there))))) ?_ ?_ Sub.refl ?_
      · omega
      · (try dsimp only); exact (Wk.cons (by first | rfl | (simp only [List.length_append, List.length_cons, List.length_nil, List.length_replicate, Nat.zero_add]; rfl) | (simp; done)) Wk.nil)
      · rintro i' hi K9 hK9
        simp only [List.cons_append, List.nil_append]
        have hl1 : (ovl (ringD x) (List.replicate (m + 1) zD) i').length = m + 1 := by rw [ovl_len _ (by simpa using hi), List.length_replicate]
        have hl2 : (ovl (fun i => i) (List.replicate (m + 1) 0) i').length = m + 1 := by rw [ovl_len _ (by simpa using hi), List.length_replicate]
        refine WC_sr fun K10 hK10 => ?_
        refine WL_rd (Rd_lssN rfl rfl) rfl rfl rfl ?_
        refine WL_end hK10 ?_
        refine WC_seq fun K11 hK11 => ?_
        refine WC_cond rfl (fun hc1 => ?_) (fun hc1 => ?_)
        · try simp only [decide_eq_true_eq, decide_eq_false_iff_not, Bool.not_eq_true', Bool.not_eq_false', Bool.not_eq_true, Bool.not_eq_false, Int.not_lt, Int.not_le, Nat.not_lt, Nat.not_le, Decidable.not_not, ne_eq] at hc1
          refine WC_skip ?_
          refine Ps_next hK11 ?_
          refine WC_seq fun K12 hK12 => ?_
          refine WC_block ?_
          refine WC_sr fun K13 hK13 => ?_
          refine WL_rd (Rd_move rfl) rfl rfl rfl ?_
          refine WL_rd (Rd_assign rfl) rfl rfl rfl ?_
          refine WL_end hK13 ?_
          refine WC_drawA mix (fun i => ([2, 2, 2, 2, 2, 2, 2, 1, 2, 2, 0, 2, 0] : List Nat).getD i 0) ?_
          refine WJ_tk 0 (Rd_load rfl tk76) hp ?_ rfl (by kernel_rfl) rfl rfl rfl
          refine WJ_takeP 1 rfl (by kernel_rfl) (Rd_move rfl) rfl rfl rfl (hp _ _) ?_
          refine WJ_takeP 2 rfl (by kernel_rfl) (Rd_move rfl) rfl rfl rfl (hp _ _) ?_
          refine WJ_takeP 3 rfl (by kernel_rfl) (Rd_move rfl) rfl rfl rfl (hp _ _) ?_
          refine WJ_tk 4 (Rd_loadW rfl tk120) hp ?_ rfl (by kernel_rfl) rfl rfl rfl
          refine WJ_takeP 5 rfl (by kernel_rfl) (Rd_move rfl) rfl rfl rfl (hp _ _) ?_
          refine WJ_takeP 6 rfl (by kernel_rfl) (Rd_convNU rfl ikd3_24 (h' := uk32)) rfl rfl rfl (hp _ _) ?_
          refine WJ_takeP 8 rfl (by kernel_rfl) (Rd_move rfl) rfl rfl rfl (hp _ _) ?_
          refine WJ_all (rs := [7]) (by kernel_rfl) rfl ?_
          refine WI_one ?_
          refine WI_ac rfl (Ac_call cf77 rfl (hs := ring_ct (x := x) (s := BitVec.ofNat 32 i'))) rfl rfl rfl rfl ?_
          rintro _ _ ⟨⟨⟩, rfl, hA⟩
          simp only [List.cons_append, List.nil_append] at hA
          replace hA := hA.symm
          subst hA
          refine ⟨(fun _ => (by repeat (first | with_reducible exact Sub.refl | with_reducible exact Sub.nil | with_reducible refine Sub.cons (by repeat (first | with_reducible exact Ext.here | with_reducible apply Ext.there)) ?_ | with_reducible refine Sub.tail ?_))), ?_⟩
          refine WJ_takeP 9 rfl (by kernel_rfl) (Rd_index _ rfl rfl ud76 sz42) rfl rfl rfl (hp _ _) ?_
          refine WJ_all (rs := [10]) (by kernel_rfl) rfl ?_
          refine WI_one ?_
          refine WI_ac0 rfl (Ac_storeD (ringD x i') rfl rfl sz42) rfl rfl rfl ?_
          rintro _ _ rfl
          refine ⟨(fun h => by cases h), ?_⟩
          rw [ovl_set (ringD x) (by rw [List.length_replicate]; omega)]
          refine WJ_takeP 11 rfl (by kernel_rfl) (Rd_index _ rfl rfl ud101 sz3) rfl rfl rfl (hp _ _) ?_
          refine WJ_all (rs := [12]) (by kernel_rfl) rfl ?_
          refine WI_one ?_
          refine WI_ac0 rfl (Ac_store_arr i' rfl rfl sz3 (j := 0) (i := i') (hl := at_N (by omega))) rfl rfl rfl ?_
          rintro _ _ rfl
          refine ⟨(fun h => by cases h), ?_⟩
          rw [ovl_set (fun i => i) (by rw [List.length_replicate]; omega)]
          refine WJ_done (by kernel_rfl) ?_
          refine Ps_next hK12 ?_
          refine WC_region ?_
          refine WL_rd (Rd_addN (j := 1) rfl rfl) rfl rfl rfl ?_
          refine WL_rd (Rd_move rfl) rfl rfl rfl ?_
          refine WL_nil ?_
          refine Ps_wk (by (try simp only [List.cons_append, List.nil_append]); repeat (first | with_reducible exact Wk.nil | refine Wk.cons (by first | rfl | (simp only [List.length_append, List.length_cons, List.length_nil, List.length_replicate, Nat.zero_add]; rfl) | (simp; done)) ?_)) (by (try simp only [List.cons_append, List.nil_append]); repeat (first | with_reducible exact Sub.refl | with_reducible exact Sub.nil | with_reducible refine Sub.cons (by repeat (first | with_reducible exact Ext.here | with_reducible apply Ext.there)) ?_ | with_reducible refine Sub.tail ?_)) (hK9 (i' + 1) (by omega) (by omega))
        · try simp only [decide_eq_true_eq, decide_eq_false_iff_not, Bool.not_eq_true', Bool.not_eq_false', Bool.not_eq_true, Bool.not_eq_false, Int.not_lt, Int.not_le, Nat.not_lt, Nat.not_le, Decidable.not_not, ne_eq] at hc1
          obtain rfl : i' = m + 1 := by omega
          rw [ovl_rep, ovl_rep, mks_id]
          refine WC_exit ?_
          refine Ps_next hK7 ?_
          refine WC_sr fun K14 hK14 => ?_
          refine WL_rd (Rd_move rfl) rfl rfl rfl ?_
          refine WL_rd (Rd_makeFunc rfl rfl) rfl rfl rfl ?_
          refine WL_ac (Ac_call cf127 rfl (hs := sort_ct (m := m) (d := ringD x) (bo := b18) (bd := b6) (gb := b16))) rfl rfl rfl ?_
          rintro _ _ ⟨⟨⟩, rfl, hA⟩
          simp only [List.cons_append, List.nil_append] at hA
          replace hA := hA.symm
          subst hA
          refine WL_end hK14 ?_
          refine WC_sr fun K15 hK15 => ?_
          refine WL_rd (Rd_move rfl) rfl rfl rfl ?_
          refine WL_rd (Rd_assign rfl) rfl rfl rfl ?_
          refine WL_rd (Rd_assign rfl) rfl rfl rfl ?_
          refine WL_end hK15 ?_
          refine WC_ret ?_
          exact hret.go b18 (Rs2 rfl rfl rfl)
end Go.Proofs.Ythkchjcodibaeaa
namespace Go.Proofs.Ythkchjcodibaeaa
open Go.RowKit Go.SL Go.ShM
set_option maxHeartbeats 1000000
set_option maxRecDepth 20000
set_option linter.all false
theorem cf71 : cfn Try.prog 71 = true := by kernel_rfl
theorem cf130 : cfn Try.prog 130 = true := by kernel_rfl
theorem order_ct {x : List B8} {n : Nat} (hx : x.length = 16 := by first | with_reducible assumption | omega) (h1 : 1 ≤ n := by omega) (h2 : n ≤ 32 := by omega) : Ct Try.prog 71 [aU .u8 x, .int .i64 ((n : Nat) : Int)] [] (fun g : Nat => .tuple #[sl (some g) n n, .int .i64 0]) (fun g => [arr (some g) n 1 3 eN (ordL (ringD x) n)]) := by
  obtain ⟨m, rfl⟩ : ∃ m, n = m + 1 := ⟨n - 1, by omega⟩
  exact orderM_ct
theorem ord_before {d : Nat → Dg} {n k s j : Nat} (hk : (ordL d n)[k]? = some s) (hj : j < k) : (ordL d n).getD j 0 ≠ s := by
  obtain ⟨h1, e1⟩ := List.getElem?_eq_some_iff.1 hk
  rw [List.getD_eq_getElem?_getD, List.getElem?_eq_getElem (by omega)]
  intro e
  have := (List.getElem_inj (ordL_nodup d n)).1 ((show (ordL d n)[j] = s from e).trans e1.symm)
  omega

theorem index_ct {a : Nat} {cap s k nl : Nat} {l : List Nat} (hn : l.length = nl) (hk : l[k]? = some s := by assumption) (hb : ∀ j, j < k → l.getD j 0 ≠ s := by assumption) (hl : l.length ≤ 100000 := by omega) : Ct Try.prog 130 [sl (some a) nl cap, .int .i64 ((s : Nat) : Int)] [arr (some a) cap 1 3 eN l] (fun _ : Unit => .int .i64 ((k : Nat) : Int)) (fun _ => [arr (some a) cap 1 3 eN l]) := by
  refine Ct_body (n := 19) Try.func130 rfl rfl rfl fun F w0 Q hret hnorm hp => ?_
  change WC _ _ _ _ _ _ _ (_ :: F)
  have hkl := (List.getElem?_eq_some_iff.1 hk).1
  have hkd : l.getD k 0 = s := by rw [List.getD_eq_getElem?_getD, hk]; rfl
  refine WC_sr fun K1 hK1 => ?_
  refine WL_rd (Rd_assign rfl) rfl rfl rfl ?_
  refine WL_end hK1 ?_
  refine WC_seq fun K2 hK2 => ?_
  refine WC_sr fun K3 hK3 => ?_
  refine WL_rd (Rd_move rfl) rfl rfl rfl ?_
  refine WL_rd (Rd_len rfl rfl ud101) rfl rfl rfl ?_
  refine WL_rd (Rd_move rfl) rfl rfl rfl ?_
  refine WL_end hK3 ?_
  refine WC_block ?_
  refine WC_loopK (σ := Nat) (fun j => [(8, .int .i64 ((j : Nat) : Int))]) (fun j => []) (fun j => j ≤ k) (fun j => k - j) (0) [0, 1, 7] (by repeat (first | exact Kep.nil | apply Kep.drop rfl | apply Kep.keep rfl)) (by (try dsimp only); repeat (first | with_reducible exact Gv.nil | (with_reducible apply Gv.cons; · (repeat (first | with_reducible exact Ext.here | with_reducible apply Ext.there))))) ?_ ?_ Sub.refl ?_
  · exact Nat.zero_le _
  · (try dsimp only); exact (Wk.cons (by first | rfl | (simp only [List.length_append, List.length_cons, List.length_nil, List.length_replicate, Nat.zero_add]; rfl) | (simp; done)) Wk.nil)
  · rintro j hj K4 hK4
    simp only [List.cons_append, List.nil_append]
    refine WC_sr fun K5 hK5 => ?_
    refine WL_rd (Rd_lssN rfl rfl) rfl rfl rfl ?_
    refine WL_end hK5 ?_
    refine WC_seq fun K6 hK6 => ?_
    refine WC_cond rfl (fun hc0 => ?_) (fun hc0 => ?_)
    · try simp only [decide_eq_true_eq, decide_eq_false_iff_not, Bool.not_eq_true', Bool.not_eq_false', Bool.not_eq_true, Bool.not_eq_false, Int.not_lt, Int.not_le, Nat.not_lt, Nat.not_le, Decidable.not_not, ne_eq] at hc0
      refine WC_skip ?_
      refine Ps_next hK6 ?_
      refine WC_seq fun K7 hK7 => ?_
      refine WC_block ?_
      refine WC_sr fun K8 hK8 => ?_
      refine WL_rd (Rd_move rfl) rfl rfl rfl ?_
      refine WL_rd (Rd_assign rfl) rfl rfl rfl ?_
      refine WL_end hK8 ?_
      refine WC_sr fun K9 hK9 => ?_
      refine WL_rd (Rd_move rfl) rfl rfl rfl ?_
      refine WL_rd (Rd_move rfl) rfl rfl rfl ?_
      refine WL_rd (Rd_move rfl) rfl rfl rfl ?_
      refine WL_rd (Rd_index _ rfl rfl ud101 sz3) rfl rfl rfl ?_
      refine WL_rd (Rd_load_arr (i := j) (j := 0) rfl tk3 (hl := at_N (by omega))) rfl rfl rfl ?_
      refine WL_rd (Rd_eqlN rfl rfl) rfl rfl rfl ?_
      refine WL_end hK9 ?_
      refine WC_cond rfl (fun hc1 => ?_) (fun hc1 => ?_)
      · try simp only [decide_eq_true_eq, decide_eq_false_iff_not, Bool.not_eq_true', Bool.not_eq_false', Bool.not_eq_true, Bool.not_eq_false, Int.not_lt, Int.not_le, Nat.not_lt, Nat.not_le, Decidable.not_not, ne_eq] at hc1
        refine WC_sr fun K10 hK10 => ?_
        refine WL_rd (Rd_move rfl) rfl rfl rfl ?_
        refine WL_rd (Rd_assign rfl) rfl rfl rfl ?_
        refine WL_end hK10 ?_
        refine WC_ret ?_
        have e : j = k := by (rcases Nat.lt_or_ge j k with q | q; exact absurd hc1.symm (hb j q); omega)
        subst e
        exact hret.go () (Rs1 rfl rfl)
      · try simp only [decide_eq_true_eq, decide_eq_false_iff_not, Bool.not_eq_true', Bool.not_eq_false', Bool.not_eq_true, Bool.not_eq_false, Int.not_lt, Int.not_le, Nat.not_lt, Nat.not_le, Decidable.not_not, ne_eq] at hc1
        refine WC_skip ?_
        refine Ps_next hK7 ?_
        refine WC_region ?_
        refine WL_rd (Rd_addN (j := 1) rfl rfl) rfl rfl rfl ?_
        refine WL_rd (Rd_move rfl) rfl rfl rfl ?_
        refine WL_nil ?_
        refine Ps_wk (by (try simp only [List.cons_append, List.nil_append]); repeat (first | with_reducible exact Wk.nil | refine Wk.cons (by first | rfl | (simp only [List.length_append, List.length_cons, List.length_nil, List.length_replicate, Nat.zero_add]; rfl) | (simp; done)) ?_)) (by (try simp only [List.cons_append, List.nil_append]); repeat (first | with_reducible exact Sub.refl | with_reducible exact Sub.nil | with_reducible refine Sub.cons (by repeat (first | with_reducible exact Ext.here | with_reducible apply Ext.there)) ?_ | with_reducible refine Sub.tail ?_)) (hK4 (j + 1) (by rcases Nat.lt_or_ge j k with q | q; omega; (have e : j = k := by omega); subst e; exact absurd hkd.symm hc1) (by rcases Nat.lt_or_ge j k with q | q; omega; (have e : j = k := by omega); subst e; exact absurd hkd.symm hc1))
    · try simp only [decide_eq_true_eq, decide_eq_false_iff_not, Bool.not_eq_true', Bool.not_eq_false', Bool.not_eq_true, Bool.not_eq_false, Int.not_lt, Int.not_le, Nat.not_lt, Nat.not_le, Decidable.not_not, ne_eq] at hc0
      omega

theorem rank_ct {x : List B8} {n s k : Nat} (hx : x.length = 16 := by first | with_reducible assumption | omega) (h1 : 1 ≤ n := by omega) (h2 : n ≤ 32 := by omega) (hk : (ordL (ringD x) n)[k]? = some s := by assumption) : Ct Try.prog 73 [aU .u8 x, .int .i64 ((n : Nat) : Int), .int .i64 ((s : Nat) : Int)] [] (fun _ : Unit => .tuple #[.int .i64 ((k : Nat) : Int), .int .i64 0]) (fun _ => []) := by
  refine Ct_body (n := 30) Try.func73 rfl rfl rfl fun F w0 Q hret hnorm hp => ?_
  change WC _ _ _ _ _ _ _ (F)
  have hsn := ordL_mem.1 (List.mem_of_getElem? hk)
  have hol := ordL_len (ringD x) n
  refine WC_sr fun K1 hK1 => ?_
  refine WL_ac (Ac_boxW (k := .u8) rfl) rfl rfl rfl ?_
  rintro _ _ ⟨b3, rfl, rfl⟩
  refine WL_rd (Rd_assign rfl) rfl rfl rfl ?_
  refine WL_rd (Rd_assign rfl) rfl rfl rfl ?_
  refine WL_end hK1 ?_
  refine WC_sr fun K2 hK2 => ?_
  refine WL_rd (Rd_loadW rfl tk120) rfl rfl rfl ?_
  refine WL_rd (Rd_move rfl) rfl rfl rfl ?_
  refine WL_ac (Ac_call cf71 rfl (hs := order_ct (x := x) (n := n))) rfl rfl rfl ?_
  rintro _ _ ⟨og, rfl, hA⟩
  simp only [List.cons_append, List.nil_append] at hA
  replace hA := hA.symm
  subst hA
  refine WL_rd (Rd_move rfl) rfl rfl rfl ?_
  refine WL_rd (Rd_ext0 rfl) rfl rfl rfl ?_
  refine WL_rd (Rd_ext1 rfl) rfl rfl rfl ?_
  refine WL_rd (Rd_assign rfl) rfl rfl rfl ?_
  refine WL_rd (Rd_assign rfl) rfl rfl rfl ?_
  refine WL_end hK2 ?_
  refine WC_seq fun K3 hK3 => ?_
  refine WC_sr fun K4 hK4 => ?_
  refine WL_rd (Rd_move rfl) rfl rfl rfl ?_
  refine WL_rd (Rd_neqN (i := 0) (j := 0) rfl rfl) rfl rfl rfl ?_
  refine WL_rd (Rd_move rfl) rfl rfl rfl ?_
  refine WL_rd (Rd_move rfl) rfl rfl rfl ?_
  refine WL_rd (Rd_lssN (j := 0) rfl rfl) rfl rfl rfl ?_
  refine WL_rd (Rd_pickF rfl rfl) rfl rfl rfl ?_
  refine WL_rd (Rd_move rfl) rfl rfl rfl ?_
  refine WL_bool 22 rfl (fun hg5 => ?_) (fun hg5 => ?_)
  · try simp only [decide_eq_true_eq, decide_eq_false_iff_not, Bool.not_eq_true', Bool.not_eq_false', Bool.not_eq_true, Bool.not_eq_false, Int.not_lt, Int.not_le, Nat.not_lt, Nat.not_le, Decidable.not_not, ne_eq] at hg5
    refine WL_skip rfl rfl rfl ?_
    refine WL_skip rfl rfl rfl ?_
    refine WL_skip rfl rfl rfl ?_
    refine WL_rd (Rd_pickT rfl rfl) rfl rfl rfl ?_
    refine WL_end hK4 ?_
    refine WC_condT rfl ?_
    omega
  · try simp only [decide_eq_true_eq, decide_eq_false_iff_not, Bool.not_eq_true', Bool.not_eq_false', Bool.not_eq_true, Bool.not_eq_false, Int.not_lt, Int.not_le, Nat.not_lt, Nat.not_le, Decidable.not_not, ne_eq] at hg5
    refine WL_rd (Rd_move rfl) rfl rfl rfl ?_
    refine WL_rd (Rd_move rfl) rfl rfl rfl ?_
    refine WL_rd (Rd_geqN rfl rfl) rfl rfl rfl ?_
    refine WL_rd (Rd_pickF rfl rfl) rfl rfl rfl ?_
    refine WL_end hK4 ?_
    refine WC_cond rfl (fun hc0 => ?_) (fun hc0 => ?_)
    · try simp only [decide_eq_true_eq, decide_eq_false_iff_not, Bool.not_eq_true', Bool.not_eq_false', Bool.not_eq_true, Bool.not_eq_false, Int.not_lt, Int.not_le, Nat.not_lt, Nat.not_le, Decidable.not_not, ne_eq] at hc0
      omega
    · try simp only [decide_eq_true_eq, decide_eq_false_iff_not, Bool.not_eq_true', Bool.not_eq_false', Bool.not_eq_true, Bool.not_eq_false, Int.not_lt, Int.not_le, Nat.not_lt, Nat.not_le, Decidable.not_not, ne_eq] at hc0
      refine WC_skip ?_
      refine Ps_next hK3 ?_
      refine WC_sr fun K6 hK6 => ?_
      refine WL_rd (Rd_move rfl) rfl rfl rfl ?_
      refine WL_rd (Rd_move rfl) rfl rfl rfl ?_
      refine WL_ac (Ac_call cf130 rfl (hs := index_ct (a := og) (cap := n) (s := s) (k := k) (l := (ordL (ringD x) n)) (hn := hol) (hb := fun j hj => ord_before hk hj))) rfl rfl rfl ?_
      rintro _ _ ⟨⟨⟩, rfl, hA⟩
      simp only [List.cons_append, List.nil_append] at hA
      replace hA := hA.symm
      subst hA
      refine WL_rd (Rd_assign rfl) rfl rfl rfl ?_
      refine WL_rd (Rd_assign rfl) rfl rfl rfl ?_
      refine WL_end hK6 ?_
      refine WC_ret ?_
      exact hret.go () (Rs2 rfl rfl rfl)

theorem rankB_ct {x : List B8} {n : Nat} {s : Int} (hx : x.length = 16 := by first | with_reducible assumption | omega) (h1 : 1 ≤ n := by omega) (h2 : n ≤ 32 := by omega) (hs : s < 0 ∨ (n : Int) ≤ s := by omega) : Ct Try.prog 73 [aU .u8 x, .int .i64 ((n : Nat) : Int), .int .i64 s] [] (fun _ : Unit => .tuple #[.int .i64 0, .int .i64 2]) (fun _ => []) := by
  refine Ct_body (n := 30) Try.func73 rfl rfl rfl fun F w0 Q hret hnorm hp => ?_
  change WC _ _ _ _ _ _ _ (F)
  refine WC_sr fun K1 hK1 => ?_
  refine WL_ac (Ac_boxW (k := .u8) rfl) rfl rfl rfl ?_
  rintro _ _ ⟨b3, rfl, rfl⟩
  refine WL_rd (Rd_assign rfl) rfl rfl rfl ?_
  refine WL_rd (Rd_assign rfl) rfl rfl rfl ?_
  refine WL_end hK1 ?_
  refine WC_sr fun K2 hK2 => ?_
  refine WL_rd (Rd_loadW rfl tk120) rfl rfl rfl ?_
  refine WL_rd (Rd_move rfl) rfl rfl rfl ?_
  refine WL_ac (Ac_call cf71 rfl (hs := order_ct (x := x) (n := n))) rfl rfl rfl ?_
  rintro _ _ ⟨og, rfl, hA⟩
  simp only [List.cons_append, List.nil_append] at hA
  replace hA := hA.symm
  subst hA
  refine WL_rd (Rd_move rfl) rfl rfl rfl ?_
  refine WL_rd (Rd_ext0 rfl) rfl rfl rfl ?_
  refine WL_rd (Rd_ext1 rfl) rfl rfl rfl ?_
  refine WL_rd (Rd_assign rfl) rfl rfl rfl ?_
  refine WL_rd (Rd_assign rfl) rfl rfl rfl ?_
  refine WL_end hK2 ?_
  refine WC_seq fun K3 hK3 => ?_
  refine WC_sr fun K4 hK4 => ?_
  refine WL_rd (Rd_move rfl) rfl rfl rfl ?_
  refine WL_rd (Rd_neqN (i := 0) (j := 0) rfl rfl) rfl rfl rfl ?_
  refine WL_rd (Rd_move rfl) rfl rfl rfl ?_
  refine WL_rd (Rd_move rfl) rfl rfl rfl ?_
  refine WL_rd (Rd_lss rfl rfl) rfl rfl rfl ?_
  refine WL_rd (Rd_pickF rfl rfl) rfl rfl rfl ?_
  refine WL_rd (Rd_move rfl) rfl rfl rfl ?_
  refine WL_bool 22 rfl (fun hg5 => ?_) (fun hg5 => ?_)
  · try simp only [decide_eq_true_eq, decide_eq_false_iff_not, Bool.not_eq_true', Bool.not_eq_false', Bool.not_eq_true, Bool.not_eq_false, Int.not_lt, Int.not_le, Nat.not_lt, Nat.not_le, Decidable.not_not, ne_eq] at hg5
    refine WL_skip rfl rfl rfl ?_
    refine WL_skip rfl rfl rfl ?_
    refine WL_skip rfl rfl rfl ?_
    refine WL_rd (Rd_pickT rfl rfl) rfl rfl rfl ?_
    refine WL_end hK4 ?_
    refine WC_condT rfl ?_
    refine WC_sr fun K6 hK6 => ?_
    refine WL_rd (Rd_assign rfl) rfl rfl rfl ?_
    refine WL_rd (Rd_assign rfl) rfl rfl rfl ?_
    refine WL_end hK6 ?_
    refine WC_ret ?_
    exact hret.go () (Rs2 rfl rfl rfl)
  · try simp only [decide_eq_true_eq, decide_eq_false_iff_not, Bool.not_eq_true', Bool.not_eq_false', Bool.not_eq_true, Bool.not_eq_false, Int.not_lt, Int.not_le, Nat.not_lt, Nat.not_le, Decidable.not_not, ne_eq] at hg5
    refine WL_rd (Rd_move rfl) rfl rfl rfl ?_
    refine WL_rd (Rd_move rfl) rfl rfl rfl ?_
    refine WL_rd (Rd_geq rfl rfl) rfl rfl rfl ?_
    refine WL_rd (Rd_pickF rfl rfl) rfl rfl rfl ?_
    refine WL_end hK4 ?_
    refine WC_cond rfl (fun hc0 => ?_) (fun hc0 => ?_)
    · try simp only [decide_eq_true_eq, decide_eq_false_iff_not, Bool.not_eq_true', Bool.not_eq_false', Bool.not_eq_true, Bool.not_eq_false, Int.not_lt, Int.not_le, Nat.not_lt, Nat.not_le, Decidable.not_not, ne_eq] at hc0
      refine WC_sr fun K7 hK7 => ?_
      refine WL_rd (Rd_assign rfl) rfl rfl rfl ?_
      refine WL_rd (Rd_assign rfl) rfl rfl rfl ?_
      refine WL_end hK7 ?_
      refine WC_ret ?_
      exact hret.go () (Rs2 rfl rfl rfl)
    · try simp only [decide_eq_true_eq, decide_eq_false_iff_not, Bool.not_eq_true', Bool.not_eq_false', Bool.not_eq_true, Bool.not_eq_false, Int.not_lt, Int.not_le, Nat.not_lt, Nat.not_le, Decidable.not_not, ne_eq] at hc0
      omega

theorem rankA_ct {x : List B8} {n s : Int} (hx : x.length = 16 := by first | with_reducible assumption | omega) (hb : n < 1 ∨ 32 < n) : Ct Try.prog 73 [aU .u8 x, .int .i64 n, .int .i64 s] [] (fun _ : Unit => .tuple #[.int .i64 0, .int .i64 2]) (fun _ => []) := by
  refine Ct_body (n := 30) Try.func73 rfl rfl rfl fun F w0 Q hret hnorm hp => ?_
  change WC _ _ _ _ _ _ _ (F)
  refine WC_sr fun K1 hK1 => ?_
  refine WL_ac (Ac_boxW (k := .u8) rfl) rfl rfl rfl ?_
  rintro _ _ ⟨b3, rfl, rfl⟩
  refine WL_rd (Rd_assign rfl) rfl rfl rfl ?_
  refine WL_rd (Rd_assign rfl) rfl rfl rfl ?_
  refine WL_end hK1 ?_
  refine WC_sr fun K2 hK2 => ?_
  refine WL_rd (Rd_loadW rfl tk120) rfl rfl rfl ?_
  refine WL_rd (Rd_move rfl) rfl rfl rfl ?_
  refine WL_ac (Ac_call cf71 rfl (hs := orderN_ct (x := x) (n := n) (hb := hb))) rfl rfl rfl ?_
  rintro _ _ ⟨⟨⟩, rfl, hA⟩
  simp only [List.cons_append, List.nil_append] at hA
  replace hA := hA.symm
  subst hA
  refine WL_rd (Rd_move rfl) rfl rfl rfl ?_
  refine WL_rd (Rd_ext0 rfl) rfl rfl rfl ?_
  refine WL_rd (Rd_ext1 rfl) rfl rfl rfl ?_
  refine WL_rd (Rd_assign rfl) rfl rfl rfl ?_
  refine WL_rd (Rd_assign rfl) rfl rfl rfl ?_
  refine WL_end hK2 ?_
  refine WC_seq fun K3 hK3 => ?_
  refine WC_sr fun K4 hK4 => ?_
  refine WL_rd (Rd_move rfl) rfl rfl rfl ?_
  refine WL_rd (Rd_neqN (i := 2) (j := 0) rfl rfl) rfl rfl rfl ?_
  refine WL_rd (Rd_move rfl) rfl rfl rfl ?_
  refine WL_skip rfl rfl rfl ?_
  refine WL_skip rfl rfl rfl ?_
  refine WL_rd (Rd_pickT rfl rfl) rfl rfl rfl ?_
  refine WL_rd (Rd_move rfl) rfl rfl rfl ?_
  refine WL_skip rfl rfl rfl ?_
  refine WL_skip rfl rfl rfl ?_
  refine WL_skip rfl rfl rfl ?_
  refine WL_rd (Rd_pickT rfl rfl) rfl rfl rfl ?_
  refine WL_end hK4 ?_
  refine WC_condT rfl ?_
  refine WC_sr fun K5 hK5 => ?_
  refine WL_rd (Rd_assign rfl) rfl rfl rfl ?_
  refine WL_rd (Rd_assign rfl) rfl rfl rfl ?_
  refine WL_end hK5 ?_
  refine WC_ret ?_
  exact hret.go () (Rs2 rfl rfl rfl)
end Go.Proofs.Ythkchjcodibaeaa
namespace Go.Proofs.Ythkchjcodibaeaa
open Go.RowKit Go.SL Go.ShM
set_option maxHeartbeats 1000000
set_option maxRecDepth 20000
set_option linter.all false

theorem rgRound_ct {x : List B8} {n f : Int} (hx : x.length = 16 := by first | with_reducible assumption | omega) : Ct Try.prog 76 [aU .u8 x, .int .i64 n, .int .i64 f] [] (fun g : Nat × Nat × Nat => .func (.func 131) #[] #[.pointer (some ⟨g.1, 0, none⟩), .pointer (some ⟨g.2.1, 0, none⟩), .pointer (some ⟨g.2.2, 0, none⟩)]) (fun g => [arr (some g.1) x.length 1 120 (eU .u8) x, cl g.2.1 3 [.int .i64 n], cl g.2.2 3 [.int .i64 f]]) := by
  refine Ct_body (n := 8) Try.func76 rfl rfl rfl fun F w0 Q hret hnorm hp => ?_
  change WC _ _ _ _ _ _ _ (F)
  refine WC_sr fun K1 hK1 => ?_
  refine WL_ac (Ac_boxW (k := .u8) rfl) rfl rfl rfl ?_
  rintro _ _ ⟨b3, rfl, rfl⟩
  refine WL_ac (Ac_box rfl rfl) rfl rfl rfl ?_
  rintro _ _ ⟨b4, rfl, rfl⟩
  refine WL_ac (Ac_box rfl rfl) rfl rfl rfl ?_
  rintro _ _ ⟨b5, rfl, rfl⟩
  refine WL_rd (Rd_assign rfl) rfl rfl rfl ?_
  refine WL_end hK1 ?_
  refine WC_sr fun K2 hK2 => ?_
  refine WL_rd (Rd_makeFunc rfl rfl) rfl rfl rfl ?_
  refine WL_rd (Rd_assign rfl) rfl rfl rfl ?_
  refine WL_end hK2 ?_
  refine WC_ret ?_
  exact hret.go (b3, b4, b5) (Rs1 rfl rfl)

theorem rgRoundN_ct {x : List B8} {l c1 c2 c3 : Nat} {n f : Int} (hx : x.length = 16 := by first | with_reducible assumption | omega) (hb : n < 1 ∨ 32 < n) : Ct Try.prog 131 [yv l, .pointer (some ⟨c1, 0, none⟩), .pointer (some ⟨c2, 0, none⟩), .pointer (some ⟨c3, 0, none⟩)] [arr (some c1) x.length 1 120 (eU .u8) x, cl c2 3 [.int .i64 n], cl c3 3 [.int .i64 f]] (fun _ : Unit => .tuple #[]) (fun _ => [arr (some c1) x.length 1 120 (eU .u8) x, cl c2 3 [.int .i64 n], cl c3 3 [.int .i64 f]]) := by
  refine Ct_body (n := 44) Try.func131 rfl rfl rfl fun F w0 Q hret hnorm hp => ?_
  change WC _ _ _ _ _ _ _ (_ :: _ :: _ :: F)
  refine WC_sr fun K1 hK1 => ?_
  refine WL_rd (Rd_loadW rfl tk120) rfl rfl rfl ?_
  refine WL_rd (Rd_load rfl tk3) rfl rfl rfl ?_
  refine WL_ac (Ac_call cf71 rfl (hs := orderN_ct (x := x) (n := n) (hb := hb))) rfl rfl rfl ?_
  rintro _ _ ⟨⟨⟩, rfl, hA⟩
  simp only [List.cons_append, List.nil_append] at hA
  replace hA := hA.symm
  subst hA
  refine WL_rd (Rd_move rfl) rfl rfl rfl ?_
  refine WL_rd (Rd_ext0 rfl) rfl rfl rfl ?_
  refine WL_rd (Rd_ext1 rfl) rfl rfl rfl ?_
  refine WL_rd (Rd_assign rfl) rfl rfl rfl ?_
  refine WL_rd (Rd_assign rfl) rfl rfl rfl ?_
  refine WL_end hK1 ?_
  refine WC_seq fun K2 hK2 => ?_
  refine WC_sr fun K3 hK3 => ?_
  refine WL_rd (Rd_move rfl) rfl rfl rfl ?_
  refine WL_rd (Rd_neqN (i := 2) (j := 0) rfl rfl) rfl rfl rfl ?_
  refine WL_end hK3 ?_
  refine WC_condT rfl ?_
  refine WC_ret ?_
  exact hret.go () (Rs0 rfl)

theorem rgRoundI_ct {x : List B8} {l c1 c2 c3 n : Nat} {f : Int} {X Y : Nat → Asn} {J : Asn} (hx : x.length = 16 := by first | with_reducible assumption | omega) (h1 : 1 ≤ n := by omega) (h2 : n ≤ 32 := by omega) (hX : ∀ (i : Nat) (R : List Asn) (w : World), sat w (X i :: R) → sat w (arr (some c1) x.length 1 120 (eU .u8) x :: cl c2 3 [.int .i64 ((n : Nat) : Int)] :: cl c3 3 [.int .i64 f] :: Y i :: R)) (hX' : ∀ (i : Nat) (R : List Asn) (w : World), sat w (arr (some c1) x.length 1 120 (eU .u8) x :: cl c2 3 [.int .i64 ((n : Nat) : Int)] :: cl c3 3 [.int .i64 f] :: Y i :: R) → sat w (X i :: R)) (hy : ∀ i : Nat, i < n → Yd Try.prog l [.int .i64 ((((pickN f n + i) % n) : Nat) : Int), .int .i64 ((((ordL (ringD x) n).getD ((pickN f n + i) % n) 0) : Nat) : Int)] [X i] (fun b : Bool => .bool b) (fun b => [bif b then X (i + 1) else J])) : Ct Try.prog 131 [yv l, .pointer (some ⟨c1, 0, none⟩), .pointer (some ⟨c2, 0, none⟩), .pointer (some ⟨c3, 0, none⟩)] [X 0] (fun b : Bool => .tuple #[]) (fun b => [bif b then X n else J]) := by
  refine Ct_body (n := 44) Try.func131 rfl rfl rfl fun F w0 Q hret hnorm hp => ?_
  change WC _ _ _ _ _ _ _ (_ :: F)
  refine WC_imp (fun w h => hX 0 _ w h) ?_
  have htm := tmod_abs f h1
  have hol := ordL_len (ringD x) n
  have hpl := pickN_lt (x := f) h1
  refine WC_sr fun K1 hK1 => ?_
  refine WL_rd (Rd_loadW rfl tk120) rfl rfl rfl ?_
  refine WL_rd (Rd_load rfl tk3) rfl rfl rfl ?_
  refine WL_ac (Ac_call cf71 rfl (hs := order_ct (x := x) (n := n))) rfl rfl rfl ?_
  rintro _ _ ⟨og, rfl, hA⟩
  simp only [List.cons_append, List.nil_append] at hA
  replace hA := hA.symm
  subst hA
  refine WL_rd (Rd_move rfl) rfl rfl rfl ?_
  refine WL_rd (Rd_ext0 rfl) rfl rfl rfl ?_
  refine WL_rd (Rd_ext1 rfl) rfl rfl rfl ?_
  refine WL_rd (Rd_assign rfl) rfl rfl rfl ?_
  refine WL_rd (Rd_assign rfl) rfl rfl rfl ?_
  refine WL_end hK1 ?_
  refine WC_seq fun K2 hK2 => ?_
  refine WC_sr fun K3 hK3 => ?_
  refine WL_rd (Rd_move rfl) rfl rfl rfl ?_
  refine WL_rd (Rd_neqN (i := 0) (j := 0) rfl rfl) rfl rfl rfl ?_
  refine WL_end hK3 ?_
  refine WC_condF rfl ?_
  refine WC_skip ?_
  refine Ps_next hK2 ?_
  refine WC_sr fun K4 hK4 => ?_
  refine WL_rd (Rd_load rfl tk3) rfl rfl rfl ?_
  refine WL_rd (Rd_load rfl tk3) rfl rfl rfl ?_
  refine WL_rd (Rd_rem' rfl rfl (by omega) rfl) rfl rfl rfl ?_
  refine WL_rd (Rd_assign rfl) rfl rfl rfl ?_
  refine WL_end hK4 ?_
  refine WC_seq fun K5 hK5 => ?_
  refine WC_sr fun K6 hK6 => ?_
  refine WL_rd (Rd_move rfl) rfl rfl rfl ?_
  refine WL_rd (Rd_lss rfl rfl) rfl rfl rfl ?_
  refine WL_end hK6 ?_
  refine WC_cond rfl (fun hc1 => ?_) (fun hc1 => ?_)
  · try simp only [decide_eq_true_eq, decide_eq_false_iff_not, Bool.not_eq_true', Bool.not_eq_false', Bool.not_eq_true, Bool.not_eq_false, Int.not_lt, Int.not_le, Nat.not_lt, Nat.not_le, Decidable.not_not, ne_eq] at hc1
    refine WC_region ?_
    refine WL_rd (Rd_move rfl) rfl rfl rfl ?_
    refine WL_rd (Rd_load rfl tk3) rfl rfl rfl ?_
    refine WL_rd (Rd_add' rfl rfl (wr64 rfl (by omega) (by omega))) rfl rfl rfl ?_
    rw [pick_neg h1 hc1]
    refine WL_rd (Rd_assign rfl) rfl rfl rfl ?_
    refine WL_nil ?_
    refine Ps_next hK5 ?_
    refine WC_sr fun K7 hK7 => ?_
    refine WL_rd (Rd_load rfl tk3) rfl rfl rfl ?_
    refine WL_rd (Rd_move rfl) rfl rfl rfl ?_
    refine WL_end hK7 ?_
    refine WC_block ?_
    refine WC_loopK (σ := Nat) (fun i' => [(27, .int .i64 ((i' : Nat) : Int))]) (fun i' => [Y i']) (fun i' => i' ≤ n) (fun i' => n - i') (0) [0, 2, 5, 7, 26] (by repeat (first | exact Kep.nil | apply Kep.drop rfl | apply Kep.keep rfl)) (by (try dsimp only); repeat (first | with_reducible exact Gv.nil | (with_reducible apply Gv.cons; · (repeat (first | with_reducible exact Ext.here | with_reducible apply Ext.there))))) ?_ ?_ Sub.refl ?_
    · exact Nat.zero_le _
    · (try dsimp only); exact (Wk.cons (by first | rfl | (simp only [List.length_append, List.length_cons, List.length_nil, List.length_replicate, Nat.zero_add]; rfl) | (simp; done)) Wk.nil)
    · rintro i' hi K8 hK8
      simp only [List.cons_append, List.nil_append]
      refine WC_sr fun K9 hK9 => ?_
      refine WL_rd (Rd_lssN rfl rfl) rfl rfl rfl ?_
      refine WL_end hK9 ?_
      refine WC_seq fun K10 hK10 => ?_
      refine WC_cond rfl (fun hc2 => ?_) (fun hc2 => ?_)
      · try simp only [decide_eq_true_eq, decide_eq_false_iff_not, Bool.not_eq_true', Bool.not_eq_false', Bool.not_eq_true, Bool.not_eq_false, Int.not_lt, Int.not_le, Nat.not_lt, Nat.not_le, Decidable.not_not, ne_eq] at hc2
        have hmod : ((pickN f n + i') % n) < n := Nat.mod_lt _ (by omega)
        refine WC_skip ?_
        refine Ps_next hK10 ?_
        refine WC_seq fun K11 hK11 => ?_
        refine WC_block ?_
        refine WC_sr fun K12 hK12 => ?_
        refine WL_rd (Rd_move rfl) rfl rfl rfl ?_
        refine WL_rd (Rd_assign rfl) rfl rfl rfl ?_
        refine WL_end hK12 ?_
        refine WC_sr fun K13 hK13 => ?_
        refine WL_rd (Rd_move rfl) rfl rfl rfl ?_
        refine WL_rd (Rd_move rfl) rfl rfl rfl ?_
        refine WL_rd (Rd_addN rfl rfl) rfl rfl rfl ?_
        refine WL_rd (Rd_load rfl tk3) rfl rfl rfl ?_
        refine WL_rd (Rd_remN rfl rfl) rfl rfl rfl ?_
        refine WL_rd (Rd_assign rfl) rfl rfl rfl ?_
        refine WL_end hK13 ?_
        refine WC_sr fun K14 hK14 => ?_
        refine WL_rd (Rd_move rfl) rfl rfl rfl ?_
        refine WL_rd (Rd_move rfl) rfl rfl rfl ?_
        refine WL_rd (Rd_move rfl) rfl rfl rfl ?_
        refine WL_rd (Rd_move rfl) rfl rfl rfl ?_
        refine WL_rd (Rd_index ((pickN f n + i') % n) rfl rfl ud101 sz3 (hi := by omega)) rfl rfl rfl ?_
        refine WL_rd (Rd_load_arr (i := ((pickN f n + i') % n)) (j := 0) rfl tk3 (hl := at_N (by omega))) rfl rfl rfl ?_
        refine WL_imp (fun w h => sat_lend (hX' i') (by repeat (first | with_reducible exact Ext.here | with_reducible apply Ext.there)) (by repeat (first | with_reducible exact Ext.here | with_reducible apply Ext.there)) (by repeat (first | with_reducible exact Ext.here | with_reducible apply Ext.there)) (by repeat (first | with_reducible exact Ext.here | with_reducible apply Ext.there)) h) ?_
        refine WL_ac (Ac_yield rfl rfl (hy i' (by omega))) rfl rfl rfl ?_
        rintro _ _ ⟨b', rfl, hA⟩
        simp only [List.cons_append, List.nil_append] at hA
        replace hA := hA.symm
        subst hA
        refine WL_rd (Rd_not rfl) rfl rfl rfl ?_
        refine WL_end hK14 ?_
        refine WC_cond rfl (fun hc3 => ?_) (fun hc3 => ?_)
        · try simp only [decide_eq_true_eq, decide_eq_false_iff_not, Bool.not_eq_true', Bool.not_eq_false', Bool.not_eq_true, Bool.not_eq_false, Int.not_lt, Int.not_le, Nat.not_lt, Nat.not_le, Decidable.not_not, ne_eq] at hc3
          obtain rfl : b' = false := by revert hc3; cases b' <;> simp
          simp only [cond_false]
          have hstop : True := trivial
          refine WC_ret ?_
          first | (have := hstop; exact hret.go false (Rs0 rfl) (by simp only [List.cons_append, List.nil_append, cond_false]; repeat (first | with_reducible exact Sub.refl | with_reducible exact Sub.nil | with_reducible refine Sub.cons (by repeat (first | with_reducible exact Ext.here | with_reducible apply Ext.there)) ?_ | with_reducible refine Sub.tail ?_))) | exact hret.go true (Rs0 rfl) (by simp only [List.cons_append, List.nil_append, cond_true]; repeat (first | with_reducible exact Sub.refl | with_reducible exact Sub.nil | with_reducible refine Sub.cons (by repeat (first | with_reducible exact Ext.here | with_reducible apply Ext.there)) ?_ | with_reducible refine Sub.tail ?_))
        · try simp only [decide_eq_true_eq, decide_eq_false_iff_not, Bool.not_eq_true', Bool.not_eq_false', Bool.not_eq_true, Bool.not_eq_false, Int.not_lt, Int.not_le, Nat.not_lt, Nat.not_le, Decidable.not_not, ne_eq] at hc3
          obtain rfl : b' = true := by revert hc3; cases b' <;> simp
          simp only [cond_true]
          refine WC_imp (fun w h => hX (i' + 1) _ w h) ?_
          refine WC_skip ?_
          refine Ps_next hK11 ?_
          refine WC_region ?_
          refine WL_rd (Rd_addN (j := 1) rfl rfl) rfl rfl rfl ?_
          refine WL_rd (Rd_move rfl) rfl rfl rfl ?_
          refine WL_nil ?_
          refine Ps_wk (by (try simp only [List.cons_append, List.nil_append]); repeat (first | with_reducible exact Wk.nil | refine Wk.cons (by first | rfl | (simp only [List.length_append, List.length_cons, List.length_nil, List.length_replicate, Nat.zero_add]; rfl) | (simp; done)) ?_)) (by (try simp only [List.cons_append, List.nil_append]); repeat (first | with_reducible exact Sub.refl | with_reducible exact Sub.nil | with_reducible refine Sub.cons (by repeat (first | with_reducible exact Ext.here | with_reducible apply Ext.there)) ?_ | with_reducible refine Sub.tail ?_)) (hK8 (i' + 1) (by omega) (by omega))
      · try simp only [decide_eq_true_eq, decide_eq_false_iff_not, Bool.not_eq_true', Bool.not_eq_false', Bool.not_eq_true, Bool.not_eq_false, Int.not_lt, Int.not_le, Nat.not_lt, Nat.not_le, Decidable.not_not, ne_eq] at hc2
        obtain rfl : i' = n := by omega
        refine WC_imp (fun w h => sat_lend (hX' _) (by repeat (first | with_reducible exact Ext.here | with_reducible apply Ext.there)) (by repeat (first | with_reducible exact Ext.here | with_reducible apply Ext.there)) (by repeat (first | with_reducible exact Ext.here | with_reducible apply Ext.there)) (by repeat (first | with_reducible exact Ext.here | with_reducible apply Ext.there)) h) ?_
        refine WC_exit ?_
        first | (have := hstop; exact hnorm.go false (Rs0 rfl) (by simp only [List.cons_append, List.nil_append, cond_false]; repeat (first | with_reducible exact Sub.refl | with_reducible exact Sub.nil | with_reducible refine Sub.cons (by repeat (first | with_reducible exact Ext.here | with_reducible apply Ext.there)) ?_ | with_reducible refine Sub.tail ?_))) | exact hnorm.go true (Rs0 rfl) (by simp only [List.cons_append, List.nil_append, cond_true]; repeat (first | with_reducible exact Sub.refl | with_reducible exact Sub.nil | with_reducible refine Sub.cons (by repeat (first | with_reducible exact Ext.here | with_reducible apply Ext.there)) ?_ | with_reducible refine Sub.tail ?_))
  · try simp only [decide_eq_true_eq, decide_eq_false_iff_not, Bool.not_eq_true', Bool.not_eq_false', Bool.not_eq_true, Bool.not_eq_false, Int.not_lt, Int.not_le, Nat.not_lt, Nat.not_le, Decidable.not_not, ne_eq] at hc1
    rw [pick_pos h1 (by omega)]
    refine WC_skip ?_
    refine Ps_next hK5 ?_
    refine WC_sr fun K15 hK15 => ?_
    refine WL_rd (Rd_load rfl tk3) rfl rfl rfl ?_
    refine WL_rd (Rd_move rfl) rfl rfl rfl ?_
    refine WL_end hK15 ?_
    refine WC_block ?_
    refine WC_loopK (σ := Nat) (fun i' => [(27, .int .i64 ((i' : Nat) : Int))]) (fun i' => [Y i']) (fun i' => i' ≤ n) (fun i' => n - i') (0) [0, 2, 5, 7, 26] (by repeat (first | exact Kep.nil | apply Kep.drop rfl | apply Kep.keep rfl)) (by (try dsimp only); repeat (first | with_reducible exact Gv.nil | (with_reducible apply Gv.cons; · (repeat (first | with_reducible exact Ext.here | with_reducible apply Ext.there))))) ?_ ?_ Sub.refl ?_
    · exact Nat.zero_le _
    · (try dsimp only); exact (Wk.cons (by first | rfl | (simp only [List.length_append, List.length_cons, List.length_nil, List.length_replicate, Nat.zero_add]; rfl) | (simp; done)) Wk.nil)
    · rintro i' hi K16 hK16
      simp only [List.cons_append, List.nil_append]
      refine WC_sr fun K17 hK17 => ?_
      refine WL_rd (Rd_lssN rfl rfl) rfl rfl rfl ?_
      refine WL_end hK17 ?_
      refine WC_seq fun K18 hK18 => ?_
      refine WC_cond rfl (fun hc2 => ?_) (fun hc2 => ?_)
      · try simp only [decide_eq_true_eq, decide_eq_false_iff_not, Bool.not_eq_true', Bool.not_eq_false', Bool.not_eq_true, Bool.not_eq_false, Int.not_lt, Int.not_le, Nat.not_lt, Nat.not_le, Decidable.not_not, ne_eq] at hc2
        have hmod : ((pickN f n + i') % n) < n := Nat.mod_lt _ (by omega)
        refine WC_skip ?_
        refine Ps_next hK18 ?_
        refine WC_seq fun K19 hK19 => ?_
        refine WC_block ?_
        refine WC_sr fun K20 hK20 => ?_
        refine WL_rd (Rd_move rfl) rfl rfl rfl ?_
        refine WL_rd (Rd_assign rfl) rfl rfl rfl ?_
        refine WL_end hK20 ?_
        refine WC_sr fun K21 hK21 => ?_
        refine WL_rd (Rd_move rfl) rfl rfl rfl ?_
        refine WL_rd (Rd_move rfl) rfl rfl rfl ?_
        refine WL_rd (Rd_add' rfl rfl (wr64 rfl (by omega) (by omega))) rfl rfl rfl ?_
        refine WL_rd (Rd_load rfl tk3) rfl rfl rfl ?_
        first | refine WL_rd (Rd_remN rfl rfl) rfl rfl rfl ?_ | refine WL_rd (Rd_rem' rfl rfl (by omega) rfl) rfl rfl rfl ?_
        refine WL_rd (Rd_assign rfl) rfl rfl rfl ?_
        refine WL_end hK21 ?_
        refine WC_sr fun K22 hK22 => ?_
        refine WL_rd (Rd_move rfl) rfl rfl rfl ?_
        refine WL_rd (Rd_move rfl) rfl rfl rfl ?_
        refine WL_rd (Rd_move rfl) rfl rfl rfl ?_
        refine WL_rd (Rd_move rfl) rfl rfl rfl ?_
        refine WL_rd (Rd_index ((pickN f n + i') % n) rfl rfl ud101 sz3 (hi := by omega)) rfl rfl rfl ?_
        refine WL_rd (Rd_load_arr (i := ((pickN f n + i') % n)) (j := 0) rfl tk3 (hl := at_N (by omega))) rfl rfl rfl ?_
        refine WL_imp (fun w h => sat_lend (hX' i') (by repeat (first | with_reducible exact Ext.here | with_reducible apply Ext.there)) (by repeat (first | with_reducible exact Ext.here | with_reducible apply Ext.there)) (by repeat (first | with_reducible exact Ext.here | with_reducible apply Ext.there)) (by repeat (first | with_reducible exact Ext.here | with_reducible apply Ext.there)) h) ?_
        refine WL_ac (Ac_yield rfl rfl (hy i' (by omega))) rfl rfl rfl ?_
        rintro _ _ ⟨b', rfl, hA⟩
        simp only [List.cons_append, List.nil_append] at hA
        replace hA := hA.symm
        subst hA
        refine WL_rd (Rd_not rfl) rfl rfl rfl ?_
        refine WL_end hK22 ?_
        refine WC_cond rfl (fun hc3 => ?_) (fun hc3 => ?_)
        · try simp only [decide_eq_true_eq, decide_eq_false_iff_not, Bool.not_eq_true', Bool.not_eq_false', Bool.not_eq_true, Bool.not_eq_false, Int.not_lt, Int.not_le, Nat.not_lt, Nat.not_le, Decidable.not_not, ne_eq] at hc3
          obtain rfl : b' = false := by revert hc3; cases b' <;> simp
          simp only [cond_false]
          have hstop : True := trivial
          refine WC_ret ?_
          first | (have := hstop; exact hret.go false (Rs0 rfl) (by simp only [List.cons_append, List.nil_append, cond_false]; repeat (first | with_reducible exact Sub.refl | with_reducible exact Sub.nil | with_reducible refine Sub.cons (by repeat (first | with_reducible exact Ext.here | with_reducible apply Ext.there)) ?_ | with_reducible refine Sub.tail ?_))) | exact hret.go true (Rs0 rfl) (by simp only [List.cons_append, List.nil_append, cond_true]; repeat (first | with_reducible exact Sub.refl | with_reducible exact Sub.nil | with_reducible refine Sub.cons (by repeat (first | with_reducible exact Ext.here | with_reducible apply Ext.there)) ?_ | with_reducible refine Sub.tail ?_))
        · try simp only [decide_eq_true_eq, decide_eq_false_iff_not, Bool.not_eq_true', Bool.not_eq_false', Bool.not_eq_true, Bool.not_eq_false, Int.not_lt, Int.not_le, Nat.not_lt, Nat.not_le, Decidable.not_not, ne_eq] at hc3
          obtain rfl : b' = true := by revert hc3; cases b' <;> simp
          simp only [cond_true]
          refine WC_imp (fun w h => hX (i' + 1) _ w h) ?_
          refine WC_skip ?_
          refine Ps_next hK19 ?_
          refine WC_region ?_
          refine WL_rd (Rd_addN (j := 1) rfl rfl) rfl rfl rfl ?_
          refine WL_rd (Rd_move rfl) rfl rfl rfl ?_
          refine WL_nil ?_
          refine Ps_wk (by (try simp only [List.cons_append, List.nil_append]); repeat (first | with_reducible exact Wk.nil | refine Wk.cons (by first | rfl | (simp only [List.length_append, List.length_cons, List.length_nil, List.length_replicate, Nat.zero_add]; rfl) | (simp; done)) ?_)) (by (try simp only [List.cons_append, List.nil_append]); repeat (first | with_reducible exact Sub.refl | with_reducible exact Sub.nil | with_reducible refine Sub.cons (by repeat (first | with_reducible exact Ext.here | with_reducible apply Ext.there)) ?_ | with_reducible refine Sub.tail ?_)) (hK16 (i' + 1) (by omega) (by omega))
      · try simp only [decide_eq_true_eq, decide_eq_false_iff_not, Bool.not_eq_true', Bool.not_eq_false', Bool.not_eq_true, Bool.not_eq_false, Int.not_lt, Int.not_le, Nat.not_lt, Nat.not_le, Decidable.not_not, ne_eq] at hc2
        obtain rfl : i' = n := by omega
        refine WC_imp (fun w h => sat_lend (hX' _) (by repeat (first | with_reducible exact Ext.here | with_reducible apply Ext.there)) (by repeat (first | with_reducible exact Ext.here | with_reducible apply Ext.there)) (by repeat (first | with_reducible exact Ext.here | with_reducible apply Ext.there)) (by repeat (first | with_reducible exact Ext.here | with_reducible apply Ext.there)) h) ?_
        refine WC_exit ?_
        first | (have := hstop; exact hnorm.go false (Rs0 rfl) (by simp only [List.cons_append, List.nil_append, cond_false]; repeat (first | with_reducible exact Sub.refl | with_reducible exact Sub.nil | with_reducible refine Sub.cons (by repeat (first | with_reducible exact Ext.here | with_reducible apply Ext.there)) ?_ | with_reducible refine Sub.tail ?_))) | exact hnorm.go true (Rs0 rfl) (by simp only [List.cons_append, List.nil_append, cond_true]; repeat (first | with_reducible exact Sub.refl | with_reducible exact Sub.nil | with_reducible refine Sub.cons (by repeat (first | with_reducible exact Ext.here | with_reducible apply Ext.there)) ?_ | with_reducible refine Sub.tail ?_))
end Go.Proofs.Ythkchjcodibaeaa
namespace Go.Proofs.Ythkchjcodibaeaa
open Go.RowKit Go.SL Go.ShM
set_option maxHeartbeats 1000000
set_option maxRecDepth 20000
set_option linter.all false
theorem cf70 : cfn Try.prog 70 = true := by kernel_rfl
theorem cf73 : cfn Try.prog 73 = true := by kernel_rfl
theorem cf76 : cfn Try.prog 76 = true := by kernel_rfl
theorem cf131 : cfn Try.prog 131 = true := by kernel_rfl
theorem pls120 : pls Try.prog 120 = some ([.int .u8 0, .int .u8 0, .int .u8 0, .int .u8 0, .int .u8 0, .int .u8 0, .int .u8 0, .int .u8 0, .int .u8 0, .int .u8 0, .int .u8 0, .int .u8 0, .int .u8 0, .int .u8 0, .int .u8 0, .int .u8 0], [(0, 1), (1, 1), (2, 1), (3, 1), (4, 1), (5, 1), (6, 1), (7, 1), (8, 1), (9, 1), (10, 1), (11, 1), (12, 1), (13, 1), (14, 1), (15, 1)]) := by kernel_rfl
theorem sz4 : sz Try.prog 4 = some 1 := by kernel_rfl
theorem sz120 : sz Try.prog 120 = some 16 := by kernel_rfl
theorem zr4 : zr Try.prog 4 = some [.bool false] := by kernel_rfl
theorem zr120 : zr Try.prog 120 = some [.int .u8 0, .int .u8 0, .int .u8 0, .int .u8 0, .int .u8 0, .int .u8 0, .int .u8 0, .int .u8 0, .int .u8 0, .int .u8 0, .int .u8 0, .int .u8 0, .int .u8 0, .int .u8 0, .int .u8 0, .int .u8 0] := by kernel_rfl
theorem rgAwake_ct   : Ct Try.prog 70 [] [] (fun _ : Unit => .bool true) (fun _ => []) := by
  refine Ct_body (n := 21) Try.func70 rfl rfl rfl fun F w0 Q hret hnorm hp => ?_
  change WC _ _ _ _ _ _ _ (F)
  have hx7 : ([7#8, 0#8, 0#8, 0#8, 0#8, 0#8, 0#8, 0#8, 0#8, 0#8, 0#8, 0#8, 0#8, 0#8, 0#8, 0#8] : List B8).length = 16 := rfl
  have hol := ordL_len (ringD [7#8, 0#8, 0#8, 0#8, 0#8, 0#8, 0#8, 0#8, 0#8, 0#8, 0#8, 0#8, 0#8, 0#8, 0#8, 0#8]) 1
  have ho0 : (ordL (ringD [7#8, 0#8, 0#8, 0#8, 0#8, 0#8, 0#8, 0#8, 0#8, 0#8, 0#8, 0#8, 0#8, 0#8, 0#8, 0#8]) 1).getD 0 0 = 0 := by obtain ⟨s, hs, hl⟩ := ordL_at (d := ringD [7#8, 0#8, 0#8, 0#8, 0#8, 0#8, 0#8, 0#8, 0#8, 0#8, 0#8, 0#8, 0#8, 0#8, 0#8, 0#8]) (n := 1) (i := 0) (by omega); rw [List.getD_eq_getElem?_getD, hs]; show s = 0; omega
  refine WC_sr fun K1 hK1 => ?_
  refine WL_rd (Rd_assign rfl) rfl rfl rfl ?_
  refine WL_end hK1 ?_
  refine WC_sr fun K2 hK2 => ?_
  refine WL_rd (Rd_aU (k := .u8) (l := [7#8, 0#8, 0#8, 0#8, 0#8, 0#8, 0#8, 0#8, 0#8, 0#8, 0#8, 0#8, 0#8, 0#8, 0#8, 0#8]) (Rd_build pls120 rfl) (by rfl)) rfl rfl rfl ?_
  refine WL_ac (Ac_call cf71 rfl (hs := order_ct (x := [7#8, 0#8, 0#8, 0#8, 0#8, 0#8, 0#8, 0#8, 0#8, 0#8, 0#8, 0#8, 0#8, 0#8, 0#8, 0#8]) (n := 1))) rfl rfl rfl ?_
  rintro _ _ ⟨og, rfl, hA⟩
  simp only [List.cons_append, List.nil_append] at hA
  replace hA := hA.symm
  subst hA
  refine WL_rd (Rd_move rfl) rfl rfl rfl ?_
  refine WL_rd (Rd_ext0 rfl) rfl rfl rfl ?_
  refine WL_rd (Rd_ext1 rfl) rfl rfl rfl ?_
  refine WL_rd (Rd_assign rfl) rfl rfl rfl ?_
  refine WL_rd (Rd_assign rfl) rfl rfl rfl ?_
  refine WL_end hK2 ?_
  refine WC_sr fun K3 hK3 => ?_
  refine WL_rd (Rd_move rfl) rfl rfl rfl ?_
  refine WL_rd (Rd_eqlN (i := 0) (j := 0) rfl rfl) rfl rfl rfl ?_
  refine WL_rd (Rd_move rfl) rfl rfl rfl ?_
  refine WL_rd (Rd_move rfl) rfl rfl rfl ?_
  refine WL_rd (Rd_len rfl rfl ud101) rfl rfl rfl ?_
  refine WL_rd (Rd_isT (Rd_eqlN (j := 1) rfl rfl)) rfl rfl rfl ?_
  refine WL_rd (Rd_pickT rfl rfl) rfl rfl rfl ?_
  refine WL_rd (Rd_move rfl) rfl rfl rfl ?_
  refine WL_rd (Rd_move rfl) rfl rfl rfl ?_
  refine WL_rd (Rd_index 0 rfl rfl ud101 sz3) rfl rfl rfl ?_
  refine WL_rd (Rd_load_arr (i := 0) (j := 0) rfl tk3 (hl := at_N (by omega))) rfl rfl rfl ?_
  refine WL_rd (Rd_isT (Rd_eqlN (j := 0) rfl rfl)) rfl rfl rfl ?_
  refine WL_rd (Rd_pickT rfl rfl) rfl rfl rfl ?_
  refine WL_rd (Rd_assign rfl) rfl rfl rfl ?_
  refine WL_end hK3 ?_
  refine WC_ret ?_
  exact hret.go () (Rs1 rfl rfl)

theorem Known_ct   : Ct Try.prog 22 [] [] (fun _ : Unit => .bool true) (fun _ => []) := by
  refine Ct_body (n := 66) Try.func22 rfl rfl rfl fun F w0 Q hret hnorm hp => ?_
  change WC _ _ _ _ _ _ _ (F)
  have hx1 : ([1#8, 2#8, 3#8, 0#8, 0#8, 0#8, 0#8, 0#8, 0#8, 0#8, 0#8, 0#8, 0#8, 0#8, 0#8, 0#8] : List B8).length = 16 := rfl
  refine WC_sr fun K1 hK1 => ?_
  refine WL_ac (Ac_alloc zr4) rfl rfl rfl ?_
  rintro _ _ ⟨b0, rfl, rfl⟩
  refine WL_end hK1 ?_
  refine WC_sr fun K2 hK2 => ?_
  refine WL_rd (Rd_aU (k := .u8) (l := [1#8, 2#8, 3#8, 0#8, 0#8, 0#8, 0#8, 0#8, 0#8, 0#8, 0#8, 0#8, 0#8, 0#8, 0#8, 0#8]) (Rd_build pls120 rfl) (by rfl)) rfl rfl rfl ?_
  refine WL_ac (Ac_allocW (k := .u8) (w := 8) (m := 16) zr120) rfl rfl rfl ?_
  rintro _ _ ⟨b1, rfl, rfl⟩
  refine WL_ac0 (Ac_storeW rfl rfl sz120) rfl rfl ?_
  rintro _ _ rfl
  refine WL_end hK2 ?_
  refine WC_sr fun K3 hK3 => ?_
  refine WL_rd (Rd_loadW rfl tk120) rfl rfl rfl ?_
  refine WL_ac (Ac_call cf71 rfl (hs := orderN_ct (x := [1#8, 2#8, 3#8, 0#8, 0#8, 0#8, 0#8, 0#8, 0#8, 0#8, 0#8, 0#8, 0#8, 0#8, 0#8, 0#8]) (n := 0) (hb := by omega))) rfl rfl rfl ?_
  rintro _ _ ⟨⟨⟩, rfl, hA⟩
  simp only [List.cons_append, List.nil_append] at hA
  replace hA := hA.symm
  subst hA
  refine WL_rd (Rd_move rfl) rfl rfl rfl ?_
  refine WL_rd (Rd_ext0 rfl) rfl rfl rfl ?_
  refine WL_rd (Rd_ext1 rfl) rfl rfl rfl ?_
  refine WL_rd (Rd_assign rfl) rfl rfl rfl ?_
  refine WL_rd (Rd_assign rfl) rfl rfl rfl ?_
  refine WL_end hK3 ?_
  refine WC_sr fun K4 hK4 => ?_
  refine WL_rd (Rd_loadW rfl tk120) rfl rfl rfl ?_
  refine WL_ac (Ac_call cf71 rfl (hs := orderN_ct (x := [1#8, 2#8, 3#8, 0#8, 0#8, 0#8, 0#8, 0#8, 0#8, 0#8, 0#8, 0#8, 0#8, 0#8, 0#8, 0#8]) (n := 33) (hb := by omega))) rfl rfl rfl ?_
  rintro _ _ ⟨⟨⟩, rfl, hA⟩
  simp only [List.cons_append, List.nil_append] at hA
  replace hA := hA.symm
  subst hA
  refine WL_rd (Rd_move rfl) rfl rfl rfl ?_
  refine WL_rd (Rd_ext0 rfl) rfl rfl rfl ?_
  refine WL_rd (Rd_ext1 rfl) rfl rfl rfl ?_
  refine WL_rd (Rd_assign rfl) rfl rfl rfl ?_
  refine WL_rd (Rd_assign rfl) rfl rfl rfl ?_
  refine WL_end hK4 ?_
  refine WC_sr fun K5 hK5 => ?_
  refine WL_rd (Rd_loadW rfl tk120) rfl rfl rfl ?_
  refine WL_ac (Ac_call cf73 rfl (hs := rankB_ct (x := [1#8, 2#8, 3#8, 0#8, 0#8, 0#8, 0#8, 0#8, 0#8, 0#8, 0#8, 0#8, 0#8, 0#8, 0#8, 0#8]) (n := 3) (s := 3))) rfl rfl rfl ?_
  rintro _ _ ⟨⟨⟩, rfl, hA⟩
  simp only [List.cons_append, List.nil_append] at hA
  replace hA := hA.symm
  subst hA
  refine WL_rd (Rd_move rfl) rfl rfl rfl ?_
  refine WL_rd (Rd_ext0 rfl) rfl rfl rfl ?_
  refine WL_rd (Rd_ext1 rfl) rfl rfl rfl ?_
  refine WL_rd (Rd_assign rfl) rfl rfl rfl ?_
  refine WL_rd (Rd_assign rfl) rfl rfl rfl ?_
  refine WL_end hK5 ?_
  refine WC_sr fun K6 hK6 => ?_
  refine WL_rd (Rd_loadW rfl tk120) rfl rfl rfl ?_
  refine WL_ac (Ac_call cf73 rfl (hs := rankB_ct (x := [1#8, 2#8, 3#8, 0#8, 0#8, 0#8, 0#8, 0#8, 0#8, 0#8, 0#8, 0#8, 0#8, 0#8, 0#8, 0#8]) (n := 3) (s := -1))) rfl rfl rfl ?_
  rintro _ _ ⟨⟨⟩, rfl, hA⟩
  simp only [List.cons_append, List.nil_append] at hA
  replace hA := hA.symm
  subst hA
  refine WL_rd (Rd_move rfl) rfl rfl rfl ?_
  refine WL_rd (Rd_ext0 rfl) rfl rfl rfl ?_
  refine WL_rd (Rd_ext1 rfl) rfl rfl rfl ?_
  refine WL_rd (Rd_assign rfl) rfl rfl rfl ?_
  refine WL_rd (Rd_assign rfl) rfl rfl rfl ?_
  refine WL_end hK6 ?_
  refine WC_sr fun K7 hK7 => ?_
  refine WL_rd (Rd_loadW rfl tk120) rfl rfl rfl ?_
  refine WL_ac (Ac_call cf76 rfl (hs := rgRound_ct (x := [1#8, 2#8, 3#8, 0#8, 0#8, 0#8, 0#8, 0#8, 0#8, 0#8, 0#8, 0#8, 0#8, 0#8, 0#8, 0#8]) (n := 0) (f := 5))) rfl rfl rfl ?_
  rintro _ _ ⟨⟨ra, rb, rc⟩, rfl, hA⟩
  simp only [List.cons_append, List.nil_append] at hA
  replace hA := hA.symm
  subst hA
  refine WL_rd (Rd_assign rfl) rfl rfl rfl ?_
  refine WL_end hK7 ?_
  refine WC_seq fun K8 hK8 => ?_
  refine WC_sr fun K9 hK9 => ?_
  refine WL_ac (Ac_call cf70 rfl (hs := rgAwake_ct)) rfl rfl rfl ?_
  rintro _ _ ⟨⟨⟩, rfl, hA⟩
  simp only [List.cons_append, List.nil_append] at hA
  replace hA := hA.symm
  subst hA
  refine WL_rd (Rd_not rfl) rfl rfl rfl ?_
  refine WL_rd (Rd_move rfl) rfl rfl rfl ?_
  refine WL_rd (Rd_move rfl) rfl rfl rfl ?_
  refine WL_rd (Rd_neqN (i := 2) (j := 2) rfl rfl) rfl rfl rfl ?_
  refine WL_rd (Rd_pickF rfl rfl) rfl rfl rfl ?_
  refine WL_rd (Rd_move rfl) rfl rfl rfl ?_
  refine WL_rd (Rd_move rfl) rfl rfl rfl ?_
  refine WL_rd (Rd_neqN (i := 2) (j := 2) rfl rfl) rfl rfl rfl ?_
  refine WL_rd (Rd_pickF rfl rfl) rfl rfl rfl ?_
  refine WL_rd (Rd_move rfl) rfl rfl rfl ?_
  refine WL_rd (Rd_move rfl) rfl rfl rfl ?_
  refine WL_rd (Rd_neqN (i := 2) (j := 2) rfl rfl) rfl rfl rfl ?_
  refine WL_rd (Rd_pickF rfl rfl) rfl rfl rfl ?_
  refine WL_rd (Rd_move rfl) rfl rfl rfl ?_
  refine WL_rd (Rd_move rfl) rfl rfl rfl ?_
  refine WL_rd (Rd_neqN (i := 2) (j := 2) rfl rfl) rfl rfl rfl ?_
  refine WL_rd (Rd_pickF rfl rfl) rfl rfl rfl ?_
  refine WL_rd (Rd_move rfl) rfl rfl rfl ?_
  refine WL_rd (Rd_move rfl) rfl rfl rfl ?_
  first | refine WL_rd (Rd_feq rfl rfl Try.underlying129) rfl rfl rfl ?_ | refine WL_rd (Rd_feq0 rfl rfl Try.underlying129) rfl rfl rfl ?_
  refine WL_rd (Rd_pickF rfl rfl) rfl rfl rfl ?_
  refine WL_end hK9 ?_
  refine WC_condF rfl ?_
  refine WC_skip ?_
  refine Ps_next hK8 ?_
  refine WC_seq fun K10 hK10 => ?_
  refine WC_sr fun K11 hK11 => ?_
  refine WL_rd (Rd_move rfl) rfl rfl rfl ?_
  refine WL_end hK11 ?_
  refine WC_block ?_
  refine WC_rf (f := 131) (caps := [.pointer (some ⟨ra, 0, none⟩), .pointer (some ⟨rb, 0, none⟩), .pointer (some ⟨rc, 0, none⟩)]) rfl cf131 fun lrf_0 Drf_0 rrf_0 hstrf_0 hpdrf_0 hparf_0 hasrf_0 hbdrf_0 hfrrf_0 => ?_
  have hyrf_0 : ∀ (_u : Unit) (p q : Int), False → Yd Try.prog lrf_0 [.int .i64 p, .int .i64 q] [(fun (_i : Unit) => exA (fun (_u : Unit) => True) (fun (_u : Unit) => [lp lrf_0 rrf_0])) ()] (fun b : Bool => .bool b) (fun b => [bif b then (fun (_i : Unit) => exA (fun (_u : Unit) => True) (fun (_u : Unit) => [lp lrf_0 rrf_0])) (()) else (exA (fun _ : Unit => False) (fun _ => []))]) := by
    intro _u p q hno
    exact hno.elim
  refine ⟨_, _, _, _, _, (rgRoundN_ct (x := [1#8, 2#8, 3#8, 0#8, 0#8, 0#8, 0#8, 0#8, 0#8, 0#8, 0#8, 0#8, 0#8, 0#8, 0#8, 0#8]) (n := 0) (f := 5) (hb := by omega)).frame [(fun (_i : Unit) => exA (fun (_u : Unit) => True) (fun (_u : Unit) => [lp lrf_0 rrf_0])) ()], imp_rf (Y := [_, _, _]) ((())) (trivial) (by repeat (first | with_reducible exact Gv.nil | (with_reducible apply Gv.cons; · (repeat (first | with_reducible exact Ext.here | with_reducible apply Ext.there))))) (by (try dsimp only); repeat (first | with_reducible exact Gv.nil | (with_reducible apply Gv.cons; · (repeat (first | with_reducible exact Ext.here | with_reducible apply Ext.there))))), ?_⟩
  · rintro ⟨⟩
    · simp only [List.cons_append, List.nil_append, cond_true, cond_false]
      refine RfEnd_ex ?_
      rintro _u hφ
      simp only [List.cons_append, List.nil_append]
      refine RfEnd_nrm hstrf_0 hpdrf_0 ?_
      refine Ps_next hK10 ?_
      refine WC_sr fun K12 hK12 => ?_
      refine WL_ac0 (Ac_store1 rfl rfl sz4) rfl rfl ?_
      rintro _ _ rfl
      refine WL_end hK12 ?_
      refine WC_ret ?_
      refine hret.goD () ?_
      exact Rs1cs rfl rfl tk4
end Go.Proofs.Ythkchjcodibaeaa
