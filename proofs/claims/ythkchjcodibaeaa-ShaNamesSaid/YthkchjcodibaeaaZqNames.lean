/-
  Contracts of functions that the claim reaches, or the logic and the plain laws that they rest on, or the row over them. (Conditions: none beyond the statement.)
-/
import Derived.Test.YthkchjcodibaeaaZqMixes
import Derived.Test.YthkchjcodibaeaaLibB
set_option linter.all false
namespace Go.Proofs.Ythkchjcodibaeaa
open Go.RowKit Go.SL Go.ShM
set_option maxHeartbeats 1000000
set_option maxRecDepth 20000
set_option linter.all false
theorem ud5 : Try.prog.underlying 5 = some (.int .u8) := by kernel_rfl
theorem RdP_nil (A : List Asn) : RdP A ⟨[], none, 0⟩ := ⟨rfl, fun h => absurd rfl h, fun x hx => by simp at hx, Nat.le_refl _, fun w _ i x hx => by simp at hx⟩
theorem Sv_nil (A : List Asn) : Sv A (sl none 0 0) 1 fP ([] : List Pt) none 0 := ⟨rfl, fun h => absurd rfl h, fun x hx => by simp at hx, Nat.le_refl _, fun w _ i x hx => by simp at hx⟩
theorem sum0_ct : Ct Try.prog 34 [sl none 0 0] [] (fun _ : Unit => aU .u8 (dgM [])) (fun _ => []) :=
  Ct.un (Xs := []) (sum_ct (X := sep []) (ps := []) (hS := Sv_nil _) (hP := fun p h => by simp at h) (hn := by show 0 ≤ _; omega) (hk := by show 0 ≤ _; omega))
def m56 : List B8 := [97#8, 98#8, 99#8, 100#8, 98#8, 99#8, 100#8, 101#8, 99#8, 100#8, 101#8, 102#8, 100#8, 101#8, 102#8, 103#8, 101#8, 102#8, 103#8, 104#8, 102#8, 103#8, 104#8, 105#8, 103#8, 104#8, 105#8, 106#8, 104#8, 105#8, 106#8, 107#8, 105#8, 106#8, 107#8, 108#8, 106#8, 107#8, 108#8, 109#8, 107#8, 108#8, 109#8, 110#8, 108#8, 109#8, 110#8, 111#8, 109#8, 110#8, 111#8, 112#8, 110#8, 111#8, 112#8, 113#8]
theorem m56_len : m56.length = 56 := rfl
theorem dg_nil : dgM [] = [227#8, 176#8, 196#8, 66#8, 152#8, 252#8, 28#8, 20#8, 154#8, 251#8, 244#8, 200#8, 153#8, 111#8, 185#8, 36#8, 39#8, 174#8, 65#8, 228#8, 100#8, 155#8, 147#8, 76#8, 164#8, 149#8, 153#8, 27#8, 120#8, 82#8, 184#8, 85#8] := by rw [← dgF_eq]; decide +kernel
theorem dg_56 : dgM m56 = [36#8, 141#8, 106#8, 97#8, 210#8, 6#8, 56#8, 184#8, 229#8, 192#8, 38#8, 147#8, 12#8, 62#8, 96#8, 57#8, 163#8, 60#8, 228#8, 89#8, 100#8, 255#8, 33#8, 103#8, 246#8, 236#8, 237#8, 212#8, 25#8, 219#8, 6#8, 193#8] := by rw [← dgF_eq]; decide +kernel

theorem Names_ct   : Ct Try.prog 6 [] [] (fun _ : Unit => .bool true) (fun _ => []) := by
  refine Ct_body (n := 62) Try.func6 rfl rfl rfl fun F w0 Q hret hnorm hp => ?_
  change WC _ _ _ _ _ _ _ (F)
  have hdn := dgM_len []
  have hd3 := dgM_len [97#8, 98#8, 99#8]
  have hd56 := dgM_len m56
  have hm56 := m56_len
  refine WC_sr fun K1 hK1 => ?_
  refine WL_rd (Rd_assign rfl) rfl rfl rfl ?_
  refine WL_end hK1 ?_
  refine WC_sr fun K2 hK2 => ?_
  refine WL_ac (Ac_call cf34 rfl (hs := sum0_ct)) rfl rfl rfl ?_
  rintro _ _ ⟨⟨⟩, rfl, hA⟩
  simp only [List.cons_append, List.nil_append] at hA
  replace hA := hA.symm
  subst hA
  refine WL_ac (Ac_allocW (k := .u8) (w := 8) (m := 32) zr42) rfl rfl rfl ?_
  rintro _ _ ⟨b1, rfl, rfl⟩
  refine WL_ac0 (Ac_storeW rfl rfl sz42) rfl rfl ?_
  rintro _ _ rfl
  refine WL_end hK2 ?_
  refine WC_sr fun K3 hK3 => ?_
  refine WL_ac (Ac_bsL (f := (eU .u8 (w := 8))) (zs := [.int .u8 0]) (bs := [.int .u8 0]) [97#8] (encU .u8) ud32 zr5 sz5 rfl (by rw [Array.toList_map, Array.toList_range]; rfl) (by rfl) (by rfl) (by rfl) (by rfl)) rfl rfl rfl ?_
  rintro _ _ ⟨b5, rfl, rfl⟩
  refine WL_ac (Ac_bsL (f := (eU .u8 (w := 8))) (zs := [.int .u8 0]) (bs := [.int .u8 0, .int .u8 0]) [98#8, 99#8] (encU .u8) ud32 zr5 sz5 rfl (by rw [Array.toList_map, Array.toList_range]; rfl) (by rfl) (by rfl) (by rfl) (by rfl)) rfl rfl rfl ?_
  rintro _ _ ⟨b6, rfl, rfl⟩
  refine WL_ac (Ac_bsL (f := fP) (zs := [.slice none 0 0]) (bs := [.slice none 0 0, .slice none 0 0, .slice none 0 0]) [(⟨[97#8], some ⟨b5, 0, none⟩, 1⟩ : Pt), (⟨[], none, 0⟩ : Pt), (⟨[98#8, 99#8], some ⟨b6, 0, none⟩, 2⟩ : Pt)] encP ud27 zr32 sz32 rfl (by rw [Array.toList_map, Array.toList_range]; rfl) (by rfl) (by rfl) (by rfl) (by rfl)) rfl rfl rfl ?_
  rintro _ _ ⟨b7, rfl, rfl⟩
  have hA5 : RdP [arr (some b5) 1 1 5 (eU .u8) [97#8]] (⟨[97#8], some ⟨b5, 0, none⟩, 1⟩ : Pt) := Sv_own' (a := some b5) (cap := 1) (T := 5) (encU .u8 (w := 8)) (l := [97#8]) (by simp) (Nat.le_refl 1)
  have hC6 : RdP [arr (some b6) 2 1 5 (eU .u8) [98#8, 99#8]] (⟨[98#8, 99#8], some ⟨b6, 0, none⟩, 2⟩ : Pt) := Sv_own' (a := some b6) (cap := 2) (T := 5) (encU .u8 (w := 8)) (l := [98#8, 99#8]) (by simp) (Nat.le_refl 2)
  have h7 : Sv [arr (some b7) 3 1 32 fP [(⟨[97#8], some ⟨b5, 0, none⟩, 1⟩ : Pt), (⟨[], none, 0⟩ : Pt), (⟨[98#8, 99#8], some ⟨b6, 0, none⟩, 2⟩ : Pt)]] (sl (some b7) 3 3) 1 fP [(⟨[97#8], some ⟨b5, 0, none⟩, 1⟩ : Pt), (⟨[], none, 0⟩ : Pt), (⟨[98#8, 99#8], some ⟨b6, 0, none⟩, 2⟩ : Pt)] (some ⟨b7, 0, none⟩) 3 := Sv_own' (a := some b7) (cap := 3) (T := 32) encP (l := [(⟨[97#8], some ⟨b5, 0, none⟩, 1⟩ : Pt), (⟨[], none, 0⟩ : Pt), (⟨[98#8, 99#8], some ⟨b6, 0, none⟩, 2⟩ : Pt)]) (by simp) (Nat.le_refl 3)
  have hj3 : joinP [(⟨[97#8], some ⟨b5, 0, none⟩, 1⟩ : Pt), (⟨[], none, 0⟩ : Pt), (⟨[98#8, 99#8], some ⟨b6, 0, none⟩, 2⟩ : Pt)] = [97#8, 98#8, 99#8] := rfl
  refine WL_ac (Ac_call cf34 rfl (hs := Ct.un0 (Xs := [arr (some b7) 3 1 32 fP [(⟨[97#8], some ⟨b5, 0, none⟩, 1⟩ : Pt), (⟨[], none, 0⟩ : Pt), (⟨[98#8, 99#8], some ⟨b6, 0, none⟩, 2⟩ : Pt)], arr (some b6) 2 1 5 (eU .u8) [98#8, 99#8], arr (some b5) 1 1 5 (eU .u8) [97#8]]) (sum_ct (X := sep [arr (some b7) 3 1 32 fP [(⟨[97#8], some ⟨b5, 0, none⟩, 1⟩ : Pt), (⟨[], none, 0⟩ : Pt), (⟨[98#8, 99#8], some ⟨b6, 0, none⟩, 2⟩ : Pt)], arr (some b6) 2 1 5 (eU .u8) [98#8, 99#8], arr (some b5) 1 1 5 (eU .u8) [97#8]]) (ps := [(⟨[97#8], some ⟨b5, 0, none⟩, 1⟩ : Pt), (⟨[], none, 0⟩ : Pt), (⟨[98#8, 99#8], some ⟨b6, 0, none⟩, 2⟩ : Pt)]) (hS := h7.pk (by repeat (first | with_reducible exact Has.here | with_reducible refine Has.there ?_))) (hP := List.forall_mem_cons.2 ⟨hA5.pk (by repeat (first | with_reducible exact Has.here | with_reducible refine Has.there ?_)), List.forall_mem_cons.2 ⟨RdP_nil _, List.forall_mem_cons.2 ⟨hC6.pk (by repeat (first | with_reducible exact Has.here | with_reducible refine Has.there ?_)), by simp⟩⟩⟩) (hn := by rw [hj3]; show 3 ≤ _; omega) (hk := by show 3 ≤ _; omega)))) rfl rfl rfl ?_
  rintro _ _ ⟨⟨⟩, rfl, hA⟩
  simp only [List.cons_append, List.nil_append] at hA
  replace hA := hA.symm
  subst hA
  rw [hj3]
  refine WL_ac (Ac_allocW (k := .u8) (w := 8) (m := 32) zr42) rfl rfl rfl ?_
  rintro _ _ ⟨b2, rfl, rfl⟩
  refine WL_ac0 (Ac_storeW rfl rfl sz42) rfl rfl ?_
  rintro _ _ rfl
  refine WL_end hK3 ?_
  refine WC_sr fun K4 hK4 => ?_
  refine WL_ac (Ac_bsL (f := (eU .u8 (w := 8))) (zs := [.int .u8 0]) (bs := [.int .u8 0, .int .u8 0, .int .u8 0, .int .u8 0, .int .u8 0, .int .u8 0, .int .u8 0, .int .u8 0, .int .u8 0, .int .u8 0, .int .u8 0, .int .u8 0, .int .u8 0, .int .u8 0, .int .u8 0, .int .u8 0, .int .u8 0, .int .u8 0, .int .u8 0, .int .u8 0, .int .u8 0, .int .u8 0, .int .u8 0, .int .u8 0, .int .u8 0, .int .u8 0, .int .u8 0, .int .u8 0, .int .u8 0, .int .u8 0, .int .u8 0, .int .u8 0, .int .u8 0, .int .u8 0, .int .u8 0, .int .u8 0, .int .u8 0, .int .u8 0, .int .u8 0, .int .u8 0, .int .u8 0, .int .u8 0, .int .u8 0, .int .u8 0, .int .u8 0, .int .u8 0, .int .u8 0, .int .u8 0, .int .u8 0, .int .u8 0, .int .u8 0, .int .u8 0, .int .u8 0, .int .u8 0, .int .u8 0, .int .u8 0]) m56 (encU .u8) ud32 zr5 sz5 rfl (by rw [Array.toList_map, Array.toList_range]; rfl) (by rfl) (by rfl) (by rfl) (by rfl)) rfl rfl rfl ?_
  rintro _ _ ⟨b9, rfl, rfl⟩
  refine WL_ac (Ac_convSS (cap := 56) (l := m56) rfl ud32 ud5) rfl rfl rfl ?_
  rintro _ _ ⟨rfl, rfl⟩
  refine WL_ac (Ac_bsL (f := fP) (zs := [.slice none 0 0]) (bs := [.slice none 0 0]) [(⟨m56, some ⟨b9, 0, none⟩, 56⟩ : Pt)] encP ud27 zr32 sz32 rfl (by rw [Array.toList_map, Array.toList_range]; rfl) (by rfl) (by rfl) (by rfl) (by rfl)) rfl rfl rfl ?_
  rintro _ _ ⟨b11, rfl, rfl⟩
  refine WL_ac (Ac_call cf34 rfl (hs := sum1_ct (X := frA b9 56 1 5 (eU .u8 (w := 8)) m56) (l := m56) (ao := some ⟨b9, 0, none⟩) (cap2 := 56) (hS := (Sv_fr (b := b9) (cap := 56) (T := 5) (l := m56) (encU .u8 (w := 8)) (Nat.le_refl 56))))) rfl rfl rfl ?_
  rintro _ _ ⟨⟨⟩, rfl, hA⟩
  simp only [List.cons_append, List.nil_append] at hA
  replace hA := hA.symm
  subst hA
  refine WL_ac (Ac_allocW (k := .u8) (w := 8) (m := 32) zr42) rfl rfl rfl ?_
  rintro _ _ ⟨b3, rfl, rfl⟩
  refine WL_ac0 (Ac_storeW rfl rfl sz42) rfl rfl ?_
  rintro _ _ rfl
  refine WL_end hK4 ?_
  refine WC_seq fun K5 hK5 => ?_
  refine WC_drawA mix (fun i => ([2, 2, 2, 2, 2, 2, 2, 2, 2, 2, 2, 2, 2, 2, 2, 2, 2, 2, 2, 2, 1, 1, 1, 1, 2, 2, 2, 2, 2, 2, 2, 2, 2, 2, 2, 2, 2, 2, 2, 2, 2, 2, 2, 2, 2, 2, 2, 1, 2, 2] : List Nat).getD i 0) ?_
  refine WJ_takeP 0 rfl (by kernel_rfl) (Rd_ixA 0 rfl rfl ud42 sz5) rfl rfl rfl (hp _ _) ?_
  refine WJ_tk 1 (Rd_loadU rfl tk5) hp ?_ rfl (by kernel_rfl) rfl rfl rfl
  refine WJ_takeP 2 rfl (by kernel_rfl) (Rd_isT (Rd_eqlU (a := (dgM []).getD 0 0#8) (b := 227#8) rfl rfl) (by rw [dg_nil]; decide)) rfl rfl rfl (hp _ _) ?_
  refine WJ_takeP 3 rfl (by kernel_rfl) (Rd_move rfl) rfl rfl rfl (hp _ _) ?_
  refine WJ_takeP 4 rfl (by kernel_rfl) (Rd_ixA 1 rfl rfl ud42 sz5) rfl rfl rfl (hp _ _) ?_
  refine WJ_tk 5 (Rd_loadU rfl tk5) hp ?_ rfl (by kernel_rfl) rfl rfl rfl
  refine WJ_takeP 6 rfl (by kernel_rfl) (Rd_isT (Rd_eqlU (a := (dgM []).getD 1 0#8) (b := 176#8) rfl rfl) (by rw [dg_nil]; decide)) rfl rfl rfl (hp _ _) ?_
  refine WJ_takeP 7 rfl (by kernel_rfl) (Rd_pickT rfl rfl) rfl rfl rfl (hp _ _) ?_
  refine WJ_takeP 8 rfl (by kernel_rfl) (Rd_move rfl) rfl rfl rfl (hp _ _) ?_
  refine WJ_takeP 9 rfl (by kernel_rfl) (Rd_ixA 31 rfl rfl ud42 sz5) rfl rfl rfl (hp _ _) ?_
  refine WJ_tk 10 (Rd_loadU rfl tk5) hp ?_ rfl (by kernel_rfl) rfl rfl rfl
  refine WJ_takeP 11 rfl (by kernel_rfl) (Rd_isT (Rd_eqlU (a := (dgM []).getD 31 0#8) (b := 85#8) rfl rfl) (by rw [dg_nil]; decide)) rfl rfl rfl (hp _ _) ?_
  refine WJ_takeP 12 rfl (by kernel_rfl) (Rd_pickT rfl rfl) rfl rfl rfl (hp _ _) ?_
  refine WJ_takeP 13 rfl (by kernel_rfl) (Rd_move rfl) rfl rfl rfl (hp _ _) ?_
  refine WJ_takeP 14 rfl (by kernel_rfl) (Rd_ixA 16 rfl rfl ud42 sz5) rfl rfl rfl (hp _ _) ?_
  refine WJ_tk 15 (Rd_loadU rfl tk5) hp ?_ rfl (by kernel_rfl) rfl rfl rfl
  refine WJ_takeP 16 rfl (by kernel_rfl) (Rd_isT (Rd_eqlU (a := (dgM []).getD 16 0#8) (b := 39#8) rfl rfl) (by rw [dg_nil]; decide)) rfl rfl rfl (hp _ _) ?_
  refine WJ_takeP 17 rfl (by kernel_rfl) (Rd_pickT rfl rfl) rfl rfl rfl (hp _ _) ?_
  refine WJ_takeP 18 rfl (by kernel_rfl) (Rd_move rfl) rfl rfl rfl (hp _ _) ?_
  refine WJ_tk 19 (Rd_loadW rfl tk42) hp ?_ rfl (by kernel_rfl) rfl rfl rfl
  refine WJ_all (rs := [20]) (by kernel_rfl) rfl ?_
  refine WI_one ?_
  refine WI_ac rfl (Ac_bsL (f := (eU .u8 (w := 8))) (zs := [.int .u8 0]) (bs := [.int .u8 0, .int .u8 0, .int .u8 0]) [97#8, 98#8, 99#8] (encU .u8) ud32 zr5 sz5 rfl (by rw [Array.toList_map, Array.toList_range]; rfl) (by rfl) (by rfl) (by rfl) (by rfl)) rfl rfl rfl rfl ?_
  rintro _ _ ⟨b33, rfl, rfl⟩
  refine ⟨(fun _ => (by repeat (first | with_reducible exact Sub.refl | with_reducible exact Sub.nil | with_reducible refine Sub.cons (by repeat (first | with_reducible exact Ext.here | with_reducible apply Ext.there)) ?_ | with_reducible refine Sub.tail ?_))), ?_⟩
  refine WJ_all (rs := [21]) (by kernel_rfl) rfl ?_
  refine WI_one ?_
  refine WI_ac rfl (Ac_convSS (cap := 3) (l := [97#8, 98#8, 99#8]) rfl ud32 ud5) rfl rfl rfl rfl ?_
  rintro _ _ ⟨rfl, rfl⟩
  refine ⟨(fun _ => (by repeat (first | with_reducible exact Sub.refl | with_reducible exact Sub.nil | with_reducible refine Sub.cons (by repeat (first | with_reducible exact Ext.here | with_reducible apply Ext.there)) ?_ | with_reducible refine Sub.tail ?_))), ?_⟩
  refine WJ_all (rs := [22]) (by kernel_rfl) rfl ?_
  refine WI_one ?_
  refine WI_ac rfl (Ac_bsL (f := fP) (zs := [.slice none 0 0]) (bs := [.slice none 0 0]) [(⟨[97#8, 98#8, 99#8], some ⟨b33, 0, none⟩, 3⟩ : Pt)] encP ud27 zr32 sz32 rfl (by rw [Array.toList_map, Array.toList_range]; rfl) (by rfl) (by rfl) (by rfl) (by rfl)) rfl rfl rfl rfl ?_
  rintro _ _ ⟨b35, rfl, rfl⟩
  refine ⟨(fun _ => (by repeat (first | with_reducible exact Sub.refl | with_reducible exact Sub.nil | with_reducible refine Sub.cons (by repeat (first | with_reducible exact Ext.here | with_reducible apply Ext.there)) ?_ | with_reducible refine Sub.tail ?_))), ?_⟩
  refine WJ_all (rs := [23]) (by kernel_rfl) rfl ?_
  refine WI_one ?_
  refine WI_ac rfl (Ac_call cf34 rfl (hs := sum1_ct (X := frA b33 3 1 5 (eU .u8 (w := 8)) [97#8, 98#8, 99#8]) (l := [97#8, 98#8, 99#8]) (ao := some ⟨b33, 0, none⟩) (cap2 := 3) (hS := (Sv_fr (b := b33) (cap := 3) (T := 5) (l := [97#8, 98#8, 99#8]) (encU .u8 (w := 8)) (Nat.le_refl 3))) (hl := by show 3 ≤ _; omega))) rfl rfl rfl rfl ?_
  rintro _ _ ⟨⟨⟩, rfl, hA⟩
  simp only [List.cons_append, List.nil_append] at hA
  replace hA := hA.symm
  subst hA
  refine ⟨(fun _ => (by repeat (first | with_reducible exact Sub.refl | with_reducible exact Sub.nil | with_reducible refine Sub.cons (by repeat (first | with_reducible exact Ext.here | with_reducible apply Ext.there)) ?_ | with_reducible refine Sub.tail ?_))), ?_⟩
  refine WJ_takeP 24 rfl (by kernel_rfl) (Rd_isT (Rd_eqW rfl rfl ais42) (by simp)) rfl rfl rfl (hp _ _) ?_
  refine WJ_takeP 25 rfl (by kernel_rfl) (Rd_pickT rfl rfl) rfl rfl rfl (hp _ _) ?_
  refine WJ_takeP 26 rfl (by kernel_rfl) (Rd_move rfl) rfl rfl rfl (hp _ _) ?_
  refine WJ_takeP 27 rfl (by kernel_rfl) (Rd_ixA 0 rfl rfl ud42 sz5) rfl rfl rfl (hp _ _) ?_
  refine WJ_tk 28 (Rd_loadU rfl tk5) hp ?_ rfl (by kernel_rfl) rfl rfl rfl
  refine WJ_takeP 29 rfl (by kernel_rfl) (Rd_isT (Rd_eqlU (a := (dgM [97#8, 98#8, 99#8]).getD 0 0#8) (b := 186#8) rfl rfl) (by rw [dg_abc]; decide)) rfl rfl rfl (hp _ _) ?_
  refine WJ_takeP 30 rfl (by kernel_rfl) (Rd_pickT rfl rfl) rfl rfl rfl (hp _ _) ?_
  refine WJ_takeP 31 rfl (by kernel_rfl) (Rd_move rfl) rfl rfl rfl (hp _ _) ?_
  refine WJ_takeP 32 rfl (by kernel_rfl) (Rd_ixA 0 rfl rfl ud42 sz5) rfl rfl rfl (hp _ _) ?_
  refine WJ_tk 33 (Rd_loadU rfl tk5) hp ?_ rfl (by kernel_rfl) rfl rfl rfl
  refine WJ_takeP 34 rfl (by kernel_rfl) (Rd_isT (Rd_eqlU (a := (dgM m56).getD 0 0#8) (b := 36#8) rfl rfl) (by rw [dg_56]; decide)) rfl rfl rfl (hp _ _) ?_
  refine WJ_takeP 35 rfl (by kernel_rfl) (Rd_pickT rfl rfl) rfl rfl rfl (hp _ _) ?_
  refine WJ_takeP 36 rfl (by kernel_rfl) (Rd_move rfl) rfl rfl rfl (hp _ _) ?_
  refine WJ_takeP 37 rfl (by kernel_rfl) (Rd_ixA 1 rfl rfl ud42 sz5) rfl rfl rfl (hp _ _) ?_
  refine WJ_tk 38 (Rd_loadU rfl tk5) hp ?_ rfl (by kernel_rfl) rfl rfl rfl
  refine WJ_takeP 39 rfl (by kernel_rfl) (Rd_isT (Rd_eqlU (a := (dgM m56).getD 1 0#8) (b := 141#8) rfl rfl) (by rw [dg_56]; decide)) rfl rfl rfl (hp _ _) ?_
  refine WJ_takeP 40 rfl (by kernel_rfl) (Rd_pickT rfl rfl) rfl rfl rfl (hp _ _) ?_
  refine WJ_takeP 41 rfl (by kernel_rfl) (Rd_move rfl) rfl rfl rfl (hp _ _) ?_
  refine WJ_takeP 42 rfl (by kernel_rfl) (Rd_ixA 31 rfl rfl ud42 sz5) rfl rfl rfl (hp _ _) ?_
  refine WJ_tk 43 (Rd_loadU rfl tk5) hp ?_ rfl (by kernel_rfl) rfl rfl rfl
  refine WJ_takeP 44 rfl (by kernel_rfl) (Rd_isT (Rd_eqlU (a := (dgM m56).getD 31 0#8) (b := 193#8) rfl rfl) (by rw [dg_56]; decide)) rfl rfl rfl (hp _ _) ?_
  refine WJ_takeP 45 rfl (by kernel_rfl) (Rd_pickT rfl rfl) rfl rfl rfl (hp _ _) ?_
  refine WJ_takeP 46 rfl (by kernel_rfl) (Rd_move rfl) rfl rfl rfl (hp _ _) ?_
  refine WJ_all (rs := [47]) (by kernel_rfl) rfl ?_
  refine WI_one ?_
  refine WI_ac rfl (Ac_call cf24 rfl (hs := lives_ct)) rfl rfl rfl rfl ?_
  rintro _ _ ⟨⟨⟩, rfl, hA⟩
  simp only [List.cons_append, List.nil_append] at hA
  replace hA := hA.symm
  subst hA
  refine ⟨(fun _ => (by repeat (first | with_reducible exact Sub.refl | with_reducible exact Sub.nil | with_reducible refine Sub.cons (by repeat (first | with_reducible exact Ext.here | with_reducible apply Ext.there)) ?_ | with_reducible refine Sub.tail ?_))), ?_⟩
  refine WJ_takeP 48 rfl (by kernel_rfl) (Rd_pickT rfl rfl) rfl rfl rfl (hp _ _) ?_
  refine WJ_takeP 49 rfl (by kernel_rfl) (Rd_assign rfl) rfl rfl rfl (hp _ _) ?_
  refine WJ_done (by kernel_rfl) ?_
  refine Ps_next hK5 ?_
  refine WC_ret ?_
  exact hret.go () (Rs1 rfl rfl)
end Go.Proofs.Ythkchjcodibaeaa
