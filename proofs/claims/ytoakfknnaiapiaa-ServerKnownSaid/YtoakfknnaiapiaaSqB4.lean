/-
  Contracts of functions that the claim reaches, or the logic and the plain laws that they rest on, or the row over them. (Conditions: none beyond the statement.)
-/
import Derived.Test.YtoakfknnaiapiaaSqGh
set_option linter.all false
namespace Go.Proofs.Ytoakfknnaiapiaa
open Go.RowKit Go.SL Go.ShM Go.SvM
set_option maxHeartbeats 1000000
set_option maxRecDepth 20000
set_option linter.all false
theorem cf15 : cfn Try.prog 15 = true := by kernel_rfl
theorem cf17 : cfn Try.prog 17 = true := by kernel_rfl
theorem cf18 : cfn Try.prog 18 = true := by kernel_rfl
theorem cf19 : cfn Try.prog 19 = true := by kernel_rfl
theorem sz42 : sz Try.prog 42 = some 1 := by kernel_rfl
theorem ud75 : Try.prog.underlying 75 = some (.slice 42) := by kernel_rfl
theorem ud77 : Try.prog.underlying 77 = some (.slice 30) := by kernel_rfl
theorem zr42 : zr Try.prog 42 = some [.int .u8 0] := by kernel_rfl
theorem knKind (i : Nat) (h : i < 5) : ∃ kb : B8, ([2#8, 3#8, 4#8, 2#8, 2#8] : List B8)[i]? = some kb ∧ Value.int .u8 (kb.toNat : Int) = .int .u8 (knK i) := by
  match i, h with
  | 0, _ => exact ⟨_, rfl, rfl⟩
  | 1, _ => exact ⟨_, rfl, rfl⟩
  | 2, _ => exact ⟨_, rfl, rfl⟩
  | 3, _ => exact ⟨_, rfl, rfl⟩
  | 4, _ => exact ⟨_, rfl, rfl⟩
theorem knLen : ∀ i, (knL i).length ≤ 1
  | 0 => by decide
  | 1 => by decide
  | 2 => by decide
  | 3 => by decide
  | _ + 4 => Nat.le_refl 1
theorem rqR_fill (ix : Ix) (who : B32) : fillL [(0, 1), (1, 16), (17, 1), (18, 1), (19, 1), (20, 2), (22, 1)] [(0, .int .u8 5), (1, aU .u8 ix.l), (5, .agg [.int .u32 (who.toNat : Int), .int .i64 0].toArray)] [.int .u8 0, .int .u8 0, .int .u8 0, .int .u8 0, .int .u8 0, .int .u8 0, .int .u8 0, .int .u8 0, .int .u8 0, .int .u8 0, .int .u8 0, .int .u8 0, .int .u8 0, .int .u8 0, .int .u8 0, .int .u8 0, .int .u8 0, .int .i64 0, .int .i64 0, .int .i64 0, .int .u32 0, .int .i64 0, .slice none 0 0] = some (eRq (rqRel ix who)) := by
  obtain ⟨l, h⟩ := ix
  obtain ⟨a0, a1, a2, a3, a4, a5, a6, a7, a8, a9, a10, a11, a12, a13, a14, a15, rfl⟩ := ix16 l h
  kernel_rfl
theorem rqF4_fill (ix : Ix) (c : Int) : fillL [(0, 1), (1, 16), (17, 1), (18, 1), (19, 1), (20, 2), (22, 1)] [(0, .int .u8 3), (1, aU .u8 ix.l), (4, .int .i64 c)] [.int .u8 0, .int .u8 0, .int .u8 0, .int .u8 0, .int .u8 0, .int .u8 0, .int .u8 0, .int .u8 0, .int .u8 0, .int .u8 0, .int .u8 0, .int .u8 0, .int .u8 0, .int .u8 0, .int .u8 0, .int .u8 0, .int .u8 0, .int .i64 0, .int .i64 0, .int .i64 0, .int .u32 0, .int .i64 0, .slice none 0 0] = some (eRq (rqFetch ix 0 0 c)) := by
  obtain ⟨l, h⟩ := ix
  obtain ⟨a0, a1, a2, a3, a4, a5, a6, a7, a8, a9, a10, a11, a12, a13, a14, a15, rfl⟩ := ix16 l h
  kernel_rfl
theorem kvZ_fill (ix : Ix) : fillL [(0, 16), (16, 1), (17, 1), (18, 1)] [(0, aU .u8 ix.l)] [.int .u8 0, .int .u8 0, .int .u8 0, .int .u8 0, .int .u8 0, .int .u8 0, .int .u8 0, .int .u8 0, .int .u8 0, .int .u8 0, .int .u8 0, .int .u8 0, .int .u8 0, .int .u8 0, .int .u8 0, .int .u8 0, .int .i64 0, .slice none 0 0, .slice none 0 0] = some (eKV ⟨ix, 0, ⟨[], none, 0⟩, ⟨[], none, 0⟩⟩) := by
  obtain ⟨l, h⟩ := ix
  obtain ⟨a0, a1, a2, a3, a4, a5, a6, a7, a8, a9, a10, a11, a12, a13, a14, a15, rfl⟩ := ix16 l h
  kernel_rfl
theorem kn_kept {kvs : List KV} (h : kvs.map KV.kp = [knB]) : ∃ k, findV x9 3 kvs = some k ∧ k.kp = knB := by
  cases kvs with
  | nil => cases h
  | cons k r =>
    cases r with
    | cons _ _ => simp at h
    | nil =>
      simp only [List.map_cons, List.map_nil, List.cons.injEq, and_true] at h
      refine ⟨k, ?_, h⟩
      have h1 : k.ix = x9 := congrArg Kp.ix h
      have h2 : k.num = 3 := congrArg Kp.num h
      unfold findV isKV
      rw [List.find?_cons_of_pos (by rw [h1, h2]; decide)]
theorem kn_no : ¬ Wf 9 ⟨0, ([(⟨x9, 0, ⟨[], none, 0⟩, ⟨[], none, 0⟩⟩ : KV)]).map KV.kp⟩ := knLoad
theorem kn_ok {X : Asn} : ∀ k ∈ [(⟨x9, 0, ⟨[], none, 0⟩, ⟨[], none, 0⟩⟩ : KV)], OKv X k := fun k hk => by
  rw [List.mem_singleton] at hk
  subst hk
  exact ⟨⟨rfl, fun h => absurd rfl h, (fun x hx => by cases hx), Nat.le_refl _, fun w hs i x hx => by simp at hx⟩, ⟨rfl, fun h => absurd rfl h, (fun x hx => by cases hx), Nat.le_refl _, fun w hs i x hx => by simp at hx⟩⟩

theorem known_ct   : Ct Try.prog 7 [] [] (fun _ : Unit => .bool true) (fun _ => []) := by
 refine Ct_body (n := 195) Try.func7 rfl rfl rfl fun F w0 Q hret hnorm hp => ?_
 change WC _ _ _ _ _ _ _ (F)
 refine WC_sr fun K1 hK1 => ?_
 refine WL_r (Rd_assign rfl) rfl ?_
 refine WL_end hK1 ?_
 refine WC_seq fun K2 hK2 => ?_
 refine WC_sr fun K3 hK3 => ?_
 refine WL_ac (Ac_call cf17 rfl (hs := awake_ct)) rfl rfl rfl ?_
 rintro _ _ ⟨⟨⟩, rfl, hA⟩
 simp only [List.cons_append, List.nil_append] at hA
 replace hA := hA.symm
 subst hA
 refine WL_r (Rd_not rfl) rfl ?_
 refine WL_end hK3 ?_
 refine WC_condF rfl ?_
 refine WC_skip ?_
 refine Ps_next hK2 ?_
 refine WC_sr fun K4 hK4 => ?_
 refine WL_ac (Ac_call cf23 rfl (hs := index_ct (x := 9#8))) rfl rfl rfl ?_
 rintro _ _ ⟨⟨⟩, rfl, hA⟩
 simp only [List.cons_append, List.nil_append] at hA
 replace hA := hA.symm
 subst hA
 refine WL_ac (Ac_alloc zr24) rfl rfl rfl ?_
 rintro _ _ ⟨b1, rfl, rfl⟩
 refine WL_ac0 (Ac_store (ys := x9.l.flatMap (eU .u8 (w := 8))) rfl rfl sz24 (h1 := by simp [aU, Value.cells, Value.oneCell', ix1, eU]) (hr := rfl)) rfl rfl ?_
 rintro _ _ rfl
 refine WL_end hK4 ?_
 refine WC_sr fun K5 hK5 => ?_
 refine WL_ac (Ac_call cf8 rfl (hs := newA_ct (room := 10) (by omega))) rfl rfl rfl ?_
 rintro _ _ ⟨s30, rfl, hA⟩
 simp only [List.cons_append, List.nil_append] at hA
 replace hA := hA.symm
 subst hA
 refine WL_r (Rd_move rfl) rfl ?_
 refine WL_r (Rd_ext0 rfl) rfl ?_
 refine WL_r (Rd_ext1 rfl) rfl ?_
 refine WL_r (Rd_assign rfl) rfl ?_
 refine WL_r (Rd_assign rfl) rfl ?_
 refine WL_end hK5 ?_
 refine WC_sr fun K6 hK6 => ?_
 refine WL_ac (Ac_bsL (f := (eU .u8 (w := 8))) (zs := [.int .u8 0]) (bs := [.int .u8 0, .int .u8 0, .int .u8 0, .int .u8 0, .int .u8 0, .int .u8 0]) [97#8, 98#8, 99#8, 100#8, 101#8, 102#8] (encU .u8) ud28 zr5 sz5 rfl (by rw [Array.toList_map, Array.toList_range]; rfl) (by rfl) (by rfl) (by rfl) (by rfl)) rfl rfl rfl ?_
 rintro _ _ ⟨b33, rfl, rfl⟩
 refine WL_ac (Ac_convSS (cap := 6) (l := [97#8, 98#8, 99#8, 100#8, 101#8, 102#8]) rfl ud28 ud5) rfl rfl rfl ?_
 rintro _ _ ⟨rfl, rfl⟩
 refine WL_r (Rd_assign rfl) rfl ?_
 refine WL_end hK6 ?_
 refine WC_sr fun K7 hK7 => ?_
 refine WL_ac (Ac_bsL (f := (eU .u8 (w := 8))) (zs := [.int .u8 0]) (bs := [.int .u8 0, .int .u8 0, .int .u8 0, .int .u8 0, .int .u8 0]) [2#8, 3#8, 4#8, 2#8, 2#8] (encU .u8) ud75 zr42 sz42 rfl (by rw [Array.toList_map, Array.toList_range]; rfl) (by rfl) (by rfl) (by rfl) (by rfl)) rfl rfl rfl ?_
 rintro _ _ ⟨b35, rfl, rfl⟩
 refine WL_r (Rd_assign rfl) rfl ?_
 refine WL_end hK7 ?_
 refine WC_seq fun K8 hK8 => ?_
 refine WC_meet (B0 := []) (σ := Nat × Nat × Nat) (fun ⟨b40, b44, b53⟩ => [(6, sl (some b53) 5 5)]) (fun ⟨b40, b44, b53⟩ => [frA b40 5 1 5 (eU .u8 (w := 8)) [49#8, 50#8, 51#8, 52#8, 53#8], frA b44 6 1 5 (eU .u8 (w := 8)) [65#8, 66#8, 67#8, 68#8, 69#8, 70#8], arr (some b53) 5 23 30 eRq (knRq b33 b40 b44)]) (fun ⟨b40, b44, b53⟩ => True) [0, 1, 2, 4, 5, 7, 8, 9, 10, 11, 12, 14, 16, 18, 20, 22, 23, 25, 54, 55, 56, 57, 58, 59, 60, 61, 62, 63, 64, 65, 66, 67, 68, 69, 70, 71, 72, 73, 74, 75, 76, 77, 78, 79, 80, 81, 82, 83, 84, 85, 86, 87, 88, 89, 90, 91, 92, 93, 94, 95, 96, 97, 98, 99, 100, 101, 102, 103, 104, 105, 106, 107, 108, 109, 110, 111, 112, 113, 114, 115, 116, 117, 118, 119, 120, 121, 122, 123, 124, 125, 126, 127, 128, 129, 130, 131, 132, 133, 134, 135, 136, 137, 138, 139, 140, 141, 142, 143, 144, 145, 146, 147, 148, 149, 150, 151, 152, 153, 154, 155, 156, 157, 158, 159, 160, 161, 162, 163, 164, 165, 166, 167, 168, 169, 170, 171, 172, 173, 174, 175, 176, 177, 178, 179, 180, 181, 182, 183, 184, 185, 186, 187, 188, 189, 190, 191, 192, 193, 194] kpA (by (try dsimp only); repeat (first | with_reducible exact Gv.nil | (with_reducible apply Gv.cons; · (repeat (first | with_reducible exact Ext.here | with_reducible apply Ext.there))))) ?_ ?_
 ·intro hK9
  refine WC_draw mix [cl b1 24 (x9.l.flatMap (eU .u8 (w := 8)))] (fun i => ([2, 2, 1, 2, 1, 1, 1, 2, 1, 1, 1, 2, 2, 1, 2, 2, 1, 1, 2] : List Nat).getD i 0) ?_
  refine WJ_tk 0 (Rd_loadg (vs := x9.l.flatMap (eU .u8)) rfl tk24) hp ?_ rfl (by kernel_rfl) rfl rfl rfl
  refine WJ_tp 1 rfl (Rd_move rfl) rfl (hp _ _) ?_
  refine WJ_tk 3 (Rd_loadg (vs := x9.l.flatMap (eU .u8)) rfl tk24) hp ?_ rfl (by kernel_rfl) rfl rfl rfl
  refine WJ_tk 7 (Rd_loadg (vs := x9.l.flatMap (eU .u8)) rfl tk24) hp ?_ rfl (by kernel_rfl) rfl rfl rfl
  refine WJ_tk 11 (Rd_loadg (vs := x9.l.flatMap (eU .u8)) rfl tk24) hp ?_ rfl (by kernel_rfl) rfl rfl rfl
  refine WJ_tp 12 rfl (Rd_move rfl) rfl (hp _ _) ?_
  refine WJ_tk 14 (Rd_loadg (vs := x9.l.flatMap (eU .u8)) rfl tk24) hp ?_ rfl (by kernel_rfl) rfl rfl rfl
  refine WJ_tp 15 rfl (Rd_move rfl) rfl (hp _ _) ?_
  refine WJ_all (rs := [2, 4, 8]) (by kernel_rfl) rfl ?_
  refine WI_cons ?_ (WI_cons ?_ (WI_cons ?_ (by intro _ h; cases h)))
  ·skip
   refine WI_ac rfl (Ac_call cf24 rfl (hs := storeL_ct (ix := x9) (n := 3) (un := 5) (b := ⟨[97#8, 98#8, 99#8, 100#8, 101#8, 102#8], some ⟨b33, 0, none⟩, 6⟩) (who := 1#32))) rfl rfl rfl rfl ?_
   rintro _ _ ⟨⟨⟩, rfl, hA⟩
   simp only [List.cons_append, List.nil_append] at hA
   replace hA := hA.symm
   subst hA
   refine ⟨(fun _ => subF), ?_⟩
   refine WJ_all (rs := [4, 8]) (by kernel_rfl) rfl ?_
   refine WI_cons ?_ (WI_cons ?_ (by intro _ h; cases h))
   ·skip
    refine WI_ac rfl (Ac_bsL (f := (eU .u8 (w := 8))) (zs := [.int .u8 0]) (bs := [.int .u8 0, .int .u8 0, .int .u8 0, .int .u8 0, .int .u8 0]) [49#8, 50#8, 51#8, 52#8, 53#8] (encU .u8) ud28 zr5 sz5 rfl (by rw [Array.toList_map, Array.toList_range]; rfl) (by rfl) (by rfl) (by rfl) (by rfl)) rfl rfl rfl rfl ?_
    rintro _ _ ⟨b40, rfl, rfl⟩
    refine ⟨(fun _ => subF), ?_⟩
    refine WJ_all (rs := [5, 8]) (by kernel_rfl) rfl ?_
    refine WI_cons ?_ (WI_cons ?_ (by intro _ h; cases h))
    ·skip
     refine WI_ac rfl (Ac_convSS (cap := 5) (l := [49#8, 50#8, 51#8, 52#8, 53#8]) rfl ud28 ud5) rfl rfl rfl rfl ?_
     rintro _ _ ⟨rfl, rfl⟩
     refine ⟨(fun _ => subF), ?_⟩
     refine WJ_all (rs := [6, 8]) (by kernel_rfl) rfl ?_
     refine WI_cons ?_ (WI_cons ?_ (by intro _ h; cases h))
     ·skip
      refine WI_ac rfl (Ac_call cf24 rfl (hs := storeL_ct (ix := x9) (n := 4) (un := 5) (b := ⟨[49#8, 50#8, 51#8, 52#8, 53#8], some ⟨b40, 0, none⟩, 5⟩) (who := 1#32))) rfl rfl rfl rfl ?_
      rintro _ _ ⟨⟨⟩, rfl, hA⟩
      simp only [List.cons_append, List.nil_append] at hA
      replace hA := hA.symm
      subst hA
      refine ⟨(fun _ => subF), ?_⟩
      refine WJ_all (rs := [8]) (by kernel_rfl) rfl ?_
      refine WI_one ?_
      refine WI_ac rfl (Ac_bsL (f := (eU .u8 (w := 8))) (zs := [.int .u8 0]) (bs := [.int .u8 0, .int .u8 0, .int .u8 0, .int .u8 0, .int .u8 0, .int .u8 0]) [65#8, 66#8, 67#8, 68#8, 69#8, 70#8] (encU .u8) ud28 zr5 sz5 rfl (by rw [Array.toList_map, Array.toList_range]; rfl) (by rfl) (by rfl) (by rfl) (by rfl)) rfl rfl rfl rfl ?_
      rintro _ _ ⟨b44, rfl, rfl⟩
      refine ⟨(fun _ => subF), ?_⟩
      refine WJ_all (rs := [9]) (by kernel_rfl) rfl ?_
      refine WI_one ?_
      refine WI_ac rfl (Ac_convSS (cap := 6) (l := [65#8, 66#8, 67#8, 68#8, 69#8, 70#8]) rfl ud28 ud5) rfl rfl rfl rfl ?_
      rintro _ _ ⟨rfl, rfl⟩
      refine ⟨(fun _ => subF), ?_⟩
      refine WJ_all (rs := [10]) (by kernel_rfl) rfl ?_
      refine WI_one ?_
      refine WI_ac rfl (Ac_call cf24 rfl (hs := storeL_ct (ix := x9) (n := 3) (un := 5) (b := ⟨[65#8, 66#8, 67#8, 68#8, 69#8, 70#8], some ⟨b44, 0, none⟩, 6⟩) (who := 1#32))) rfl rfl rfl rfl ?_
      rintro _ _ ⟨⟨⟩, rfl, hA⟩
      simp only [List.cons_append, List.nil_append] at hA
      replace hA := hA.symm
      subst hA
      refine ⟨(fun _ => subF), ?_⟩
      refine WJ_all (rs := [13]) (by kernel_rfl) rfl ?_
      refine WI_one ?_
      refine WI_ac rfl (Ac_call cf24 rfl (hs := storeL_ct (ix := x9) (n := 3) (un := 9) (b := ⟨[97#8, 98#8, 99#8, 100#8, 101#8, 102#8], some ⟨b33, 0, none⟩, 6⟩) (who := 2#32))) rfl rfl rfl rfl ?_
      rintro _ _ ⟨⟨⟩, rfl, hA⟩
      simp only [List.cons_append, List.nil_append] at hA
      replace hA := hA.symm
      subst hA
      refine ⟨(fun _ => subF), ?_⟩
      refine WJ_all (rs := [16]) (by kernel_rfl) rfl ?_
      refine WI_one ?_
      refine WI_ac rfl (Ac_call cf24 rfl (hs := storeL_ct (ix := x9) (n := 3) (un := 4) (b := ⟨[97#8, 98#8, 99#8, 100#8, 101#8, 102#8], some ⟨b33, 0, none⟩, 6⟩) (who := 1#32))) rfl rfl rfl rfl ?_
      rintro _ _ ⟨⟨⟩, rfl, hA⟩
      simp only [List.cons_append, List.nil_append] at hA
      replace hA := hA.symm
      subst hA
      refine ⟨(fun _ => subF), ?_⟩
      refine WJ_all (rs := [17]) (by kernel_rfl) rfl ?_
      refine WI_one ?_
      refine WI_ac rfl (Ac_bsL (f := eRq) (zs := [.int .u8 0, .int .u8 0, .int .u8 0, .int .u8 0, .int .u8 0, .int .u8 0, .int .u8 0, .int .u8 0, .int .u8 0, .int .u8 0, .int .u8 0, .int .u8 0, .int .u8 0, .int .u8 0, .int .u8 0, .int .u8 0, .int .u8 0, .int .i64 0, .int .i64 0, .int .i64 0, .int .u32 0, .int .i64 0, .slice none 0 0]) (bs := [.int .u8 0, .int .u8 0, .int .u8 0, .int .u8 0, .int .u8 0, .int .u8 0, .int .u8 0, .int .u8 0, .int .u8 0, .int .u8 0, .int .u8 0, .int .u8 0, .int .u8 0, .int .u8 0, .int .u8 0, .int .u8 0, .int .u8 0, .int .i64 0, .int .i64 0, .int .i64 0, .int .u32 0, .int .i64 0, .slice none 0 0] ++ [.int .u8 0, .int .u8 0, .int .u8 0, .int .u8 0, .int .u8 0, .int .u8 0, .int .u8 0, .int .u8 0, .int .u8 0, .int .u8 0, .int .u8 0, .int .u8 0, .int .u8 0, .int .u8 0, .int .u8 0, .int .u8 0, .int .u8 0, .int .i64 0, .int .i64 0, .int .i64 0, .int .u32 0, .int .i64 0, .slice none 0 0] ++ [.int .u8 0, .int .u8 0, .int .u8 0, .int .u8 0, .int .u8 0, .int .u8 0, .int .u8 0, .int .u8 0, .int .u8 0, .int .u8 0, .int .u8 0, .int .u8 0, .int .u8 0, .int .u8 0, .int .u8 0, .int .u8 0, .int .u8 0, .int .i64 0, .int .i64 0, .int .i64 0, .int .u32 0, .int .i64 0, .slice none 0 0] ++ [.int .u8 0, .int .u8 0, .int .u8 0, .int .u8 0, .int .u8 0, .int .u8 0, .int .u8 0, .int .u8 0, .int .u8 0, .int .u8 0, .int .u8 0, .int .u8 0, .int .u8 0, .int .u8 0, .int .u8 0, .int .u8 0, .int .u8 0, .int .i64 0, .int .i64 0, .int .i64 0, .int .u32 0, .int .i64 0, .slice none 0 0] ++ [.int .u8 0, .int .u8 0, .int .u8 0, .int .u8 0, .int .u8 0, .int .u8 0, .int .u8 0, .int .u8 0, .int .u8 0, .int .u8 0, .int .u8 0, .int .u8 0, .int .u8 0, .int .u8 0, .int .u8 0, .int .u8 0, .int .u8 0, .int .i64 0, .int .i64 0, .int .i64 0, .int .u32 0, .int .i64 0, .slice none 0 0]) (knRq b33 b40 b44) encRq ud77 zr30 sz30 rfl (by kernel_rfl) (by kernel_rfl) (by rfl) (by rfl) (by rfl)) rfl rfl rfl rfl ?_
      rintro _ _ ⟨b53, rfl, rfl⟩
      refine ⟨(fun _ => subF), ?_⟩
      refine WJ_tp 18 rfl (Rd_assign rfl) rfl (hp _ _) ?_
      refine WJ_done (by kernel_rfl) ?_
      refine Ps_wkB (hK9 ⟨b40, b44, b53⟩ (trivial))
     ·skip
      refine WI_ac rfl (Ac_bsL (f := (eU .u8 (w := 8))) (zs := [.int .u8 0]) (bs := [.int .u8 0, .int .u8 0, .int .u8 0, .int .u8 0, .int .u8 0, .int .u8 0]) [65#8, 66#8, 67#8, 68#8, 69#8, 70#8] (encU .u8) ud28 zr5 sz5 rfl (by rw [Array.toList_map, Array.toList_range]; rfl) (by rfl) (by rfl) (by rfl) (by rfl)) rfl rfl rfl rfl ?_
      rintro _ _ ⟨b44, rfl, rfl⟩
      refine ⟨(fun _ => subF), ?_⟩
      refine WJ_all (rs := [6, 9]) (by kernel_rfl) rfl ?_
      refine WI_cons ?_ (WI_cons ?_ (by intro _ h; cases h))
      ·skip
       refine WI_ac rfl (Ac_call cf24 rfl (hs := storeL_ct (ix := x9) (n := 4) (un := 5) (b := ⟨[49#8, 50#8, 51#8, 52#8, 53#8], some ⟨b40, 0, none⟩, 5⟩) (who := 1#32))) rfl rfl rfl rfl ?_
       rintro _ _ ⟨⟨⟩, rfl, hA⟩
       simp only [List.cons_append, List.nil_append] at hA
       replace hA := hA.symm
       subst hA
       refine ⟨(fun _ => subF), ?_⟩
       refine WJ_all (rs := [9]) (by kernel_rfl) rfl ?_
       refine WI_one ?_
       refine WI_ac rfl (Ac_convSS (cap := 6) (l := [65#8, 66#8, 67#8, 68#8, 69#8, 70#8]) rfl ud28 ud5) rfl rfl rfl rfl ?_
       rintro _ _ ⟨rfl, rfl⟩
       refine ⟨(fun _ => subF), ?_⟩
       refine WJ_all (rs := [10]) (by kernel_rfl) rfl ?_
       refine WI_one ?_
       refine WI_ac rfl (Ac_call cf24 rfl (hs := storeL_ct (ix := x9) (n := 3) (un := 5) (b := ⟨[65#8, 66#8, 67#8, 68#8, 69#8, 70#8], some ⟨b44, 0, none⟩, 6⟩) (who := 1#32))) rfl rfl rfl rfl ?_
       rintro _ _ ⟨⟨⟩, rfl, hA⟩
       simp only [List.cons_append, List.nil_append] at hA
       replace hA := hA.symm
       subst hA
       refine ⟨(fun _ => subF), ?_⟩
       refine WJ_all (rs := [13]) (by kernel_rfl) rfl ?_
       refine WI_one ?_
       refine WI_ac rfl (Ac_call cf24 rfl (hs := storeL_ct (ix := x9) (n := 3) (un := 9) (b := ⟨[97#8, 98#8, 99#8, 100#8, 101#8, 102#8], some ⟨b33, 0, none⟩, 6⟩) (who := 2#32))) rfl rfl rfl rfl ?_
       rintro _ _ ⟨⟨⟩, rfl, hA⟩
       simp only [List.cons_append, List.nil_append] at hA
       replace hA := hA.symm
       subst hA
       refine ⟨(fun _ => subF), ?_⟩
       refine WJ_all (rs := [16]) (by kernel_rfl) rfl ?_
       refine WI_one ?_
       refine WI_ac rfl (Ac_call cf24 rfl (hs := storeL_ct (ix := x9) (n := 3) (un := 4) (b := ⟨[97#8, 98#8, 99#8, 100#8, 101#8, 102#8], some ⟨b33, 0, none⟩, 6⟩) (who := 1#32))) rfl rfl rfl rfl ?_
       rintro _ _ ⟨⟨⟩, rfl, hA⟩
       simp only [List.cons_append, List.nil_append] at hA
       replace hA := hA.symm
       subst hA
       refine ⟨(fun _ => subF), ?_⟩
       refine WJ_all (rs := [17]) (by kernel_rfl) rfl ?_
       refine WI_one ?_
       refine WI_ac rfl (Ac_bsL (f := eRq) (zs := [.int .u8 0, .int .u8 0, .int .u8 0, .int .u8 0, .int .u8 0, .int .u8 0, .int .u8 0, .int .u8 0, .int .u8 0, .int .u8 0, .int .u8 0, .int .u8 0, .int .u8 0, .int .u8 0, .int .u8 0, .int .u8 0, .int .u8 0, .int .i64 0, .int .i64 0, .int .i64 0, .int .u32 0, .int .i64 0, .slice none 0 0]) (bs := [.int .u8 0, .int .u8 0, .int .u8 0, .int .u8 0, .int .u8 0, .int .u8 0, .int .u8 0, .int .u8 0, .int .u8 0, .int .u8 0, .int .u8 0, .int .u8 0, .int .u8 0, .int .u8 0, .int .u8 0, .int .u8 0, .int .u8 0, .int .i64 0, .int .i64 0, .int .i64 0, .int .u32 0, .int .i64 0, .slice none 0 0] ++ [.int .u8 0, .int .u8 0, .int .u8 0, .int .u8 0, .int .u8 0, .int .u8 0, .int .u8 0, .int .u8 0, .int .u8 0, .int .u8 0, .int .u8 0, .int .u8 0, .int .u8 0, .int .u8 0, .int .u8 0, .int .u8 0, .int .u8 0, .int .i64 0, .int .i64 0, .int .i64 0, .int .u32 0, .int .i64 0, .slice none 0 0] ++ [.int .u8 0, .int .u8 0, .int .u8 0, .int .u8 0, .int .u8 0, .int .u8 0, .int .u8 0, .int .u8 0, .int .u8 0, .int .u8 0, .int .u8 0, .int .u8 0, .int .u8 0, .int .u8 0, .int .u8 0, .int .u8 0, .int .u8 0, .int .i64 0, .int .i64 0, .int .i64 0, .int .u32 0, .int .i64 0, .slice none 0 0] ++ [.int .u8 0, .int .u8 0, .int .u8 0, .int .u8 0, .int .u8 0, .int .u8 0, .int .u8 0, .int .u8 0, .int .u8 0, .int .u8 0, .int .u8 0, .int .u8 0, .int .u8 0, .int .u8 0, .int .u8 0, .int .u8 0, .int .u8 0, .int .i64 0, .int .i64 0, .int .i64 0, .int .u32 0, .int .i64 0, .slice none 0 0] ++ [.int .u8 0, .int .u8 0, .int .u8 0, .int .u8 0, .int .u8 0, .int .u8 0, .int .u8 0, .int .u8 0, .int .u8 0, .int .u8 0, .int .u8 0, .int .u8 0, .int .u8 0, .int .u8 0, .int .u8 0, .int .u8 0, .int .u8 0, .int .i64 0, .int .i64 0, .int .i64 0, .int .u32 0, .int .i64 0, .slice none 0 0]) (knRq b33 b40 b44) encRq ud77 zr30 sz30 rfl (by kernel_rfl) (by kernel_rfl) (by rfl) (by rfl) (by rfl)) rfl rfl rfl rfl ?_
       rintro _ _ ⟨b53, rfl, rfl⟩
       refine ⟨(fun _ => subF), ?_⟩
       refine WJ_tp 18 rfl (Rd_assign rfl) rfl (hp _ _) ?_
       refine WJ_done (by kernel_rfl) ?_
       refine Ps_wkB (hK9 ⟨b40, b44, b53⟩ (trivial))
      ·skip
       refine WI_ac rfl (Ac_convSS (cap := 6) (l := [65#8, 66#8, 67#8, 68#8, 69#8, 70#8]) rfl ud28 ud5) rfl rfl rfl rfl ?_
       rintro _ _ ⟨rfl, rfl⟩
       refine ⟨(fun _ => subF), ?_⟩
       refine WJ_all (rs := [6]) (by kernel_rfl) rfl ?_
       refine WI_one ?_
       refine WI_ac rfl (Ac_call cf24 rfl (hs := storeL_ct (ix := x9) (n := 4) (un := 5) (b := ⟨[49#8, 50#8, 51#8, 52#8, 53#8], some ⟨b40, 0, none⟩, 5⟩) (who := 1#32))) rfl rfl rfl rfl ?_
       rintro _ _ ⟨⟨⟩, rfl, hA⟩
       simp only [List.cons_append, List.nil_append] at hA
       replace hA := hA.symm
       subst hA
       refine ⟨(fun _ => subF), ?_⟩
       refine WJ_all (rs := [10]) (by kernel_rfl) rfl ?_
       refine WI_one ?_
       refine WI_ac rfl (Ac_call cf24 rfl (hs := storeL_ct (ix := x9) (n := 3) (un := 5) (b := ⟨[65#8, 66#8, 67#8, 68#8, 69#8, 70#8], some ⟨b44, 0, none⟩, 6⟩) (who := 1#32))) rfl rfl rfl rfl ?_
       rintro _ _ ⟨⟨⟩, rfl, hA⟩
       simp only [List.cons_append, List.nil_append] at hA
       replace hA := hA.symm
       subst hA
       refine ⟨(fun _ => subF), ?_⟩
       refine WJ_all (rs := [13]) (by kernel_rfl) rfl ?_
       refine WI_one ?_
       refine WI_ac rfl (Ac_call cf24 rfl (hs := storeL_ct (ix := x9) (n := 3) (un := 9) (b := ⟨[97#8, 98#8, 99#8, 100#8, 101#8, 102#8], some ⟨b33, 0, none⟩, 6⟩) (who := 2#32))) rfl rfl rfl rfl ?_
       rintro _ _ ⟨⟨⟩, rfl, hA⟩
       simp only [List.cons_append, List.nil_append] at hA
       replace hA := hA.symm
       subst hA
       refine ⟨(fun _ => subF), ?_⟩
       refine WJ_all (rs := [16]) (by kernel_rfl) rfl ?_
       refine WI_one ?_
       refine WI_ac rfl (Ac_call cf24 rfl (hs := storeL_ct (ix := x9) (n := 3) (un := 4) (b := ⟨[97#8, 98#8, 99#8, 100#8, 101#8, 102#8], some ⟨b33, 0, none⟩, 6⟩) (who := 1#32))) rfl rfl rfl rfl ?_
       rintro _ _ ⟨⟨⟩, rfl, hA⟩
       simp only [List.cons_append, List.nil_append] at hA
       replace hA := hA.symm
       subst hA
       refine ⟨(fun _ => subF), ?_⟩
       refine WJ_all (rs := [17]) (by kernel_rfl) rfl ?_
       refine WI_one ?_
       refine WI_ac rfl (Ac_bsL (f := eRq) (zs := [.int .u8 0, .int .u8 0, .int .u8 0, .int .u8 0, .int .u8 0, .int .u8 0, .int .u8 0, .int .u8 0, .int .u8 0, .int .u8 0, .int .u8 0, .int .u8 0, .int .u8 0, .int .u8 0, .int .u8 0, .int .u8 0, .int .u8 0, .int .i64 0, .int .i64 0, .int .i64 0, .int .u32 0, .int .i64 0, .slice none 0 0]) (bs := [.int .u8 0, .int .u8 0, .int .u8 0, .int .u8 0, .int .u8 0, .int .u8 0, .int .u8 0, .int .u8 0, .int .u8 0, .int .u8 0, .int .u8 0, .int .u8 0, .int .u8 0, .int .u8 0, .int .u8 0, .int .u8 0, .int .u8 0, .int .i64 0, .int .i64 0, .int .i64 0, .int .u32 0, .int .i64 0, .slice none 0 0] ++ [.int .u8 0, .int .u8 0, .int .u8 0, .int .u8 0, .int .u8 0, .int .u8 0, .int .u8 0, .int .u8 0, .int .u8 0, .int .u8 0, .int .u8 0, .int .u8 0, .int .u8 0, .int .u8 0, .int .u8 0, .int .u8 0, .int .u8 0, .int .i64 0, .int .i64 0, .int .i64 0, .int .u32 0, .int .i64 0, .slice none 0 0] ++ [.int .u8 0, .int .u8 0, .int .u8 0, .int .u8 0, .int .u8 0, .int .u8 0, .int .u8 0, .int .u8 0, .int .u8 0, .int .u8 0, .int .u8 0, .int .u8 0, .int .u8 0, .int .u8 0, .int .u8 0, .int .u8 0, .int .u8 0, .int .i64 0, .int .i64 0, .int .i64 0, .int .u32 0, .int .i64 0, .slice none 0 0] ++ [.int .u8 0, .int .u8 0, .int .u8 0, .int .u8 0, .int .u8 0, .int .u8 0, .int .u8 0, .int .u8 0, .int .u8 0, .int .u8 0, .int .u8 0, .int .u8 0, .int .u8 0, .int .u8 0, .int .u8 0, .int .u8 0, .int .u8 0, .int .i64 0, .int .i64 0, .int .i64 0, .int .u32 0, .int .i64 0, .slice none 0 0] ++ [.int .u8 0, .int .u8 0, .int .u8 0, .int .u8 0, .int .u8 0, .int .u8 0, .int .u8 0, .int .u8 0, .int .u8 0, .int .u8 0, .int .u8 0, .int .u8 0, .int .u8 0, .int .u8 0, .int .u8 0, .int .u8 0, .int .u8 0, .int .i64 0, .int .i64 0, .int .i64 0, .int .u32 0, .int .i64 0, .slice none 0 0]) (knRq b33 b40 b44) encRq ud77 zr30 sz30 rfl (by kernel_rfl) (by kernel_rfl) (by rfl) (by rfl) (by rfl)) rfl rfl rfl rfl ?_
       rintro _ _ ⟨b53, rfl, rfl⟩
       refine ⟨(fun _ => subF), ?_⟩
       refine WJ_tp 18 rfl (Rd_assign rfl) rfl (hp _ _) ?_
       refine WJ_done (by kernel_rfl) ?_
       refine Ps_wkB (hK9 ⟨b40, b44, b53⟩ (trivial))
    ·skip
     refine WI_ac rfl (Ac_bsL (f := (eU .u8 (w := 8))) (zs := [.int .u8 0]) (bs := [.int .u8 0, .int .u8 0, .int .u8 0, .int .u8 0, .int .u8 0, .int .u8 0]) [65#8, 66#8, 67#8, 68#8, 69#8, 70#8] (encU .u8) ud28 zr5 sz5 rfl (by rw [Array.toList_map, Array.toList_range]; rfl) (by rfl) (by rfl) (by rfl) (by rfl)) rfl rfl rfl rfl ?_
     rintro _ _ ⟨b44, rfl, rfl⟩
     refine ⟨(fun _ => subF), ?_⟩
     refine WJ_all (rs := [5, 9]) (by kernel_rfl) rfl ?_
     refine WI_cons ?_ (WI_cons ?_ (by intro _ h; cases h))
     ·skip
      refine WI_ac rfl (Ac_convSS (cap := 5) (l := [49#8, 50#8, 51#8, 52#8, 53#8]) rfl ud28 ud5) rfl rfl rfl rfl ?_
      rintro _ _ ⟨rfl, rfl⟩
      refine ⟨(fun _ => subF), ?_⟩
      refine WJ_all (rs := [6, 9]) (by kernel_rfl) rfl ?_
      refine WI_cons ?_ (WI_cons ?_ (by intro _ h; cases h))
      ·skip
       refine WI_ac rfl (Ac_call cf24 rfl (hs := storeL_ct (ix := x9) (n := 4) (un := 5) (b := ⟨[49#8, 50#8, 51#8, 52#8, 53#8], some ⟨b40, 0, none⟩, 5⟩) (who := 1#32))) rfl rfl rfl rfl ?_
       rintro _ _ ⟨⟨⟩, rfl, hA⟩
       simp only [List.cons_append, List.nil_append] at hA
       replace hA := hA.symm
       subst hA
       refine ⟨(fun _ => subF), ?_⟩
       refine WJ_all (rs := [9]) (by kernel_rfl) rfl ?_
       refine WI_one ?_
       refine WI_ac rfl (Ac_convSS (cap := 6) (l := [65#8, 66#8, 67#8, 68#8, 69#8, 70#8]) rfl ud28 ud5) rfl rfl rfl rfl ?_
       rintro _ _ ⟨rfl, rfl⟩
       refine ⟨(fun _ => subF), ?_⟩
       refine WJ_all (rs := [10]) (by kernel_rfl) rfl ?_
       refine WI_one ?_
       refine WI_ac rfl (Ac_call cf24 rfl (hs := storeL_ct (ix := x9) (n := 3) (un := 5) (b := ⟨[65#8, 66#8, 67#8, 68#8, 69#8, 70#8], some ⟨b44, 0, none⟩, 6⟩) (who := 1#32))) rfl rfl rfl rfl ?_
       rintro _ _ ⟨⟨⟩, rfl, hA⟩
       simp only [List.cons_append, List.nil_append] at hA
       replace hA := hA.symm
       subst hA
       refine ⟨(fun _ => subF), ?_⟩
       refine WJ_all (rs := [13]) (by kernel_rfl) rfl ?_
       refine WI_one ?_
       refine WI_ac rfl (Ac_call cf24 rfl (hs := storeL_ct (ix := x9) (n := 3) (un := 9) (b := ⟨[97#8, 98#8, 99#8, 100#8, 101#8, 102#8], some ⟨b33, 0, none⟩, 6⟩) (who := 2#32))) rfl rfl rfl rfl ?_
       rintro _ _ ⟨⟨⟩, rfl, hA⟩
       simp only [List.cons_append, List.nil_append] at hA
       replace hA := hA.symm
       subst hA
       refine ⟨(fun _ => subF), ?_⟩
       refine WJ_all (rs := [16]) (by kernel_rfl) rfl ?_
       refine WI_one ?_
       refine WI_ac rfl (Ac_call cf24 rfl (hs := storeL_ct (ix := x9) (n := 3) (un := 4) (b := ⟨[97#8, 98#8, 99#8, 100#8, 101#8, 102#8], some ⟨b33, 0, none⟩, 6⟩) (who := 1#32))) rfl rfl rfl rfl ?_
       rintro _ _ ⟨⟨⟩, rfl, hA⟩
       simp only [List.cons_append, List.nil_append] at hA
       replace hA := hA.symm
       subst hA
       refine ⟨(fun _ => subF), ?_⟩
       refine WJ_all (rs := [17]) (by kernel_rfl) rfl ?_
       refine WI_one ?_
       refine WI_ac rfl (Ac_bsL (f := eRq) (zs := [.int .u8 0, .int .u8 0, .int .u8 0, .int .u8 0, .int .u8 0, .int .u8 0, .int .u8 0, .int .u8 0, .int .u8 0, .int .u8 0, .int .u8 0, .int .u8 0, .int .u8 0, .int .u8 0, .int .u8 0, .int .u8 0, .int .u8 0, .int .i64 0, .int .i64 0, .int .i64 0, .int .u32 0, .int .i64 0, .slice none 0 0]) (bs := [.int .u8 0, .int .u8 0, .int .u8 0, .int .u8 0, .int .u8 0, .int .u8 0, .int .u8 0, .int .u8 0, .int .u8 0, .int .u8 0, .int .u8 0, .int .u8 0, .int .u8 0, .int .u8 0, .int .u8 0, .int .u8 0, .int .u8 0, .int .i64 0, .int .i64 0, .int .i64 0, .int .u32 0, .int .i64 0, .slice none 0 0] ++ [.int .u8 0, .int .u8 0, .int .u8 0, .int .u8 0, .int .u8 0, .int .u8 0, .int .u8 0, .int .u8 0, .int .u8 0, .int .u8 0, .int .u8 0, .int .u8 0, .int .u8 0, .int .u8 0, .int .u8 0, .int .u8 0, .int .u8 0, .int .i64 0, .int .i64 0, .int .i64 0, .int .u32 0, .int .i64 0, .slice none 0 0] ++ [.int .u8 0, .int .u8 0, .int .u8 0, .int .u8 0, .int .u8 0, .int .u8 0, .int .u8 0, .int .u8 0, .int .u8 0, .int .u8 0, .int .u8 0, .int .u8 0, .int .u8 0, .int .u8 0, .int .u8 0, .int .u8 0, .int .u8 0, .int .i64 0, .int .i64 0, .int .i64 0, .int .u32 0, .int .i64 0, .slice none 0 0] ++ [.int .u8 0, .int .u8 0, .int .u8 0, .int .u8 0, .int .u8 0, .int .u8 0, .int .u8 0, .int .u8 0, .int .u8 0, .int .u8 0, .int .u8 0, .int .u8 0, .int .u8 0, .int .u8 0, .int .u8 0, .int .u8 0, .int .u8 0, .int .i64 0, .int .i64 0, .int .i64 0, .int .u32 0, .int .i64 0, .slice none 0 0] ++ [.int .u8 0, .int .u8 0, .int .u8 0, .int .u8 0, .int .u8 0, .int .u8 0, .int .u8 0, .int .u8 0, .int .u8 0, .int .u8 0, .int .u8 0, .int .u8 0, .int .u8 0, .int .u8 0, .int .u8 0, .int .u8 0, .int .u8 0, .int .i64 0, .int .i64 0, .int .i64 0, .int .u32 0, .int .i64 0, .slice none 0 0]) (knRq b33 b40 b44) encRq ud77 zr30 sz30 rfl (by kernel_rfl) (by kernel_rfl) (by rfl) (by rfl) (by rfl)) rfl rfl rfl rfl ?_
       rintro _ _ ⟨b53, rfl, rfl⟩
       refine ⟨(fun _ => subF), ?_⟩
       refine WJ_tp 18 rfl (Rd_assign rfl) rfl (hp _ _) ?_
       refine WJ_done (by kernel_rfl) ?_
       refine Ps_wkB (hK9 ⟨b40, b44, b53⟩ (trivial))
      ·skip
       refine WI_ac rfl (Ac_convSS (cap := 6) (l := [65#8, 66#8, 67#8, 68#8, 69#8, 70#8]) rfl ud28 ud5) rfl rfl rfl rfl ?_
       rintro _ _ ⟨rfl, rfl⟩
       refine ⟨(fun _ => subF), ?_⟩
       refine WJ_all (rs := [6]) (by kernel_rfl) rfl ?_
       refine WI_one ?_
       refine WI_ac rfl (Ac_call cf24 rfl (hs := storeL_ct (ix := x9) (n := 4) (un := 5) (b := ⟨[49#8, 50#8, 51#8, 52#8, 53#8], some ⟨b40, 0, none⟩, 5⟩) (who := 1#32))) rfl rfl rfl rfl ?_
       rintro _ _ ⟨⟨⟩, rfl, hA⟩
       simp only [List.cons_append, List.nil_append] at hA
       replace hA := hA.symm
       subst hA
       refine ⟨(fun _ => subF), ?_⟩
       refine WJ_all (rs := [10]) (by kernel_rfl) rfl ?_
       refine WI_one ?_
       refine WI_ac rfl (Ac_call cf24 rfl (hs := storeL_ct (ix := x9) (n := 3) (un := 5) (b := ⟨[65#8, 66#8, 67#8, 68#8, 69#8, 70#8], some ⟨b44, 0, none⟩, 6⟩) (who := 1#32))) rfl rfl rfl rfl ?_
       rintro _ _ ⟨⟨⟩, rfl, hA⟩
       simp only [List.cons_append, List.nil_append] at hA
       replace hA := hA.symm
       subst hA
       refine ⟨(fun _ => subF), ?_⟩
       refine WJ_all (rs := [13]) (by kernel_rfl) rfl ?_
       refine WI_one ?_
       refine WI_ac rfl (Ac_call cf24 rfl (hs := storeL_ct (ix := x9) (n := 3) (un := 9) (b := ⟨[97#8, 98#8, 99#8, 100#8, 101#8, 102#8], some ⟨b33, 0, none⟩, 6⟩) (who := 2#32))) rfl rfl rfl rfl ?_
       rintro _ _ ⟨⟨⟩, rfl, hA⟩
       simp only [List.cons_append, List.nil_append] at hA
       replace hA := hA.symm
       subst hA
       refine ⟨(fun _ => subF), ?_⟩
       refine WJ_all (rs := [16]) (by kernel_rfl) rfl ?_
       refine WI_one ?_
       refine WI_ac rfl (Ac_call cf24 rfl (hs := storeL_ct (ix := x9) (n := 3) (un := 4) (b := ⟨[97#8, 98#8, 99#8, 100#8, 101#8, 102#8], some ⟨b33, 0, none⟩, 6⟩) (who := 1#32))) rfl rfl rfl rfl ?_
       rintro _ _ ⟨⟨⟩, rfl, hA⟩
       simp only [List.cons_append, List.nil_append] at hA
       replace hA := hA.symm
       subst hA
       refine ⟨(fun _ => subF), ?_⟩
       refine WJ_all (rs := [17]) (by kernel_rfl) rfl ?_
       refine WI_one ?_
       refine WI_ac rfl (Ac_bsL (f := eRq) (zs := [.int .u8 0, .int .u8 0, .int .u8 0, .int .u8 0, .int .u8 0, .int .u8 0, .int .u8 0, .int .u8 0, .int .u8 0, .int .u8 0, .int .u8 0, .int .u8 0, .int .u8 0, .int .u8 0, .int .u8 0, .int .u8 0, .int .u8 0, .int .i64 0, .int .i64 0, .int .i64 0, .int .u32 0, .int .i64 0, .slice none 0 0]) (bs := [.int .u8 0, .int .u8 0, .int .u8 0, .int .u8 0, .int .u8 0, .int .u8 0, .int .u8 0, .int .u8 0, .int .u8 0, .int .u8 0, .int .u8 0, .int .u8 0, .int .u8 0, .int .u8 0, .int .u8 0, .int .u8 0, .int .u8 0, .int .i64 0, .int .i64 0, .int .i64 0, .int .u32 0, .int .i64 0, .slice none 0 0] ++ [.int .u8 0, .int .u8 0, .int .u8 0, .int .u8 0, .int .u8 0, .int .u8 0, .int .u8 0, .int .u8 0, .int .u8 0, .int .u8 0, .int .u8 0, .int .u8 0, .int .u8 0, .int .u8 0, .int .u8 0, .int .u8 0, .int .u8 0, .int .i64 0, .int .i64 0, .int .i64 0, .int .u32 0, .int .i64 0, .slice none 0 0] ++ [.int .u8 0, .int .u8 0, .int .u8 0, .int .u8 0, .int .u8 0, .int .u8 0, .int .u8 0, .int .u8 0, .int .u8 0, .int .u8 0, .int .u8 0, .int .u8 0, .int .u8 0, .int .u8 0, .int .u8 0, .int .u8 0, .int .u8 0, .int .i64 0, .int .i64 0, .int .i64 0, .int .u32 0, .int .i64 0, .slice none 0 0] ++ [.int .u8 0, .int .u8 0, .int .u8 0, .int .u8 0, .int .u8 0, .int .u8 0, .int .u8 0, .int .u8 0, .int .u8 0, .int .u8 0, .int .u8 0, .int .u8 0, .int .u8 0, .int .u8 0, .int .u8 0, .int .u8 0, .int .u8 0, .int .i64 0, .int .i64 0, .int .i64 0, .int .u32 0, .int .i64 0, .slice none 0 0] ++ [.int .u8 0, .int .u8 0, .int .u8 0, .int .u8 0, .int .u8 0, .int .u8 0, .int .u8 0, .int .u8 0, .int .u8 0, .int .u8 0, .int .u8 0, .int .u8 0, .int .u8 0, .int .u8 0, .int .u8 0, .int .u8 0, .int .u8 0, .int .i64 0, .int .i64 0, .int .i64 0, .int .u32 0, .int .i64 0, .slice none 0 0]) (knRq b33 b40 b44) encRq ud77 zr30 sz30 rfl (by kernel_rfl) (by kernel_rfl) (by rfl) (by rfl) (by rfl)) rfl rfl rfl rfl ?_
       rintro _ _ ⟨b53, rfl, rfl⟩
       refine ⟨(fun _ => subF), ?_⟩
       refine WJ_tp 18 rfl (Rd_assign rfl) rfl (hp _ _) ?_
       refine WJ_done (by kernel_rfl) ?_
       refine Ps_wkB (hK9 ⟨b40, b44, b53⟩ (trivial))
     ·skip
      refine WI_ac rfl (Ac_convSS (cap := 6) (l := [65#8, 66#8, 67#8, 68#8, 69#8, 70#8]) rfl ud28 ud5) rfl rfl rfl rfl ?_
      rintro _ _ ⟨rfl, rfl⟩
      refine ⟨(fun _ => subF), ?_⟩
      refine WJ_all (rs := [5]) (by kernel_rfl) rfl ?_
      refine WI_one ?_
      refine WI_ac rfl (Ac_convSS (cap := 5) (l := [49#8, 50#8, 51#8, 52#8, 53#8]) rfl ud28 ud5) rfl rfl rfl rfl ?_
      rintro _ _ ⟨rfl, rfl⟩
      refine ⟨(fun _ => subF), ?_⟩
      refine WJ_all (rs := [6]) (by kernel_rfl) rfl ?_
      refine WI_one ?_
      refine WI_ac rfl (Ac_call cf24 rfl (hs := storeL_ct (ix := x9) (n := 4) (un := 5) (b := ⟨[49#8, 50#8, 51#8, 52#8, 53#8], some ⟨b40, 0, none⟩, 5⟩) (who := 1#32))) rfl rfl rfl rfl ?_
      rintro _ _ ⟨⟨⟩, rfl, hA⟩
      simp only [List.cons_append, List.nil_append] at hA
      replace hA := hA.symm
      subst hA
      refine ⟨(fun _ => subF), ?_⟩
      refine WJ_all (rs := [10]) (by kernel_rfl) rfl ?_
      refine WI_one ?_
      refine WI_ac rfl (Ac_call cf24 rfl (hs := storeL_ct (ix := x9) (n := 3) (un := 5) (b := ⟨[65#8, 66#8, 67#8, 68#8, 69#8, 70#8], some ⟨b44, 0, none⟩, 6⟩) (who := 1#32))) rfl rfl rfl rfl ?_
      rintro _ _ ⟨⟨⟩, rfl, hA⟩
      simp only [List.cons_append, List.nil_append] at hA
      replace hA := hA.symm
      subst hA
      refine ⟨(fun _ => subF), ?_⟩
      refine WJ_all (rs := [13]) (by kernel_rfl) rfl ?_
      refine WI_one ?_
      refine WI_ac rfl (Ac_call cf24 rfl (hs := storeL_ct (ix := x9) (n := 3) (un := 9) (b := ⟨[97#8, 98#8, 99#8, 100#8, 101#8, 102#8], some ⟨b33, 0, none⟩, 6⟩) (who := 2#32))) rfl rfl rfl rfl ?_
      rintro _ _ ⟨⟨⟩, rfl, hA⟩
      simp only [List.cons_append, List.nil_append] at hA
      replace hA := hA.symm
      subst hA
      refine ⟨(fun _ => subF), ?_⟩
      refine WJ_all (rs := [16]) (by kernel_rfl) rfl ?_
      refine WI_one ?_
      refine WI_ac rfl (Ac_call cf24 rfl (hs := storeL_ct (ix := x9) (n := 3) (un := 4) (b := ⟨[97#8, 98#8, 99#8, 100#8, 101#8, 102#8], some ⟨b33, 0, none⟩, 6⟩) (who := 1#32))) rfl rfl rfl rfl ?_
      rintro _ _ ⟨⟨⟩, rfl, hA⟩
      simp only [List.cons_append, List.nil_append] at hA
      replace hA := hA.symm
      subst hA
      refine ⟨(fun _ => subF), ?_⟩
      refine WJ_all (rs := [17]) (by kernel_rfl) rfl ?_
      refine WI_one ?_
      refine WI_ac rfl (Ac_bsL (f := eRq) (zs := [.int .u8 0, .int .u8 0, .int .u8 0, .int .u8 0, .int .u8 0, .int .u8 0, .int .u8 0, .int .u8 0, .int .u8 0, .int .u8 0, .int .u8 0, .int .u8 0, .int .u8 0, .int .u8 0, .int .u8 0, .int .u8 0, .int .u8 0, .int .i64 0, .int .i64 0, .int .i64 0, .int .u32 0, .int .i64 0, .slice none 0 0]) (bs := [.int .u8 0, .int .u8 0, .int .u8 0, .int .u8 0, .int .u8 0, .int .u8 0, .int .u8 0, .int .u8 0, .int .u8 0, .int .u8 0, .int .u8 0, .int .u8 0, .int .u8 0, .int .u8 0, .int .u8 0, .int .u8 0, .int .u8 0, .int .i64 0, .int .i64 0, .int .i64 0, .int .u32 0, .int .i64 0, .slice none 0 0] ++ [.int .u8 0, .int .u8 0, .int .u8 0, .int .u8 0, .int .u8 0, .int .u8 0, .int .u8 0, .int .u8 0, .int .u8 0, .int .u8 0, .int .u8 0, .int .u8 0, .int .u8 0, .int .u8 0, .int .u8 0, .int .u8 0, .int .u8 0, .int .i64 0, .int .i64 0, .int .i64 0, .int .u32 0, .int .i64 0, .slice none 0 0] ++ [.int .u8 0, .int .u8 0, .int .u8 0, .int .u8 0, .int .u8 0, .int .u8 0, .int .u8 0, .int .u8 0, .int .u8 0, .int .u8 0, .int .u8 0, .int .u8 0, .int .u8 0, .int .u8 0, .int .u8 0, .int .u8 0, .int .u8 0, .int .i64 0, .int .i64 0, .int .i64 0, .int .u32 0, .int .i64 0, .slice none 0 0] ++ [.int .u8 0, .int .u8 0, .int .u8 0, .int .u8 0, .int .u8 0, .int .u8 0, .int .u8 0, .int .u8 0, .int .u8 0, .int .u8 0, .int .u8 0, .int .u8 0, .int .u8 0, .int .u8 0, .int .u8 0, .int .u8 0, .int .u8 0, .int .i64 0, .int .i64 0, .int .i64 0, .int .u32 0, .int .i64 0, .slice none 0 0] ++ [.int .u8 0, .int .u8 0, .int .u8 0, .int .u8 0, .int .u8 0, .int .u8 0, .int .u8 0, .int .u8 0, .int .u8 0, .int .u8 0, .int .u8 0, .int .u8 0, .int .u8 0, .int .u8 0, .int .u8 0, .int .u8 0, .int .u8 0, .int .i64 0, .int .i64 0, .int .i64 0, .int .u32 0, .int .i64 0, .slice none 0 0]) (knRq b33 b40 b44) encRq ud77 zr30 sz30 rfl (by kernel_rfl) (by kernel_rfl) (by rfl) (by rfl) (by rfl)) rfl rfl rfl rfl ?_
      rintro _ _ ⟨b53, rfl, rfl⟩
      refine ⟨(fun _ => subF), ?_⟩
      refine WJ_tp 18 rfl (Rd_assign rfl) rfl (hp _ _) ?_
      refine WJ_done (by kernel_rfl) ?_
      refine Ps_wkB (hK9 ⟨b40, b44, b53⟩ (trivial))
   ·skip
    refine WI_ac rfl (Ac_bsL (f := (eU .u8 (w := 8))) (zs := [.int .u8 0]) (bs := [.int .u8 0, .int .u8 0, .int .u8 0, .int .u8 0, .int .u8 0, .int .u8 0]) [65#8, 66#8, 67#8, 68#8, 69#8, 70#8] (encU .u8) ud28 zr5 sz5 rfl (by rw [Array.toList_map, Array.toList_range]; rfl) (by rfl) (by rfl) (by rfl) (by rfl)) rfl rfl rfl rfl ?_
    rintro _ _ ⟨b44, rfl, rfl⟩
    refine ⟨(fun _ => subF), ?_⟩
    refine WJ_all (rs := [4, 9]) (by kernel_rfl) rfl ?_
    refine WI_cons ?_ (WI_cons ?_ (by intro _ h; cases h))
    ·skip
     refine WI_ac rfl (Ac_bsL (f := (eU .u8 (w := 8))) (zs := [.int .u8 0]) (bs := [.int .u8 0, .int .u8 0, .int .u8 0, .int .u8 0, .int .u8 0]) [49#8, 50#8, 51#8, 52#8, 53#8] (encU .u8) ud28 zr5 sz5 rfl (by rw [Array.toList_map, Array.toList_range]; rfl) (by rfl) (by rfl) (by rfl) (by rfl)) rfl rfl rfl rfl ?_
     rintro _ _ ⟨b40, rfl, rfl⟩
     refine ⟨(fun _ => subF), ?_⟩
     refine WJ_all (rs := [5, 9]) (by kernel_rfl) rfl ?_
     refine WI_cons ?_ (WI_cons ?_ (by intro _ h; cases h))
     ·skip
      refine WI_ac rfl (Ac_convSS (cap := 5) (l := [49#8, 50#8, 51#8, 52#8, 53#8]) rfl ud28 ud5) rfl rfl rfl rfl ?_
      rintro _ _ ⟨rfl, rfl⟩
      refine ⟨(fun _ => subF), ?_⟩
      refine WJ_all (rs := [6, 9]) (by kernel_rfl) rfl ?_
      refine WI_cons ?_ (WI_cons ?_ (by intro _ h; cases h))
      ·skip
       refine WI_ac rfl (Ac_call cf24 rfl (hs := storeL_ct (ix := x9) (n := 4) (un := 5) (b := ⟨[49#8, 50#8, 51#8, 52#8, 53#8], some ⟨b40, 0, none⟩, 5⟩) (who := 1#32))) rfl rfl rfl rfl ?_
       rintro _ _ ⟨⟨⟩, rfl, hA⟩
       simp only [List.cons_append, List.nil_append] at hA
       replace hA := hA.symm
       subst hA
       refine ⟨(fun _ => subF), ?_⟩
       refine WJ_all (rs := [9]) (by kernel_rfl) rfl ?_
       refine WI_one ?_
       refine WI_ac rfl (Ac_convSS (cap := 6) (l := [65#8, 66#8, 67#8, 68#8, 69#8, 70#8]) rfl ud28 ud5) rfl rfl rfl rfl ?_
       rintro _ _ ⟨rfl, rfl⟩
       refine ⟨(fun _ => subF), ?_⟩
       refine WJ_all (rs := [10]) (by kernel_rfl) rfl ?_
       refine WI_one ?_
       refine WI_ac rfl (Ac_call cf24 rfl (hs := storeL_ct (ix := x9) (n := 3) (un := 5) (b := ⟨[65#8, 66#8, 67#8, 68#8, 69#8, 70#8], some ⟨b44, 0, none⟩, 6⟩) (who := 1#32))) rfl rfl rfl rfl ?_
       rintro _ _ ⟨⟨⟩, rfl, hA⟩
       simp only [List.cons_append, List.nil_append] at hA
       replace hA := hA.symm
       subst hA
       refine ⟨(fun _ => subF), ?_⟩
       refine WJ_all (rs := [13]) (by kernel_rfl) rfl ?_
       refine WI_one ?_
       refine WI_ac rfl (Ac_call cf24 rfl (hs := storeL_ct (ix := x9) (n := 3) (un := 9) (b := ⟨[97#8, 98#8, 99#8, 100#8, 101#8, 102#8], some ⟨b33, 0, none⟩, 6⟩) (who := 2#32))) rfl rfl rfl rfl ?_
       rintro _ _ ⟨⟨⟩, rfl, hA⟩
       simp only [List.cons_append, List.nil_append] at hA
       replace hA := hA.symm
       subst hA
       refine ⟨(fun _ => subF), ?_⟩
       refine WJ_all (rs := [16]) (by kernel_rfl) rfl ?_
       refine WI_one ?_
       refine WI_ac rfl (Ac_call cf24 rfl (hs := storeL_ct (ix := x9) (n := 3) (un := 4) (b := ⟨[97#8, 98#8, 99#8, 100#8, 101#8, 102#8], some ⟨b33, 0, none⟩, 6⟩) (who := 1#32))) rfl rfl rfl rfl ?_
       rintro _ _ ⟨⟨⟩, rfl, hA⟩
       simp only [List.cons_append, List.nil_append] at hA
       replace hA := hA.symm
       subst hA
       refine ⟨(fun _ => subF), ?_⟩
       refine WJ_all (rs := [17]) (by kernel_rfl) rfl ?_
       refine WI_one ?_
       refine WI_ac rfl (Ac_bsL (f := eRq) (zs := [.int .u8 0, .int .u8 0, .int .u8 0, .int .u8 0, .int .u8 0, .int .u8 0, .int .u8 0, .int .u8 0, .int .u8 0, .int .u8 0, .int .u8 0, .int .u8 0, .int .u8 0, .int .u8 0, .int .u8 0, .int .u8 0, .int .u8 0, .int .i64 0, .int .i64 0, .int .i64 0, .int .u32 0, .int .i64 0, .slice none 0 0]) (bs := [.int .u8 0, .int .u8 0, .int .u8 0, .int .u8 0, .int .u8 0, .int .u8 0, .int .u8 0, .int .u8 0, .int .u8 0, .int .u8 0, .int .u8 0, .int .u8 0, .int .u8 0, .int .u8 0, .int .u8 0, .int .u8 0, .int .u8 0, .int .i64 0, .int .i64 0, .int .i64 0, .int .u32 0, .int .i64 0, .slice none 0 0] ++ [.int .u8 0, .int .u8 0, .int .u8 0, .int .u8 0, .int .u8 0, .int .u8 0, .int .u8 0, .int .u8 0, .int .u8 0, .int .u8 0, .int .u8 0, .int .u8 0, .int .u8 0, .int .u8 0, .int .u8 0, .int .u8 0, .int .u8 0, .int .i64 0, .int .i64 0, .int .i64 0, .int .u32 0, .int .i64 0, .slice none 0 0] ++ [.int .u8 0, .int .u8 0, .int .u8 0, .int .u8 0, .int .u8 0, .int .u8 0, .int .u8 0, .int .u8 0, .int .u8 0, .int .u8 0, .int .u8 0, .int .u8 0, .int .u8 0, .int .u8 0, .int .u8 0, .int .u8 0, .int .u8 0, .int .i64 0, .int .i64 0, .int .i64 0, .int .u32 0, .int .i64 0, .slice none 0 0] ++ [.int .u8 0, .int .u8 0, .int .u8 0, .int .u8 0, .int .u8 0, .int .u8 0, .int .u8 0, .int .u8 0, .int .u8 0, .int .u8 0, .int .u8 0, .int .u8 0, .int .u8 0, .int .u8 0, .int .u8 0, .int .u8 0, .int .u8 0, .int .i64 0, .int .i64 0, .int .i64 0, .int .u32 0, .int .i64 0, .slice none 0 0] ++ [.int .u8 0, .int .u8 0, .int .u8 0, .int .u8 0, .int .u8 0, .int .u8 0, .int .u8 0, .int .u8 0, .int .u8 0, .int .u8 0, .int .u8 0, .int .u8 0, .int .u8 0, .int .u8 0, .int .u8 0, .int .u8 0, .int .u8 0, .int .i64 0, .int .i64 0, .int .i64 0, .int .u32 0, .int .i64 0, .slice none 0 0]) (knRq b33 b40 b44) encRq ud77 zr30 sz30 rfl (by kernel_rfl) (by kernel_rfl) (by rfl) (by rfl) (by rfl)) rfl rfl rfl rfl ?_
       rintro _ _ ⟨b53, rfl, rfl⟩
       refine ⟨(fun _ => subF), ?_⟩
       refine WJ_tp 18 rfl (Rd_assign rfl) rfl (hp _ _) ?_
       refine WJ_done (by kernel_rfl) ?_
       refine Ps_wkB (hK9 ⟨b40, b44, b53⟩ (trivial))
      ·skip
       refine WI_ac rfl (Ac_convSS (cap := 6) (l := [65#8, 66#8, 67#8, 68#8, 69#8, 70#8]) rfl ud28 ud5) rfl rfl rfl rfl ?_
       rintro _ _ ⟨rfl, rfl⟩
       refine ⟨(fun _ => subF), ?_⟩
       refine WJ_all (rs := [6]) (by kernel_rfl) rfl ?_
       refine WI_one ?_
       refine WI_ac rfl (Ac_call cf24 rfl (hs := storeL_ct (ix := x9) (n := 4) (un := 5) (b := ⟨[49#8, 50#8, 51#8, 52#8, 53#8], some ⟨b40, 0, none⟩, 5⟩) (who := 1#32))) rfl rfl rfl rfl ?_
       rintro _ _ ⟨⟨⟩, rfl, hA⟩
       simp only [List.cons_append, List.nil_append] at hA
       replace hA := hA.symm
       subst hA
       refine ⟨(fun _ => subF), ?_⟩
       refine WJ_all (rs := [10]) (by kernel_rfl) rfl ?_
       refine WI_one ?_
       refine WI_ac rfl (Ac_call cf24 rfl (hs := storeL_ct (ix := x9) (n := 3) (un := 5) (b := ⟨[65#8, 66#8, 67#8, 68#8, 69#8, 70#8], some ⟨b44, 0, none⟩, 6⟩) (who := 1#32))) rfl rfl rfl rfl ?_
       rintro _ _ ⟨⟨⟩, rfl, hA⟩
       simp only [List.cons_append, List.nil_append] at hA
       replace hA := hA.symm
       subst hA
       refine ⟨(fun _ => subF), ?_⟩
       refine WJ_all (rs := [13]) (by kernel_rfl) rfl ?_
       refine WI_one ?_
       refine WI_ac rfl (Ac_call cf24 rfl (hs := storeL_ct (ix := x9) (n := 3) (un := 9) (b := ⟨[97#8, 98#8, 99#8, 100#8, 101#8, 102#8], some ⟨b33, 0, none⟩, 6⟩) (who := 2#32))) rfl rfl rfl rfl ?_
       rintro _ _ ⟨⟨⟩, rfl, hA⟩
       simp only [List.cons_append, List.nil_append] at hA
       replace hA := hA.symm
       subst hA
       refine ⟨(fun _ => subF), ?_⟩
       refine WJ_all (rs := [16]) (by kernel_rfl) rfl ?_
       refine WI_one ?_
       refine WI_ac rfl (Ac_call cf24 rfl (hs := storeL_ct (ix := x9) (n := 3) (un := 4) (b := ⟨[97#8, 98#8, 99#8, 100#8, 101#8, 102#8], some ⟨b33, 0, none⟩, 6⟩) (who := 1#32))) rfl rfl rfl rfl ?_
       rintro _ _ ⟨⟨⟩, rfl, hA⟩
       simp only [List.cons_append, List.nil_append] at hA
       replace hA := hA.symm
       subst hA
       refine ⟨(fun _ => subF), ?_⟩
       refine WJ_all (rs := [17]) (by kernel_rfl) rfl ?_
       refine WI_one ?_
       refine WI_ac rfl (Ac_bsL (f := eRq) (zs := [.int .u8 0, .int .u8 0, .int .u8 0, .int .u8 0, .int .u8 0, .int .u8 0, .int .u8 0, .int .u8 0, .int .u8 0, .int .u8 0, .int .u8 0, .int .u8 0, .int .u8 0, .int .u8 0, .int .u8 0, .int .u8 0, .int .u8 0, .int .i64 0, .int .i64 0, .int .i64 0, .int .u32 0, .int .i64 0, .slice none 0 0]) (bs := [.int .u8 0, .int .u8 0, .int .u8 0, .int .u8 0, .int .u8 0, .int .u8 0, .int .u8 0, .int .u8 0, .int .u8 0, .int .u8 0, .int .u8 0, .int .u8 0, .int .u8 0, .int .u8 0, .int .u8 0, .int .u8 0, .int .u8 0, .int .i64 0, .int .i64 0, .int .i64 0, .int .u32 0, .int .i64 0, .slice none 0 0] ++ [.int .u8 0, .int .u8 0, .int .u8 0, .int .u8 0, .int .u8 0, .int .u8 0, .int .u8 0, .int .u8 0, .int .u8 0, .int .u8 0, .int .u8 0, .int .u8 0, .int .u8 0, .int .u8 0, .int .u8 0, .int .u8 0, .int .u8 0, .int .i64 0, .int .i64 0, .int .i64 0, .int .u32 0, .int .i64 0, .slice none 0 0] ++ [.int .u8 0, .int .u8 0, .int .u8 0, .int .u8 0, .int .u8 0, .int .u8 0, .int .u8 0, .int .u8 0, .int .u8 0, .int .u8 0, .int .u8 0, .int .u8 0, .int .u8 0, .int .u8 0, .int .u8 0, .int .u8 0, .int .u8 0, .int .i64 0, .int .i64 0, .int .i64 0, .int .u32 0, .int .i64 0, .slice none 0 0] ++ [.int .u8 0, .int .u8 0, .int .u8 0, .int .u8 0, .int .u8 0, .int .u8 0, .int .u8 0, .int .u8 0, .int .u8 0, .int .u8 0, .int .u8 0, .int .u8 0, .int .u8 0, .int .u8 0, .int .u8 0, .int .u8 0, .int .u8 0, .int .i64 0, .int .i64 0, .int .i64 0, .int .u32 0, .int .i64 0, .slice none 0 0] ++ [.int .u8 0, .int .u8 0, .int .u8 0, .int .u8 0, .int .u8 0, .int .u8 0, .int .u8 0, .int .u8 0, .int .u8 0, .int .u8 0, .int .u8 0, .int .u8 0, .int .u8 0, .int .u8 0, .int .u8 0, .int .u8 0, .int .u8 0, .int .i64 0, .int .i64 0, .int .i64 0, .int .u32 0, .int .i64 0, .slice none 0 0]) (knRq b33 b40 b44) encRq ud77 zr30 sz30 rfl (by kernel_rfl) (by kernel_rfl) (by rfl) (by rfl) (by rfl)) rfl rfl rfl rfl ?_
       rintro _ _ ⟨b53, rfl, rfl⟩
       refine ⟨(fun _ => subF), ?_⟩
       refine WJ_tp 18 rfl (Rd_assign rfl) rfl (hp _ _) ?_
       refine WJ_done (by kernel_rfl) ?_
       refine Ps_wkB (hK9 ⟨b40, b44, b53⟩ (trivial))
     ·skip
      refine WI_ac rfl (Ac_convSS (cap := 6) (l := [65#8, 66#8, 67#8, 68#8, 69#8, 70#8]) rfl ud28 ud5) rfl rfl rfl rfl ?_
      rintro _ _ ⟨rfl, rfl⟩
      refine ⟨(fun _ => subF), ?_⟩
      refine WJ_all (rs := [5]) (by kernel_rfl) rfl ?_
      refine WI_one ?_
      refine WI_ac rfl (Ac_convSS (cap := 5) (l := [49#8, 50#8, 51#8, 52#8, 53#8]) rfl ud28 ud5) rfl rfl rfl rfl ?_
      rintro _ _ ⟨rfl, rfl⟩
      refine ⟨(fun _ => subF), ?_⟩
      refine WJ_all (rs := [6]) (by kernel_rfl) rfl ?_
      refine WI_one ?_
      refine WI_ac rfl (Ac_call cf24 rfl (hs := storeL_ct (ix := x9) (n := 4) (un := 5) (b := ⟨[49#8, 50#8, 51#8, 52#8, 53#8], some ⟨b40, 0, none⟩, 5⟩) (who := 1#32))) rfl rfl rfl rfl ?_
      rintro _ _ ⟨⟨⟩, rfl, hA⟩
      simp only [List.cons_append, List.nil_append] at hA
      replace hA := hA.symm
      subst hA
      refine ⟨(fun _ => subF), ?_⟩
      refine WJ_all (rs := [10]) (by kernel_rfl) rfl ?_
      refine WI_one ?_
      refine WI_ac rfl (Ac_call cf24 rfl (hs := storeL_ct (ix := x9) (n := 3) (un := 5) (b := ⟨[65#8, 66#8, 67#8, 68#8, 69#8, 70#8], some ⟨b44, 0, none⟩, 6⟩) (who := 1#32))) rfl rfl rfl rfl ?_
      rintro _ _ ⟨⟨⟩, rfl, hA⟩
      simp only [List.cons_append, List.nil_append] at hA
      replace hA := hA.symm
      subst hA
      refine ⟨(fun _ => subF), ?_⟩
      refine WJ_all (rs := [13]) (by kernel_rfl) rfl ?_
      refine WI_one ?_
      refine WI_ac rfl (Ac_call cf24 rfl (hs := storeL_ct (ix := x9) (n := 3) (un := 9) (b := ⟨[97#8, 98#8, 99#8, 100#8, 101#8, 102#8], some ⟨b33, 0, none⟩, 6⟩) (who := 2#32))) rfl rfl rfl rfl ?_
      rintro _ _ ⟨⟨⟩, rfl, hA⟩
      simp only [List.cons_append, List.nil_append] at hA
      replace hA := hA.symm
      subst hA
      refine ⟨(fun _ => subF), ?_⟩
      refine WJ_all (rs := [16]) (by kernel_rfl) rfl ?_
      refine WI_one ?_
      refine WI_ac rfl (Ac_call cf24 rfl (hs := storeL_ct (ix := x9) (n := 3) (un := 4) (b := ⟨[97#8, 98#8, 99#8, 100#8, 101#8, 102#8], some ⟨b33, 0, none⟩, 6⟩) (who := 1#32))) rfl rfl rfl rfl ?_
      rintro _ _ ⟨⟨⟩, rfl, hA⟩
      simp only [List.cons_append, List.nil_append] at hA
      replace hA := hA.symm
      subst hA
      refine ⟨(fun _ => subF), ?_⟩
      refine WJ_all (rs := [17]) (by kernel_rfl) rfl ?_
      refine WI_one ?_
      refine WI_ac rfl (Ac_bsL (f := eRq) (zs := [.int .u8 0, .int .u8 0, .int .u8 0, .int .u8 0, .int .u8 0, .int .u8 0, .int .u8 0, .int .u8 0, .int .u8 0, .int .u8 0, .int .u8 0, .int .u8 0, .int .u8 0, .int .u8 0, .int .u8 0, .int .u8 0, .int .u8 0, .int .i64 0, .int .i64 0, .int .i64 0, .int .u32 0, .int .i64 0, .slice none 0 0]) (bs := [.int .u8 0, .int .u8 0, .int .u8 0, .int .u8 0, .int .u8 0, .int .u8 0, .int .u8 0, .int .u8 0, .int .u8 0, .int .u8 0, .int .u8 0, .int .u8 0, .int .u8 0, .int .u8 0, .int .u8 0, .int .u8 0, .int .u8 0, .int .i64 0, .int .i64 0, .int .i64 0, .int .u32 0, .int .i64 0, .slice none 0 0] ++ [.int .u8 0, .int .u8 0, .int .u8 0, .int .u8 0, .int .u8 0, .int .u8 0, .int .u8 0, .int .u8 0, .int .u8 0, .int .u8 0, .int .u8 0, .int .u8 0, .int .u8 0, .int .u8 0, .int .u8 0, .int .u8 0, .int .u8 0, .int .i64 0, .int .i64 0, .int .i64 0, .int .u32 0, .int .i64 0, .slice none 0 0] ++ [.int .u8 0, .int .u8 0, .int .u8 0, .int .u8 0, .int .u8 0, .int .u8 0, .int .u8 0, .int .u8 0, .int .u8 0, .int .u8 0, .int .u8 0, .int .u8 0, .int .u8 0, .int .u8 0, .int .u8 0, .int .u8 0, .int .u8 0, .int .i64 0, .int .i64 0, .int .i64 0, .int .u32 0, .int .i64 0, .slice none 0 0] ++ [.int .u8 0, .int .u8 0, .int .u8 0, .int .u8 0, .int .u8 0, .int .u8 0, .int .u8 0, .int .u8 0, .int .u8 0, .int .u8 0, .int .u8 0, .int .u8 0, .int .u8 0, .int .u8 0, .int .u8 0, .int .u8 0, .int .u8 0, .int .i64 0, .int .i64 0, .int .i64 0, .int .u32 0, .int .i64 0, .slice none 0 0] ++ [.int .u8 0, .int .u8 0, .int .u8 0, .int .u8 0, .int .u8 0, .int .u8 0, .int .u8 0, .int .u8 0, .int .u8 0, .int .u8 0, .int .u8 0, .int .u8 0, .int .u8 0, .int .u8 0, .int .u8 0, .int .u8 0, .int .u8 0, .int .i64 0, .int .i64 0, .int .i64 0, .int .u32 0, .int .i64 0, .slice none 0 0]) (knRq b33 b40 b44) encRq ud77 zr30 sz30 rfl (by kernel_rfl) (by kernel_rfl) (by rfl) (by rfl) (by rfl)) rfl rfl rfl rfl ?_
      rintro _ _ ⟨b53, rfl, rfl⟩
      refine ⟨(fun _ => subF), ?_⟩
      refine WJ_tp 18 rfl (Rd_assign rfl) rfl (hp _ _) ?_
      refine WJ_done (by kernel_rfl) ?_
      refine Ps_wkB (hK9 ⟨b40, b44, b53⟩ (trivial))
    ·skip
     refine WI_ac rfl (Ac_convSS (cap := 6) (l := [65#8, 66#8, 67#8, 68#8, 69#8, 70#8]) rfl ud28 ud5) rfl rfl rfl rfl ?_
     rintro _ _ ⟨rfl, rfl⟩
     refine ⟨(fun _ => subF), ?_⟩
     refine WJ_all (rs := [4]) (by kernel_rfl) rfl ?_
     refine WI_one ?_
     refine WI_ac rfl (Ac_bsL (f := (eU .u8 (w := 8))) (zs := [.int .u8 0]) (bs := [.int .u8 0, .int .u8 0, .int .u8 0, .int .u8 0, .int .u8 0]) [49#8, 50#8, 51#8, 52#8, 53#8] (encU .u8) ud28 zr5 sz5 rfl (by rw [Array.toList_map, Array.toList_range]; rfl) (by rfl) (by rfl) (by rfl) (by rfl)) rfl rfl rfl rfl ?_
     rintro _ _ ⟨b40, rfl, rfl⟩
     refine ⟨(fun _ => subF), ?_⟩
     refine WJ_all (rs := [5]) (by kernel_rfl) rfl ?_
     refine WI_one ?_
     refine WI_ac rfl (Ac_convSS (cap := 5) (l := [49#8, 50#8, 51#8, 52#8, 53#8]) rfl ud28 ud5) rfl rfl rfl rfl ?_
     rintro _ _ ⟨rfl, rfl⟩
     refine ⟨(fun _ => subF), ?_⟩
     refine WJ_all (rs := [6]) (by kernel_rfl) rfl ?_
     refine WI_one ?_
     refine WI_ac rfl (Ac_call cf24 rfl (hs := storeL_ct (ix := x9) (n := 4) (un := 5) (b := ⟨[49#8, 50#8, 51#8, 52#8, 53#8], some ⟨b40, 0, none⟩, 5⟩) (who := 1#32))) rfl rfl rfl rfl ?_
     rintro _ _ ⟨⟨⟩, rfl, hA⟩
     simp only [List.cons_append, List.nil_append] at hA
     replace hA := hA.symm
     subst hA
     refine ⟨(fun _ => subF), ?_⟩
     refine WJ_all (rs := [10]) (by kernel_rfl) rfl ?_
     refine WI_one ?_
     refine WI_ac rfl (Ac_call cf24 rfl (hs := storeL_ct (ix := x9) (n := 3) (un := 5) (b := ⟨[65#8, 66#8, 67#8, 68#8, 69#8, 70#8], some ⟨b44, 0, none⟩, 6⟩) (who := 1#32))) rfl rfl rfl rfl ?_
     rintro _ _ ⟨⟨⟩, rfl, hA⟩
     simp only [List.cons_append, List.nil_append] at hA
     replace hA := hA.symm
     subst hA
     refine ⟨(fun _ => subF), ?_⟩
     refine WJ_all (rs := [13]) (by kernel_rfl) rfl ?_
     refine WI_one ?_
     refine WI_ac rfl (Ac_call cf24 rfl (hs := storeL_ct (ix := x9) (n := 3) (un := 9) (b := ⟨[97#8, 98#8, 99#8, 100#8, 101#8, 102#8], some ⟨b33, 0, none⟩, 6⟩) (who := 2#32))) rfl rfl rfl rfl ?_
     rintro _ _ ⟨⟨⟩, rfl, hA⟩
     simp only [List.cons_append, List.nil_append] at hA
     replace hA := hA.symm
     subst hA
     refine ⟨(fun _ => subF), ?_⟩
     refine WJ_all (rs := [16]) (by kernel_rfl) rfl ?_
     refine WI_one ?_
     refine WI_ac rfl (Ac_call cf24 rfl (hs := storeL_ct (ix := x9) (n := 3) (un := 4) (b := ⟨[97#8, 98#8, 99#8, 100#8, 101#8, 102#8], some ⟨b33, 0, none⟩, 6⟩) (who := 1#32))) rfl rfl rfl rfl ?_
     rintro _ _ ⟨⟨⟩, rfl, hA⟩
     simp only [List.cons_append, List.nil_append] at hA
     replace hA := hA.symm
     subst hA
     refine ⟨(fun _ => subF), ?_⟩
     refine WJ_all (rs := [17]) (by kernel_rfl) rfl ?_
     refine WI_one ?_
     refine WI_ac rfl (Ac_bsL (f := eRq) (zs := [.int .u8 0, .int .u8 0, .int .u8 0, .int .u8 0, .int .u8 0, .int .u8 0, .int .u8 0, .int .u8 0, .int .u8 0, .int .u8 0, .int .u8 0, .int .u8 0, .int .u8 0, .int .u8 0, .int .u8 0, .int .u8 0, .int .u8 0, .int .i64 0, .int .i64 0, .int .i64 0, .int .u32 0, .int .i64 0, .slice none 0 0]) (bs := [.int .u8 0, .int .u8 0, .int .u8 0, .int .u8 0, .int .u8 0, .int .u8 0, .int .u8 0, .int .u8 0, .int .u8 0, .int .u8 0, .int .u8 0, .int .u8 0, .int .u8 0, .int .u8 0, .int .u8 0, .int .u8 0, .int .u8 0, .int .i64 0, .int .i64 0, .int .i64 0, .int .u32 0, .int .i64 0, .slice none 0 0] ++ [.int .u8 0, .int .u8 0, .int .u8 0, .int .u8 0, .int .u8 0, .int .u8 0, .int .u8 0, .int .u8 0, .int .u8 0, .int .u8 0, .int .u8 0, .int .u8 0, .int .u8 0, .int .u8 0, .int .u8 0, .int .u8 0, .int .u8 0, .int .i64 0, .int .i64 0, .int .i64 0, .int .u32 0, .int .i64 0, .slice none 0 0] ++ [.int .u8 0, .int .u8 0, .int .u8 0, .int .u8 0, .int .u8 0, .int .u8 0, .int .u8 0, .int .u8 0, .int .u8 0, .int .u8 0, .int .u8 0, .int .u8 0, .int .u8 0, .int .u8 0, .int .u8 0, .int .u8 0, .int .u8 0, .int .i64 0, .int .i64 0, .int .i64 0, .int .u32 0, .int .i64 0, .slice none 0 0] ++ [.int .u8 0, .int .u8 0, .int .u8 0, .int .u8 0, .int .u8 0, .int .u8 0, .int .u8 0, .int .u8 0, .int .u8 0, .int .u8 0, .int .u8 0, .int .u8 0, .int .u8 0, .int .u8 0, .int .u8 0, .int .u8 0, .int .u8 0, .int .i64 0, .int .i64 0, .int .i64 0, .int .u32 0, .int .i64 0, .slice none 0 0] ++ [.int .u8 0, .int .u8 0, .int .u8 0, .int .u8 0, .int .u8 0, .int .u8 0, .int .u8 0, .int .u8 0, .int .u8 0, .int .u8 0, .int .u8 0, .int .u8 0, .int .u8 0, .int .u8 0, .int .u8 0, .int .u8 0, .int .u8 0, .int .i64 0, .int .i64 0, .int .i64 0, .int .u32 0, .int .i64 0, .slice none 0 0]) (knRq b33 b40 b44) encRq ud77 zr30 sz30 rfl (by kernel_rfl) (by kernel_rfl) (by rfl) (by rfl) (by rfl)) rfl rfl rfl rfl ?_
     rintro _ _ ⟨b53, rfl, rfl⟩
     refine ⟨(fun _ => subF), ?_⟩
     refine WJ_tp 18 rfl (Rd_assign rfl) rfl (hp _ _) ?_
     refine WJ_done (by kernel_rfl) ?_
     refine Ps_wkB (hK9 ⟨b40, b44, b53⟩ (trivial))
  ·skip
   refine WI_ac rfl (Ac_bsL (f := (eU .u8 (w := 8))) (zs := [.int .u8 0]) (bs := [.int .u8 0, .int .u8 0, .int .u8 0, .int .u8 0, .int .u8 0]) [49#8, 50#8, 51#8, 52#8, 53#8] (encU .u8) ud28 zr5 sz5 rfl (by rw [Array.toList_map, Array.toList_range]; rfl) (by rfl) (by rfl) (by rfl) (by rfl)) rfl rfl rfl rfl ?_
   rintro _ _ ⟨b40, rfl, rfl⟩
   refine ⟨(fun _ => subF), ?_⟩
   refine WJ_all (rs := [2, 5, 8]) (by kernel_rfl) rfl ?_
   refine WI_cons ?_ (WI_cons ?_ (WI_cons ?_ (by intro _ h; cases h)))
   ·skip
    refine WI_ac rfl (Ac_call cf24 rfl (hs := storeL_ct (ix := x9) (n := 3) (un := 5) (b := ⟨[97#8, 98#8, 99#8, 100#8, 101#8, 102#8], some ⟨b33, 0, none⟩, 6⟩) (who := 1#32))) rfl rfl rfl rfl ?_
    rintro _ _ ⟨⟨⟩, rfl, hA⟩
    simp only [List.cons_append, List.nil_append] at hA
    replace hA := hA.symm
    subst hA
    refine ⟨(fun _ => subF), ?_⟩
    refine WJ_all (rs := [5, 8]) (by kernel_rfl) rfl ?_
    refine WI_cons ?_ (WI_cons ?_ (by intro _ h; cases h))
    ·skip
     refine WI_ac rfl (Ac_convSS (cap := 5) (l := [49#8, 50#8, 51#8, 52#8, 53#8]) rfl ud28 ud5) rfl rfl rfl rfl ?_
     rintro _ _ ⟨rfl, rfl⟩
     refine ⟨(fun _ => subF), ?_⟩
     refine WJ_all (rs := [6, 8]) (by kernel_rfl) rfl ?_
     refine WI_cons ?_ (WI_cons ?_ (by intro _ h; cases h))
     ·skip
      refine WI_ac rfl (Ac_call cf24 rfl (hs := storeL_ct (ix := x9) (n := 4) (un := 5) (b := ⟨[49#8, 50#8, 51#8, 52#8, 53#8], some ⟨b40, 0, none⟩, 5⟩) (who := 1#32))) rfl rfl rfl rfl ?_
      rintro _ _ ⟨⟨⟩, rfl, hA⟩
      simp only [List.cons_append, List.nil_append] at hA
      replace hA := hA.symm
      subst hA
      refine ⟨(fun _ => subF), ?_⟩
      refine WJ_all (rs := [8]) (by kernel_rfl) rfl ?_
      refine WI_one ?_
      refine WI_ac rfl (Ac_bsL (f := (eU .u8 (w := 8))) (zs := [.int .u8 0]) (bs := [.int .u8 0, .int .u8 0, .int .u8 0, .int .u8 0, .int .u8 0, .int .u8 0]) [65#8, 66#8, 67#8, 68#8, 69#8, 70#8] (encU .u8) ud28 zr5 sz5 rfl (by rw [Array.toList_map, Array.toList_range]; rfl) (by rfl) (by rfl) (by rfl) (by rfl)) rfl rfl rfl rfl ?_
      rintro _ _ ⟨b44, rfl, rfl⟩
      refine ⟨(fun _ => subF), ?_⟩
      refine WJ_all (rs := [9]) (by kernel_rfl) rfl ?_
      refine WI_one ?_
      refine WI_ac rfl (Ac_convSS (cap := 6) (l := [65#8, 66#8, 67#8, 68#8, 69#8, 70#8]) rfl ud28 ud5) rfl rfl rfl rfl ?_
      rintro _ _ ⟨rfl, rfl⟩
      refine ⟨(fun _ => subF), ?_⟩
      refine WJ_all (rs := [10]) (by kernel_rfl) rfl ?_
      refine WI_one ?_
      refine WI_ac rfl (Ac_call cf24 rfl (hs := storeL_ct (ix := x9) (n := 3) (un := 5) (b := ⟨[65#8, 66#8, 67#8, 68#8, 69#8, 70#8], some ⟨b44, 0, none⟩, 6⟩) (who := 1#32))) rfl rfl rfl rfl ?_
      rintro _ _ ⟨⟨⟩, rfl, hA⟩
      simp only [List.cons_append, List.nil_append] at hA
      replace hA := hA.symm
      subst hA
      refine ⟨(fun _ => subF), ?_⟩
      refine WJ_all (rs := [13]) (by kernel_rfl) rfl ?_
      refine WI_one ?_
      refine WI_ac rfl (Ac_call cf24 rfl (hs := storeL_ct (ix := x9) (n := 3) (un := 9) (b := ⟨[97#8, 98#8, 99#8, 100#8, 101#8, 102#8], some ⟨b33, 0, none⟩, 6⟩) (who := 2#32))) rfl rfl rfl rfl ?_
      rintro _ _ ⟨⟨⟩, rfl, hA⟩
      simp only [List.cons_append, List.nil_append] at hA
      replace hA := hA.symm
      subst hA
      refine ⟨(fun _ => subF), ?_⟩
      refine WJ_all (rs := [16]) (by kernel_rfl) rfl ?_
      refine WI_one ?_
      refine WI_ac rfl (Ac_call cf24 rfl (hs := storeL_ct (ix := x9) (n := 3) (un := 4) (b := ⟨[97#8, 98#8, 99#8, 100#8, 101#8, 102#8], some ⟨b33, 0, none⟩, 6⟩) (who := 1#32))) rfl rfl rfl rfl ?_
      rintro _ _ ⟨⟨⟩, rfl, hA⟩
      simp only [List.cons_append, List.nil_append] at hA
      replace hA := hA.symm
      subst hA
      refine ⟨(fun _ => subF), ?_⟩
      refine WJ_all (rs := [17]) (by kernel_rfl) rfl ?_
      refine WI_one ?_
      refine WI_ac rfl (Ac_bsL (f := eRq) (zs := [.int .u8 0, .int .u8 0, .int .u8 0, .int .u8 0, .int .u8 0, .int .u8 0, .int .u8 0, .int .u8 0, .int .u8 0, .int .u8 0, .int .u8 0, .int .u8 0, .int .u8 0, .int .u8 0, .int .u8 0, .int .u8 0, .int .u8 0, .int .i64 0, .int .i64 0, .int .i64 0, .int .u32 0, .int .i64 0, .slice none 0 0]) (bs := [.int .u8 0, .int .u8 0, .int .u8 0, .int .u8 0, .int .u8 0, .int .u8 0, .int .u8 0, .int .u8 0, .int .u8 0, .int .u8 0, .int .u8 0, .int .u8 0, .int .u8 0, .int .u8 0, .int .u8 0, .int .u8 0, .int .u8 0, .int .i64 0, .int .i64 0, .int .i64 0, .int .u32 0, .int .i64 0, .slice none 0 0] ++ [.int .u8 0, .int .u8 0, .int .u8 0, .int .u8 0, .int .u8 0, .int .u8 0, .int .u8 0, .int .u8 0, .int .u8 0, .int .u8 0, .int .u8 0, .int .u8 0, .int .u8 0, .int .u8 0, .int .u8 0, .int .u8 0, .int .u8 0, .int .i64 0, .int .i64 0, .int .i64 0, .int .u32 0, .int .i64 0, .slice none 0 0] ++ [.int .u8 0, .int .u8 0, .int .u8 0, .int .u8 0, .int .u8 0, .int .u8 0, .int .u8 0, .int .u8 0, .int .u8 0, .int .u8 0, .int .u8 0, .int .u8 0, .int .u8 0, .int .u8 0, .int .u8 0, .int .u8 0, .int .u8 0, .int .i64 0, .int .i64 0, .int .i64 0, .int .u32 0, .int .i64 0, .slice none 0 0] ++ [.int .u8 0, .int .u8 0, .int .u8 0, .int .u8 0, .int .u8 0, .int .u8 0, .int .u8 0, .int .u8 0, .int .u8 0, .int .u8 0, .int .u8 0, .int .u8 0, .int .u8 0, .int .u8 0, .int .u8 0, .int .u8 0, .int .u8 0, .int .i64 0, .int .i64 0, .int .i64 0, .int .u32 0, .int .i64 0, .slice none 0 0] ++ [.int .u8 0, .int .u8 0, .int .u8 0, .int .u8 0, .int .u8 0, .int .u8 0, .int .u8 0, .int .u8 0, .int .u8 0, .int .u8 0, .int .u8 0, .int .u8 0, .int .u8 0, .int .u8 0, .int .u8 0, .int .u8 0, .int .u8 0, .int .i64 0, .int .i64 0, .int .i64 0, .int .u32 0, .int .i64 0, .slice none 0 0]) (knRq b33 b40 b44) encRq ud77 zr30 sz30 rfl (by kernel_rfl) (by kernel_rfl) (by rfl) (by rfl) (by rfl)) rfl rfl rfl rfl ?_
      rintro _ _ ⟨b53, rfl, rfl⟩
      refine ⟨(fun _ => subF), ?_⟩
      refine WJ_tp 18 rfl (Rd_assign rfl) rfl (hp _ _) ?_
      refine WJ_done (by kernel_rfl) ?_
      refine Ps_wkB (hK9 ⟨b40, b44, b53⟩ (trivial))
     ·skip
      refine WI_ac rfl (Ac_bsL (f := (eU .u8 (w := 8))) (zs := [.int .u8 0]) (bs := [.int .u8 0, .int .u8 0, .int .u8 0, .int .u8 0, .int .u8 0, .int .u8 0]) [65#8, 66#8, 67#8, 68#8, 69#8, 70#8] (encU .u8) ud28 zr5 sz5 rfl (by rw [Array.toList_map, Array.toList_range]; rfl) (by rfl) (by rfl) (by rfl) (by rfl)) rfl rfl rfl rfl ?_
      rintro _ _ ⟨b44, rfl, rfl⟩
      refine ⟨(fun _ => subF), ?_⟩
      refine WJ_all (rs := [6, 9]) (by kernel_rfl) rfl ?_
      refine WI_cons ?_ (WI_cons ?_ (by intro _ h; cases h))
      ·skip
       refine WI_ac rfl (Ac_call cf24 rfl (hs := storeL_ct (ix := x9) (n := 4) (un := 5) (b := ⟨[49#8, 50#8, 51#8, 52#8, 53#8], some ⟨b40, 0, none⟩, 5⟩) (who := 1#32))) rfl rfl rfl rfl ?_
       rintro _ _ ⟨⟨⟩, rfl, hA⟩
       simp only [List.cons_append, List.nil_append] at hA
       replace hA := hA.symm
       subst hA
       refine ⟨(fun _ => subF), ?_⟩
       refine WJ_all (rs := [9]) (by kernel_rfl) rfl ?_
       refine WI_one ?_
       refine WI_ac rfl (Ac_convSS (cap := 6) (l := [65#8, 66#8, 67#8, 68#8, 69#8, 70#8]) rfl ud28 ud5) rfl rfl rfl rfl ?_
       rintro _ _ ⟨rfl, rfl⟩
       refine ⟨(fun _ => subF), ?_⟩
       refine WJ_all (rs := [10]) (by kernel_rfl) rfl ?_
       refine WI_one ?_
       refine WI_ac rfl (Ac_call cf24 rfl (hs := storeL_ct (ix := x9) (n := 3) (un := 5) (b := ⟨[65#8, 66#8, 67#8, 68#8, 69#8, 70#8], some ⟨b44, 0, none⟩, 6⟩) (who := 1#32))) rfl rfl rfl rfl ?_
       rintro _ _ ⟨⟨⟩, rfl, hA⟩
       simp only [List.cons_append, List.nil_append] at hA
       replace hA := hA.symm
       subst hA
       refine ⟨(fun _ => subF), ?_⟩
       refine WJ_all (rs := [13]) (by kernel_rfl) rfl ?_
       refine WI_one ?_
       refine WI_ac rfl (Ac_call cf24 rfl (hs := storeL_ct (ix := x9) (n := 3) (un := 9) (b := ⟨[97#8, 98#8, 99#8, 100#8, 101#8, 102#8], some ⟨b33, 0, none⟩, 6⟩) (who := 2#32))) rfl rfl rfl rfl ?_
       rintro _ _ ⟨⟨⟩, rfl, hA⟩
       simp only [List.cons_append, List.nil_append] at hA
       replace hA := hA.symm
       subst hA
       refine ⟨(fun _ => subF), ?_⟩
       refine WJ_all (rs := [16]) (by kernel_rfl) rfl ?_
       refine WI_one ?_
       refine WI_ac rfl (Ac_call cf24 rfl (hs := storeL_ct (ix := x9) (n := 3) (un := 4) (b := ⟨[97#8, 98#8, 99#8, 100#8, 101#8, 102#8], some ⟨b33, 0, none⟩, 6⟩) (who := 1#32))) rfl rfl rfl rfl ?_
       rintro _ _ ⟨⟨⟩, rfl, hA⟩
       simp only [List.cons_append, List.nil_append] at hA
       replace hA := hA.symm
       subst hA
       refine ⟨(fun _ => subF), ?_⟩
       refine WJ_all (rs := [17]) (by kernel_rfl) rfl ?_
       refine WI_one ?_
       refine WI_ac rfl (Ac_bsL (f := eRq) (zs := [.int .u8 0, .int .u8 0, .int .u8 0, .int .u8 0, .int .u8 0, .int .u8 0, .int .u8 0, .int .u8 0, .int .u8 0, .int .u8 0, .int .u8 0, .int .u8 0, .int .u8 0, .int .u8 0, .int .u8 0, .int .u8 0, .int .u8 0, .int .i64 0, .int .i64 0, .int .i64 0, .int .u32 0, .int .i64 0, .slice none 0 0]) (bs := [.int .u8 0, .int .u8 0, .int .u8 0, .int .u8 0, .int .u8 0, .int .u8 0, .int .u8 0, .int .u8 0, .int .u8 0, .int .u8 0, .int .u8 0, .int .u8 0, .int .u8 0, .int .u8 0, .int .u8 0, .int .u8 0, .int .u8 0, .int .i64 0, .int .i64 0, .int .i64 0, .int .u32 0, .int .i64 0, .slice none 0 0] ++ [.int .u8 0, .int .u8 0, .int .u8 0, .int .u8 0, .int .u8 0, .int .u8 0, .int .u8 0, .int .u8 0, .int .u8 0, .int .u8 0, .int .u8 0, .int .u8 0, .int .u8 0, .int .u8 0, .int .u8 0, .int .u8 0, .int .u8 0, .int .i64 0, .int .i64 0, .int .i64 0, .int .u32 0, .int .i64 0, .slice none 0 0] ++ [.int .u8 0, .int .u8 0, .int .u8 0, .int .u8 0, .int .u8 0, .int .u8 0, .int .u8 0, .int .u8 0, .int .u8 0, .int .u8 0, .int .u8 0, .int .u8 0, .int .u8 0, .int .u8 0, .int .u8 0, .int .u8 0, .int .u8 0, .int .i64 0, .int .i64 0, .int .i64 0, .int .u32 0, .int .i64 0, .slice none 0 0] ++ [.int .u8 0, .int .u8 0, .int .u8 0, .int .u8 0, .int .u8 0, .int .u8 0, .int .u8 0, .int .u8 0, .int .u8 0, .int .u8 0, .int .u8 0, .int .u8 0, .int .u8 0, .int .u8 0, .int .u8 0, .int .u8 0, .int .u8 0, .int .i64 0, .int .i64 0, .int .i64 0, .int .u32 0, .int .i64 0, .slice none 0 0] ++ [.int .u8 0, .int .u8 0, .int .u8 0, .int .u8 0, .int .u8 0, .int .u8 0, .int .u8 0, .int .u8 0, .int .u8 0, .int .u8 0, .int .u8 0, .int .u8 0, .int .u8 0, .int .u8 0, .int .u8 0, .int .u8 0, .int .u8 0, .int .i64 0, .int .i64 0, .int .i64 0, .int .u32 0, .int .i64 0, .slice none 0 0]) (knRq b33 b40 b44) encRq ud77 zr30 sz30 rfl (by kernel_rfl) (by kernel_rfl) (by rfl) (by rfl) (by rfl)) rfl rfl rfl rfl ?_
       rintro _ _ ⟨b53, rfl, rfl⟩
       refine ⟨(fun _ => subF), ?_⟩
       refine WJ_tp 18 rfl (Rd_assign rfl) rfl (hp _ _) ?_
       refine WJ_done (by kernel_rfl) ?_
       refine Ps_wkB (hK9 ⟨b40, b44, b53⟩ (trivial))
      ·skip
       refine WI_ac rfl (Ac_convSS (cap := 6) (l := [65#8, 66#8, 67#8, 68#8, 69#8, 70#8]) rfl ud28 ud5) rfl rfl rfl rfl ?_
       rintro _ _ ⟨rfl, rfl⟩
       refine ⟨(fun _ => subF), ?_⟩
       refine WJ_all (rs := [6]) (by kernel_rfl) rfl ?_
       refine WI_one ?_
       refine WI_ac rfl (Ac_call cf24 rfl (hs := storeL_ct (ix := x9) (n := 4) (un := 5) (b := ⟨[49#8, 50#8, 51#8, 52#8, 53#8], some ⟨b40, 0, none⟩, 5⟩) (who := 1#32))) rfl rfl rfl rfl ?_
       rintro _ _ ⟨⟨⟩, rfl, hA⟩
       simp only [List.cons_append, List.nil_append] at hA
       replace hA := hA.symm
       subst hA
       refine ⟨(fun _ => subF), ?_⟩
       refine WJ_all (rs := [10]) (by kernel_rfl) rfl ?_
       refine WI_one ?_
       refine WI_ac rfl (Ac_call cf24 rfl (hs := storeL_ct (ix := x9) (n := 3) (un := 5) (b := ⟨[65#8, 66#8, 67#8, 68#8, 69#8, 70#8], some ⟨b44, 0, none⟩, 6⟩) (who := 1#32))) rfl rfl rfl rfl ?_
       rintro _ _ ⟨⟨⟩, rfl, hA⟩
       simp only [List.cons_append, List.nil_append] at hA
       replace hA := hA.symm
       subst hA
       refine ⟨(fun _ => subF), ?_⟩
       refine WJ_all (rs := [13]) (by kernel_rfl) rfl ?_
       refine WI_one ?_
       refine WI_ac rfl (Ac_call cf24 rfl (hs := storeL_ct (ix := x9) (n := 3) (un := 9) (b := ⟨[97#8, 98#8, 99#8, 100#8, 101#8, 102#8], some ⟨b33, 0, none⟩, 6⟩) (who := 2#32))) rfl rfl rfl rfl ?_
       rintro _ _ ⟨⟨⟩, rfl, hA⟩
       simp only [List.cons_append, List.nil_append] at hA
       replace hA := hA.symm
       subst hA
       refine ⟨(fun _ => subF), ?_⟩
       refine WJ_all (rs := [16]) (by kernel_rfl) rfl ?_
       refine WI_one ?_
       refine WI_ac rfl (Ac_call cf24 rfl (hs := storeL_ct (ix := x9) (n := 3) (un := 4) (b := ⟨[97#8, 98#8, 99#8, 100#8, 101#8, 102#8], some ⟨b33, 0, none⟩, 6⟩) (who := 1#32))) rfl rfl rfl rfl ?_
       rintro _ _ ⟨⟨⟩, rfl, hA⟩
       simp only [List.cons_append, List.nil_append] at hA
       replace hA := hA.symm
       subst hA
       refine ⟨(fun _ => subF), ?_⟩
       refine WJ_all (rs := [17]) (by kernel_rfl) rfl ?_
       refine WI_one ?_
       refine WI_ac rfl (Ac_bsL (f := eRq) (zs := [.int .u8 0, .int .u8 0, .int .u8 0, .int .u8 0, .int .u8 0, .int .u8 0, .int .u8 0, .int .u8 0, .int .u8 0, .int .u8 0, .int .u8 0, .int .u8 0, .int .u8 0, .int .u8 0, .int .u8 0, .int .u8 0, .int .u8 0, .int .i64 0, .int .i64 0, .int .i64 0, .int .u32 0, .int .i64 0, .slice none 0 0]) (bs := [.int .u8 0, .int .u8 0, .int .u8 0, .int .u8 0, .int .u8 0, .int .u8 0, .int .u8 0, .int .u8 0, .int .u8 0, .int .u8 0, .int .u8 0, .int .u8 0, .int .u8 0, .int .u8 0, .int .u8 0, .int .u8 0, .int .u8 0, .int .i64 0, .int .i64 0, .int .i64 0, .int .u32 0, .int .i64 0, .slice none 0 0] ++ [.int .u8 0, .int .u8 0, .int .u8 0, .int .u8 0, .int .u8 0, .int .u8 0, .int .u8 0, .int .u8 0, .int .u8 0, .int .u8 0, .int .u8 0, .int .u8 0, .int .u8 0, .int .u8 0, .int .u8 0, .int .u8 0, .int .u8 0, .int .i64 0, .int .i64 0, .int .i64 0, .int .u32 0, .int .i64 0, .slice none 0 0] ++ [.int .u8 0, .int .u8 0, .int .u8 0, .int .u8 0, .int .u8 0, .int .u8 0, .int .u8 0, .int .u8 0, .int .u8 0, .int .u8 0, .int .u8 0, .int .u8 0, .int .u8 0, .int .u8 0, .int .u8 0, .int .u8 0, .int .u8 0, .int .i64 0, .int .i64 0, .int .i64 0, .int .u32 0, .int .i64 0, .slice none 0 0] ++ [.int .u8 0, .int .u8 0, .int .u8 0, .int .u8 0, .int .u8 0, .int .u8 0, .int .u8 0, .int .u8 0, .int .u8 0, .int .u8 0, .int .u8 0, .int .u8 0, .int .u8 0, .int .u8 0, .int .u8 0, .int .u8 0, .int .u8 0, .int .i64 0, .int .i64 0, .int .i64 0, .int .u32 0, .int .i64 0, .slice none 0 0] ++ [.int .u8 0, .int .u8 0, .int .u8 0, .int .u8 0, .int .u8 0, .int .u8 0, .int .u8 0, .int .u8 0, .int .u8 0, .int .u8 0, .int .u8 0, .int .u8 0, .int .u8 0, .int .u8 0, .int .u8 0, .int .u8 0, .int .u8 0, .int .i64 0, .int .i64 0, .int .i64 0, .int .u32 0, .int .i64 0, .slice none 0 0]) (knRq b33 b40 b44) encRq ud77 zr30 sz30 rfl (by kernel_rfl) (by kernel_rfl) (by rfl) (by rfl) (by rfl)) rfl rfl rfl rfl ?_
       rintro _ _ ⟨b53, rfl, rfl⟩
       refine ⟨(fun _ => subF), ?_⟩
       refine WJ_tp 18 rfl (Rd_assign rfl) rfl (hp _ _) ?_
       refine WJ_done (by kernel_rfl) ?_
       refine Ps_wkB (hK9 ⟨b40, b44, b53⟩ (trivial))
    ·skip
     refine WI_ac rfl (Ac_bsL (f := (eU .u8 (w := 8))) (zs := [.int .u8 0]) (bs := [.int .u8 0, .int .u8 0, .int .u8 0, .int .u8 0, .int .u8 0, .int .u8 0]) [65#8, 66#8, 67#8, 68#8, 69#8, 70#8] (encU .u8) ud28 zr5 sz5 rfl (by rw [Array.toList_map, Array.toList_range]; rfl) (by rfl) (by rfl) (by rfl) (by rfl)) rfl rfl rfl rfl ?_
     rintro _ _ ⟨b44, rfl, rfl⟩
     refine ⟨(fun _ => subF), ?_⟩
     refine WJ_all (rs := [5, 9]) (by kernel_rfl) rfl ?_
     refine WI_cons ?_ (WI_cons ?_ (by intro _ h; cases h))
     ·skip
      refine WI_ac rfl (Ac_convSS (cap := 5) (l := [49#8, 50#8, 51#8, 52#8, 53#8]) rfl ud28 ud5) rfl rfl rfl rfl ?_
      rintro _ _ ⟨rfl, rfl⟩
      refine ⟨(fun _ => subF), ?_⟩
      refine WJ_all (rs := [6, 9]) (by kernel_rfl) rfl ?_
      refine WI_cons ?_ (WI_cons ?_ (by intro _ h; cases h))
      ·skip
       refine WI_ac rfl (Ac_call cf24 rfl (hs := storeL_ct (ix := x9) (n := 4) (un := 5) (b := ⟨[49#8, 50#8, 51#8, 52#8, 53#8], some ⟨b40, 0, none⟩, 5⟩) (who := 1#32))) rfl rfl rfl rfl ?_
       rintro _ _ ⟨⟨⟩, rfl, hA⟩
       simp only [List.cons_append, List.nil_append] at hA
       replace hA := hA.symm
       subst hA
       refine ⟨(fun _ => subF), ?_⟩
       refine WJ_all (rs := [9]) (by kernel_rfl) rfl ?_
       refine WI_one ?_
       refine WI_ac rfl (Ac_convSS (cap := 6) (l := [65#8, 66#8, 67#8, 68#8, 69#8, 70#8]) rfl ud28 ud5) rfl rfl rfl rfl ?_
       rintro _ _ ⟨rfl, rfl⟩
       refine ⟨(fun _ => subF), ?_⟩
       refine WJ_all (rs := [10]) (by kernel_rfl) rfl ?_
       refine WI_one ?_
       refine WI_ac rfl (Ac_call cf24 rfl (hs := storeL_ct (ix := x9) (n := 3) (un := 5) (b := ⟨[65#8, 66#8, 67#8, 68#8, 69#8, 70#8], some ⟨b44, 0, none⟩, 6⟩) (who := 1#32))) rfl rfl rfl rfl ?_
       rintro _ _ ⟨⟨⟩, rfl, hA⟩
       simp only [List.cons_append, List.nil_append] at hA
       replace hA := hA.symm
       subst hA
       refine ⟨(fun _ => subF), ?_⟩
       refine WJ_all (rs := [13]) (by kernel_rfl) rfl ?_
       refine WI_one ?_
       refine WI_ac rfl (Ac_call cf24 rfl (hs := storeL_ct (ix := x9) (n := 3) (un := 9) (b := ⟨[97#8, 98#8, 99#8, 100#8, 101#8, 102#8], some ⟨b33, 0, none⟩, 6⟩) (who := 2#32))) rfl rfl rfl rfl ?_
       rintro _ _ ⟨⟨⟩, rfl, hA⟩
       simp only [List.cons_append, List.nil_append] at hA
       replace hA := hA.symm
       subst hA
       refine ⟨(fun _ => subF), ?_⟩
       refine WJ_all (rs := [16]) (by kernel_rfl) rfl ?_
       refine WI_one ?_
       refine WI_ac rfl (Ac_call cf24 rfl (hs := storeL_ct (ix := x9) (n := 3) (un := 4) (b := ⟨[97#8, 98#8, 99#8, 100#8, 101#8, 102#8], some ⟨b33, 0, none⟩, 6⟩) (who := 1#32))) rfl rfl rfl rfl ?_
       rintro _ _ ⟨⟨⟩, rfl, hA⟩
       simp only [List.cons_append, List.nil_append] at hA
       replace hA := hA.symm
       subst hA
       refine ⟨(fun _ => subF), ?_⟩
       refine WJ_all (rs := [17]) (by kernel_rfl) rfl ?_
       refine WI_one ?_
       refine WI_ac rfl (Ac_bsL (f := eRq) (zs := [.int .u8 0, .int .u8 0, .int .u8 0, .int .u8 0, .int .u8 0, .int .u8 0, .int .u8 0, .int .u8 0, .int .u8 0, .int .u8 0, .int .u8 0, .int .u8 0, .int .u8 0, .int .u8 0, .int .u8 0, .int .u8 0, .int .u8 0, .int .i64 0, .int .i64 0, .int .i64 0, .int .u32 0, .int .i64 0, .slice none 0 0]) (bs := [.int .u8 0, .int .u8 0, .int .u8 0, .int .u8 0, .int .u8 0, .int .u8 0, .int .u8 0, .int .u8 0, .int .u8 0, .int .u8 0, .int .u8 0, .int .u8 0, .int .u8 0, .int .u8 0, .int .u8 0, .int .u8 0, .int .u8 0, .int .i64 0, .int .i64 0, .int .i64 0, .int .u32 0, .int .i64 0, .slice none 0 0] ++ [.int .u8 0, .int .u8 0, .int .u8 0, .int .u8 0, .int .u8 0, .int .u8 0, .int .u8 0, .int .u8 0, .int .u8 0, .int .u8 0, .int .u8 0, .int .u8 0, .int .u8 0, .int .u8 0, .int .u8 0, .int .u8 0, .int .u8 0, .int .i64 0, .int .i64 0, .int .i64 0, .int .u32 0, .int .i64 0, .slice none 0 0] ++ [.int .u8 0, .int .u8 0, .int .u8 0, .int .u8 0, .int .u8 0, .int .u8 0, .int .u8 0, .int .u8 0, .int .u8 0, .int .u8 0, .int .u8 0, .int .u8 0, .int .u8 0, .int .u8 0, .int .u8 0, .int .u8 0, .int .u8 0, .int .i64 0, .int .i64 0, .int .i64 0, .int .u32 0, .int .i64 0, .slice none 0 0] ++ [.int .u8 0, .int .u8 0, .int .u8 0, .int .u8 0, .int .u8 0, .int .u8 0, .int .u8 0, .int .u8 0, .int .u8 0, .int .u8 0, .int .u8 0, .int .u8 0, .int .u8 0, .int .u8 0, .int .u8 0, .int .u8 0, .int .u8 0, .int .i64 0, .int .i64 0, .int .i64 0, .int .u32 0, .int .i64 0, .slice none 0 0] ++ [.int .u8 0, .int .u8 0, .int .u8 0, .int .u8 0, .int .u8 0, .int .u8 0, .int .u8 0, .int .u8 0, .int .u8 0, .int .u8 0, .int .u8 0, .int .u8 0, .int .u8 0, .int .u8 0, .int .u8 0, .int .u8 0, .int .u8 0, .int .i64 0, .int .i64 0, .int .i64 0, .int .u32 0, .int .i64 0, .slice none 0 0]) (knRq b33 b40 b44) encRq ud77 zr30 sz30 rfl (by kernel_rfl) (by kernel_rfl) (by rfl) (by rfl) (by rfl)) rfl rfl rfl rfl ?_
       rintro _ _ ⟨b53, rfl, rfl⟩
       refine ⟨(fun _ => subF), ?_⟩
       refine WJ_tp 18 rfl (Rd_assign rfl) rfl (hp _ _) ?_
       refine WJ_done (by kernel_rfl) ?_
       refine Ps_wkB (hK9 ⟨b40, b44, b53⟩ (trivial))
      ·skip
       refine WI_ac rfl (Ac_convSS (cap := 6) (l := [65#8, 66#8, 67#8, 68#8, 69#8, 70#8]) rfl ud28 ud5) rfl rfl rfl rfl ?_
       rintro _ _ ⟨rfl, rfl⟩
       refine ⟨(fun _ => subF), ?_⟩
       refine WJ_all (rs := [6]) (by kernel_rfl) rfl ?_
       refine WI_one ?_
       refine WI_ac rfl (Ac_call cf24 rfl (hs := storeL_ct (ix := x9) (n := 4) (un := 5) (b := ⟨[49#8, 50#8, 51#8, 52#8, 53#8], some ⟨b40, 0, none⟩, 5⟩) (who := 1#32))) rfl rfl rfl rfl ?_
       rintro _ _ ⟨⟨⟩, rfl, hA⟩
       simp only [List.cons_append, List.nil_append] at hA
       replace hA := hA.symm
       subst hA
       refine ⟨(fun _ => subF), ?_⟩
       refine WJ_all (rs := [10]) (by kernel_rfl) rfl ?_
       refine WI_one ?_
       refine WI_ac rfl (Ac_call cf24 rfl (hs := storeL_ct (ix := x9) (n := 3) (un := 5) (b := ⟨[65#8, 66#8, 67#8, 68#8, 69#8, 70#8], some ⟨b44, 0, none⟩, 6⟩) (who := 1#32))) rfl rfl rfl rfl ?_
       rintro _ _ ⟨⟨⟩, rfl, hA⟩
       simp only [List.cons_append, List.nil_append] at hA
       replace hA := hA.symm
       subst hA
       refine ⟨(fun _ => subF), ?_⟩
       refine WJ_all (rs := [13]) (by kernel_rfl) rfl ?_
       refine WI_one ?_
       refine WI_ac rfl (Ac_call cf24 rfl (hs := storeL_ct (ix := x9) (n := 3) (un := 9) (b := ⟨[97#8, 98#8, 99#8, 100#8, 101#8, 102#8], some ⟨b33, 0, none⟩, 6⟩) (who := 2#32))) rfl rfl rfl rfl ?_
       rintro _ _ ⟨⟨⟩, rfl, hA⟩
       simp only [List.cons_append, List.nil_append] at hA
       replace hA := hA.symm
       subst hA
       refine ⟨(fun _ => subF), ?_⟩
       refine WJ_all (rs := [16]) (by kernel_rfl) rfl ?_
       refine WI_one ?_
       refine WI_ac rfl (Ac_call cf24 rfl (hs := storeL_ct (ix := x9) (n := 3) (un := 4) (b := ⟨[97#8, 98#8, 99#8, 100#8, 101#8, 102#8], some ⟨b33, 0, none⟩, 6⟩) (who := 1#32))) rfl rfl rfl rfl ?_
       rintro _ _ ⟨⟨⟩, rfl, hA⟩
       simp only [List.cons_append, List.nil_append] at hA
       replace hA := hA.symm
       subst hA
       refine ⟨(fun _ => subF), ?_⟩
       refine WJ_all (rs := [17]) (by kernel_rfl) rfl ?_
       refine WI_one ?_
       refine WI_ac rfl (Ac_bsL (f := eRq) (zs := [.int .u8 0, .int .u8 0, .int .u8 0, .int .u8 0, .int .u8 0, .int .u8 0, .int .u8 0, .int .u8 0, .int .u8 0, .int .u8 0, .int .u8 0, .int .u8 0, .int .u8 0, .int .u8 0, .int .u8 0, .int .u8 0, .int .u8 0, .int .i64 0, .int .i64 0, .int .i64 0, .int .u32 0, .int .i64 0, .slice none 0 0]) (bs := [.int .u8 0, .int .u8 0, .int .u8 0, .int .u8 0, .int .u8 0, .int .u8 0, .int .u8 0, .int .u8 0, .int .u8 0, .int .u8 0, .int .u8 0, .int .u8 0, .int .u8 0, .int .u8 0, .int .u8 0, .int .u8 0, .int .u8 0, .int .i64 0, .int .i64 0, .int .i64 0, .int .u32 0, .int .i64 0, .slice none 0 0] ++ [.int .u8 0, .int .u8 0, .int .u8 0, .int .u8 0, .int .u8 0, .int .u8 0, .int .u8 0, .int .u8 0, .int .u8 0, .int .u8 0, .int .u8 0, .int .u8 0, .int .u8 0, .int .u8 0, .int .u8 0, .int .u8 0, .int .u8 0, .int .i64 0, .int .i64 0, .int .i64 0, .int .u32 0, .int .i64 0, .slice none 0 0] ++ [.int .u8 0, .int .u8 0, .int .u8 0, .int .u8 0, .int .u8 0, .int .u8 0, .int .u8 0, .int .u8 0, .int .u8 0, .int .u8 0, .int .u8 0, .int .u8 0, .int .u8 0, .int .u8 0, .int .u8 0, .int .u8 0, .int .u8 0, .int .i64 0, .int .i64 0, .int .i64 0, .int .u32 0, .int .i64 0, .slice none 0 0] ++ [.int .u8 0, .int .u8 0, .int .u8 0, .int .u8 0, .int .u8 0, .int .u8 0, .int .u8 0, .int .u8 0, .int .u8 0, .int .u8 0, .int .u8 0, .int .u8 0, .int .u8 0, .int .u8 0, .int .u8 0, .int .u8 0, .int .u8 0, .int .i64 0, .int .i64 0, .int .i64 0, .int .u32 0, .int .i64 0, .slice none 0 0] ++ [.int .u8 0, .int .u8 0, .int .u8 0, .int .u8 0, .int .u8 0, .int .u8 0, .int .u8 0, .int .u8 0, .int .u8 0, .int .u8 0, .int .u8 0, .int .u8 0, .int .u8 0, .int .u8 0, .int .u8 0, .int .u8 0, .int .u8 0, .int .i64 0, .int .i64 0, .int .i64 0, .int .u32 0, .int .i64 0, .slice none 0 0]) (knRq b33 b40 b44) encRq ud77 zr30 sz30 rfl (by kernel_rfl) (by kernel_rfl) (by rfl) (by rfl) (by rfl)) rfl rfl rfl rfl ?_
       rintro _ _ ⟨b53, rfl, rfl⟩
       refine ⟨(fun _ => subF), ?_⟩
       refine WJ_tp 18 rfl (Rd_assign rfl) rfl (hp _ _) ?_
       refine WJ_done (by kernel_rfl) ?_
       refine Ps_wkB (hK9 ⟨b40, b44, b53⟩ (trivial))
     ·skip
      refine WI_ac rfl (Ac_convSS (cap := 6) (l := [65#8, 66#8, 67#8, 68#8, 69#8, 70#8]) rfl ud28 ud5) rfl rfl rfl rfl ?_
      rintro _ _ ⟨rfl, rfl⟩
      refine ⟨(fun _ => subF), ?_⟩
      refine WJ_all (rs := [5]) (by kernel_rfl) rfl ?_
      refine WI_one ?_
      refine WI_ac rfl (Ac_convSS (cap := 5) (l := [49#8, 50#8, 51#8, 52#8, 53#8]) rfl ud28 ud5) rfl rfl rfl rfl ?_
      rintro _ _ ⟨rfl, rfl⟩
      refine ⟨(fun _ => subF), ?_⟩
      refine WJ_all (rs := [6]) (by kernel_rfl) rfl ?_
      refine WI_one ?_
      refine WI_ac rfl (Ac_call cf24 rfl (hs := storeL_ct (ix := x9) (n := 4) (un := 5) (b := ⟨[49#8, 50#8, 51#8, 52#8, 53#8], some ⟨b40, 0, none⟩, 5⟩) (who := 1#32))) rfl rfl rfl rfl ?_
      rintro _ _ ⟨⟨⟩, rfl, hA⟩
      simp only [List.cons_append, List.nil_append] at hA
      replace hA := hA.symm
      subst hA
      refine ⟨(fun _ => subF), ?_⟩
      refine WJ_all (rs := [10]) (by kernel_rfl) rfl ?_
      refine WI_one ?_
      refine WI_ac rfl (Ac_call cf24 rfl (hs := storeL_ct (ix := x9) (n := 3) (un := 5) (b := ⟨[65#8, 66#8, 67#8, 68#8, 69#8, 70#8], some ⟨b44, 0, none⟩, 6⟩) (who := 1#32))) rfl rfl rfl rfl ?_
      rintro _ _ ⟨⟨⟩, rfl, hA⟩
      simp only [List.cons_append, List.nil_append] at hA
      replace hA := hA.symm
      subst hA
      refine ⟨(fun _ => subF), ?_⟩
      refine WJ_all (rs := [13]) (by kernel_rfl) rfl ?_
      refine WI_one ?_
      refine WI_ac rfl (Ac_call cf24 rfl (hs := storeL_ct (ix := x9) (n := 3) (un := 9) (b := ⟨[97#8, 98#8, 99#8, 100#8, 101#8, 102#8], some ⟨b33, 0, none⟩, 6⟩) (who := 2#32))) rfl rfl rfl rfl ?_
      rintro _ _ ⟨⟨⟩, rfl, hA⟩
      simp only [List.cons_append, List.nil_append] at hA
      replace hA := hA.symm
      subst hA
      refine ⟨(fun _ => subF), ?_⟩
      refine WJ_all (rs := [16]) (by kernel_rfl) rfl ?_
      refine WI_one ?_
      refine WI_ac rfl (Ac_call cf24 rfl (hs := storeL_ct (ix := x9) (n := 3) (un := 4) (b := ⟨[97#8, 98#8, 99#8, 100#8, 101#8, 102#8], some ⟨b33, 0, none⟩, 6⟩) (who := 1#32))) rfl rfl rfl rfl ?_
      rintro _ _ ⟨⟨⟩, rfl, hA⟩
      simp only [List.cons_append, List.nil_append] at hA
      replace hA := hA.symm
      subst hA
      refine ⟨(fun _ => subF), ?_⟩
      refine WJ_all (rs := [17]) (by kernel_rfl) rfl ?_
      refine WI_one ?_
      refine WI_ac rfl (Ac_bsL (f := eRq) (zs := [.int .u8 0, .int .u8 0, .int .u8 0, .int .u8 0, .int .u8 0, .int .u8 0, .int .u8 0, .int .u8 0, .int .u8 0, .int .u8 0, .int .u8 0, .int .u8 0, .int .u8 0, .int .u8 0, .int .u8 0, .int .u8 0, .int .u8 0, .int .i64 0, .int .i64 0, .int .i64 0, .int .u32 0, .int .i64 0, .slice none 0 0]) (bs := [.int .u8 0, .int .u8 0, .int .u8 0, .int .u8 0, .int .u8 0, .int .u8 0, .int .u8 0, .int .u8 0, .int .u8 0, .int .u8 0, .int .u8 0, .int .u8 0, .int .u8 0, .int .u8 0, .int .u8 0, .int .u8 0, .int .u8 0, .int .i64 0, .int .i64 0, .int .i64 0, .int .u32 0, .int .i64 0, .slice none 0 0] ++ [.int .u8 0, .int .u8 0, .int .u8 0, .int .u8 0, .int .u8 0, .int .u8 0, .int .u8 0, .int .u8 0, .int .u8 0, .int .u8 0, .int .u8 0, .int .u8 0, .int .u8 0, .int .u8 0, .int .u8 0, .int .u8 0, .int .u8 0, .int .i64 0, .int .i64 0, .int .i64 0, .int .u32 0, .int .i64 0, .slice none 0 0] ++ [.int .u8 0, .int .u8 0, .int .u8 0, .int .u8 0, .int .u8 0, .int .u8 0, .int .u8 0, .int .u8 0, .int .u8 0, .int .u8 0, .int .u8 0, .int .u8 0, .int .u8 0, .int .u8 0, .int .u8 0, .int .u8 0, .int .u8 0, .int .i64 0, .int .i64 0, .int .i64 0, .int .u32 0, .int .i64 0, .slice none 0 0] ++ [.int .u8 0, .int .u8 0, .int .u8 0, .int .u8 0, .int .u8 0, .int .u8 0, .int .u8 0, .int .u8 0, .int .u8 0, .int .u8 0, .int .u8 0, .int .u8 0, .int .u8 0, .int .u8 0, .int .u8 0, .int .u8 0, .int .u8 0, .int .i64 0, .int .i64 0, .int .i64 0, .int .u32 0, .int .i64 0, .slice none 0 0] ++ [.int .u8 0, .int .u8 0, .int .u8 0, .int .u8 0, .int .u8 0, .int .u8 0, .int .u8 0, .int .u8 0, .int .u8 0, .int .u8 0, .int .u8 0, .int .u8 0, .int .u8 0, .int .u8 0, .int .u8 0, .int .u8 0, .int .u8 0, .int .i64 0, .int .i64 0, .int .i64 0, .int .u32 0, .int .i64 0, .slice none 0 0]) (knRq b33 b40 b44) encRq ud77 zr30 sz30 rfl (by kernel_rfl) (by kernel_rfl) (by rfl) (by rfl) (by rfl)) rfl rfl rfl rfl ?_
      rintro _ _ ⟨b53, rfl, rfl⟩
      refine ⟨(fun _ => subF), ?_⟩
      refine WJ_tp 18 rfl (Rd_assign rfl) rfl (hp _ _) ?_
      refine WJ_done (by kernel_rfl) ?_
      refine Ps_wkB (hK9 ⟨b40, b44, b53⟩ (trivial))
   ·skip
    refine WI_ac rfl (Ac_convSS (cap := 5) (l := [49#8, 50#8, 51#8, 52#8, 53#8]) rfl ud28 ud5) rfl rfl rfl rfl ?_
    rintro _ _ ⟨rfl, rfl⟩
    refine ⟨(fun _ => subF), ?_⟩
    refine WJ_all (rs := [2, 8]) (by kernel_rfl) rfl ?_
    refine WI_cons ?_ (WI_cons ?_ (by intro _ h; cases h))
    ·skip
     refine WI_ac rfl (Ac_call cf24 rfl (hs := storeL_ct (ix := x9) (n := 3) (un := 5) (b := ⟨[97#8, 98#8, 99#8, 100#8, 101#8, 102#8], some ⟨b33, 0, none⟩, 6⟩) (who := 1#32))) rfl rfl rfl rfl ?_
     rintro _ _ ⟨⟨⟩, rfl, hA⟩
     simp only [List.cons_append, List.nil_append] at hA
     replace hA := hA.symm
     subst hA
     refine ⟨(fun _ => subF), ?_⟩
     refine WJ_all (rs := [6, 8]) (by kernel_rfl) rfl ?_
     refine WI_cons ?_ (WI_cons ?_ (by intro _ h; cases h))
     ·skip
      refine WI_ac rfl (Ac_call cf24 rfl (hs := storeL_ct (ix := x9) (n := 4) (un := 5) (b := ⟨[49#8, 50#8, 51#8, 52#8, 53#8], some ⟨b40, 0, none⟩, 5⟩) (who := 1#32))) rfl rfl rfl rfl ?_
      rintro _ _ ⟨⟨⟩, rfl, hA⟩
      simp only [List.cons_append, List.nil_append] at hA
      replace hA := hA.symm
      subst hA
      refine ⟨(fun _ => subF), ?_⟩
      refine WJ_all (rs := [8]) (by kernel_rfl) rfl ?_
      refine WI_one ?_
      refine WI_ac rfl (Ac_bsL (f := (eU .u8 (w := 8))) (zs := [.int .u8 0]) (bs := [.int .u8 0, .int .u8 0, .int .u8 0, .int .u8 0, .int .u8 0, .int .u8 0]) [65#8, 66#8, 67#8, 68#8, 69#8, 70#8] (encU .u8) ud28 zr5 sz5 rfl (by rw [Array.toList_map, Array.toList_range]; rfl) (by rfl) (by rfl) (by rfl) (by rfl)) rfl rfl rfl rfl ?_
      rintro _ _ ⟨b44, rfl, rfl⟩
      refine ⟨(fun _ => subF), ?_⟩
      refine WJ_all (rs := [9]) (by kernel_rfl) rfl ?_
      refine WI_one ?_
      refine WI_ac rfl (Ac_convSS (cap := 6) (l := [65#8, 66#8, 67#8, 68#8, 69#8, 70#8]) rfl ud28 ud5) rfl rfl rfl rfl ?_
      rintro _ _ ⟨rfl, rfl⟩
      refine ⟨(fun _ => subF), ?_⟩
      refine WJ_all (rs := [10]) (by kernel_rfl) rfl ?_
      refine WI_one ?_
      refine WI_ac rfl (Ac_call cf24 rfl (hs := storeL_ct (ix := x9) (n := 3) (un := 5) (b := ⟨[65#8, 66#8, 67#8, 68#8, 69#8, 70#8], some ⟨b44, 0, none⟩, 6⟩) (who := 1#32))) rfl rfl rfl rfl ?_
      rintro _ _ ⟨⟨⟩, rfl, hA⟩
      simp only [List.cons_append, List.nil_append] at hA
      replace hA := hA.symm
      subst hA
      refine ⟨(fun _ => subF), ?_⟩
      refine WJ_all (rs := [13]) (by kernel_rfl) rfl ?_
      refine WI_one ?_
      refine WI_ac rfl (Ac_call cf24 rfl (hs := storeL_ct (ix := x9) (n := 3) (un := 9) (b := ⟨[97#8, 98#8, 99#8, 100#8, 101#8, 102#8], some ⟨b33, 0, none⟩, 6⟩) (who := 2#32))) rfl rfl rfl rfl ?_
      rintro _ _ ⟨⟨⟩, rfl, hA⟩
      simp only [List.cons_append, List.nil_append] at hA
      replace hA := hA.symm
      subst hA
      refine ⟨(fun _ => subF), ?_⟩
      refine WJ_all (rs := [16]) (by kernel_rfl) rfl ?_
      refine WI_one ?_
      refine WI_ac rfl (Ac_call cf24 rfl (hs := storeL_ct (ix := x9) (n := 3) (un := 4) (b := ⟨[97#8, 98#8, 99#8, 100#8, 101#8, 102#8], some ⟨b33, 0, none⟩, 6⟩) (who := 1#32))) rfl rfl rfl rfl ?_
      rintro _ _ ⟨⟨⟩, rfl, hA⟩
      simp only [List.cons_append, List.nil_append] at hA
      replace hA := hA.symm
      subst hA
      refine ⟨(fun _ => subF), ?_⟩
      refine WJ_all (rs := [17]) (by kernel_rfl) rfl ?_
      refine WI_one ?_
      refine WI_ac rfl (Ac_bsL (f := eRq) (zs := [.int .u8 0, .int .u8 0, .int .u8 0, .int .u8 0, .int .u8 0, .int .u8 0, .int .u8 0, .int .u8 0, .int .u8 0, .int .u8 0, .int .u8 0, .int .u8 0, .int .u8 0, .int .u8 0, .int .u8 0, .int .u8 0, .int .u8 0, .int .i64 0, .int .i64 0, .int .i64 0, .int .u32 0, .int .i64 0, .slice none 0 0]) (bs := [.int .u8 0, .int .u8 0, .int .u8 0, .int .u8 0, .int .u8 0, .int .u8 0, .int .u8 0, .int .u8 0, .int .u8 0, .int .u8 0, .int .u8 0, .int .u8 0, .int .u8 0, .int .u8 0, .int .u8 0, .int .u8 0, .int .u8 0, .int .i64 0, .int .i64 0, .int .i64 0, .int .u32 0, .int .i64 0, .slice none 0 0] ++ [.int .u8 0, .int .u8 0, .int .u8 0, .int .u8 0, .int .u8 0, .int .u8 0, .int .u8 0, .int .u8 0, .int .u8 0, .int .u8 0, .int .u8 0, .int .u8 0, .int .u8 0, .int .u8 0, .int .u8 0, .int .u8 0, .int .u8 0, .int .i64 0, .int .i64 0, .int .i64 0, .int .u32 0, .int .i64 0, .slice none 0 0] ++ [.int .u8 0, .int .u8 0, .int .u8 0, .int .u8 0, .int .u8 0, .int .u8 0, .int .u8 0, .int .u8 0, .int .u8 0, .int .u8 0, .int .u8 0, .int .u8 0, .int .u8 0, .int .u8 0, .int .u8 0, .int .u8 0, .int .u8 0, .int .i64 0, .int .i64 0, .int .i64 0, .int .u32 0, .int .i64 0, .slice none 0 0] ++ [.int .u8 0, .int .u8 0, .int .u8 0, .int .u8 0, .int .u8 0, .int .u8 0, .int .u8 0, .int .u8 0, .int .u8 0, .int .u8 0, .int .u8 0, .int .u8 0, .int .u8 0, .int .u8 0, .int .u8 0, .int .u8 0, .int .u8 0, .int .i64 0, .int .i64 0, .int .i64 0, .int .u32 0, .int .i64 0, .slice none 0 0] ++ [.int .u8 0, .int .u8 0, .int .u8 0, .int .u8 0, .int .u8 0, .int .u8 0, .int .u8 0, .int .u8 0, .int .u8 0, .int .u8 0, .int .u8 0, .int .u8 0, .int .u8 0, .int .u8 0, .int .u8 0, .int .u8 0, .int .u8 0, .int .i64 0, .int .i64 0, .int .i64 0, .int .u32 0, .int .i64 0, .slice none 0 0]) (knRq b33 b40 b44) encRq ud77 zr30 sz30 rfl (by kernel_rfl) (by kernel_rfl) (by rfl) (by rfl) (by rfl)) rfl rfl rfl rfl ?_
      rintro _ _ ⟨b53, rfl, rfl⟩
      refine ⟨(fun _ => subF), ?_⟩
      refine WJ_tp 18 rfl (Rd_assign rfl) rfl (hp _ _) ?_
      refine WJ_done (by kernel_rfl) ?_
      refine Ps_wkB (hK9 ⟨b40, b44, b53⟩ (trivial))
     ·skip
      refine WI_ac rfl (Ac_bsL (f := (eU .u8 (w := 8))) (zs := [.int .u8 0]) (bs := [.int .u8 0, .int .u8 0, .int .u8 0, .int .u8 0, .int .u8 0, .int .u8 0]) [65#8, 66#8, 67#8, 68#8, 69#8, 70#8] (encU .u8) ud28 zr5 sz5 rfl (by rw [Array.toList_map, Array.toList_range]; rfl) (by rfl) (by rfl) (by rfl) (by rfl)) rfl rfl rfl rfl ?_
      rintro _ _ ⟨b44, rfl, rfl⟩
      refine ⟨(fun _ => subF), ?_⟩
      refine WJ_all (rs := [6, 9]) (by kernel_rfl) rfl ?_
      refine WI_cons ?_ (WI_cons ?_ (by intro _ h; cases h))
      ·skip
       refine WI_ac rfl (Ac_call cf24 rfl (hs := storeL_ct (ix := x9) (n := 4) (un := 5) (b := ⟨[49#8, 50#8, 51#8, 52#8, 53#8], some ⟨b40, 0, none⟩, 5⟩) (who := 1#32))) rfl rfl rfl rfl ?_
       rintro _ _ ⟨⟨⟩, rfl, hA⟩
       simp only [List.cons_append, List.nil_append] at hA
       replace hA := hA.symm
       subst hA
       refine ⟨(fun _ => subF), ?_⟩
       refine WJ_all (rs := [9]) (by kernel_rfl) rfl ?_
       refine WI_one ?_
       refine WI_ac rfl (Ac_convSS (cap := 6) (l := [65#8, 66#8, 67#8, 68#8, 69#8, 70#8]) rfl ud28 ud5) rfl rfl rfl rfl ?_
       rintro _ _ ⟨rfl, rfl⟩
       refine ⟨(fun _ => subF), ?_⟩
       refine WJ_all (rs := [10]) (by kernel_rfl) rfl ?_
       refine WI_one ?_
       refine WI_ac rfl (Ac_call cf24 rfl (hs := storeL_ct (ix := x9) (n := 3) (un := 5) (b := ⟨[65#8, 66#8, 67#8, 68#8, 69#8, 70#8], some ⟨b44, 0, none⟩, 6⟩) (who := 1#32))) rfl rfl rfl rfl ?_
       rintro _ _ ⟨⟨⟩, rfl, hA⟩
       simp only [List.cons_append, List.nil_append] at hA
       replace hA := hA.symm
       subst hA
       refine ⟨(fun _ => subF), ?_⟩
       refine WJ_all (rs := [13]) (by kernel_rfl) rfl ?_
       refine WI_one ?_
       refine WI_ac rfl (Ac_call cf24 rfl (hs := storeL_ct (ix := x9) (n := 3) (un := 9) (b := ⟨[97#8, 98#8, 99#8, 100#8, 101#8, 102#8], some ⟨b33, 0, none⟩, 6⟩) (who := 2#32))) rfl rfl rfl rfl ?_
       rintro _ _ ⟨⟨⟩, rfl, hA⟩
       simp only [List.cons_append, List.nil_append] at hA
       replace hA := hA.symm
       subst hA
       refine ⟨(fun _ => subF), ?_⟩
       refine WJ_all (rs := [16]) (by kernel_rfl) rfl ?_
       refine WI_one ?_
       refine WI_ac rfl (Ac_call cf24 rfl (hs := storeL_ct (ix := x9) (n := 3) (un := 4) (b := ⟨[97#8, 98#8, 99#8, 100#8, 101#8, 102#8], some ⟨b33, 0, none⟩, 6⟩) (who := 1#32))) rfl rfl rfl rfl ?_
       rintro _ _ ⟨⟨⟩, rfl, hA⟩
       simp only [List.cons_append, List.nil_append] at hA
       replace hA := hA.symm
       subst hA
       refine ⟨(fun _ => subF), ?_⟩
       refine WJ_all (rs := [17]) (by kernel_rfl) rfl ?_
       refine WI_one ?_
       refine WI_ac rfl (Ac_bsL (f := eRq) (zs := [.int .u8 0, .int .u8 0, .int .u8 0, .int .u8 0, .int .u8 0, .int .u8 0, .int .u8 0, .int .u8 0, .int .u8 0, .int .u8 0, .int .u8 0, .int .u8 0, .int .u8 0, .int .u8 0, .int .u8 0, .int .u8 0, .int .u8 0, .int .i64 0, .int .i64 0, .int .i64 0, .int .u32 0, .int .i64 0, .slice none 0 0]) (bs := [.int .u8 0, .int .u8 0, .int .u8 0, .int .u8 0, .int .u8 0, .int .u8 0, .int .u8 0, .int .u8 0, .int .u8 0, .int .u8 0, .int .u8 0, .int .u8 0, .int .u8 0, .int .u8 0, .int .u8 0, .int .u8 0, .int .u8 0, .int .i64 0, .int .i64 0, .int .i64 0, .int .u32 0, .int .i64 0, .slice none 0 0] ++ [.int .u8 0, .int .u8 0, .int .u8 0, .int .u8 0, .int .u8 0, .int .u8 0, .int .u8 0, .int .u8 0, .int .u8 0, .int .u8 0, .int .u8 0, .int .u8 0, .int .u8 0, .int .u8 0, .int .u8 0, .int .u8 0, .int .u8 0, .int .i64 0, .int .i64 0, .int .i64 0, .int .u32 0, .int .i64 0, .slice none 0 0] ++ [.int .u8 0, .int .u8 0, .int .u8 0, .int .u8 0, .int .u8 0, .int .u8 0, .int .u8 0, .int .u8 0, .int .u8 0, .int .u8 0, .int .u8 0, .int .u8 0, .int .u8 0, .int .u8 0, .int .u8 0, .int .u8 0, .int .u8 0, .int .i64 0, .int .i64 0, .int .i64 0, .int .u32 0, .int .i64 0, .slice none 0 0] ++ [.int .u8 0, .int .u8 0, .int .u8 0, .int .u8 0, .int .u8 0, .int .u8 0, .int .u8 0, .int .u8 0, .int .u8 0, .int .u8 0, .int .u8 0, .int .u8 0, .int .u8 0, .int .u8 0, .int .u8 0, .int .u8 0, .int .u8 0, .int .i64 0, .int .i64 0, .int .i64 0, .int .u32 0, .int .i64 0, .slice none 0 0] ++ [.int .u8 0, .int .u8 0, .int .u8 0, .int .u8 0, .int .u8 0, .int .u8 0, .int .u8 0, .int .u8 0, .int .u8 0, .int .u8 0, .int .u8 0, .int .u8 0, .int .u8 0, .int .u8 0, .int .u8 0, .int .u8 0, .int .u8 0, .int .i64 0, .int .i64 0, .int .i64 0, .int .u32 0, .int .i64 0, .slice none 0 0]) (knRq b33 b40 b44) encRq ud77 zr30 sz30 rfl (by kernel_rfl) (by kernel_rfl) (by rfl) (by rfl) (by rfl)) rfl rfl rfl rfl ?_
       rintro _ _ ⟨b53, rfl, rfl⟩
       refine ⟨(fun _ => subF), ?_⟩
       refine WJ_tp 18 rfl (Rd_assign rfl) rfl (hp _ _) ?_
       refine WJ_done (by kernel_rfl) ?_
       refine Ps_wkB (hK9 ⟨b40, b44, b53⟩ (trivial))
      ·skip
       refine WI_ac rfl (Ac_convSS (cap := 6) (l := [65#8, 66#8, 67#8, 68#8, 69#8, 70#8]) rfl ud28 ud5) rfl rfl rfl rfl ?_
       rintro _ _ ⟨rfl, rfl⟩
       refine ⟨(fun _ => subF), ?_⟩
       refine WJ_all (rs := [6]) (by kernel_rfl) rfl ?_
       refine WI_one ?_
       refine WI_ac rfl (Ac_call cf24 rfl (hs := storeL_ct (ix := x9) (n := 4) (un := 5) (b := ⟨[49#8, 50#8, 51#8, 52#8, 53#8], some ⟨b40, 0, none⟩, 5⟩) (who := 1#32))) rfl rfl rfl rfl ?_
       rintro _ _ ⟨⟨⟩, rfl, hA⟩
       simp only [List.cons_append, List.nil_append] at hA
       replace hA := hA.symm
       subst hA
       refine ⟨(fun _ => subF), ?_⟩
       refine WJ_all (rs := [10]) (by kernel_rfl) rfl ?_
       refine WI_one ?_
       refine WI_ac rfl (Ac_call cf24 rfl (hs := storeL_ct (ix := x9) (n := 3) (un := 5) (b := ⟨[65#8, 66#8, 67#8, 68#8, 69#8, 70#8], some ⟨b44, 0, none⟩, 6⟩) (who := 1#32))) rfl rfl rfl rfl ?_
       rintro _ _ ⟨⟨⟩, rfl, hA⟩
       simp only [List.cons_append, List.nil_append] at hA
       replace hA := hA.symm
       subst hA
       refine ⟨(fun _ => subF), ?_⟩
       refine WJ_all (rs := [13]) (by kernel_rfl) rfl ?_
       refine WI_one ?_
       refine WI_ac rfl (Ac_call cf24 rfl (hs := storeL_ct (ix := x9) (n := 3) (un := 9) (b := ⟨[97#8, 98#8, 99#8, 100#8, 101#8, 102#8], some ⟨b33, 0, none⟩, 6⟩) (who := 2#32))) rfl rfl rfl rfl ?_
       rintro _ _ ⟨⟨⟩, rfl, hA⟩
       simp only [List.cons_append, List.nil_append] at hA
       replace hA := hA.symm
       subst hA
       refine ⟨(fun _ => subF), ?_⟩
       refine WJ_all (rs := [16]) (by kernel_rfl) rfl ?_
       refine WI_one ?_
       refine WI_ac rfl (Ac_call cf24 rfl (hs := storeL_ct (ix := x9) (n := 3) (un := 4) (b := ⟨[97#8, 98#8, 99#8, 100#8, 101#8, 102#8], some ⟨b33, 0, none⟩, 6⟩) (who := 1#32))) rfl rfl rfl rfl ?_
       rintro _ _ ⟨⟨⟩, rfl, hA⟩
       simp only [List.cons_append, List.nil_append] at hA
       replace hA := hA.symm
       subst hA
       refine ⟨(fun _ => subF), ?_⟩
       refine WJ_all (rs := [17]) (by kernel_rfl) rfl ?_
       refine WI_one ?_
       refine WI_ac rfl (Ac_bsL (f := eRq) (zs := [.int .u8 0, .int .u8 0, .int .u8 0, .int .u8 0, .int .u8 0, .int .u8 0, .int .u8 0, .int .u8 0, .int .u8 0, .int .u8 0, .int .u8 0, .int .u8 0, .int .u8 0, .int .u8 0, .int .u8 0, .int .u8 0, .int .u8 0, .int .i64 0, .int .i64 0, .int .i64 0, .int .u32 0, .int .i64 0, .slice none 0 0]) (bs := [.int .u8 0, .int .u8 0, .int .u8 0, .int .u8 0, .int .u8 0, .int .u8 0, .int .u8 0, .int .u8 0, .int .u8 0, .int .u8 0, .int .u8 0, .int .u8 0, .int .u8 0, .int .u8 0, .int .u8 0, .int .u8 0, .int .u8 0, .int .i64 0, .int .i64 0, .int .i64 0, .int .u32 0, .int .i64 0, .slice none 0 0] ++ [.int .u8 0, .int .u8 0, .int .u8 0, .int .u8 0, .int .u8 0, .int .u8 0, .int .u8 0, .int .u8 0, .int .u8 0, .int .u8 0, .int .u8 0, .int .u8 0, .int .u8 0, .int .u8 0, .int .u8 0, .int .u8 0, .int .u8 0, .int .i64 0, .int .i64 0, .int .i64 0, .int .u32 0, .int .i64 0, .slice none 0 0] ++ [.int .u8 0, .int .u8 0, .int .u8 0, .int .u8 0, .int .u8 0, .int .u8 0, .int .u8 0, .int .u8 0, .int .u8 0, .int .u8 0, .int .u8 0, .int .u8 0, .int .u8 0, .int .u8 0, .int .u8 0, .int .u8 0, .int .u8 0, .int .i64 0, .int .i64 0, .int .i64 0, .int .u32 0, .int .i64 0, .slice none 0 0] ++ [.int .u8 0, .int .u8 0, .int .u8 0, .int .u8 0, .int .u8 0, .int .u8 0, .int .u8 0, .int .u8 0, .int .u8 0, .int .u8 0, .int .u8 0, .int .u8 0, .int .u8 0, .int .u8 0, .int .u8 0, .int .u8 0, .int .u8 0, .int .i64 0, .int .i64 0, .int .i64 0, .int .u32 0, .int .i64 0, .slice none 0 0] ++ [.int .u8 0, .int .u8 0, .int .u8 0, .int .u8 0, .int .u8 0, .int .u8 0, .int .u8 0, .int .u8 0, .int .u8 0, .int .u8 0, .int .u8 0, .int .u8 0, .int .u8 0, .int .u8 0, .int .u8 0, .int .u8 0, .int .u8 0, .int .i64 0, .int .i64 0, .int .i64 0, .int .u32 0, .int .i64 0, .slice none 0 0]) (knRq b33 b40 b44) encRq ud77 zr30 sz30 rfl (by kernel_rfl) (by kernel_rfl) (by rfl) (by rfl) (by rfl)) rfl rfl rfl rfl ?_
       rintro _ _ ⟨b53, rfl, rfl⟩
       refine ⟨(fun _ => subF), ?_⟩
       refine WJ_tp 18 rfl (Rd_assign rfl) rfl (hp _ _) ?_
       refine WJ_done (by kernel_rfl) ?_
       refine Ps_wkB (hK9 ⟨b40, b44, b53⟩ (trivial))
    ·skip
     refine WI_ac rfl (Ac_bsL (f := (eU .u8 (w := 8))) (zs := [.int .u8 0]) (bs := [.int .u8 0, .int .u8 0, .int .u8 0, .int .u8 0, .int .u8 0, .int .u8 0]) [65#8, 66#8, 67#8, 68#8, 69#8, 70#8] (encU .u8) ud28 zr5 sz5 rfl (by rw [Array.toList_map, Array.toList_range]; rfl) (by rfl) (by rfl) (by rfl) (by rfl)) rfl rfl rfl rfl ?_
     rintro _ _ ⟨b44, rfl, rfl⟩
     refine ⟨(fun _ => subF), ?_⟩
     refine WJ_all (rs := [2, 9]) (by kernel_rfl) rfl ?_
     refine WI_cons ?_ (WI_cons ?_ (by intro _ h; cases h))
     ·skip
      refine WI_ac rfl (Ac_call cf24 rfl (hs := storeL_ct (ix := x9) (n := 3) (un := 5) (b := ⟨[97#8, 98#8, 99#8, 100#8, 101#8, 102#8], some ⟨b33, 0, none⟩, 6⟩) (who := 1#32))) rfl rfl rfl rfl ?_
      rintro _ _ ⟨⟨⟩, rfl, hA⟩
      simp only [List.cons_append, List.nil_append] at hA
      replace hA := hA.symm
      subst hA
      refine ⟨(fun _ => subF), ?_⟩
      refine WJ_all (rs := [6, 9]) (by kernel_rfl) rfl ?_
      refine WI_cons ?_ (WI_cons ?_ (by intro _ h; cases h))
      ·skip
       refine WI_ac rfl (Ac_call cf24 rfl (hs := storeL_ct (ix := x9) (n := 4) (un := 5) (b := ⟨[49#8, 50#8, 51#8, 52#8, 53#8], some ⟨b40, 0, none⟩, 5⟩) (who := 1#32))) rfl rfl rfl rfl ?_
       rintro _ _ ⟨⟨⟩, rfl, hA⟩
       simp only [List.cons_append, List.nil_append] at hA
       replace hA := hA.symm
       subst hA
       refine ⟨(fun _ => subF), ?_⟩
       refine WJ_all (rs := [9]) (by kernel_rfl) rfl ?_
       refine WI_one ?_
       refine WI_ac rfl (Ac_convSS (cap := 6) (l := [65#8, 66#8, 67#8, 68#8, 69#8, 70#8]) rfl ud28 ud5) rfl rfl rfl rfl ?_
       rintro _ _ ⟨rfl, rfl⟩
       refine ⟨(fun _ => subF), ?_⟩
       refine WJ_all (rs := [10]) (by kernel_rfl) rfl ?_
       refine WI_one ?_
       refine WI_ac rfl (Ac_call cf24 rfl (hs := storeL_ct (ix := x9) (n := 3) (un := 5) (b := ⟨[65#8, 66#8, 67#8, 68#8, 69#8, 70#8], some ⟨b44, 0, none⟩, 6⟩) (who := 1#32))) rfl rfl rfl rfl ?_
       rintro _ _ ⟨⟨⟩, rfl, hA⟩
       simp only [List.cons_append, List.nil_append] at hA
       replace hA := hA.symm
       subst hA
       refine ⟨(fun _ => subF), ?_⟩
       refine WJ_all (rs := [13]) (by kernel_rfl) rfl ?_
       refine WI_one ?_
       refine WI_ac rfl (Ac_call cf24 rfl (hs := storeL_ct (ix := x9) (n := 3) (un := 9) (b := ⟨[97#8, 98#8, 99#8, 100#8, 101#8, 102#8], some ⟨b33, 0, none⟩, 6⟩) (who := 2#32))) rfl rfl rfl rfl ?_
       rintro _ _ ⟨⟨⟩, rfl, hA⟩
       simp only [List.cons_append, List.nil_append] at hA
       replace hA := hA.symm
       subst hA
       refine ⟨(fun _ => subF), ?_⟩
       refine WJ_all (rs := [16]) (by kernel_rfl) rfl ?_
       refine WI_one ?_
       refine WI_ac rfl (Ac_call cf24 rfl (hs := storeL_ct (ix := x9) (n := 3) (un := 4) (b := ⟨[97#8, 98#8, 99#8, 100#8, 101#8, 102#8], some ⟨b33, 0, none⟩, 6⟩) (who := 1#32))) rfl rfl rfl rfl ?_
       rintro _ _ ⟨⟨⟩, rfl, hA⟩
       simp only [List.cons_append, List.nil_append] at hA
       replace hA := hA.symm
       subst hA
       refine ⟨(fun _ => subF), ?_⟩
       refine WJ_all (rs := [17]) (by kernel_rfl) rfl ?_
       refine WI_one ?_
       refine WI_ac rfl (Ac_bsL (f := eRq) (zs := [.int .u8 0, .int .u8 0, .int .u8 0, .int .u8 0, .int .u8 0, .int .u8 0, .int .u8 0, .int .u8 0, .int .u8 0, .int .u8 0, .int .u8 0, .int .u8 0, .int .u8 0, .int .u8 0, .int .u8 0, .int .u8 0, .int .u8 0, .int .i64 0, .int .i64 0, .int .i64 0, .int .u32 0, .int .i64 0, .slice none 0 0]) (bs := [.int .u8 0, .int .u8 0, .int .u8 0, .int .u8 0, .int .u8 0, .int .u8 0, .int .u8 0, .int .u8 0, .int .u8 0, .int .u8 0, .int .u8 0, .int .u8 0, .int .u8 0, .int .u8 0, .int .u8 0, .int .u8 0, .int .u8 0, .int .i64 0, .int .i64 0, .int .i64 0, .int .u32 0, .int .i64 0, .slice none 0 0] ++ [.int .u8 0, .int .u8 0, .int .u8 0, .int .u8 0, .int .u8 0, .int .u8 0, .int .u8 0, .int .u8 0, .int .u8 0, .int .u8 0, .int .u8 0, .int .u8 0, .int .u8 0, .int .u8 0, .int .u8 0, .int .u8 0, .int .u8 0, .int .i64 0, .int .i64 0, .int .i64 0, .int .u32 0, .int .i64 0, .slice none 0 0] ++ [.int .u8 0, .int .u8 0, .int .u8 0, .int .u8 0, .int .u8 0, .int .u8 0, .int .u8 0, .int .u8 0, .int .u8 0, .int .u8 0, .int .u8 0, .int .u8 0, .int .u8 0, .int .u8 0, .int .u8 0, .int .u8 0, .int .u8 0, .int .i64 0, .int .i64 0, .int .i64 0, .int .u32 0, .int .i64 0, .slice none 0 0] ++ [.int .u8 0, .int .u8 0, .int .u8 0, .int .u8 0, .int .u8 0, .int .u8 0, .int .u8 0, .int .u8 0, .int .u8 0, .int .u8 0, .int .u8 0, .int .u8 0, .int .u8 0, .int .u8 0, .int .u8 0, .int .u8 0, .int .u8 0, .int .i64 0, .int .i64 0, .int .i64 0, .int .u32 0, .int .i64 0, .slice none 0 0] ++ [.int .u8 0, .int .u8 0, .int .u8 0, .int .u8 0, .int .u8 0, .int .u8 0, .int .u8 0, .int .u8 0, .int .u8 0, .int .u8 0, .int .u8 0, .int .u8 0, .int .u8 0, .int .u8 0, .int .u8 0, .int .u8 0, .int .u8 0, .int .i64 0, .int .i64 0, .int .i64 0, .int .u32 0, .int .i64 0, .slice none 0 0]) (knRq b33 b40 b44) encRq ud77 zr30 sz30 rfl (by kernel_rfl) (by kernel_rfl) (by rfl) (by rfl) (by rfl)) rfl rfl rfl rfl ?_
       rintro _ _ ⟨b53, rfl, rfl⟩
       refine ⟨(fun _ => subF), ?_⟩
       refine WJ_tp 18 rfl (Rd_assign rfl) rfl (hp _ _) ?_
       refine WJ_done (by kernel_rfl) ?_
       refine Ps_wkB (hK9 ⟨b40, b44, b53⟩ (trivial))
      ·skip
       refine WI_ac rfl (Ac_convSS (cap := 6) (l := [65#8, 66#8, 67#8, 68#8, 69#8, 70#8]) rfl ud28 ud5) rfl rfl rfl rfl ?_
       rintro _ _ ⟨rfl, rfl⟩
       refine ⟨(fun _ => subF), ?_⟩
       refine WJ_all (rs := [6]) (by kernel_rfl) rfl ?_
       refine WI_one ?_
       refine WI_ac rfl (Ac_call cf24 rfl (hs := storeL_ct (ix := x9) (n := 4) (un := 5) (b := ⟨[49#8, 50#8, 51#8, 52#8, 53#8], some ⟨b40, 0, none⟩, 5⟩) (who := 1#32))) rfl rfl rfl rfl ?_
       rintro _ _ ⟨⟨⟩, rfl, hA⟩
       simp only [List.cons_append, List.nil_append] at hA
       replace hA := hA.symm
       subst hA
       refine ⟨(fun _ => subF), ?_⟩
       refine WJ_all (rs := [10]) (by kernel_rfl) rfl ?_
       refine WI_one ?_
       refine WI_ac rfl (Ac_call cf24 rfl (hs := storeL_ct (ix := x9) (n := 3) (un := 5) (b := ⟨[65#8, 66#8, 67#8, 68#8, 69#8, 70#8], some ⟨b44, 0, none⟩, 6⟩) (who := 1#32))) rfl rfl rfl rfl ?_
       rintro _ _ ⟨⟨⟩, rfl, hA⟩
       simp only [List.cons_append, List.nil_append] at hA
       replace hA := hA.symm
       subst hA
       refine ⟨(fun _ => subF), ?_⟩
       refine WJ_all (rs := [13]) (by kernel_rfl) rfl ?_
       refine WI_one ?_
       refine WI_ac rfl (Ac_call cf24 rfl (hs := storeL_ct (ix := x9) (n := 3) (un := 9) (b := ⟨[97#8, 98#8, 99#8, 100#8, 101#8, 102#8], some ⟨b33, 0, none⟩, 6⟩) (who := 2#32))) rfl rfl rfl rfl ?_
       rintro _ _ ⟨⟨⟩, rfl, hA⟩
       simp only [List.cons_append, List.nil_append] at hA
       replace hA := hA.symm
       subst hA
       refine ⟨(fun _ => subF), ?_⟩
       refine WJ_all (rs := [16]) (by kernel_rfl) rfl ?_
       refine WI_one ?_
       refine WI_ac rfl (Ac_call cf24 rfl (hs := storeL_ct (ix := x9) (n := 3) (un := 4) (b := ⟨[97#8, 98#8, 99#8, 100#8, 101#8, 102#8], some ⟨b33, 0, none⟩, 6⟩) (who := 1#32))) rfl rfl rfl rfl ?_
       rintro _ _ ⟨⟨⟩, rfl, hA⟩
       simp only [List.cons_append, List.nil_append] at hA
       replace hA := hA.symm
       subst hA
       refine ⟨(fun _ => subF), ?_⟩
       refine WJ_all (rs := [17]) (by kernel_rfl) rfl ?_
       refine WI_one ?_
       refine WI_ac rfl (Ac_bsL (f := eRq) (zs := [.int .u8 0, .int .u8 0, .int .u8 0, .int .u8 0, .int .u8 0, .int .u8 0, .int .u8 0, .int .u8 0, .int .u8 0, .int .u8 0, .int .u8 0, .int .u8 0, .int .u8 0, .int .u8 0, .int .u8 0, .int .u8 0, .int .u8 0, .int .i64 0, .int .i64 0, .int .i64 0, .int .u32 0, .int .i64 0, .slice none 0 0]) (bs := [.int .u8 0, .int .u8 0, .int .u8 0, .int .u8 0, .int .u8 0, .int .u8 0, .int .u8 0, .int .u8 0, .int .u8 0, .int .u8 0, .int .u8 0, .int .u8 0, .int .u8 0, .int .u8 0, .int .u8 0, .int .u8 0, .int .u8 0, .int .i64 0, .int .i64 0, .int .i64 0, .int .u32 0, .int .i64 0, .slice none 0 0] ++ [.int .u8 0, .int .u8 0, .int .u8 0, .int .u8 0, .int .u8 0, .int .u8 0, .int .u8 0, .int .u8 0, .int .u8 0, .int .u8 0, .int .u8 0, .int .u8 0, .int .u8 0, .int .u8 0, .int .u8 0, .int .u8 0, .int .u8 0, .int .i64 0, .int .i64 0, .int .i64 0, .int .u32 0, .int .i64 0, .slice none 0 0] ++ [.int .u8 0, .int .u8 0, .int .u8 0, .int .u8 0, .int .u8 0, .int .u8 0, .int .u8 0, .int .u8 0, .int .u8 0, .int .u8 0, .int .u8 0, .int .u8 0, .int .u8 0, .int .u8 0, .int .u8 0, .int .u8 0, .int .u8 0, .int .i64 0, .int .i64 0, .int .i64 0, .int .u32 0, .int .i64 0, .slice none 0 0] ++ [.int .u8 0, .int .u8 0, .int .u8 0, .int .u8 0, .int .u8 0, .int .u8 0, .int .u8 0, .int .u8 0, .int .u8 0, .int .u8 0, .int .u8 0, .int .u8 0, .int .u8 0, .int .u8 0, .int .u8 0, .int .u8 0, .int .u8 0, .int .i64 0, .int .i64 0, .int .i64 0, .int .u32 0, .int .i64 0, .slice none 0 0] ++ [.int .u8 0, .int .u8 0, .int .u8 0, .int .u8 0, .int .u8 0, .int .u8 0, .int .u8 0, .int .u8 0, .int .u8 0, .int .u8 0, .int .u8 0, .int .u8 0, .int .u8 0, .int .u8 0, .int .u8 0, .int .u8 0, .int .u8 0, .int .i64 0, .int .i64 0, .int .i64 0, .int .u32 0, .int .i64 0, .slice none 0 0]) (knRq b33 b40 b44) encRq ud77 zr30 sz30 rfl (by kernel_rfl) (by kernel_rfl) (by rfl) (by rfl) (by rfl)) rfl rfl rfl rfl ?_
       rintro _ _ ⟨b53, rfl, rfl⟩
       refine ⟨(fun _ => subF), ?_⟩
       refine WJ_tp 18 rfl (Rd_assign rfl) rfl (hp _ _) ?_
       refine WJ_done (by kernel_rfl) ?_
       refine Ps_wkB (hK9 ⟨b40, b44, b53⟩ (trivial))
     ·skip
      refine WI_ac rfl (Ac_convSS (cap := 6) (l := [65#8, 66#8, 67#8, 68#8, 69#8, 70#8]) rfl ud28 ud5) rfl rfl rfl rfl ?_
      rintro _ _ ⟨rfl, rfl⟩
      refine ⟨(fun _ => subF), ?_⟩
      refine WJ_all (rs := [2]) (by kernel_rfl) rfl ?_
      refine WI_one ?_
      refine WI_ac rfl (Ac_call cf24 rfl (hs := storeL_ct (ix := x9) (n := 3) (un := 5) (b := ⟨[97#8, 98#8, 99#8, 100#8, 101#8, 102#8], some ⟨b33, 0, none⟩, 6⟩) (who := 1#32))) rfl rfl rfl rfl ?_
      rintro _ _ ⟨⟨⟩, rfl, hA⟩
      simp only [List.cons_append, List.nil_append] at hA
      replace hA := hA.symm
      subst hA
      refine ⟨(fun _ => subF), ?_⟩
      refine WJ_all (rs := [6]) (by kernel_rfl) rfl ?_
      refine WI_one ?_
      refine WI_ac rfl (Ac_call cf24 rfl (hs := storeL_ct (ix := x9) (n := 4) (un := 5) (b := ⟨[49#8, 50#8, 51#8, 52#8, 53#8], some ⟨b40, 0, none⟩, 5⟩) (who := 1#32))) rfl rfl rfl rfl ?_
      rintro _ _ ⟨⟨⟩, rfl, hA⟩
      simp only [List.cons_append, List.nil_append] at hA
      replace hA := hA.symm
      subst hA
      refine ⟨(fun _ => subF), ?_⟩
      refine WJ_all (rs := [10]) (by kernel_rfl) rfl ?_
      refine WI_one ?_
      refine WI_ac rfl (Ac_call cf24 rfl (hs := storeL_ct (ix := x9) (n := 3) (un := 5) (b := ⟨[65#8, 66#8, 67#8, 68#8, 69#8, 70#8], some ⟨b44, 0, none⟩, 6⟩) (who := 1#32))) rfl rfl rfl rfl ?_
      rintro _ _ ⟨⟨⟩, rfl, hA⟩
      simp only [List.cons_append, List.nil_append] at hA
      replace hA := hA.symm
      subst hA
      refine ⟨(fun _ => subF), ?_⟩
      refine WJ_all (rs := [13]) (by kernel_rfl) rfl ?_
      refine WI_one ?_
      refine WI_ac rfl (Ac_call cf24 rfl (hs := storeL_ct (ix := x9) (n := 3) (un := 9) (b := ⟨[97#8, 98#8, 99#8, 100#8, 101#8, 102#8], some ⟨b33, 0, none⟩, 6⟩) (who := 2#32))) rfl rfl rfl rfl ?_
      rintro _ _ ⟨⟨⟩, rfl, hA⟩
      simp only [List.cons_append, List.nil_append] at hA
      replace hA := hA.symm
      subst hA
      refine ⟨(fun _ => subF), ?_⟩
      refine WJ_all (rs := [16]) (by kernel_rfl) rfl ?_
      refine WI_one ?_
      refine WI_ac rfl (Ac_call cf24 rfl (hs := storeL_ct (ix := x9) (n := 3) (un := 4) (b := ⟨[97#8, 98#8, 99#8, 100#8, 101#8, 102#8], some ⟨b33, 0, none⟩, 6⟩) (who := 1#32))) rfl rfl rfl rfl ?_
      rintro _ _ ⟨⟨⟩, rfl, hA⟩
      simp only [List.cons_append, List.nil_append] at hA
      replace hA := hA.symm
      subst hA
      refine ⟨(fun _ => subF), ?_⟩
      refine WJ_all (rs := [17]) (by kernel_rfl) rfl ?_
      refine WI_one ?_
      refine WI_ac rfl (Ac_bsL (f := eRq) (zs := [.int .u8 0, .int .u8 0, .int .u8 0, .int .u8 0, .int .u8 0, .int .u8 0, .int .u8 0, .int .u8 0, .int .u8 0, .int .u8 0, .int .u8 0, .int .u8 0, .int .u8 0, .int .u8 0, .int .u8 0, .int .u8 0, .int .u8 0, .int .i64 0, .int .i64 0, .int .i64 0, .int .u32 0, .int .i64 0, .slice none 0 0]) (bs := [.int .u8 0, .int .u8 0, .int .u8 0, .int .u8 0, .int .u8 0, .int .u8 0, .int .u8 0, .int .u8 0, .int .u8 0, .int .u8 0, .int .u8 0, .int .u8 0, .int .u8 0, .int .u8 0, .int .u8 0, .int .u8 0, .int .u8 0, .int .i64 0, .int .i64 0, .int .i64 0, .int .u32 0, .int .i64 0, .slice none 0 0] ++ [.int .u8 0, .int .u8 0, .int .u8 0, .int .u8 0, .int .u8 0, .int .u8 0, .int .u8 0, .int .u8 0, .int .u8 0, .int .u8 0, .int .u8 0, .int .u8 0, .int .u8 0, .int .u8 0, .int .u8 0, .int .u8 0, .int .u8 0, .int .i64 0, .int .i64 0, .int .i64 0, .int .u32 0, .int .i64 0, .slice none 0 0] ++ [.int .u8 0, .int .u8 0, .int .u8 0, .int .u8 0, .int .u8 0, .int .u8 0, .int .u8 0, .int .u8 0, .int .u8 0, .int .u8 0, .int .u8 0, .int .u8 0, .int .u8 0, .int .u8 0, .int .u8 0, .int .u8 0, .int .u8 0, .int .i64 0, .int .i64 0, .int .i64 0, .int .u32 0, .int .i64 0, .slice none 0 0] ++ [.int .u8 0, .int .u8 0, .int .u8 0, .int .u8 0, .int .u8 0, .int .u8 0, .int .u8 0, .int .u8 0, .int .u8 0, .int .u8 0, .int .u8 0, .int .u8 0, .int .u8 0, .int .u8 0, .int .u8 0, .int .u8 0, .int .u8 0, .int .i64 0, .int .i64 0, .int .i64 0, .int .u32 0, .int .i64 0, .slice none 0 0] ++ [.int .u8 0, .int .u8 0, .int .u8 0, .int .u8 0, .int .u8 0, .int .u8 0, .int .u8 0, .int .u8 0, .int .u8 0, .int .u8 0, .int .u8 0, .int .u8 0, .int .u8 0, .int .u8 0, .int .u8 0, .int .u8 0, .int .u8 0, .int .i64 0, .int .i64 0, .int .i64 0, .int .u32 0, .int .i64 0, .slice none 0 0]) (knRq b33 b40 b44) encRq ud77 zr30 sz30 rfl (by kernel_rfl) (by kernel_rfl) (by rfl) (by rfl) (by rfl)) rfl rfl rfl rfl ?_
      rintro _ _ ⟨b53, rfl, rfl⟩
      refine ⟨(fun _ => subF), ?_⟩
      refine WJ_tp 18 rfl (Rd_assign rfl) rfl (hp _ _) ?_
      refine WJ_done (by kernel_rfl) ?_
      refine Ps_wkB (hK9 ⟨b40, b44, b53⟩ (trivial))
   ·skip
    refine WI_ac rfl (Ac_bsL (f := (eU .u8 (w := 8))) (zs := [.int .u8 0]) (bs := [.int .u8 0, .int .u8 0, .int .u8 0, .int .u8 0, .int .u8 0, .int .u8 0]) [65#8, 66#8, 67#8, 68#8, 69#8, 70#8] (encU .u8) ud28 zr5 sz5 rfl (by rw [Array.toList_map, Array.toList_range]; rfl) (by rfl) (by rfl) (by rfl) (by rfl)) rfl rfl rfl rfl ?_
    rintro _ _ ⟨b44, rfl, rfl⟩
    refine ⟨(fun _ => subF), ?_⟩
    refine WJ_all (rs := [2, 5, 9]) (by kernel_rfl) rfl ?_
    refine WI_cons ?_ (WI_cons ?_ (WI_cons ?_ (by intro _ h; cases h)))
    ·skip
     refine WI_ac rfl (Ac_call cf24 rfl (hs := storeL_ct (ix := x9) (n := 3) (un := 5) (b := ⟨[97#8, 98#8, 99#8, 100#8, 101#8, 102#8], some ⟨b33, 0, none⟩, 6⟩) (who := 1#32))) rfl rfl rfl rfl ?_
     rintro _ _ ⟨⟨⟩, rfl, hA⟩
     simp only [List.cons_append, List.nil_append] at hA
     replace hA := hA.symm
     subst hA
     refine ⟨(fun _ => subF), ?_⟩
     refine WJ_all (rs := [5, 9]) (by kernel_rfl) rfl ?_
     refine WI_cons ?_ (WI_cons ?_ (by intro _ h; cases h))
     ·skip
      refine WI_ac rfl (Ac_convSS (cap := 5) (l := [49#8, 50#8, 51#8, 52#8, 53#8]) rfl ud28 ud5) rfl rfl rfl rfl ?_
      rintro _ _ ⟨rfl, rfl⟩
      refine ⟨(fun _ => subF), ?_⟩
      refine WJ_all (rs := [6, 9]) (by kernel_rfl) rfl ?_
      refine WI_cons ?_ (WI_cons ?_ (by intro _ h; cases h))
      ·skip
       refine WI_ac rfl (Ac_call cf24 rfl (hs := storeL_ct (ix := x9) (n := 4) (un := 5) (b := ⟨[49#8, 50#8, 51#8, 52#8, 53#8], some ⟨b40, 0, none⟩, 5⟩) (who := 1#32))) rfl rfl rfl rfl ?_
       rintro _ _ ⟨⟨⟩, rfl, hA⟩
       simp only [List.cons_append, List.nil_append] at hA
       replace hA := hA.symm
       subst hA
       refine ⟨(fun _ => subF), ?_⟩
       refine WJ_all (rs := [9]) (by kernel_rfl) rfl ?_
       refine WI_one ?_
       refine WI_ac rfl (Ac_convSS (cap := 6) (l := [65#8, 66#8, 67#8, 68#8, 69#8, 70#8]) rfl ud28 ud5) rfl rfl rfl rfl ?_
       rintro _ _ ⟨rfl, rfl⟩
       refine ⟨(fun _ => subF), ?_⟩
       refine WJ_all (rs := [10]) (by kernel_rfl) rfl ?_
       refine WI_one ?_
       refine WI_ac rfl (Ac_call cf24 rfl (hs := storeL_ct (ix := x9) (n := 3) (un := 5) (b := ⟨[65#8, 66#8, 67#8, 68#8, 69#8, 70#8], some ⟨b44, 0, none⟩, 6⟩) (who := 1#32))) rfl rfl rfl rfl ?_
       rintro _ _ ⟨⟨⟩, rfl, hA⟩
       simp only [List.cons_append, List.nil_append] at hA
       replace hA := hA.symm
       subst hA
       refine ⟨(fun _ => subF), ?_⟩
       refine WJ_all (rs := [13]) (by kernel_rfl) rfl ?_
       refine WI_one ?_
       refine WI_ac rfl (Ac_call cf24 rfl (hs := storeL_ct (ix := x9) (n := 3) (un := 9) (b := ⟨[97#8, 98#8, 99#8, 100#8, 101#8, 102#8], some ⟨b33, 0, none⟩, 6⟩) (who := 2#32))) rfl rfl rfl rfl ?_
       rintro _ _ ⟨⟨⟩, rfl, hA⟩
       simp only [List.cons_append, List.nil_append] at hA
       replace hA := hA.symm
       subst hA
       refine ⟨(fun _ => subF), ?_⟩
       refine WJ_all (rs := [16]) (by kernel_rfl) rfl ?_
       refine WI_one ?_
       refine WI_ac rfl (Ac_call cf24 rfl (hs := storeL_ct (ix := x9) (n := 3) (un := 4) (b := ⟨[97#8, 98#8, 99#8, 100#8, 101#8, 102#8], some ⟨b33, 0, none⟩, 6⟩) (who := 1#32))) rfl rfl rfl rfl ?_
       rintro _ _ ⟨⟨⟩, rfl, hA⟩
       simp only [List.cons_append, List.nil_append] at hA
       replace hA := hA.symm
       subst hA
       refine ⟨(fun _ => subF), ?_⟩
       refine WJ_all (rs := [17]) (by kernel_rfl) rfl ?_
       refine WI_one ?_
       refine WI_ac rfl (Ac_bsL (f := eRq) (zs := [.int .u8 0, .int .u8 0, .int .u8 0, .int .u8 0, .int .u8 0, .int .u8 0, .int .u8 0, .int .u8 0, .int .u8 0, .int .u8 0, .int .u8 0, .int .u8 0, .int .u8 0, .int .u8 0, .int .u8 0, .int .u8 0, .int .u8 0, .int .i64 0, .int .i64 0, .int .i64 0, .int .u32 0, .int .i64 0, .slice none 0 0]) (bs := [.int .u8 0, .int .u8 0, .int .u8 0, .int .u8 0, .int .u8 0, .int .u8 0, .int .u8 0, .int .u8 0, .int .u8 0, .int .u8 0, .int .u8 0, .int .u8 0, .int .u8 0, .int .u8 0, .int .u8 0, .int .u8 0, .int .u8 0, .int .i64 0, .int .i64 0, .int .i64 0, .int .u32 0, .int .i64 0, .slice none 0 0] ++ [.int .u8 0, .int .u8 0, .int .u8 0, .int .u8 0, .int .u8 0, .int .u8 0, .int .u8 0, .int .u8 0, .int .u8 0, .int .u8 0, .int .u8 0, .int .u8 0, .int .u8 0, .int .u8 0, .int .u8 0, .int .u8 0, .int .u8 0, .int .i64 0, .int .i64 0, .int .i64 0, .int .u32 0, .int .i64 0, .slice none 0 0] ++ [.int .u8 0, .int .u8 0, .int .u8 0, .int .u8 0, .int .u8 0, .int .u8 0, .int .u8 0, .int .u8 0, .int .u8 0, .int .u8 0, .int .u8 0, .int .u8 0, .int .u8 0, .int .u8 0, .int .u8 0, .int .u8 0, .int .u8 0, .int .i64 0, .int .i64 0, .int .i64 0, .int .u32 0, .int .i64 0, .slice none 0 0] ++ [.int .u8 0, .int .u8 0, .int .u8 0, .int .u8 0, .int .u8 0, .int .u8 0, .int .u8 0, .int .u8 0, .int .u8 0, .int .u8 0, .int .u8 0, .int .u8 0, .int .u8 0, .int .u8 0, .int .u8 0, .int .u8 0, .int .u8 0, .int .i64 0, .int .i64 0, .int .i64 0, .int .u32 0, .int .i64 0, .slice none 0 0] ++ [.int .u8 0, .int .u8 0, .int .u8 0, .int .u8 0, .int .u8 0, .int .u8 0, .int .u8 0, .int .u8 0, .int .u8 0, .int .u8 0, .int .u8 0, .int .u8 0, .int .u8 0, .int .u8 0, .int .u8 0, .int .u8 0, .int .u8 0, .int .i64 0, .int .i64 0, .int .i64 0, .int .u32 0, .int .i64 0, .slice none 0 0]) (knRq b33 b40 b44) encRq ud77 zr30 sz30 rfl (by kernel_rfl) (by kernel_rfl) (by rfl) (by rfl) (by rfl)) rfl rfl rfl rfl ?_
       rintro _ _ ⟨b53, rfl, rfl⟩
       refine ⟨(fun _ => subF), ?_⟩
       refine WJ_tp 18 rfl (Rd_assign rfl) rfl (hp _ _) ?_
       refine WJ_done (by kernel_rfl) ?_
       refine Ps_wkB (hK9 ⟨b40, b44, b53⟩ (trivial))
      ·skip
       refine WI_ac rfl (Ac_convSS (cap := 6) (l := [65#8, 66#8, 67#8, 68#8, 69#8, 70#8]) rfl ud28 ud5) rfl rfl rfl rfl ?_
       rintro _ _ ⟨rfl, rfl⟩
       refine ⟨(fun _ => subF), ?_⟩
       refine WJ_all (rs := [6]) (by kernel_rfl) rfl ?_
       refine WI_one ?_
       refine WI_ac rfl (Ac_call cf24 rfl (hs := storeL_ct (ix := x9) (n := 4) (un := 5) (b := ⟨[49#8, 50#8, 51#8, 52#8, 53#8], some ⟨b40, 0, none⟩, 5⟩) (who := 1#32))) rfl rfl rfl rfl ?_
       rintro _ _ ⟨⟨⟩, rfl, hA⟩
       simp only [List.cons_append, List.nil_append] at hA
       replace hA := hA.symm
       subst hA
       refine ⟨(fun _ => subF), ?_⟩
       refine WJ_all (rs := [10]) (by kernel_rfl) rfl ?_
       refine WI_one ?_
       refine WI_ac rfl (Ac_call cf24 rfl (hs := storeL_ct (ix := x9) (n := 3) (un := 5) (b := ⟨[65#8, 66#8, 67#8, 68#8, 69#8, 70#8], some ⟨b44, 0, none⟩, 6⟩) (who := 1#32))) rfl rfl rfl rfl ?_
       rintro _ _ ⟨⟨⟩, rfl, hA⟩
       simp only [List.cons_append, List.nil_append] at hA
       replace hA := hA.symm
       subst hA
       refine ⟨(fun _ => subF), ?_⟩
       refine WJ_all (rs := [13]) (by kernel_rfl) rfl ?_
       refine WI_one ?_
       refine WI_ac rfl (Ac_call cf24 rfl (hs := storeL_ct (ix := x9) (n := 3) (un := 9) (b := ⟨[97#8, 98#8, 99#8, 100#8, 101#8, 102#8], some ⟨b33, 0, none⟩, 6⟩) (who := 2#32))) rfl rfl rfl rfl ?_
       rintro _ _ ⟨⟨⟩, rfl, hA⟩
       simp only [List.cons_append, List.nil_append] at hA
       replace hA := hA.symm
       subst hA
       refine ⟨(fun _ => subF), ?_⟩
       refine WJ_all (rs := [16]) (by kernel_rfl) rfl ?_
       refine WI_one ?_
       refine WI_ac rfl (Ac_call cf24 rfl (hs := storeL_ct (ix := x9) (n := 3) (un := 4) (b := ⟨[97#8, 98#8, 99#8, 100#8, 101#8, 102#8], some ⟨b33, 0, none⟩, 6⟩) (who := 1#32))) rfl rfl rfl rfl ?_
       rintro _ _ ⟨⟨⟩, rfl, hA⟩
       simp only [List.cons_append, List.nil_append] at hA
       replace hA := hA.symm
       subst hA
       refine ⟨(fun _ => subF), ?_⟩
       refine WJ_all (rs := [17]) (by kernel_rfl) rfl ?_
       refine WI_one ?_
       refine WI_ac rfl (Ac_bsL (f := eRq) (zs := [.int .u8 0, .int .u8 0, .int .u8 0, .int .u8 0, .int .u8 0, .int .u8 0, .int .u8 0, .int .u8 0, .int .u8 0, .int .u8 0, .int .u8 0, .int .u8 0, .int .u8 0, .int .u8 0, .int .u8 0, .int .u8 0, .int .u8 0, .int .i64 0, .int .i64 0, .int .i64 0, .int .u32 0, .int .i64 0, .slice none 0 0]) (bs := [.int .u8 0, .int .u8 0, .int .u8 0, .int .u8 0, .int .u8 0, .int .u8 0, .int .u8 0, .int .u8 0, .int .u8 0, .int .u8 0, .int .u8 0, .int .u8 0, .int .u8 0, .int .u8 0, .int .u8 0, .int .u8 0, .int .u8 0, .int .i64 0, .int .i64 0, .int .i64 0, .int .u32 0, .int .i64 0, .slice none 0 0] ++ [.int .u8 0, .int .u8 0, .int .u8 0, .int .u8 0, .int .u8 0, .int .u8 0, .int .u8 0, .int .u8 0, .int .u8 0, .int .u8 0, .int .u8 0, .int .u8 0, .int .u8 0, .int .u8 0, .int .u8 0, .int .u8 0, .int .u8 0, .int .i64 0, .int .i64 0, .int .i64 0, .int .u32 0, .int .i64 0, .slice none 0 0] ++ [.int .u8 0, .int .u8 0, .int .u8 0, .int .u8 0, .int .u8 0, .int .u8 0, .int .u8 0, .int .u8 0, .int .u8 0, .int .u8 0, .int .u8 0, .int .u8 0, .int .u8 0, .int .u8 0, .int .u8 0, .int .u8 0, .int .u8 0, .int .i64 0, .int .i64 0, .int .i64 0, .int .u32 0, .int .i64 0, .slice none 0 0] ++ [.int .u8 0, .int .u8 0, .int .u8 0, .int .u8 0, .int .u8 0, .int .u8 0, .int .u8 0, .int .u8 0, .int .u8 0, .int .u8 0, .int .u8 0, .int .u8 0, .int .u8 0, .int .u8 0, .int .u8 0, .int .u8 0, .int .u8 0, .int .i64 0, .int .i64 0, .int .i64 0, .int .u32 0, .int .i64 0, .slice none 0 0] ++ [.int .u8 0, .int .u8 0, .int .u8 0, .int .u8 0, .int .u8 0, .int .u8 0, .int .u8 0, .int .u8 0, .int .u8 0, .int .u8 0, .int .u8 0, .int .u8 0, .int .u8 0, .int .u8 0, .int .u8 0, .int .u8 0, .int .u8 0, .int .i64 0, .int .i64 0, .int .i64 0, .int .u32 0, .int .i64 0, .slice none 0 0]) (knRq b33 b40 b44) encRq ud77 zr30 sz30 rfl (by kernel_rfl) (by kernel_rfl) (by rfl) (by rfl) (by rfl)) rfl rfl rfl rfl ?_
       rintro _ _ ⟨b53, rfl, rfl⟩
       refine ⟨(fun _ => subF), ?_⟩
       refine WJ_tp 18 rfl (Rd_assign rfl) rfl (hp _ _) ?_
       refine WJ_done (by kernel_rfl) ?_
       refine Ps_wkB (hK9 ⟨b40, b44, b53⟩ (trivial))
     ·skip
      refine WI_ac rfl (Ac_convSS (cap := 6) (l := [65#8, 66#8, 67#8, 68#8, 69#8, 70#8]) rfl ud28 ud5) rfl rfl rfl rfl ?_
      rintro _ _ ⟨rfl, rfl⟩
      refine ⟨(fun _ => subF), ?_⟩
      refine WJ_all (rs := [5]) (by kernel_rfl) rfl ?_
      refine WI_one ?_
      refine WI_ac rfl (Ac_convSS (cap := 5) (l := [49#8, 50#8, 51#8, 52#8, 53#8]) rfl ud28 ud5) rfl rfl rfl rfl ?_
      rintro _ _ ⟨rfl, rfl⟩
      refine ⟨(fun _ => subF), ?_⟩
      refine WJ_all (rs := [6]) (by kernel_rfl) rfl ?_
      refine WI_one ?_
      refine WI_ac rfl (Ac_call cf24 rfl (hs := storeL_ct (ix := x9) (n := 4) (un := 5) (b := ⟨[49#8, 50#8, 51#8, 52#8, 53#8], some ⟨b40, 0, none⟩, 5⟩) (who := 1#32))) rfl rfl rfl rfl ?_
      rintro _ _ ⟨⟨⟩, rfl, hA⟩
      simp only [List.cons_append, List.nil_append] at hA
      replace hA := hA.symm
      subst hA
      refine ⟨(fun _ => subF), ?_⟩
      refine WJ_all (rs := [10]) (by kernel_rfl) rfl ?_
      refine WI_one ?_
      refine WI_ac rfl (Ac_call cf24 rfl (hs := storeL_ct (ix := x9) (n := 3) (un := 5) (b := ⟨[65#8, 66#8, 67#8, 68#8, 69#8, 70#8], some ⟨b44, 0, none⟩, 6⟩) (who := 1#32))) rfl rfl rfl rfl ?_
      rintro _ _ ⟨⟨⟩, rfl, hA⟩
      simp only [List.cons_append, List.nil_append] at hA
      replace hA := hA.symm
      subst hA
      refine ⟨(fun _ => subF), ?_⟩
      refine WJ_all (rs := [13]) (by kernel_rfl) rfl ?_
      refine WI_one ?_
      refine WI_ac rfl (Ac_call cf24 rfl (hs := storeL_ct (ix := x9) (n := 3) (un := 9) (b := ⟨[97#8, 98#8, 99#8, 100#8, 101#8, 102#8], some ⟨b33, 0, none⟩, 6⟩) (who := 2#32))) rfl rfl rfl rfl ?_
      rintro _ _ ⟨⟨⟩, rfl, hA⟩
      simp only [List.cons_append, List.nil_append] at hA
      replace hA := hA.symm
      subst hA
      refine ⟨(fun _ => subF), ?_⟩
      refine WJ_all (rs := [16]) (by kernel_rfl) rfl ?_
      refine WI_one ?_
      refine WI_ac rfl (Ac_call cf24 rfl (hs := storeL_ct (ix := x9) (n := 3) (un := 4) (b := ⟨[97#8, 98#8, 99#8, 100#8, 101#8, 102#8], some ⟨b33, 0, none⟩, 6⟩) (who := 1#32))) rfl rfl rfl rfl ?_
      rintro _ _ ⟨⟨⟩, rfl, hA⟩
      simp only [List.cons_append, List.nil_append] at hA
      replace hA := hA.symm
      subst hA
      refine ⟨(fun _ => subF), ?_⟩
      refine WJ_all (rs := [17]) (by kernel_rfl) rfl ?_
      refine WI_one ?_
      refine WI_ac rfl (Ac_bsL (f := eRq) (zs := [.int .u8 0, .int .u8 0, .int .u8 0, .int .u8 0, .int .u8 0, .int .u8 0, .int .u8 0, .int .u8 0, .int .u8 0, .int .u8 0, .int .u8 0, .int .u8 0, .int .u8 0, .int .u8 0, .int .u8 0, .int .u8 0, .int .u8 0, .int .i64 0, .int .i64 0, .int .i64 0, .int .u32 0, .int .i64 0, .slice none 0 0]) (bs := [.int .u8 0, .int .u8 0, .int .u8 0, .int .u8 0, .int .u8 0, .int .u8 0, .int .u8 0, .int .u8 0, .int .u8 0, .int .u8 0, .int .u8 0, .int .u8 0, .int .u8 0, .int .u8 0, .int .u8 0, .int .u8 0, .int .u8 0, .int .i64 0, .int .i64 0, .int .i64 0, .int .u32 0, .int .i64 0, .slice none 0 0] ++ [.int .u8 0, .int .u8 0, .int .u8 0, .int .u8 0, .int .u8 0, .int .u8 0, .int .u8 0, .int .u8 0, .int .u8 0, .int .u8 0, .int .u8 0, .int .u8 0, .int .u8 0, .int .u8 0, .int .u8 0, .int .u8 0, .int .u8 0, .int .i64 0, .int .i64 0, .int .i64 0, .int .u32 0, .int .i64 0, .slice none 0 0] ++ [.int .u8 0, .int .u8 0, .int .u8 0, .int .u8 0, .int .u8 0, .int .u8 0, .int .u8 0, .int .u8 0, .int .u8 0, .int .u8 0, .int .u8 0, .int .u8 0, .int .u8 0, .int .u8 0, .int .u8 0, .int .u8 0, .int .u8 0, .int .i64 0, .int .i64 0, .int .i64 0, .int .u32 0, .int .i64 0, .slice none 0 0] ++ [.int .u8 0, .int .u8 0, .int .u8 0, .int .u8 0, .int .u8 0, .int .u8 0, .int .u8 0, .int .u8 0, .int .u8 0, .int .u8 0, .int .u8 0, .int .u8 0, .int .u8 0, .int .u8 0, .int .u8 0, .int .u8 0, .int .u8 0, .int .i64 0, .int .i64 0, .int .i64 0, .int .u32 0, .int .i64 0, .slice none 0 0] ++ [.int .u8 0, .int .u8 0, .int .u8 0, .int .u8 0, .int .u8 0, .int .u8 0, .int .u8 0, .int .u8 0, .int .u8 0, .int .u8 0, .int .u8 0, .int .u8 0, .int .u8 0, .int .u8 0, .int .u8 0, .int .u8 0, .int .u8 0, .int .i64 0, .int .i64 0, .int .i64 0, .int .u32 0, .int .i64 0, .slice none 0 0]) (knRq b33 b40 b44) encRq ud77 zr30 sz30 rfl (by kernel_rfl) (by kernel_rfl) (by rfl) (by rfl) (by rfl)) rfl rfl rfl rfl ?_
      rintro _ _ ⟨b53, rfl, rfl⟩
      refine ⟨(fun _ => subF), ?_⟩
      refine WJ_tp 18 rfl (Rd_assign rfl) rfl (hp _ _) ?_
      refine WJ_done (by kernel_rfl) ?_
      refine Ps_wkB (hK9 ⟨b40, b44, b53⟩ (trivial))
    ·skip
     refine WI_ac rfl (Ac_convSS (cap := 5) (l := [49#8, 50#8, 51#8, 52#8, 53#8]) rfl ud28 ud5) rfl rfl rfl rfl ?_
     rintro _ _ ⟨rfl, rfl⟩
     refine ⟨(fun _ => subF), ?_⟩
     refine WJ_all (rs := [2, 9]) (by kernel_rfl) rfl ?_
     refine WI_cons ?_ (WI_cons ?_ (by intro _ h; cases h))
     ·skip
      refine WI_ac rfl (Ac_call cf24 rfl (hs := storeL_ct (ix := x9) (n := 3) (un := 5) (b := ⟨[97#8, 98#8, 99#8, 100#8, 101#8, 102#8], some ⟨b33, 0, none⟩, 6⟩) (who := 1#32))) rfl rfl rfl rfl ?_
      rintro _ _ ⟨⟨⟩, rfl, hA⟩
      simp only [List.cons_append, List.nil_append] at hA
      replace hA := hA.symm
      subst hA
      refine ⟨(fun _ => subF), ?_⟩
      refine WJ_all (rs := [6, 9]) (by kernel_rfl) rfl ?_
      refine WI_cons ?_ (WI_cons ?_ (by intro _ h; cases h))
      ·skip
       refine WI_ac rfl (Ac_call cf24 rfl (hs := storeL_ct (ix := x9) (n := 4) (un := 5) (b := ⟨[49#8, 50#8, 51#8, 52#8, 53#8], some ⟨b40, 0, none⟩, 5⟩) (who := 1#32))) rfl rfl rfl rfl ?_
       rintro _ _ ⟨⟨⟩, rfl, hA⟩
       simp only [List.cons_append, List.nil_append] at hA
       replace hA := hA.symm
       subst hA
       refine ⟨(fun _ => subF), ?_⟩
       refine WJ_all (rs := [9]) (by kernel_rfl) rfl ?_
       refine WI_one ?_
       refine WI_ac rfl (Ac_convSS (cap := 6) (l := [65#8, 66#8, 67#8, 68#8, 69#8, 70#8]) rfl ud28 ud5) rfl rfl rfl rfl ?_
       rintro _ _ ⟨rfl, rfl⟩
       refine ⟨(fun _ => subF), ?_⟩
       refine WJ_all (rs := [10]) (by kernel_rfl) rfl ?_
       refine WI_one ?_
       refine WI_ac rfl (Ac_call cf24 rfl (hs := storeL_ct (ix := x9) (n := 3) (un := 5) (b := ⟨[65#8, 66#8, 67#8, 68#8, 69#8, 70#8], some ⟨b44, 0, none⟩, 6⟩) (who := 1#32))) rfl rfl rfl rfl ?_
       rintro _ _ ⟨⟨⟩, rfl, hA⟩
       simp only [List.cons_append, List.nil_append] at hA
       replace hA := hA.symm
       subst hA
       refine ⟨(fun _ => subF), ?_⟩
       refine WJ_all (rs := [13]) (by kernel_rfl) rfl ?_
       refine WI_one ?_
       refine WI_ac rfl (Ac_call cf24 rfl (hs := storeL_ct (ix := x9) (n := 3) (un := 9) (b := ⟨[97#8, 98#8, 99#8, 100#8, 101#8, 102#8], some ⟨b33, 0, none⟩, 6⟩) (who := 2#32))) rfl rfl rfl rfl ?_
       rintro _ _ ⟨⟨⟩, rfl, hA⟩
       simp only [List.cons_append, List.nil_append] at hA
       replace hA := hA.symm
       subst hA
       refine ⟨(fun _ => subF), ?_⟩
       refine WJ_all (rs := [16]) (by kernel_rfl) rfl ?_
       refine WI_one ?_
       refine WI_ac rfl (Ac_call cf24 rfl (hs := storeL_ct (ix := x9) (n := 3) (un := 4) (b := ⟨[97#8, 98#8, 99#8, 100#8, 101#8, 102#8], some ⟨b33, 0, none⟩, 6⟩) (who := 1#32))) rfl rfl rfl rfl ?_
       rintro _ _ ⟨⟨⟩, rfl, hA⟩
       simp only [List.cons_append, List.nil_append] at hA
       replace hA := hA.symm
       subst hA
       refine ⟨(fun _ => subF), ?_⟩
       refine WJ_all (rs := [17]) (by kernel_rfl) rfl ?_
       refine WI_one ?_
       refine WI_ac rfl (Ac_bsL (f := eRq) (zs := [.int .u8 0, .int .u8 0, .int .u8 0, .int .u8 0, .int .u8 0, .int .u8 0, .int .u8 0, .int .u8 0, .int .u8 0, .int .u8 0, .int .u8 0, .int .u8 0, .int .u8 0, .int .u8 0, .int .u8 0, .int .u8 0, .int .u8 0, .int .i64 0, .int .i64 0, .int .i64 0, .int .u32 0, .int .i64 0, .slice none 0 0]) (bs := [.int .u8 0, .int .u8 0, .int .u8 0, .int .u8 0, .int .u8 0, .int .u8 0, .int .u8 0, .int .u8 0, .int .u8 0, .int .u8 0, .int .u8 0, .int .u8 0, .int .u8 0, .int .u8 0, .int .u8 0, .int .u8 0, .int .u8 0, .int .i64 0, .int .i64 0, .int .i64 0, .int .u32 0, .int .i64 0, .slice none 0 0] ++ [.int .u8 0, .int .u8 0, .int .u8 0, .int .u8 0, .int .u8 0, .int .u8 0, .int .u8 0, .int .u8 0, .int .u8 0, .int .u8 0, .int .u8 0, .int .u8 0, .int .u8 0, .int .u8 0, .int .u8 0, .int .u8 0, .int .u8 0, .int .i64 0, .int .i64 0, .int .i64 0, .int .u32 0, .int .i64 0, .slice none 0 0] ++ [.int .u8 0, .int .u8 0, .int .u8 0, .int .u8 0, .int .u8 0, .int .u8 0, .int .u8 0, .int .u8 0, .int .u8 0, .int .u8 0, .int .u8 0, .int .u8 0, .int .u8 0, .int .u8 0, .int .u8 0, .int .u8 0, .int .u8 0, .int .i64 0, .int .i64 0, .int .i64 0, .int .u32 0, .int .i64 0, .slice none 0 0] ++ [.int .u8 0, .int .u8 0, .int .u8 0, .int .u8 0, .int .u8 0, .int .u8 0, .int .u8 0, .int .u8 0, .int .u8 0, .int .u8 0, .int .u8 0, .int .u8 0, .int .u8 0, .int .u8 0, .int .u8 0, .int .u8 0, .int .u8 0, .int .i64 0, .int .i64 0, .int .i64 0, .int .u32 0, .int .i64 0, .slice none 0 0] ++ [.int .u8 0, .int .u8 0, .int .u8 0, .int .u8 0, .int .u8 0, .int .u8 0, .int .u8 0, .int .u8 0, .int .u8 0, .int .u8 0, .int .u8 0, .int .u8 0, .int .u8 0, .int .u8 0, .int .u8 0, .int .u8 0, .int .u8 0, .int .i64 0, .int .i64 0, .int .i64 0, .int .u32 0, .int .i64 0, .slice none 0 0]) (knRq b33 b40 b44) encRq ud77 zr30 sz30 rfl (by kernel_rfl) (by kernel_rfl) (by rfl) (by rfl) (by rfl)) rfl rfl rfl rfl ?_
       rintro _ _ ⟨b53, rfl, rfl⟩
       refine ⟨(fun _ => subF), ?_⟩
       refine WJ_tp 18 rfl (Rd_assign rfl) rfl (hp _ _) ?_
       refine WJ_done (by kernel_rfl) ?_
       refine Ps_wkB (hK9 ⟨b40, b44, b53⟩ (trivial))
      ·skip
       refine WI_ac rfl (Ac_convSS (cap := 6) (l := [65#8, 66#8, 67#8, 68#8, 69#8, 70#8]) rfl ud28 ud5) rfl rfl rfl rfl ?_
       rintro _ _ ⟨rfl, rfl⟩
       refine ⟨(fun _ => subF), ?_⟩
       refine WJ_all (rs := [6]) (by kernel_rfl) rfl ?_
       refine WI_one ?_
       refine WI_ac rfl (Ac_call cf24 rfl (hs := storeL_ct (ix := x9) (n := 4) (un := 5) (b := ⟨[49#8, 50#8, 51#8, 52#8, 53#8], some ⟨b40, 0, none⟩, 5⟩) (who := 1#32))) rfl rfl rfl rfl ?_
       rintro _ _ ⟨⟨⟩, rfl, hA⟩
       simp only [List.cons_append, List.nil_append] at hA
       replace hA := hA.symm
       subst hA
       refine ⟨(fun _ => subF), ?_⟩
       refine WJ_all (rs := [10]) (by kernel_rfl) rfl ?_
       refine WI_one ?_
       refine WI_ac rfl (Ac_call cf24 rfl (hs := storeL_ct (ix := x9) (n := 3) (un := 5) (b := ⟨[65#8, 66#8, 67#8, 68#8, 69#8, 70#8], some ⟨b44, 0, none⟩, 6⟩) (who := 1#32))) rfl rfl rfl rfl ?_
       rintro _ _ ⟨⟨⟩, rfl, hA⟩
       simp only [List.cons_append, List.nil_append] at hA
       replace hA := hA.symm
       subst hA
       refine ⟨(fun _ => subF), ?_⟩
       refine WJ_all (rs := [13]) (by kernel_rfl) rfl ?_
       refine WI_one ?_
       refine WI_ac rfl (Ac_call cf24 rfl (hs := storeL_ct (ix := x9) (n := 3) (un := 9) (b := ⟨[97#8, 98#8, 99#8, 100#8, 101#8, 102#8], some ⟨b33, 0, none⟩, 6⟩) (who := 2#32))) rfl rfl rfl rfl ?_
       rintro _ _ ⟨⟨⟩, rfl, hA⟩
       simp only [List.cons_append, List.nil_append] at hA
       replace hA := hA.symm
       subst hA
       refine ⟨(fun _ => subF), ?_⟩
       refine WJ_all (rs := [16]) (by kernel_rfl) rfl ?_
       refine WI_one ?_
       refine WI_ac rfl (Ac_call cf24 rfl (hs := storeL_ct (ix := x9) (n := 3) (un := 4) (b := ⟨[97#8, 98#8, 99#8, 100#8, 101#8, 102#8], some ⟨b33, 0, none⟩, 6⟩) (who := 1#32))) rfl rfl rfl rfl ?_
       rintro _ _ ⟨⟨⟩, rfl, hA⟩
       simp only [List.cons_append, List.nil_append] at hA
       replace hA := hA.symm
       subst hA
       refine ⟨(fun _ => subF), ?_⟩
       refine WJ_all (rs := [17]) (by kernel_rfl) rfl ?_
       refine WI_one ?_
       refine WI_ac rfl (Ac_bsL (f := eRq) (zs := [.int .u8 0, .int .u8 0, .int .u8 0, .int .u8 0, .int .u8 0, .int .u8 0, .int .u8 0, .int .u8 0, .int .u8 0, .int .u8 0, .int .u8 0, .int .u8 0, .int .u8 0, .int .u8 0, .int .u8 0, .int .u8 0, .int .u8 0, .int .i64 0, .int .i64 0, .int .i64 0, .int .u32 0, .int .i64 0, .slice none 0 0]) (bs := [.int .u8 0, .int .u8 0, .int .u8 0, .int .u8 0, .int .u8 0, .int .u8 0, .int .u8 0, .int .u8 0, .int .u8 0, .int .u8 0, .int .u8 0, .int .u8 0, .int .u8 0, .int .u8 0, .int .u8 0, .int .u8 0, .int .u8 0, .int .i64 0, .int .i64 0, .int .i64 0, .int .u32 0, .int .i64 0, .slice none 0 0] ++ [.int .u8 0, .int .u8 0, .int .u8 0, .int .u8 0, .int .u8 0, .int .u8 0, .int .u8 0, .int .u8 0, .int .u8 0, .int .u8 0, .int .u8 0, .int .u8 0, .int .u8 0, .int .u8 0, .int .u8 0, .int .u8 0, .int .u8 0, .int .i64 0, .int .i64 0, .int .i64 0, .int .u32 0, .int .i64 0, .slice none 0 0] ++ [.int .u8 0, .int .u8 0, .int .u8 0, .int .u8 0, .int .u8 0, .int .u8 0, .int .u8 0, .int .u8 0, .int .u8 0, .int .u8 0, .int .u8 0, .int .u8 0, .int .u8 0, .int .u8 0, .int .u8 0, .int .u8 0, .int .u8 0, .int .i64 0, .int .i64 0, .int .i64 0, .int .u32 0, .int .i64 0, .slice none 0 0] ++ [.int .u8 0, .int .u8 0, .int .u8 0, .int .u8 0, .int .u8 0, .int .u8 0, .int .u8 0, .int .u8 0, .int .u8 0, .int .u8 0, .int .u8 0, .int .u8 0, .int .u8 0, .int .u8 0, .int .u8 0, .int .u8 0, .int .u8 0, .int .i64 0, .int .i64 0, .int .i64 0, .int .u32 0, .int .i64 0, .slice none 0 0] ++ [.int .u8 0, .int .u8 0, .int .u8 0, .int .u8 0, .int .u8 0, .int .u8 0, .int .u8 0, .int .u8 0, .int .u8 0, .int .u8 0, .int .u8 0, .int .u8 0, .int .u8 0, .int .u8 0, .int .u8 0, .int .u8 0, .int .u8 0, .int .i64 0, .int .i64 0, .int .i64 0, .int .u32 0, .int .i64 0, .slice none 0 0]) (knRq b33 b40 b44) encRq ud77 zr30 sz30 rfl (by kernel_rfl) (by kernel_rfl) (by rfl) (by rfl) (by rfl)) rfl rfl rfl rfl ?_
       rintro _ _ ⟨b53, rfl, rfl⟩
       refine ⟨(fun _ => subF), ?_⟩
       refine WJ_tp 18 rfl (Rd_assign rfl) rfl (hp _ _) ?_
       refine WJ_done (by kernel_rfl) ?_
       refine Ps_wkB (hK9 ⟨b40, b44, b53⟩ (trivial))
     ·skip
      refine WI_ac rfl (Ac_convSS (cap := 6) (l := [65#8, 66#8, 67#8, 68#8, 69#8, 70#8]) rfl ud28 ud5) rfl rfl rfl rfl ?_
      rintro _ _ ⟨rfl, rfl⟩
      refine ⟨(fun _ => subF), ?_⟩
      refine WJ_all (rs := [2]) (by kernel_rfl) rfl ?_
      refine WI_one ?_
      refine WI_ac rfl (Ac_call cf24 rfl (hs := storeL_ct (ix := x9) (n := 3) (un := 5) (b := ⟨[97#8, 98#8, 99#8, 100#8, 101#8, 102#8], some ⟨b33, 0, none⟩, 6⟩) (who := 1#32))) rfl rfl rfl rfl ?_
      rintro _ _ ⟨⟨⟩, rfl, hA⟩
      simp only [List.cons_append, List.nil_append] at hA
      replace hA := hA.symm
      subst hA
      refine ⟨(fun _ => subF), ?_⟩
      refine WJ_all (rs := [6]) (by kernel_rfl) rfl ?_
      refine WI_one ?_
      refine WI_ac rfl (Ac_call cf24 rfl (hs := storeL_ct (ix := x9) (n := 4) (un := 5) (b := ⟨[49#8, 50#8, 51#8, 52#8, 53#8], some ⟨b40, 0, none⟩, 5⟩) (who := 1#32))) rfl rfl rfl rfl ?_
      rintro _ _ ⟨⟨⟩, rfl, hA⟩
      simp only [List.cons_append, List.nil_append] at hA
      replace hA := hA.symm
      subst hA
      refine ⟨(fun _ => subF), ?_⟩
      refine WJ_all (rs := [10]) (by kernel_rfl) rfl ?_
      refine WI_one ?_
      refine WI_ac rfl (Ac_call cf24 rfl (hs := storeL_ct (ix := x9) (n := 3) (un := 5) (b := ⟨[65#8, 66#8, 67#8, 68#8, 69#8, 70#8], some ⟨b44, 0, none⟩, 6⟩) (who := 1#32))) rfl rfl rfl rfl ?_
      rintro _ _ ⟨⟨⟩, rfl, hA⟩
      simp only [List.cons_append, List.nil_append] at hA
      replace hA := hA.symm
      subst hA
      refine ⟨(fun _ => subF), ?_⟩
      refine WJ_all (rs := [13]) (by kernel_rfl) rfl ?_
      refine WI_one ?_
      refine WI_ac rfl (Ac_call cf24 rfl (hs := storeL_ct (ix := x9) (n := 3) (un := 9) (b := ⟨[97#8, 98#8, 99#8, 100#8, 101#8, 102#8], some ⟨b33, 0, none⟩, 6⟩) (who := 2#32))) rfl rfl rfl rfl ?_
      rintro _ _ ⟨⟨⟩, rfl, hA⟩
      simp only [List.cons_append, List.nil_append] at hA
      replace hA := hA.symm
      subst hA
      refine ⟨(fun _ => subF), ?_⟩
      refine WJ_all (rs := [16]) (by kernel_rfl) rfl ?_
      refine WI_one ?_
      refine WI_ac rfl (Ac_call cf24 rfl (hs := storeL_ct (ix := x9) (n := 3) (un := 4) (b := ⟨[97#8, 98#8, 99#8, 100#8, 101#8, 102#8], some ⟨b33, 0, none⟩, 6⟩) (who := 1#32))) rfl rfl rfl rfl ?_
      rintro _ _ ⟨⟨⟩, rfl, hA⟩
      simp only [List.cons_append, List.nil_append] at hA
      replace hA := hA.symm
      subst hA
      refine ⟨(fun _ => subF), ?_⟩
      refine WJ_all (rs := [17]) (by kernel_rfl) rfl ?_
      refine WI_one ?_
      refine WI_ac rfl (Ac_bsL (f := eRq) (zs := [.int .u8 0, .int .u8 0, .int .u8 0, .int .u8 0, .int .u8 0, .int .u8 0, .int .u8 0, .int .u8 0, .int .u8 0, .int .u8 0, .int .u8 0, .int .u8 0, .int .u8 0, .int .u8 0, .int .u8 0, .int .u8 0, .int .u8 0, .int .i64 0, .int .i64 0, .int .i64 0, .int .u32 0, .int .i64 0, .slice none 0 0]) (bs := [.int .u8 0, .int .u8 0, .int .u8 0, .int .u8 0, .int .u8 0, .int .u8 0, .int .u8 0, .int .u8 0, .int .u8 0, .int .u8 0, .int .u8 0, .int .u8 0, .int .u8 0, .int .u8 0, .int .u8 0, .int .u8 0, .int .u8 0, .int .i64 0, .int .i64 0, .int .i64 0, .int .u32 0, .int .i64 0, .slice none 0 0] ++ [.int .u8 0, .int .u8 0, .int .u8 0, .int .u8 0, .int .u8 0, .int .u8 0, .int .u8 0, .int .u8 0, .int .u8 0, .int .u8 0, .int .u8 0, .int .u8 0, .int .u8 0, .int .u8 0, .int .u8 0, .int .u8 0, .int .u8 0, .int .i64 0, .int .i64 0, .int .i64 0, .int .u32 0, .int .i64 0, .slice none 0 0] ++ [.int .u8 0, .int .u8 0, .int .u8 0, .int .u8 0, .int .u8 0, .int .u8 0, .int .u8 0, .int .u8 0, .int .u8 0, .int .u8 0, .int .u8 0, .int .u8 0, .int .u8 0, .int .u8 0, .int .u8 0, .int .u8 0, .int .u8 0, .int .i64 0, .int .i64 0, .int .i64 0, .int .u32 0, .int .i64 0, .slice none 0 0] ++ [.int .u8 0, .int .u8 0, .int .u8 0, .int .u8 0, .int .u8 0, .int .u8 0, .int .u8 0, .int .u8 0, .int .u8 0, .int .u8 0, .int .u8 0, .int .u8 0, .int .u8 0, .int .u8 0, .int .u8 0, .int .u8 0, .int .u8 0, .int .i64 0, .int .i64 0, .int .i64 0, .int .u32 0, .int .i64 0, .slice none 0 0] ++ [.int .u8 0, .int .u8 0, .int .u8 0, .int .u8 0, .int .u8 0, .int .u8 0, .int .u8 0, .int .u8 0, .int .u8 0, .int .u8 0, .int .u8 0, .int .u8 0, .int .u8 0, .int .u8 0, .int .u8 0, .int .u8 0, .int .u8 0, .int .i64 0, .int .i64 0, .int .i64 0, .int .u32 0, .int .i64 0, .slice none 0 0]) (knRq b33 b40 b44) encRq ud77 zr30 sz30 rfl (by kernel_rfl) (by kernel_rfl) (by rfl) (by rfl) (by rfl)) rfl rfl rfl rfl ?_
      rintro _ _ ⟨b53, rfl, rfl⟩
      refine ⟨(fun _ => subF), ?_⟩
      refine WJ_tp 18 rfl (Rd_assign rfl) rfl (hp _ _) ?_
      refine WJ_done (by kernel_rfl) ?_
      refine Ps_wkB (hK9 ⟨b40, b44, b53⟩ (trivial))
    ·skip
     refine WI_ac rfl (Ac_convSS (cap := 6) (l := [65#8, 66#8, 67#8, 68#8, 69#8, 70#8]) rfl ud28 ud5) rfl rfl rfl rfl ?_
     rintro _ _ ⟨rfl, rfl⟩
     refine ⟨(fun _ => subF), ?_⟩
     refine WJ_all (rs := [2, 5]) (by kernel_rfl) rfl ?_
     refine WI_cons ?_ (WI_cons ?_ (by intro _ h; cases h))
     ·skip
      refine WI_ac rfl (Ac_call cf24 rfl (hs := storeL_ct (ix := x9) (n := 3) (un := 5) (b := ⟨[97#8, 98#8, 99#8, 100#8, 101#8, 102#8], some ⟨b33, 0, none⟩, 6⟩) (who := 1#32))) rfl rfl rfl rfl ?_
      rintro _ _ ⟨⟨⟩, rfl, hA⟩
      simp only [List.cons_append, List.nil_append] at hA
      replace hA := hA.symm
      subst hA
      refine ⟨(fun _ => subF), ?_⟩
      refine WJ_all (rs := [5]) (by kernel_rfl) rfl ?_
      refine WI_one ?_
      refine WI_ac rfl (Ac_convSS (cap := 5) (l := [49#8, 50#8, 51#8, 52#8, 53#8]) rfl ud28 ud5) rfl rfl rfl rfl ?_
      rintro _ _ ⟨rfl, rfl⟩
      refine ⟨(fun _ => subF), ?_⟩
      refine WJ_all (rs := [6]) (by kernel_rfl) rfl ?_
      refine WI_one ?_
      refine WI_ac rfl (Ac_call cf24 rfl (hs := storeL_ct (ix := x9) (n := 4) (un := 5) (b := ⟨[49#8, 50#8, 51#8, 52#8, 53#8], some ⟨b40, 0, none⟩, 5⟩) (who := 1#32))) rfl rfl rfl rfl ?_
      rintro _ _ ⟨⟨⟩, rfl, hA⟩
      simp only [List.cons_append, List.nil_append] at hA
      replace hA := hA.symm
      subst hA
      refine ⟨(fun _ => subF), ?_⟩
      refine WJ_all (rs := [10]) (by kernel_rfl) rfl ?_
      refine WI_one ?_
      refine WI_ac rfl (Ac_call cf24 rfl (hs := storeL_ct (ix := x9) (n := 3) (un := 5) (b := ⟨[65#8, 66#8, 67#8, 68#8, 69#8, 70#8], some ⟨b44, 0, none⟩, 6⟩) (who := 1#32))) rfl rfl rfl rfl ?_
      rintro _ _ ⟨⟨⟩, rfl, hA⟩
      simp only [List.cons_append, List.nil_append] at hA
      replace hA := hA.symm
      subst hA
      refine ⟨(fun _ => subF), ?_⟩
      refine WJ_all (rs := [13]) (by kernel_rfl) rfl ?_
      refine WI_one ?_
      refine WI_ac rfl (Ac_call cf24 rfl (hs := storeL_ct (ix := x9) (n := 3) (un := 9) (b := ⟨[97#8, 98#8, 99#8, 100#8, 101#8, 102#8], some ⟨b33, 0, none⟩, 6⟩) (who := 2#32))) rfl rfl rfl rfl ?_
      rintro _ _ ⟨⟨⟩, rfl, hA⟩
      simp only [List.cons_append, List.nil_append] at hA
      replace hA := hA.symm
      subst hA
      refine ⟨(fun _ => subF), ?_⟩
      refine WJ_all (rs := [16]) (by kernel_rfl) rfl ?_
      refine WI_one ?_
      refine WI_ac rfl (Ac_call cf24 rfl (hs := storeL_ct (ix := x9) (n := 3) (un := 4) (b := ⟨[97#8, 98#8, 99#8, 100#8, 101#8, 102#8], some ⟨b33, 0, none⟩, 6⟩) (who := 1#32))) rfl rfl rfl rfl ?_
      rintro _ _ ⟨⟨⟩, rfl, hA⟩
      simp only [List.cons_append, List.nil_append] at hA
      replace hA := hA.symm
      subst hA
      refine ⟨(fun _ => subF), ?_⟩
      refine WJ_all (rs := [17]) (by kernel_rfl) rfl ?_
      refine WI_one ?_
      refine WI_ac rfl (Ac_bsL (f := eRq) (zs := [.int .u8 0, .int .u8 0, .int .u8 0, .int .u8 0, .int .u8 0, .int .u8 0, .int .u8 0, .int .u8 0, .int .u8 0, .int .u8 0, .int .u8 0, .int .u8 0, .int .u8 0, .int .u8 0, .int .u8 0, .int .u8 0, .int .u8 0, .int .i64 0, .int .i64 0, .int .i64 0, .int .u32 0, .int .i64 0, .slice none 0 0]) (bs := [.int .u8 0, .int .u8 0, .int .u8 0, .int .u8 0, .int .u8 0, .int .u8 0, .int .u8 0, .int .u8 0, .int .u8 0, .int .u8 0, .int .u8 0, .int .u8 0, .int .u8 0, .int .u8 0, .int .u8 0, .int .u8 0, .int .u8 0, .int .i64 0, .int .i64 0, .int .i64 0, .int .u32 0, .int .i64 0, .slice none 0 0] ++ [.int .u8 0, .int .u8 0, .int .u8 0, .int .u8 0, .int .u8 0, .int .u8 0, .int .u8 0, .int .u8 0, .int .u8 0, .int .u8 0, .int .u8 0, .int .u8 0, .int .u8 0, .int .u8 0, .int .u8 0, .int .u8 0, .int .u8 0, .int .i64 0, .int .i64 0, .int .i64 0, .int .u32 0, .int .i64 0, .slice none 0 0] ++ [.int .u8 0, .int .u8 0, .int .u8 0, .int .u8 0, .int .u8 0, .int .u8 0, .int .u8 0, .int .u8 0, .int .u8 0, .int .u8 0, .int .u8 0, .int .u8 0, .int .u8 0, .int .u8 0, .int .u8 0, .int .u8 0, .int .u8 0, .int .i64 0, .int .i64 0, .int .i64 0, .int .u32 0, .int .i64 0, .slice none 0 0] ++ [.int .u8 0, .int .u8 0, .int .u8 0, .int .u8 0, .int .u8 0, .int .u8 0, .int .u8 0, .int .u8 0, .int .u8 0, .int .u8 0, .int .u8 0, .int .u8 0, .int .u8 0, .int .u8 0, .int .u8 0, .int .u8 0, .int .u8 0, .int .i64 0, .int .i64 0, .int .i64 0, .int .u32 0, .int .i64 0, .slice none 0 0] ++ [.int .u8 0, .int .u8 0, .int .u8 0, .int .u8 0, .int .u8 0, .int .u8 0, .int .u8 0, .int .u8 0, .int .u8 0, .int .u8 0, .int .u8 0, .int .u8 0, .int .u8 0, .int .u8 0, .int .u8 0, .int .u8 0, .int .u8 0, .int .i64 0, .int .i64 0, .int .i64 0, .int .u32 0, .int .i64 0, .slice none 0 0]) (knRq b33 b40 b44) encRq ud77 zr30 sz30 rfl (by kernel_rfl) (by kernel_rfl) (by rfl) (by rfl) (by rfl)) rfl rfl rfl rfl ?_
      rintro _ _ ⟨b53, rfl, rfl⟩
      refine ⟨(fun _ => subF), ?_⟩
      refine WJ_tp 18 rfl (Rd_assign rfl) rfl (hp _ _) ?_
      refine WJ_done (by kernel_rfl) ?_
      refine Ps_wkB (hK9 ⟨b40, b44, b53⟩ (trivial))
     ·skip
      refine WI_ac rfl (Ac_convSS (cap := 5) (l := [49#8, 50#8, 51#8, 52#8, 53#8]) rfl ud28 ud5) rfl rfl rfl rfl ?_
      rintro _ _ ⟨rfl, rfl⟩
      refine ⟨(fun _ => subF), ?_⟩
      refine WJ_all (rs := [2]) (by kernel_rfl) rfl ?_
      refine WI_one ?_
      refine WI_ac rfl (Ac_call cf24 rfl (hs := storeL_ct (ix := x9) (n := 3) (un := 5) (b := ⟨[97#8, 98#8, 99#8, 100#8, 101#8, 102#8], some ⟨b33, 0, none⟩, 6⟩) (who := 1#32))) rfl rfl rfl rfl ?_
      rintro _ _ ⟨⟨⟩, rfl, hA⟩
      simp only [List.cons_append, List.nil_append] at hA
      replace hA := hA.symm
      subst hA
      refine ⟨(fun _ => subF), ?_⟩
      refine WJ_all (rs := [6]) (by kernel_rfl) rfl ?_
      refine WI_one ?_
      refine WI_ac rfl (Ac_call cf24 rfl (hs := storeL_ct (ix := x9) (n := 4) (un := 5) (b := ⟨[49#8, 50#8, 51#8, 52#8, 53#8], some ⟨b40, 0, none⟩, 5⟩) (who := 1#32))) rfl rfl rfl rfl ?_
      rintro _ _ ⟨⟨⟩, rfl, hA⟩
      simp only [List.cons_append, List.nil_append] at hA
      replace hA := hA.symm
      subst hA
      refine ⟨(fun _ => subF), ?_⟩
      refine WJ_all (rs := [10]) (by kernel_rfl) rfl ?_
      refine WI_one ?_
      refine WI_ac rfl (Ac_call cf24 rfl (hs := storeL_ct (ix := x9) (n := 3) (un := 5) (b := ⟨[65#8, 66#8, 67#8, 68#8, 69#8, 70#8], some ⟨b44, 0, none⟩, 6⟩) (who := 1#32))) rfl rfl rfl rfl ?_
      rintro _ _ ⟨⟨⟩, rfl, hA⟩
      simp only [List.cons_append, List.nil_append] at hA
      replace hA := hA.symm
      subst hA
      refine ⟨(fun _ => subF), ?_⟩
      refine WJ_all (rs := [13]) (by kernel_rfl) rfl ?_
      refine WI_one ?_
      refine WI_ac rfl (Ac_call cf24 rfl (hs := storeL_ct (ix := x9) (n := 3) (un := 9) (b := ⟨[97#8, 98#8, 99#8, 100#8, 101#8, 102#8], some ⟨b33, 0, none⟩, 6⟩) (who := 2#32))) rfl rfl rfl rfl ?_
      rintro _ _ ⟨⟨⟩, rfl, hA⟩
      simp only [List.cons_append, List.nil_append] at hA
      replace hA := hA.symm
      subst hA
      refine ⟨(fun _ => subF), ?_⟩
      refine WJ_all (rs := [16]) (by kernel_rfl) rfl ?_
      refine WI_one ?_
      refine WI_ac rfl (Ac_call cf24 rfl (hs := storeL_ct (ix := x9) (n := 3) (un := 4) (b := ⟨[97#8, 98#8, 99#8, 100#8, 101#8, 102#8], some ⟨b33, 0, none⟩, 6⟩) (who := 1#32))) rfl rfl rfl rfl ?_
      rintro _ _ ⟨⟨⟩, rfl, hA⟩
      simp only [List.cons_append, List.nil_append] at hA
      replace hA := hA.symm
      subst hA
      refine ⟨(fun _ => subF), ?_⟩
      refine WJ_all (rs := [17]) (by kernel_rfl) rfl ?_
      refine WI_one ?_
      refine WI_ac rfl (Ac_bsL (f := eRq) (zs := [.int .u8 0, .int .u8 0, .int .u8 0, .int .u8 0, .int .u8 0, .int .u8 0, .int .u8 0, .int .u8 0, .int .u8 0, .int .u8 0, .int .u8 0, .int .u8 0, .int .u8 0, .int .u8 0, .int .u8 0, .int .u8 0, .int .u8 0, .int .i64 0, .int .i64 0, .int .i64 0, .int .u32 0, .int .i64 0, .slice none 0 0]) (bs := [.int .u8 0, .int .u8 0, .int .u8 0, .int .u8 0, .int .u8 0, .int .u8 0, .int .u8 0, .int .u8 0, .int .u8 0, .int .u8 0, .int .u8 0, .int .u8 0, .int .u8 0, .int .u8 0, .int .u8 0, .int .u8 0, .int .u8 0, .int .i64 0, .int .i64 0, .int .i64 0, .int .u32 0, .int .i64 0, .slice none 0 0] ++ [.int .u8 0, .int .u8 0, .int .u8 0, .int .u8 0, .int .u8 0, .int .u8 0, .int .u8 0, .int .u8 0, .int .u8 0, .int .u8 0, .int .u8 0, .int .u8 0, .int .u8 0, .int .u8 0, .int .u8 0, .int .u8 0, .int .u8 0, .int .i64 0, .int .i64 0, .int .i64 0, .int .u32 0, .int .i64 0, .slice none 0 0] ++ [.int .u8 0, .int .u8 0, .int .u8 0, .int .u8 0, .int .u8 0, .int .u8 0, .int .u8 0, .int .u8 0, .int .u8 0, .int .u8 0, .int .u8 0, .int .u8 0, .int .u8 0, .int .u8 0, .int .u8 0, .int .u8 0, .int .u8 0, .int .i64 0, .int .i64 0, .int .i64 0, .int .u32 0, .int .i64 0, .slice none 0 0] ++ [.int .u8 0, .int .u8 0, .int .u8 0, .int .u8 0, .int .u8 0, .int .u8 0, .int .u8 0, .int .u8 0, .int .u8 0, .int .u8 0, .int .u8 0, .int .u8 0, .int .u8 0, .int .u8 0, .int .u8 0, .int .u8 0, .int .u8 0, .int .i64 0, .int .i64 0, .int .i64 0, .int .u32 0, .int .i64 0, .slice none 0 0] ++ [.int .u8 0, .int .u8 0, .int .u8 0, .int .u8 0, .int .u8 0, .int .u8 0, .int .u8 0, .int .u8 0, .int .u8 0, .int .u8 0, .int .u8 0, .int .u8 0, .int .u8 0, .int .u8 0, .int .u8 0, .int .u8 0, .int .u8 0, .int .i64 0, .int .i64 0, .int .i64 0, .int .u32 0, .int .i64 0, .slice none 0 0]) (knRq b33 b40 b44) encRq ud77 zr30 sz30 rfl (by kernel_rfl) (by kernel_rfl) (by rfl) (by rfl) (by rfl)) rfl rfl rfl rfl ?_
      rintro _ _ ⟨b53, rfl, rfl⟩
      refine ⟨(fun _ => subF), ?_⟩
      refine WJ_tp 18 rfl (Rd_assign rfl) rfl (hp _ _) ?_
      refine WJ_done (by kernel_rfl) ?_
      refine Ps_wkB (hK9 ⟨b40, b44, b53⟩ (trivial))
  ·skip
   refine WI_ac rfl (Ac_bsL (f := (eU .u8 (w := 8))) (zs := [.int .u8 0]) (bs := [.int .u8 0, .int .u8 0, .int .u8 0, .int .u8 0, .int .u8 0, .int .u8 0]) [65#8, 66#8, 67#8, 68#8, 69#8, 70#8] (encU .u8) ud28 zr5 sz5 rfl (by rw [Array.toList_map, Array.toList_range]; rfl) (by rfl) (by rfl) (by rfl) (by rfl)) rfl rfl rfl rfl ?_
   rintro _ _ ⟨b44, rfl, rfl⟩
   refine ⟨(fun _ => subF), ?_⟩
   refine WJ_all (rs := [2, 4, 9]) (by kernel_rfl) rfl ?_
   refine WI_cons ?_ (WI_cons ?_ (WI_cons ?_ (by intro _ h; cases h)))
   ·skip
    refine WI_ac rfl (Ac_call cf24 rfl (hs := storeL_ct (ix := x9) (n := 3) (un := 5) (b := ⟨[97#8, 98#8, 99#8, 100#8, 101#8, 102#8], some ⟨b33, 0, none⟩, 6⟩) (who := 1#32))) rfl rfl rfl rfl ?_
    rintro _ _ ⟨⟨⟩, rfl, hA⟩
    simp only [List.cons_append, List.nil_append] at hA
    replace hA := hA.symm
    subst hA
    refine ⟨(fun _ => subF), ?_⟩
    refine WJ_all (rs := [4, 9]) (by kernel_rfl) rfl ?_
    refine WI_cons ?_ (WI_cons ?_ (by intro _ h; cases h))
    ·skip
     refine WI_ac rfl (Ac_bsL (f := (eU .u8 (w := 8))) (zs := [.int .u8 0]) (bs := [.int .u8 0, .int .u8 0, .int .u8 0, .int .u8 0, .int .u8 0]) [49#8, 50#8, 51#8, 52#8, 53#8] (encU .u8) ud28 zr5 sz5 rfl (by rw [Array.toList_map, Array.toList_range]; rfl) (by rfl) (by rfl) (by rfl) (by rfl)) rfl rfl rfl rfl ?_
     rintro _ _ ⟨b40, rfl, rfl⟩
     refine ⟨(fun _ => subF), ?_⟩
     refine WJ_all (rs := [5, 9]) (by kernel_rfl) rfl ?_
     refine WI_cons ?_ (WI_cons ?_ (by intro _ h; cases h))
     ·skip
      refine WI_ac rfl (Ac_convSS (cap := 5) (l := [49#8, 50#8, 51#8, 52#8, 53#8]) rfl ud28 ud5) rfl rfl rfl rfl ?_
      rintro _ _ ⟨rfl, rfl⟩
      refine ⟨(fun _ => subF), ?_⟩
      refine WJ_all (rs := [6, 9]) (by kernel_rfl) rfl ?_
      refine WI_cons ?_ (WI_cons ?_ (by intro _ h; cases h))
      ·skip
       refine WI_ac rfl (Ac_call cf24 rfl (hs := storeL_ct (ix := x9) (n := 4) (un := 5) (b := ⟨[49#8, 50#8, 51#8, 52#8, 53#8], some ⟨b40, 0, none⟩, 5⟩) (who := 1#32))) rfl rfl rfl rfl ?_
       rintro _ _ ⟨⟨⟩, rfl, hA⟩
       simp only [List.cons_append, List.nil_append] at hA
       replace hA := hA.symm
       subst hA
       refine ⟨(fun _ => subF), ?_⟩
       refine WJ_all (rs := [9]) (by kernel_rfl) rfl ?_
       refine WI_one ?_
       refine WI_ac rfl (Ac_convSS (cap := 6) (l := [65#8, 66#8, 67#8, 68#8, 69#8, 70#8]) rfl ud28 ud5) rfl rfl rfl rfl ?_
       rintro _ _ ⟨rfl, rfl⟩
       refine ⟨(fun _ => subF), ?_⟩
       refine WJ_all (rs := [10]) (by kernel_rfl) rfl ?_
       refine WI_one ?_
       refine WI_ac rfl (Ac_call cf24 rfl (hs := storeL_ct (ix := x9) (n := 3) (un := 5) (b := ⟨[65#8, 66#8, 67#8, 68#8, 69#8, 70#8], some ⟨b44, 0, none⟩, 6⟩) (who := 1#32))) rfl rfl rfl rfl ?_
       rintro _ _ ⟨⟨⟩, rfl, hA⟩
       simp only [List.cons_append, List.nil_append] at hA
       replace hA := hA.symm
       subst hA
       refine ⟨(fun _ => subF), ?_⟩
       refine WJ_all (rs := [13]) (by kernel_rfl) rfl ?_
       refine WI_one ?_
       refine WI_ac rfl (Ac_call cf24 rfl (hs := storeL_ct (ix := x9) (n := 3) (un := 9) (b := ⟨[97#8, 98#8, 99#8, 100#8, 101#8, 102#8], some ⟨b33, 0, none⟩, 6⟩) (who := 2#32))) rfl rfl rfl rfl ?_
       rintro _ _ ⟨⟨⟩, rfl, hA⟩
       simp only [List.cons_append, List.nil_append] at hA
       replace hA := hA.symm
       subst hA
       refine ⟨(fun _ => subF), ?_⟩
       refine WJ_all (rs := [16]) (by kernel_rfl) rfl ?_
       refine WI_one ?_
       refine WI_ac rfl (Ac_call cf24 rfl (hs := storeL_ct (ix := x9) (n := 3) (un := 4) (b := ⟨[97#8, 98#8, 99#8, 100#8, 101#8, 102#8], some ⟨b33, 0, none⟩, 6⟩) (who := 1#32))) rfl rfl rfl rfl ?_
       rintro _ _ ⟨⟨⟩, rfl, hA⟩
       simp only [List.cons_append, List.nil_append] at hA
       replace hA := hA.symm
       subst hA
       refine ⟨(fun _ => subF), ?_⟩
       refine WJ_all (rs := [17]) (by kernel_rfl) rfl ?_
       refine WI_one ?_
       refine WI_ac rfl (Ac_bsL (f := eRq) (zs := [.int .u8 0, .int .u8 0, .int .u8 0, .int .u8 0, .int .u8 0, .int .u8 0, .int .u8 0, .int .u8 0, .int .u8 0, .int .u8 0, .int .u8 0, .int .u8 0, .int .u8 0, .int .u8 0, .int .u8 0, .int .u8 0, .int .u8 0, .int .i64 0, .int .i64 0, .int .i64 0, .int .u32 0, .int .i64 0, .slice none 0 0]) (bs := [.int .u8 0, .int .u8 0, .int .u8 0, .int .u8 0, .int .u8 0, .int .u8 0, .int .u8 0, .int .u8 0, .int .u8 0, .int .u8 0, .int .u8 0, .int .u8 0, .int .u8 0, .int .u8 0, .int .u8 0, .int .u8 0, .int .u8 0, .int .i64 0, .int .i64 0, .int .i64 0, .int .u32 0, .int .i64 0, .slice none 0 0] ++ [.int .u8 0, .int .u8 0, .int .u8 0, .int .u8 0, .int .u8 0, .int .u8 0, .int .u8 0, .int .u8 0, .int .u8 0, .int .u8 0, .int .u8 0, .int .u8 0, .int .u8 0, .int .u8 0, .int .u8 0, .int .u8 0, .int .u8 0, .int .i64 0, .int .i64 0, .int .i64 0, .int .u32 0, .int .i64 0, .slice none 0 0] ++ [.int .u8 0, .int .u8 0, .int .u8 0, .int .u8 0, .int .u8 0, .int .u8 0, .int .u8 0, .int .u8 0, .int .u8 0, .int .u8 0, .int .u8 0, .int .u8 0, .int .u8 0, .int .u8 0, .int .u8 0, .int .u8 0, .int .u8 0, .int .i64 0, .int .i64 0, .int .i64 0, .int .u32 0, .int .i64 0, .slice none 0 0] ++ [.int .u8 0, .int .u8 0, .int .u8 0, .int .u8 0, .int .u8 0, .int .u8 0, .int .u8 0, .int .u8 0, .int .u8 0, .int .u8 0, .int .u8 0, .int .u8 0, .int .u8 0, .int .u8 0, .int .u8 0, .int .u8 0, .int .u8 0, .int .i64 0, .int .i64 0, .int .i64 0, .int .u32 0, .int .i64 0, .slice none 0 0] ++ [.int .u8 0, .int .u8 0, .int .u8 0, .int .u8 0, .int .u8 0, .int .u8 0, .int .u8 0, .int .u8 0, .int .u8 0, .int .u8 0, .int .u8 0, .int .u8 0, .int .u8 0, .int .u8 0, .int .u8 0, .int .u8 0, .int .u8 0, .int .i64 0, .int .i64 0, .int .i64 0, .int .u32 0, .int .i64 0, .slice none 0 0]) (knRq b33 b40 b44) encRq ud77 zr30 sz30 rfl (by kernel_rfl) (by kernel_rfl) (by rfl) (by rfl) (by rfl)) rfl rfl rfl rfl ?_
       rintro _ _ ⟨b53, rfl, rfl⟩
       refine ⟨(fun _ => subF), ?_⟩
       refine WJ_tp 18 rfl (Rd_assign rfl) rfl (hp _ _) ?_
       refine WJ_done (by kernel_rfl) ?_
       refine Ps_wkB (hK9 ⟨b40, b44, b53⟩ (trivial))
      ·skip
       refine WI_ac rfl (Ac_convSS (cap := 6) (l := [65#8, 66#8, 67#8, 68#8, 69#8, 70#8]) rfl ud28 ud5) rfl rfl rfl rfl ?_
       rintro _ _ ⟨rfl, rfl⟩
       refine ⟨(fun _ => subF), ?_⟩
       refine WJ_all (rs := [6]) (by kernel_rfl) rfl ?_
       refine WI_one ?_
       refine WI_ac rfl (Ac_call cf24 rfl (hs := storeL_ct (ix := x9) (n := 4) (un := 5) (b := ⟨[49#8, 50#8, 51#8, 52#8, 53#8], some ⟨b40, 0, none⟩, 5⟩) (who := 1#32))) rfl rfl rfl rfl ?_
       rintro _ _ ⟨⟨⟩, rfl, hA⟩
       simp only [List.cons_append, List.nil_append] at hA
       replace hA := hA.symm
       subst hA
       refine ⟨(fun _ => subF), ?_⟩
       refine WJ_all (rs := [10]) (by kernel_rfl) rfl ?_
       refine WI_one ?_
       refine WI_ac rfl (Ac_call cf24 rfl (hs := storeL_ct (ix := x9) (n := 3) (un := 5) (b := ⟨[65#8, 66#8, 67#8, 68#8, 69#8, 70#8], some ⟨b44, 0, none⟩, 6⟩) (who := 1#32))) rfl rfl rfl rfl ?_
       rintro _ _ ⟨⟨⟩, rfl, hA⟩
       simp only [List.cons_append, List.nil_append] at hA
       replace hA := hA.symm
       subst hA
       refine ⟨(fun _ => subF), ?_⟩
       refine WJ_all (rs := [13]) (by kernel_rfl) rfl ?_
       refine WI_one ?_
       refine WI_ac rfl (Ac_call cf24 rfl (hs := storeL_ct (ix := x9) (n := 3) (un := 9) (b := ⟨[97#8, 98#8, 99#8, 100#8, 101#8, 102#8], some ⟨b33, 0, none⟩, 6⟩) (who := 2#32))) rfl rfl rfl rfl ?_
       rintro _ _ ⟨⟨⟩, rfl, hA⟩
       simp only [List.cons_append, List.nil_append] at hA
       replace hA := hA.symm
       subst hA
       refine ⟨(fun _ => subF), ?_⟩
       refine WJ_all (rs := [16]) (by kernel_rfl) rfl ?_
       refine WI_one ?_
       refine WI_ac rfl (Ac_call cf24 rfl (hs := storeL_ct (ix := x9) (n := 3) (un := 4) (b := ⟨[97#8, 98#8, 99#8, 100#8, 101#8, 102#8], some ⟨b33, 0, none⟩, 6⟩) (who := 1#32))) rfl rfl rfl rfl ?_
       rintro _ _ ⟨⟨⟩, rfl, hA⟩
       simp only [List.cons_append, List.nil_append] at hA
       replace hA := hA.symm
       subst hA
       refine ⟨(fun _ => subF), ?_⟩
       refine WJ_all (rs := [17]) (by kernel_rfl) rfl ?_
       refine WI_one ?_
       refine WI_ac rfl (Ac_bsL (f := eRq) (zs := [.int .u8 0, .int .u8 0, .int .u8 0, .int .u8 0, .int .u8 0, .int .u8 0, .int .u8 0, .int .u8 0, .int .u8 0, .int .u8 0, .int .u8 0, .int .u8 0, .int .u8 0, .int .u8 0, .int .u8 0, .int .u8 0, .int .u8 0, .int .i64 0, .int .i64 0, .int .i64 0, .int .u32 0, .int .i64 0, .slice none 0 0]) (bs := [.int .u8 0, .int .u8 0, .int .u8 0, .int .u8 0, .int .u8 0, .int .u8 0, .int .u8 0, .int .u8 0, .int .u8 0, .int .u8 0, .int .u8 0, .int .u8 0, .int .u8 0, .int .u8 0, .int .u8 0, .int .u8 0, .int .u8 0, .int .i64 0, .int .i64 0, .int .i64 0, .int .u32 0, .int .i64 0, .slice none 0 0] ++ [.int .u8 0, .int .u8 0, .int .u8 0, .int .u8 0, .int .u8 0, .int .u8 0, .int .u8 0, .int .u8 0, .int .u8 0, .int .u8 0, .int .u8 0, .int .u8 0, .int .u8 0, .int .u8 0, .int .u8 0, .int .u8 0, .int .u8 0, .int .i64 0, .int .i64 0, .int .i64 0, .int .u32 0, .int .i64 0, .slice none 0 0] ++ [.int .u8 0, .int .u8 0, .int .u8 0, .int .u8 0, .int .u8 0, .int .u8 0, .int .u8 0, .int .u8 0, .int .u8 0, .int .u8 0, .int .u8 0, .int .u8 0, .int .u8 0, .int .u8 0, .int .u8 0, .int .u8 0, .int .u8 0, .int .i64 0, .int .i64 0, .int .i64 0, .int .u32 0, .int .i64 0, .slice none 0 0] ++ [.int .u8 0, .int .u8 0, .int .u8 0, .int .u8 0, .int .u8 0, .int .u8 0, .int .u8 0, .int .u8 0, .int .u8 0, .int .u8 0, .int .u8 0, .int .u8 0, .int .u8 0, .int .u8 0, .int .u8 0, .int .u8 0, .int .u8 0, .int .i64 0, .int .i64 0, .int .i64 0, .int .u32 0, .int .i64 0, .slice none 0 0] ++ [.int .u8 0, .int .u8 0, .int .u8 0, .int .u8 0, .int .u8 0, .int .u8 0, .int .u8 0, .int .u8 0, .int .u8 0, .int .u8 0, .int .u8 0, .int .u8 0, .int .u8 0, .int .u8 0, .int .u8 0, .int .u8 0, .int .u8 0, .int .i64 0, .int .i64 0, .int .i64 0, .int .u32 0, .int .i64 0, .slice none 0 0]) (knRq b33 b40 b44) encRq ud77 zr30 sz30 rfl (by kernel_rfl) (by kernel_rfl) (by rfl) (by rfl) (by rfl)) rfl rfl rfl rfl ?_
       rintro _ _ ⟨b53, rfl, rfl⟩
       refine ⟨(fun _ => subF), ?_⟩
       refine WJ_tp 18 rfl (Rd_assign rfl) rfl (hp _ _) ?_
       refine WJ_done (by kernel_rfl) ?_
       refine Ps_wkB (hK9 ⟨b40, b44, b53⟩ (trivial))
     ·skip
      refine WI_ac rfl (Ac_convSS (cap := 6) (l := [65#8, 66#8, 67#8, 68#8, 69#8, 70#8]) rfl ud28 ud5) rfl rfl rfl rfl ?_
      rintro _ _ ⟨rfl, rfl⟩
      refine ⟨(fun _ => subF), ?_⟩
      refine WJ_all (rs := [5]) (by kernel_rfl) rfl ?_
      refine WI_one ?_
      refine WI_ac rfl (Ac_convSS (cap := 5) (l := [49#8, 50#8, 51#8, 52#8, 53#8]) rfl ud28 ud5) rfl rfl rfl rfl ?_
      rintro _ _ ⟨rfl, rfl⟩
      refine ⟨(fun _ => subF), ?_⟩
      refine WJ_all (rs := [6]) (by kernel_rfl) rfl ?_
      refine WI_one ?_
      refine WI_ac rfl (Ac_call cf24 rfl (hs := storeL_ct (ix := x9) (n := 4) (un := 5) (b := ⟨[49#8, 50#8, 51#8, 52#8, 53#8], some ⟨b40, 0, none⟩, 5⟩) (who := 1#32))) rfl rfl rfl rfl ?_
      rintro _ _ ⟨⟨⟩, rfl, hA⟩
      simp only [List.cons_append, List.nil_append] at hA
      replace hA := hA.symm
      subst hA
      refine ⟨(fun _ => subF), ?_⟩
      refine WJ_all (rs := [10]) (by kernel_rfl) rfl ?_
      refine WI_one ?_
      refine WI_ac rfl (Ac_call cf24 rfl (hs := storeL_ct (ix := x9) (n := 3) (un := 5) (b := ⟨[65#8, 66#8, 67#8, 68#8, 69#8, 70#8], some ⟨b44, 0, none⟩, 6⟩) (who := 1#32))) rfl rfl rfl rfl ?_
      rintro _ _ ⟨⟨⟩, rfl, hA⟩
      simp only [List.cons_append, List.nil_append] at hA
      replace hA := hA.symm
      subst hA
      refine ⟨(fun _ => subF), ?_⟩
      refine WJ_all (rs := [13]) (by kernel_rfl) rfl ?_
      refine WI_one ?_
      refine WI_ac rfl (Ac_call cf24 rfl (hs := storeL_ct (ix := x9) (n := 3) (un := 9) (b := ⟨[97#8, 98#8, 99#8, 100#8, 101#8, 102#8], some ⟨b33, 0, none⟩, 6⟩) (who := 2#32))) rfl rfl rfl rfl ?_
      rintro _ _ ⟨⟨⟩, rfl, hA⟩
      simp only [List.cons_append, List.nil_append] at hA
      replace hA := hA.symm
      subst hA
      refine ⟨(fun _ => subF), ?_⟩
      refine WJ_all (rs := [16]) (by kernel_rfl) rfl ?_
      refine WI_one ?_
      refine WI_ac rfl (Ac_call cf24 rfl (hs := storeL_ct (ix := x9) (n := 3) (un := 4) (b := ⟨[97#8, 98#8, 99#8, 100#8, 101#8, 102#8], some ⟨b33, 0, none⟩, 6⟩) (who := 1#32))) rfl rfl rfl rfl ?_
      rintro _ _ ⟨⟨⟩, rfl, hA⟩
      simp only [List.cons_append, List.nil_append] at hA
      replace hA := hA.symm
      subst hA
      refine ⟨(fun _ => subF), ?_⟩
      refine WJ_all (rs := [17]) (by kernel_rfl) rfl ?_
      refine WI_one ?_
      refine WI_ac rfl (Ac_bsL (f := eRq) (zs := [.int .u8 0, .int .u8 0, .int .u8 0, .int .u8 0, .int .u8 0, .int .u8 0, .int .u8 0, .int .u8 0, .int .u8 0, .int .u8 0, .int .u8 0, .int .u8 0, .int .u8 0, .int .u8 0, .int .u8 0, .int .u8 0, .int .u8 0, .int .i64 0, .int .i64 0, .int .i64 0, .int .u32 0, .int .i64 0, .slice none 0 0]) (bs := [.int .u8 0, .int .u8 0, .int .u8 0, .int .u8 0, .int .u8 0, .int .u8 0, .int .u8 0, .int .u8 0, .int .u8 0, .int .u8 0, .int .u8 0, .int .u8 0, .int .u8 0, .int .u8 0, .int .u8 0, .int .u8 0, .int .u8 0, .int .i64 0, .int .i64 0, .int .i64 0, .int .u32 0, .int .i64 0, .slice none 0 0] ++ [.int .u8 0, .int .u8 0, .int .u8 0, .int .u8 0, .int .u8 0, .int .u8 0, .int .u8 0, .int .u8 0, .int .u8 0, .int .u8 0, .int .u8 0, .int .u8 0, .int .u8 0, .int .u8 0, .int .u8 0, .int .u8 0, .int .u8 0, .int .i64 0, .int .i64 0, .int .i64 0, .int .u32 0, .int .i64 0, .slice none 0 0] ++ [.int .u8 0, .int .u8 0, .int .u8 0, .int .u8 0, .int .u8 0, .int .u8 0, .int .u8 0, .int .u8 0, .int .u8 0, .int .u8 0, .int .u8 0, .int .u8 0, .int .u8 0, .int .u8 0, .int .u8 0, .int .u8 0, .int .u8 0, .int .i64 0, .int .i64 0, .int .i64 0, .int .u32 0, .int .i64 0, .slice none 0 0] ++ [.int .u8 0, .int .u8 0, .int .u8 0, .int .u8 0, .int .u8 0, .int .u8 0, .int .u8 0, .int .u8 0, .int .u8 0, .int .u8 0, .int .u8 0, .int .u8 0, .int .u8 0, .int .u8 0, .int .u8 0, .int .u8 0, .int .u8 0, .int .i64 0, .int .i64 0, .int .i64 0, .int .u32 0, .int .i64 0, .slice none 0 0] ++ [.int .u8 0, .int .u8 0, .int .u8 0, .int .u8 0, .int .u8 0, .int .u8 0, .int .u8 0, .int .u8 0, .int .u8 0, .int .u8 0, .int .u8 0, .int .u8 0, .int .u8 0, .int .u8 0, .int .u8 0, .int .u8 0, .int .u8 0, .int .i64 0, .int .i64 0, .int .i64 0, .int .u32 0, .int .i64 0, .slice none 0 0]) (knRq b33 b40 b44) encRq ud77 zr30 sz30 rfl (by kernel_rfl) (by kernel_rfl) (by rfl) (by rfl) (by rfl)) rfl rfl rfl rfl ?_
      rintro _ _ ⟨b53, rfl, rfl⟩
      refine ⟨(fun _ => subF), ?_⟩
      refine WJ_tp 18 rfl (Rd_assign rfl) rfl (hp _ _) ?_
      refine WJ_done (by kernel_rfl) ?_
      refine Ps_wkB (hK9 ⟨b40, b44, b53⟩ (trivial))
    ·skip
     refine WI_ac rfl (Ac_convSS (cap := 6) (l := [65#8, 66#8, 67#8, 68#8, 69#8, 70#8]) rfl ud28 ud5) rfl rfl rfl rfl ?_
     rintro _ _ ⟨rfl, rfl⟩
     refine ⟨(fun _ => subF), ?_⟩
     refine WJ_all (rs := [4]) (by kernel_rfl) rfl ?_
     refine WI_one ?_
     refine WI_ac rfl (Ac_bsL (f := (eU .u8 (w := 8))) (zs := [.int .u8 0]) (bs := [.int .u8 0, .int .u8 0, .int .u8 0, .int .u8 0, .int .u8 0]) [49#8, 50#8, 51#8, 52#8, 53#8] (encU .u8) ud28 zr5 sz5 rfl (by rw [Array.toList_map, Array.toList_range]; rfl) (by rfl) (by rfl) (by rfl) (by rfl)) rfl rfl rfl rfl ?_
     rintro _ _ ⟨b40, rfl, rfl⟩
     refine ⟨(fun _ => subF), ?_⟩
     refine WJ_all (rs := [5]) (by kernel_rfl) rfl ?_
     refine WI_one ?_
     refine WI_ac rfl (Ac_convSS (cap := 5) (l := [49#8, 50#8, 51#8, 52#8, 53#8]) rfl ud28 ud5) rfl rfl rfl rfl ?_
     rintro _ _ ⟨rfl, rfl⟩
     refine ⟨(fun _ => subF), ?_⟩
     refine WJ_all (rs := [6]) (by kernel_rfl) rfl ?_
     refine WI_one ?_
     refine WI_ac rfl (Ac_call cf24 rfl (hs := storeL_ct (ix := x9) (n := 4) (un := 5) (b := ⟨[49#8, 50#8, 51#8, 52#8, 53#8], some ⟨b40, 0, none⟩, 5⟩) (who := 1#32))) rfl rfl rfl rfl ?_
     rintro _ _ ⟨⟨⟩, rfl, hA⟩
     simp only [List.cons_append, List.nil_append] at hA
     replace hA := hA.symm
     subst hA
     refine ⟨(fun _ => subF), ?_⟩
     refine WJ_all (rs := [10]) (by kernel_rfl) rfl ?_
     refine WI_one ?_
     refine WI_ac rfl (Ac_call cf24 rfl (hs := storeL_ct (ix := x9) (n := 3) (un := 5) (b := ⟨[65#8, 66#8, 67#8, 68#8, 69#8, 70#8], some ⟨b44, 0, none⟩, 6⟩) (who := 1#32))) rfl rfl rfl rfl ?_
     rintro _ _ ⟨⟨⟩, rfl, hA⟩
     simp only [List.cons_append, List.nil_append] at hA
     replace hA := hA.symm
     subst hA
     refine ⟨(fun _ => subF), ?_⟩
     refine WJ_all (rs := [13]) (by kernel_rfl) rfl ?_
     refine WI_one ?_
     refine WI_ac rfl (Ac_call cf24 rfl (hs := storeL_ct (ix := x9) (n := 3) (un := 9) (b := ⟨[97#8, 98#8, 99#8, 100#8, 101#8, 102#8], some ⟨b33, 0, none⟩, 6⟩) (who := 2#32))) rfl rfl rfl rfl ?_
     rintro _ _ ⟨⟨⟩, rfl, hA⟩
     simp only [List.cons_append, List.nil_append] at hA
     replace hA := hA.symm
     subst hA
     refine ⟨(fun _ => subF), ?_⟩
     refine WJ_all (rs := [16]) (by kernel_rfl) rfl ?_
     refine WI_one ?_
     refine WI_ac rfl (Ac_call cf24 rfl (hs := storeL_ct (ix := x9) (n := 3) (un := 4) (b := ⟨[97#8, 98#8, 99#8, 100#8, 101#8, 102#8], some ⟨b33, 0, none⟩, 6⟩) (who := 1#32))) rfl rfl rfl rfl ?_
     rintro _ _ ⟨⟨⟩, rfl, hA⟩
     simp only [List.cons_append, List.nil_append] at hA
     replace hA := hA.symm
     subst hA
     refine ⟨(fun _ => subF), ?_⟩
     refine WJ_all (rs := [17]) (by kernel_rfl) rfl ?_
     refine WI_one ?_
     refine WI_ac rfl (Ac_bsL (f := eRq) (zs := [.int .u8 0, .int .u8 0, .int .u8 0, .int .u8 0, .int .u8 0, .int .u8 0, .int .u8 0, .int .u8 0, .int .u8 0, .int .u8 0, .int .u8 0, .int .u8 0, .int .u8 0, .int .u8 0, .int .u8 0, .int .u8 0, .int .u8 0, .int .i64 0, .int .i64 0, .int .i64 0, .int .u32 0, .int .i64 0, .slice none 0 0]) (bs := [.int .u8 0, .int .u8 0, .int .u8 0, .int .u8 0, .int .u8 0, .int .u8 0, .int .u8 0, .int .u8 0, .int .u8 0, .int .u8 0, .int .u8 0, .int .u8 0, .int .u8 0, .int .u8 0, .int .u8 0, .int .u8 0, .int .u8 0, .int .i64 0, .int .i64 0, .int .i64 0, .int .u32 0, .int .i64 0, .slice none 0 0] ++ [.int .u8 0, .int .u8 0, .int .u8 0, .int .u8 0, .int .u8 0, .int .u8 0, .int .u8 0, .int .u8 0, .int .u8 0, .int .u8 0, .int .u8 0, .int .u8 0, .int .u8 0, .int .u8 0, .int .u8 0, .int .u8 0, .int .u8 0, .int .i64 0, .int .i64 0, .int .i64 0, .int .u32 0, .int .i64 0, .slice none 0 0] ++ [.int .u8 0, .int .u8 0, .int .u8 0, .int .u8 0, .int .u8 0, .int .u8 0, .int .u8 0, .int .u8 0, .int .u8 0, .int .u8 0, .int .u8 0, .int .u8 0, .int .u8 0, .int .u8 0, .int .u8 0, .int .u8 0, .int .u8 0, .int .i64 0, .int .i64 0, .int .i64 0, .int .u32 0, .int .i64 0, .slice none 0 0] ++ [.int .u8 0, .int .u8 0, .int .u8 0, .int .u8 0, .int .u8 0, .int .u8 0, .int .u8 0, .int .u8 0, .int .u8 0, .int .u8 0, .int .u8 0, .int .u8 0, .int .u8 0, .int .u8 0, .int .u8 0, .int .u8 0, .int .u8 0, .int .i64 0, .int .i64 0, .int .i64 0, .int .u32 0, .int .i64 0, .slice none 0 0] ++ [.int .u8 0, .int .u8 0, .int .u8 0, .int .u8 0, .int .u8 0, .int .u8 0, .int .u8 0, .int .u8 0, .int .u8 0, .int .u8 0, .int .u8 0, .int .u8 0, .int .u8 0, .int .u8 0, .int .u8 0, .int .u8 0, .int .u8 0, .int .i64 0, .int .i64 0, .int .i64 0, .int .u32 0, .int .i64 0, .slice none 0 0]) (knRq b33 b40 b44) encRq ud77 zr30 sz30 rfl (by kernel_rfl) (by kernel_rfl) (by rfl) (by rfl) (by rfl)) rfl rfl rfl rfl ?_
     rintro _ _ ⟨b53, rfl, rfl⟩
     refine ⟨(fun _ => subF), ?_⟩
     refine WJ_tp 18 rfl (Rd_assign rfl) rfl (hp _ _) ?_
     refine WJ_done (by kernel_rfl) ?_
     refine Ps_wkB (hK9 ⟨b40, b44, b53⟩ (trivial))
   ·skip
    refine WI_ac rfl (Ac_bsL (f := (eU .u8 (w := 8))) (zs := [.int .u8 0]) (bs := [.int .u8 0, .int .u8 0, .int .u8 0, .int .u8 0, .int .u8 0]) [49#8, 50#8, 51#8, 52#8, 53#8] (encU .u8) ud28 zr5 sz5 rfl (by rw [Array.toList_map, Array.toList_range]; rfl) (by rfl) (by rfl) (by rfl) (by rfl)) rfl rfl rfl rfl ?_
    rintro _ _ ⟨b40, rfl, rfl⟩
    refine ⟨(fun _ => subF), ?_⟩
    refine WJ_all (rs := [2, 5, 9]) (by kernel_rfl) rfl ?_
    refine WI_cons ?_ (WI_cons ?_ (WI_cons ?_ (by intro _ h; cases h)))
    ·skip
     refine WI_ac rfl (Ac_call cf24 rfl (hs := storeL_ct (ix := x9) (n := 3) (un := 5) (b := ⟨[97#8, 98#8, 99#8, 100#8, 101#8, 102#8], some ⟨b33, 0, none⟩, 6⟩) (who := 1#32))) rfl rfl rfl rfl ?_
     rintro _ _ ⟨⟨⟩, rfl, hA⟩
     simp only [List.cons_append, List.nil_append] at hA
     replace hA := hA.symm
     subst hA
     refine ⟨(fun _ => subF), ?_⟩
     refine WJ_all (rs := [5, 9]) (by kernel_rfl) rfl ?_
     refine WI_cons ?_ (WI_cons ?_ (by intro _ h; cases h))
     ·skip
      refine WI_ac rfl (Ac_convSS (cap := 5) (l := [49#8, 50#8, 51#8, 52#8, 53#8]) rfl ud28 ud5) rfl rfl rfl rfl ?_
      rintro _ _ ⟨rfl, rfl⟩
      refine ⟨(fun _ => subF), ?_⟩
      refine WJ_all (rs := [6, 9]) (by kernel_rfl) rfl ?_
      refine WI_cons ?_ (WI_cons ?_ (by intro _ h; cases h))
      ·skip
       refine WI_ac rfl (Ac_call cf24 rfl (hs := storeL_ct (ix := x9) (n := 4) (un := 5) (b := ⟨[49#8, 50#8, 51#8, 52#8, 53#8], some ⟨b40, 0, none⟩, 5⟩) (who := 1#32))) rfl rfl rfl rfl ?_
       rintro _ _ ⟨⟨⟩, rfl, hA⟩
       simp only [List.cons_append, List.nil_append] at hA
       replace hA := hA.symm
       subst hA
       refine ⟨(fun _ => subF), ?_⟩
       refine WJ_all (rs := [9]) (by kernel_rfl) rfl ?_
       refine WI_one ?_
       refine WI_ac rfl (Ac_convSS (cap := 6) (l := [65#8, 66#8, 67#8, 68#8, 69#8, 70#8]) rfl ud28 ud5) rfl rfl rfl rfl ?_
       rintro _ _ ⟨rfl, rfl⟩
       refine ⟨(fun _ => subF), ?_⟩
       refine WJ_all (rs := [10]) (by kernel_rfl) rfl ?_
       refine WI_one ?_
       refine WI_ac rfl (Ac_call cf24 rfl (hs := storeL_ct (ix := x9) (n := 3) (un := 5) (b := ⟨[65#8, 66#8, 67#8, 68#8, 69#8, 70#8], some ⟨b44, 0, none⟩, 6⟩) (who := 1#32))) rfl rfl rfl rfl ?_
       rintro _ _ ⟨⟨⟩, rfl, hA⟩
       simp only [List.cons_append, List.nil_append] at hA
       replace hA := hA.symm
       subst hA
       refine ⟨(fun _ => subF), ?_⟩
       refine WJ_all (rs := [13]) (by kernel_rfl) rfl ?_
       refine WI_one ?_
       refine WI_ac rfl (Ac_call cf24 rfl (hs := storeL_ct (ix := x9) (n := 3) (un := 9) (b := ⟨[97#8, 98#8, 99#8, 100#8, 101#8, 102#8], some ⟨b33, 0, none⟩, 6⟩) (who := 2#32))) rfl rfl rfl rfl ?_
       rintro _ _ ⟨⟨⟩, rfl, hA⟩
       simp only [List.cons_append, List.nil_append] at hA
       replace hA := hA.symm
       subst hA
       refine ⟨(fun _ => subF), ?_⟩
       refine WJ_all (rs := [16]) (by kernel_rfl) rfl ?_
       refine WI_one ?_
       refine WI_ac rfl (Ac_call cf24 rfl (hs := storeL_ct (ix := x9) (n := 3) (un := 4) (b := ⟨[97#8, 98#8, 99#8, 100#8, 101#8, 102#8], some ⟨b33, 0, none⟩, 6⟩) (who := 1#32))) rfl rfl rfl rfl ?_
       rintro _ _ ⟨⟨⟩, rfl, hA⟩
       simp only [List.cons_append, List.nil_append] at hA
       replace hA := hA.symm
       subst hA
       refine ⟨(fun _ => subF), ?_⟩
       refine WJ_all (rs := [17]) (by kernel_rfl) rfl ?_
       refine WI_one ?_
       refine WI_ac rfl (Ac_bsL (f := eRq) (zs := [.int .u8 0, .int .u8 0, .int .u8 0, .int .u8 0, .int .u8 0, .int .u8 0, .int .u8 0, .int .u8 0, .int .u8 0, .int .u8 0, .int .u8 0, .int .u8 0, .int .u8 0, .int .u8 0, .int .u8 0, .int .u8 0, .int .u8 0, .int .i64 0, .int .i64 0, .int .i64 0, .int .u32 0, .int .i64 0, .slice none 0 0]) (bs := [.int .u8 0, .int .u8 0, .int .u8 0, .int .u8 0, .int .u8 0, .int .u8 0, .int .u8 0, .int .u8 0, .int .u8 0, .int .u8 0, .int .u8 0, .int .u8 0, .int .u8 0, .int .u8 0, .int .u8 0, .int .u8 0, .int .u8 0, .int .i64 0, .int .i64 0, .int .i64 0, .int .u32 0, .int .i64 0, .slice none 0 0] ++ [.int .u8 0, .int .u8 0, .int .u8 0, .int .u8 0, .int .u8 0, .int .u8 0, .int .u8 0, .int .u8 0, .int .u8 0, .int .u8 0, .int .u8 0, .int .u8 0, .int .u8 0, .int .u8 0, .int .u8 0, .int .u8 0, .int .u8 0, .int .i64 0, .int .i64 0, .int .i64 0, .int .u32 0, .int .i64 0, .slice none 0 0] ++ [.int .u8 0, .int .u8 0, .int .u8 0, .int .u8 0, .int .u8 0, .int .u8 0, .int .u8 0, .int .u8 0, .int .u8 0, .int .u8 0, .int .u8 0, .int .u8 0, .int .u8 0, .int .u8 0, .int .u8 0, .int .u8 0, .int .u8 0, .int .i64 0, .int .i64 0, .int .i64 0, .int .u32 0, .int .i64 0, .slice none 0 0] ++ [.int .u8 0, .int .u8 0, .int .u8 0, .int .u8 0, .int .u8 0, .int .u8 0, .int .u8 0, .int .u8 0, .int .u8 0, .int .u8 0, .int .u8 0, .int .u8 0, .int .u8 0, .int .u8 0, .int .u8 0, .int .u8 0, .int .u8 0, .int .i64 0, .int .i64 0, .int .i64 0, .int .u32 0, .int .i64 0, .slice none 0 0] ++ [.int .u8 0, .int .u8 0, .int .u8 0, .int .u8 0, .int .u8 0, .int .u8 0, .int .u8 0, .int .u8 0, .int .u8 0, .int .u8 0, .int .u8 0, .int .u8 0, .int .u8 0, .int .u8 0, .int .u8 0, .int .u8 0, .int .u8 0, .int .i64 0, .int .i64 0, .int .i64 0, .int .u32 0, .int .i64 0, .slice none 0 0]) (knRq b33 b40 b44) encRq ud77 zr30 sz30 rfl (by kernel_rfl) (by kernel_rfl) (by rfl) (by rfl) (by rfl)) rfl rfl rfl rfl ?_
       rintro _ _ ⟨b53, rfl, rfl⟩
       refine ⟨(fun _ => subF), ?_⟩
       refine WJ_tp 18 rfl (Rd_assign rfl) rfl (hp _ _) ?_
       refine WJ_done (by kernel_rfl) ?_
       refine Ps_wkB (hK9 ⟨b40, b44, b53⟩ (trivial))
      ·skip
       refine WI_ac rfl (Ac_convSS (cap := 6) (l := [65#8, 66#8, 67#8, 68#8, 69#8, 70#8]) rfl ud28 ud5) rfl rfl rfl rfl ?_
       rintro _ _ ⟨rfl, rfl⟩
       refine ⟨(fun _ => subF), ?_⟩
       refine WJ_all (rs := [6]) (by kernel_rfl) rfl ?_
       refine WI_one ?_
       refine WI_ac rfl (Ac_call cf24 rfl (hs := storeL_ct (ix := x9) (n := 4) (un := 5) (b := ⟨[49#8, 50#8, 51#8, 52#8, 53#8], some ⟨b40, 0, none⟩, 5⟩) (who := 1#32))) rfl rfl rfl rfl ?_
       rintro _ _ ⟨⟨⟩, rfl, hA⟩
       simp only [List.cons_append, List.nil_append] at hA
       replace hA := hA.symm
       subst hA
       refine ⟨(fun _ => subF), ?_⟩
       refine WJ_all (rs := [10]) (by kernel_rfl) rfl ?_
       refine WI_one ?_
       refine WI_ac rfl (Ac_call cf24 rfl (hs := storeL_ct (ix := x9) (n := 3) (un := 5) (b := ⟨[65#8, 66#8, 67#8, 68#8, 69#8, 70#8], some ⟨b44, 0, none⟩, 6⟩) (who := 1#32))) rfl rfl rfl rfl ?_
       rintro _ _ ⟨⟨⟩, rfl, hA⟩
       simp only [List.cons_append, List.nil_append] at hA
       replace hA := hA.symm
       subst hA
       refine ⟨(fun _ => subF), ?_⟩
       refine WJ_all (rs := [13]) (by kernel_rfl) rfl ?_
       refine WI_one ?_
       refine WI_ac rfl (Ac_call cf24 rfl (hs := storeL_ct (ix := x9) (n := 3) (un := 9) (b := ⟨[97#8, 98#8, 99#8, 100#8, 101#8, 102#8], some ⟨b33, 0, none⟩, 6⟩) (who := 2#32))) rfl rfl rfl rfl ?_
       rintro _ _ ⟨⟨⟩, rfl, hA⟩
       simp only [List.cons_append, List.nil_append] at hA
       replace hA := hA.symm
       subst hA
       refine ⟨(fun _ => subF), ?_⟩
       refine WJ_all (rs := [16]) (by kernel_rfl) rfl ?_
       refine WI_one ?_
       refine WI_ac rfl (Ac_call cf24 rfl (hs := storeL_ct (ix := x9) (n := 3) (un := 4) (b := ⟨[97#8, 98#8, 99#8, 100#8, 101#8, 102#8], some ⟨b33, 0, none⟩, 6⟩) (who := 1#32))) rfl rfl rfl rfl ?_
       rintro _ _ ⟨⟨⟩, rfl, hA⟩
       simp only [List.cons_append, List.nil_append] at hA
       replace hA := hA.symm
       subst hA
       refine ⟨(fun _ => subF), ?_⟩
       refine WJ_all (rs := [17]) (by kernel_rfl) rfl ?_
       refine WI_one ?_
       refine WI_ac rfl (Ac_bsL (f := eRq) (zs := [.int .u8 0, .int .u8 0, .int .u8 0, .int .u8 0, .int .u8 0, .int .u8 0, .int .u8 0, .int .u8 0, .int .u8 0, .int .u8 0, .int .u8 0, .int .u8 0, .int .u8 0, .int .u8 0, .int .u8 0, .int .u8 0, .int .u8 0, .int .i64 0, .int .i64 0, .int .i64 0, .int .u32 0, .int .i64 0, .slice none 0 0]) (bs := [.int .u8 0, .int .u8 0, .int .u8 0, .int .u8 0, .int .u8 0, .int .u8 0, .int .u8 0, .int .u8 0, .int .u8 0, .int .u8 0, .int .u8 0, .int .u8 0, .int .u8 0, .int .u8 0, .int .u8 0, .int .u8 0, .int .u8 0, .int .i64 0, .int .i64 0, .int .i64 0, .int .u32 0, .int .i64 0, .slice none 0 0] ++ [.int .u8 0, .int .u8 0, .int .u8 0, .int .u8 0, .int .u8 0, .int .u8 0, .int .u8 0, .int .u8 0, .int .u8 0, .int .u8 0, .int .u8 0, .int .u8 0, .int .u8 0, .int .u8 0, .int .u8 0, .int .u8 0, .int .u8 0, .int .i64 0, .int .i64 0, .int .i64 0, .int .u32 0, .int .i64 0, .slice none 0 0] ++ [.int .u8 0, .int .u8 0, .int .u8 0, .int .u8 0, .int .u8 0, .int .u8 0, .int .u8 0, .int .u8 0, .int .u8 0, .int .u8 0, .int .u8 0, .int .u8 0, .int .u8 0, .int .u8 0, .int .u8 0, .int .u8 0, .int .u8 0, .int .i64 0, .int .i64 0, .int .i64 0, .int .u32 0, .int .i64 0, .slice none 0 0] ++ [.int .u8 0, .int .u8 0, .int .u8 0, .int .u8 0, .int .u8 0, .int .u8 0, .int .u8 0, .int .u8 0, .int .u8 0, .int .u8 0, .int .u8 0, .int .u8 0, .int .u8 0, .int .u8 0, .int .u8 0, .int .u8 0, .int .u8 0, .int .i64 0, .int .i64 0, .int .i64 0, .int .u32 0, .int .i64 0, .slice none 0 0] ++ [.int .u8 0, .int .u8 0, .int .u8 0, .int .u8 0, .int .u8 0, .int .u8 0, .int .u8 0, .int .u8 0, .int .u8 0, .int .u8 0, .int .u8 0, .int .u8 0, .int .u8 0, .int .u8 0, .int .u8 0, .int .u8 0, .int .u8 0, .int .i64 0, .int .i64 0, .int .i64 0, .int .u32 0, .int .i64 0, .slice none 0 0]) (knRq b33 b40 b44) encRq ud77 zr30 sz30 rfl (by kernel_rfl) (by kernel_rfl) (by rfl) (by rfl) (by rfl)) rfl rfl rfl rfl ?_
       rintro _ _ ⟨b53, rfl, rfl⟩
       refine ⟨(fun _ => subF), ?_⟩
       refine WJ_tp 18 rfl (Rd_assign rfl) rfl (hp _ _) ?_
       refine WJ_done (by kernel_rfl) ?_
       refine Ps_wkB (hK9 ⟨b40, b44, b53⟩ (trivial))
     ·skip
      refine WI_ac rfl (Ac_convSS (cap := 6) (l := [65#8, 66#8, 67#8, 68#8, 69#8, 70#8]) rfl ud28 ud5) rfl rfl rfl rfl ?_
      rintro _ _ ⟨rfl, rfl⟩
      refine ⟨(fun _ => subF), ?_⟩
      refine WJ_all (rs := [5]) (by kernel_rfl) rfl ?_
      refine WI_one ?_
      refine WI_ac rfl (Ac_convSS (cap := 5) (l := [49#8, 50#8, 51#8, 52#8, 53#8]) rfl ud28 ud5) rfl rfl rfl rfl ?_
      rintro _ _ ⟨rfl, rfl⟩
      refine ⟨(fun _ => subF), ?_⟩
      refine WJ_all (rs := [6]) (by kernel_rfl) rfl ?_
      refine WI_one ?_
      refine WI_ac rfl (Ac_call cf24 rfl (hs := storeL_ct (ix := x9) (n := 4) (un := 5) (b := ⟨[49#8, 50#8, 51#8, 52#8, 53#8], some ⟨b40, 0, none⟩, 5⟩) (who := 1#32))) rfl rfl rfl rfl ?_
      rintro _ _ ⟨⟨⟩, rfl, hA⟩
      simp only [List.cons_append, List.nil_append] at hA
      replace hA := hA.symm
      subst hA
      refine ⟨(fun _ => subF), ?_⟩
      refine WJ_all (rs := [10]) (by kernel_rfl) rfl ?_
      refine WI_one ?_
      refine WI_ac rfl (Ac_call cf24 rfl (hs := storeL_ct (ix := x9) (n := 3) (un := 5) (b := ⟨[65#8, 66#8, 67#8, 68#8, 69#8, 70#8], some ⟨b44, 0, none⟩, 6⟩) (who := 1#32))) rfl rfl rfl rfl ?_
      rintro _ _ ⟨⟨⟩, rfl, hA⟩
      simp only [List.cons_append, List.nil_append] at hA
      replace hA := hA.symm
      subst hA
      refine ⟨(fun _ => subF), ?_⟩
      refine WJ_all (rs := [13]) (by kernel_rfl) rfl ?_
      refine WI_one ?_
      refine WI_ac rfl (Ac_call cf24 rfl (hs := storeL_ct (ix := x9) (n := 3) (un := 9) (b := ⟨[97#8, 98#8, 99#8, 100#8, 101#8, 102#8], some ⟨b33, 0, none⟩, 6⟩) (who := 2#32))) rfl rfl rfl rfl ?_
      rintro _ _ ⟨⟨⟩, rfl, hA⟩
      simp only [List.cons_append, List.nil_append] at hA
      replace hA := hA.symm
      subst hA
      refine ⟨(fun _ => subF), ?_⟩
      refine WJ_all (rs := [16]) (by kernel_rfl) rfl ?_
      refine WI_one ?_
      refine WI_ac rfl (Ac_call cf24 rfl (hs := storeL_ct (ix := x9) (n := 3) (un := 4) (b := ⟨[97#8, 98#8, 99#8, 100#8, 101#8, 102#8], some ⟨b33, 0, none⟩, 6⟩) (who := 1#32))) rfl rfl rfl rfl ?_
      rintro _ _ ⟨⟨⟩, rfl, hA⟩
      simp only [List.cons_append, List.nil_append] at hA
      replace hA := hA.symm
      subst hA
      refine ⟨(fun _ => subF), ?_⟩
      refine WJ_all (rs := [17]) (by kernel_rfl) rfl ?_
      refine WI_one ?_
      refine WI_ac rfl (Ac_bsL (f := eRq) (zs := [.int .u8 0, .int .u8 0, .int .u8 0, .int .u8 0, .int .u8 0, .int .u8 0, .int .u8 0, .int .u8 0, .int .u8 0, .int .u8 0, .int .u8 0, .int .u8 0, .int .u8 0, .int .u8 0, .int .u8 0, .int .u8 0, .int .u8 0, .int .i64 0, .int .i64 0, .int .i64 0, .int .u32 0, .int .i64 0, .slice none 0 0]) (bs := [.int .u8 0, .int .u8 0, .int .u8 0, .int .u8 0, .int .u8 0, .int .u8 0, .int .u8 0, .int .u8 0, .int .u8 0, .int .u8 0, .int .u8 0, .int .u8 0, .int .u8 0, .int .u8 0, .int .u8 0, .int .u8 0, .int .u8 0, .int .i64 0, .int .i64 0, .int .i64 0, .int .u32 0, .int .i64 0, .slice none 0 0] ++ [.int .u8 0, .int .u8 0, .int .u8 0, .int .u8 0, .int .u8 0, .int .u8 0, .int .u8 0, .int .u8 0, .int .u8 0, .int .u8 0, .int .u8 0, .int .u8 0, .int .u8 0, .int .u8 0, .int .u8 0, .int .u8 0, .int .u8 0, .int .i64 0, .int .i64 0, .int .i64 0, .int .u32 0, .int .i64 0, .slice none 0 0] ++ [.int .u8 0, .int .u8 0, .int .u8 0, .int .u8 0, .int .u8 0, .int .u8 0, .int .u8 0, .int .u8 0, .int .u8 0, .int .u8 0, .int .u8 0, .int .u8 0, .int .u8 0, .int .u8 0, .int .u8 0, .int .u8 0, .int .u8 0, .int .i64 0, .int .i64 0, .int .i64 0, .int .u32 0, .int .i64 0, .slice none 0 0] ++ [.int .u8 0, .int .u8 0, .int .u8 0, .int .u8 0, .int .u8 0, .int .u8 0, .int .u8 0, .int .u8 0, .int .u8 0, .int .u8 0, .int .u8 0, .int .u8 0, .int .u8 0, .int .u8 0, .int .u8 0, .int .u8 0, .int .u8 0, .int .i64 0, .int .i64 0, .int .i64 0, .int .u32 0, .int .i64 0, .slice none 0 0] ++ [.int .u8 0, .int .u8 0, .int .u8 0, .int .u8 0, .int .u8 0, .int .u8 0, .int .u8 0, .int .u8 0, .int .u8 0, .int .u8 0, .int .u8 0, .int .u8 0, .int .u8 0, .int .u8 0, .int .u8 0, .int .u8 0, .int .u8 0, .int .i64 0, .int .i64 0, .int .i64 0, .int .u32 0, .int .i64 0, .slice none 0 0]) (knRq b33 b40 b44) encRq ud77 zr30 sz30 rfl (by kernel_rfl) (by kernel_rfl) (by rfl) (by rfl) (by rfl)) rfl rfl rfl rfl ?_
      rintro _ _ ⟨b53, rfl, rfl⟩
      refine ⟨(fun _ => subF), ?_⟩
      refine WJ_tp 18 rfl (Rd_assign rfl) rfl (hp _ _) ?_
      refine WJ_done (by kernel_rfl) ?_
      refine Ps_wkB (hK9 ⟨b40, b44, b53⟩ (trivial))
    ·skip
     refine WI_ac rfl (Ac_convSS (cap := 5) (l := [49#8, 50#8, 51#8, 52#8, 53#8]) rfl ud28 ud5) rfl rfl rfl rfl ?_
     rintro _ _ ⟨rfl, rfl⟩
     refine ⟨(fun _ => subF), ?_⟩
     refine WJ_all (rs := [2, 9]) (by kernel_rfl) rfl ?_
     refine WI_cons ?_ (WI_cons ?_ (by intro _ h; cases h))
     ·skip
      refine WI_ac rfl (Ac_call cf24 rfl (hs := storeL_ct (ix := x9) (n := 3) (un := 5) (b := ⟨[97#8, 98#8, 99#8, 100#8, 101#8, 102#8], some ⟨b33, 0, none⟩, 6⟩) (who := 1#32))) rfl rfl rfl rfl ?_
      rintro _ _ ⟨⟨⟩, rfl, hA⟩
      simp only [List.cons_append, List.nil_append] at hA
      replace hA := hA.symm
      subst hA
      refine ⟨(fun _ => subF), ?_⟩
      refine WJ_all (rs := [6, 9]) (by kernel_rfl) rfl ?_
      refine WI_cons ?_ (WI_cons ?_ (by intro _ h; cases h))
      ·skip
       refine WI_ac rfl (Ac_call cf24 rfl (hs := storeL_ct (ix := x9) (n := 4) (un := 5) (b := ⟨[49#8, 50#8, 51#8, 52#8, 53#8], some ⟨b40, 0, none⟩, 5⟩) (who := 1#32))) rfl rfl rfl rfl ?_
       rintro _ _ ⟨⟨⟩, rfl, hA⟩
       simp only [List.cons_append, List.nil_append] at hA
       replace hA := hA.symm
       subst hA
       refine ⟨(fun _ => subF), ?_⟩
       refine WJ_all (rs := [9]) (by kernel_rfl) rfl ?_
       refine WI_one ?_
       refine WI_ac rfl (Ac_convSS (cap := 6) (l := [65#8, 66#8, 67#8, 68#8, 69#8, 70#8]) rfl ud28 ud5) rfl rfl rfl rfl ?_
       rintro _ _ ⟨rfl, rfl⟩
       refine ⟨(fun _ => subF), ?_⟩
       refine WJ_all (rs := [10]) (by kernel_rfl) rfl ?_
       refine WI_one ?_
       refine WI_ac rfl (Ac_call cf24 rfl (hs := storeL_ct (ix := x9) (n := 3) (un := 5) (b := ⟨[65#8, 66#8, 67#8, 68#8, 69#8, 70#8], some ⟨b44, 0, none⟩, 6⟩) (who := 1#32))) rfl rfl rfl rfl ?_
       rintro _ _ ⟨⟨⟩, rfl, hA⟩
       simp only [List.cons_append, List.nil_append] at hA
       replace hA := hA.symm
       subst hA
       refine ⟨(fun _ => subF), ?_⟩
       refine WJ_all (rs := [13]) (by kernel_rfl) rfl ?_
       refine WI_one ?_
       refine WI_ac rfl (Ac_call cf24 rfl (hs := storeL_ct (ix := x9) (n := 3) (un := 9) (b := ⟨[97#8, 98#8, 99#8, 100#8, 101#8, 102#8], some ⟨b33, 0, none⟩, 6⟩) (who := 2#32))) rfl rfl rfl rfl ?_
       rintro _ _ ⟨⟨⟩, rfl, hA⟩
       simp only [List.cons_append, List.nil_append] at hA
       replace hA := hA.symm
       subst hA
       refine ⟨(fun _ => subF), ?_⟩
       refine WJ_all (rs := [16]) (by kernel_rfl) rfl ?_
       refine WI_one ?_
       refine WI_ac rfl (Ac_call cf24 rfl (hs := storeL_ct (ix := x9) (n := 3) (un := 4) (b := ⟨[97#8, 98#8, 99#8, 100#8, 101#8, 102#8], some ⟨b33, 0, none⟩, 6⟩) (who := 1#32))) rfl rfl rfl rfl ?_
       rintro _ _ ⟨⟨⟩, rfl, hA⟩
       simp only [List.cons_append, List.nil_append] at hA
       replace hA := hA.symm
       subst hA
       refine ⟨(fun _ => subF), ?_⟩
       refine WJ_all (rs := [17]) (by kernel_rfl) rfl ?_
       refine WI_one ?_
       refine WI_ac rfl (Ac_bsL (f := eRq) (zs := [.int .u8 0, .int .u8 0, .int .u8 0, .int .u8 0, .int .u8 0, .int .u8 0, .int .u8 0, .int .u8 0, .int .u8 0, .int .u8 0, .int .u8 0, .int .u8 0, .int .u8 0, .int .u8 0, .int .u8 0, .int .u8 0, .int .u8 0, .int .i64 0, .int .i64 0, .int .i64 0, .int .u32 0, .int .i64 0, .slice none 0 0]) (bs := [.int .u8 0, .int .u8 0, .int .u8 0, .int .u8 0, .int .u8 0, .int .u8 0, .int .u8 0, .int .u8 0, .int .u8 0, .int .u8 0, .int .u8 0, .int .u8 0, .int .u8 0, .int .u8 0, .int .u8 0, .int .u8 0, .int .u8 0, .int .i64 0, .int .i64 0, .int .i64 0, .int .u32 0, .int .i64 0, .slice none 0 0] ++ [.int .u8 0, .int .u8 0, .int .u8 0, .int .u8 0, .int .u8 0, .int .u8 0, .int .u8 0, .int .u8 0, .int .u8 0, .int .u8 0, .int .u8 0, .int .u8 0, .int .u8 0, .int .u8 0, .int .u8 0, .int .u8 0, .int .u8 0, .int .i64 0, .int .i64 0, .int .i64 0, .int .u32 0, .int .i64 0, .slice none 0 0] ++ [.int .u8 0, .int .u8 0, .int .u8 0, .int .u8 0, .int .u8 0, .int .u8 0, .int .u8 0, .int .u8 0, .int .u8 0, .int .u8 0, .int .u8 0, .int .u8 0, .int .u8 0, .int .u8 0, .int .u8 0, .int .u8 0, .int .u8 0, .int .i64 0, .int .i64 0, .int .i64 0, .int .u32 0, .int .i64 0, .slice none 0 0] ++ [.int .u8 0, .int .u8 0, .int .u8 0, .int .u8 0, .int .u8 0, .int .u8 0, .int .u8 0, .int .u8 0, .int .u8 0, .int .u8 0, .int .u8 0, .int .u8 0, .int .u8 0, .int .u8 0, .int .u8 0, .int .u8 0, .int .u8 0, .int .i64 0, .int .i64 0, .int .i64 0, .int .u32 0, .int .i64 0, .slice none 0 0] ++ [.int .u8 0, .int .u8 0, .int .u8 0, .int .u8 0, .int .u8 0, .int .u8 0, .int .u8 0, .int .u8 0, .int .u8 0, .int .u8 0, .int .u8 0, .int .u8 0, .int .u8 0, .int .u8 0, .int .u8 0, .int .u8 0, .int .u8 0, .int .i64 0, .int .i64 0, .int .i64 0, .int .u32 0, .int .i64 0, .slice none 0 0]) (knRq b33 b40 b44) encRq ud77 zr30 sz30 rfl (by kernel_rfl) (by kernel_rfl) (by rfl) (by rfl) (by rfl)) rfl rfl rfl rfl ?_
       rintro _ _ ⟨b53, rfl, rfl⟩
       refine ⟨(fun _ => subF), ?_⟩
       refine WJ_tp 18 rfl (Rd_assign rfl) rfl (hp _ _) ?_
       refine WJ_done (by kernel_rfl) ?_
       refine Ps_wkB (hK9 ⟨b40, b44, b53⟩ (trivial))
      ·skip
       refine WI_ac rfl (Ac_convSS (cap := 6) (l := [65#8, 66#8, 67#8, 68#8, 69#8, 70#8]) rfl ud28 ud5) rfl rfl rfl rfl ?_
       rintro _ _ ⟨rfl, rfl⟩
       refine ⟨(fun _ => subF), ?_⟩
       refine WJ_all (rs := [6]) (by kernel_rfl) rfl ?_
       refine WI_one ?_
       refine WI_ac rfl (Ac_call cf24 rfl (hs := storeL_ct (ix := x9) (n := 4) (un := 5) (b := ⟨[49#8, 50#8, 51#8, 52#8, 53#8], some ⟨b40, 0, none⟩, 5⟩) (who := 1#32))) rfl rfl rfl rfl ?_
       rintro _ _ ⟨⟨⟩, rfl, hA⟩
       simp only [List.cons_append, List.nil_append] at hA
       replace hA := hA.symm
       subst hA
       refine ⟨(fun _ => subF), ?_⟩
       refine WJ_all (rs := [10]) (by kernel_rfl) rfl ?_
       refine WI_one ?_
       refine WI_ac rfl (Ac_call cf24 rfl (hs := storeL_ct (ix := x9) (n := 3) (un := 5) (b := ⟨[65#8, 66#8, 67#8, 68#8, 69#8, 70#8], some ⟨b44, 0, none⟩, 6⟩) (who := 1#32))) rfl rfl rfl rfl ?_
       rintro _ _ ⟨⟨⟩, rfl, hA⟩
       simp only [List.cons_append, List.nil_append] at hA
       replace hA := hA.symm
       subst hA
       refine ⟨(fun _ => subF), ?_⟩
       refine WJ_all (rs := [13]) (by kernel_rfl) rfl ?_
       refine WI_one ?_
       refine WI_ac rfl (Ac_call cf24 rfl (hs := storeL_ct (ix := x9) (n := 3) (un := 9) (b := ⟨[97#8, 98#8, 99#8, 100#8, 101#8, 102#8], some ⟨b33, 0, none⟩, 6⟩) (who := 2#32))) rfl rfl rfl rfl ?_
       rintro _ _ ⟨⟨⟩, rfl, hA⟩
       simp only [List.cons_append, List.nil_append] at hA
       replace hA := hA.symm
       subst hA
       refine ⟨(fun _ => subF), ?_⟩
       refine WJ_all (rs := [16]) (by kernel_rfl) rfl ?_
       refine WI_one ?_
       refine WI_ac rfl (Ac_call cf24 rfl (hs := storeL_ct (ix := x9) (n := 3) (un := 4) (b := ⟨[97#8, 98#8, 99#8, 100#8, 101#8, 102#8], some ⟨b33, 0, none⟩, 6⟩) (who := 1#32))) rfl rfl rfl rfl ?_
       rintro _ _ ⟨⟨⟩, rfl, hA⟩
       simp only [List.cons_append, List.nil_append] at hA
       replace hA := hA.symm
       subst hA
       refine ⟨(fun _ => subF), ?_⟩
       refine WJ_all (rs := [17]) (by kernel_rfl) rfl ?_
       refine WI_one ?_
       refine WI_ac rfl (Ac_bsL (f := eRq) (zs := [.int .u8 0, .int .u8 0, .int .u8 0, .int .u8 0, .int .u8 0, .int .u8 0, .int .u8 0, .int .u8 0, .int .u8 0, .int .u8 0, .int .u8 0, .int .u8 0, .int .u8 0, .int .u8 0, .int .u8 0, .int .u8 0, .int .u8 0, .int .i64 0, .int .i64 0, .int .i64 0, .int .u32 0, .int .i64 0, .slice none 0 0]) (bs := [.int .u8 0, .int .u8 0, .int .u8 0, .int .u8 0, .int .u8 0, .int .u8 0, .int .u8 0, .int .u8 0, .int .u8 0, .int .u8 0, .int .u8 0, .int .u8 0, .int .u8 0, .int .u8 0, .int .u8 0, .int .u8 0, .int .u8 0, .int .i64 0, .int .i64 0, .int .i64 0, .int .u32 0, .int .i64 0, .slice none 0 0] ++ [.int .u8 0, .int .u8 0, .int .u8 0, .int .u8 0, .int .u8 0, .int .u8 0, .int .u8 0, .int .u8 0, .int .u8 0, .int .u8 0, .int .u8 0, .int .u8 0, .int .u8 0, .int .u8 0, .int .u8 0, .int .u8 0, .int .u8 0, .int .i64 0, .int .i64 0, .int .i64 0, .int .u32 0, .int .i64 0, .slice none 0 0] ++ [.int .u8 0, .int .u8 0, .int .u8 0, .int .u8 0, .int .u8 0, .int .u8 0, .int .u8 0, .int .u8 0, .int .u8 0, .int .u8 0, .int .u8 0, .int .u8 0, .int .u8 0, .int .u8 0, .int .u8 0, .int .u8 0, .int .u8 0, .int .i64 0, .int .i64 0, .int .i64 0, .int .u32 0, .int .i64 0, .slice none 0 0] ++ [.int .u8 0, .int .u8 0, .int .u8 0, .int .u8 0, .int .u8 0, .int .u8 0, .int .u8 0, .int .u8 0, .int .u8 0, .int .u8 0, .int .u8 0, .int .u8 0, .int .u8 0, .int .u8 0, .int .u8 0, .int .u8 0, .int .u8 0, .int .i64 0, .int .i64 0, .int .i64 0, .int .u32 0, .int .i64 0, .slice none 0 0] ++ [.int .u8 0, .int .u8 0, .int .u8 0, .int .u8 0, .int .u8 0, .int .u8 0, .int .u8 0, .int .u8 0, .int .u8 0, .int .u8 0, .int .u8 0, .int .u8 0, .int .u8 0, .int .u8 0, .int .u8 0, .int .u8 0, .int .u8 0, .int .i64 0, .int .i64 0, .int .i64 0, .int .u32 0, .int .i64 0, .slice none 0 0]) (knRq b33 b40 b44) encRq ud77 zr30 sz30 rfl (by kernel_rfl) (by kernel_rfl) (by rfl) (by rfl) (by rfl)) rfl rfl rfl rfl ?_
       rintro _ _ ⟨b53, rfl, rfl⟩
       refine ⟨(fun _ => subF), ?_⟩
       refine WJ_tp 18 rfl (Rd_assign rfl) rfl (hp _ _) ?_
       refine WJ_done (by kernel_rfl) ?_
       refine Ps_wkB (hK9 ⟨b40, b44, b53⟩ (trivial))
     ·skip
      refine WI_ac rfl (Ac_convSS (cap := 6) (l := [65#8, 66#8, 67#8, 68#8, 69#8, 70#8]) rfl ud28 ud5) rfl rfl rfl rfl ?_
      rintro _ _ ⟨rfl, rfl⟩
      refine ⟨(fun _ => subF), ?_⟩
      refine WJ_all (rs := [2]) (by kernel_rfl) rfl ?_
      refine WI_one ?_
      refine WI_ac rfl (Ac_call cf24 rfl (hs := storeL_ct (ix := x9) (n := 3) (un := 5) (b := ⟨[97#8, 98#8, 99#8, 100#8, 101#8, 102#8], some ⟨b33, 0, none⟩, 6⟩) (who := 1#32))) rfl rfl rfl rfl ?_
      rintro _ _ ⟨⟨⟩, rfl, hA⟩
      simp only [List.cons_append, List.nil_append] at hA
      replace hA := hA.symm
      subst hA
      refine ⟨(fun _ => subF), ?_⟩
      refine WJ_all (rs := [6]) (by kernel_rfl) rfl ?_
      refine WI_one ?_
      refine WI_ac rfl (Ac_call cf24 rfl (hs := storeL_ct (ix := x9) (n := 4) (un := 5) (b := ⟨[49#8, 50#8, 51#8, 52#8, 53#8], some ⟨b40, 0, none⟩, 5⟩) (who := 1#32))) rfl rfl rfl rfl ?_
      rintro _ _ ⟨⟨⟩, rfl, hA⟩
      simp only [List.cons_append, List.nil_append] at hA
      replace hA := hA.symm
      subst hA
      refine ⟨(fun _ => subF), ?_⟩
      refine WJ_all (rs := [10]) (by kernel_rfl) rfl ?_
      refine WI_one ?_
      refine WI_ac rfl (Ac_call cf24 rfl (hs := storeL_ct (ix := x9) (n := 3) (un := 5) (b := ⟨[65#8, 66#8, 67#8, 68#8, 69#8, 70#8], some ⟨b44, 0, none⟩, 6⟩) (who := 1#32))) rfl rfl rfl rfl ?_
      rintro _ _ ⟨⟨⟩, rfl, hA⟩
      simp only [List.cons_append, List.nil_append] at hA
      replace hA := hA.symm
      subst hA
      refine ⟨(fun _ => subF), ?_⟩
      refine WJ_all (rs := [13]) (by kernel_rfl) rfl ?_
      refine WI_one ?_
      refine WI_ac rfl (Ac_call cf24 rfl (hs := storeL_ct (ix := x9) (n := 3) (un := 9) (b := ⟨[97#8, 98#8, 99#8, 100#8, 101#8, 102#8], some ⟨b33, 0, none⟩, 6⟩) (who := 2#32))) rfl rfl rfl rfl ?_
      rintro _ _ ⟨⟨⟩, rfl, hA⟩
      simp only [List.cons_append, List.nil_append] at hA
      replace hA := hA.symm
      subst hA
      refine ⟨(fun _ => subF), ?_⟩
      refine WJ_all (rs := [16]) (by kernel_rfl) rfl ?_
      refine WI_one ?_
      refine WI_ac rfl (Ac_call cf24 rfl (hs := storeL_ct (ix := x9) (n := 3) (un := 4) (b := ⟨[97#8, 98#8, 99#8, 100#8, 101#8, 102#8], some ⟨b33, 0, none⟩, 6⟩) (who := 1#32))) rfl rfl rfl rfl ?_
      rintro _ _ ⟨⟨⟩, rfl, hA⟩
      simp only [List.cons_append, List.nil_append] at hA
      replace hA := hA.symm
      subst hA
      refine ⟨(fun _ => subF), ?_⟩
      refine WJ_all (rs := [17]) (by kernel_rfl) rfl ?_
      refine WI_one ?_
      refine WI_ac rfl (Ac_bsL (f := eRq) (zs := [.int .u8 0, .int .u8 0, .int .u8 0, .int .u8 0, .int .u8 0, .int .u8 0, .int .u8 0, .int .u8 0, .int .u8 0, .int .u8 0, .int .u8 0, .int .u8 0, .int .u8 0, .int .u8 0, .int .u8 0, .int .u8 0, .int .u8 0, .int .i64 0, .int .i64 0, .int .i64 0, .int .u32 0, .int .i64 0, .slice none 0 0]) (bs := [.int .u8 0, .int .u8 0, .int .u8 0, .int .u8 0, .int .u8 0, .int .u8 0, .int .u8 0, .int .u8 0, .int .u8 0, .int .u8 0, .int .u8 0, .int .u8 0, .int .u8 0, .int .u8 0, .int .u8 0, .int .u8 0, .int .u8 0, .int .i64 0, .int .i64 0, .int .i64 0, .int .u32 0, .int .i64 0, .slice none 0 0] ++ [.int .u8 0, .int .u8 0, .int .u8 0, .int .u8 0, .int .u8 0, .int .u8 0, .int .u8 0, .int .u8 0, .int .u8 0, .int .u8 0, .int .u8 0, .int .u8 0, .int .u8 0, .int .u8 0, .int .u8 0, .int .u8 0, .int .u8 0, .int .i64 0, .int .i64 0, .int .i64 0, .int .u32 0, .int .i64 0, .slice none 0 0] ++ [.int .u8 0, .int .u8 0, .int .u8 0, .int .u8 0, .int .u8 0, .int .u8 0, .int .u8 0, .int .u8 0, .int .u8 0, .int .u8 0, .int .u8 0, .int .u8 0, .int .u8 0, .int .u8 0, .int .u8 0, .int .u8 0, .int .u8 0, .int .i64 0, .int .i64 0, .int .i64 0, .int .u32 0, .int .i64 0, .slice none 0 0] ++ [.int .u8 0, .int .u8 0, .int .u8 0, .int .u8 0, .int .u8 0, .int .u8 0, .int .u8 0, .int .u8 0, .int .u8 0, .int .u8 0, .int .u8 0, .int .u8 0, .int .u8 0, .int .u8 0, .int .u8 0, .int .u8 0, .int .u8 0, .int .i64 0, .int .i64 0, .int .i64 0, .int .u32 0, .int .i64 0, .slice none 0 0] ++ [.int .u8 0, .int .u8 0, .int .u8 0, .int .u8 0, .int .u8 0, .int .u8 0, .int .u8 0, .int .u8 0, .int .u8 0, .int .u8 0, .int .u8 0, .int .u8 0, .int .u8 0, .int .u8 0, .int .u8 0, .int .u8 0, .int .u8 0, .int .i64 0, .int .i64 0, .int .i64 0, .int .u32 0, .int .i64 0, .slice none 0 0]) (knRq b33 b40 b44) encRq ud77 zr30 sz30 rfl (by kernel_rfl) (by kernel_rfl) (by rfl) (by rfl) (by rfl)) rfl rfl rfl rfl ?_
      rintro _ _ ⟨b53, rfl, rfl⟩
      refine ⟨(fun _ => subF), ?_⟩
      refine WJ_tp 18 rfl (Rd_assign rfl) rfl (hp _ _) ?_
      refine WJ_done (by kernel_rfl) ?_
      refine Ps_wkB (hK9 ⟨b40, b44, b53⟩ (trivial))
    ·skip
     refine WI_ac rfl (Ac_convSS (cap := 6) (l := [65#8, 66#8, 67#8, 68#8, 69#8, 70#8]) rfl ud28 ud5) rfl rfl rfl rfl ?_
     rintro _ _ ⟨rfl, rfl⟩
     refine ⟨(fun _ => subF), ?_⟩
     refine WJ_all (rs := [2, 5]) (by kernel_rfl) rfl ?_
     refine WI_cons ?_ (WI_cons ?_ (by intro _ h; cases h))
     ·skip
      refine WI_ac rfl (Ac_call cf24 rfl (hs := storeL_ct (ix := x9) (n := 3) (un := 5) (b := ⟨[97#8, 98#8, 99#8, 100#8, 101#8, 102#8], some ⟨b33, 0, none⟩, 6⟩) (who := 1#32))) rfl rfl rfl rfl ?_
      rintro _ _ ⟨⟨⟩, rfl, hA⟩
      simp only [List.cons_append, List.nil_append] at hA
      replace hA := hA.symm
      subst hA
      refine ⟨(fun _ => subF), ?_⟩
      refine WJ_all (rs := [5]) (by kernel_rfl) rfl ?_
      refine WI_one ?_
      refine WI_ac rfl (Ac_convSS (cap := 5) (l := [49#8, 50#8, 51#8, 52#8, 53#8]) rfl ud28 ud5) rfl rfl rfl rfl ?_
      rintro _ _ ⟨rfl, rfl⟩
      refine ⟨(fun _ => subF), ?_⟩
      refine WJ_all (rs := [6]) (by kernel_rfl) rfl ?_
      refine WI_one ?_
      refine WI_ac rfl (Ac_call cf24 rfl (hs := storeL_ct (ix := x9) (n := 4) (un := 5) (b := ⟨[49#8, 50#8, 51#8, 52#8, 53#8], some ⟨b40, 0, none⟩, 5⟩) (who := 1#32))) rfl rfl rfl rfl ?_
      rintro _ _ ⟨⟨⟩, rfl, hA⟩
      simp only [List.cons_append, List.nil_append] at hA
      replace hA := hA.symm
      subst hA
      refine ⟨(fun _ => subF), ?_⟩
      refine WJ_all (rs := [10]) (by kernel_rfl) rfl ?_
      refine WI_one ?_
      refine WI_ac rfl (Ac_call cf24 rfl (hs := storeL_ct (ix := x9) (n := 3) (un := 5) (b := ⟨[65#8, 66#8, 67#8, 68#8, 69#8, 70#8], some ⟨b44, 0, none⟩, 6⟩) (who := 1#32))) rfl rfl rfl rfl ?_
      rintro _ _ ⟨⟨⟩, rfl, hA⟩
      simp only [List.cons_append, List.nil_append] at hA
      replace hA := hA.symm
      subst hA
      refine ⟨(fun _ => subF), ?_⟩
      refine WJ_all (rs := [13]) (by kernel_rfl) rfl ?_
      refine WI_one ?_
      refine WI_ac rfl (Ac_call cf24 rfl (hs := storeL_ct (ix := x9) (n := 3) (un := 9) (b := ⟨[97#8, 98#8, 99#8, 100#8, 101#8, 102#8], some ⟨b33, 0, none⟩, 6⟩) (who := 2#32))) rfl rfl rfl rfl ?_
      rintro _ _ ⟨⟨⟩, rfl, hA⟩
      simp only [List.cons_append, List.nil_append] at hA
      replace hA := hA.symm
      subst hA
      refine ⟨(fun _ => subF), ?_⟩
      refine WJ_all (rs := [16]) (by kernel_rfl) rfl ?_
      refine WI_one ?_
      refine WI_ac rfl (Ac_call cf24 rfl (hs := storeL_ct (ix := x9) (n := 3) (un := 4) (b := ⟨[97#8, 98#8, 99#8, 100#8, 101#8, 102#8], some ⟨b33, 0, none⟩, 6⟩) (who := 1#32))) rfl rfl rfl rfl ?_
      rintro _ _ ⟨⟨⟩, rfl, hA⟩
      simp only [List.cons_append, List.nil_append] at hA
      replace hA := hA.symm
      subst hA
      refine ⟨(fun _ => subF), ?_⟩
      refine WJ_all (rs := [17]) (by kernel_rfl) rfl ?_
      refine WI_one ?_
      refine WI_ac rfl (Ac_bsL (f := eRq) (zs := [.int .u8 0, .int .u8 0, .int .u8 0, .int .u8 0, .int .u8 0, .int .u8 0, .int .u8 0, .int .u8 0, .int .u8 0, .int .u8 0, .int .u8 0, .int .u8 0, .int .u8 0, .int .u8 0, .int .u8 0, .int .u8 0, .int .u8 0, .int .i64 0, .int .i64 0, .int .i64 0, .int .u32 0, .int .i64 0, .slice none 0 0]) (bs := [.int .u8 0, .int .u8 0, .int .u8 0, .int .u8 0, .int .u8 0, .int .u8 0, .int .u8 0, .int .u8 0, .int .u8 0, .int .u8 0, .int .u8 0, .int .u8 0, .int .u8 0, .int .u8 0, .int .u8 0, .int .u8 0, .int .u8 0, .int .i64 0, .int .i64 0, .int .i64 0, .int .u32 0, .int .i64 0, .slice none 0 0] ++ [.int .u8 0, .int .u8 0, .int .u8 0, .int .u8 0, .int .u8 0, .int .u8 0, .int .u8 0, .int .u8 0, .int .u8 0, .int .u8 0, .int .u8 0, .int .u8 0, .int .u8 0, .int .u8 0, .int .u8 0, .int .u8 0, .int .u8 0, .int .i64 0, .int .i64 0, .int .i64 0, .int .u32 0, .int .i64 0, .slice none 0 0] ++ [.int .u8 0, .int .u8 0, .int .u8 0, .int .u8 0, .int .u8 0, .int .u8 0, .int .u8 0, .int .u8 0, .int .u8 0, .int .u8 0, .int .u8 0, .int .u8 0, .int .u8 0, .int .u8 0, .int .u8 0, .int .u8 0, .int .u8 0, .int .i64 0, .int .i64 0, .int .i64 0, .int .u32 0, .int .i64 0, .slice none 0 0] ++ [.int .u8 0, .int .u8 0, .int .u8 0, .int .u8 0, .int .u8 0, .int .u8 0, .int .u8 0, .int .u8 0, .int .u8 0, .int .u8 0, .int .u8 0, .int .u8 0, .int .u8 0, .int .u8 0, .int .u8 0, .int .u8 0, .int .u8 0, .int .i64 0, .int .i64 0, .int .i64 0, .int .u32 0, .int .i64 0, .slice none 0 0] ++ [.int .u8 0, .int .u8 0, .int .u8 0, .int .u8 0, .int .u8 0, .int .u8 0, .int .u8 0, .int .u8 0, .int .u8 0, .int .u8 0, .int .u8 0, .int .u8 0, .int .u8 0, .int .u8 0, .int .u8 0, .int .u8 0, .int .u8 0, .int .i64 0, .int .i64 0, .int .i64 0, .int .u32 0, .int .i64 0, .slice none 0 0]) (knRq b33 b40 b44) encRq ud77 zr30 sz30 rfl (by kernel_rfl) (by kernel_rfl) (by rfl) (by rfl) (by rfl)) rfl rfl rfl rfl ?_
      rintro _ _ ⟨b53, rfl, rfl⟩
      refine ⟨(fun _ => subF), ?_⟩
      refine WJ_tp 18 rfl (Rd_assign rfl) rfl (hp _ _) ?_
      refine WJ_done (by kernel_rfl) ?_
      refine Ps_wkB (hK9 ⟨b40, b44, b53⟩ (trivial))
     ·skip
      refine WI_ac rfl (Ac_convSS (cap := 5) (l := [49#8, 50#8, 51#8, 52#8, 53#8]) rfl ud28 ud5) rfl rfl rfl rfl ?_
      rintro _ _ ⟨rfl, rfl⟩
      refine ⟨(fun _ => subF), ?_⟩
      refine WJ_all (rs := [2]) (by kernel_rfl) rfl ?_
      refine WI_one ?_
      refine WI_ac rfl (Ac_call cf24 rfl (hs := storeL_ct (ix := x9) (n := 3) (un := 5) (b := ⟨[97#8, 98#8, 99#8, 100#8, 101#8, 102#8], some ⟨b33, 0, none⟩, 6⟩) (who := 1#32))) rfl rfl rfl rfl ?_
      rintro _ _ ⟨⟨⟩, rfl, hA⟩
      simp only [List.cons_append, List.nil_append] at hA
      replace hA := hA.symm
      subst hA
      refine ⟨(fun _ => subF), ?_⟩
      refine WJ_all (rs := [6]) (by kernel_rfl) rfl ?_
      refine WI_one ?_
      refine WI_ac rfl (Ac_call cf24 rfl (hs := storeL_ct (ix := x9) (n := 4) (un := 5) (b := ⟨[49#8, 50#8, 51#8, 52#8, 53#8], some ⟨b40, 0, none⟩, 5⟩) (who := 1#32))) rfl rfl rfl rfl ?_
      rintro _ _ ⟨⟨⟩, rfl, hA⟩
      simp only [List.cons_append, List.nil_append] at hA
      replace hA := hA.symm
      subst hA
      refine ⟨(fun _ => subF), ?_⟩
      refine WJ_all (rs := [10]) (by kernel_rfl) rfl ?_
      refine WI_one ?_
      refine WI_ac rfl (Ac_call cf24 rfl (hs := storeL_ct (ix := x9) (n := 3) (un := 5) (b := ⟨[65#8, 66#8, 67#8, 68#8, 69#8, 70#8], some ⟨b44, 0, none⟩, 6⟩) (who := 1#32))) rfl rfl rfl rfl ?_
      rintro _ _ ⟨⟨⟩, rfl, hA⟩
      simp only [List.cons_append, List.nil_append] at hA
      replace hA := hA.symm
      subst hA
      refine ⟨(fun _ => subF), ?_⟩
      refine WJ_all (rs := [13]) (by kernel_rfl) rfl ?_
      refine WI_one ?_
      refine WI_ac rfl (Ac_call cf24 rfl (hs := storeL_ct (ix := x9) (n := 3) (un := 9) (b := ⟨[97#8, 98#8, 99#8, 100#8, 101#8, 102#8], some ⟨b33, 0, none⟩, 6⟩) (who := 2#32))) rfl rfl rfl rfl ?_
      rintro _ _ ⟨⟨⟩, rfl, hA⟩
      simp only [List.cons_append, List.nil_append] at hA
      replace hA := hA.symm
      subst hA
      refine ⟨(fun _ => subF), ?_⟩
      refine WJ_all (rs := [16]) (by kernel_rfl) rfl ?_
      refine WI_one ?_
      refine WI_ac rfl (Ac_call cf24 rfl (hs := storeL_ct (ix := x9) (n := 3) (un := 4) (b := ⟨[97#8, 98#8, 99#8, 100#8, 101#8, 102#8], some ⟨b33, 0, none⟩, 6⟩) (who := 1#32))) rfl rfl rfl rfl ?_
      rintro _ _ ⟨⟨⟩, rfl, hA⟩
      simp only [List.cons_append, List.nil_append] at hA
      replace hA := hA.symm
      subst hA
      refine ⟨(fun _ => subF), ?_⟩
      refine WJ_all (rs := [17]) (by kernel_rfl) rfl ?_
      refine WI_one ?_
      refine WI_ac rfl (Ac_bsL (f := eRq) (zs := [.int .u8 0, .int .u8 0, .int .u8 0, .int .u8 0, .int .u8 0, .int .u8 0, .int .u8 0, .int .u8 0, .int .u8 0, .int .u8 0, .int .u8 0, .int .u8 0, .int .u8 0, .int .u8 0, .int .u8 0, .int .u8 0, .int .u8 0, .int .i64 0, .int .i64 0, .int .i64 0, .int .u32 0, .int .i64 0, .slice none 0 0]) (bs := [.int .u8 0, .int .u8 0, .int .u8 0, .int .u8 0, .int .u8 0, .int .u8 0, .int .u8 0, .int .u8 0, .int .u8 0, .int .u8 0, .int .u8 0, .int .u8 0, .int .u8 0, .int .u8 0, .int .u8 0, .int .u8 0, .int .u8 0, .int .i64 0, .int .i64 0, .int .i64 0, .int .u32 0, .int .i64 0, .slice none 0 0] ++ [.int .u8 0, .int .u8 0, .int .u8 0, .int .u8 0, .int .u8 0, .int .u8 0, .int .u8 0, .int .u8 0, .int .u8 0, .int .u8 0, .int .u8 0, .int .u8 0, .int .u8 0, .int .u8 0, .int .u8 0, .int .u8 0, .int .u8 0, .int .i64 0, .int .i64 0, .int .i64 0, .int .u32 0, .int .i64 0, .slice none 0 0] ++ [.int .u8 0, .int .u8 0, .int .u8 0, .int .u8 0, .int .u8 0, .int .u8 0, .int .u8 0, .int .u8 0, .int .u8 0, .int .u8 0, .int .u8 0, .int .u8 0, .int .u8 0, .int .u8 0, .int .u8 0, .int .u8 0, .int .u8 0, .int .i64 0, .int .i64 0, .int .i64 0, .int .u32 0, .int .i64 0, .slice none 0 0] ++ [.int .u8 0, .int .u8 0, .int .u8 0, .int .u8 0, .int .u8 0, .int .u8 0, .int .u8 0, .int .u8 0, .int .u8 0, .int .u8 0, .int .u8 0, .int .u8 0, .int .u8 0, .int .u8 0, .int .u8 0, .int .u8 0, .int .u8 0, .int .i64 0, .int .i64 0, .int .i64 0, .int .u32 0, .int .i64 0, .slice none 0 0] ++ [.int .u8 0, .int .u8 0, .int .u8 0, .int .u8 0, .int .u8 0, .int .u8 0, .int .u8 0, .int .u8 0, .int .u8 0, .int .u8 0, .int .u8 0, .int .u8 0, .int .u8 0, .int .u8 0, .int .u8 0, .int .u8 0, .int .u8 0, .int .i64 0, .int .i64 0, .int .i64 0, .int .u32 0, .int .i64 0, .slice none 0 0]) (knRq b33 b40 b44) encRq ud77 zr30 sz30 rfl (by kernel_rfl) (by kernel_rfl) (by rfl) (by rfl) (by rfl)) rfl rfl rfl rfl ?_
      rintro _ _ ⟨b53, rfl, rfl⟩
      refine ⟨(fun _ => subF), ?_⟩
      refine WJ_tp 18 rfl (Rd_assign rfl) rfl (hp _ _) ?_
      refine WJ_done (by kernel_rfl) ?_
      refine Ps_wkB (hK9 ⟨b40, b44, b53⟩ (trivial))
   ·skip
    refine WI_ac rfl (Ac_convSS (cap := 6) (l := [65#8, 66#8, 67#8, 68#8, 69#8, 70#8]) rfl ud28 ud5) rfl rfl rfl rfl ?_
    rintro _ _ ⟨rfl, rfl⟩
    refine ⟨(fun _ => subF), ?_⟩
    refine WJ_all (rs := [2, 4]) (by kernel_rfl) rfl ?_
    refine WI_cons ?_ (WI_cons ?_ (by intro _ h; cases h))
    ·skip
     refine WI_ac rfl (Ac_call cf24 rfl (hs := storeL_ct (ix := x9) (n := 3) (un := 5) (b := ⟨[97#8, 98#8, 99#8, 100#8, 101#8, 102#8], some ⟨b33, 0, none⟩, 6⟩) (who := 1#32))) rfl rfl rfl rfl ?_
     rintro _ _ ⟨⟨⟩, rfl, hA⟩
     simp only [List.cons_append, List.nil_append] at hA
     replace hA := hA.symm
     subst hA
     refine ⟨(fun _ => subF), ?_⟩
     refine WJ_all (rs := [4]) (by kernel_rfl) rfl ?_
     refine WI_one ?_
     refine WI_ac rfl (Ac_bsL (f := (eU .u8 (w := 8))) (zs := [.int .u8 0]) (bs := [.int .u8 0, .int .u8 0, .int .u8 0, .int .u8 0, .int .u8 0]) [49#8, 50#8, 51#8, 52#8, 53#8] (encU .u8) ud28 zr5 sz5 rfl (by rw [Array.toList_map, Array.toList_range]; rfl) (by rfl) (by rfl) (by rfl) (by rfl)) rfl rfl rfl rfl ?_
     rintro _ _ ⟨b40, rfl, rfl⟩
     refine ⟨(fun _ => subF), ?_⟩
     refine WJ_all (rs := [5]) (by kernel_rfl) rfl ?_
     refine WI_one ?_
     refine WI_ac rfl (Ac_convSS (cap := 5) (l := [49#8, 50#8, 51#8, 52#8, 53#8]) rfl ud28 ud5) rfl rfl rfl rfl ?_
     rintro _ _ ⟨rfl, rfl⟩
     refine ⟨(fun _ => subF), ?_⟩
     refine WJ_all (rs := [6]) (by kernel_rfl) rfl ?_
     refine WI_one ?_
     refine WI_ac rfl (Ac_call cf24 rfl (hs := storeL_ct (ix := x9) (n := 4) (un := 5) (b := ⟨[49#8, 50#8, 51#8, 52#8, 53#8], some ⟨b40, 0, none⟩, 5⟩) (who := 1#32))) rfl rfl rfl rfl ?_
     rintro _ _ ⟨⟨⟩, rfl, hA⟩
     simp only [List.cons_append, List.nil_append] at hA
     replace hA := hA.symm
     subst hA
     refine ⟨(fun _ => subF), ?_⟩
     refine WJ_all (rs := [10]) (by kernel_rfl) rfl ?_
     refine WI_one ?_
     refine WI_ac rfl (Ac_call cf24 rfl (hs := storeL_ct (ix := x9) (n := 3) (un := 5) (b := ⟨[65#8, 66#8, 67#8, 68#8, 69#8, 70#8], some ⟨b44, 0, none⟩, 6⟩) (who := 1#32))) rfl rfl rfl rfl ?_
     rintro _ _ ⟨⟨⟩, rfl, hA⟩
     simp only [List.cons_append, List.nil_append] at hA
     replace hA := hA.symm
     subst hA
     refine ⟨(fun _ => subF), ?_⟩
     refine WJ_all (rs := [13]) (by kernel_rfl) rfl ?_
     refine WI_one ?_
     refine WI_ac rfl (Ac_call cf24 rfl (hs := storeL_ct (ix := x9) (n := 3) (un := 9) (b := ⟨[97#8, 98#8, 99#8, 100#8, 101#8, 102#8], some ⟨b33, 0, none⟩, 6⟩) (who := 2#32))) rfl rfl rfl rfl ?_
     rintro _ _ ⟨⟨⟩, rfl, hA⟩
     simp only [List.cons_append, List.nil_append] at hA
     replace hA := hA.symm
     subst hA
     refine ⟨(fun _ => subF), ?_⟩
     refine WJ_all (rs := [16]) (by kernel_rfl) rfl ?_
     refine WI_one ?_
     refine WI_ac rfl (Ac_call cf24 rfl (hs := storeL_ct (ix := x9) (n := 3) (un := 4) (b := ⟨[97#8, 98#8, 99#8, 100#8, 101#8, 102#8], some ⟨b33, 0, none⟩, 6⟩) (who := 1#32))) rfl rfl rfl rfl ?_
     rintro _ _ ⟨⟨⟩, rfl, hA⟩
     simp only [List.cons_append, List.nil_append] at hA
     replace hA := hA.symm
     subst hA
     refine ⟨(fun _ => subF), ?_⟩
     refine WJ_all (rs := [17]) (by kernel_rfl) rfl ?_
     refine WI_one ?_
     refine WI_ac rfl (Ac_bsL (f := eRq) (zs := [.int .u8 0, .int .u8 0, .int .u8 0, .int .u8 0, .int .u8 0, .int .u8 0, .int .u8 0, .int .u8 0, .int .u8 0, .int .u8 0, .int .u8 0, .int .u8 0, .int .u8 0, .int .u8 0, .int .u8 0, .int .u8 0, .int .u8 0, .int .i64 0, .int .i64 0, .int .i64 0, .int .u32 0, .int .i64 0, .slice none 0 0]) (bs := [.int .u8 0, .int .u8 0, .int .u8 0, .int .u8 0, .int .u8 0, .int .u8 0, .int .u8 0, .int .u8 0, .int .u8 0, .int .u8 0, .int .u8 0, .int .u8 0, .int .u8 0, .int .u8 0, .int .u8 0, .int .u8 0, .int .u8 0, .int .i64 0, .int .i64 0, .int .i64 0, .int .u32 0, .int .i64 0, .slice none 0 0] ++ [.int .u8 0, .int .u8 0, .int .u8 0, .int .u8 0, .int .u8 0, .int .u8 0, .int .u8 0, .int .u8 0, .int .u8 0, .int .u8 0, .int .u8 0, .int .u8 0, .int .u8 0, .int .u8 0, .int .u8 0, .int .u8 0, .int .u8 0, .int .i64 0, .int .i64 0, .int .i64 0, .int .u32 0, .int .i64 0, .slice none 0 0] ++ [.int .u8 0, .int .u8 0, .int .u8 0, .int .u8 0, .int .u8 0, .int .u8 0, .int .u8 0, .int .u8 0, .int .u8 0, .int .u8 0, .int .u8 0, .int .u8 0, .int .u8 0, .int .u8 0, .int .u8 0, .int .u8 0, .int .u8 0, .int .i64 0, .int .i64 0, .int .i64 0, .int .u32 0, .int .i64 0, .slice none 0 0] ++ [.int .u8 0, .int .u8 0, .int .u8 0, .int .u8 0, .int .u8 0, .int .u8 0, .int .u8 0, .int .u8 0, .int .u8 0, .int .u8 0, .int .u8 0, .int .u8 0, .int .u8 0, .int .u8 0, .int .u8 0, .int .u8 0, .int .u8 0, .int .i64 0, .int .i64 0, .int .i64 0, .int .u32 0, .int .i64 0, .slice none 0 0] ++ [.int .u8 0, .int .u8 0, .int .u8 0, .int .u8 0, .int .u8 0, .int .u8 0, .int .u8 0, .int .u8 0, .int .u8 0, .int .u8 0, .int .u8 0, .int .u8 0, .int .u8 0, .int .u8 0, .int .u8 0, .int .u8 0, .int .u8 0, .int .i64 0, .int .i64 0, .int .i64 0, .int .u32 0, .int .i64 0, .slice none 0 0]) (knRq b33 b40 b44) encRq ud77 zr30 sz30 rfl (by kernel_rfl) (by kernel_rfl) (by rfl) (by rfl) (by rfl)) rfl rfl rfl rfl ?_
     rintro _ _ ⟨b53, rfl, rfl⟩
     refine ⟨(fun _ => subF), ?_⟩
     refine WJ_tp 18 rfl (Rd_assign rfl) rfl (hp _ _) ?_
     refine WJ_done (by kernel_rfl) ?_
     refine Ps_wkB (hK9 ⟨b40, b44, b53⟩ (trivial))
    ·skip
     refine WI_ac rfl (Ac_bsL (f := (eU .u8 (w := 8))) (zs := [.int .u8 0]) (bs := [.int .u8 0, .int .u8 0, .int .u8 0, .int .u8 0, .int .u8 0]) [49#8, 50#8, 51#8, 52#8, 53#8] (encU .u8) ud28 zr5 sz5 rfl (by rw [Array.toList_map, Array.toList_range]; rfl) (by rfl) (by rfl) (by rfl) (by rfl)) rfl rfl rfl rfl ?_
     rintro _ _ ⟨b40, rfl, rfl⟩
     refine ⟨(fun _ => subF), ?_⟩
     refine WJ_all (rs := [2, 5]) (by kernel_rfl) rfl ?_
     refine WI_cons ?_ (WI_cons ?_ (by intro _ h; cases h))
     ·skip
      refine WI_ac rfl (Ac_call cf24 rfl (hs := storeL_ct (ix := x9) (n := 3) (un := 5) (b := ⟨[97#8, 98#8, 99#8, 100#8, 101#8, 102#8], some ⟨b33, 0, none⟩, 6⟩) (who := 1#32))) rfl rfl rfl rfl ?_
      rintro _ _ ⟨⟨⟩, rfl, hA⟩
      simp only [List.cons_append, List.nil_append] at hA
      replace hA := hA.symm
      subst hA
      refine ⟨(fun _ => subF), ?_⟩
      refine WJ_all (rs := [5]) (by kernel_rfl) rfl ?_
      refine WI_one ?_
      refine WI_ac rfl (Ac_convSS (cap := 5) (l := [49#8, 50#8, 51#8, 52#8, 53#8]) rfl ud28 ud5) rfl rfl rfl rfl ?_
      rintro _ _ ⟨rfl, rfl⟩
      refine ⟨(fun _ => subF), ?_⟩
      refine WJ_all (rs := [6]) (by kernel_rfl) rfl ?_
      refine WI_one ?_
      refine WI_ac rfl (Ac_call cf24 rfl (hs := storeL_ct (ix := x9) (n := 4) (un := 5) (b := ⟨[49#8, 50#8, 51#8, 52#8, 53#8], some ⟨b40, 0, none⟩, 5⟩) (who := 1#32))) rfl rfl rfl rfl ?_
      rintro _ _ ⟨⟨⟩, rfl, hA⟩
      simp only [List.cons_append, List.nil_append] at hA
      replace hA := hA.symm
      subst hA
      refine ⟨(fun _ => subF), ?_⟩
      refine WJ_all (rs := [10]) (by kernel_rfl) rfl ?_
      refine WI_one ?_
      refine WI_ac rfl (Ac_call cf24 rfl (hs := storeL_ct (ix := x9) (n := 3) (un := 5) (b := ⟨[65#8, 66#8, 67#8, 68#8, 69#8, 70#8], some ⟨b44, 0, none⟩, 6⟩) (who := 1#32))) rfl rfl rfl rfl ?_
      rintro _ _ ⟨⟨⟩, rfl, hA⟩
      simp only [List.cons_append, List.nil_append] at hA
      replace hA := hA.symm
      subst hA
      refine ⟨(fun _ => subF), ?_⟩
      refine WJ_all (rs := [13]) (by kernel_rfl) rfl ?_
      refine WI_one ?_
      refine WI_ac rfl (Ac_call cf24 rfl (hs := storeL_ct (ix := x9) (n := 3) (un := 9) (b := ⟨[97#8, 98#8, 99#8, 100#8, 101#8, 102#8], some ⟨b33, 0, none⟩, 6⟩) (who := 2#32))) rfl rfl rfl rfl ?_
      rintro _ _ ⟨⟨⟩, rfl, hA⟩
      simp only [List.cons_append, List.nil_append] at hA
      replace hA := hA.symm
      subst hA
      refine ⟨(fun _ => subF), ?_⟩
      refine WJ_all (rs := [16]) (by kernel_rfl) rfl ?_
      refine WI_one ?_
      refine WI_ac rfl (Ac_call cf24 rfl (hs := storeL_ct (ix := x9) (n := 3) (un := 4) (b := ⟨[97#8, 98#8, 99#8, 100#8, 101#8, 102#8], some ⟨b33, 0, none⟩, 6⟩) (who := 1#32))) rfl rfl rfl rfl ?_
      rintro _ _ ⟨⟨⟩, rfl, hA⟩
      simp only [List.cons_append, List.nil_append] at hA
      replace hA := hA.symm
      subst hA
      refine ⟨(fun _ => subF), ?_⟩
      refine WJ_all (rs := [17]) (by kernel_rfl) rfl ?_
      refine WI_one ?_
      refine WI_ac rfl (Ac_bsL (f := eRq) (zs := [.int .u8 0, .int .u8 0, .int .u8 0, .int .u8 0, .int .u8 0, .int .u8 0, .int .u8 0, .int .u8 0, .int .u8 0, .int .u8 0, .int .u8 0, .int .u8 0, .int .u8 0, .int .u8 0, .int .u8 0, .int .u8 0, .int .u8 0, .int .i64 0, .int .i64 0, .int .i64 0, .int .u32 0, .int .i64 0, .slice none 0 0]) (bs := [.int .u8 0, .int .u8 0, .int .u8 0, .int .u8 0, .int .u8 0, .int .u8 0, .int .u8 0, .int .u8 0, .int .u8 0, .int .u8 0, .int .u8 0, .int .u8 0, .int .u8 0, .int .u8 0, .int .u8 0, .int .u8 0, .int .u8 0, .int .i64 0, .int .i64 0, .int .i64 0, .int .u32 0, .int .i64 0, .slice none 0 0] ++ [.int .u8 0, .int .u8 0, .int .u8 0, .int .u8 0, .int .u8 0, .int .u8 0, .int .u8 0, .int .u8 0, .int .u8 0, .int .u8 0, .int .u8 0, .int .u8 0, .int .u8 0, .int .u8 0, .int .u8 0, .int .u8 0, .int .u8 0, .int .i64 0, .int .i64 0, .int .i64 0, .int .u32 0, .int .i64 0, .slice none 0 0] ++ [.int .u8 0, .int .u8 0, .int .u8 0, .int .u8 0, .int .u8 0, .int .u8 0, .int .u8 0, .int .u8 0, .int .u8 0, .int .u8 0, .int .u8 0, .int .u8 0, .int .u8 0, .int .u8 0, .int .u8 0, .int .u8 0, .int .u8 0, .int .i64 0, .int .i64 0, .int .i64 0, .int .u32 0, .int .i64 0, .slice none 0 0] ++ [.int .u8 0, .int .u8 0, .int .u8 0, .int .u8 0, .int .u8 0, .int .u8 0, .int .u8 0, .int .u8 0, .int .u8 0, .int .u8 0, .int .u8 0, .int .u8 0, .int .u8 0, .int .u8 0, .int .u8 0, .int .u8 0, .int .u8 0, .int .i64 0, .int .i64 0, .int .i64 0, .int .u32 0, .int .i64 0, .slice none 0 0] ++ [.int .u8 0, .int .u8 0, .int .u8 0, .int .u8 0, .int .u8 0, .int .u8 0, .int .u8 0, .int .u8 0, .int .u8 0, .int .u8 0, .int .u8 0, .int .u8 0, .int .u8 0, .int .u8 0, .int .u8 0, .int .u8 0, .int .u8 0, .int .i64 0, .int .i64 0, .int .i64 0, .int .u32 0, .int .i64 0, .slice none 0 0]) (knRq b33 b40 b44) encRq ud77 zr30 sz30 rfl (by kernel_rfl) (by kernel_rfl) (by rfl) (by rfl) (by rfl)) rfl rfl rfl rfl ?_
      rintro _ _ ⟨b53, rfl, rfl⟩
      refine ⟨(fun _ => subF), ?_⟩
      refine WJ_tp 18 rfl (Rd_assign rfl) rfl (hp _ _) ?_
      refine WJ_done (by kernel_rfl) ?_
      refine Ps_wkB (hK9 ⟨b40, b44, b53⟩ (trivial))
     ·skip
      refine WI_ac rfl (Ac_convSS (cap := 5) (l := [49#8, 50#8, 51#8, 52#8, 53#8]) rfl ud28 ud5) rfl rfl rfl rfl ?_
      rintro _ _ ⟨rfl, rfl⟩
      refine ⟨(fun _ => subF), ?_⟩
      refine WJ_all (rs := [2]) (by kernel_rfl) rfl ?_
      refine WI_one ?_
      refine WI_ac rfl (Ac_call cf24 rfl (hs := storeL_ct (ix := x9) (n := 3) (un := 5) (b := ⟨[97#8, 98#8, 99#8, 100#8, 101#8, 102#8], some ⟨b33, 0, none⟩, 6⟩) (who := 1#32))) rfl rfl rfl rfl ?_
      rintro _ _ ⟨⟨⟩, rfl, hA⟩
      simp only [List.cons_append, List.nil_append] at hA
      replace hA := hA.symm
      subst hA
      refine ⟨(fun _ => subF), ?_⟩
      refine WJ_all (rs := [6]) (by kernel_rfl) rfl ?_
      refine WI_one ?_
      refine WI_ac rfl (Ac_call cf24 rfl (hs := storeL_ct (ix := x9) (n := 4) (un := 5) (b := ⟨[49#8, 50#8, 51#8, 52#8, 53#8], some ⟨b40, 0, none⟩, 5⟩) (who := 1#32))) rfl rfl rfl rfl ?_
      rintro _ _ ⟨⟨⟩, rfl, hA⟩
      simp only [List.cons_append, List.nil_append] at hA
      replace hA := hA.symm
      subst hA
      refine ⟨(fun _ => subF), ?_⟩
      refine WJ_all (rs := [10]) (by kernel_rfl) rfl ?_
      refine WI_one ?_
      refine WI_ac rfl (Ac_call cf24 rfl (hs := storeL_ct (ix := x9) (n := 3) (un := 5) (b := ⟨[65#8, 66#8, 67#8, 68#8, 69#8, 70#8], some ⟨b44, 0, none⟩, 6⟩) (who := 1#32))) rfl rfl rfl rfl ?_
      rintro _ _ ⟨⟨⟩, rfl, hA⟩
      simp only [List.cons_append, List.nil_append] at hA
      replace hA := hA.symm
      subst hA
      refine ⟨(fun _ => subF), ?_⟩
      refine WJ_all (rs := [13]) (by kernel_rfl) rfl ?_
      refine WI_one ?_
      refine WI_ac rfl (Ac_call cf24 rfl (hs := storeL_ct (ix := x9) (n := 3) (un := 9) (b := ⟨[97#8, 98#8, 99#8, 100#8, 101#8, 102#8], some ⟨b33, 0, none⟩, 6⟩) (who := 2#32))) rfl rfl rfl rfl ?_
      rintro _ _ ⟨⟨⟩, rfl, hA⟩
      simp only [List.cons_append, List.nil_append] at hA
      replace hA := hA.symm
      subst hA
      refine ⟨(fun _ => subF), ?_⟩
      refine WJ_all (rs := [16]) (by kernel_rfl) rfl ?_
      refine WI_one ?_
      refine WI_ac rfl (Ac_call cf24 rfl (hs := storeL_ct (ix := x9) (n := 3) (un := 4) (b := ⟨[97#8, 98#8, 99#8, 100#8, 101#8, 102#8], some ⟨b33, 0, none⟩, 6⟩) (who := 1#32))) rfl rfl rfl rfl ?_
      rintro _ _ ⟨⟨⟩, rfl, hA⟩
      simp only [List.cons_append, List.nil_append] at hA
      replace hA := hA.symm
      subst hA
      refine ⟨(fun _ => subF), ?_⟩
      refine WJ_all (rs := [17]) (by kernel_rfl) rfl ?_
      refine WI_one ?_
      refine WI_ac rfl (Ac_bsL (f := eRq) (zs := [.int .u8 0, .int .u8 0, .int .u8 0, .int .u8 0, .int .u8 0, .int .u8 0, .int .u8 0, .int .u8 0, .int .u8 0, .int .u8 0, .int .u8 0, .int .u8 0, .int .u8 0, .int .u8 0, .int .u8 0, .int .u8 0, .int .u8 0, .int .i64 0, .int .i64 0, .int .i64 0, .int .u32 0, .int .i64 0, .slice none 0 0]) (bs := [.int .u8 0, .int .u8 0, .int .u8 0, .int .u8 0, .int .u8 0, .int .u8 0, .int .u8 0, .int .u8 0, .int .u8 0, .int .u8 0, .int .u8 0, .int .u8 0, .int .u8 0, .int .u8 0, .int .u8 0, .int .u8 0, .int .u8 0, .int .i64 0, .int .i64 0, .int .i64 0, .int .u32 0, .int .i64 0, .slice none 0 0] ++ [.int .u8 0, .int .u8 0, .int .u8 0, .int .u8 0, .int .u8 0, .int .u8 0, .int .u8 0, .int .u8 0, .int .u8 0, .int .u8 0, .int .u8 0, .int .u8 0, .int .u8 0, .int .u8 0, .int .u8 0, .int .u8 0, .int .u8 0, .int .i64 0, .int .i64 0, .int .i64 0, .int .u32 0, .int .i64 0, .slice none 0 0] ++ [.int .u8 0, .int .u8 0, .int .u8 0, .int .u8 0, .int .u8 0, .int .u8 0, .int .u8 0, .int .u8 0, .int .u8 0, .int .u8 0, .int .u8 0, .int .u8 0, .int .u8 0, .int .u8 0, .int .u8 0, .int .u8 0, .int .u8 0, .int .i64 0, .int .i64 0, .int .i64 0, .int .u32 0, .int .i64 0, .slice none 0 0] ++ [.int .u8 0, .int .u8 0, .int .u8 0, .int .u8 0, .int .u8 0, .int .u8 0, .int .u8 0, .int .u8 0, .int .u8 0, .int .u8 0, .int .u8 0, .int .u8 0, .int .u8 0, .int .u8 0, .int .u8 0, .int .u8 0, .int .u8 0, .int .i64 0, .int .i64 0, .int .i64 0, .int .u32 0, .int .i64 0, .slice none 0 0] ++ [.int .u8 0, .int .u8 0, .int .u8 0, .int .u8 0, .int .u8 0, .int .u8 0, .int .u8 0, .int .u8 0, .int .u8 0, .int .u8 0, .int .u8 0, .int .u8 0, .int .u8 0, .int .u8 0, .int .u8 0, .int .u8 0, .int .u8 0, .int .i64 0, .int .i64 0, .int .i64 0, .int .u32 0, .int .i64 0, .slice none 0 0]) (knRq b33 b40 b44) encRq ud77 zr30 sz30 rfl (by kernel_rfl) (by kernel_rfl) (by rfl) (by rfl) (by rfl)) rfl rfl rfl rfl ?_
      rintro _ _ ⟨b53, rfl, rfl⟩
      refine ⟨(fun _ => subF), ?_⟩
      refine WJ_tp 18 rfl (Rd_assign rfl) rfl (hp _ _) ?_
      refine WJ_done (by kernel_rfl) ?_
      refine Ps_wkB (hK9 ⟨b40, b44, b53⟩ (trivial))
 ·rintro ⟨b40, b44, b53⟩ -
  simp only [List.cons_append, List.nil_append]
  refine Ps_next hK8 ?_
  refine WC_seq fun K10 hK10 => ?_
  refine WC_sr fun K11 hK11 => ?_
  refine WL_pk0 ?_
  refine WL_pull (frA b44 6 1 5 (eU .u8 (w := 8)) [65#8, 66#8, 67#8, 68#8, 69#8, 70#8]) ?_
  refine WL_pull (frA b40 5 1 5 (eU .u8 (w := 8)) [49#8, 50#8, 51#8, 52#8, 53#8]) ?_
  refine WL_pull (frA b33 6 1 5 (eU .u8 (w := 8)) [97#8, 98#8, 99#8, 100#8, 101#8, 102#8]) ?_
  refine WL_r (Rd_assign rfl) rfl ?_
  refine WL_end hK11 ?_
  refine WC_block ?_
  rw [show SvA 40 85 5 s30 10 ⟨0, []⟩ = SvA 40 85 5 s30 10 ⟨0, knL 0⟩ from rfl]
  refine WC_loopK (σ := Nat) (fun i => [(7, .int .i64 ((i : Nat) : Int))]) (fun i => [SvA 40 85 5 s30 10 ⟨0, knL i⟩]) (fun i => i ≤ 5) (fun i => 5 - i) (0) [1, 2, 4, 5, 6, 10, 11, 12, 14, 16, 18, 20, 22, 23, 25, 80, 81, 82, 83, 84, 85, 86, 87, 88, 89, 90, 91, 92, 93, 94, 95, 96, 97, 98, 99, 100, 101, 102, 103, 104, 105, 106, 107, 108, 109, 110, 111, 112, 113, 114, 115, 116, 117, 118, 119, 120, 121, 122, 123, 124, 125, 126, 127, 128, 129, 130, 131, 132, 133, 134, 135, 136, 137, 138, 139, 140, 141, 142, 143, 144, 145, 146, 147, 148, 149, 150, 151, 152, 153, 154, 155, 156, 157, 158, 159, 160, 161, 162, 163, 164, 165, 166, 167, 168, 169, 170, 171, 172, 173, 174, 175, 176, 177, 178, 179, 180, 181, 182, 183, 184, 185, 186, 187, 188, 189, 190, 191, 192, 193, 194] kpA (by (try dsimp only); repeat (first | with_reducible exact Gv.nil | (with_reducible apply Gv.cons; · (repeat (first | with_reducible exact Ext.here | with_reducible apply Ext.there))))) ?_ ?_ Sub.refl ?_
  ·exact Nat.zero_le _
  ·(try dsimp only); exact (Wk.cons lkA Wk.nil)
  ·rintro i hi K12 hK12
   simp only [List.cons_append, List.nil_append]
   refine WC_seq fun K13 hK13 => ?_
   refine WC_sr fun K14 hK14 => ?_
   refine WL_r (Rd_move rfl) rfl ?_
   refine WL_r (Rd_move rfl) rfl ?_
   refine WL_r (Rd_len rfl rfl ud77) rfl ?_
   refine WL_r (Rd_lssN rfl rfl) rfl ?_
   refine WL_end hK14 ?_
   refine WC_cond rfl (fun hc1 => ?_) (fun hc1 => ?_)
   ·try simp only [dz, ne_eq] at hc1
    obtain ⟨r, hr, hc, hB⟩ := knStep b33 b40 b44 i (by omega)
    obtain ⟨kb, hkq, hkv⟩ := knKind i (by omega)
    refine WC_skip ?_
    refine Ps_next hK13 ?_
    refine WC_seq fun K15 hK15 => ?_
    refine WC_block ?_
    refine WC_sr fun K16 hK16 => ?_
    refine WL_r (Rd_move rfl) rfl ?_
    refine WL_r (Rd_move rfl) rfl ?_
    refine WL_r (Rd_move rfl) rfl ?_
    refine WL_r (Rd_index i rfl rfl ud77 sz30 (hi := by omega)) rfl ?_
    refine WL_r (Rd_loadg_arr (f := eRq) (i := i) (y := r) rfl tk30 (hl := hr)) rfl ?_
    refine WL_ac (Ac_call cf10 rfl (hs := doA_ct (b := s30) (room := 10) (t := 0) (s := ⟨0, knL i⟩) (s2 := ⟨0, knL (i + 1)⟩) (r := r) (Y := (sep [frA b33 6 1 5 (eU .u8 (w := 8)) [97#8, 98#8, 99#8, 100#8, 101#8, 102#8], frA b40 5 1 5 (eU .u8 (w := 8)) [49#8, 50#8, 51#8, 52#8, 53#8], frA b44 6 1 5 (eU .u8 (w := 8)) [65#8, 66#8, 67#8, 68#8, 69#8, 70#8]])) (rp := ⟨knK i, [], []⟩) (er := 0) (knWL i) hB (Nat.le_trans (knLen i) (by decide)) hc)) rfl rfl rfl ?_
    rintro _ _ ⟨gr, rfl, hA⟩
    simp only [List.cons_append, List.nil_append] at hA
    replace hA := hA.symm
    subst hA
    refine WL_r (Rd_move rfl) rfl ?_
    refine WL_r (Rd_ext0 rfl) rfl ?_
    refine WL_r (Rd_ext1 rfl) rfl ?_
    refine WL_ac (Ac_alloc zr45) rfl rfl rfl ?_
    rintro _ _ ⟨b8, rfl, rfl⟩
    refine WL_ac0 (Ac_store (ys := [.int .u8 (knK i), gr.nv, gr.bv]) rfl rfl sz45 (h1 := by simp [RpG.v, setAt, Value.cells, Value.oneCell', gr.hn.val, gr.hb.val]) (hr := rfl)) rfl rfl ?_
    rintro _ _ rfl
    refine WL_r (Rd_assign rfl) rfl ?_
    refine WL_end hK16 ?_
    refine WC_seq fun K17 hK17 => ?_
    refine WC_drawA mix (fun i => ([2, 2, 2, 2, 2, 2, 2, 2, 2, 2, 2] : List Nat).getD i 0) ?_
    refine WJ_tp 0 rfl (Rd_move rfl) rfl (hp _ _) ?_
    refine WJ_tp 1 rfl (Rd_neqN (i := 0) (j := 0) rfl rfl) rfl (hp _ _) ?_
    refine WJ_tp 2 rfl (Rd_move rfl) rfl (hp _ _) ?_
    refine WJ_tp 3 rfl (Rd_fieldAddr rfl fo45_0) rfl (hp _ _) ?_
    refine WJ_tk 4 (Rd_load rfl tk42 (v := .int .u8 (knK i))) hp ?_ rfl (by kernel_rfl) rfl rfl rfl
    refine WJ_tp 5 rfl (Rd_move rfl) rfl (hp _ _) ?_
    refine WJ_tp 6 rfl (Rd_move rfl) rfl (hp _ _) ?_
    refine WJ_tp 7 rfl (Rd_index i rfl rfl ud75 sz42 (hi := by omega)) rfl (hp _ _) ?_
    refine WJ_tk 8 (Rd_valE (v := .int .u8 (knK i)) (Rd_load_arr (i := i) (j := 0) rfl tk42 (hl := hkq)) hkv) hp ?_ rfl (by kernel_rfl) rfl rfl rfl
    refine WJ_tp 9 rfl (Rd_valE (v := .bool false) (Rd_neq rfl rfl) (by simp)) rfl (hp _ _) ?_
    refine WJ_tp 10 rfl (Rd_pickF rfl rfl) rfl (hp _ _) ?_
    refine WJ_done (by kernel_rfl) ?_
    refine Ps_next hK17 ?_
    refine WC_condF rfl ?_
    refine WC_skip ?_
    refine Ps_next hK15 ?_
    refine WC_region ?_
    refine WL_r (Rd_move rfl) rfl ?_
    refine WL_r (Rd_addN (j := 1) rfl rfl) rfl ?_
    refine WL_r (Rd_assign rfl) rfl ?_
    refine WL_nil ?_
    refine Ps_wkB (hK12 (i + 1) (by omega) (by omega))
   ·try simp only [dz, ne_eq] at hc1
    obtain rfl : 5 = i := by omega
    rw [show SvA 40 85 5 s30 10 ⟨0, knL 5⟩ = SvA 40 85 5 s30 10 ⟨0, [knB]⟩ from rfl]
    refine WC_exit ?_
    refine Ps_next hK10 ?_
    refine WC_seq fun K18 hK18 => ?_
    refine WC_meet (B0 := []) (σ := (StG [knB]) × KV × Nat) (fun ⟨g1, k0, b10⟩ => [(10, .pointer (some ⟨b10, 0, none⟩)), (11, .bool true)]) (fun ⟨g1, k0, b10⟩ => [g1.X, cl b10 65 (eKV k0)]) (fun ⟨g1, k0, b10⟩ => findV x9 3 g1.kvs = some k0 ∧ k0.kp = knB) [0, 1, 2, 4, 12, 14, 16, 18, 20, 22, 23, 25, 87, 88, 89, 90, 91, 92, 93, 94, 95, 96, 97, 98, 99, 100, 101, 102, 103, 104, 105, 106, 107, 108, 109, 110, 111, 112, 113, 114, 115, 116, 117, 118, 119, 120, 121, 122, 123, 124, 125, 126, 127, 128, 129, 130, 131, 132, 133, 134, 135, 136, 137, 138, 139, 140, 141, 142, 143, 144, 145, 146, 147, 148, 149, 150, 151, 152, 153, 154, 155, 156, 157, 158, 159, 160, 161, 162, 163, 164, 165, 166, 167, 168, 169, 170, 171, 172, 173, 174, 175, 176, 177, 178, 179, 180, 181, 182, 183, 184, 185, 186, 187, 188, 189, 190, 191, 192, 193, 194] kpA (by (try dsimp only); repeat (first | with_reducible exact Gv.nil | (with_reducible apply Gv.cons; · (repeat (first | with_reducible exact Ext.here | with_reducible apply Ext.there))))) ?_ ?_
    ·intro hK19
     refine WC_draw mix [cl b1 24 (x9.l.flatMap (eU .u8 (w := 8)))] (fun i => ([2, 1, 2, 1, 2, 2, 2, 1, 0, 2] : List Nat).getD i 0) ?_
     refine WJ_tp 0 rfl (Rd_move rfl) rfl (hp _ _) ?_
     refine WJ_tk 2 (Rd_loadg (vs := x9.l.flatMap (eU .u8)) rfl tk24) hp ?_ rfl (by kernel_rfl) rfl rfl rfl
     refine WJ_all (rs := [1, 7]) (by kernel_rfl) rfl ?_
     refine WI_cons ?_ (WI_cons ?_ (by intro _ h; cases h))
     ·skip
      refine WI_ac rfl (Ac_call cf15 rfl (hs := stateA_ct (b := s30) (room := 10) (s := ⟨0, [knB]⟩) knWB (by decide))) rfl rfl rfl rfl ?_
      rintro _ _ ⟨g1, rfl, hA⟩
      simp only [List.cons_append, List.nil_append] at hA
      replace hA := hA.symm
      subst hA
      refine ⟨(fun _ => subF), ?_⟩
      refine WJ_all (rs := [3, 7]) (by kernel_rfl) rfl ?_
      refine WI_cons ?_ (WI_cons ?_ (by intro _ h; cases h))
      ·skip
       obtain ⟨k0, hk0, hkp⟩ := kn_kept g1.eq
       refine WI_ac rfl (Ac_call cf19 rfl (hs := kept_yes (X := g1.X) (room := 10) (tick := 0) (ix := x9) (n := 3) (k0 := k0) g1.sv (by have q := congrArg List.length g1.eq; rw [List.length_map] at q; rw [q]; decide) hk0)) rfl rfl rfl rfl ?_
       rintro _ _ ⟨⟨⟩, rfl, hA⟩
       simp only [List.cons_append, List.nil_append] at hA
       replace hA := hA.symm
       subst hA
       refine ⟨(fun _ => subF), ?_⟩
       refine WJ_tp 4 rfl (Rd_move rfl) rfl (hp _ _) ?_
       refine WJ_tp 5 rfl (Rd_ext0 rfl) rfl (hp _ _) ?_
       refine WJ_tp 6 rfl (Rd_ext1 rfl) rfl (hp _ _) ?_
       refine WJ_all (rs := [7]) (by kernel_rfl) rfl ?_
       refine WI_one ?_
       refine WI_ac rfl (Ac_alloc zr65) rfl rfl rfl rfl ?_
       rintro _ _ ⟨b10, rfl, rfl⟩
       refine ⟨(fun _ => subF), ?_⟩
       refine WJ_all (rs := [8]) (by kernel_rfl) rfl ?_
       refine WI_one ?_
       refine WI_ac0 rfl (Ac_store (ys := eKV k0) rfl rfl sz65 (h1 := by simpa [Value.cells] using encKV.one k0) (hv := by simpa [Value.cells] using encKV.len k0) (hr := by simp [Value.cells])) rfl rfl rfl ?_
       rintro _ _ rfl
       refine ⟨(fun h => by cases h), ?_⟩
       refine WJ_tp 9 rfl (Rd_assign rfl) rfl (hp _ _) ?_
       refine WJ_done (by kernel_rfl) ?_
       refine Ps_wkB (hK19 ⟨g1, k0, b10⟩ (⟨hk0, hkp⟩))
      ·skip
       refine WI_ac rfl (Ac_alloc zr65) rfl rfl rfl rfl ?_
       rintro _ _ ⟨b10, rfl, rfl⟩
       refine ⟨(fun _ => subF), ?_⟩
       refine WJ_all (rs := [3]) (by kernel_rfl) rfl ?_
       refine WI_one ?_
       obtain ⟨k0, hk0, hkp⟩ := kn_kept g1.eq
       refine WI_ac rfl (Ac_call cf19 rfl (hs := kept_yes (X := g1.X) (room := 10) (tick := 0) (ix := x9) (n := 3) (k0 := k0) g1.sv (by have q := congrArg List.length g1.eq; rw [List.length_map] at q; rw [q]; decide) hk0)) rfl rfl rfl rfl ?_
       rintro _ _ ⟨⟨⟩, rfl, hA⟩
       simp only [List.cons_append, List.nil_append] at hA
       replace hA := hA.symm
       subst hA
       refine ⟨(fun _ => subF), ?_⟩
       refine WJ_tp 4 rfl (Rd_move rfl) rfl (hp _ _) ?_
       refine WJ_tp 5 rfl (Rd_ext0 rfl) rfl (hp _ _) ?_
       refine WJ_tp 6 rfl (Rd_ext1 rfl) rfl (hp _ _) ?_
       refine WJ_all (rs := [8]) (by kernel_rfl) rfl ?_
       refine WI_one ?_
       refine WI_ac0 rfl (Ac_store (ys := eKV k0) rfl rfl sz65 (h1 := by simpa [Value.cells] using encKV.one k0) (hv := by simpa [Value.cells] using encKV.len k0) (hr := by simp [Value.cells])) rfl rfl rfl ?_
       rintro _ _ rfl
       refine ⟨(fun h => by cases h), ?_⟩
       refine WJ_tp 9 rfl (Rd_assign rfl) rfl (hp _ _) ?_
       refine WJ_done (by kernel_rfl) ?_
       refine Ps_wkB (hK19 ⟨g1, k0, b10⟩ (⟨hk0, hkp⟩))
     ·skip
      refine WI_ac rfl (Ac_alloc zr65) rfl rfl rfl rfl ?_
      rintro _ _ ⟨b10, rfl, rfl⟩
      refine ⟨(fun _ => subF), ?_⟩
      refine WJ_all (rs := [1]) (by kernel_rfl) rfl ?_
      refine WI_one ?_
      refine WI_ac rfl (Ac_call cf15 rfl (hs := stateA_ct (b := s30) (room := 10) (s := ⟨0, [knB]⟩) knWB (by decide))) rfl rfl rfl rfl ?_
      rintro _ _ ⟨g1, rfl, hA⟩
      simp only [List.cons_append, List.nil_append] at hA
      replace hA := hA.symm
      subst hA
      refine ⟨(fun _ => subF), ?_⟩
      refine WJ_all (rs := [3]) (by kernel_rfl) rfl ?_
      refine WI_one ?_
      obtain ⟨k0, hk0, hkp⟩ := kn_kept g1.eq
      refine WI_ac rfl (Ac_call cf19 rfl (hs := kept_yes (X := g1.X) (room := 10) (tick := 0) (ix := x9) (n := 3) (k0 := k0) g1.sv (by have q := congrArg List.length g1.eq; rw [List.length_map] at q; rw [q]; decide) hk0)) rfl rfl rfl rfl ?_
      rintro _ _ ⟨⟨⟩, rfl, hA⟩
      simp only [List.cons_append, List.nil_append] at hA
      replace hA := hA.symm
      subst hA
      refine ⟨(fun _ => subF), ?_⟩
      refine WJ_tp 4 rfl (Rd_move rfl) rfl (hp _ _) ?_
      refine WJ_tp 5 rfl (Rd_ext0 rfl) rfl (hp _ _) ?_
      refine WJ_tp 6 rfl (Rd_ext1 rfl) rfl (hp _ _) ?_
      refine WJ_all (rs := [8]) (by kernel_rfl) rfl ?_
      refine WI_one ?_
      refine WI_ac0 rfl (Ac_store (ys := eKV k0) rfl rfl sz65 (h1 := by simpa [Value.cells] using encKV.one k0) (hv := by simpa [Value.cells] using encKV.len k0) (hr := by simp [Value.cells])) rfl rfl rfl ?_
      rintro _ _ rfl
      refine ⟨(fun h => by cases h), ?_⟩
      refine WJ_tp 9 rfl (Rd_assign rfl) rfl (hp _ _) ?_
      refine WJ_done (by kernel_rfl) ?_
      refine Ps_wkB (hK19 ⟨g1, k0, b10⟩ (⟨hk0, hkp⟩))
    ·rintro ⟨g1, k0, b10⟩ ⟨hk0, hkp⟩
     simp only [List.cons_append, List.nil_append]
     refine Ps_next hK18 ?_
     refine WC_seq fun K20 hK20 => ?_
     refine WC_sr fun K21 hK21 => ?_
     refine WL_r (Rd_move rfl) rfl ?_
     refine WL_r (Rd_not rfl) rfl ?_
     refine WL_r (Rd_move rfl) rfl ?_
     refine WL_r (Rd_fieldAddr rfl fo65_3) rfl ?_
     refine WL_r (Rd_load rfl tk63 (v := k0.ls.v) (hi := eKV_ls k0)) rfl ?_
     refine WL_r (Rd_valE (v := .agg (eLs (1#32, 5)).toArray) (Rd_build pls27 rfl) rfl) rfl ?_
     refine WL_r (Rd_valE (v := .agg (eLs (2#32, 9)).toArray) (Rd_build pls27 rfl) rfl) rfl ?_
     refine WL_ac (Ac_bsL (f := eLs) (zs := [.int .u32 0, .int .i64 0]) (bs := [.int .u32 0, .int .i64 0, .int .u32 0, .int .i64 0]) [(1#32, 5), (2#32, 9)] encLs ud63 zr27 sz27 rfl (by kernel_rfl) (by kernel_rfl) (by rfl) (by rfl) (by rfl)) rfl rfl rfl ?_
     rintro _ _ ⟨b94, rfl, rfl⟩
     have hkl : Sv [g1.X] k0.ls.v 2 eLs [(1#32, 5), (2#32, 9)] k0.ls.ao k0.ls.cap := by have q := (g1.ok k0 (List.mem_of_find?_eq_some hk0)).2; rw [show k0.ls.l = [(1#32, 5), (2#32, 9)] from congrArg Kp.ls hkp] at q; exact q
     refine WL_fact (fun w h => arr_facts (a := some b94) (cap := 2) (e := 2) (T := 27) (f := eLs) (l := [(1#32, 5), (2#32, 9)]) hasA h) (fun hvb94f => ?_)
     have hvb94 : Sv [arr (some b94) 2 2 27 eLs [(1#32, 5), (2#32, 9)]] (sl (some b94) ([(1#32, 5), (2#32, 9)]).length 2) 2 eLs [(1#32, 5), (2#32, 9)] (((some b94) : Option Nat).map fun g => ⟨g, 0, none⟩) 2 := Sv_own' encLs hvb94f.1 hvb94f.2
     refine WL_ac (Ac_call cf25 rfl (hs := Ct.un0 (Xs := [g1.X, arr (some b94) 2 2 27 eLs [(1#32, 5), (2#32, 9)]]) (sameLt_ct (X := sep [g1.X, arr (some b94) 2 2 27 eLs [(1#32, 5), (2#32, 9)]]) (l := [(1#32, 5), (2#32, 9)]) (hkl.pk Has.here) (hvb94.pk (Has.there Has.here)) (by decide)))) rfl rfl rfl ?_
     rintro _ _ ⟨⟨⟩, rfl, hA⟩
     simp only [List.cons_append, List.nil_append] at hA
     replace hA := hA.symm
     subst hA
     refine WL_r (Rd_not rfl) rfl ?_
     refine WL_r (Rd_pickF rfl rfl) rfl ?_
     refine WL_end hK21 ?_
     refine WC_condF rfl ?_
     refine WC_skip ?_
     refine Ps_next hK20 ?_
     refine WC_sr fun K22 hK22 => ?_
     refine WL_r (Rd_move rfl) rfl ?_
     refine WL_r (Rd_loadg (vs := x9.l.flatMap (eU .u8)) rfl tk24) rfl ?_
     refine WL_r (Rd_valE (v := .agg (eRq (rqHave x9)).toArray) (Rd_build pls30 rfl (hf := rqH_fill _)) rfl) rfl ?_
     refine WL_ac (Ac_call cf10 rfl (hs := doA_ct (b := s30) (room := 10) (t := 6) (s := ⟨0, [knB]⟩) (s2 := ⟨6, [knC]⟩) (r := (rqHave x9)) (Y := (sep [frA b33 6 1 5 (eU .u8 (w := 8)) [97#8, 98#8, 99#8, 100#8, 101#8, 102#8], frA b40 5 1 5 (eU .u8 (w := 8)) [49#8, 50#8, 51#8, 52#8, 53#8], frA b44 6 1 5 (eU .u8 (w := 8)) [65#8, 66#8, 67#8, 68#8, 69#8, 70#8]])) (rp := ⟨1, [3], []⟩) (er := 0) knWB Sv_nilB (by decide) kn5)) rfl rfl rfl ?_
     rintro _ _ ⟨r1, rfl, hA⟩
     simp only [List.cons_append, List.nil_append] at hA
     replace hA := hA.symm
     subst hA
     refine WL_r (Rd_move rfl) rfl ?_
     refine WL_r (Rd_ext0 rfl) rfl ?_
     refine WL_r (Rd_ext1 rfl) rfl ?_
     refine WL_ac (Ac_alloc zr45) rfl rfl rfl ?_
     rintro _ _ ⟨b12, rfl, rfl⟩
     refine WL_ac0 (Ac_store (ys := [.int .u8 1, r1.nv, r1.bv]) rfl rfl sz45 (h1 := by simp [RpG.v, setAt, Value.cells, Value.oneCell', r1.hn.val, r1.hb.val]) (hr := rfl)) rfl rfl ?_
     rintro _ _ rfl
     refine WL_r (Rd_assign rfl) rfl ?_
     refine WL_end hK22 ?_
     refine WC_sr fun K23 hK23 => ?_
     refine WL_r (Rd_move rfl) rfl ?_
     refine WL_r (Rd_loadg (vs := x9.l.flatMap (eU .u8)) rfl tk24) rfl ?_
     refine WL_r (Rd_valE (v := .agg (eLs (1#32, 0)).toArray) (Rd_build pls27 rfl) rfl) rfl ?_
     refine WL_r (Rd_valE (v := .agg (eRq (rqRel x9 1#32)).toArray) (Rd_build pls30 rfl (hf := rqR_fill _ _)) rfl) rfl ?_
     refine WL_ac (Ac_call cf10 rfl (hs := doA_ct (b := s30) (room := 10) (t := 6) (s := ⟨6, [knC]⟩) (s2 := ⟨6, [knC]⟩) (r := (rqRel x9 1#32)) (Y := (sep [frA b33 6 1 5 (eU .u8 (w := 8)) [97#8, 98#8, 99#8, 100#8, 101#8, 102#8], frA b40 5 1 5 (eU .u8 (w := 8)) [49#8, 50#8, 51#8, 52#8, 53#8], frA b44 6 1 5 (eU .u8 (w := 8)) [65#8, 66#8, 67#8, 68#8, 69#8, 70#8]])) (rp := ⟨1, [], []⟩) (er := 0) knWC Sv_nilB (by decide) kn6)) rfl rfl rfl ?_
     rintro _ _ ⟨r2, rfl, hA⟩
     simp only [List.cons_append, List.nil_append] at hA
     replace hA := hA.symm
     subst hA
     refine WL_r (Rd_move rfl) rfl ?_
     refine WL_r (Rd_ext0 rfl) rfl ?_
     refine WL_r (Rd_ext1 rfl) rfl ?_
     refine WL_ac (Ac_alloc zr45) rfl rfl rfl ?_
     rintro _ _ ⟨b14, rfl, rfl⟩
     refine WL_ac0 (Ac_store (ys := [.int .u8 1, r2.nv, r2.bv]) rfl rfl sz45 (h1 := by simp [RpG.v, setAt, Value.cells, Value.oneCell', r2.hn.val, r2.hb.val]) (hr := rfl)) rfl rfl ?_
     rintro _ _ rfl
     refine WL_r (Rd_assign rfl) rfl ?_
     refine WL_end hK23 ?_
     refine WC_sr fun K24 hK24 => ?_
     refine WL_r (Rd_move rfl) rfl ?_
     refine WL_r (Rd_loadg (vs := x9.l.flatMap (eU .u8)) rfl tk24) rfl ?_
     refine WL_r (Rd_valE (v := .agg (eLs (2#32, 0)).toArray) (Rd_build pls27 rfl) rfl) rfl ?_
     refine WL_r (Rd_valE (v := .agg (eRq (rqRel x9 2#32)).toArray) (Rd_build pls30 rfl (hf := rqR_fill _ _)) rfl) rfl ?_
     refine WL_ac (Ac_call cf10 rfl (hs := doA_ct (b := s30) (room := 10) (t := 6) (s := ⟨6, [knC]⟩) (s2 := ⟨6, []⟩) (r := (rqRel x9 2#32)) (Y := (sep [frA b33 6 1 5 (eU .u8 (w := 8)) [97#8, 98#8, 99#8, 100#8, 101#8, 102#8], frA b40 5 1 5 (eU .u8 (w := 8)) [49#8, 50#8, 51#8, 52#8, 53#8], frA b44 6 1 5 (eU .u8 (w := 8)) [65#8, 66#8, 67#8, 68#8, 69#8, 70#8]])) (rp := ⟨1, [3], []⟩) (er := 0) knWC Sv_nilB (by decide) kn7)) rfl rfl rfl ?_
     rintro _ _ ⟨r3, rfl, hA⟩
     simp only [List.cons_append, List.nil_append] at hA
     replace hA := hA.symm
     subst hA
     refine WL_r (Rd_move rfl) rfl ?_
     refine WL_r (Rd_ext0 rfl) rfl ?_
     refine WL_r (Rd_ext1 rfl) rfl ?_
     refine WL_ac (Ac_alloc zr45) rfl rfl rfl ?_
     rintro _ _ ⟨b16, rfl, rfl⟩
     refine WL_ac0 (Ac_store (ys := [.int .u8 1, r3.nv, r3.bv]) rfl rfl sz45 (h1 := by simp [RpG.v, setAt, Value.cells, Value.oneCell', r3.hn.val, r3.hb.val]) (hr := rfl)) rfl rfl ?_
     rintro _ _ rfl
     refine WL_r (Rd_assign rfl) rfl ?_
     refine WL_end hK24 ?_
     refine WC_seq fun K25 hK25 => ?_
     refine WC_sr fun K26 hK26 => ?_
     refine WL_r (Rd_fieldAddr rfl fo45_1) rfl ?_
     refine WL_r (Rd_load rfl tk43 (v := r1.nv)) rfl ?_
     refine WL_ac (Ac_bsL (f := eI) (zs := [.int .i64 0]) (bs := [.int .i64 0]) [3] encI ud43 zr3 sz3 rfl (by rw [Array.toList_map, Array.toList_range]; rfl) (by rfl) (by rfl) (by rfl) (by rfl)) rfl rfl rfl ?_
     rintro _ _ ⟨b123, rfl, rfl⟩
     refine WL_fact (fun w h => arr_facts (a := some b123) (cap := 1) (e := 1) (T := 3) (f := eI) (l := [3]) hasA h) (fun hvb123f => ?_)
     have hvb123 : Sv [arr (some b123) 1 1 3 eI [3]] (sl (some b123) ([3]).length 1) 1 eI [3] (((some b123) : Option Nat).map fun g => ⟨g, 0, none⟩) 1 := Sv_own' encI hvb123f.1 hvb123f.2
     refine WL_ac (Ac_call cf26 rfl (hs := Ct.un0 (Xs := [r1.X, arr (some b123) 1 1 3 eI [3]]) (sameIt_ct (X := sep [r1.X, arr (some b123) 1 1 3 eI [3]]) (l := [3]) (r1.hn.pk Has.here) (hvb123.pk (Has.there Has.here)) (by decide)))) rfl rfl rfl ?_
     rintro _ _ ⟨⟨⟩, rfl, hA⟩
     simp only [List.cons_append, List.nil_append] at hA
     replace hA := hA.symm
     subst hA
     refine WL_r (Rd_not rfl) rfl ?_
     refine WL_r (Rd_move rfl) rfl ?_
     refine WL_r (Rd_fieldAddr rfl fo45_1) rfl ?_
     refine WL_r (Rd_load rfl tk43 (v := r2.nv)) rfl ?_
     refine WL_r (Rd_len_sv rfl rfl ud43 (hA := r2.hn)) rfl ?_
     refine WL_r (Rd_valE (v := .bool false) (Rd_neqN (j := 0) rfl rfl) rfl) rfl ?_
     refine WL_r (Rd_pickF rfl rfl) rfl ?_
     refine WL_r (Rd_move rfl) rfl ?_
     refine WL_r (Rd_fieldAddr rfl fo45_0) rfl ?_
     refine WL_r (Rd_load rfl tk42 (v := .int .u8 1)) rfl ?_
     refine WL_r (Rd_neqN (i := 1) (j := 1) rfl rfl) rfl ?_
     refine WL_r (Rd_pickF rfl rfl) rfl ?_
     refine WL_r (Rd_move rfl) rfl ?_
     refine WL_r (Rd_fieldAddr rfl fo45_1) rfl ?_
     refine WL_r (Rd_load rfl tk43 (v := r3.nv)) rfl ?_
     refine WL_ac (Ac_bsL (f := eI) (zs := [.int .i64 0]) (bs := [.int .i64 0]) [3] encI ud43 zr3 sz3 rfl (by rw [Array.toList_map, Array.toList_range]; rfl) (by rfl) (by rfl) (by rfl) (by rfl)) rfl rfl rfl ?_
     rintro _ _ ⟨b140, rfl, rfl⟩
     refine WL_fact (fun w h => arr_facts (a := some b140) (cap := 1) (e := 1) (T := 3) (f := eI) (l := [3]) hasA h) (fun hvb140f => ?_)
     have hvb140 : Sv [arr (some b140) 1 1 3 eI [3]] (sl (some b140) ([3]).length 1) 1 eI [3] (((some b140) : Option Nat).map fun g => ⟨g, 0, none⟩) 1 := Sv_own' encI hvb140f.1 hvb140f.2
     refine WL_ac (Ac_call cf26 rfl (hs := Ct.un0 (Xs := [r3.X, arr (some b140) 1 1 3 eI [3]]) (sameIt_ct (X := sep [r3.X, arr (some b140) 1 1 3 eI [3]]) (l := [3]) (r3.hn.pk Has.here) (hvb140.pk (Has.there Has.here)) (by decide)))) rfl rfl rfl ?_
     rintro _ _ ⟨⟨⟩, rfl, hA⟩
     simp only [List.cons_append, List.nil_append] at hA
     replace hA := hA.symm
     subst hA
     refine WL_r (Rd_not rfl) rfl ?_
     refine WL_r (Rd_pickF rfl rfl) rfl ?_
     refine WL_r (Rd_move rfl) rfl ?_
     refine WL_r (Rd_move rfl) rfl ?_
     refine WL_ac (Ac_call cf13 rfl (hs := usedA_ct (b := s30) (room := 10) (s := ⟨6, []⟩))) rfl rfl rfl ?_
     rintro _ _ ⟨⟨⟩, rfl, hA⟩
     simp only [List.cons_append, List.nil_append] at hA
     replace hA := hA.symm
     subst hA
     refine WL_r (Rd_valE (v := .bool false) (Rd_neqN (j := 0) rfl rfl) rfl) rfl ?_
     refine WL_r (Rd_pickF rfl rfl) rfl ?_
     refine WL_end hK26 ?_
     refine WC_condF rfl ?_
     refine WC_skip ?_
     refine Ps_next hK25 ?_
     refine WC_sr fun K27 hK27 => ?_
     refine WL_r (Rd_move rfl) rfl ?_
     refine WL_r (Rd_loadg (vs := x9.l.flatMap (eU .u8)) rfl tk24) rfl ?_
     refine WL_r (Rd_move rfl) rfl ?_
     refine WL_ac (Ac_call cf24 rfl (hs := storeL_ct (ix := x9) (n := 3) (un := 5) (b := ⟨[97#8, 98#8, 99#8, 100#8, 101#8, 102#8], some ⟨b33, 0, none⟩, 6⟩) (who := 1#32))) rfl rfl rfl ?_
     rintro _ _ ⟨⟨⟩, rfl, hA⟩
     simp only [List.cons_append, List.nil_append] at hA
     replace hA := hA.symm
     subst hA
     refine WL_ac (Ac_call cf10 rfl (hs := doA_ct (b := s30) (room := 10) (t := 6) (s := ⟨6, []⟩) (s2 := ⟨6, []⟩) (r := (rqStore x9 3 ⟨[97#8, 98#8, 99#8, 100#8, 101#8, 102#8], some ⟨b33, 0, none⟩, 6⟩ 1#32 5)) (Y := (sep [frA b33 6 1 5 (eU .u8 (w := 8)) [97#8, 98#8, 99#8, 100#8, 101#8, 102#8], frA b40 5 1 5 (eU .u8 (w := 8)) [49#8, 50#8, 51#8, 52#8, 53#8], frA b44 6 1 5 (eU .u8 (w := 8)) [65#8, 66#8, 67#8, 68#8, 69#8, 70#8]])) (rp := ⟨7, [], []⟩) (er := 0) knWD ((Sv_fr (b := b33) (cap := 6) (T := 5) (encU .u8 (w := 8)) (l := [97#8, 98#8, 99#8, 100#8, 101#8, 102#8]) (Nat.le_refl 6)).pk hasA) (by decide) (kn8 _ _))) rfl rfl rfl ?_
     rintro _ _ ⟨r4, rfl, hA⟩
     simp only [List.cons_append, List.nil_append] at hA
     replace hA := hA.symm
     subst hA
     refine WL_r (Rd_move rfl) rfl ?_
     refine WL_r (Rd_ext0 rfl) rfl ?_
     refine WL_r (Rd_ext1 rfl) rfl ?_
     refine WL_ac (Ac_alloc zr45) rfl rfl rfl ?_
     rintro _ _ ⟨b18, rfl, rfl⟩
     refine WL_ac0 (Ac_store (ys := [.int .u8 7, r4.nv, r4.bv]) rfl rfl sz45 (h1 := by simp [RpG.v, setAt, Value.cells, Value.oneCell', r4.hn.val, r4.hb.val]) (hr := rfl)) rfl rfl ?_
     rintro _ _ rfl
     refine WL_r (Rd_assign rfl) rfl ?_
     refine WL_end hK27 ?_
     refine WC_sr fun K28 hK28 => ?_
     refine WL_r (Rd_move rfl) rfl ?_
     refine WL_r (Rd_loadg (vs := x9.l.flatMap (eU .u8)) rfl tk24) rfl ?_
     refine WL_r (Rd_valE (v := .agg (eRq (rqFetch x9 0 0 131073)).toArray) (Rd_build pls30 rfl (hf := rqF4_fill _ _)) rfl) rfl ?_
     refine WL_ac (Ac_call cf10 rfl (hs := doA_ct (b := s30) (room := 10) (t := 6) (s := ⟨6, []⟩) (s2 := ⟨6, []⟩) (r := (rqFetch x9 0 0 131073)) (Y := (sep [frA b33 6 1 5 (eU .u8 (w := 8)) [97#8, 98#8, 99#8, 100#8, 101#8, 102#8], frA b40 5 1 5 (eU .u8 (w := 8)) [49#8, 50#8, 51#8, 52#8, 53#8], frA b44 6 1 5 (eU .u8 (w := 8)) [65#8, 66#8, 67#8, 68#8, 69#8, 70#8]])) (rp := ⟨7, [], []⟩) (er := 0) knWD Sv_nilB (by decide) kn9)) rfl rfl rfl ?_
     rintro _ _ ⟨r5, rfl, hA⟩
     simp only [List.cons_append, List.nil_append] at hA
     replace hA := hA.symm
     subst hA
     refine WL_r (Rd_move rfl) rfl ?_
     refine WL_r (Rd_ext0 rfl) rfl ?_
     refine WL_r (Rd_ext1 rfl) rfl ?_
     refine WL_ac (Ac_alloc zr45) rfl rfl rfl ?_
     rintro _ _ ⟨b20, rfl, rfl⟩
     refine WL_ac0 (Ac_store (ys := [.int .u8 7, r5.nv, r5.bv]) rfl rfl sz45 (h1 := by simp [RpG.v, setAt, Value.cells, Value.oneCell', r5.hn.val, r5.hb.val]) (hr := rfl)) rfl rfl ?_
     rintro _ _ rfl
     refine WL_r (Rd_assign rfl) rfl ?_
     refine WL_end hK28 ?_
     refine WC_sr fun K29 hK29 => ?_
     refine WL_r (Rd_move rfl) rfl ?_
     refine WL_r (Rd_loadg (vs := x9.l.flatMap (eU .u8)) rfl tk24) rfl ?_
     refine WL_r (Rd_valE (v := .agg (eRq (rqHave x9)).toArray) (Rd_build pls30 rfl (hf := rqH_fill _)) rfl) rfl ?_
     refine WL_ac (Ac_call cf10 rfl (hs := doA_ct (b := s30) (room := 10) (t := 5) (s := ⟨6, []⟩) (s2 := ⟨6, []⟩) (r := (rqHave x9)) (Y := (sep [frA b33 6 1 5 (eU .u8 (w := 8)) [97#8, 98#8, 99#8, 100#8, 101#8, 102#8], frA b40 5 1 5 (eU .u8 (w := 8)) [49#8, 50#8, 51#8, 52#8, 53#8], frA b44 6 1 5 (eU .u8 (w := 8)) [65#8, 66#8, 67#8, 68#8, 69#8, 70#8]])) (rp := ⟨0, [], []⟩) (er := 191) knWD Sv_nilB (by decide) kn10)) rfl rfl rfl ?_
     rintro _ _ ⟨r6, rfl, hA⟩
     simp only [List.cons_append, List.nil_append] at hA
     replace hA := hA.symm
     subst hA
     refine WL_r (Rd_move rfl) rfl ?_
     refine WL_r (Rd_ext0 rfl) rfl ?_
     refine WL_r (Rd_ext1 rfl) rfl ?_
     refine WL_ac (Ac_alloc zr45) rfl rfl rfl ?_
     rintro _ _ ⟨b22, rfl, rfl⟩
     refine WL_ac0 (Ac_store (ys := [.int .u8 0, r6.nv, r6.bv]) rfl rfl sz45 (h1 := by simp [RpG.v, setAt, Value.cells, Value.oneCell', r6.hn.val, r6.hb.val]) (hr := rfl)) rfl rfl ?_
     rintro _ _ rfl
     refine WL_r (Rd_assign rfl) rfl ?_
     refine WL_end hK29 ?_
     refine WC_sr fun K30 hK30 => ?_
     refine WL_r (Rd_loadg (vs := x9.l.flatMap (eU .u8)) rfl tk24) rfl ?_
     refine WL_r (Rd_valE (v := .agg (eKV ⟨x9, 0, ⟨[], none, 0⟩, ⟨[], none, 0⟩⟩).toArray) (Rd_build pls65 rfl (hf := kvZ_fill _)) rfl) rfl ?_
     refine WL_ac (Ac_bsL (f := eKV) (zs := [.int .u8 0, .int .u8 0, .int .u8 0, .int .u8 0, .int .u8 0, .int .u8 0, .int .u8 0, .int .u8 0, .int .u8 0, .int .u8 0, .int .u8 0, .int .u8 0, .int .u8 0, .int .u8 0, .int .u8 0, .int .u8 0, .int .i64 0, .slice none 0 0, .slice none 0 0]) (bs := [.int .u8 0, .int .u8 0, .int .u8 0, .int .u8 0, .int .u8 0, .int .u8 0, .int .u8 0, .int .u8 0, .int .u8 0, .int .u8 0, .int .u8 0, .int .u8 0, .int .u8 0, .int .u8 0, .int .u8 0, .int .u8 0, .int .i64 0, .slice none 0 0, .slice none 0 0]) [(⟨x9, 0, ⟨[], none, 0⟩, ⟨[], none, 0⟩⟩ : KV)] encKV ud52 zr65 sz65 rfl (by kernel_rfl) (by kernel_rfl) (by rfl) (by rfl) (by rfl)) rfl rfl rfl ?_
     rintro _ _ ⟨b174, rfl, rfl⟩
     refine WL_r (Rd_build pls54 rfl) rfl ?_
     refine WL_fact (fun w h => arr_facts (a := some b174) (cap := 1) (e := 19) (T := 65) (f := eKV) (l := [(⟨x9, 0, ⟨[], none, 0⟩, ⟨[], none, 0⟩⟩ : KV)]) hasA h) (fun hvb174f => ?_)
     have hvb174 : Sv [arr (some b174) 1 19 65 eKV [(⟨x9, 0, ⟨[], none, 0⟩, ⟨[], none, 0⟩⟩ : KV)]] (sl (some b174) ([(⟨x9, 0, ⟨[], none, 0⟩, ⟨[], none, 0⟩⟩ : KV)]).length 1) 19 eKV [(⟨x9, 0, ⟨[], none, 0⟩, ⟨[], none, 0⟩⟩ : KV)] (((some b174) : Option Nat).map fun g => ⟨g, 0, none⟩) 1 := Sv_own' encKV hvb174f.1 hvb174f.2
     refine WL_ac (Ac_call cf18 rfl (hs := loadA_no (X := arr (some b174) 1 19 65 eKV [(⟨x9, 0, ⟨[], none, 0⟩, ⟨[], none, 0⟩⟩ : KV)]) (kvs := [(⟨x9, 0, ⟨[], none, 0⟩, ⟨[], none, 0⟩⟩ : KV)]) (room := 9) (tick := 0) hvb174 kn_ok (by decide) (by intro k hk; rw [List.mem_singleton] at hk; subst hk; decide) kn_no)) rfl rfl rfl ?_
     rintro _ _ ⟨⟨⟩, rfl, hA⟩
     simp only [List.cons_append, List.nil_append] at hA
     replace hA := hA.symm
     subst hA
     refine WL_r (Rd_move rfl) rfl ?_
     refine WL_r (Rd_ext0 rfl) rfl ?_
     refine WL_r (Rd_ext1 rfl) rfl ?_
     refine WL_r (Rd_assign rfl) rfl ?_
     refine WL_r (Rd_assign rfl) rfl ?_
     refine WL_end hK30 ?_
     refine WC_sr fun K31 hK31 => ?_
     refine WL_r (Rd_fieldAddr rfl fo45_0) rfl ?_
     refine WL_r (Rd_load rfl tk42 (v := .int .u8 7)) rfl ?_
     refine WL_r (Rd_eqlN (i := 7) (j := 7) rfl rfl) rfl ?_
     refine WL_r (Rd_move rfl) rfl ?_
     refine WL_r (Rd_fieldAddr rfl fo45_0) rfl ?_
     refine WL_r (Rd_load rfl tk42 (v := .int .u8 7)) rfl ?_
     refine WL_r (Rd_eqlN (i := 7) (j := 7) rfl rfl) rfl ?_
     refine WL_r (Rd_pickT rfl rfl) rfl ?_
     refine WL_r (Rd_move rfl) rfl ?_
     refine WL_r (Rd_move rfl) rfl ?_
     refine WL_r (Rd_eqlN (i := 191) (j := 191) rfl rfl) rfl ?_
     refine WL_r (Rd_pickT rfl rfl) rfl ?_
     refine WL_r (Rd_move rfl) rfl ?_
     refine WL_r (Rd_move rfl) rfl ?_
     refine WL_r (Rd_eqlN (i := 192) (j := 192) rfl rfl) rfl ?_
     refine WL_r (Rd_pickT rfl rfl) rfl ?_
     refine WL_r (Rd_assign rfl) rfl ?_
     refine WL_end hK31 ?_
     refine WC_ret ?_
     exact hret.gf () (Rs1 rfl rfl)
end Go.Proofs.Ytoakfknnaiapiaa
