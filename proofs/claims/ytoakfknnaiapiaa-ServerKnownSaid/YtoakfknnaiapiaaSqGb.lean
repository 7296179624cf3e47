/-
  Contracts of functions that the claim reaches, or the logic and the plain laws that they rest on, or the row over them. (Conditions: none beyond the statement.)
-/
import Derived.Test.YtoakfknnaiapiaaSqGa
import Derived.Test.YtoakfknnaiapiaaLibC
import Derived.Test.YtoakfknnaiapiaaSvLB
import Derived.Test.YtoakfknnaiapiaaLibE
set_option linter.all false
namespace Go.Proofs.Ytoakfknnaiapiaa
open Go.RowKit Go.SL Go.ShM Go.SvM
set_option maxHeartbeats 1000000
set_option maxRecDepth 20000
set_option linter.all false
theorem cf42 : cfn Try.prog 42 = true := by kernel_rfl
theorem cf48 : cfn Try.prog 48 = true := by kernel_rfl
theorem cf60 : cfn Try.prog 60 = true := by kernel_rfl
theorem pls45 : pls Try.prog 45 = some ([.int .u8 0, .slice none 0 0, .slice none 0 0], [(0, 1), (1, 1), (2, 1)]) := by kernel_rfl
theorem sz45 : sz Try.prog 45 = some 3 := by kernel_rfl
theorem tk30 : tk Try.prog 30 = some (some 23) := by kernel_rfl
theorem tk45 : tk Try.prog 45 = some (some 3) := by kernel_rfl
theorem zr45 : zr Try.prog 45 = some [.int .u8 0, .slice none 0 0, .slice none 0 0] := by kernel_rfl
theorem hv1_ct {x : En}  : Ct Try.prog 48 [.pointer (some ⟨x.p, 0, none⟩)] [cl x.p 85 [sl x.a x.e.b.length x.cap, .map (some x.m)], arr x.a x.cap 1 5 (eU .u8 (w := 8)) x.e.b, mpP x.m kfW vfI x.e.ls] (fun _ : Unit => .bool true) (fun _ => [cl x.p 85 [sl x.a x.e.b.length x.cap, .map (some x.m)], arr x.a x.cap 1 5 (eU .u8 (w := 8)) x.e.b, mpP x.m kfW vfI x.e.ls]) := by
 refine Ct_body (n := 3) Try.func48 rfl rfl rfl fun F w0 Q hret hnorm hp => ?_
 change WC _ _ _ _ _ _ _ (_ :: _ :: _ :: F)
 refine WC_sr fun K1 hK1 => ?_
 refine WL_r (Rd_assign rfl) rfl ?_
 refine WL_end hK1 ?_
 refine WC_sr fun K2 hK2 => ?_
 refine WL_r (Rd_assign rfl) rfl ?_
 refine WL_end hK2 ?_
 refine WC_ret ?_
 exact hret.go () (Rs1 rfl rfl)

theorem held1_ct {x : En} {r : Rq} {b3 : Nat}  : Ct Try.prog 60 [.pointer (some ⟨x.p, 0, none⟩), .pointer (some ⟨b3, 0, none⟩)] [cl x.p 85 [sl x.a x.e.b.length x.cap, .map (some x.m)], arr x.a x.cap 1 5 (eU .u8 (w := 8)) x.e.b, mpP x.m kfW vfI x.e.ls, cl b3 30 (eRq r)] (fun _ : Unit => .bool (hasW r.who x.e.ls)) (fun _ => [cl x.p 85 [sl x.a x.e.b.length x.cap, .map (some x.m)], arr x.a x.cap 1 5 (eU .u8 (w := 8)) x.e.b, mpP x.m kfW vfI x.e.ls, cl b3 30 (eRq r)]) := by
 refine Ct_body (n := 18) Try.func60 rfl rfl rfl fun F w0 Q hret hnorm hp => ?_
 change WC _ _ _ _ _ _ _ (_ :: _ :: _ :: _ :: F)
 refine WC_sr fun K1 hK1 => ?_
 refine WL_r (Rd_assign rfl) rfl ?_
 refine WL_end hK1 ?_
 refine WC_seq fun K2 hK2 => ?_
 refine WC_drawA mix (fun i => ([2, 2, 2, 2, 2, 2, 2, 2, 2, 2, 2, 2, 2] : List Nat).getD i 0) ?_
 refine WJ_tp 0 rfl (Rd_move rfl) rfl (hp _ _) ?_
 refine WJ_tp 1 rfl (Rd_nilCheck rfl) rfl (hp _ _) ?_
 refine WJ_tp 2 rfl (Rd_fieldAddr rfl fo85_1) rfl (hp _ _) ?_
 refine WJ_tk 3 (Rd_load rfl tk83 (v := .map (some x.m))) hp ?_ rfl (by kernel_rfl) rfl rfl rfl
 refine WJ_tp 4 rfl (Rd_fieldAddr rfl fo30_5) rfl (hp _ _) ?_
 refine WJ_tp 5 rfl (Rd_fieldAddr rfl fo27_0) rfl (hp _ _) ?_
 refine WJ_tk 6 (Rd_load rfl tk25 (v := .int .u32 ((r.who.toNat : Nat) : Int)) (hi := eRq_who r)) hp ?_ rfl (by kernel_rfl) rfl rfl rfl
 refine WJ_tk 7 (Rd_lookP2 keyW rfl rfl ud83 zvW) hp ?_ rfl (by kernel_rfl) rfl rfl rfl
 refine WJ_tp 8 rfl (Rd_move rfl) rfl (hp _ _) ?_
 refine WJ_tp 9 rfl (Rd_ext0 rfl) rfl (hp _ _) ?_
 refine WJ_tp 10 rfl (Rd_ext1 rfl) rfl (hp _ _) ?_
 refine WJ_tp 11 rfl (Rd_assign rfl) rfl (hp _ _) ?_
 refine WJ_tp 12 rfl (Rd_assign rfl) rfl (hp _ _) ?_
 refine WJ_done (by kernel_rfl) ?_
 refine Ps_next hK2 ?_
 refine WC_sr fun K3 hK3 => ?_
 refine WL_r (Rd_move rfl) rfl ?_
 refine WL_r (Rd_assign rfl) rfl ?_
 refine WL_end hK3 ?_
 refine WC_ret ?_
 exact hret.goE () (Rs1 rfl rfl) (by rw [getW_has])

theorem have_ct {b m : Nat} {room tick : Int} {L : List En} {r : Rq} (hs : SrtK (L.map En.e)) (hn : L.length ≤ 100000000) : Ct Try.prog 30 [.pointer (some ⟨b, 0, none⟩), .agg (eRq r).toArray] [cl b 40 [.bool true, .int .i64 room, .int .i64 tick, .int .i64 (((usedE L) : Nat) : Int), .map (some m)], mpP m kfK vfP (L.map En.kp), star (FEn 85 5) L] (fun g : Option Nat × Nat => .agg [.int .u8 1, sl g.1 (underM r.ix (fun _ => true) (L.map En.e)).length g.2, .slice none 0 0].toArray) (fun g => [cl b 40 [.bool true, .int .i64 room, .int .i64 tick, .int .i64 (((usedE L) : Nat) : Int), .map (some m)], mpP m kfK vfP (L.map En.kp), star (FEn 85 5) L, arr g.1 g.2 1 3 eI (underM r.ix (fun _ => true) (L.map En.e))]) := by
 refine Ct_body (n := 10) Try.func30 rfl rfl rfl fun F w0 Q hret hnorm hp => ?_
 change WC _ _ _ _ _ _ _ (_ :: _ :: _ :: F)
 refine WC_sr fun K1 hK1 => ?_
 refine WL_ac (Ac_box (xs := eRq r) rfl rfl) rfl rfl rfl ?_
 rintro _ _ ⟨b3, rfl, rfl⟩
 refine WL_ac (Ac_alloc zr45) rfl rfl rfl ?_
 rintro _ _ ⟨b4, rfl, rfl⟩
 refine WL_end hK1 ?_
 refine WC_sr fun K2 hK2 => ?_
 refine WL_r (Rd_move rfl) rfl ?_
 refine WL_r (Rd_fieldAddr rfl fo30_1) rfl ?_
 refine WL_r (Rd_loadg (vs := r.ix.l.flatMap (eU .u8)) rfl tk24 (hl := by rw [eRq_len]; omega) (hi := eRq_ix r)) rfl ?_
 refine WL_pk0 ?_
 refine WL_ac (Ac_call cf42 rfl (hs := under_ct (b := b) (m := m) (room := room) (tick := tick) (L := L) (ix := r.ix) (g := 48) (cb := []) (X := sep []) (hb := fun _ => true) cf48 (fun x => (hv1_ct (x := x)).frame [sep []]) hs hn)) rfl rfl rfl ?_
 rintro _ _ ⟨⟨a8, cap8⟩, rfl, hA⟩
 simp only [List.cons_append, List.nil_append] at hA
 replace hA := hA.symm
 subst hA
 refine WL_r (Rd_build pls45 rfl) rfl ?_
 refine WL_ac0 (Ac_store (ys := [.int .u8 1, sl a8 (underM r.ix (fun _ => true) (L.map En.e)).length cap8, .slice none 0 0]) rfl rfl sz45 (h1 := by simp [setAt, Value.cells, Value.oneCell', sl]) (hr := rfl)) rfl rfl ?_
 rintro _ _ rfl
 refine WL_end hK2 ?_
 refine WC_ret ?_
 exact hret.go (a8, cap8) (Rs1c rfl rfl tk45)

theorem held_ct {b m : Nat} {room tick : Int} {L : List En} {r : Rq} (hs : SrtK (L.map En.e)) (hn : L.length ≤ 100000000) : Ct Try.prog 51 [.pointer (some ⟨b, 0, none⟩), .agg (eRq r).toArray] [cl b 40 [.bool true, .int .i64 room, .int .i64 tick, .int .i64 (((usedE L) : Nat) : Int), .map (some m)], mpP m kfK vfP (L.map En.kp), star (FEn 85 5) L] (fun g : Option Nat × Nat => sl g.1 (underM r.ix (fun e => hasW r.who e.ls) (L.map En.e)).length g.2) (fun g => [cl b 40 [.bool true, .int .i64 room, .int .i64 tick, .int .i64 (((usedE L) : Nat) : Int), .map (some m)], mpP m kfK vfP (L.map En.kp), star (FEn 85 5) L, arr g.1 g.2 1 3 eI (underM r.ix (fun e => hasW r.who e.ls) (L.map En.e))]) := by
 refine Ct_body (n := 10) Try.func51 rfl rfl rfl fun F w0 Q hret hnorm hp => ?_
 change WC _ _ _ _ _ _ _ (_ :: _ :: _ :: F)
 refine WC_sr fun K1 hK1 => ?_
 refine WL_ac (Ac_box (xs := eRq r) rfl rfl) rfl rfl rfl ?_
 rintro _ _ ⟨b3, rfl, rfl⟩
 refine WL_r (Rd_assign (v := sl none 0 0) rfl) rfl ?_
 refine WL_end hK1 ?_
 refine WC_sr fun K2 hK2 => ?_
 refine WL_r (Rd_move rfl) rfl ?_
 refine WL_r (Rd_fieldAddr rfl fo30_1) rfl ?_
 refine WL_r (Rd_loadg (vs := r.ix.l.flatMap (eU .u8)) rfl tk24 (hl := by rw [eRq_len]; omega) (hi := eRq_ix r)) rfl ?_
 refine WL_r (Rd_makeFunc rfl rfl) rfl ?_
 refine WL_ac (Ac_call cf42 rfl (hs := under_ct (b := b) (m := m) (room := room) (tick := tick) (L := L) (ix := r.ix) (g := 60) (cb := [.pointer (some ⟨b3, 0, none⟩)]) (X := cl b3 30 (eRq r)) (hb := fun e => hasW r.who e.ls) cf60 (fun x => held1_ct (x := x) (r := r) (b3 := b3)) hs hn)) rfl rfl rfl ?_
 rintro _ _ ⟨⟨a8, cap8⟩, rfl, hA⟩
 simp only [List.cons_append, List.nil_append] at hA
 replace hA := hA.symm
 subst hA
 refine WL_r (Rd_assign rfl) rfl ?_
 refine WL_end hK2 ?_
 refine WC_ret ?_
 exact hret.go (a8, cap8) (Rs1 rfl rfl)

theorem lay_ct {p mm : Nat} {v : Value} {w : B32} {u : Int} {ls : List Ls} (hs : SrtW ls) (hu : 0 ≤ u) : Ct Try.prog 50 [.pointer (some ⟨p, 0, none⟩), .agg [.int .u32 (w.toNat : Int), .int .i64 u].toArray] [cl p 85 [v, .map (some mm)], mpP mm kfW vfI ls] (fun _ : Unit => .tuple #[]) (fun _ => [cl p 85 [v, .map (some mm)], mpP mm kfW vfI (layL w u ls)]) := by
 refine Ct_body (n := 20) Try.func50 rfl rfl rfl fun F w0 Q hret hnorm hp => ?_
 change WC _ _ _ _ _ _ _ (_ :: _ :: F)
 refine WC_sr fun K1 hK1 => ?_
 refine WL_ac (Ac_box (xs := [.int .u32 (w.toNat : Int), .int .i64 u]) rfl rfl) rfl rfl rfl ?_
 rintro _ _ ⟨b3, rfl, rfl⟩
 refine WL_end hK1 ?_
 refine WC_drawA mix (fun i => ([2, 2, 2, 2, 2, 2, 2, 2, 2, 2, 2, 2, 2, 2, 2, 2, 0] : List Nat).getD i 0) ?_
 refine WJ_tp 0 rfl (Rd_move rfl) rfl (hp _ _) ?_
 refine WJ_tp 1 rfl (Rd_nilCheck rfl) rfl (hp _ _) ?_
 refine WJ_tp 2 rfl (Rd_fieldAddr rfl fo85_1) rfl (hp _ _) ?_
 refine WJ_tk 3 (Rd_load rfl tk83 (v := .map (some mm))) hp ?_ rfl (by kernel_rfl) rfl rfl rfl
 refine WJ_tp 4 rfl (Rd_fieldAddr rfl fo27_0) rfl (hp _ _) ?_
 refine WJ_tk 5 (Rd_load rfl tk25 (v := .int .u32 ((w.toNat : Nat) : Int))) hp ?_ rfl (by kernel_rfl) rfl rfl rfl
 refine WJ_tp 6 rfl (Rd_move rfl) rfl (hp _ _) ?_
 refine WJ_tp 7 rfl (Rd_nilCheck rfl) rfl (hp _ _) ?_
 refine WJ_tp 8 rfl (Rd_fieldAddr rfl fo85_1) rfl (hp _ _) ?_
 refine WJ_tk 9 (Rd_load rfl tk83 (v := .map (some mm))) hp ?_ rfl (by kernel_rfl) rfl rfl rfl
 refine WJ_tp 10 rfl (Rd_fieldAddr rfl fo27_0) rfl (hp _ _) ?_
 refine WJ_tk 11 (Rd_load rfl tk25 (v := .int .u32 ((w.toNat : Nat) : Int))) hp ?_ rfl (by kernel_rfl) rfl rfl rfl
 refine WJ_tk 12 (Rd_valE (v := .int .i64 ((getL w ls).getD 0)) (Rd_lookP1 keyW rfl rfl ud83 zvW) look_int) hp ?_ rfl (by kernel_rfl) rfl rfl rfl
 refine WJ_tp 13 rfl (Rd_fieldAddr rfl fo27_1) rfl (hp _ _) ?_
 refine WJ_tk 14 (Rd_load rfl tk3 (v := .int .i64 u)) hp ?_ rfl (by kernel_rfl) rfl rfl rfl
 refine WJ_tk 15 (Rd_max rfl rfl) hp ?_ rfl (by kernel_rfl) rfl rfl rfl
 refine WJ_all (rs := [16]) (by kernel_rfl) rfl ?_
 refine WI_one ?_
 refine WI_ac0 rfl (Ac_putP (vf := vfI) (max ((getL w ls).getD 0) u) keyW rfl rfl rfl ud83) rfl rfl rfl ?_
 rintro _ _ rfl
 refine ⟨(fun h => by cases h), ?_⟩
 refine WJ_done (by kernel_rfl) ?_
 refine Ps_rep (mpP mm kfW vfI (putL w (max ((getL w ls).getD 0) u) ls)) (mpP mm kfW vfI (layL w u ls)) (mpP_rep (layL_perm hu hs)) ?_
 exact hnorm.go () (Rs0 rfl)
end Go.Proofs.Ytoakfknnaiapiaa
namespace Go.Proofs.Ytoakfknnaiapiaa
open Go.RowKit Go.SL Go.ShM Go.SvM
set_option maxHeartbeats 1000000
set_option maxRecDepth 20000
set_option linter.all false

theorem key_fill (ix : Ix) (n : Int) : fillL [(0, 16), (16, 1)] [(0, aU .u8 ix.l), (1, .int .i64 n)] [.int .u8 0, .int .u8 0, .int .u8 0, .int .u8 0, .int .u8 0, .int .u8 0, .int .u8 0, .int .u8 0, .int .u8 0, .int .u8 0, .int .u8 0, .int .u8 0, .int .u8 0, .int .u8 0, .int .u8 0, .int .u8 0, .int .i64 0] = some (kcK (ix, n)) := by
  obtain ⟨l, h⟩ := ix
  obtain ⟨a0, a1, a2, a3, a4, a5, a6, a7, a8, a9, a10, a11, a12, a13, a14, a15, rfl⟩ := ix16 l h
  rfl
end Go.Proofs.Ytoakfknnaiapiaa
namespace Go.Proofs.Ytoakfknnaiapiaa
open Go.RowKit Go.SL Go.ShM Go.SvM
set_option maxHeartbeats 1000000
set_option maxRecDepth 20000
set_option linter.all false
theorem cf35 : cfn Try.prog 35 = true := by kernel_rfl
theorem el5 : el Try.prog 5 = some (1, 1) := by kernel_rfl
theorem pls81 : pls Try.prog 81 = some ([.int .u8 0, .int .u8 0, .int .u8 0, .int .u8 0, .int .u8 0, .int .u8 0, .int .u8 0, .int .u8 0, .int .u8 0, .int .u8 0, .int .u8 0, .int .u8 0, .int .u8 0, .int .u8 0, .int .u8 0, .int .u8 0, .int .i64 0], [(0, 16), (16, 1)]) := by kernel_rfl
theorem sz5 : sz Try.prog 5 = some 1 := by kernel_rfl
theorem zr5 : zr Try.prog 5 = some [.int .u8 0] := by kernel_rfl
theorem fetch_no {b m : Nat} {room tick : Int} {L : List En} {r : Rq} (hf : findE (r.ix, r.num) L = none) : Ct Try.prog 32 [.pointer (some ⟨b, 0, none⟩), .agg (eRq r).toArray] [cl b 40 [.bool true, .int .i64 room, .int .i64 tick, .int .i64 (((usedE L) : Nat) : Int), .map (some m)], mpP m kfK vfP (L.map En.kp), star (FEn 85 5) L] (fun _ : Unit => .agg [.int .u8 6, .slice none 0 0, .slice none 0 0].toArray) (fun _ => [cl b 40 [.bool true, .int .i64 room, .int .i64 tick, .int .i64 (((usedE L) : Nat) : Int), .map (some m)], mpP m kfK vfP (L.map En.kp), star (FEn 85 5) L]) := by
 refine Ct_body (n := 50) Try.func32 rfl rfl rfl fun F w0 Q hret hnorm hp => ?_
 change WC _ _ _ _ _ _ _ (_ :: _ :: _ :: F)
 refine WC_sr fun K1 hK1 => ?_
 refine WL_ac (Ac_box (xs := eRq r) rfl rfl) rfl rfl rfl ?_
 rintro _ _ ⟨b3, rfl, rfl⟩
 refine WL_ac (Ac_alloc zr45) rfl rfl rfl ?_
 rintro _ _ ⟨b4, rfl, rfl⟩
 refine WL_end hK1 ?_
 refine WC_seq fun K2 hK2 => ?_
 refine WC_drawA mix (fun i => ([2, 2, 2, 2, 2, 2, 2, 2, 2, 2, 2, 2, 2, 2, 2] : List Nat).getD i 0) ?_
 refine WJ_tp 0 rfl (Rd_move rfl) rfl (hp _ _) ?_
 refine WJ_tp 1 rfl (Rd_nilCheck rfl) rfl (hp _ _) ?_
 refine WJ_tp 2 rfl (Rd_fieldAddr rfl fo40_4) rfl (hp _ _) ?_
 refine WJ_tk 3 (Rd_load rfl tk38 (v := .map (some m))) hp ?_ rfl (by kernel_rfl) rfl rfl rfl
 refine WJ_tp 4 rfl (Rd_fieldAddr rfl fo30_1) rfl (hp _ _) ?_
 refine WJ_tk 5 (Rd_loadg (vs := r.ix.l.flatMap (eU .u8)) rfl tk24 (hl := by rw [eRq_len]; omega) (hi := eRq_ix r)) hp ?_ rfl (by kernel_rfl) rfl rfl rfl
 refine WJ_tp 6 rfl (Rd_fieldAddr rfl fo30_2) rfl (hp _ _) ?_
 refine WJ_tk 7 (Rd_load rfl tk3 (v := .int .i64 r.num) (hi := eRq_num r)) hp ?_ rfl (by kernel_rfl) rfl rfl rfl
 refine WJ_tp 8 rfl (Rd_valE (v := kfK (r.ix, r.num)) (Rd_build pls81 rfl (hf := key_fill _ _)) rfl) rfl (hp _ _) ?_
 refine WJ_tk 9 (Rd_valE (v := .tuple #[.pointer none, .bool false]) (Rd_lookP2 keyK rfl rfl ud38 zvP) (by rw [lookE, hf]; rfl)) hp ?_ rfl (by kernel_rfl) rfl rfl rfl
 refine WJ_tp 10 rfl (Rd_move rfl) rfl (hp _ _) ?_
 refine WJ_tp 11 rfl (Rd_ext0 rfl) rfl (hp _ _) ?_
 refine WJ_tp 12 rfl (Rd_ext1 rfl) rfl (hp _ _) ?_
 refine WJ_tp 13 rfl (Rd_assign rfl) rfl (hp _ _) ?_
 refine WJ_tp 14 rfl (Rd_assign rfl) rfl (hp _ _) ?_
 refine WJ_done (by kernel_rfl) ?_
 refine Ps_next hK2 ?_
 refine WC_seq fun K3 hK3 => ?_
 refine WC_seq fun K4 hK4 => ?_
 refine WC_drawA mix (fun i => ([2, 2, 2, 2, 2, 2, 2, 2, 2, 2, 2, 2, 2, 2, 2] : List Nat).getD i 0) ?_
 refine WJ_tp 0 rfl (Rd_move rfl) rfl (hp _ _) ?_
 refine WJ_tp 1 rfl (Rd_not rfl) rfl (hp _ _) ?_
 refine WJ_tp 2 rfl (Rd_move rfl) rfl (hp _ _) ?_
 refine WJ_skip 3 rfl (by kernel_rfl) rfl rfl rfl (hp _ _) ?_
 refine WJ_skip 4 rfl (by kernel_rfl) rfl rfl rfl (hp _ _) ?_
 refine WJ_skip 5 rfl (by kernel_rfl) rfl rfl rfl (hp _ _) ?_
 refine WJ_skip 6 rfl (by kernel_rfl) rfl rfl rfl (hp _ _) ?_
 refine WJ_skip 7 rfl (by kernel_rfl) rfl rfl rfl (hp _ _) ?_
 refine WJ_skip 8 rfl (by kernel_rfl) rfl rfl rfl (hp _ _) ?_
 refine WJ_skip 9 rfl (by kernel_rfl) rfl rfl rfl (hp _ _) ?_
 refine WJ_skip 10 rfl (by kernel_rfl) rfl rfl rfl (hp _ _) ?_
 refine WJ_skip 11 rfl (by kernel_rfl) rfl rfl rfl (hp _ _) ?_
 refine WJ_skip 12 rfl (by kernel_rfl) rfl rfl rfl (hp _ _) ?_
 refine WJ_skip 13 rfl (by kernel_rfl) rfl rfl rfl (hp _ _) ?_
 refine WJ_tp 14 rfl (Rd_pickT rfl rfl) rfl (hp _ _) ?_
 refine WJ_done (by kernel_rfl) ?_
 refine Ps_next hK4 ?_
 refine WC_condT rfl ?_
 refine WC_sr fun K5 hK5 => ?_
 refine WL_r (Rd_build pls45 rfl) rfl ?_
 refine WL_ac0 (Ac_store (ys := [.int .u8 6, .slice none 0 0, .slice none 0 0]) rfl rfl sz45 (h1 := by simp [setAt, Value.cells, Value.oneCell', sl]) (hr := rfl)) rfl rfl ?_
 rintro _ _ rfl
 refine WL_end hK5 ?_
 refine WC_ret ?_
 exact hret.go () (Rs1c rfl rfl tk45)

theorem fetch_out {b m : Nat} {room tick : Int} {A B : List En} {x : En} {r : Rq} (hf : findE (r.ix, r.num) (A ++ x :: B) = some x) (h1 : 0 ≤ r.at_ ∧ r.at_ ≤ 33554432) (h2 : 1 ≤ r.len ∧ r.len ≤ 131072) (h3 : (x.e.b.length : Int) < r.at_ + r.len) : Ct Try.prog 32 [.pointer (some ⟨b, 0, none⟩), .agg (eRq r).toArray] [cl b 40 [.bool true, .int .i64 room, .int .i64 tick, .int .i64 (((usedE (A ++ x :: B)) : Nat) : Int), .map (some m)], mpP m kfK vfP ((A ++ x :: B).map En.kp), star (FEn 85 5) (A ++ x :: B)] (fun _ : Unit => .agg [.int .u8 6, .slice none 0 0, .slice none 0 0].toArray) (fun _ => [cl b 40 [.bool true, .int .i64 room, .int .i64 tick, .int .i64 (((usedE (A ++ x :: B)) : Nat) : Int), .map (some m)], mpP m kfK vfP ((A ++ x :: B).map En.kp), star (FEn 85 5) (A ++ x :: B)]) := by
 refine Ct_body (n := 50) Try.func32 rfl rfl rfl fun F w0 Q hret hnorm hp => ?_
 change WC _ _ _ _ _ _ _ (_ :: _ :: _ :: F)
 obtain ⟨h10, h11⟩ := h1
 obtain ⟨h20, h21⟩ := h2
 refine WC_enopen 85 5 A x B ?_
 refine WC_sr fun K1 hK1 => ?_
 refine WL_ac (Ac_box (xs := eRq r) rfl rfl) rfl rfl rfl ?_
 rintro _ _ ⟨b3, rfl, rfl⟩
 refine WL_ac (Ac_alloc zr45) rfl rfl rfl ?_
 rintro _ _ ⟨b4, rfl, rfl⟩
 refine WL_end hK1 ?_
 refine WC_seq fun K2 hK2 => ?_
 refine WC_drawA mix (fun i => ([2, 2, 2, 2, 2, 2, 2, 2, 2, 2, 2, 2, 2, 2, 2] : List Nat).getD i 0) ?_
 refine WJ_tp 0 rfl (Rd_move rfl) rfl (hp _ _) ?_
 refine WJ_tp 1 rfl (Rd_nilCheck rfl) rfl (hp _ _) ?_
 refine WJ_tp 2 rfl (Rd_fieldAddr rfl fo40_4) rfl (hp _ _) ?_
 refine WJ_tk 3 (Rd_load rfl tk38 (v := .map (some m))) hp ?_ rfl (by kernel_rfl) rfl rfl rfl
 refine WJ_tp 4 rfl (Rd_fieldAddr rfl fo30_1) rfl (hp _ _) ?_
 refine WJ_tk 5 (Rd_loadg (vs := r.ix.l.flatMap (eU .u8)) rfl tk24 (hl := by rw [eRq_len]; omega) (hi := eRq_ix r)) hp ?_ rfl (by kernel_rfl) rfl rfl rfl
 refine WJ_tp 6 rfl (Rd_fieldAddr rfl fo30_2) rfl (hp _ _) ?_
 refine WJ_tk 7 (Rd_load rfl tk3 (v := .int .i64 r.num) (hi := eRq_num r)) hp ?_ rfl (by kernel_rfl) rfl rfl rfl
 refine WJ_tp 8 rfl (Rd_valE (v := kfK (r.ix, r.num)) (Rd_build pls81 rfl (hf := key_fill _ _)) rfl) rfl (hp _ _) ?_
 refine WJ_tk 9 (Rd_valE (v := .tuple #[.pointer (some ⟨x.p, 0, none⟩), .bool true]) (Rd_lookP2 keyK rfl rfl ud38 zvP) (by rw [lookE, hf]; rfl)) hp ?_ rfl (by kernel_rfl) rfl rfl rfl
 refine WJ_tp 10 rfl (Rd_move rfl) rfl (hp _ _) ?_
 refine WJ_tp 11 rfl (Rd_ext0 rfl) rfl (hp _ _) ?_
 refine WJ_tp 12 rfl (Rd_ext1 rfl) rfl (hp _ _) ?_
 refine WJ_tp 13 rfl (Rd_assign rfl) rfl (hp _ _) ?_
 refine WJ_tp 14 rfl (Rd_assign rfl) rfl (hp _ _) ?_
 refine WJ_done (by kernel_rfl) ?_
 refine Ps_next hK2 ?_
 refine WC_seq fun K3 hK3 => ?_
 refine WC_seq fun K4 hK4 => ?_
 refine WC_drawA mix (fun i => ([2, 2, 2, 2, 2, 2, 2, 2, 2, 2, 2, 2, 2, 2, 2] : List Nat).getD i 0) ?_
 refine WJ_tp 0 rfl (Rd_move rfl) rfl (hp _ _) ?_
 refine WJ_tp 1 rfl (Rd_not rfl) rfl (hp _ _) ?_
 refine WJ_tp 2 rfl (Rd_move rfl) rfl (hp _ _) ?_
 refine WJ_tp 3 rfl (Rd_fieldAddr rfl fo30_3) rfl (hp _ _) ?_
 refine WJ_tk 4 (Rd_load rfl tk3 (v := .int .i64 r.at_) (hi := eRq_at_ r)) hp ?_ rfl (by kernel_rfl) rfl rfl rfl
 refine WJ_tp 5 rfl (Rd_fieldAddr rfl fo30_4) rfl (hp _ _) ?_
 refine WJ_tk 6 (Rd_load rfl tk3 (v := .int .i64 r.len) (hi := eRq_ln r)) hp ?_ rfl (by kernel_rfl) rfl rfl rfl
 refine WJ_tp 7 rfl (Rd_add' rfl rfl (wr64 rfl (by omega) (by omega))) rfl (hp _ _) ?_
 refine WJ_tp 8 rfl (Rd_move rfl) rfl (hp _ _) ?_
 refine WJ_tp 9 rfl (Rd_nilCheck rfl) rfl (hp _ _) ?_
 refine WJ_tp 10 rfl (Rd_fieldAddr rfl fo85_0) rfl (hp _ _) ?_
 refine WJ_tk 11 (Rd_load rfl tk28 (v := sl x.a x.e.b.length x.cap)) hp ?_ rfl (by kernel_rfl) rfl rfl rfl
 refine WJ_tp 12 rfl (Rd_len rfl rfl ud28) rfl (hp _ _) ?_
 refine WJ_tp 13 rfl (Rd_gtr rfl rfl) rfl (hp _ _) ?_
 refine WJ_tp 14 rfl (Rd_pickF rfl rfl) rfl (hp _ _) ?_
 refine WJ_done (by kernel_rfl) ?_
 refine Ps_next hK4 ?_
 refine WC_cond rfl (fun hc0 => ?_) (fun hc0 => ?_)
 ·try simp only [dz, ne_eq] at hc0
  refine WC_sr fun K5 hK5 => ?_
  refine WL_r (Rd_build pls45 rfl) rfl ?_
  refine WL_ac0 (Ac_store (ys := [.int .u8 6, .slice none 0 0, .slice none 0 0]) rfl rfl sz45 (h1 := by simp [setAt, Value.cells, Value.oneCell', sl]) (hr := rfl)) rfl rfl ?_
  rintro _ _ rfl
  refine WL_end hK5 ?_
  refine WC_ret ?_
  refine Ps_enclose 85 5 A x B ?_
  exact hret.go () (Rs1c rfl rfl tk45)
 ·try simp only [dz, ne_eq] at hc0
  omega

theorem clone_ct {X : Asn} {v : Value} {l : List B8} {ao : Option Addr} {cap : Nat} (hS : Sv [X] v 1 (eU .u8 (w := 8)) l ao cap := by assumption) (hl : l.length ≤ 900000000000 := by omega) : Ct Try.prog 35 [v] [X] (fun g : Option Nat × Nat => sl g.1 l.length g.2) (fun g => [X, arr g.1 g.2 1 5 (eU .u8 (w := 8)) l]) := by
 refine Ct_body (n := 8) Try.func35 rfl rfl rfl fun F w0 Q hret hnorm hp => ?_
 change WC _ _ _ _ _ _ _ (_ :: F)
 have hv0 := hS.val
 subst hv0
 refine WC_sr fun K1 hK1 => ?_
 refine WL_r (Rd_assign (v := sl none 0 0) rfl) rfl ?_
 refine WL_end hK1 ?_
 refine WC_seq fun K2 hK2 => ?_
 refine WC_sr fun K3 hK3 => ?_
 refine WL_r (Rd_move rfl) rfl ?_
 refine WL_r (Rd_seq rfl rfl ud28) rfl ?_
 refine WL_end hK3 ?_
 refine WC_cond rfl (fun hc0 => ?_) (fun hc0 => ?_)
 ·try simp only [dz, ne_eq] at hc0
  have hnil := sv_nilB hS hc0
  subst hnil
  refine WC_imp (fun w h => sat_nil (e := 1) (T := 5) (f := (eU .u8 (w := 8))) h) ?_
  refine WC_sr fun K4 hK4 => ?_
  refine WL_r (Rd_assign (v := sl none 0 0) rfl) rfl ?_
  refine WL_end hK4 ?_
  refine WC_ret ?_
  first | exact hret.go (none, 0) (Rs1 rfl rfl) | exact hret.go (a7, cap7) (Rs1 rfl rfl)
 ·try simp only [dz, ne_eq] at hc0
  refine WC_skip ?_
  refine Ps_next hK2 ?_
  refine WC_sr fun K5 hK5 => ?_
  refine WL_ac (Ac_bsL (f := (eU .u8 (w := 8))) (zs := [.int .u8 0]) (bs := []) [] (encU .u8) ud28 zr5 sz5 rfl (by rw [Array.toList_map, Array.toList_range]; rfl) (by rfl) (by rfl) (by rfl) (by rfl)) rfl rfl rfl ?_
  rintro _ _ ⟨b5, rfl, rfl⟩
  refine WL_r (Rd_move rfl) rfl ?_
  refine WL_ac (Ac_appendS (f := (eU .u8 (w := 8))) (encU .u8) rfl rfl ud28 ud28 el5 (hS := hS) (hb := by simp only [List.length_nil]; omega)) rfl rfl rfl ?_
  rintro _ _ ⟨a7, cap7, rfl, rfl⟩
  rw [show ([] : List B8).length + l.length = l.length from Nat.zero_add _, List.nil_append]
  refine WL_r (Rd_assign rfl) rfl ?_
  refine WL_end hK5 ?_
  refine WC_ret ?_
  first | exact hret.go (none, 0) (Rs1 rfl rfl) | exact hret.go (a7, cap7) (Rs1 rfl rfl)

theorem fetch_in {b m at' ln' : Nat} {room tick : Int} {A B : List En} {x : En} {r : Rq} (hf : findE (r.ix, r.num) (A ++ x :: B) = some x) (hat : r.at_ = ((at' : Nat) : Int)) (hln : r.len = ((ln' : Nat) : Int)) (h1 : at' ≤ 33554432) (h2 : ln' ≤ 131072) (h3 : at' + ln' ≤ x.e.b.length) : Ct Try.prog 32 [.pointer (some ⟨b, 0, none⟩), .agg (eRq r).toArray] [cl b 40 [.bool true, .int .i64 room, .int .i64 tick, .int .i64 (((usedE (A ++ x :: B)) : Nat) : Int), .map (some m)], mpP m kfK vfP ((A ++ x :: B).map En.kp), star (FEn 85 5) (A ++ x :: B)] (fun g : Option Nat × Nat => .agg [.int .u8 5, .slice none 0 0, sl g.1 ((x.e.b.take (at' + ln')).drop at').length g.2].toArray) (fun g => [cl b 40 [.bool true, .int .i64 room, .int .i64 tick, .int .i64 (((usedE (A ++ x :: B)) : Nat) : Int), .map (some m)], mpP m kfK vfP ((A ++ x :: B).map En.kp), star (FEn 85 5) (A ++ x :: B), arr g.1 g.2 1 5 (eU .u8 (w := 8)) ((x.e.b.take (at' + ln')).drop at')]) := by
 refine Ct_body (n := 50) Try.func32 rfl rfl rfl fun F w0 Q hret hnorm hp => ?_
 change WC _ _ _ _ _ _ _ (_ :: _ :: _ :: F)
 refine WC_enopen 85 5 A x B ?_
 refine WC_fact (fun w h => arr_facts (a := x.a) (cap := x.cap) (e := 1) (T := 5) (f := (eU .u8 (w := 8))) (l := x.e.b) hasA h) (fun hxf => ?_)
 have hxS : Sv [arr x.a x.cap 1 5 (eU .u8 (w := 8)) x.e.b] (sl x.a x.e.b.length x.cap) 1 (eU .u8 (w := 8)) x.e.b (x.a.map fun g => ⟨g, 0, none⟩) x.cap := Sv_own' (T := 5) (encU .u8 (w := 8)) hxf.1 hxf.2
 have hxP := hxS.sub (lo := at') (hi := at' + ln') (Nat.le_add_right _ _) h3
 have hpl : ((x.e.b.take (at' + ln')).drop at').length = at' + ln' - at' := by rw [List.length_drop, List.length_take]; omega
 refine WC_sr fun K1 hK1 => ?_
 refine WL_ac (Ac_box (xs := eRq r) rfl rfl) rfl rfl rfl ?_
 rintro _ _ ⟨b3, rfl, rfl⟩
 refine WL_ac (Ac_alloc zr45) rfl rfl rfl ?_
 rintro _ _ ⟨b4, rfl, rfl⟩
 refine WL_end hK1 ?_
 refine WC_seq fun K2 hK2 => ?_
 refine WC_drawA mix (fun i => ([2, 2, 2, 2, 2, 2, 2, 2, 2, 2, 2, 2, 2, 2, 2] : List Nat).getD i 0) ?_
 refine WJ_tp 0 rfl (Rd_move rfl) rfl (hp _ _) ?_
 refine WJ_tp 1 rfl (Rd_nilCheck rfl) rfl (hp _ _) ?_
 refine WJ_tp 2 rfl (Rd_fieldAddr rfl fo40_4) rfl (hp _ _) ?_
 refine WJ_tk 3 (Rd_load rfl tk38 (v := .map (some m))) hp ?_ rfl (by kernel_rfl) rfl rfl rfl
 refine WJ_tp 4 rfl (Rd_fieldAddr rfl fo30_1) rfl (hp _ _) ?_
 refine WJ_tk 5 (Rd_loadg (vs := r.ix.l.flatMap (eU .u8)) rfl tk24 (hl := by rw [eRq_len]; omega) (hi := eRq_ix r)) hp ?_ rfl (by kernel_rfl) rfl rfl rfl
 refine WJ_tp 6 rfl (Rd_fieldAddr rfl fo30_2) rfl (hp _ _) ?_
 refine WJ_tk 7 (Rd_load rfl tk3 (v := .int .i64 r.num) (hi := eRq_num r)) hp ?_ rfl (by kernel_rfl) rfl rfl rfl
 refine WJ_tp 8 rfl (Rd_valE (v := kfK (r.ix, r.num)) (Rd_build pls81 rfl (hf := key_fill _ _)) rfl) rfl (hp _ _) ?_
 refine WJ_tk 9 (Rd_valE (v := .tuple #[.pointer (some ⟨x.p, 0, none⟩), .bool true]) (Rd_lookP2 keyK rfl rfl ud38 zvP) (by rw [lookE, hf]; rfl)) hp ?_ rfl (by kernel_rfl) rfl rfl rfl
 refine WJ_tp 10 rfl (Rd_move rfl) rfl (hp _ _) ?_
 refine WJ_tp 11 rfl (Rd_ext0 rfl) rfl (hp _ _) ?_
 refine WJ_tp 12 rfl (Rd_ext1 rfl) rfl (hp _ _) ?_
 refine WJ_tp 13 rfl (Rd_assign rfl) rfl (hp _ _) ?_
 refine WJ_tp 14 rfl (Rd_assign rfl) rfl (hp _ _) ?_
 refine WJ_done (by kernel_rfl) ?_
 refine Ps_next hK2 ?_
 refine WC_seq fun K3 hK3 => ?_
 refine WC_seq fun K4 hK4 => ?_
 refine WC_drawA mix (fun i => ([2, 2, 2, 2, 2, 2, 2, 2, 2, 2, 2, 2, 2, 2, 2] : List Nat).getD i 0) ?_
 refine WJ_tp 0 rfl (Rd_move rfl) rfl (hp _ _) ?_
 refine WJ_tp 1 rfl (Rd_not rfl) rfl (hp _ _) ?_
 refine WJ_tp 2 rfl (Rd_move rfl) rfl (hp _ _) ?_
 refine WJ_tp 3 rfl (Rd_fieldAddr rfl fo30_3) rfl (hp _ _) ?_
 refine WJ_tk 4 (Rd_valE (v := .int .i64 ((at' : Nat) : Int)) (Rd_load rfl tk3 (v := .int .i64 r.at_) (hi := eRq_at_ r)) (by rw [hat])) hp ?_ rfl (by kernel_rfl) rfl rfl rfl
 refine WJ_tp 5 rfl (Rd_fieldAddr rfl fo30_4) rfl (hp _ _) ?_
 refine WJ_tk 6 (Rd_valE (v := .int .i64 ((ln' : Nat) : Int)) (Rd_load rfl tk3 (v := .int .i64 r.len) (hi := eRq_ln r)) (by rw [hln])) hp ?_ rfl (by kernel_rfl) rfl rfl rfl
 refine WJ_tp 7 rfl (Rd_addN rfl rfl) rfl (hp _ _) ?_
 refine WJ_tp 8 rfl (Rd_move rfl) rfl (hp _ _) ?_
 refine WJ_tp 9 rfl (Rd_nilCheck rfl) rfl (hp _ _) ?_
 refine WJ_tp 10 rfl (Rd_fieldAddr rfl fo85_0) rfl (hp _ _) ?_
 refine WJ_tk 11 (Rd_load rfl tk28 (v := sl x.a x.e.b.length x.cap)) hp ?_ rfl (by kernel_rfl) rfl rfl rfl
 refine WJ_tp 12 rfl (Rd_len rfl rfl ud28) rfl (hp _ _) ?_
 refine WJ_tp 13 rfl (Rd_gtrN rfl rfl) rfl (hp _ _) ?_
 refine WJ_tp 14 rfl (Rd_pickF rfl rfl) rfl (hp _ _) ?_
 refine WJ_done (by kernel_rfl) ?_
 refine Ps_next hK4 ?_
 refine WC_cond rfl (fun hc0 => ?_) (fun hc0 => ?_)
 ·try simp only [dz, ne_eq] at hc0
  omega
 ·try simp only [dz, ne_eq] at hc0
  refine WC_skip ?_
  refine Ps_next hK3 ?_
  refine WC_seq fun K5 hK5 => ?_
  refine WC_drawA mix (fun i => ([2, 2, 2, 2, 2, 2, 2, 2, 2, 2, 2, 2, 1, 2, 0] : List Nat).getD i 0) ?_
  refine WJ_tp 0 rfl (Rd_move rfl) rfl (hp _ _) ?_
  refine WJ_tp 1 rfl (Rd_nilCheck rfl) rfl (hp _ _) ?_
  refine WJ_tp 2 rfl (Rd_fieldAddr rfl fo85_0) rfl (hp _ _) ?_
  refine WJ_tk 3 (Rd_load rfl tk28 (v := sl x.a x.e.b.length x.cap)) hp ?_ rfl (by kernel_rfl) rfl rfl rfl
  refine WJ_tp 4 rfl (Rd_fieldAddr rfl fo30_3) rfl (hp _ _) ?_
  refine WJ_tk 5 (Rd_valE (v := .int .i64 ((at' : Nat) : Int)) (Rd_load rfl tk3 (v := .int .i64 r.at_) (hi := eRq_at_ r)) (by rw [hat])) hp ?_ rfl (by kernel_rfl) rfl rfl rfl
  refine WJ_tp 6 rfl (Rd_fieldAddr rfl fo30_3) rfl (hp _ _) ?_
  refine WJ_tk 7 (Rd_valE (v := .int .i64 ((at' : Nat) : Int)) (Rd_load rfl tk3 (v := .int .i64 r.at_) (hi := eRq_at_ r)) (by rw [hat])) hp ?_ rfl (by kernel_rfl) rfl rfl rfl
  refine WJ_tp 8 rfl (Rd_fieldAddr rfl fo30_4) rfl (hp _ _) ?_
  refine WJ_tk 9 (Rd_valE (v := .int .i64 ((ln' : Nat) : Int)) (Rd_load rfl tk3 (v := .int .i64 r.len) (hi := eRq_ln r)) (by rw [hln])) hp ?_ rfl (by kernel_rfl) rfl rfl rfl
  refine WJ_tp 10 rfl (Rd_addN rfl rfl) rfl (hp _ _) ?_
  refine WJ_tp 11 rfl (Rd_slice_sv at' (at' + ln') rfl ⟨_, rfl⟩ ⟨_, rfl⟩ ud28 sz5 (hA := hxS)) rfl (hp _ _) ?_
  refine WJ_all (rs := [12]) (by kernel_rfl) rfl ?_
  refine WI_one ?_
  refine WI_ac rfl (Ac_call cf35 rfl (hs := clone_ct (X := arr x.a x.cap 1 5 (eU .u8 (w := 8)) x.e.b) (l := ((x.e.b.take (at' + ln')).drop at')) (hS := hxP))) rfl rfl rfl rfl ?_
  rintro _ _ ⟨⟨a48, cap48⟩, rfl, hA⟩
  simp only [List.cons_append, List.nil_append] at hA
  replace hA := hA.symm
  subst hA
  refine ⟨(fun _ => subA), ?_⟩
  refine WJ_tp 13 rfl (Rd_build pls45 rfl) rfl (hp _ _) ?_
  refine WJ_all (rs := [14]) (by kernel_rfl) rfl ?_
  refine WI_one ?_
  refine WI_ac0 rfl (Ac_store (ys := [.int .u8 5, .slice none 0 0, sl a48 ((x.e.b.take (at' + ln')).drop at').length cap48]) rfl rfl sz45 (h1 := by simp [setAt, Value.cells, Value.oneCell', sl]) (hr := rfl)) rfl rfl rfl ?_
  rintro _ _ rfl
  refine ⟨(fun h => by cases h), ?_⟩
  refine WJ_done (by kernel_rfl) ?_
  refine Ps_next hK5 ?_
  refine WC_ret ?_
  refine Ps_enclose 85 5 A x B ?_
  exact hret.go (a48, cap48) (Rs1c rfl rfl tk45)
end Go.Proofs.Ytoakfknnaiapiaa
namespace Go.Proofs.Ytoakfknnaiapiaa
open Go.RowKit Go.SL Go.ShM Go.SvM
set_option maxHeartbeats 1000000
set_option maxRecDepth 20000
set_option linter.all false
theorem fo40_1 : fo Try.prog 40 1 = some (1, 3) := by kernel_rfl
theorem pls85 : pls Try.prog 85 = some ([.slice none 0 0, .map none], [(0, 1), (1, 1)]) := by kernel_rfl
theorem store_full {b m : Nat} {room tick : Int} {L : List En} {r : Rq} {Y : Asn} (hf : findE (r.ix, r.num) L = none) (hB : Sv [Y] r.b.v 1 (eU .u8 (w := 8)) r.b.l r.b.ao r.b.cap) (hbl : r.b.l.length ≤ 33554432) (hu : usedE L ≤ 1073741824) (hr : 0 ≤ room ∧ room ≤ 1073741824) (hfull : room - (usedE L : Int) < (r.b.l.length : Int)) : Ct Try.prog 31 [.pointer (some ⟨b, 0, none⟩), .agg (eRq r).toArray] [cl b 40 [.bool true, .int .i64 room, .int .i64 tick, .int .i64 (((usedE L) : Nat) : Int), .map (some m)], mpP m kfK vfP (L.map En.kp), star (FEn 85 5) L, Y] (fun _ : Unit => .agg [.int .u8 3, .slice none 0 0, .slice none 0 0].toArray) (fun _ => [cl b 40 [.bool true, .int .i64 room, .int .i64 tick, .int .i64 (((usedE L) : Nat) : Int), .map (some m)], mpP m kfK vfP (L.map En.kp), star (FEn 85 5) L, Y]) := by
 refine Ct_body (n := 107) Try.func31 rfl rfl rfl fun F w0 Q hret hnorm hp => ?_
 change WC _ _ _ _ _ _ _ (_ :: _ :: _ :: _ :: F)
 obtain ⟨hr0, hr1⟩ := hr
 refine WC_sr fun K1 hK1 => ?_
 refine WL_ac (Ac_box (xs := eRq r) rfl rfl) rfl rfl rfl ?_
 rintro _ _ ⟨b3, rfl, rfl⟩
 refine WL_ac (Ac_alloc zr45) rfl rfl rfl ?_
 rintro _ _ ⟨b4, rfl, rfl⟩
 refine WL_end hK1 ?_
 refine WC_sr fun K2 hK2 => ?_
 refine WL_r (Rd_fieldAddr rfl fo30_1) rfl ?_
 refine WL_r (Rd_loadg (vs := r.ix.l.flatMap (eU .u8)) rfl tk24 (hl := by rw [eRq_len]; omega) (hi := eRq_ix r)) rfl ?_
 refine WL_r (Rd_fieldAddr rfl fo30_2) rfl ?_
 refine WL_r (Rd_load rfl tk3 (v := .int .i64 r.num) (hi := eRq_num r)) rfl ?_
 refine WL_r (Rd_valE (v := kfK (r.ix, r.num)) (Rd_build pls81 rfl (hf := key_fill _ _)) rfl) rfl ?_
 refine WL_ac (Ac_alloc zr81) rfl rfl rfl ?_
 rintro _ _ ⟨b5, rfl, rfl⟩
 refine WL_ac0 (Ac_store (ys := kcK (r.ix, r.num)) rfl rfl sz81 (h1 := encK.one _) (hv := by simpa [Value.cells, kfK] using kcK_len (r.ix, r.num)) (hr := by simp [Value.cells, kfK])) rfl rfl ?_
 rintro _ _ rfl
 refine WL_end hK2 ?_
 refine WC_seq fun K3 hK3 => ?_
 refine WC_drawA mix (fun i => ([2, 2, 2, 2, 2, 2, 2, 2, 2, 2, 2] : List Nat).getD i 0) ?_
 refine WJ_tp 0 rfl (Rd_move rfl) rfl (hp _ _) ?_
 refine WJ_tp 1 rfl (Rd_nilCheck rfl) rfl (hp _ _) ?_
 refine WJ_tp 2 rfl (Rd_fieldAddr rfl fo40_4) rfl (hp _ _) ?_
 refine WJ_tk 3 (Rd_load rfl tk38 (v := .map (some m))) hp ?_ rfl (by kernel_rfl) rfl rfl rfl
 refine WJ_tk 4 (Rd_loadg (vs := kcK (r.ix, r.num)) rfl tk81 (hl := by rw [kcK_len]; omega) (hi := by rw [List.drop_zero]; exact List.take_of_length_le (Nat.le_of_eq (kcK_len (r.ix, r.num))))) hp ?_ rfl (by kernel_rfl) rfl rfl rfl
 refine WJ_tk 5 (Rd_valE (v := .tuple #[.pointer none, .bool false]) (Rd_lookP2 keyK rfl rfl ud38 zvP) (by rw [lookE, hf]; rfl)) hp ?_ rfl (by kernel_rfl) rfl rfl rfl
 refine WJ_tp 6 rfl (Rd_move rfl) rfl (hp _ _) ?_
 refine WJ_tp 7 rfl (Rd_ext0 rfl) rfl (hp _ _) ?_
 refine WJ_tp 8 rfl (Rd_ext1 rfl) rfl (hp _ _) ?_
 refine WJ_tp 9 rfl (Rd_assign rfl) rfl (hp _ _) ?_
 refine WJ_tp 10 rfl (Rd_assign rfl) rfl (hp _ _) ?_
 refine WJ_done (by kernel_rfl) ?_
 refine Ps_next hK3 ?_
 refine WC_seq fun K4 hK4 => ?_
 refine WC_sr fun K5 hK5 => ?_
 refine WL_r (Rd_move rfl) rfl ?_
 refine WL_r (Rd_not rfl) rfl ?_
 refine WL_end hK5 ?_
 refine WC_condT rfl ?_
 refine WC_seq fun K6 hK6 => ?_
 refine WC_seq fun K7 hK7 => ?_
 refine WC_drawA mix (fun i => ([2, 2, 2, 2, 2, 2, 2, 2, 2, 2, 2, 2, 2] : List Nat).getD i 0) ?_
 refine WJ_tp 0 rfl (Rd_fieldAddr rfl fo30_6) rfl (hp _ _) ?_
 refine WJ_tk 1 (Rd_load rfl tk28 (v := r.b.v) (hi := eRq_b r)) hp ?_ rfl (by kernel_rfl) rfl rfl rfl
 refine WJ_tp 2 rfl (Rd_len_sv rfl rfl ud28 (hA := hB)) rfl (hp _ _) ?_
 refine WJ_tp 3 rfl (Rd_move rfl) rfl (hp _ _) ?_
 refine WJ_tp 4 rfl (Rd_nilCheck rfl) rfl (hp _ _) ?_
 refine WJ_tp 5 rfl (Rd_fieldAddr rfl fo40_1) rfl (hp _ _) ?_
 refine WJ_tk 6 (Rd_load rfl tk3) hp ?_ rfl (by kernel_rfl) rfl rfl rfl
 refine WJ_tp 7 rfl (Rd_move rfl) rfl (hp _ _) ?_
 refine WJ_tp 8 rfl (Rd_nilCheck rfl) rfl (hp _ _) ?_
 refine WJ_tp 9 rfl (Rd_fieldAddr rfl fo40_3) rfl (hp _ _) ?_
 refine WJ_tk 10 (Rd_load rfl tk3) hp ?_ rfl (by kernel_rfl) rfl rfl rfl
 refine WJ_tp 11 rfl (Rd_sub' rfl rfl (wr64 rfl (by omega) (by omega))) rfl (hp _ _) ?_
 refine WJ_tp 12 rfl (Rd_gtr rfl rfl) rfl (hp _ _) ?_
 refine WJ_done (by kernel_rfl) ?_
 refine Ps_next hK7 ?_
 refine WC_cond rfl (fun hc1 => ?_) (fun hc1 => ?_)
 ·try simp only [dz, ne_eq] at hc1
  refine WC_sr fun K8 hK8 => ?_
  refine WL_r (Rd_build pls45 rfl) rfl ?_
  refine WL_ac0 (Ac_store (ys := [.int .u8 3, .slice none 0 0, .slice none 0 0]) rfl rfl sz45 (h1 := by simp [setAt, Value.cells, Value.oneCell', sl]) (hr := rfl)) rfl rfl ?_
  rintro _ _ rfl
  refine WL_end hK8 ?_
  refine WC_ret ?_
  exact hret.go () (Rs1c rfl rfl tk45)
 ·try simp only [dz, ne_eq] at hc1
  omega

theorem store_new {b m : Nat} {room tick : Int} {L : List En} {r : Rq} {Y : Asn} (hf : findE (r.ix, r.num) L = none) (hB : Sv [Y] r.b.v 1 (eU .u8 (w := 8)) r.b.l r.b.ao r.b.cap) (hbl : r.b.l.length ≤ 33554432) (hu : usedE L ≤ 1073741824) (hr : 0 ≤ room ∧ room ≤ 1073741824) (hfit : (r.b.l.length : Int) ≤ room - (usedE L : Int)) : Ct Try.prog 31 [.pointer (some ⟨b, 0, none⟩), .agg (eRq r).toArray] [cl b 40 [.bool true, .int .i64 room, .int .i64 tick, .int .i64 (((usedE L) : Nat) : Int), .map (some m)], mpP m kfK vfP (L.map En.kp), star (FEn 85 5) L, Y] (fun g : En => .agg [.int .u8 2, .slice none 0 0, .slice none 0 0].toArray) (fun g => [cl b 40 [.bool true, .int .i64 room, .int .i64 tick, .int .i64 (((usedE (insE (⟨⟨r.ix, r.num, r.b.l, [(r.who, r.un)]⟩, g.p, g.a, g.cap, g.m⟩ : En) L)) : Nat) : Int), .map (some m)], mpP m kfK vfP ((insE (⟨⟨r.ix, r.num, r.b.l, [(r.who, r.un)]⟩, g.p, g.a, g.cap, g.m⟩ : En) L).map En.kp), star (FEn 85 5) (insE (⟨⟨r.ix, r.num, r.b.l, [(r.who, r.un)]⟩, g.p, g.a, g.cap, g.m⟩ : En) L), Y]) := by
 refine Ct_body (n := 107) Try.func31 rfl rfl rfl fun F w0 Q hret hnorm hp => ?_
 change WC _ _ _ _ _ _ _ (_ :: _ :: _ :: _ :: F)
 obtain ⟨hr0, hr1⟩ := hr
 refine WC_sr fun K1 hK1 => ?_
 refine WL_ac (Ac_box (xs := eRq r) rfl rfl) rfl rfl rfl ?_
 rintro _ _ ⟨b3, rfl, rfl⟩
 refine WL_ac (Ac_alloc zr45) rfl rfl rfl ?_
 rintro _ _ ⟨b4, rfl, rfl⟩
 refine WL_end hK1 ?_
 refine WC_sr fun K2 hK2 => ?_
 refine WL_r (Rd_fieldAddr rfl fo30_1) rfl ?_
 refine WL_r (Rd_loadg (vs := r.ix.l.flatMap (eU .u8)) rfl tk24 (hl := by rw [eRq_len]; omega) (hi := eRq_ix r)) rfl ?_
 refine WL_r (Rd_fieldAddr rfl fo30_2) rfl ?_
 refine WL_r (Rd_load rfl tk3 (v := .int .i64 r.num) (hi := eRq_num r)) rfl ?_
 refine WL_r (Rd_valE (v := kfK (r.ix, r.num)) (Rd_build pls81 rfl (hf := key_fill _ _)) rfl) rfl ?_
 refine WL_ac (Ac_alloc zr81) rfl rfl rfl ?_
 rintro _ _ ⟨b5, rfl, rfl⟩
 refine WL_ac0 (Ac_store (ys := kcK (r.ix, r.num)) rfl rfl sz81 (h1 := encK.one _) (hv := by simpa [Value.cells, kfK] using kcK_len (r.ix, r.num)) (hr := by simp [Value.cells, kfK])) rfl rfl ?_
 rintro _ _ rfl
 refine WL_end hK2 ?_
 refine WC_seq fun K3 hK3 => ?_
 refine WC_drawA mix (fun i => ([2, 2, 2, 2, 2, 2, 2, 2, 2, 2, 2] : List Nat).getD i 0) ?_
 refine WJ_tp 0 rfl (Rd_move rfl) rfl (hp _ _) ?_
 refine WJ_tp 1 rfl (Rd_nilCheck rfl) rfl (hp _ _) ?_
 refine WJ_tp 2 rfl (Rd_fieldAddr rfl fo40_4) rfl (hp _ _) ?_
 refine WJ_tk 3 (Rd_load rfl tk38 (v := .map (some m))) hp ?_ rfl (by kernel_rfl) rfl rfl rfl
 refine WJ_tk 4 (Rd_loadg (vs := kcK (r.ix, r.num)) rfl tk81 (hl := by rw [kcK_len]; omega) (hi := by rw [List.drop_zero]; exact List.take_of_length_le (Nat.le_of_eq (kcK_len (r.ix, r.num))))) hp ?_ rfl (by kernel_rfl) rfl rfl rfl
 refine WJ_tk 5 (Rd_valE (v := .tuple #[.pointer none, .bool false]) (Rd_lookP2 keyK rfl rfl ud38 zvP) (by rw [lookE, hf]; rfl)) hp ?_ rfl (by kernel_rfl) rfl rfl rfl
 refine WJ_tp 6 rfl (Rd_move rfl) rfl (hp _ _) ?_
 refine WJ_tp 7 rfl (Rd_ext0 rfl) rfl (hp _ _) ?_
 refine WJ_tp 8 rfl (Rd_ext1 rfl) rfl (hp _ _) ?_
 refine WJ_tp 9 rfl (Rd_assign rfl) rfl (hp _ _) ?_
 refine WJ_tp 10 rfl (Rd_assign rfl) rfl (hp _ _) ?_
 refine WJ_done (by kernel_rfl) ?_
 refine Ps_next hK3 ?_
 refine WC_seq fun K4 hK4 => ?_
 refine WC_sr fun K5 hK5 => ?_
 refine WL_r (Rd_move rfl) rfl ?_
 refine WL_r (Rd_not rfl) rfl ?_
 refine WL_end hK5 ?_
 refine WC_condT rfl ?_
 refine WC_seq fun K6 hK6 => ?_
 refine WC_seq fun K7 hK7 => ?_
 refine WC_drawA mix (fun i => ([2, 2, 2, 2, 2, 2, 2, 2, 2, 2, 2, 2, 2] : List Nat).getD i 0) ?_
 refine WJ_tp 0 rfl (Rd_fieldAddr rfl fo30_6) rfl (hp _ _) ?_
 refine WJ_tk 1 (Rd_load rfl tk28 (v := r.b.v) (hi := eRq_b r)) hp ?_ rfl (by kernel_rfl) rfl rfl rfl
 refine WJ_tp 2 rfl (Rd_len_sv rfl rfl ud28 (hA := hB)) rfl (hp _ _) ?_
 refine WJ_tp 3 rfl (Rd_move rfl) rfl (hp _ _) ?_
 refine WJ_tp 4 rfl (Rd_nilCheck rfl) rfl (hp _ _) ?_
 refine WJ_tp 5 rfl (Rd_fieldAddr rfl fo40_1) rfl (hp _ _) ?_
 refine WJ_tk 6 (Rd_load rfl tk3) hp ?_ rfl (by kernel_rfl) rfl rfl rfl
 refine WJ_tp 7 rfl (Rd_move rfl) rfl (hp _ _) ?_
 refine WJ_tp 8 rfl (Rd_nilCheck rfl) rfl (hp _ _) ?_
 refine WJ_tp 9 rfl (Rd_fieldAddr rfl fo40_3) rfl (hp _ _) ?_
 refine WJ_tk 10 (Rd_load rfl tk3) hp ?_ rfl (by kernel_rfl) rfl rfl rfl
 refine WJ_tp 11 rfl (Rd_sub' rfl rfl (wr64 rfl (by omega) (by omega))) rfl (hp _ _) ?_
 refine WJ_tp 12 rfl (Rd_gtr rfl rfl) rfl (hp _ _) ?_
 refine WJ_done (by kernel_rfl) ?_
 refine Ps_next hK7 ?_
 refine WC_cond rfl (fun hc1 => ?_) (fun hc1 => ?_)
 ·try simp only [dz, ne_eq] at hc1
  omega
 ·try simp only [dz, ne_eq] at hc1
  refine WC_skip ?_
  refine Ps_next hK6 ?_
  refine WC_seq fun K8 hK8 => ?_
  refine WC_draw mix [cl b 40 [.bool true, .int .i64 room, .int .i64 tick, .int .i64 (((usedE L) : Nat) : Int), .map (some m)], cl b5 81 (kcK (r.ix, r.num)), cl b3 30 (eRq r), Y] (fun i => ([2, 2, 2, 2, 2, 2, 2, 1, 1, 2, 2, 2, 2, 2, 2, 1, 2, 2, 1, 1] : List Nat).getD i 0) ?_
  refine WJ_tp 0 rfl (Rd_move rfl) rfl (hp _ _) ?_
  refine WJ_tp 1 rfl (Rd_nilCheck rfl) rfl (hp _ _) ?_
  refine WJ_tp 2 rfl (Rd_fieldAddr rfl fo40_4) rfl (hp _ _) ?_
  refine WJ_tk 3 (Rd_load rfl tk38 (v := .map (some m))) hp ?_ rfl (by kernel_rfl) rfl rfl rfl
  refine WJ_tk 4 (Rd_loadg (vs := kcK (r.ix, r.num)) rfl tk81 (hl := by rw [kcK_len]; omega) (hi := by rw [List.drop_zero]; exact List.take_of_length_le (Nat.le_of_eq (kcK_len (r.ix, r.num))))) hp ?_ rfl (by kernel_rfl) rfl rfl rfl
  refine WJ_tp 5 rfl (Rd_fieldAddr rfl fo30_6) rfl (hp _ _) ?_
  refine WJ_tk 6 (Rd_load rfl tk28 (v := r.b.v) (hi := eRq_b r)) hp ?_ rfl (by kernel_rfl) rfl rfl rfl
  refine WJ_tp 9 rfl (Rd_fieldAddr rfl fo30_5) rfl (hp _ _) ?_
  refine WJ_tp 10 rfl (Rd_fieldAddr rfl fo27_0) rfl (hp _ _) ?_
  refine WJ_tk 11 (Rd_load rfl tk25 (v := .int .u32 ((r.who.toNat : Nat) : Int)) (hi := eRq_who r)) hp ?_ rfl (by kernel_rfl) rfl rfl rfl
  refine WJ_tp 12 rfl (Rd_fieldAddr rfl fo30_5) rfl (hp _ _) ?_
  refine WJ_tp 13 rfl (Rd_fieldAddr rfl fo27_1) rfl (hp _ _) ?_
  refine WJ_tk 14 (Rd_load rfl tk3 (v := .int .i64 r.un) (hi := eRq_un r)) hp ?_ rfl (by kernel_rfl) rfl rfl rfl
  refine WJ_all (rs := [7, 8]) (by kernel_rfl) rfl ?_
  refine WI_cons ?_ (WI_cons ?_ (by intro _ h; cases h))
  ·skip
   refine WI_ac rfl (Ac_call cf35 rfl (hs := clone_ct (X := Y) (l := r.b.l) (hS := hB))) rfl rfl rfl rfl ?_
   rintro _ _ ⟨⟨a47, cap47⟩, rfl, hA⟩
   simp only [List.cons_append, List.nil_append] at hA
   replace hA := hA.symm
   subst hA
   refine ⟨(fun _ => subA), ?_⟩
   refine WJ_all (rs := [8]) (by kernel_rfl) rfl ?_
   refine WI_one ?_
   refine WI_ac rfl (Ac_makeP kfW vfI) rfl rfl rfl rfl ?_
   rintro _ _ ⟨m48, rfl, rfl⟩
   refine ⟨(fun _ => subA), ?_⟩
   refine WJ_all (rs := [15]) (by kernel_rfl) rfl ?_
   refine WI_one ?_
   refine WI_ac0 rfl (Ac_insP (vf := vfI) r.un keyW rfl rfl rfl ud83) rfl rfl rfl ?_
   rintro _ _ rfl
   refine ⟨(fun _ => subA), ?_⟩
   refine WJ_tp 16 rfl (Rd_move rfl) rfl (hp _ _) ?_
   refine WJ_tp 17 rfl (Rd_build pls85 rfl) rfl (hp _ _) ?_
   refine WJ_all (rs := [18]) (by kernel_rfl) rfl ?_
   refine WI_one ?_
   refine WI_ac rfl (Ac_box (xs := [sl a47 r.b.l.length cap47, .map (some m48)]) rfl rfl) rfl rfl rfl rfl ?_
   rintro _ _ ⟨p57, rfl, rfl⟩
   refine ⟨(fun _ => subA), ?_⟩
   refine WJ_all (rs := [19]) (by kernel_rfl) rfl ?_
   refine WI_one ?_
   refine WI_ac0 rfl (Ac_putP (vf := vfP) p57 keyK rfl rfl rfl ud38) rfl rfl rfl ?_
   rintro _ _ rfl
   refine ⟨(fun _ => subA), ?_⟩
   refine WJ_done (by kernel_rfl) ?_
   refine Ps_next hK8 ?_
   refine WC_seq fun K9 hK9 => ?_
   refine WC_drawA mix (fun i => ([2, 2, 2, 2, 2, 2, 2, 2, 2, 2, 0] : List Nat).getD i 0) ?_
   refine WJ_tp 0 rfl (Rd_move rfl) rfl (hp _ _) ?_
   refine WJ_tp 1 rfl (Rd_nilCheck rfl) rfl (hp _ _) ?_
   refine WJ_tp 2 rfl (Rd_fieldAddr rfl fo40_3) rfl (hp _ _) ?_
   refine WJ_tk 3 (Rd_load rfl tk3) hp ?_ rfl (by kernel_rfl) rfl rfl rfl
   refine WJ_tp 4 rfl (Rd_fieldAddr rfl fo30_6) rfl (hp _ _) ?_
   refine WJ_tk 5 (Rd_load rfl tk28 (v := r.b.v) (hi := eRq_b r)) hp ?_ rfl (by kernel_rfl) rfl rfl rfl
   refine WJ_tp 6 rfl (Rd_len_sv rfl rfl ud28 (hA := hB)) rfl (hp _ _) ?_
   refine WJ_tp 7 rfl (Rd_addN rfl rfl) rfl (hp _ _) ?_
   refine WJ_tp 8 rfl (Rd_nilCheck rfl) rfl (hp _ _) ?_
   refine WJ_tp 9 rfl (Rd_fieldAddr rfl fo40_3) rfl (hp _ _) ?_
   refine WJ_all (rs := [10]) (by kernel_rfl) rfl ?_
   refine WI_one ?_
   refine WI_ac0 rfl (Ac_store1 rfl rfl sz3) rfl rfl rfl ?_
   rintro _ _ rfl
   refine ⟨(fun h => by cases h), ?_⟩
   refine WJ_done (by kernel_rfl) ?_
   refine Ps_next hK9 ?_
   refine WC_sr fun K10 hK10 => ?_
   refine WL_r (Rd_build pls45 rfl) rfl ?_
   refine WL_ac0 (Ac_store (ys := [.int .u8 2, .slice none 0 0, .slice none 0 0]) rfl rfl sz45 (h1 := by simp [setAt, Value.cells, Value.oneCell', sl]) (hr := rfl)) rfl rfl ?_
   rintro _ _ rfl
   refine WL_end hK10 ?_
   refine WC_ret ?_
   refine Ps_rep (mpP m kfK vfP (putL (r.ix, r.num) p57 (L.map En.kp))) (mpP m kfK vfP ((insE (⟨(⟨r.ix, r.num, r.b.l, [(r.who, r.un)]⟩ : Kp), p57, a47, cap47, m48⟩ : En) L).map En.kp)) (mpP_rep (new_map hf)) ?_
   refine Ps_rep (mpP m48 kfW vfI (putL r.who r.un [])) (mpP m48 kfW vfI [(r.who, r.un)]) (mpP_rep (.refl _)) ?_
   refine Ps_ennew 85 5 r.ix r.num r.b.l [(r.who, r.un)] p57 a47 cap47 m48 L ?_
   refine Ps_rep (star (FEn 85 5) ((⟨(⟨r.ix, r.num, r.b.l, [(r.who, r.un)]⟩ : Kp), p57, a47, cap47, m48⟩ : En) :: L)) (star (FEn 85 5) (insE (⟨(⟨r.ix, r.num, r.b.l, [(r.who, r.un)]⟩ : Kp), p57, a47, cap47, m48⟩ : En) L)) (star_rep (insE_perm _ _)) ?_
   rw [show usedE L + r.b.l.length = usedE (insE (⟨(⟨r.ix, r.num, r.b.l, [(r.who, r.un)]⟩ : Kp), p57, a47, cap47, m48⟩ : En) L) from by rw [← usedE_perm (insE_perm (⟨(⟨r.ix, r.num, r.b.l, [(r.who, r.un)]⟩ : Kp), p57, a47, cap47, m48⟩ : En) L), usedE_cons]; exact Nat.add_comm _ _]
   exact hret.go (⟨(⟨r.ix, r.num, r.b.l, [(r.who, r.un)]⟩ : Kp), p57, a47, cap47, m48⟩ : En) (Rs1c rfl rfl tk45)
  ·skip
   refine WI_ac rfl (Ac_makeP kfW vfI) rfl rfl rfl rfl ?_
   rintro _ _ ⟨m48, rfl, rfl⟩
   refine ⟨(fun _ => subA), ?_⟩
   refine WJ_all (rs := [7, 15]) (by kernel_rfl) rfl ?_
   refine WI_cons ?_ (WI_cons ?_ (by intro _ h; cases h))
   ·skip
    refine WI_ac rfl (Ac_call cf35 rfl (hs := clone_ct (X := Y) (l := r.b.l) (hS := hB))) rfl rfl rfl rfl ?_
    rintro _ _ ⟨⟨a47, cap47⟩, rfl, hA⟩
    simp only [List.cons_append, List.nil_append] at hA
    replace hA := hA.symm
    subst hA
    refine ⟨(fun _ => subA), ?_⟩
    refine WJ_all (rs := [15]) (by kernel_rfl) rfl ?_
    refine WI_one ?_
    refine WI_ac0 rfl (Ac_insP (vf := vfI) r.un keyW rfl rfl rfl ud83) rfl rfl rfl ?_
    rintro _ _ rfl
    refine ⟨(fun _ => subA), ?_⟩
    refine WJ_tp 16 rfl (Rd_move rfl) rfl (hp _ _) ?_
    refine WJ_tp 17 rfl (Rd_build pls85 rfl) rfl (hp _ _) ?_
    refine WJ_all (rs := [18]) (by kernel_rfl) rfl ?_
    refine WI_one ?_
    refine WI_ac rfl (Ac_box (xs := [sl a47 r.b.l.length cap47, .map (some m48)]) rfl rfl) rfl rfl rfl rfl ?_
    rintro _ _ ⟨p57, rfl, rfl⟩
    refine ⟨(fun _ => subA), ?_⟩
    refine WJ_all (rs := [19]) (by kernel_rfl) rfl ?_
    refine WI_one ?_
    refine WI_ac0 rfl (Ac_putP (vf := vfP) p57 keyK rfl rfl rfl ud38) rfl rfl rfl ?_
    rintro _ _ rfl
    refine ⟨(fun _ => subA), ?_⟩
    refine WJ_done (by kernel_rfl) ?_
    refine Ps_next hK8 ?_
    refine WC_seq fun K11 hK11 => ?_
    refine WC_drawA mix (fun i => ([2, 2, 2, 2, 2, 2, 2, 2, 2, 2, 0] : List Nat).getD i 0) ?_
    refine WJ_tp 0 rfl (Rd_move rfl) rfl (hp _ _) ?_
    refine WJ_tp 1 rfl (Rd_nilCheck rfl) rfl (hp _ _) ?_
    refine WJ_tp 2 rfl (Rd_fieldAddr rfl fo40_3) rfl (hp _ _) ?_
    refine WJ_tk 3 (Rd_load rfl tk3) hp ?_ rfl (by kernel_rfl) rfl rfl rfl
    refine WJ_tp 4 rfl (Rd_fieldAddr rfl fo30_6) rfl (hp _ _) ?_
    refine WJ_tk 5 (Rd_load rfl tk28 (v := r.b.v) (hi := eRq_b r)) hp ?_ rfl (by kernel_rfl) rfl rfl rfl
    refine WJ_tp 6 rfl (Rd_len_sv rfl rfl ud28 (hA := hB)) rfl (hp _ _) ?_
    refine WJ_tp 7 rfl (Rd_addN rfl rfl) rfl (hp _ _) ?_
    refine WJ_tp 8 rfl (Rd_nilCheck rfl) rfl (hp _ _) ?_
    refine WJ_tp 9 rfl (Rd_fieldAddr rfl fo40_3) rfl (hp _ _) ?_
    refine WJ_all (rs := [10]) (by kernel_rfl) rfl ?_
    refine WI_one ?_
    refine WI_ac0 rfl (Ac_store1 rfl rfl sz3) rfl rfl rfl ?_
    rintro _ _ rfl
    refine ⟨(fun h => by cases h), ?_⟩
    refine WJ_done (by kernel_rfl) ?_
    refine Ps_next hK11 ?_
    refine WC_sr fun K12 hK12 => ?_
    refine WL_r (Rd_build pls45 rfl) rfl ?_
    refine WL_ac0 (Ac_store (ys := [.int .u8 2, .slice none 0 0, .slice none 0 0]) rfl rfl sz45 (h1 := by simp [setAt, Value.cells, Value.oneCell', sl]) (hr := rfl)) rfl rfl ?_
    rintro _ _ rfl
    refine WL_end hK12 ?_
    refine WC_ret ?_
    refine Ps_rep (mpP m kfK vfP (putL (r.ix, r.num) p57 (L.map En.kp))) (mpP m kfK vfP ((insE (⟨(⟨r.ix, r.num, r.b.l, [(r.who, r.un)]⟩ : Kp), p57, a47, cap47, m48⟩ : En) L).map En.kp)) (mpP_rep (new_map hf)) ?_
    refine Ps_rep (mpP m48 kfW vfI (putL r.who r.un [])) (mpP m48 kfW vfI [(r.who, r.un)]) (mpP_rep (.refl _)) ?_
    refine Ps_ennew 85 5 r.ix r.num r.b.l [(r.who, r.un)] p57 a47 cap47 m48 L ?_
    refine Ps_rep (star (FEn 85 5) ((⟨(⟨r.ix, r.num, r.b.l, [(r.who, r.un)]⟩ : Kp), p57, a47, cap47, m48⟩ : En) :: L)) (star (FEn 85 5) (insE (⟨(⟨r.ix, r.num, r.b.l, [(r.who, r.un)]⟩ : Kp), p57, a47, cap47, m48⟩ : En) L)) (star_rep (insE_perm _ _)) ?_
    rw [show usedE L + r.b.l.length = usedE (insE (⟨(⟨r.ix, r.num, r.b.l, [(r.who, r.un)]⟩ : Kp), p57, a47, cap47, m48⟩ : En) L) from by rw [← usedE_perm (insE_perm (⟨(⟨r.ix, r.num, r.b.l, [(r.who, r.un)]⟩ : Kp), p57, a47, cap47, m48⟩ : En) L), usedE_cons]; exact Nat.add_comm _ _]
    exact hret.go (⟨(⟨r.ix, r.num, r.b.l, [(r.who, r.un)]⟩ : Kp), p57, a47, cap47, m48⟩ : En) (Rs1c rfl rfl tk45)
   ·skip
    refine WI_ac0 rfl (Ac_insP (vf := vfI) r.un keyW rfl rfl rfl ud83) rfl rfl rfl ?_
    rintro _ _ rfl
    refine ⟨(fun _ => subA), ?_⟩
    refine WJ_tp 16 rfl (Rd_move rfl) rfl (hp _ _) ?_
    refine WJ_all (rs := [7]) (by kernel_rfl) rfl ?_
    refine WI_one ?_
    refine WI_ac rfl (Ac_call cf35 rfl (hs := clone_ct (X := Y) (l := r.b.l) (hS := hB))) rfl rfl rfl rfl ?_
    rintro _ _ ⟨⟨a47, cap47⟩, rfl, hA⟩
    simp only [List.cons_append, List.nil_append] at hA
    replace hA := hA.symm
    subst hA
    refine ⟨(fun _ => subA), ?_⟩
    refine WJ_tp 17 rfl (Rd_build pls85 rfl) rfl (hp _ _) ?_
    refine WJ_all (rs := [18]) (by kernel_rfl) rfl ?_
    refine WI_one ?_
    refine WI_ac rfl (Ac_box (xs := [sl a47 r.b.l.length cap47, .map (some m48)]) rfl rfl) rfl rfl rfl rfl ?_
    rintro _ _ ⟨p57, rfl, rfl⟩
    refine ⟨(fun _ => subA), ?_⟩
    refine WJ_all (rs := [19]) (by kernel_rfl) rfl ?_
    refine WI_one ?_
    refine WI_ac0 rfl (Ac_putP (vf := vfP) p57 keyK rfl rfl rfl ud38) rfl rfl rfl ?_
    rintro _ _ rfl
    refine ⟨(fun _ => subA), ?_⟩
    refine WJ_done (by kernel_rfl) ?_
    refine Ps_next hK8 ?_
    refine WC_seq fun K13 hK13 => ?_
    refine WC_drawA mix (fun i => ([2, 2, 2, 2, 2, 2, 2, 2, 2, 2, 0] : List Nat).getD i 0) ?_
    refine WJ_tp 0 rfl (Rd_move rfl) rfl (hp _ _) ?_
    refine WJ_tp 1 rfl (Rd_nilCheck rfl) rfl (hp _ _) ?_
    refine WJ_tp 2 rfl (Rd_fieldAddr rfl fo40_3) rfl (hp _ _) ?_
    refine WJ_tk 3 (Rd_load rfl tk3) hp ?_ rfl (by kernel_rfl) rfl rfl rfl
    refine WJ_tp 4 rfl (Rd_fieldAddr rfl fo30_6) rfl (hp _ _) ?_
    refine WJ_tk 5 (Rd_load rfl tk28 (v := r.b.v) (hi := eRq_b r)) hp ?_ rfl (by kernel_rfl) rfl rfl rfl
    refine WJ_tp 6 rfl (Rd_len_sv rfl rfl ud28 (hA := hB)) rfl (hp _ _) ?_
    refine WJ_tp 7 rfl (Rd_addN rfl rfl) rfl (hp _ _) ?_
    refine WJ_tp 8 rfl (Rd_nilCheck rfl) rfl (hp _ _) ?_
    refine WJ_tp 9 rfl (Rd_fieldAddr rfl fo40_3) rfl (hp _ _) ?_
    refine WJ_all (rs := [10]) (by kernel_rfl) rfl ?_
    refine WI_one ?_
    refine WI_ac0 rfl (Ac_store1 rfl rfl sz3) rfl rfl rfl ?_
    rintro _ _ rfl
    refine ⟨(fun h => by cases h), ?_⟩
    refine WJ_done (by kernel_rfl) ?_
    refine Ps_next hK13 ?_
    refine WC_sr fun K14 hK14 => ?_
    refine WL_r (Rd_build pls45 rfl) rfl ?_
    refine WL_ac0 (Ac_store (ys := [.int .u8 2, .slice none 0 0, .slice none 0 0]) rfl rfl sz45 (h1 := by simp [setAt, Value.cells, Value.oneCell', sl]) (hr := rfl)) rfl rfl ?_
    rintro _ _ rfl
    refine WL_end hK14 ?_
    refine WC_ret ?_
    refine Ps_rep (mpP m kfK vfP (putL (r.ix, r.num) p57 (L.map En.kp))) (mpP m kfK vfP ((insE (⟨(⟨r.ix, r.num, r.b.l, [(r.who, r.un)]⟩ : Kp), p57, a47, cap47, m48⟩ : En) L).map En.kp)) (mpP_rep (new_map hf)) ?_
    refine Ps_rep (mpP m48 kfW vfI (putL r.who r.un [])) (mpP m48 kfW vfI [(r.who, r.un)]) (mpP_rep (.refl _)) ?_
    refine Ps_ennew 85 5 r.ix r.num r.b.l [(r.who, r.un)] p57 a47 cap47 m48 L ?_
    refine Ps_rep (star (FEn 85 5) ((⟨(⟨r.ix, r.num, r.b.l, [(r.who, r.un)]⟩ : Kp), p57, a47, cap47, m48⟩ : En) :: L)) (star (FEn 85 5) (insE (⟨(⟨r.ix, r.num, r.b.l, [(r.who, r.un)]⟩ : Kp), p57, a47, cap47, m48⟩ : En) L)) (star_rep (insE_perm _ _)) ?_
    rw [show usedE L + r.b.l.length = usedE (insE (⟨(⟨r.ix, r.num, r.b.l, [(r.who, r.un)]⟩ : Kp), p57, a47, cap47, m48⟩ : En) L) from by rw [← usedE_perm (insE_perm (⟨(⟨r.ix, r.num, r.b.l, [(r.who, r.un)]⟩ : Kp), p57, a47, cap47, m48⟩ : En) L), usedE_cons]; exact Nat.add_comm _ _]
    exact hret.go (⟨(⟨r.ix, r.num, r.b.l, [(r.who, r.un)]⟩ : Kp), p57, a47, cap47, m48⟩ : En) (Rs1c rfl rfl tk45)
end Go.Proofs.Ytoakfknnaiapiaa
namespace Go.Proofs.Ytoakfknnaiapiaa
open Go.RowKit Go.SL Go.ShM Go.SvM
set_option maxHeartbeats 1000000
set_option maxRecDepth 20000
set_option linter.all false
theorem cf49 : cfn Try.prog 49 = true := by kernel_rfl
theorem cf50 : cfn Try.prog 50 = true := by kernel_rfl
theorem ud5 : Try.prog.underlying 5 = some (.int .u8) := by kernel_rfl
theorem ud9 : Try.prog.underlying 9 = some (.string) := by kernel_rfl
theorem str_eqD {l l' : List B8} : ((strB l).toList == (strB l').toList) = decide (l = l') := by
  rw [Bool.eq_iff_iff, decide_eq_true_eq]
  refine ⟨fun e => ?_, fun e => by rw [e]; exact beq_self_eq_true _⟩
  have h := congrArg bsS (str_beqT e)
  rw [bsS_strB, bsS_strB] at h
  exact h

theorem equal_ct {X : Asn} {v v' : Value} {l l' : List B8} {ao ao' : Option Addr} {cap cap' : Nat} (hS : Sv [X] v 1 (eU .u8 (w := 8)) l ao cap := by assumption) (hS' : Sv [X] v' 1 (eU .u8 (w := 8)) l' ao' cap' := by assumption) : Ct Try.prog 49 [v, v'] [X] (fun _ : Unit => .bool (decide (l = l'))) (fun _ => [X]) := by
 refine Ct_body (n := 10) Try.func49 rfl rfl rfl fun F w0 Q hret hnorm hp => ?_
 change WC _ _ _ _ _ _ _ (_ :: F)
 refine WC_sr fun K1 hK1 => ?_
 refine WL_r (Rd_assign rfl) rfl ?_
 refine WL_end hK1 ?_
 refine WC_sr fun K2 hK2 => ?_
 refine WL_r (Rd_move rfl) rfl ?_
 refine WL_r (Rd_convBS rfl ud28 ud9 ud5 (hA := hS)) rfl ?_
 refine WL_r (Rd_move rfl) rfl ?_
 refine WL_r (Rd_convBS rfl ud28 ud9 ud5 (hA := hS')) rfl ?_
 refine WL_r (Rd_streq rfl rfl) rfl ?_
 refine WL_r (Rd_assign rfl) rfl ?_
 refine WL_end hK2 ?_
 refine WC_ret ?_
 exact hret.goE () (Rs1 rfl rfl) (by rw [str_eqD])

theorem store_other {b m : Nat} {room tick : Int} {A B : List En} {x : En} {r : Rq} {Y : Asn} (hf : findE (r.ix, r.num) (A ++ x :: B) = some x) (hB : Sv [Y] r.b.v 1 (eU .u8 (w := 8)) r.b.l r.b.ao r.b.cap) (hne : x.e.b ≠ r.b.l) : Ct Try.prog 31 [.pointer (some ⟨b, 0, none⟩), .agg (eRq r).toArray] [cl b 40 [.bool true, .int .i64 room, .int .i64 tick, .int .i64 (((usedE (A ++ x :: B)) : Nat) : Int), .map (some m)], mpP m kfK vfP ((A ++ x :: B).map En.kp), star (FEn 85 5) (A ++ x :: B), Y] (fun _ : Unit => .agg [.int .u8 4, .slice none 0 0, .slice none 0 0].toArray) (fun _ => [cl b 40 [.bool true, .int .i64 room, .int .i64 tick, .int .i64 (((usedE (A ++ x :: B)) : Nat) : Int), .map (some m)], mpP m kfK vfP ((A ++ x :: B).map En.kp), star (FEn 85 5) (A ++ x :: B), Y]) := by
 refine Ct_body (n := 107) Try.func31 rfl rfl rfl fun F w0 Q hret hnorm hp => ?_
 change WC _ _ _ _ _ _ _ (_ :: _ :: _ :: _ :: F)
 refine WC_enopen 85 5 A x B ?_
 refine WC_fact (fun w h => arr_facts (a := x.a) (cap := x.cap) (e := 1) (T := 5) (f := (eU .u8 (w := 8))) (l := x.e.b) hasA h) (fun hxf => ?_)
 have hxS : Sv [arr x.a x.cap 1 5 (eU .u8 (w := 8)) x.e.b] (sl x.a x.e.b.length x.cap) 1 (eU .u8 (w := 8)) x.e.b (x.a.map fun g => ⟨g, 0, none⟩) x.cap := Sv_own' (T := 5) (encU .u8 (w := 8)) hxf.1 hxf.2
 refine WC_sr fun K1 hK1 => ?_
 refine WL_ac (Ac_box (xs := eRq r) rfl rfl) rfl rfl rfl ?_
 rintro _ _ ⟨b3, rfl, rfl⟩
 refine WL_ac (Ac_alloc zr45) rfl rfl rfl ?_
 rintro _ _ ⟨b4, rfl, rfl⟩
 refine WL_end hK1 ?_
 refine WC_sr fun K2 hK2 => ?_
 refine WL_r (Rd_fieldAddr rfl fo30_1) rfl ?_
 refine WL_r (Rd_loadg (vs := r.ix.l.flatMap (eU .u8)) rfl tk24 (hl := by rw [eRq_len]; omega) (hi := eRq_ix r)) rfl ?_
 refine WL_r (Rd_fieldAddr rfl fo30_2) rfl ?_
 refine WL_r (Rd_load rfl tk3 (v := .int .i64 r.num) (hi := eRq_num r)) rfl ?_
 refine WL_r (Rd_valE (v := kfK (r.ix, r.num)) (Rd_build pls81 rfl (hf := key_fill _ _)) rfl) rfl ?_
 refine WL_ac (Ac_alloc zr81) rfl rfl rfl ?_
 rintro _ _ ⟨b5, rfl, rfl⟩
 refine WL_ac0 (Ac_store (ys := kcK (r.ix, r.num)) rfl rfl sz81 (h1 := encK.one _) (hv := by simpa [Value.cells, kfK] using kcK_len (r.ix, r.num)) (hr := by simp [Value.cells, kfK])) rfl rfl ?_
 rintro _ _ rfl
 refine WL_end hK2 ?_
 refine WC_seq fun K3 hK3 => ?_
 refine WC_drawA mix (fun i => ([2, 2, 2, 2, 2, 2, 2, 2, 2, 2, 2] : List Nat).getD i 0) ?_
 refine WJ_tp 0 rfl (Rd_move rfl) rfl (hp _ _) ?_
 refine WJ_tp 1 rfl (Rd_nilCheck rfl) rfl (hp _ _) ?_
 refine WJ_tp 2 rfl (Rd_fieldAddr rfl fo40_4) rfl (hp _ _) ?_
 refine WJ_tk 3 (Rd_load rfl tk38 (v := .map (some m))) hp ?_ rfl (by kernel_rfl) rfl rfl rfl
 refine WJ_tk 4 (Rd_loadg (vs := kcK (r.ix, r.num)) rfl tk81 (hl := by rw [kcK_len]; omega) (hi := by rw [List.drop_zero]; exact List.take_of_length_le (Nat.le_of_eq (kcK_len (r.ix, r.num))))) hp ?_ rfl (by kernel_rfl) rfl rfl rfl
 refine WJ_tk 5 (Rd_valE (v := .tuple #[.pointer (some ⟨x.p, 0, none⟩), .bool true]) (Rd_lookP2 keyK rfl rfl ud38 zvP) (by rw [lookE, hf]; rfl)) hp ?_ rfl (by kernel_rfl) rfl rfl rfl
 refine WJ_tp 6 rfl (Rd_move rfl) rfl (hp _ _) ?_
 refine WJ_tp 7 rfl (Rd_ext0 rfl) rfl (hp _ _) ?_
 refine WJ_tp 8 rfl (Rd_ext1 rfl) rfl (hp _ _) ?_
 refine WJ_tp 9 rfl (Rd_assign rfl) rfl (hp _ _) ?_
 refine WJ_tp 10 rfl (Rd_assign rfl) rfl (hp _ _) ?_
 refine WJ_done (by kernel_rfl) ?_
 refine Ps_next hK3 ?_
 refine WC_seq fun K4 hK4 => ?_
 refine WC_sr fun K5 hK5 => ?_
 refine WL_r (Rd_move rfl) rfl ?_
 refine WL_r (Rd_not rfl) rfl ?_
 refine WL_end hK5 ?_
 refine WC_condF rfl ?_
 refine WC_skip ?_
 refine Ps_next hK4 ?_
 refine WC_seq fun K6 hK6 => ?_
 refine WC_drawA mix (fun i => ([2, 2, 2, 2, 2, 2, 2, 2, 2, 2, 2, 2, 2] : List Nat).getD i 0) ?_
 refine WJ_tp 0 rfl (Rd_move rfl) rfl (hp _ _) ?_
 refine WJ_tp 1 rfl (Rd_nilCheck rfl) rfl (hp _ _) ?_
 refine WJ_tp 2 rfl (Rd_fieldAddr rfl fo85_1) rfl (hp _ _) ?_
 refine WJ_tk 3 (Rd_load rfl tk83 (v := .map (some x.m))) hp ?_ rfl (by kernel_rfl) rfl rfl rfl
 refine WJ_tp 4 rfl (Rd_fieldAddr rfl fo30_5) rfl (hp _ _) ?_
 refine WJ_tp 5 rfl (Rd_fieldAddr rfl fo27_0) rfl (hp _ _) ?_
 refine WJ_tk 6 (Rd_load rfl tk25 (v := .int .u32 ((r.who.toNat : Nat) : Int)) (hi := eRq_who r)) hp ?_ rfl (by kernel_rfl) rfl rfl rfl
 refine WJ_tk 7 (Rd_valE (v := .tuple #[((getL r.who x.e.ls).map vfI).getD (.int .i64 0), .bool (hasW r.who x.e.ls)]) (Rd_lookP2 keyW rfl rfl ud83 zvW) (by rw [getW_has])) hp ?_ rfl (by kernel_rfl) rfl rfl rfl
 refine WJ_tp 8 rfl (Rd_move rfl) rfl (hp _ _) ?_
 refine WJ_tp 9 rfl (Rd_ext0 rfl) rfl (hp _ _) ?_
 refine WJ_tp 10 rfl (Rd_ext1 rfl) rfl (hp _ _) ?_
 refine WJ_tp 11 rfl (Rd_assign rfl) rfl (hp _ _) ?_
 refine WJ_tp 12 rfl (Rd_assign rfl) rfl (hp _ _) ?_
 refine WJ_done (by kernel_rfl) ?_
 refine Ps_next hK6 ?_
 refine WC_seq fun K7 hK7 => ?_
 refine WC_block ?_
 refine WC_seq fun K8 hK8 => ?_
 refine WC_drawA mix (fun i => ([2, 2, 2, 2, 2, 2, 1, 2, 2] : List Nat).getD i 0) ?_
 refine WJ_tp 0 rfl (Rd_move rfl) rfl (hp _ _) ?_
 refine WJ_tp 1 rfl (Rd_nilCheck rfl) rfl (hp _ _) ?_
 refine WJ_tp 2 rfl (Rd_fieldAddr rfl fo85_0) rfl (hp _ _) ?_
 refine WJ_tk 3 (Rd_load rfl tk28 (v := sl x.a x.e.b.length x.cap)) hp ?_ rfl (by kernel_rfl) rfl rfl rfl
 refine WJ_tp 4 rfl (Rd_fieldAddr rfl fo30_6) rfl (hp _ _) ?_
 refine WJ_tk 5 (Rd_load rfl tk28 (v := r.b.v) (hi := eRq_b r)) hp ?_ rfl (by kernel_rfl) rfl rfl rfl
 refine WJ_all (rs := [6]) (by kernel_rfl) rfl ?_
 refine WI_one ?_
 refine WI_ac rfl (Ac_call cf49 rfl (hs := Ct.un0 (Xs := [arr x.a x.cap 1 5 (eU .u8 (w := 8)) x.e.b, Y]) (equal_ct (X := sep [arr x.a x.cap 1 5 (eU .u8 (w := 8)) x.e.b, Y]) (l := x.e.b) (l' := r.b.l) (hS := hxS.pk hasA) (hS' := hB.pk hasA)))) rfl rfl rfl rfl ?_
 rintro _ _ ⟨⟨⟩, rfl, hA⟩
 simp only [List.cons_append, List.nil_append] at hA
 replace hA := hA.symm
 subst hA
 refine ⟨(fun _ => subA), ?_⟩
 refine WJ_tp 7 rfl (Rd_not rfl) rfl (hp _ _) ?_
 refine WJ_tp 8 rfl (Rd_assign rfl) rfl (hp _ _) ?_
 refine WJ_done (by kernel_rfl) ?_
 refine Ps_next hK8 ?_
 refine WC_cond rfl (fun hc2 => ?_) (fun hc2 => ?_)
 ·try simp only [dz, ne_eq] at hc2
  refine WC_sr fun K9 hK9 => ?_
  refine WL_r (Rd_build pls45 rfl) rfl ?_
  refine WL_ac0 (Ac_store (ys := [.int .u8 4, .slice none 0 0, .slice none 0 0]) rfl rfl sz45 (h1 := by simp [setAt, Value.cells, Value.oneCell', sl]) (hr := rfl)) rfl rfl ?_
  rintro _ _ rfl
  refine WL_end hK9 ?_
  refine WC_ret ?_
  refine Ps_enclose 85 5 A x B ?_
  exact hret.go () (Rs1c rfl rfl tk45)
 ·try simp only [dz, ne_eq] at hc2
  exact absurd hc2 hne

theorem store_many {b m : Nat} {room tick : Int} {A B : List En} {x : En} {r : Rq} {Y : Asn} (hf : findE (r.ix, r.num) (A ++ x :: B) = some x) (hB : Sv [Y] r.b.v 1 (eU .u8 (w := 8)) r.b.l r.b.ao r.b.cap) (he : x.e.b = r.b.l) (hno : (hasW r.who x.e.ls) = false) (h64 : 64 ≤ x.e.ls.length) : Ct Try.prog 31 [.pointer (some ⟨b, 0, none⟩), .agg (eRq r).toArray] [cl b 40 [.bool true, .int .i64 room, .int .i64 tick, .int .i64 (((usedE (A ++ x :: B)) : Nat) : Int), .map (some m)], mpP m kfK vfP ((A ++ x :: B).map En.kp), star (FEn 85 5) (A ++ x :: B), Y] (fun _ : Unit => .agg [.int .u8 3, .slice none 0 0, .slice none 0 0].toArray) (fun _ => [cl b 40 [.bool true, .int .i64 room, .int .i64 tick, .int .i64 (((usedE (A ++ x :: B)) : Nat) : Int), .map (some m)], mpP m kfK vfP ((A ++ x :: B).map En.kp), star (FEn 85 5) (A ++ x :: B), Y]) := by
 refine Ct_body (n := 107) Try.func31 rfl rfl rfl fun F w0 Q hret hnorm hp => ?_
 change WC _ _ _ _ _ _ _ (_ :: _ :: _ :: _ :: F)
 refine WC_enopen 85 5 A x B ?_
 refine WC_fact (fun w h => arr_facts (a := x.a) (cap := x.cap) (e := 1) (T := 5) (f := (eU .u8 (w := 8))) (l := x.e.b) hasA h) (fun hxf => ?_)
 have hxS : Sv [arr x.a x.cap 1 5 (eU .u8 (w := 8)) x.e.b] (sl x.a x.e.b.length x.cap) 1 (eU .u8 (w := 8)) x.e.b (x.a.map fun g => ⟨g, 0, none⟩) x.cap := Sv_own' (T := 5) (encU .u8 (w := 8)) hxf.1 hxf.2
 refine WC_sr fun K1 hK1 => ?_
 refine WL_ac (Ac_box (xs := eRq r) rfl rfl) rfl rfl rfl ?_
 rintro _ _ ⟨b3, rfl, rfl⟩
 refine WL_ac (Ac_alloc zr45) rfl rfl rfl ?_
 rintro _ _ ⟨b4, rfl, rfl⟩
 refine WL_end hK1 ?_
 refine WC_sr fun K2 hK2 => ?_
 refine WL_r (Rd_fieldAddr rfl fo30_1) rfl ?_
 refine WL_r (Rd_loadg (vs := r.ix.l.flatMap (eU .u8)) rfl tk24 (hl := by rw [eRq_len]; omega) (hi := eRq_ix r)) rfl ?_
 refine WL_r (Rd_fieldAddr rfl fo30_2) rfl ?_
 refine WL_r (Rd_load rfl tk3 (v := .int .i64 r.num) (hi := eRq_num r)) rfl ?_
 refine WL_r (Rd_valE (v := kfK (r.ix, r.num)) (Rd_build pls81 rfl (hf := key_fill _ _)) rfl) rfl ?_
 refine WL_ac (Ac_alloc zr81) rfl rfl rfl ?_
 rintro _ _ ⟨b5, rfl, rfl⟩
 refine WL_ac0 (Ac_store (ys := kcK (r.ix, r.num)) rfl rfl sz81 (h1 := encK.one _) (hv := by simpa [Value.cells, kfK] using kcK_len (r.ix, r.num)) (hr := by simp [Value.cells, kfK])) rfl rfl ?_
 rintro _ _ rfl
 refine WL_end hK2 ?_
 refine WC_seq fun K3 hK3 => ?_
 refine WC_drawA mix (fun i => ([2, 2, 2, 2, 2, 2, 2, 2, 2, 2, 2] : List Nat).getD i 0) ?_
 refine WJ_tp 0 rfl (Rd_move rfl) rfl (hp _ _) ?_
 refine WJ_tp 1 rfl (Rd_nilCheck rfl) rfl (hp _ _) ?_
 refine WJ_tp 2 rfl (Rd_fieldAddr rfl fo40_4) rfl (hp _ _) ?_
 refine WJ_tk 3 (Rd_load rfl tk38 (v := .map (some m))) hp ?_ rfl (by kernel_rfl) rfl rfl rfl
 refine WJ_tk 4 (Rd_loadg (vs := kcK (r.ix, r.num)) rfl tk81 (hl := by rw [kcK_len]; omega) (hi := by rw [List.drop_zero]; exact List.take_of_length_le (Nat.le_of_eq (kcK_len (r.ix, r.num))))) hp ?_ rfl (by kernel_rfl) rfl rfl rfl
 refine WJ_tk 5 (Rd_valE (v := .tuple #[.pointer (some ⟨x.p, 0, none⟩), .bool true]) (Rd_lookP2 keyK rfl rfl ud38 zvP) (by rw [lookE, hf]; rfl)) hp ?_ rfl (by kernel_rfl) rfl rfl rfl
 refine WJ_tp 6 rfl (Rd_move rfl) rfl (hp _ _) ?_
 refine WJ_tp 7 rfl (Rd_ext0 rfl) rfl (hp _ _) ?_
 refine WJ_tp 8 rfl (Rd_ext1 rfl) rfl (hp _ _) ?_
 refine WJ_tp 9 rfl (Rd_assign rfl) rfl (hp _ _) ?_
 refine WJ_tp 10 rfl (Rd_assign rfl) rfl (hp _ _) ?_
 refine WJ_done (by kernel_rfl) ?_
 refine Ps_next hK3 ?_
 refine WC_seq fun K4 hK4 => ?_
 refine WC_sr fun K5 hK5 => ?_
 refine WL_r (Rd_move rfl) rfl ?_
 refine WL_r (Rd_not rfl) rfl ?_
 refine WL_end hK5 ?_
 refine WC_condF rfl ?_
 refine WC_skip ?_
 refine Ps_next hK4 ?_
 refine WC_seq fun K6 hK6 => ?_
 refine WC_drawA mix (fun i => ([2, 2, 2, 2, 2, 2, 2, 2, 2, 2, 2, 2, 2] : List Nat).getD i 0) ?_
 refine WJ_tp 0 rfl (Rd_move rfl) rfl (hp _ _) ?_
 refine WJ_tp 1 rfl (Rd_nilCheck rfl) rfl (hp _ _) ?_
 refine WJ_tp 2 rfl (Rd_fieldAddr rfl fo85_1) rfl (hp _ _) ?_
 refine WJ_tk 3 (Rd_load rfl tk83 (v := .map (some x.m))) hp ?_ rfl (by kernel_rfl) rfl rfl rfl
 refine WJ_tp 4 rfl (Rd_fieldAddr rfl fo30_5) rfl (hp _ _) ?_
 refine WJ_tp 5 rfl (Rd_fieldAddr rfl fo27_0) rfl (hp _ _) ?_
 refine WJ_tk 6 (Rd_load rfl tk25 (v := .int .u32 ((r.who.toNat : Nat) : Int)) (hi := eRq_who r)) hp ?_ rfl (by kernel_rfl) rfl rfl rfl
 refine WJ_tk 7 (Rd_valE (v := .tuple #[((getL r.who x.e.ls).map vfI).getD (.int .i64 0), .bool (hasW r.who x.e.ls)]) (Rd_lookP2 keyW rfl rfl ud83 zvW) (by rw [getW_has])) hp ?_ rfl (by kernel_rfl) rfl rfl rfl
 refine WJ_tp 8 rfl (Rd_move rfl) rfl (hp _ _) ?_
 refine WJ_tp 9 rfl (Rd_ext0 rfl) rfl (hp _ _) ?_
 refine WJ_tp 10 rfl (Rd_ext1 rfl) rfl (hp _ _) ?_
 refine WJ_tp 11 rfl (Rd_assign rfl) rfl (hp _ _) ?_
 refine WJ_tp 12 rfl (Rd_assign rfl) rfl (hp _ _) ?_
 refine WJ_done (by kernel_rfl) ?_
 refine Ps_next hK6 ?_
 refine WC_seq fun K7 hK7 => ?_
 refine WC_block ?_
 refine WC_seq fun K8 hK8 => ?_
 refine WC_drawA mix (fun i => ([2, 2, 2, 2, 2, 2, 1, 2, 2] : List Nat).getD i 0) ?_
 refine WJ_tp 0 rfl (Rd_move rfl) rfl (hp _ _) ?_
 refine WJ_tp 1 rfl (Rd_nilCheck rfl) rfl (hp _ _) ?_
 refine WJ_tp 2 rfl (Rd_fieldAddr rfl fo85_0) rfl (hp _ _) ?_
 refine WJ_tk 3 (Rd_load rfl tk28 (v := sl x.a x.e.b.length x.cap)) hp ?_ rfl (by kernel_rfl) rfl rfl rfl
 refine WJ_tp 4 rfl (Rd_fieldAddr rfl fo30_6) rfl (hp _ _) ?_
 refine WJ_tk 5 (Rd_load rfl tk28 (v := r.b.v) (hi := eRq_b r)) hp ?_ rfl (by kernel_rfl) rfl rfl rfl
 refine WJ_all (rs := [6]) (by kernel_rfl) rfl ?_
 refine WI_one ?_
 refine WI_ac rfl (Ac_call cf49 rfl (hs := Ct.un0 (Xs := [arr x.a x.cap 1 5 (eU .u8 (w := 8)) x.e.b, Y]) (equal_ct (X := sep [arr x.a x.cap 1 5 (eU .u8 (w := 8)) x.e.b, Y]) (l := x.e.b) (l' := r.b.l) (hS := hxS.pk hasA) (hS' := hB.pk hasA)))) rfl rfl rfl rfl ?_
 rintro _ _ ⟨⟨⟩, rfl, hA⟩
 simp only [List.cons_append, List.nil_append] at hA
 replace hA := hA.symm
 subst hA
 refine ⟨(fun _ => subA), ?_⟩
 refine WJ_tp 7 rfl (Rd_not rfl) rfl (hp _ _) ?_
 refine WJ_tp 8 rfl (Rd_assign rfl) rfl (hp _ _) ?_
 refine WJ_done (by kernel_rfl) ?_
 refine Ps_next hK8 ?_
 refine WC_cond rfl (fun hc2 => ?_) (fun hc2 => ?_)
 ·try simp only [dz, ne_eq] at hc2
  exact absurd he hc2
 ·try simp only [dz, ne_eq] at hc2
  refine WC_sr fun K9 hK9 => ?_
  refine WL_r (Rd_move rfl) rfl ?_
  refine WL_r (Rd_not rfl) rfl ?_
  refine WL_r (Rd_move rfl) rfl ?_
  refine WL_bool 93 rfl (fun hg10 => ?_) (fun hg10 => ?_)
  ·try simp only [dz, ne_eq] at hg10
   refine WL_r (Rd_move rfl) rfl ?_
   refine WL_r (Rd_nilCheck rfl) rfl ?_
   refine WL_r (Rd_fieldAddr rfl fo85_1) rfl ?_
   refine WL_r (Rd_load rfl tk83 (v := .map (some x.m))) rfl ?_
   refine WL_r (Rd_lenP rfl rfl ud83) rfl ?_
   refine WL_r (Rd_geqN (j := 64) rfl rfl) rfl ?_
   refine WL_r (Rd_pickT rfl rfl) rfl ?_
   refine WL_r (Rd_assign rfl) rfl ?_
   refine WL_end hK9 ?_
   refine WC_cond rfl (fun hc3 => ?_) (fun hc3 => ?_)
   ·try simp only [dz, ne_eq] at hc3
    refine WC_sr fun K11 hK11 => ?_
    refine WL_r (Rd_build pls45 rfl) rfl ?_
    refine WL_ac0 (Ac_store (ys := [.int .u8 3, .slice none 0 0, .slice none 0 0]) rfl rfl sz45 (h1 := by simp [setAt, Value.cells, Value.oneCell', sl]) (hr := rfl)) rfl rfl ?_
    rintro _ _ rfl
    refine WL_end hK11 ?_
    refine WC_ret ?_
    refine Ps_enclose 85 5 A x B ?_
    exact hret.go () (Rs1c rfl rfl tk45)
   ·try simp only [dz, ne_eq] at hc3
    first | omega | (exact absurd hno (by simp_all))
  ·try simp only [dz, ne_eq] at hg10
   refine WL_skip rfl rfl rfl ?_
   refine WL_skip rfl rfl rfl ?_
   refine WL_skip rfl rfl rfl ?_
   refine WL_skip rfl rfl rfl ?_
   refine WL_skip rfl rfl rfl ?_
   refine WL_skip rfl rfl rfl ?_
   refine WL_r (Rd_pickF rfl rfl) rfl ?_
   refine WL_r (Rd_assign rfl) rfl ?_
   refine WL_end hK9 ?_
   refine WC_condF rfl ?_
   first | omega | (exact absurd hno (by simp_all))

theorem store_laid {b m : Nat} {room tick : Int} {A B : List En} {x : En} {r : Rq} {Y : Asn} (hf : findE (r.ix, r.num) (A ++ x :: B) = some x) (hB : Sv [Y] r.b.v 1 (eU .u8 (w := 8)) r.b.l r.b.ao r.b.cap) (he : x.e.b = r.b.l) (hok : (hasW r.who x.e.ls) = true ∨ x.e.ls.length < 64) (hls : SrtW x.e.ls) (hun : 0 ≤ r.un) : Ct Try.prog 31 [.pointer (some ⟨b, 0, none⟩), .agg (eRq r).toArray] [cl b 40 [.bool true, .int .i64 room, .int .i64 tick, .int .i64 (((usedE (A ++ x :: B)) : Nat) : Int), .map (some m)], mpP m kfK vfP ((A ++ x :: B).map En.kp), star (FEn 85 5) (A ++ x :: B), Y] (fun _ : Unit => .agg [.int .u8 2, .slice none 0 0, .slice none 0 0].toArray) (fun _ => [cl b 40 [.bool true, .int .i64 room, .int .i64 tick, .int .i64 (((usedE (A ++ x.put (x.e.with (layL r.who r.un x.e.ls)) :: B)) : Nat) : Int), .map (some m)], mpP m kfK vfP ((A ++ x.put (x.e.with (layL r.who r.un x.e.ls)) :: B).map En.kp), star (FEn 85 5) (A ++ x.put (x.e.with (layL r.who r.un x.e.ls)) :: B), Y]) := by
 refine Ct_body (n := 107) Try.func31 rfl rfl rfl fun F w0 Q hret hnorm hp => ?_
 change WC _ _ _ _ _ _ _ (_ :: _ :: _ :: _ :: F)
 refine WC_enopen 85 5 A x B ?_
 refine WC_fact (fun w h => arr_facts (a := x.a) (cap := x.cap) (e := 1) (T := 5) (f := (eU .u8 (w := 8))) (l := x.e.b) hasA h) (fun hxf => ?_)
 have hxS : Sv [arr x.a x.cap 1 5 (eU .u8 (w := 8)) x.e.b] (sl x.a x.e.b.length x.cap) 1 (eU .u8 (w := 8)) x.e.b (x.a.map fun g => ⟨g, 0, none⟩) x.cap := Sv_own' (T := 5) (encU .u8 (w := 8)) hxf.1 hxf.2
 refine WC_sr fun K1 hK1 => ?_
 refine WL_ac (Ac_box (xs := eRq r) rfl rfl) rfl rfl rfl ?_
 rintro _ _ ⟨b3, rfl, rfl⟩
 refine WL_ac (Ac_alloc zr45) rfl rfl rfl ?_
 rintro _ _ ⟨b4, rfl, rfl⟩
 refine WL_end hK1 ?_
 refine WC_sr fun K2 hK2 => ?_
 refine WL_r (Rd_fieldAddr rfl fo30_1) rfl ?_
 refine WL_r (Rd_loadg (vs := r.ix.l.flatMap (eU .u8)) rfl tk24 (hl := by rw [eRq_len]; omega) (hi := eRq_ix r)) rfl ?_
 refine WL_r (Rd_fieldAddr rfl fo30_2) rfl ?_
 refine WL_r (Rd_load rfl tk3 (v := .int .i64 r.num) (hi := eRq_num r)) rfl ?_
 refine WL_r (Rd_valE (v := kfK (r.ix, r.num)) (Rd_build pls81 rfl (hf := key_fill _ _)) rfl) rfl ?_
 refine WL_ac (Ac_alloc zr81) rfl rfl rfl ?_
 rintro _ _ ⟨b5, rfl, rfl⟩
 refine WL_ac0 (Ac_store (ys := kcK (r.ix, r.num)) rfl rfl sz81 (h1 := encK.one _) (hv := by simpa [Value.cells, kfK] using kcK_len (r.ix, r.num)) (hr := by simp [Value.cells, kfK])) rfl rfl ?_
 rintro _ _ rfl
 refine WL_end hK2 ?_
 refine WC_seq fun K3 hK3 => ?_
 refine WC_drawA mix (fun i => ([2, 2, 2, 2, 2, 2, 2, 2, 2, 2, 2] : List Nat).getD i 0) ?_
 refine WJ_tp 0 rfl (Rd_move rfl) rfl (hp _ _) ?_
 refine WJ_tp 1 rfl (Rd_nilCheck rfl) rfl (hp _ _) ?_
 refine WJ_tp 2 rfl (Rd_fieldAddr rfl fo40_4) rfl (hp _ _) ?_
 refine WJ_tk 3 (Rd_load rfl tk38 (v := .map (some m))) hp ?_ rfl (by kernel_rfl) rfl rfl rfl
 refine WJ_tk 4 (Rd_loadg (vs := kcK (r.ix, r.num)) rfl tk81 (hl := by rw [kcK_len]; omega) (hi := by rw [List.drop_zero]; exact List.take_of_length_le (Nat.le_of_eq (kcK_len (r.ix, r.num))))) hp ?_ rfl (by kernel_rfl) rfl rfl rfl
 refine WJ_tk 5 (Rd_valE (v := .tuple #[.pointer (some ⟨x.p, 0, none⟩), .bool true]) (Rd_lookP2 keyK rfl rfl ud38 zvP) (by rw [lookE, hf]; rfl)) hp ?_ rfl (by kernel_rfl) rfl rfl rfl
 refine WJ_tp 6 rfl (Rd_move rfl) rfl (hp _ _) ?_
 refine WJ_tp 7 rfl (Rd_ext0 rfl) rfl (hp _ _) ?_
 refine WJ_tp 8 rfl (Rd_ext1 rfl) rfl (hp _ _) ?_
 refine WJ_tp 9 rfl (Rd_assign rfl) rfl (hp _ _) ?_
 refine WJ_tp 10 rfl (Rd_assign rfl) rfl (hp _ _) ?_
 refine WJ_done (by kernel_rfl) ?_
 refine Ps_next hK3 ?_
 refine WC_seq fun K4 hK4 => ?_
 refine WC_sr fun K5 hK5 => ?_
 refine WL_r (Rd_move rfl) rfl ?_
 refine WL_r (Rd_not rfl) rfl ?_
 refine WL_end hK5 ?_
 refine WC_condF rfl ?_
 refine WC_skip ?_
 refine Ps_next hK4 ?_
 refine WC_seq fun K6 hK6 => ?_
 refine WC_drawA mix (fun i => ([2, 2, 2, 2, 2, 2, 2, 2, 2, 2, 2, 2, 2] : List Nat).getD i 0) ?_
 refine WJ_tp 0 rfl (Rd_move rfl) rfl (hp _ _) ?_
 refine WJ_tp 1 rfl (Rd_nilCheck rfl) rfl (hp _ _) ?_
 refine WJ_tp 2 rfl (Rd_fieldAddr rfl fo85_1) rfl (hp _ _) ?_
 refine WJ_tk 3 (Rd_load rfl tk83 (v := .map (some x.m))) hp ?_ rfl (by kernel_rfl) rfl rfl rfl
 refine WJ_tp 4 rfl (Rd_fieldAddr rfl fo30_5) rfl (hp _ _) ?_
 refine WJ_tp 5 rfl (Rd_fieldAddr rfl fo27_0) rfl (hp _ _) ?_
 refine WJ_tk 6 (Rd_load rfl tk25 (v := .int .u32 ((r.who.toNat : Nat) : Int)) (hi := eRq_who r)) hp ?_ rfl (by kernel_rfl) rfl rfl rfl
 refine WJ_tk 7 (Rd_valE (v := .tuple #[((getL r.who x.e.ls).map vfI).getD (.int .i64 0), .bool (hasW r.who x.e.ls)]) (Rd_lookP2 keyW rfl rfl ud83 zvW) (by rw [getW_has])) hp ?_ rfl (by kernel_rfl) rfl rfl rfl
 refine WJ_tp 8 rfl (Rd_move rfl) rfl (hp _ _) ?_
 refine WJ_tp 9 rfl (Rd_ext0 rfl) rfl (hp _ _) ?_
 refine WJ_tp 10 rfl (Rd_ext1 rfl) rfl (hp _ _) ?_
 refine WJ_tp 11 rfl (Rd_assign rfl) rfl (hp _ _) ?_
 refine WJ_tp 12 rfl (Rd_assign rfl) rfl (hp _ _) ?_
 refine WJ_done (by kernel_rfl) ?_
 refine Ps_next hK6 ?_
 refine WC_seq fun K7 hK7 => ?_
 refine WC_block ?_
 refine WC_seq fun K8 hK8 => ?_
 refine WC_drawA mix (fun i => ([2, 2, 2, 2, 2, 2, 1, 2, 2] : List Nat).getD i 0) ?_
 refine WJ_tp 0 rfl (Rd_move rfl) rfl (hp _ _) ?_
 refine WJ_tp 1 rfl (Rd_nilCheck rfl) rfl (hp _ _) ?_
 refine WJ_tp 2 rfl (Rd_fieldAddr rfl fo85_0) rfl (hp _ _) ?_
 refine WJ_tk 3 (Rd_load rfl tk28 (v := sl x.a x.e.b.length x.cap)) hp ?_ rfl (by kernel_rfl) rfl rfl rfl
 refine WJ_tp 4 rfl (Rd_fieldAddr rfl fo30_6) rfl (hp _ _) ?_
 refine WJ_tk 5 (Rd_load rfl tk28 (v := r.b.v) (hi := eRq_b r)) hp ?_ rfl (by kernel_rfl) rfl rfl rfl
 refine WJ_all (rs := [6]) (by kernel_rfl) rfl ?_
 refine WI_one ?_
 refine WI_ac rfl (Ac_call cf49 rfl (hs := Ct.un0 (Xs := [arr x.a x.cap 1 5 (eU .u8 (w := 8)) x.e.b, Y]) (equal_ct (X := sep [arr x.a x.cap 1 5 (eU .u8 (w := 8)) x.e.b, Y]) (l := x.e.b) (l' := r.b.l) (hS := hxS.pk hasA) (hS' := hB.pk hasA)))) rfl rfl rfl rfl ?_
 rintro _ _ ⟨⟨⟩, rfl, hA⟩
 simp only [List.cons_append, List.nil_append] at hA
 replace hA := hA.symm
 subst hA
 refine ⟨(fun _ => subA), ?_⟩
 refine WJ_tp 7 rfl (Rd_not rfl) rfl (hp _ _) ?_
 refine WJ_tp 8 rfl (Rd_assign rfl) rfl (hp _ _) ?_
 refine WJ_done (by kernel_rfl) ?_
 refine Ps_next hK8 ?_
 refine WC_cond rfl (fun hc2 => ?_) (fun hc2 => ?_)
 ·try simp only [dz, ne_eq] at hc2
  exact absurd he hc2
 ·try simp only [dz, ne_eq] at hc2
  refine WC_sr fun K9 hK9 => ?_
  refine WL_r (Rd_move rfl) rfl ?_
  refine WL_r (Rd_not rfl) rfl ?_
  refine WL_r (Rd_move rfl) rfl ?_
  refine WL_bool 93 rfl (fun hg10 => ?_) (fun hg10 => ?_)
  ·try simp only [dz, ne_eq] at hg10
   refine WL_r (Rd_move rfl) rfl ?_
   refine WL_r (Rd_nilCheck rfl) rfl ?_
   refine WL_r (Rd_fieldAddr rfl fo85_1) rfl ?_
   refine WL_r (Rd_load rfl tk83 (v := .map (some x.m))) rfl ?_
   refine WL_r (Rd_lenP rfl rfl ud83) rfl ?_
   refine WL_r (Rd_geqN (j := 64) rfl rfl) rfl ?_
   refine WL_r (Rd_pickT rfl rfl) rfl ?_
   refine WL_r (Rd_assign rfl) rfl ?_
   refine WL_end hK9 ?_
   refine WC_cond rfl (fun hc3 => ?_) (fun hc3 => ?_)
   ·try simp only [dz, ne_eq] at hc3
    rcases hok with q | q <;> simp_all <;> omega
   ·try simp only [dz, ne_eq] at hc3
    refine WC_skip ?_
    refine Ps_next hK7 ?_
    refine WC_sr fun K11 hK11 => ?_
    refine WL_r (Rd_move rfl) rfl ?_
    refine WL_r (Rd_fieldAddr rfl fo30_5) rfl ?_
    refine WL_r (Rd_loadg (vs := [.int .u32 (r.who.toNat : Int), .int .i64 r.un]) rfl tk27 (hl := by rw [eRq_len]; omega) (hi := eRq_ls r)) rfl ?_
    refine WL_ac (Ac_call cf50 rfl (hs := lay_ct (p := x.p) (mm := x.m) (w := r.who) (u := r.un) (ls := x.e.ls) hls hun)) rfl rfl rfl ?_
    rintro _ _ ⟨⟨⟩, rfl, hA⟩
    simp only [List.cons_append, List.nil_append] at hA
    replace hA := hA.symm
    subst hA
    refine WL_end hK11 ?_
    refine WC_sr fun K12 hK12 => ?_
    refine WL_r (Rd_build pls45 rfl) rfl ?_
    refine WL_ac0 (Ac_store (ys := [.int .u8 2, .slice none 0 0, .slice none 0 0]) rfl rfl sz45 (h1 := by simp [setAt, Value.cells, Value.oneCell', sl]) (hr := rfl)) rfl rfl ?_
    rintro _ _ rfl
    refine WL_end hK12 ?_
    refine WC_ret ?_
    refine Ps_enshutL 85 5 A x (layL r.who r.un x.e.ls) B ?_
    rw [show (A ++ x :: B).map En.kp = (A ++ x.put (x.e.with (layL r.who r.un x.e.ls)) :: B).map En.kp from by rw [List.map_append, List.map_append]; rfl, show usedE (A ++ x :: B) = usedE (A ++ x.put (x.e.with (layL r.who r.un x.e.ls)) :: B) from by rw [usedE_app, usedE_app, usedE_cons, usedE_cons]; rfl]
    exact hret.go () (Rs1c rfl rfl tk45)
  ·try simp only [dz, ne_eq] at hg10
   refine WL_skip rfl rfl rfl ?_
   refine WL_skip rfl rfl rfl ?_
   refine WL_skip rfl rfl rfl ?_
   refine WL_skip rfl rfl rfl ?_
   refine WL_skip rfl rfl rfl ?_
   refine WL_skip rfl rfl rfl ?_
   refine WL_r (Rd_pickF rfl rfl) rfl ?_
   refine WL_r (Rd_assign rfl) rfl ?_
   refine WL_end hK9 ?_
   refine WC_condF rfl ?_
   refine WC_skip ?_
   refine Ps_next hK7 ?_
   refine WC_sr fun K13 hK13 => ?_
   refine WL_r (Rd_move rfl) rfl ?_
   refine WL_r (Rd_fieldAddr rfl fo30_5) rfl ?_
   refine WL_r (Rd_loadg (vs := [.int .u32 (r.who.toNat : Int), .int .i64 r.un]) rfl tk27 (hl := by rw [eRq_len]; omega) (hi := eRq_ls r)) rfl ?_
   refine WL_ac (Ac_call cf50 rfl (hs := lay_ct (p := x.p) (mm := x.m) (w := r.who) (u := r.un) (ls := x.e.ls) hls hun)) rfl rfl rfl ?_
   rintro _ _ ⟨⟨⟩, rfl, hA⟩
   simp only [List.cons_append, List.nil_append] at hA
   replace hA := hA.symm
   subst hA
   refine WL_end hK13 ?_
   refine WC_sr fun K14 hK14 => ?_
   refine WL_r (Rd_build pls45 rfl) rfl ?_
   refine WL_ac0 (Ac_store (ys := [.int .u8 2, .slice none 0 0, .slice none 0 0]) rfl rfl sz45 (h1 := by simp [setAt, Value.cells, Value.oneCell', sl]) (hr := rfl)) rfl rfl ?_
   rintro _ _ rfl
   refine WL_end hK14 ?_
   refine WC_ret ?_
   refine Ps_enshutL 85 5 A x (layL r.who r.un x.e.ls) B ?_
   rw [show (A ++ x :: B).map En.kp = (A ++ x.put (x.e.with (layL r.who r.un x.e.ls)) :: B).map En.kp from by rw [List.map_append, List.map_append]; rfl, show usedE (A ++ x :: B) = usedE (A ++ x.put (x.e.with (layL r.who r.un x.e.ls)) :: B) from by rw [usedE_app, usedE_app, usedE_cons, usedE_cons]; rfl]
   exact hret.go () (Rs1c rfl rfl tk45)
end Go.Proofs.Ytoakfknnaiapiaa
namespace Go.Proofs.Ytoakfknnaiapiaa
open Go.RowKit Go.SL Go.ShM Go.SvM
set_option maxHeartbeats 1000000
set_option maxRecDepth 20000
set_option linter.all false
theorem cf51 : cfn Try.prog 51 = true := by kernel_rfl
theorem at_I {l : List Int} {i : Nat} (h : i < l.length) : l[i]? = some (l.getD i 0) := by rw [List.getD_eq_getElem?_getD, List.getElem?_eq_getElem h]; rfl

theorem dropP_ct {b m u : Nat} {room tick : Int} {k : Ky} {x : En} {l : List (Ky × Nat)} {ls : List Ls} (hu : x.e.b.length ≤ u) (hub : u ≤ 1099511627776) : Ct Try.prog 28 [.pointer (some ⟨b, 0, none⟩), kfK k, .pointer (some ⟨x.p, 0, none⟩)] [cl b 40 [.bool true, .int .i64 room, .int .i64 tick, .int .i64 ((u : Nat) : Int), .map (some m)], mpP m kfK vfP l, cl x.p 85 [sl x.a x.e.b.length x.cap, .map (some x.m)], arr x.a x.cap 1 5 (eU .u8 (w := 8)) x.e.b, mpP x.m kfW vfI ls] (fun _ : Unit => .tuple #[]) (fun _ => [cl b 40 [.bool true, .int .i64 room, .int .i64 tick, .int .i64 (((if ls = [] then u - x.e.b.length else u) : Nat) : Int), .map (some m)], mpP m kfK vfP (if ls = [] then delL k l else l), cl x.p 85 [sl x.a x.e.b.length x.cap, .map (some x.m)], arr x.a x.cap 1 5 (eU .u8 (w := 8)) x.e.b, mpP x.m kfW vfI ls]) := by
 refine Ct_body (n := 29) Try.func28 rfl rfl rfl fun F w0 Q hret hnorm hp => ?_
 change WC _ _ _ _ _ _ _ (_ :: _ :: _ :: _ :: _ :: F)
 refine WC_sr fun K1 hK1 => ?_
 refine WL_ac (Ac_box (xs := kcK k) rfl rfl) rfl rfl rfl ?_
 rintro _ _ ⟨b4, rfl, rfl⟩
 refine WL_end hK1 ?_
 refine WC_sr fun K2 hK2 => ?_
 refine WL_r (Rd_move rfl) rfl ?_
 refine WL_r (Rd_nilCheck rfl) rfl ?_
 refine WL_r (Rd_fieldAddr rfl fo85_1) rfl ?_
 refine WL_r (Rd_load rfl tk83 (v := .map (some x.m))) rfl ?_
 refine WL_r (Rd_lenP rfl rfl ud83) rfl ?_
 refine WL_r (Rd_eqlN (j := 0) rfl rfl) rfl ?_
 refine WL_end hK2 ?_
 refine WC_cond rfl (fun hc0 => ?_) (fun hc0 => ?_)
 ·try simp only [dz, ne_eq] at hc0
  have hls : ls = [] := List.eq_nil_of_length_eq_zero (by omega)
  rw [if_pos hls, if_pos hls] at hnorm
  refine WC_seq fun K3 hK3 => ?_
  refine WC_drawA mix (fun i => ([2, 2, 2, 2, 2, 2, 2, 2, 2, 2, 2, 2, 0] : List Nat).getD i 0) ?_
  refine WJ_tp 0 rfl (Rd_move rfl) rfl (hp _ _) ?_
  refine WJ_tp 1 rfl (Rd_nilCheck rfl) rfl (hp _ _) ?_
  refine WJ_tp 2 rfl (Rd_fieldAddr rfl fo40_3) rfl (hp _ _) ?_
  refine WJ_tk 3 (Rd_load rfl tk3) hp ?_ rfl (by kernel_rfl) rfl rfl rfl
  refine WJ_tp 4 rfl (Rd_move rfl) rfl (hp _ _) ?_
  refine WJ_tp 5 rfl (Rd_nilCheck rfl) rfl (hp _ _) ?_
  refine WJ_tp 6 rfl (Rd_fieldAddr rfl fo85_0) rfl (hp _ _) ?_
  refine WJ_tk 7 (Rd_load rfl tk28 (v := sl x.a x.e.b.length x.cap)) hp ?_ rfl (by kernel_rfl) rfl rfl rfl
  refine WJ_tp 8 rfl (Rd_len rfl rfl ud28) rfl (hp _ _) ?_
  refine WJ_tp 9 rfl (Rd_subN rfl rfl) rfl (hp _ _) ?_
  refine WJ_tp 10 rfl (Rd_nilCheck rfl) rfl (hp _ _) ?_
  refine WJ_tp 11 rfl (Rd_fieldAddr rfl fo40_3) rfl (hp _ _) ?_
  refine WJ_all (rs := [12]) (by kernel_rfl) rfl ?_
  refine WI_one ?_
  refine WI_ac0 rfl (Ac_store1 rfl rfl sz3) rfl rfl rfl ?_
  rintro _ _ rfl
  refine ⟨(fun h => by cases h), ?_⟩
  refine WJ_done (by kernel_rfl) ?_
  refine Ps_next hK3 ?_
  refine WC_drawA mix (fun i => ([2, 2, 2, 2, 2, 0] : List Nat).getD i 0) ?_
  refine WJ_tp 0 rfl (Rd_move rfl) rfl (hp _ _) ?_
  refine WJ_tp 1 rfl (Rd_nilCheck rfl) rfl (hp _ _) ?_
  refine WJ_tp 2 rfl (Rd_fieldAddr rfl fo40_4) rfl (hp _ _) ?_
  refine WJ_tk 3 (Rd_load rfl tk38 (v := .map (some m))) hp ?_ rfl (by kernel_rfl) rfl rfl rfl
  refine WJ_tk 4 (Rd_loadg (vs := kcK k) rfl tk81 (hl := by rw [kcK_len]; omega) (hi := by rw [List.drop_zero]; exact List.take_of_length_le (Nat.le_of_eq (kcK_len k)))) hp ?_ rfl (by kernel_rfl) rfl rfl rfl
  refine WJ_all (rs := [5]) (by kernel_rfl) rfl ?_
  refine WI_one ?_
  refine WI_ac0 rfl (Ac_delP keyK rfl rfl ud38) rfl rfl rfl ?_
  rintro _ _ rfl
  refine ⟨(fun h => by cases h), ?_⟩
  refine WJ_done (by kernel_rfl) ?_
  exact hnorm.go () (Rs0 rfl)
 ·try simp only [dz, ne_eq] at hc0
  have hls : ¬ ls = [] := fun e => hc0 (by rw [e]; rfl)
  rw [if_neg hls, if_neg hls] at hnorm
  refine WC_skip ?_
  exact hnorm.go () (Rs0 rfl)

theorem renew_ct {b m : Nat} {room tick : Int} {L : List En} {r : Rq} (hs : SrtK (L.map En.e)) (hw : ∀ x ∈ L, SrtW x.e.ls) (hun : 0 ≤ r.un) (hn : L.length ≤ 100000000) : Ct Try.prog 33 [.pointer (some ⟨b, 0, none⟩), .agg (eRq r).toArray] [cl b 40 [.bool true, .int .i64 room, .int .i64 tick, .int .i64 (((usedE L) : Nat) : Int), .map (some m)], mpP m kfK vfP (L.map En.kp), star (FEn 85 5) L] (fun g : Option Nat × Nat => .agg [.int .u8 1, sl g.1 (underM r.ix (fun e => hasW r.who e.ls) (L.map En.e)).length g.2, .slice none 0 0].toArray) (fun g => [cl b 40 [.bool true, .int .i64 room, .int .i64 tick, .int .i64 (((usedE (allE r.ix (fun e : Kp => hasW r.who e.ls) (layL r.who r.un) L)) : Nat) : Int), .map (some m)], mpP m kfK vfP ((allE r.ix (fun e : Kp => hasW r.who e.ls) (layL r.who r.un) L).map En.kp), star (FEn 85 5) (allE r.ix (fun e : Kp => hasW r.who e.ls) (layL r.who r.un) L), arr g.1 g.2 1 3 eI (underM r.ix (fun e => hasW r.who e.ls) (L.map En.e))]) := by
 refine Ct_body (n := 32) Try.func33 rfl rfl rfl fun F w0 Q hret hnorm hp => ?_
 change WC _ _ _ _ _ _ _ (_ :: _ :: _ :: F)
 have hul : (underM r.ix (fun e => hasW r.who e.ls) (L.map En.e)).length ≤ L.length := under_len
 refine WC_sr fun K1 hK1 => ?_
 refine WL_ac (Ac_box (xs := eRq r) rfl rfl) rfl rfl rfl ?_
 rintro _ _ ⟨b3, rfl, rfl⟩
 refine WL_ac (Ac_alloc zr45) rfl rfl rfl ?_
 rintro _ _ ⟨b4, rfl, rfl⟩
 refine WL_end hK1 ?_
 refine WC_sr fun K2 hK2 => ?_
 refine WL_r (Rd_move rfl) rfl ?_
 refine WL_r (Rd_loadg (vs := eRq r) rfl tk30 (hl := by rw [eRq_len]; omega) (hi := eRq_all r)) rfl ?_
 refine WL_ac (Ac_call cf51 rfl (hs := held_ct (b := b) (m := m) (room := room) (tick := tick) (L := L) (r := r) hs hn)) rfl rfl rfl ?_
 rintro _ _ ⟨⟨a48, cap48⟩, rfl, hA⟩
 simp only [List.cons_append, List.nil_append] at hA
 replace hA := hA.symm
 subst hA
 refine WL_r (Rd_assign rfl) rfl ?_
 refine WL_end hK2 ?_
 refine WC_seq fun K3 hK3 => ?_
 refine WC_sr fun K4 hK4 => ?_
 refine WL_r (Rd_move rfl) rfl ?_
 refine WL_r (Rd_len rfl rfl ud43) rfl ?_
 refine WL_r (Rd_move rfl) rfl ?_
 refine WL_end hK4 ?_
 refine WC_block ?_
 rw [show usedE L = usedE (midE r.ix (underM r.ix (fun e => hasW r.who e.ls) (L.map En.e)) (layL r.who r.un) 0 L) from by rw [mid_zero], show L.map En.kp = (midE r.ix (underM r.ix (fun e => hasW r.who e.ls) (L.map En.e)) (layL r.who r.un) 0 L).map En.kp from by rw [mid_zero], show star (FEn 85 5) L = star (FEn 85 5) (midE r.ix (underM r.ix (fun e => hasW r.who e.ls) (L.map En.e)) (layL r.who r.un) 0 L) from by rw [mid_zero]]
 refine WC_loopK (σ := Nat) (fun i' => [(13, .int .i64 ((i' : Nat) : Int))]) (fun i' => [cl b 40 [.bool true, .int .i64 room, .int .i64 tick, .int .i64 (((usedE (midE r.ix (underM r.ix (fun e => hasW r.who e.ls) (L.map En.e)) (layL r.who r.un) i' L)) : Nat) : Int), .map (some m)], mpP m kfK vfP ((midE r.ix (underM r.ix (fun e => hasW r.who e.ls) (L.map En.e)) (layL r.who r.un) i' L).map En.kp), star (FEn 85 5) (midE r.ix (underM r.ix (fun e => hasW r.who e.ls) (L.map En.e)) (layL r.who r.un) i' L)]) (fun i' => i' ≤ (underM r.ix (fun e => hasW r.who e.ls) (L.map En.e)).length) (fun i' => (underM r.ix (fun e => hasW r.who e.ls) (L.map En.e)).length - i') (0) [0, 3, 4, 5, 11, 12, 30, 31] kpA (by (try dsimp only); repeat (first | with_reducible exact Gv.nil | (with_reducible apply Gv.cons; · (repeat (first | with_reducible exact Ext.here | with_reducible apply Ext.there))))) ?_ ?_ Sub.refl ?_
 ·exact Nat.zero_le _
 ·(try dsimp only); exact (Wk.cons lkA Wk.nil)
 ·rintro i' hi K5 hK5
  simp only [List.cons_append, List.nil_append]
  refine WC_sr fun K6 hK6 => ?_
  refine WL_r (Rd_lssN rfl rfl) rfl ?_
  refine WL_end hK6 ?_
  refine WC_seq fun K7 hK7 => ?_
  refine WC_cond rfl (fun hc0 => ?_) (fun hc0 => ?_)
  ·try simp only [dz, ne_eq] at hc0
   refine WC_some (a := a48) hasA (by omega) (fun g48 hg48 hcp48 => ?_)
   subst hg48
   obtain ⟨A, x, B, hM, hxL, hxk, hf, hpx, hnA, hnB, hM1⟩ := mid_step (g := (layL r.who r.un)) hs (show i' < (underM r.ix (fun e => hasW r.who e.ls) (L.map En.e)).length by omega)
   rw [hM]
   refine WC_enopen 85 5 A x B ?_
   refine WC_skip ?_
   refine Ps_next hK7 ?_
   refine WC_seq fun K8 hK8 => ?_
   refine WC_block ?_
   refine WC_sr fun K9 hK9 => ?_
   refine WL_r (Rd_index i' rfl rfl ud43 sz3 (hj := by omega)) rfl ?_
   refine WL_r (Rd_load_arr (i := i') (j := 0) rfl tk3 (hl := at_I (by omega))) rfl ?_
   refine WL_r (Rd_assign rfl) rfl ?_
   refine WL_end hK9 ?_
   refine WC_drawA mix (fun i => ([2, 2, 2, 2, 2, 2, 2, 2, 2, 2, 2, 0] : List Nat).getD i 0) ?_
   refine WJ_tp 0 rfl (Rd_move rfl) rfl (hp _ _) ?_
   refine WJ_tp 1 rfl (Rd_nilCheck rfl) rfl (hp _ _) ?_
   refine WJ_tp 2 rfl (Rd_fieldAddr rfl fo40_4) rfl (hp _ _) ?_
   refine WJ_tp 4 rfl (Rd_fieldAddr rfl fo30_1) rfl (hp _ _) ?_
   refine WJ_tp 6 rfl (Rd_move rfl) rfl (hp _ _) ?_
   refine WJ_tp 9 rfl (Rd_fieldAddr rfl fo30_5) rfl (hp _ _) ?_
   refine WJ_tk 10 (Rd_loadg (vs := [.int .u32 (r.who.toNat : Int), .int .i64 r.un]) rfl tk27 (hl := by rw [eRq_len]; omega) (hi := eRq_ls r)) hp ?_ rfl (by kernel_rfl) rfl rfl rfl
   refine WJ_all (rs := [3, 5]) (by kernel_rfl) rfl ?_
   refine WI_cons ?_ (WI_cons ?_ (by intro _ h; cases h))
   ·skip
    refine WI_rd rfl (Rd_load rfl tk38 (v := .map (some m))) rfl rfl rfl (fun h => by cases h) ?_
    refine WJ_all (rs := [5]) (by kernel_rfl) rfl ?_
    refine WI_one ?_
    refine WI_rd rfl (Rd_loadg (vs := r.ix.l.flatMap (eU .u8)) rfl tk24 (hl := by rw [eRq_len]; omega) (hi := eRq_ix r)) rfl rfl rfl (fun h => by cases h) ?_
    refine WJ_tp 7 rfl (Rd_valE (v := kfK (r.ix, ((underM r.ix (fun e => hasW r.who e.ls) (L.map En.e)).getD i' 0))) (Rd_build pls81 rfl (hf := key_fill _ _)) rfl) rfl (hp _ _) ?_
    refine WJ_tk 8 (Rd_valE (v := .pointer (some ⟨x.p, 0, none⟩)) (Rd_lookP1 keyK rfl rfl ud38 zvP) (by rw [lookE1, hf]; rfl)) hp ?_ rfl (by kernel_rfl) rfl rfl rfl
    refine WJ_all (rs := [11]) (by kernel_rfl) rfl ?_
    refine WI_one ?_
    refine WI_ac rfl (Ac_call cf50 rfl (hs := lay_ct (p := x.p) (mm := x.m) (w := r.who) (u := r.un) (ls := x.e.ls) (hw x hxL) hun)) rfl rfl rfl rfl ?_
    rintro _ _ ⟨⟨⟩, rfl, hA⟩
    simp only [List.cons_append, List.nil_append] at hA
    replace hA := hA.symm
    subst hA
    refine ⟨(fun h => by cases h), ?_⟩
    refine WJ_done (by kernel_rfl) ?_
    refine Ps_next hK8 ?_
    refine WC_region ?_
    refine WL_enshutL 85 5 A x (layL r.who r.un x.e.ls) B ?_
    rw [show (A ++ x.put (x.e.with (layL r.who r.un x.e.ls)) :: B) = (midE r.ix (underM r.ix (fun e => hasW r.who e.ls) (L.map En.e)) (layL r.who r.un) (i' + 1) L) from by rw [hM1]; unfold chg keepK; rw [if_neg (layL_ne _ _ _)]; rfl, show (A ++ x :: B).map En.kp = (midE r.ix (underM r.ix (fun e => hasW r.who e.ls) (L.map En.e)) (layL r.who r.un) (i' + 1) L).map En.kp from by rw [hM1]; unfold chg keepK; rw [if_neg (layL_ne _ _ _), List.map_append, List.map_append]; rfl, show usedE (A ++ x :: B) = usedE (midE r.ix (underM r.ix (fun e => hasW r.who e.ls) (L.map En.e)) (layL r.who r.un) (i' + 1) L) from by rw [hM1]; unfold chg keepK; rw [if_neg (layL_ne _ _ _), usedE_app, usedE_app, usedE_cons]; rfl]
    refine WL_r (Rd_addN (j := 1) rfl rfl) rfl ?_
    refine WL_r (Rd_move rfl) rfl ?_
    refine WL_nil ?_
    refine Ps_wkA (hK5 (i' + 1) (by omega) (by omega))
   ·skip
    refine WI_rd rfl (Rd_loadg (vs := r.ix.l.flatMap (eU .u8)) rfl tk24 (hl := by rw [eRq_len]; omega) (hi := eRq_ix r)) rfl rfl rfl (fun h => by cases h) ?_
    refine WJ_tp 7 rfl (Rd_valE (v := kfK (r.ix, ((underM r.ix (fun e => hasW r.who e.ls) (L.map En.e)).getD i' 0))) (Rd_build pls81 rfl (hf := key_fill _ _)) rfl) rfl (hp _ _) ?_
    refine WJ_all (rs := [3]) (by kernel_rfl) rfl ?_
    refine WI_one ?_
    refine WI_rd rfl (Rd_load rfl tk38 (v := .map (some m))) rfl rfl rfl (fun h => by cases h) ?_
    refine WJ_tk 8 (Rd_valE (v := .pointer (some ⟨x.p, 0, none⟩)) (Rd_lookP1 keyK rfl rfl ud38 zvP) (by rw [lookE1, hf]; rfl)) hp ?_ rfl (by kernel_rfl) rfl rfl rfl
    refine WJ_all (rs := [11]) (by kernel_rfl) rfl ?_
    refine WI_one ?_
    refine WI_ac rfl (Ac_call cf50 rfl (hs := lay_ct (p := x.p) (mm := x.m) (w := r.who) (u := r.un) (ls := x.e.ls) (hw x hxL) hun)) rfl rfl rfl rfl ?_
    rintro _ _ ⟨⟨⟩, rfl, hA⟩
    simp only [List.cons_append, List.nil_append] at hA
    replace hA := hA.symm
    subst hA
    refine ⟨(fun h => by cases h), ?_⟩
    refine WJ_done (by kernel_rfl) ?_
    refine Ps_next hK8 ?_
    refine WC_region ?_
    refine WL_enshutL 85 5 A x (layL r.who r.un x.e.ls) B ?_
    rw [show (A ++ x.put (x.e.with (layL r.who r.un x.e.ls)) :: B) = (midE r.ix (underM r.ix (fun e => hasW r.who e.ls) (L.map En.e)) (layL r.who r.un) (i' + 1) L) from by rw [hM1]; unfold chg keepK; rw [if_neg (layL_ne _ _ _)]; rfl, show (A ++ x :: B).map En.kp = (midE r.ix (underM r.ix (fun e => hasW r.who e.ls) (L.map En.e)) (layL r.who r.un) (i' + 1) L).map En.kp from by rw [hM1]; unfold chg keepK; rw [if_neg (layL_ne _ _ _), List.map_append, List.map_append]; rfl, show usedE (A ++ x :: B) = usedE (midE r.ix (underM r.ix (fun e => hasW r.who e.ls) (L.map En.e)) (layL r.who r.un) (i' + 1) L) from by rw [hM1]; unfold chg keepK; rw [if_neg (layL_ne _ _ _), usedE_app, usedE_app, usedE_cons]; rfl]
    refine WL_r (Rd_addN (j := 1) rfl rfl) rfl ?_
    refine WL_r (Rd_move rfl) rfl ?_
    refine WL_nil ?_
    refine Ps_wkA (hK5 (i' + 1) (by omega) (by omega))
  ·try simp only [dz, ne_eq] at hc0
   obtain rfl : i' = (underM r.ix (fun e => hasW r.who e.ls) (L.map En.e)).length := by omega
   rw [mid_end hs rfl]
   refine WC_exit ?_
   refine Ps_next hK3 ?_
   refine WC_sr fun K10 hK10 => ?_
   refine WL_r (Rd_move rfl) rfl ?_
   refine WL_r (Rd_build pls45 rfl) rfl ?_
   refine WL_ac0 (Ac_store (ys := [.int .u8 1, sl a48 (underM r.ix (fun e => hasW r.who e.ls) (L.map En.e)).length cap48, .slice none 0 0]) rfl rfl sz45 (h1 := by simp [setAt, Value.cells, Value.oneCell', sl]) (hr := rfl)) rfl rfl ?_
   rintro _ _ rfl
   refine WL_end hK10 ?_
   refine WC_ret ?_
   exact hret.go (a48, cap48) (Rs1c rfl rfl tk45)
end Go.Proofs.Ytoakfknnaiapiaa
namespace Go.Proofs.Ytoakfknnaiapiaa
open Go.RowKit Go.SL Go.ShM Go.SvM
set_option maxHeartbeats 1000000
set_option maxRecDepth 20000
set_option linter.all false

theorem release_ct {b m : Nat} {room tick : Int} {L : List En} {r : Rq} (hs : SrtK (L.map En.e)) (hu : usedE L ≤ 1099511627776) (hn : L.length ≤ 100000000) : Ct Try.prog 34 [.pointer (some ⟨b, 0, none⟩), .agg (eRq r).toArray] [cl b 40 [.bool true, .int .i64 room, .int .i64 tick, .int .i64 (((usedE L) : Nat) : Int), .map (some m)], mpP m kfK vfP (L.map En.kp), star (FEn 85 5) L] (fun g : Option Nat × Nat => .agg [.int .u8 1, sl g.1 (underM r.ix (fun e => hasW r.who e.ls) (L.map En.e)).length g.2, .slice none 0 0].toArray) (fun g => [cl b 40 [.bool true, .int .i64 room, .int .i64 tick, .int .i64 (((usedE (allE r.ix (fun e : Kp => hasW r.who e.ls) (delL r.who) L)) : Nat) : Int), .map (some m)], mpP m kfK vfP ((allE r.ix (fun e : Kp => hasW r.who e.ls) (delL r.who) L).map En.kp), star (FEn 85 5) (allE r.ix (fun e : Kp => hasW r.who e.ls) (delL r.who) L), arr g.1 g.2 1 3 eI (underM r.ix (fun e => hasW r.who e.ls) (L.map En.e))]) := by
 refine Ct_body (n := 43) Try.func34 rfl rfl rfl fun F w0 Q hret hnorm hp => ?_
 change WC _ _ _ _ _ _ _ (_ :: _ :: _ :: F)
 have hul : (underM r.ix (fun e => hasW r.who e.ls) (L.map En.e)).length ≤ L.length := under_len
 refine WC_sr fun K1 hK1 => ?_
 refine WL_ac (Ac_box (xs := eRq r) rfl rfl) rfl rfl rfl ?_
 rintro _ _ ⟨b3, rfl, rfl⟩
 refine WL_ac (Ac_alloc zr45) rfl rfl rfl ?_
 rintro _ _ ⟨b4, rfl, rfl⟩
 refine WL_end hK1 ?_
 refine WC_sr fun K2 hK2 => ?_
 refine WL_r (Rd_move rfl) rfl ?_
 refine WL_r (Rd_loadg (vs := eRq r) rfl tk30 (hl := by rw [eRq_len]; omega) (hi := eRq_all r)) rfl ?_
 refine WL_ac (Ac_call cf51 rfl (hs := held_ct (b := b) (m := m) (room := room) (tick := tick) (L := L) (r := r) hs hn)) rfl rfl rfl ?_
 rintro _ _ ⟨⟨a48, cap48⟩, rfl, hA⟩
 simp only [List.cons_append, List.nil_append] at hA
 replace hA := hA.symm
 subst hA
 refine WL_r (Rd_assign rfl) rfl ?_
 refine WL_end hK2 ?_
 refine WC_seq fun K3 hK3 => ?_
 refine WC_sr fun K4 hK4 => ?_
 refine WL_r (Rd_move rfl) rfl ?_
 refine WL_r (Rd_len rfl rfl ud43) rfl ?_
 refine WL_r (Rd_move rfl) rfl ?_
 refine WL_end hK4 ?_
 refine WC_block ?_
 rw [show usedE L = usedE (midE r.ix (underM r.ix (fun e => hasW r.who e.ls) (L.map En.e)) (delL r.who) 0 L) from by rw [mid_zero], show L.map En.kp = (midE r.ix (underM r.ix (fun e => hasW r.who e.ls) (L.map En.e)) (delL r.who) 0 L).map En.kp from by rw [mid_zero], show star (FEn 85 5) L = star (FEn 85 5) (midE r.ix (underM r.ix (fun e => hasW r.who e.ls) (L.map En.e)) (delL r.who) 0 L) from by rw [mid_zero]]
 refine WC_loopK (σ := Nat) (fun i' => [(15, .int .i64 ((i' : Nat) : Int))]) (fun i' => [cl b 40 [.bool true, .int .i64 room, .int .i64 tick, .int .i64 (((usedE (midE r.ix (underM r.ix (fun e => hasW r.who e.ls) (L.map En.e)) (delL r.who) i' L)) : Nat) : Int), .map (some m)], mpP m kfK vfP ((midE r.ix (underM r.ix (fun e => hasW r.who e.ls) (L.map En.e)) (delL r.who) i' L).map En.kp), star (FEn 85 5) (midE r.ix (underM r.ix (fun e => hasW r.who e.ls) (L.map En.e)) (delL r.who) i' L)]) (fun i' => i' ≤ (underM r.ix (fun e => hasW r.who e.ls) (L.map En.e)).length) (fun i' => (underM r.ix (fun e => hasW r.who e.ls) (L.map En.e)).length - i') (0) [0, 3, 4, 5, 13, 14, 41, 42] kpA (by (try dsimp only); repeat (first | with_reducible exact Gv.nil | (with_reducible apply Gv.cons; · (repeat (first | with_reducible exact Ext.here | with_reducible apply Ext.there))))) ?_ ?_ Sub.refl ?_
 ·exact Nat.zero_le _
 ·(try dsimp only); exact (Wk.cons lkA Wk.nil)
 ·rintro i' hi K5 hK5
  simp only [List.cons_append, List.nil_append]
  refine WC_sr fun K6 hK6 => ?_
  refine WL_r (Rd_lssN rfl rfl) rfl ?_
  refine WL_end hK6 ?_
  refine WC_seq fun K7 hK7 => ?_
  refine WC_cond rfl (fun hc0 => ?_) (fun hc0 => ?_)
  ·try simp only [dz, ne_eq] at hc0
   refine WC_some (a := a48) hasA (by omega) (fun g48 hg48 hcp48 => ?_)
   subst hg48
   obtain ⟨A, x, B, hM, hxL, hxk, hf, hpx, hnA, hnB, hM1⟩ := mid_step (g := (delL r.who)) hs (show i' < (underM r.ix (fun e => hasW r.who e.ls) (L.map En.e)).length by omega)
   rw [hM]
   have hux : x.e.b.length ≤ usedE (A ++ x :: B) := by rw [usedE_app, usedE_cons]; omega
   have hub2 : usedE (A ++ x :: B) ≤ 1099511627776 := by rw [← hM]; exact Nat.le_trans (mid_used _ _ _ _ _) hu
   refine WC_enopen 85 5 A x B ?_
   refine WC_skip ?_
   refine Ps_next hK7 ?_
   refine WC_seq fun K8 hK8 => ?_
   refine WC_block ?_
   refine WC_sr fun K9 hK9 => ?_
   refine WL_r (Rd_index i' rfl rfl ud43 sz3 (hj := by omega)) rfl ?_
   refine WL_r (Rd_load_arr (i := i') (j := 0) rfl tk3 (hl := at_I (by omega))) rfl ?_
   refine WL_r (Rd_assign rfl) rfl ?_
   refine WL_end hK9 ?_
   refine WC_sr fun K10 hK10 => ?_
   refine WL_r (Rd_fieldAddr rfl fo30_1) rfl ?_
   refine WL_r (Rd_loadg (vs := r.ix.l.flatMap (eU .u8)) rfl tk24 (hl := by rw [eRq_len]; omega) (hi := eRq_ix r)) rfl ?_
   refine WL_r (Rd_move rfl) rfl ?_
   refine WL_r (Rd_valE (v := kfK (r.ix, ((underM r.ix (fun e => hasW r.who e.ls) (L.map En.e)).getD i' 0))) (Rd_build pls81 rfl (hf := key_fill _ _)) rfl) rfl ?_
   refine WL_ac (Ac_alloc zr81) rfl rfl rfl ?_
   rintro _ _ ⟨b8, rfl, rfl⟩
   refine WL_ac0 (Ac_store (ys := kcK (r.ix, (underM r.ix (fun e => hasW r.who e.ls) (L.map En.e)).getD i' 0)) rfl rfl sz81 (h1 := encK.one _) (hv := by simpa [Value.cells, kfK] using kcK_len (r.ix, (underM r.ix (fun e => hasW r.who e.ls) (L.map En.e)).getD i' 0)) (hr := by simp [Value.cells, kfK])) rfl rfl ?_
   rintro _ _ rfl
   refine WL_end hK10 ?_
   refine WC_seq fun K11 hK11 => ?_
   refine WC_drawA mix (fun i => ([2, 2, 2, 2, 2, 2, 2] : List Nat).getD i 0) ?_
   refine WJ_tp 0 rfl (Rd_move rfl) rfl (hp _ _) ?_
   refine WJ_tp 1 rfl (Rd_nilCheck rfl) rfl (hp _ _) ?_
   refine WJ_tp 2 rfl (Rd_fieldAddr rfl fo40_4) rfl (hp _ _) ?_
   refine WJ_tk 3 (Rd_load rfl tk38 (v := .map (some m))) hp ?_ rfl (by kernel_rfl) rfl rfl rfl
   refine WJ_tk 4 (Rd_loadg (vs := kcK (r.ix, (underM r.ix (fun e => hasW r.who e.ls) (L.map En.e)).getD i' 0)) rfl tk81 (hl := by rw [kcK_len]; omega) (hi := by rw [List.drop_zero]; exact List.take_of_length_le (Nat.le_of_eq (kcK_len (r.ix, (underM r.ix (fun e => hasW r.who e.ls) (L.map En.e)).getD i' 0))))) hp ?_ rfl (by kernel_rfl) rfl rfl rfl
   refine WJ_tk 5 (Rd_valE (v := .pointer (some ⟨x.p, 0, none⟩)) (Rd_lookP1 keyK rfl rfl ud38 zvP) (by rw [lookE1, hf]; rfl)) hp ?_ rfl (by kernel_rfl) rfl rfl rfl
   refine WJ_tp 6 rfl (Rd_assign rfl) rfl (hp _ _) ?_
   refine WJ_done (by kernel_rfl) ?_
   refine Ps_next hK11 ?_
   refine WC_seq fun K12 hK12 => ?_
   refine WC_drawA mix (fun i => ([2, 2, 2, 2, 2, 2, 2, 0] : List Nat).getD i 0) ?_
   refine WJ_tp 0 rfl (Rd_move rfl) rfl (hp _ _) ?_
   refine WJ_tp 1 rfl (Rd_nilCheck rfl) rfl (hp _ _) ?_
   refine WJ_tp 2 rfl (Rd_fieldAddr rfl fo85_1) rfl (hp _ _) ?_
   refine WJ_tk 3 (Rd_load rfl tk83 (v := .map (some x.m))) hp ?_ rfl (by kernel_rfl) rfl rfl rfl
   refine WJ_tp 4 rfl (Rd_fieldAddr rfl fo30_5) rfl (hp _ _) ?_
   refine WJ_tp 5 rfl (Rd_fieldAddr rfl fo27_0) rfl (hp _ _) ?_
   refine WJ_tk 6 (Rd_load rfl tk25 (v := .int .u32 ((r.who.toNat : Nat) : Int)) (hi := eRq_who r)) hp ?_ rfl (by kernel_rfl) rfl rfl rfl
   refine WJ_all (rs := [7]) (by kernel_rfl) rfl ?_
   refine WI_one ?_
   refine WI_ac0 rfl (Ac_delP keyW rfl rfl ud83) rfl rfl rfl ?_
   rintro _ _ rfl
   refine ⟨(fun h => by cases h), ?_⟩
   refine WJ_done (by kernel_rfl) ?_
   refine Ps_next hK12 ?_
   refine WC_region ?_
   refine WL_r (Rd_move rfl) rfl ?_
   refine WL_r (Rd_loadg (vs := kcK (r.ix, (underM r.ix (fun e => hasW r.who e.ls) (L.map En.e)).getD i' 0)) rfl tk81 (hl := by rw [kcK_len]; omega) (hi := by rw [List.drop_zero]; exact List.take_of_length_le (Nat.le_of_eq (kcK_len (r.ix, (underM r.ix (fun e => hasW r.who e.ls) (L.map En.e)).getD i' 0))))) rfl ?_
   refine WL_r (Rd_move rfl) rfl ?_
   refine WL_ac (Ac_call cf28 rfl (hs := dropP_ct (b := b) (m := m) (u := usedE (A ++ x :: B)) (room := room) (tick := tick) (k := (r.ix, (underM r.ix (fun e => hasW r.who e.ls) (L.map En.e)).getD i' 0)) (x := x) (l := (A ++ x :: B).map En.kp) (ls := delL r.who x.e.ls) hux hub2)) rfl rfl rfl ?_
   rintro _ _ ⟨⟨⟩, rfl, hA⟩
   simp only [List.cons_append, List.nil_append] at hA
   replace hA := hA.symm
   subst hA
   refine WL_nil ?_
   refine Ps_next hK8 ?_
   refine WC_region ?_
   refine WL_encut 85 5 A x B (delL r.who x.e.ls) ?_
   rw [← hxk, cut_used, cut_map hnA hnB, show A ++ (((keepK x.e (delL r.who x.e.ls)).map x.put).toList ++ B) = (midE r.ix (underM r.ix (fun e => hasW r.who e.ls) (L.map En.e)) (delL r.who) (i' + 1) L) from hM1.symm]
   refine WL_r (Rd_addN (j := 1) rfl rfl) rfl ?_
   refine WL_r (Rd_move rfl) rfl ?_
   refine WL_nil ?_
   refine Ps_wkA (hK5 (i' + 1) (by omega) (by omega))
  ·try simp only [dz, ne_eq] at hc0
   obtain rfl : i' = (underM r.ix (fun e => hasW r.who e.ls) (L.map En.e)).length := by omega
   rw [mid_end hs rfl]
   refine WC_exit ?_
   refine Ps_next hK3 ?_
   refine WC_sr fun K13 hK13 => ?_
   refine WL_r (Rd_move rfl) rfl ?_
   refine WL_r (Rd_build pls45 rfl) rfl ?_
   refine WL_ac0 (Ac_store (ys := [.int .u8 1, sl a48 (underM r.ix (fun e => hasW r.who e.ls) (L.map En.e)).length cap48, .slice none 0 0]) rfl rfl sz45 (h1 := by simp [setAt, Value.cells, Value.oneCell', sl]) (hr := rfl)) rfl rfl ?_
   rintro _ _ rfl
   refine WL_end hK13 ?_
   refine WC_ret ?_
   exact hret.go (a48, cap48) (Rs1c rfl rfl tk45)
end Go.Proofs.Ytoakfknnaiapiaa
