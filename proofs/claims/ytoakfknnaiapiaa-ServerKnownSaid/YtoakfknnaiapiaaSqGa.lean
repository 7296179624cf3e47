/-
  Contracts of functions that the claim reaches, or the logic and the plain laws that they rest on, or the row over them. (Conditions: none beyond the statement.)
-/
import Derived.Test.YtoakfknnaiapiaaRows
import Derived.Test.YtoakfknnaiapiaaSvLA
import Derived.Test.YtoakfknnaiapiaaLibB
import Derived.Test.YtoakfknnaiapiaaLibC
import Derived.Test.YtoakfknnaiapiaaLibR
import Derived.Test.YtoakfknnaiapiaaLibE
import Derived.Test.YtoakfknnaiapiaaSvLB
set_option linter.all false
namespace Go.Proofs.Ytoakfknnaiapiaa
open Go.RowKit Go.SL Go.ShM Go.SvM
set_option maxHeartbeats 1000000
set_option maxRecDepth 20000
set_option linter.all false
theorem ais24 : ais Try.prog 24 = some (16, 5) := by kernel_rfl
theorem cf27 : cfn Try.prog 27 = true := by kernel_rfl
theorem cf28 : cfn Try.prog 28 = true := by kernel_rfl
theorem fls81 : fls Try.prog 81 = some [(0, 24), (16, 3)] := by kernel_rfl
theorem fo40_0 : fo Try.prog 40 0 = some (0, 4) := by kernel_rfl
theorem fo40_2 : fo Try.prog 40 2 = some (2, 3) := by kernel_rfl
theorem fo40_3 : fo Try.prog 40 3 = some (3, 3) := by kernel_rfl
theorem fo40_4 : fo Try.prog 40 4 = some (4, 38) := by kernel_rfl
theorem fo85_0 : fo Try.prog 85 0 = some (0, 28) := by kernel_rfl
theorem fo85_1 : fo Try.prog 85 1 = some (1, 83) := by kernel_rfl
theorem mix : Try.prog.follows .mixedOrders = true := by kernel_rfl
theorem pls40 : pls Try.prog 40 = some ([.bool false, .int .i64 0, .int .i64 0, .int .i64 0, .map none], [(0, 1), (1, 1), (2, 1), (3, 1), (4, 1)]) := by kernel_rfl
theorem sz3 : sz Try.prog 3 = some 1 := by kernel_rfl
theorem sz81 : sz Try.prog 81 = some 17 := by kernel_rfl
theorem tk3 : tk Try.prog 3 = some none := by kernel_rfl
theorem tk4 : tk Try.prog 4 = some none := by kernel_rfl
theorem tk24 : tk Try.prog 24 = some (some 16) := by kernel_rfl
theorem tk28 : tk Try.prog 28 = some none := by kernel_rfl
theorem tk38 : tk Try.prog 38 = some none := by kernel_rfl
theorem tk81 : tk Try.prog 81 = some (some 17) := by kernel_rfl
theorem tk83 : tk Try.prog 83 = some none := by kernel_rfl
theorem ud3 : Try.prog.underlying 3 = some (.int .i64) := by kernel_rfl
theorem ud25 : Try.prog.underlying 25 = some (.int .u32) := by kernel_rfl
theorem ud28 : Try.prog.underlying 28 = some (.slice 5) := by kernel_rfl
theorem ud33 : Try.prog.underlying 33 = some (.pointer 40) := by kernel_rfl
theorem ud38 : Try.prog.underlying 38 = some (.map 81 82) := by kernel_rfl
theorem ud83 : Try.prog.underlying 83 = some (.map 25 3) := by kernel_rfl
theorem zr81 : zr Try.prog 81 = some [.int .u8 0, .int .u8 0, .int .u8 0, .int .u8 0, .int .u8 0, .int .u8 0, .int .u8 0, .int .u8 0, .int .u8 0, .int .u8 0, .int .u8 0, .int .u8 0, .int .u8 0, .int .u8 0, .int .u8 0, .int .u8 0, .int .i64 0] := by kernel_rfl
theorem zv3 : ∀ w, (zeroValue 3).run Try.prog w = .ok (.int .i64 0) w := fun w => by kernel_rfl
theorem zv82 : ∀ w, (zeroValue 82).run Try.prog w = .ok (.pointer none) w := fun w => by kernel_rfl
theorem flatI_u8 : ∀ l : List B8, l.flatMap (eU .u8 (w := 8)) = (l.map fun b => (b.toNat : Int)).map (Value.int .u8)
  | [] => rfl
  | x :: l => by rw [List.flatMap_cons, flatI_u8 l]; rfl
theorem mapI_inj : ∀ {a b : List B8}, a.map (fun b => (b.toNat : Int)) = b.map (fun b => (b.toNat : Int)) → a = b
  | [], [], _ => rfl
  | [], _ :: _, h => by simp at h
  | _ :: _, [], h => by simp at h
  | x :: a, y :: b, h => by
    simp only [List.map_cons, List.cons.injEq] at h
    rw [mapI_inj h.2, BitVec.eq_of_toNat_eq (show x.toNat = y.toNat by omega)]
theorem key_dec (a b : Ky) : (decide (a.1.l.map (fun b => (b.toNat : Int)) = b.1.l.map (fun b => (b.toNat : Int))) && (decide (a.2 = b.2) && true)) = decide (a = b) := by
  rw [Bool.and_true, Bool.eq_iff_iff]
  simp only [Bool.and_eq_true, decide_eq_true_eq]
  constructor
  · rintro ⟨h1, h2⟩
    obtain ⟨⟨l, hl⟩, n⟩ := a
    obtain ⟨⟨l', hl'⟩, n'⟩ := b
    have h3 := mapI_inj h1
    simp only at h2 h3
    subst h2; subst h3; rfl
  · rintro rfl; exact ⟨rfl, rfl⟩
theorem keyK : KeyT Try.prog 81 kfK := KeyT_struct Try.underlying81 (fun k => ⟨_, rfl⟩) kfK_inj
  (fun a b => by
    have h := Eqs_struct (P := Try.prog) (t := 81) (d := 9999) (xs := kcK a) (ys := kcK b) fls81 (EqL.ag tk24 (kcK_ix a) (kcK_ix b) (by rw [flatI_u8, flatI_u8]; exact Eqs_ints ais24 (by rw [List.length_map, a.1.h]) (by rw [List.length_map, b.1.h])) (EqL.sc tk3 (kcK_num a) (kcK_num b) (Eqs_int ud3 _ _) EqL.nil))
    rw [key_dec] at h
    exact h)
  (fun b k w => check_struct Try.underlying81 (fun f hf w => by
    simp only [List.mem_cons, List.not_mem_nil, or_false] at hf
    rcases hf with rfl | rfl
    · simp only [Sem.run_bind, run_part_ag tk24 (kcK_ix k), Result.andThen_ok]
      rw [flatI_u8]
      exact check_ints ais24 (by rw [List.length_map, k.1.h]) w
    · simp only [Sem.run_bind, run_part_sc tk3 (kcK_num k), Result.andThen_ok]
      exact check_int ud3 w) w)
  (fun k => sameBits_ints (kcK k) (fun v hv => by
    unfold kcK at hv
    rw [flatI_u8] at hv
    rcases List.mem_append.1 hv with h | h
    · obtain ⟨a, _, rfl⟩ := List.mem_map.1 h; exact ⟨_, _, rfl⟩
    · rw [List.mem_singleton] at h; exact ⟨_, _, h⟩))
theorem keyW : KeyT Try.prog 25 kfW := (KeyT_int (P := Try.prog) .u32 ud25).comp (fun w : B32 => (w.toNat : Int)) (fun a b h => BitVec.eq_of_toNat_eq (by omega))
theorem zvW : ∀ w, (zeroValue 3).run Try.prog w = .ok (.int .i64 0) w := zv3
theorem zvP : ∀ w, (zeroValue 82).run Try.prog w = .ok (.pointer none) w := zv82

theorem new_ct {room : Int} (h : 0 ≤ room ∧ room ≤ 1073741824) : Ct Try.prog 8 [.int .i64 room] [] (fun g : Nat × Nat => .tuple #[.pointer (some ⟨g.1, 0, none⟩), .int .i64 0]) (fun g => [cl g.1 40 [.bool true, .int .i64 room, .int .i64 0, .int .i64 (((usedE ([] : List En)) : Nat) : Int), .map (some g.2)], mpP g.2 kfK vfP (([] : List En).map En.kp), star (FEn 85 5) ([] : List En)]) := by
 refine Ct_body (n := 14) Try.func8 rfl rfl rfl fun F w0 Q hret hnorm hp => ?_
 change WC _ _ _ _ _ _ _ (F)
 obtain ⟨h0, h1⟩ := h
 refine WC_sr fun K1 hK1 => ?_
 refine WL_r (Rd_assign rfl) rfl ?_
 refine WL_r (Rd_assign rfl) rfl ?_
 refine WL_end hK1 ?_
 refine WC_seq fun K2 hK2 => ?_
 refine WC_sr fun K3 hK3 => ?_
 refine WL_r (Rd_move rfl) rfl ?_
 refine WL_r (Rd_lss rfl rfl) rfl ?_
 refine WL_r (Rd_move rfl) rfl ?_
 refine WL_bool 6 rfl (fun hg4 => ?_) (fun hg4 => ?_)
 ·try simp only [dz, ne_eq] at hg4
  refine WL_skip rfl rfl rfl ?_
  refine WL_skip rfl rfl rfl ?_
  refine WL_r (Rd_pickT rfl rfl) rfl ?_
  refine WL_end hK3 ?_
  refine WC_condT rfl ?_
  omega
 ·try simp only [dz, ne_eq] at hg4
  refine WL_r (Rd_move rfl) rfl ?_
  refine WL_r (Rd_gtr rfl rfl) rfl ?_
  refine WL_r (Rd_pickF rfl rfl) rfl ?_
  refine WL_end hK3 ?_
  refine WC_cond rfl (fun hc0 => ?_) (fun hc0 => ?_)
  ·try simp only [dz, ne_eq] at hc0
   omega
  ·try simp only [dz, ne_eq] at hc0
   refine WC_skip ?_
   refine Ps_next hK2 ?_
   refine WC_sr fun K5 hK5 => ?_
   refine WL_r (Rd_move rfl) rfl ?_
   refine WL_ac (Ac_makeP kfK vfP) rfl rfl rfl ?_
   rintro _ _ ⟨m11, rfl, rfl⟩
   refine WL_r (Rd_build pls40 rfl) rfl ?_
   refine WL_ac (Ac_box rfl rfl) rfl rfl rfl ?_
   rintro _ _ ⟨b13, rfl, rfl⟩
   refine WL_r (Rd_assign rfl) rfl ?_
   refine WL_r (Rd_assign rfl) rfl ?_
   refine WL_end hK5 ?_
   refine WC_ret ?_
   refine Ps_imp (fun w h => star_nil (F := (FEn 85 5)) h) ?_
   rw [show cl b13 40 [.bool true, .int .i64 room, .int .i64 0, .int .i64 0, .map (some m11)] = cl b13 40 [.bool true, .int .i64 room, .int .i64 0, .int .i64 (((usedE ([] : List En)) : Nat) : Int), .map (some m11)] from rfl, show mpP m11 kfK vfP ([] : List (Ky × Nat)) = mpP m11 kfK vfP (([] : List En).map En.kp) from rfl]
   exact hret.go (b13, m11) (Rs2 rfl rfl rfl)

theorem new_no {room : Int} (h : room < 0 ∨ 1073741824 < room) : Ct Try.prog 8 [.int .i64 room] [] (fun _ : Unit => .tuple #[.pointer none, .int .i64 190]) (fun _ => []) := by
 refine Ct_body (n := 14) Try.func8 rfl rfl rfl fun F w0 Q hret hnorm hp => ?_
 change WC _ _ _ _ _ _ _ (F)
 refine WC_sr fun K1 hK1 => ?_
 refine WL_r (Rd_assign rfl) rfl ?_
 refine WL_r (Rd_assign rfl) rfl ?_
 refine WL_end hK1 ?_
 refine WC_seq fun K2 hK2 => ?_
 refine WC_sr fun K3 hK3 => ?_
 refine WL_r (Rd_move rfl) rfl ?_
 refine WL_r (Rd_lss rfl rfl) rfl ?_
 refine WL_r (Rd_move rfl) rfl ?_
 refine WL_bool 6 rfl (fun hg4 => ?_) (fun hg4 => ?_)
 ·try simp only [dz, ne_eq] at hg4
  refine WL_skip rfl rfl rfl ?_
  refine WL_skip rfl rfl rfl ?_
  refine WL_r (Rd_pickT rfl rfl) rfl ?_
  refine WL_end hK3 ?_
  refine WC_condT rfl ?_
  refine WC_sr fun K5 hK5 => ?_
  refine WL_r (Rd_assign rfl) rfl ?_
  refine WL_r (Rd_assign rfl) rfl ?_
  refine WL_end hK5 ?_
  refine WC_ret ?_
  exact hret.go () (Rs2 rfl rfl rfl)
 ·try simp only [dz, ne_eq] at hg4
  refine WL_r (Rd_move rfl) rfl ?_
  refine WL_r (Rd_gtr rfl rfl) rfl ?_
  refine WL_r (Rd_pickF rfl rfl) rfl ?_
  refine WL_end hK3 ?_
  refine WC_cond rfl (fun hc0 => ?_) (fun hc0 => ?_)
  ·try simp only [dz, ne_eq] at hc0
   refine WC_sr fun K6 hK6 => ?_
   refine WL_r (Rd_assign rfl) rfl ?_
   refine WL_r (Rd_assign rfl) rfl ?_
   refine WL_end hK6 ?_
   refine WC_ret ?_
   exact hret.go () (Rs2 rfl rfl rfl)
  ·try simp only [dz, ne_eq] at hc0
   omega

theorem ready_ct {b m : Nat} {room tick : Int} {u : Nat}  : Ct Try.prog 27 [.pointer (some ⟨b, 0, none⟩)] [cl b 40 [.bool true, .int .i64 room, .int .i64 tick, .int .i64 ((u : Nat) : Int), .map (some m)]] (fun _ : Unit => .bool true) (fun _ => [cl b 40 [.bool true, .int .i64 room, .int .i64 tick, .int .i64 ((u : Nat) : Int), .map (some m)]]) := by
 refine Ct_body (n := 11) Try.func27 rfl rfl rfl fun F w0 Q hret hnorm hp => ?_
 change WC _ _ _ _ _ _ _ (_ :: F)
 refine WC_sr fun K1 hK1 => ?_
 refine WL_r (Rd_assign rfl) rfl ?_
 refine WL_end hK1 ?_
 refine WC_sr fun K2 hK2 => ?_
 refine WL_r (Rd_move rfl) rfl ?_
 refine WL_r (Rd_pne rfl rfl ud33) rfl ?_
 refine WL_r (Rd_move rfl) rfl ?_
 refine WL_r (Rd_move rfl) rfl ?_
 refine WL_r (Rd_nilCheck rfl) rfl ?_
 refine WL_r (Rd_fieldAddr rfl fo40_0) rfl ?_
 refine WL_r (Rd_load rfl tk4) rfl ?_
 refine WL_r (Rd_pickT rfl rfl) rfl ?_
 refine WL_r (Rd_assign rfl) rfl ?_
 refine WL_end hK2 ?_
 refine WC_ret ?_
 exact hret.go () (Rs1 rfl rfl)

theorem dropN_ct {b m r u : Nat} {room tick : Int} {k : Ky} {x : En} {l rest : List (Ky × Nat)} {ls : List Ls} (hk : k ∉ keysL rest) (hu : x.e.b.length ≤ u) (hub : u ≤ 1099511627776) : Ct Try.prog 28 [.pointer (some ⟨b, 0, none⟩), kfK k, .pointer (some ⟨x.p, 0, none⟩)] [cl b 40 [.bool true, .int .i64 room, .int .i64 tick, .int .i64 ((u : Nat) : Int), .map (some m)], mpN m r kfK vfP l rest none, cl x.p 85 [sl x.a x.e.b.length x.cap, .map (some x.m)], arr x.a x.cap 1 5 (eU .u8 (w := 8)) x.e.b, mpP x.m kfW vfI ls] (fun _ : Unit => .tuple #[]) (fun _ => [cl b 40 [.bool true, .int .i64 room, .int .i64 tick, .int .i64 (((if ls = [] then u - x.e.b.length else u) : Nat) : Int), .map (some m)], mpN m r kfK vfP (if ls = [] then delL k l else l) rest none, cl x.p 85 [sl x.a x.e.b.length x.cap, .map (some x.m)], arr x.a x.cap 1 5 (eU .u8 (w := 8)) x.e.b, mpP x.m kfW vfI ls]) := by
 refine Ct_body (n := 29) Try.func28 rfl rfl rfl fun F w0 Q hret hnorm hp => ?_
 change WC _ _ _ _ _ _ _ (_ :: _ :: _ :: _ :: _ :: F)
 refine WC_sr fun K1 hK1 => ?_
 refine WL_ac (Ac_box (xs := kcK k) rfl rfl) rfl rfl rfl ?_
 rintro _ _ ⟨b4, rfl, rfl⟩
 refine WL_end hK1 ?_
 refine WC_sr fun K2 hK2 => ?_
 refine WL_r (Rd_move rfl) rfl ?_
 refine WL_r (Rd_nilCheck rfl) rfl ?_
 refine WL_r (Rd_fieldAddr rfl fo85_1) rfl ?_
 refine WL_r (Rd_load rfl tk83 (v := .map (some x.m))) rfl ?_
 refine WL_r (Rd_lenP rfl rfl ud83) rfl ?_
 refine WL_r (Rd_eqlN (j := 0) rfl rfl) rfl ?_
 refine WL_end hK2 ?_
 refine WC_cond rfl (fun hc0 => ?_) (fun hc0 => ?_)
 ·try simp only [dz, ne_eq] at hc0
  have hls : ls = [] := List.eq_nil_of_length_eq_zero (by omega)
  rw [if_pos hls, if_pos hls] at hnorm
  refine WC_seq fun K3 hK3 => ?_
  refine WC_drawA mix (fun i => ([2, 2, 2, 2, 2, 2, 2, 2, 2, 2, 2, 2, 0] : List Nat).getD i 0) ?_
  refine WJ_tp 0 rfl (Rd_move rfl) rfl (hp _ _) ?_
  refine WJ_tp 1 rfl (Rd_nilCheck rfl) rfl (hp _ _) ?_
  refine WJ_tp 2 rfl (Rd_fieldAddr rfl fo40_3) rfl (hp _ _) ?_
  refine WJ_tk 3 (Rd_load rfl tk3) hp ?_ rfl (by kernel_rfl) rfl rfl rfl
  refine WJ_tp 4 rfl (Rd_move rfl) rfl (hp _ _) ?_
  refine WJ_tp 5 rfl (Rd_nilCheck rfl) rfl (hp _ _) ?_
  refine WJ_tp 6 rfl (Rd_fieldAddr rfl fo85_0) rfl (hp _ _) ?_
  refine WJ_tk 7 (Rd_load rfl tk28 (v := sl x.a x.e.b.length x.cap)) hp ?_ rfl (by kernel_rfl) rfl rfl rfl
  refine WJ_tp 8 rfl (Rd_len rfl rfl ud28) rfl (hp _ _) ?_
  refine WJ_tp 9 rfl (Rd_subN rfl rfl) rfl (hp _ _) ?_
  refine WJ_tp 10 rfl (Rd_nilCheck rfl) rfl (hp _ _) ?_
  refine WJ_tp 11 rfl (Rd_fieldAddr rfl fo40_3) rfl (hp _ _) ?_
  refine WJ_all (rs := [12]) (by kernel_rfl) rfl ?_
  refine WI_one ?_
  refine WI_ac0 rfl (Ac_store1 rfl rfl sz3) rfl rfl rfl ?_
  rintro _ _ rfl
  refine ⟨(fun h => by cases h), ?_⟩
  refine WJ_done (by kernel_rfl) ?_
  refine Ps_next hK3 ?_
  refine WC_drawA mix (fun i => ([2, 2, 2, 2, 2, 0] : List Nat).getD i 0) ?_
  refine WJ_tp 0 rfl (Rd_move rfl) rfl (hp _ _) ?_
  refine WJ_tp 1 rfl (Rd_nilCheck rfl) rfl (hp _ _) ?_
  refine WJ_tp 2 rfl (Rd_fieldAddr rfl fo40_4) rfl (hp _ _) ?_
  refine WJ_tk 3 (Rd_load rfl tk38 (v := .map (some m))) hp ?_ rfl (by kernel_rfl) rfl rfl rfl
  refine WJ_tk 4 (Rd_loadg (vs := kcK k) rfl tk81 (hl := by rw [kcK_len]; omega) (hi := by rw [List.drop_zero]; exact List.take_of_length_le (Nat.le_of_eq (kcK_len k)))) hp ?_ rfl (by kernel_rfl) rfl rfl rfl
  refine WJ_all (rs := [5]) (by kernel_rfl) rfl ?_
  refine WI_one ?_
  refine WI_ac0 rfl (Ac_delN keyK rfl rfl ud38 hk) rfl rfl rfl ?_
  rintro _ _ rfl
  refine ⟨(fun h => by cases h), ?_⟩
  refine WJ_done (by kernel_rfl) ?_
  exact hnorm.go () (Rs0 rfl)
 ·try simp only [dz, ne_eq] at hc0
  have hls : ¬ ls = [] := fun e => hc0 (by rw [e]; rfl)
  rw [if_neg hls, if_neg hls] at hnorm
  refine WC_skip ?_
  exact hnorm.go () (Rs0 rfl)

theorem tick_no {b m : Nat} {room tick t1 : Int} {L : List En} (h : t1 < tick ∨ 1099511627776 < t1) : Ct Try.prog 9 [.pointer (some ⟨b, 0, none⟩), .int .i64 t1] [cl b 40 [.bool true, .int .i64 room, .int .i64 tick, .int .i64 (((usedE L) : Nat) : Int), .map (some m)], mpP m kfK vfP (L.map En.kp), star (FEn 85 5) L] (fun _ : Unit => .int .i64 191) (fun _ => [cl b 40 [.bool true, .int .i64 room, .int .i64 tick, .int .i64 (((usedE L) : Nat) : Int), .map (some m)], mpP m kfK vfP (L.map En.kp), star (FEn 85 5) L]) := by
 refine Ct_body (n := 58) Try.func9 rfl rfl rfl fun F w0 Q hret hnorm hp => ?_
 change WC _ _ _ _ _ _ _ (_ :: _ :: _ :: F)
 refine WC_sr fun K1 hK1 => ?_
 refine WL_r (Rd_assign rfl) rfl ?_
 refine WL_end hK1 ?_
 refine WC_seq fun K2 hK2 => ?_
 refine WC_sr fun K3 hK3 => ?_
 refine WL_r (Rd_move rfl) rfl ?_
 refine WL_ac (Ac_call cf27 rfl (hs := ready_ct (b := b) (m := m) (room := room) (tick := tick) (u := usedE L))) rfl rfl rfl ?_
 rintro _ _ ⟨⟨⟩, rfl, hA⟩
 simp only [List.cons_append, List.nil_append] at hA
 replace hA := hA.symm
 subst hA
 refine WL_r (Rd_not rfl) rfl ?_
 refine WL_end hK3 ?_
 refine WC_condF rfl ?_
 refine WC_skip ?_
 refine Ps_next hK2 ?_
 refine WC_seq fun K4 hK4 => ?_
 refine WC_sr fun K5 hK5 => ?_
 refine WL_r (Rd_move rfl) rfl ?_
 refine WL_r (Rd_move rfl) rfl ?_
 refine WL_r (Rd_nilCheck rfl) rfl ?_
 refine WL_r (Rd_fieldAddr rfl fo40_2) rfl ?_
 refine WL_r (Rd_load rfl tk3) rfl ?_
 refine WL_r (Rd_lss rfl rfl) rfl ?_
 refine WL_r (Rd_move rfl) rfl ?_
 refine WL_bool 18 rfl (fun hg6 => ?_) (fun hg6 => ?_)
 ·try simp only [dz, ne_eq] at hg6
  refine WL_skip rfl rfl rfl ?_
  refine WL_skip rfl rfl rfl ?_
  refine WL_r (Rd_pickT rfl rfl) rfl ?_
  refine WL_end hK5 ?_
  refine WC_condT rfl ?_
  refine WC_sr fun K7 hK7 => ?_
  refine WL_r (Rd_assign rfl) rfl ?_
  refine WL_end hK7 ?_
  refine WC_ret ?_
  exact hret.go () (Rs1 rfl rfl)
 ·try simp only [dz, ne_eq] at hg6
  refine WL_r (Rd_move rfl) rfl ?_
  refine WL_r (Rd_gtr rfl rfl) rfl ?_
  refine WL_r (Rd_pickF rfl rfl) rfl ?_
  refine WL_end hK5 ?_
  refine WC_cond rfl (fun hc1 => ?_) (fun hc1 => ?_)
  ·try simp only [dz, ne_eq] at hc1
   refine WC_sr fun K8 hK8 => ?_
   refine WL_r (Rd_assign rfl) rfl ?_
   refine WL_end hK8 ?_
   refine WC_ret ?_
   exact hret.go () (Rs1 rfl rfl)
  ·try simp only [dz, ne_eq] at hc1
   omega

theorem tick_ct {b m : Nat} {room tick t1 : Int} {L : List En} (h1 : tick ≤ t1) (h2 : t1 ≤ 1099511627776) (hu : usedE L ≤ 1099511627776) : Ct Try.prog 9 [.pointer (some ⟨b, 0, none⟩), .int .i64 t1] [cl b 40 [.bool true, .int .i64 room, .int .i64 tick, .int .i64 (((usedE L) : Nat) : Int), .map (some m)], mpP m kfK vfP (L.map En.kp), star (FEn 85 5) L] (fun _ : Unit => .int .i64 0) (fun _ => [cl b 40 [.bool true, .int .i64 room, .int .i64 t1, .int .i64 (((usedE (L.filterMap (tickEn t1))) : Nat) : Int), .map (some m)], mpP m kfK vfP ((L.filterMap (tickEn t1)).map En.kp), star (FEn 85 5) (L.filterMap (tickEn t1))]) := by
 refine Ct_body (n := 58) Try.func9 rfl rfl rfl fun F w0 Q hret hnorm hp => ?_
 change WC _ _ _ _ _ _ _ (_ :: _ :: _ :: F)
 refine WC_sr fun K1 hK1 => ?_
 refine WL_r (Rd_assign rfl) rfl ?_
 refine WL_end hK1 ?_
 refine WC_seq fun K2 hK2 => ?_
 refine WC_sr fun K3 hK3 => ?_
 refine WL_r (Rd_move rfl) rfl ?_
 refine WL_ac (Ac_call cf27 rfl (hs := ready_ct (b := b) (m := m) (room := room) (tick := tick) (u := usedE L))) rfl rfl rfl ?_
 rintro _ _ ⟨⟨⟩, rfl, hA⟩
 simp only [List.cons_append, List.nil_append] at hA
 replace hA := hA.symm
 subst hA
 refine WL_r (Rd_not rfl) rfl ?_
 refine WL_end hK3 ?_
 refine WC_condF rfl ?_
 refine WC_skip ?_
 refine Ps_next hK2 ?_
 refine WC_seq fun K4 hK4 => ?_
 refine WC_sr fun K5 hK5 => ?_
 refine WL_r (Rd_move rfl) rfl ?_
 refine WL_r (Rd_move rfl) rfl ?_
 refine WL_r (Rd_nilCheck rfl) rfl ?_
 refine WL_r (Rd_fieldAddr rfl fo40_2) rfl ?_
 refine WL_r (Rd_load rfl tk3) rfl ?_
 refine WL_r (Rd_lss rfl rfl) rfl ?_
 refine WL_r (Rd_move rfl) rfl ?_
 refine WL_bool 18 rfl (fun hg6 => ?_) (fun hg6 => ?_)
 ·try simp only [dz, ne_eq] at hg6
  refine WL_skip rfl rfl rfl ?_
  refine WL_skip rfl rfl rfl ?_
  refine WL_r (Rd_pickT rfl rfl) rfl ?_
  refine WL_end hK5 ?_
  refine WC_condT rfl ?_
  omega
 ·try simp only [dz, ne_eq] at hg6
  refine WL_r (Rd_move rfl) rfl ?_
  refine WL_r (Rd_gtr rfl rfl) rfl ?_
  refine WL_r (Rd_pickF rfl rfl) rfl ?_
  refine WL_end hK5 ?_
  refine WC_cond rfl (fun hc1 => ?_) (fun hc1 => ?_)
  ·try simp only [dz, ne_eq] at hc1
   omega
  ·try simp only [dz, ne_eq] at hc1
   refine WC_skip ?_
   refine Ps_next hK4 ?_
   refine WC_sr fun K7 hK7 => ?_
   refine WL_r (Rd_move rfl) rfl ?_
   refine WL_r (Rd_move rfl) rfl ?_
   refine WL_r (Rd_nilCheck rfl) rfl ?_
   refine WL_r (Rd_fieldAddr rfl fo40_2) rfl ?_
   refine WL_ac0 (Ac_store1 rfl rfl sz3) rfl rfl ?_
   rintro _ _ rfl
   refine WL_end hK7 ?_
   refine WC_seq fun K8 hK8 => ?_
   refine WC_sr fun K9 hK9 => ?_
   refine WL_r (Rd_move rfl) rfl ?_
   refine WL_r (Rd_nilCheck rfl) rfl ?_
   refine WL_r (Rd_fieldAddr rfl fo40_4) rfl ?_
   refine WL_r (Rd_load rfl tk38 (v := .map (some m))) rfl ?_
   refine WL_ac (Ac_range (κ := Ky) (β := Nat) rfl ud38) rfl rfl rfl ?_
   rintro _ _ ⟨r30, rfl, rfl⟩
   refine WL_end hK9 ?_
   refine WC_block ?_
   refine WC_loopK (σ := (List En) × (List En)) (fun ⟨ts, dn⟩ => []) (fun ⟨ts, dn⟩ => [cl b 40 [.bool true, .int .i64 room, .int .i64 t1, .int .i64 (((usedE (dn ++ ts)) : Nat) : Int), .map (some m)], mpN m r30 kfK vfP ((dn ++ ts).map En.kp) (ts.map En.kp) none, star (FEn 85 5) (dn ++ ts)]) (fun ⟨ts, dn⟩ => (dn ++ ts.filterMap (tickEn t1)).Perm (L.filterMap (tickEn t1)) ∧ usedE (dn ++ ts) ≤ 1099511627776) (fun ⟨ts, dn⟩ => ts.length) ⟨L, []⟩ [0, 1, 4, 30] kpA (by (try dsimp only); (try simp only [List.nil_append]); repeat (first | with_reducible exact Gv.nil | (with_reducible apply Gv.cons; · (repeat (first | with_reducible exact Ext.here | with_reducible apply Ext.there))))) ?_ ?_ Sub.refl ?_
   ·exact ⟨List.Perm.refl _, hu⟩
   ·(try dsimp only); exact Wk.nil
   ·rintro ⟨ts, dn⟩ ⟨hpm, hub⟩ K10 hK10
    simp only [List.cons_append, List.nil_append]
    refine WC_fact (fun w h => mpN_facts (m := m) (r := r30) (l := (dn ++ ts).map En.kp) (rest := ts.map En.kp) (cur := none) kfK_inj vfP_inj hasA h) (fun hmf => ?_)
    refine WC_sr fun K11 hK11 => ?_
    refine WL_ac (Ac_next (κ := Ky) (β := Nat) (kf := kfK) (vf := vfP) kfK_inj rfl) rfl rfl rfl ?_
    rintro _ _ (⟨hre, rfl, rfl⟩ | ⟨k, p, pre, post, hre, rfl, rfl⟩)
    ·skip
     obtain rfl : ts = [] := List.map_eq_nil_iff.1 hre
     have hpf : (dn ++ []).Perm (L.filterMap (tickEn t1)) := hpm
     refine WL_rep (mpN m r30 kfK vfP ((dn ++ []).map En.kp) [] none) (mpP m kfK vfP ((L.filterMap (tickEn t1)).map En.kp)) (mpN_fin (hpf.map _)) ?_
     refine WL_rep (star (FEn 85 5) (dn ++ [])) (star (FEn 85 5) (L.filterMap (tickEn t1))) (star_rep hpf) ?_
     rw [usedE_perm hpf]
     refine WL_r (Rd_ext0 rfl) rfl ?_
     refine WL_end hK11 ?_
     refine WC_seq fun K12 hK12 => ?_
     refine WC_condF rfl ?_
     refine WC_exit ?_
     refine Ps_next hK8 ?_
     refine WC_sr fun K13 hK13 => ?_
     refine WL_r (Rd_assign rfl) rfl ?_
     refine WL_end hK13 ?_
     refine WC_ret ?_
     exact hret.go () (Rs1 rfl rfl)
    ·skip
     obtain ⟨pt, x, qt, rfl, hpt, hxk, hqt⟩ := map_split hre
     obtain ⟨rfl, rfl⟩ : x.e.key = k ∧ x.p = p := by unfold En.kp at hxk; exact ⟨congrArg Prod.fst hxk, congrArg Prod.snd hxk⟩
     subst hpt; subst hqt
     have hkr : x.e.key ∉ keysL (pt.map En.kp ++ qt.map En.kp) := by have h := hmf.2.1; rw [List.map_append, List.map_cons] at h; exact todo_nd (b := x.p) h
     have hux : x.e.b.length ≤ usedE (dn ++ (pt ++ x :: qt)) := by rw [used_in]; omega
     refine WL_r (Rd_ext0 rfl) rfl ?_
     refine WL_end hK11 ?_
     refine WC_seq fun K14 hK14 => ?_
     refine WC_condT rfl ?_
     refine WC_skip ?_
     refine Ps_next hK14 ?_
     refine WC_block ?_
     refine WC_sr fun K15 hK15 => ?_
     refine WL_r (Rd_entry rfl) rfl ?_
     refine WL_r (Rd_ext0 rfl) rfl ?_
     refine WL_r (Rd_ext1 rfl) rfl ?_
     refine WL_ac (Ac_alloc zr81) rfl rfl rfl ?_
     rintro _ _ ⟨b5, rfl, rfl⟩
     refine WL_ac0 (Ac_store (ys := kcK x.e.key) rfl rfl sz81 (h1 := encK.one _) (hv := by simpa [Value.cells, kfK] using kcK_len x.e.key) (hr := by simp [Value.cells, kfK])) rfl rfl ?_
     rintro _ _ rfl
     refine WL_r (Rd_assign rfl) rfl ?_
     refine WL_end hK15 ?_
     refine WC_seq fun K16 hK16 => ?_
     refine WC_sr fun K17 hK17 => ?_
     refine WL_r (Rd_move rfl) rfl ?_
     refine WL_r (Rd_nilCheck rfl) rfl ?_
     refine WL_r (Rd_fieldAddr rfl fo85_1) rfl ?_
     refine WL_enout 85 5 dn pt x qt ?_
     refine WL_r (Rd_load rfl tk83 (v := .map (some x.m))) rfl ?_
     refine WL_ac (Ac_range (κ := B32) (β := Int) rfl ud83) rfl rfl rfl ?_
     rintro _ _ ⟨r40, rfl, rfl⟩
     refine WL_end hK17 ?_
     refine WC_block ?_
     refine WC_loopK (σ := (List Ls) × (List Ls)) (fun ⟨tw, dw⟩ => []) (fun ⟨tw, dw⟩ => [mpN x.m r40 kfW vfI (dw ++ tw) tw none]) (fun ⟨tw, dw⟩ => (dw ++ runsL t1 tw).Perm (runsL t1 x.e.ls)) (fun ⟨tw, dw⟩ => tw.length) ⟨x.e.ls, []⟩ [0, 1, 4, 5, 6, 30, 31, 32, 33, 34, 35, 36, 37, 38, 39, 40, 54, 55, 56] kpA (by (try dsimp only); (try simp only [List.nil_append]); repeat (first | with_reducible exact Gv.nil | (with_reducible apply Gv.cons; · (repeat (first | with_reducible exact Ext.here | with_reducible apply Ext.there))))) ?_ ?_ Sub.refl ?_
     ·exact List.Perm.refl _
     ·(try dsimp only); exact Wk.nil
     ·rintro ⟨tw, dw⟩ hpw K18 hK18
      simp only [List.cons_append, List.nil_append]
      refine WC_fact (fun w h => mpN_facts (m := x.m) (r := r40) (l := dw ++ tw) (rest := tw) (cur := none) kfW_inj vfI_inj hasA h) (fun hwf => ?_)
      refine WC_sr fun K19 hK19 => ?_
      refine WL_ac (Ac_next (κ := B32) (β := Int) (kf := kfW) (vf := vfI) kfW_inj rfl) rfl rfl rfl ?_
      rintro _ _ (⟨hrw, rfl, rfl⟩ | ⟨wh, un, pw, qw, hrw, rfl, rfl⟩)
      ·skip
       subst hrw
       refine WL_rep (mpN x.m r40 kfW vfI (dw ++ []) [] none) (mpP x.m kfW vfI (runsL t1 x.e.ls)) (mpN_fin (show (dw ++ []).Perm (runsL t1 x.e.ls) from hpw)) ?_
       refine WL_r (Rd_ext0 rfl) rfl ?_
       refine WL_end hK19 ?_
       refine WC_seq fun K20 hK20 => ?_
       refine WC_condF rfl ?_
       refine WC_exit ?_
       refine Ps_next hK16 ?_
       refine WC_region ?_
       refine WL_r (Rd_move rfl) rfl ?_
       refine WL_r (Rd_loadg (vs := kcK x.e.key) rfl tk81 (hl := by rw [kcK_len]; omega) (hi := by rw [List.drop_zero]; exact List.take_of_length_le (Nat.le_of_eq (kcK_len x.e.key)))) rfl ?_
       refine WL_r (Rd_move rfl) rfl ?_
       refine WL_rep (mpN m r30 kfK vfP ((dn ++ (pt ++ x :: qt)).map En.kp) (pt.map En.kp ++ qt.map En.kp) (some (x.e.key, x.p))) (mpN m r30 kfK vfP ((dn ++ (pt ++ x :: qt)).map En.kp) (pt.map En.kp ++ qt.map En.kp) none) (mpN_rep (.refl _)) ?_
       refine WL_ac (Ac_call cf28 rfl (hs := dropN_ct (b := b) (m := m) (r := r30) (room := room) (tick := t1) (u := usedE (dn ++ (pt ++ x :: qt))) (k := x.e.key) (x := x) (ls := (runsL t1 x.e.ls)) (l := (dn ++ (pt ++ x :: qt)).map En.kp) (rest := (pt.map En.kp ++ qt.map En.kp)) hkr hux hub)) rfl rfl rfl ?_
       rintro _ _ ⟨⟨⟩, rfl, hA⟩
       simp only [List.cons_append, List.nil_append] at hA
       replace hA := hA.symm
       subst hA
       refine WL_enkeep 85 5 x (runsL t1 x.e.ls) (dn ++ (pt ++ qt)) ?_
       rw [show ((keepK x.e (runsL t1 x.e.ls)).map x.put) = tickEn t1 x from rfl, ← List.append_assoc, keep_used, show ((keepK x.e (runsL t1 x.e.ls)).map x.put) = tickEn t1 x from rfl]
       refine WL_rep (mpN m r30 kfK vfP (if (runsL t1 x.e.ls) = [] then delL x.e.key ((dn ++ (pt ++ x :: qt)).map En.kp) else (dn ++ (pt ++ x :: qt)).map En.kp) (pt.map En.kp ++ qt.map En.kp) none) (mpN m r30 kfK vfP ((((tickEn t1 x).toList ++ dn) ++ (pt ++ qt)).map En.kp) ((pt ++ qt).map En.kp) none) (mpN_rep2 (keep_map hmf.1) (List.map_append).symm) ?_
       refine WL_nil ?_
       refine Ps_wkA (hK10 ⟨pt ++ qt, ((tickEn t1 x).toList ++ dn)⟩ (⟨fm_step hpm, by (try dsimp only); rw [← show ((keepK x.e (runsL t1 x.e.ls)).map x.put) = tickEn t1 x from rfl, ← keep_used]; split <;> omega⟩) (by (try dsimp only); rw [List.length_append, List.length_append, List.length_cons]; omega))
      ·skip
       subst hrw
       have hwn := todo_nd hwf.2.1
       refine WL_r (Rd_ext0 rfl) rfl ?_
       refine WL_end hK19 ?_
       refine WC_seq fun K21 hK21 => ?_
       refine WC_condT rfl ?_
       refine WC_skip ?_
       refine Ps_next hK21 ?_
       refine WC_block ?_
       refine WC_sr fun K22 hK22 => ?_
       refine WL_r (Rd_entry rfl) rfl ?_
       refine WL_r (Rd_ext0 rfl) rfl ?_
       refine WL_r (Rd_ext1 rfl) rfl ?_
       refine WL_r (Rd_assign rfl) rfl ?_
       refine WL_r (Rd_assign rfl) rfl ?_
       refine WL_end hK22 ?_
       refine WC_sr fun K23 hK23 => ?_
       refine WL_r (Rd_move rfl) rfl ?_
       refine WL_r (Rd_move rfl) rfl ?_
       refine WL_r (Rd_lss rfl rfl) rfl ?_
       refine WL_end hK23 ?_
       refine WC_cond rfl (fun hc4 => ?_) (fun hc4 => ?_)
       ·try simp only [dz, ne_eq] at hc4
        refine WC_region ?_
        refine WL_r (Rd_move rfl) rfl ?_
        refine WL_r (Rd_nilCheck rfl) rfl ?_
        refine WL_r (Rd_fieldAddr rfl fo85_1) rfl ?_
        refine WL_r (Rd_load rfl tk83 (v := .map (some x.m))) rfl ?_
        refine WL_r (Rd_move rfl) rfl ?_
        refine WL_ac0 (Ac_delN keyW rfl rfl ud83 hwn) rfl rfl ?_
        rintro _ _ rfl
        refine WL_rep (mpN x.m r40 kfW vfI (delL wh (dw ++ (pw ++ (wh, un) :: qw))) (pw ++ qw) none) (mpN x.m r40 kfW vfI (dw ++ (pw ++ qw)) (pw ++ qw) none) (mpN_rep (delL_todo hwf.1)) ?_
        refine WL_nil ?_
        refine Ps_wkA (hK18 ⟨pw ++ qw, dw⟩ (by (try dsimp only); have h := hpw; (try dsimp only at h); rw [runs_drop hc4] at h; exact h) (by (try dsimp only); rw [List.length_append, List.length_append, List.length_cons]; omega))
       ·try simp only [dz, ne_eq] at hc4
        refine WC_rep (mpN x.m r40 kfW vfI (dw ++ (pw ++ (wh, un) :: qw)) (pw ++ qw) (some (wh, un))) (mpN x.m r40 kfW vfI ((wh, un) :: dw ++ (pw ++ qw)) (pw ++ qw) none) (mpN_rep todo_perm) ?_
        refine WC_skip ?_
        refine Ps_wkA (hK18 ⟨pw ++ qw, (wh, un) :: dw⟩ (runs_keep hc4 hpw) (by (try dsimp only); rw [List.length_append, List.length_append, List.length_cons]; omega))
end Go.Proofs.Ytoakfknnaiapiaa
namespace Go.Proofs.Ytoakfknnaiapiaa
open Go.RowKit Go.SL Go.ShM Go.SvM Go.Proofs Go.Shelf Go.Sort Go.Lib
set_option maxHeartbeats 1000000
set_option maxRecDepth 20000
set_option linter.all false

def sortI_ren : Go.Shelf.Ren := ⟨fun | 125 => 63 | 128 => 76 | 129 => 77 | 189 => 59 | 215 => 108 | 216 => 93 | 257 => 67 | 294 => 87 | 295 => 88 | 296 => 89 | 297 => 90 | 298 => 91 | 299 => 92 | 300 => 94 | 301 => 95 | 328 => 105 | 329 => 97 | 330 => 98 | 331 => 106 | 332 => 107 | 343 => 111 | n => n, fun | 0 => 0 | 3 => 3 | 4 => 4 | 5 => 5 | 9 => 9 | 28 => 43 | 46 => 122 | 51 => 25 | 53 => 135 | 131 => 109 | 182 => 127 | 183 => 128 | 218 => 147 | 222 => 151 | 228 => 157 | 229 => 158 | n => n, fun | n => n⟩
theorem sortI : Go.Proofs.Lays.n189 Try.prog sortI_ren := {
  mixed := by kernel_rfl
  f125 := Try.func63.trans (congrArg some (by kernel_rfl))
  f128 := Try.func76.trans (congrArg some (by kernel_rfl))
  f129 := Try.func77.trans (congrArg some (by kernel_rfl))
  f189 := Try.func59.trans (congrArg some (by kernel_rfl))
  f215 := Try.func108.trans (congrArg some (by kernel_rfl))
  f216 := Try.func93.trans (congrArg some (by kernel_rfl))
  f257 := Try.func67.trans (congrArg some (by kernel_rfl))
  f294 := Try.func87.trans (congrArg some (by kernel_rfl))
  f295 := Try.func88.trans (congrArg some (by kernel_rfl))
  f296 := Try.func89.trans (congrArg some (by kernel_rfl))
  f297 := Try.func90.trans (congrArg some (by kernel_rfl))
  f298 := Try.func91.trans (congrArg some (by kernel_rfl))
  f299 := Try.func92.trans (congrArg some (by kernel_rfl))
  f300 := Try.func94.trans (congrArg some (by kernel_rfl))
  f301 := Try.func95.trans (congrArg some (by kernel_rfl))
  f328 := Try.func105.trans (congrArg some (by kernel_rfl))
  f329 := Try.func97.trans (congrArg some (by kernel_rfl))
  f330 := Try.func98.trans (congrArg some (by kernel_rfl))
  f331 := Try.func106.trans (congrArg some (by kernel_rfl))
  f332 := Try.func107.trans (congrArg some (by kernel_rfl))
  f343 := Try.func111.trans (congrArg some (by kernel_rfl))
  t0 := Try.underlying0
  a0 := Try.isAgg0
  z0 := Try.sizeOf0
  v0 := Try.zeroValue0
  t3 := Try.underlying3
  a3 := Try.isAgg3
  z3 := Try.sizeOf3
  v3 := Try.zeroValue3
  t4 := Try.underlying4
  a4 := Try.isAgg4
  z4 := Try.sizeOf4
  v4 := Try.zeroValue4
  t5 := Try.underlying5
  a5 := Try.isAgg5
  z5 := Try.sizeOf5
  v5 := Try.zeroValue5
  t9 := Try.underlying9
  a9 := Try.isAgg9
  z9 := Try.sizeOf9
  v9 := Try.zeroValue9
  t28 := Try.underlying43
  a28 := Try.isAgg43
  z28 := Try.sizeOf43
  v28 := Try.zeroValue43
  t46 := Try.underlying122
  a46 := Try.isAgg122
  z46 := Try.sizeOf122
  v46 := Try.zeroValue122
  t51 := Try.underlying25
  a51 := Try.isAgg25
  z51 := Try.sizeOf25
  v51 := Try.zeroValue25
  t53 := Try.underlying135
  a53 := Try.isAgg135
  z53 := Try.sizeOf135
  v53 := Try.zeroValue135
  t131 := Try.underlying109
  a131 := Try.isAgg109
  z131 := Try.sizeOf109
  v131 := Try.zeroValue109
  t182 := Try.underlying127
  a182 := Try.isAgg127
  z182 := Try.sizeOf127
  v182 := Try.zeroValue127
  t183 := Try.underlying128
  a183 := Try.isAgg128
  z183 := Try.sizeOf128
  v183 := Try.zeroValue128
  t218 := Try.underlying147
  a218 := Try.isAgg147
  z218 := Try.sizeOf147
  v218 := Try.zeroValue147
  t222 := Try.underlying151
  a222 := Try.isAgg151
  z222 := Try.sizeOf151
  v222 := Try.zeroValue151
  t228 := Try.underlying157
  a228 := Try.isAgg157
  z228 := Try.sizeOf157
  v228 := Try.zeroValue157
  t229 := Try.underlying158
  a229 := Try.isAgg158
  z229 := Try.sizeOf158
  v229 := Try.zeroValue158
}

def sortK_ren : Go.Shelf.Ren := ⟨fun | 6 => 53 | 14 => 62 | 15 => 63 | 20 => 68 | 21 => 69 | 22 => 70 | 23 => 71 | 24 => 72 | 25 => 73 | 26 => 74 | 27 => 75 | 28 => 76 | 29 => 77 | 46 => 96 | 47 => 97 | 48 => 98 | 49 => 99 | 50 => 100 | 57 => 109 | n => n, fun | 0 => 0 | 3 => 3 | 4 => 4 | 5 => 5 | 9 => 9 | 22 => 93 | 24 => 81 | 25 => 98 | 39 => 122 | 45 => 127 | 46 => 128 | 50 => 109 | 53 => 25 | 55 => 135 | 66 => 147 | 70 => 151 | 76 => 157 | 77 => 158 | n => n, fun | n => n⟩
theorem sortK : Go.Proofs.SlLaysF0.n6 Try.prog sortK_ren := {
  mixed := by kernel_rfl
  f6 := ⟨Try.f53.name, by decide, Try.func53.trans (congrArg some (by kernel_rfl))⟩
  f14 := ⟨Try.f62.name, by decide, Try.func62.trans (congrArg some (by kernel_rfl))⟩
  f15 := Try.func63.trans (congrArg some (by kernel_rfl))
  f20 := ⟨Try.f68.name, by decide, Try.func68.trans (congrArg some (by kernel_rfl))⟩
  f21 := ⟨Try.f69.name, by decide, Try.func69.trans (congrArg some (by kernel_rfl))⟩
  f22 := ⟨Try.f70.name, by decide, Try.func70.trans (congrArg some (by kernel_rfl))⟩
  f23 := ⟨Try.f71.name, by decide, Try.func71.trans (congrArg some (by kernel_rfl))⟩
  f24 := ⟨Try.f72.name, by decide, Try.func72.trans (congrArg some (by kernel_rfl))⟩
  f25 := ⟨Try.f73.name, by decide, Try.func73.trans (congrArg some (by kernel_rfl))⟩
  f26 := ⟨Try.f74.name, by decide, Try.func74.trans (congrArg some (by kernel_rfl))⟩
  f27 := ⟨Try.f75.name, by decide, Try.func75.trans (congrArg some (by kernel_rfl))⟩
  f28 := Try.func76.trans (congrArg some (by kernel_rfl))
  f29 := Try.func77.trans (congrArg some (by kernel_rfl))
  f46 := ⟨Try.f96.name, by decide, Try.func96.trans (congrArg some (by kernel_rfl))⟩
  f47 := Try.func97.trans (congrArg some (by kernel_rfl))
  f48 := Try.func98.trans (congrArg some (by kernel_rfl))
  f49 := ⟨Try.f99.name, by decide, Try.func99.trans (congrArg some (by kernel_rfl))⟩
  f50 := ⟨Try.f100.name, by decide, Try.func100.trans (congrArg some (by kernel_rfl))⟩
  f57 := ⟨Try.f109.name, by decide, Try.func109.trans (congrArg some (by kernel_rfl))⟩
  t0 := Try.underlying0
  a0 := Try.isAgg0
  z0 := Try.sizeOf0
  v0 := Try.zeroValue0
  t3 := Try.underlying3
  a3 := Try.isAgg3
  z3 := Try.sizeOf3
  v3 := Try.zeroValue3
  t4 := Try.underlying4
  a4 := Try.isAgg4
  z4 := Try.sizeOf4
  v4 := Try.zeroValue4
  t5 := Try.underlying5
  a5 := Try.isAgg5
  z5 := Try.sizeOf5
  v5 := Try.zeroValue5
  t9 := Try.underlying9
  a9 := Try.isAgg9
  z9 := Try.sizeOf9
  v9 := Try.zeroValue9
  t22 := Try.underlying93
  a22 := Try.isAgg93
  z22 := Try.sizeOf93
  v22 := Try.zeroValue93
  t25 := Try.underlying98
  a25 := Try.isAgg98
  z25 := Try.sizeOf98
  v25 := Try.zeroValue98
  t39 := Try.underlying122
  a39 := Try.isAgg122
  z39 := Try.sizeOf122
  v39 := Try.zeroValue122
  t45 := Try.underlying127
  a45 := Try.isAgg127
  z45 := Try.sizeOf127
  v45 := Try.zeroValue127
  t46 := Try.underlying128
  a46 := Try.isAgg128
  z46 := Try.sizeOf128
  v46 := Try.zeroValue128
  t50 := Try.underlying109
  a50 := Try.isAgg109
  z50 := Try.sizeOf109
  v50 := Try.zeroValue109
  t53 := Try.underlying25
  a53 := Try.isAgg25
  z53 := Try.sizeOf25
  v53 := Try.zeroValue25
  t55 := Try.underlying135
  a55 := Try.isAgg135
  z55 := Try.sizeOf135
  v55 := Try.zeroValue135
  t66 := Try.underlying147
  a66 := Try.isAgg147
  z66 := Try.sizeOf147
  v66 := Try.zeroValue147
  t70 := Try.underlying151
  a70 := Try.isAgg151
  z70 := Try.sizeOf151
  v70 := Try.zeroValue151
  t76 := Try.underlying157
  a76 := Try.isAgg157
  z76 := Try.sizeOf157
  v76 := Try.zeroValue157
  t77 := Try.underlying158
  a77 := Try.isAgg158
  z77 := Try.sizeOf158
  v77 := Try.zeroValue158
}

def eI (x : Int) : List Value := [.int .i64 x]
theorem encI : Enc eI 1 := ⟨fun _ => rfl, fun x v hv => by simp [eI] at hv; subst hv; rfl⟩
theorem sortI_ct {a : Option Nat} {cap : Nat} {l : List Int} (h : l.length < 4611686018427387904) : Ct Try.prog 59 [sl a l.length cap] [arr a cap 1 3 eI l] (fun _ : Unit => .tuple #[]) (fun _ => [arr a cap 1 3 eI (l.mergeSort fun x y => decide (x ≤ y))]) :=
  Ct_sortI sortI eI (fun _ => rfl) a cap 3 l h
end Go.Proofs.Ytoakfknnaiapiaa
namespace Go.Proofs.Ytoakfknnaiapiaa
open Go.RowKit Go.SL Go.ShM Go.SvM
set_option maxHeartbeats 1000000
set_option maxRecDepth 20000
set_option linter.all false
theorem cf59 : cfn Try.prog 59 = true := by kernel_rfl
theorem el3 : el Try.prog 3 = some (1, 8) := by kernel_rfl
theorem fo81_0 : fo Try.prog 81 0 = some (0, 24) := by kernel_rfl
theorem fo81_1 : fo Try.prog 81 1 = some (16, 3) := by kernel_rfl
theorem ud43 : Try.prog.underlying 43 = some (.slice 3) := by kernel_rfl
theorem zr3 : zr Try.prog 3 = some [.int .i64 0] := by kernel_rfl
theorem under_ct {b m : Nat} {room tick : Int} {L : List En} {ix : Ix} {g : Nat} {cb : List Value} {X : Asn} {hb : Kp → Bool} (hg : cfn Try.prog g = true) (hh : ∀ x : En, Ct Try.prog g (.pointer (some ⟨x.p, 0, none⟩) :: cb) [cl x.p 85 [sl x.a x.e.b.length x.cap, .map (some x.m)], arr x.a x.cap 1 5 (eU .u8 (w := 8)) x.e.b, mpP x.m kfW vfI x.e.ls, X] (fun _ : Unit => .bool (hb x.e)) (fun _ => [cl x.p 85 [sl x.a x.e.b.length x.cap, .map (some x.m)], arr x.a x.cap 1 5 (eU .u8 (w := 8)) x.e.b, mpP x.m kfW vfI x.e.ls, X])) (hs : SrtK (L.map En.e)) (hn : L.length ≤ 100000000) : Ct Try.prog 42 [.pointer (some ⟨b, 0, none⟩), aU .u8 ix.l, (.func (.func g) #[] cb.toArray)] [cl b 40 [.bool true, .int .i64 room, .int .i64 tick, .int .i64 (((usedE L) : Nat) : Int), .map (some m)], mpP m kfK vfP (L.map En.kp), star (FEn 85 5) L, X] (fun q : Option Nat × Nat => sl q.1 (underM ix hb (L.map En.e)).length q.2) (fun q => [cl b 40 [.bool true, .int .i64 room, .int .i64 tick, .int .i64 (((usedE L) : Nat) : Int), .map (some m)], mpP m kfK vfP (L.map En.kp), star (FEn 85 5) L, X, arr q.1 q.2 1 3 eI (underM ix hb (L.map En.e))]) := by
 refine Ct_body (n := 37) Try.func42 rfl rfl rfl fun F w0 Q hret hnorm hp => ?_
 change WC _ _ _ _ _ _ _ (_ :: _ :: _ :: _ :: F)
 have hixl := ix.h
 refine WC_sr fun K1 hK1 => ?_
 refine WL_ac (Ac_boxW (k := .u8) rfl) rfl rfl rfl ?_
 rintro _ _ ⟨b4, rfl, rfl⟩
 refine WL_r (Rd_assign (v := sl none 0 0) rfl) rfl ?_
 refine WL_end hK1 ?_
 refine WC_sr fun K2 hK2 => ?_
 refine WL_r (Rd_assign (v := sl none 0 0) rfl) rfl ?_
 refine WL_nilarr eI 1 3 ?_
 refine WL_end hK2 ?_
 refine WC_seq fun K3 hK3 => ?_
 refine WC_sr fun K4 hK4 => ?_
 refine WL_r (Rd_move rfl) rfl ?_
 refine WL_r (Rd_nilCheck rfl) rfl ?_
 refine WL_r (Rd_fieldAddr rfl fo40_4) rfl ?_
 refine WL_r (Rd_load rfl tk38 (v := .map (some m))) rfl ?_
 refine WL_ac (Ac_range (κ := Ky) (β := Nat) rfl ud38) rfl rfl rfl ?_
 rintro _ _ ⟨r14, rfl, rfl⟩
 refine WL_end hK4 ?_
 refine WC_block ?_
 refine WC_loopK (σ := (List En) × (List En) × (List Int) × (Option Nat) × Nat) (fun ⟨ts, dn, out, a, cap⟩ => [(7, sl a out.length cap)]) (fun ⟨ts, dn, out, a, cap⟩ => [mpN m r14 kfK vfP ((dn ++ ts).map En.kp) (ts.map En.kp) none, star (FEn 85 5) (dn ++ ts), arr a cap 1 3 eI out]) (fun ⟨ts, dn, out, a, cap⟩ => (dn ++ ts).Perm L ∧ (out ++ (underM ix hb (ts.map En.e))).Perm (underM ix hb (L.map En.e)) ∧ out.length + ts.length ≤ L.length) (fun ⟨ts, dn, out, a, cap⟩ => ts.length) ⟨L, [], [], none, 0⟩ [2, 4, 6, 14, 34, 36] kpA (by (try dsimp only); (try simp only [List.nil_append]); repeat (first | with_reducible exact Gv.nil | (with_reducible apply Gv.cons; · (repeat (first | with_reducible exact Ext.here | with_reducible apply Ext.there))))) ?_ ?_ Sub.refl ?_
 ·exact ⟨List.Perm.refl _, List.Perm.refl _, Nat.le_of_eq (Nat.zero_add _)⟩
 ·(try dsimp only); exact (Wk.cons lkA Wk.nil)
 ·rintro ⟨ts, dn, out, a, cap⟩ ⟨hpl, hpo, hol⟩ K5 hK5
  simp only [List.cons_append, List.nil_append]
  refine WC_sr fun K6 hK6 => ?_
  refine WL_ac (Ac_next (κ := Ky) (β := Nat) (kf := kfK) (vf := vfP) kfK_inj rfl) rfl rfl rfl ?_
  rintro _ _ (⟨hre, rfl, rfl⟩ | ⟨k, p, pre, post, hre, rfl, rfl⟩)
  ·skip
   obtain rfl : ts = [] := List.map_eq_nil_iff.1 hre
   have hpf : dn.Perm L := by rw [List.append_nil] at hpl; exact hpl
   refine WL_rep (mpN m r14 kfK vfP ((dn ++ []).map En.kp) [] none) (mpP m kfK vfP (L.map En.kp)) (mpN_fin (by rw [List.append_nil]; exact hpf.map _)) ?_
   refine WL_rep (star (FEn 85 5) (dn ++ [])) (star (FEn 85 5) L) (star_rep (by rw [List.append_nil]; exact hpf)) ?_
   have hso : (out.mergeSort fun x y => decide (x ≤ y)) = (underM ix hb (L.map En.e)) := sort_uniq (by have h := hpo; rw [show (underM ix hb (([] : List En).map En.e)) = [] from rfl, List.append_nil] at h; exact h) (underM_srt hs)
   have hsl : out.length = (underM ix hb (L.map En.e)).length := by rw [← hso]; exact (List.length_mergeSort _).symm
   refine WL_r (Rd_ext0 rfl) rfl ?_
   refine WL_end hK6 ?_
   refine WC_seq fun K7 hK7 => ?_
   refine WC_condF rfl ?_
   refine WC_exit ?_
   refine Ps_next hK3 ?_
   refine WC_sr fun K8 hK8 => ?_
   refine WL_r (Rd_move rfl) rfl ?_
   refine WL_ac (Ac_call cf59 rfl (hs := sortI_ct (a := a) (cap := cap) (l := out) (by omega))) rfl rfl rfl ?_
   rintro _ _ ⟨⟨⟩, rfl, hA⟩
   simp only [List.cons_append, List.nil_append] at hA
   replace hA := hA.symm
   subst hA
   rw [hso]
   refine WL_end hK8 ?_
   refine WC_sr fun K9 hK9 => ?_
   refine WL_r (Rd_move rfl) rfl ?_
   refine WL_r (Rd_assign rfl) rfl ?_
   refine WL_end hK9 ?_
   refine WC_ret ?_
   rw [hsl]
   exact hret.goE (a, cap) (Rs1 rfl rfl) rfl
  ·skip
   obtain ⟨pt, x, qt, rfl, hpt, hxk, hqt⟩ := map_split hre
   obtain ⟨rfl, rfl⟩ : x.e.key = k ∧ x.p = p := by unfold En.kp at hxk; exact ⟨congrArg Prod.fst hxk, congrArg Prod.snd hxk⟩
   subst hpt; subst hqt
   refine WL_r (Rd_ext0 rfl) rfl ?_
   refine WL_end hK6 ?_
   refine WC_seq fun K10 hK10 => ?_
   refine WC_condT rfl ?_
   refine WC_skip ?_
   refine Ps_next hK10 ?_
   refine WC_block ?_
   refine WC_sr fun K11 hK11 => ?_
   refine WL_r (Rd_entry rfl) rfl ?_
   refine WL_rep (mpN m r14 kfK vfP ((dn ++ (pt ++ x :: qt)).map En.kp) (pt.map En.kp ++ qt.map En.kp) (some (x.e.key, x.p))) (mpN m r14 kfK vfP ((x :: dn ++ (pt ++ qt)).map En.kp) ((pt ++ qt).map En.kp) none) (mpN_rep2 (todo_perm.map _) (List.map_append).symm) ?_
   refine WL_rep (star (FEn 85 5) (dn ++ (pt ++ x :: qt))) (star (FEn 85 5) (x :: (dn ++ (pt ++ qt)))) (star_rep todo_perm) ?_
   refine WL_r (Rd_ext0 rfl) rfl ?_
   refine WL_r (Rd_ext1 rfl) rfl ?_
   refine WL_ac (Ac_alloc zr81) rfl rfl rfl ?_
   rintro _ _ ⟨b8, rfl, rfl⟩
   refine WL_ac0 (Ac_store (ys := kcK x.e.key) rfl rfl sz81 (h1 := encK.one _) (hv := by simpa [Value.cells, kfK] using kcK_len x.e.key) (hr := by simp [Value.cells, kfK])) rfl rfl ?_
   rintro _ _ rfl
   refine WL_r (Rd_assign rfl) rfl ?_
   refine WL_end hK11 ?_
   refine WC_sr fun K12 hK12 => ?_
   refine WL_r (Rd_fieldAddr rfl fo81_0) rfl ?_
   refine WL_r (Rd_loadg (vs := x.e.ix.l.flatMap (eU .u8)) rfl tk24 (hl := by rw [kcK_len]; omega) (hi := kcK_ix x.e.key)) rfl ?_
   refine WL_r (Rd_loadW rfl tk24) rfl ?_
   refine WL_r (Rd_eqW rfl rfl ais24 x.e.ix.h ix.h) rfl ?_
   refine WL_r (Rd_move rfl) rfl ?_
   refine WL_bool 24 rfl (fun hg13 => ?_) (fun hg13 => ?_)
   ·try simp only [dz, ne_eq] at hg13
    have hix := hg13
    refine WL_enhead 85 5 x (dn ++ (pt ++ qt)) ?_
    refine WL_r (Rd_move rfl) rfl ?_
    refine WL_r (Rd_move rfl) rfl ?_
    refine WL_ac (Ac_callv rfl hg rfl rfl rfl rfl (hs := hh x)) rfl rfl rfl ?_
    rintro _ _ ⟨⟨⟩, rfl, hA⟩
    simp only [List.cons_append, List.nil_append] at hA
    replace hA := hA.symm
    subst hA
    refine WL_enback 85 5 x (dn ++ (pt ++ qt)) ?_
    refine WL_r (Rd_pickT rfl rfl) rfl ?_
    refine WL_end hK12 ?_
    refine WC_cond rfl (fun hc1 => ?_) (fun hc1 => ?_)
    ·try simp only [dz, ne_eq] at hc1
     have hpass : (decide (x.e.ix = ix) && hb x.e) = true := by rw [ix_ext hix, hc1]; simp
     refine WC_region ?_
     refine WL_r (Rd_move rfl) rfl ?_
     refine WL_r (Rd_fieldAddr rfl fo81_1) rfl ?_
     refine WL_r (Rd_load rfl tk3 (v := .int .i64 x.e.num) (hi := kcK_num x.e.key)) rfl ?_
     refine WL_ac (Ac_bs1 (xs := [.int .i64 x.e.num]) rfl ud43 zr3 sz3) rfl rfl rfl ?_
     rintro _ _ ⟨b32, rfl, rfl⟩
     refine WL_ac (Ac_append1 (f := eI) encI x.e.num rfl rfl ud43 ud43 el3) rfl rfl rfl ?_
     rintro _ _ ⟨a33, cap33, rfl, rfl⟩
     refine WL_r (Rd_assign rfl) rfl ?_
     refine WL_nil ?_
     refine Ps_wkA (hK5 ⟨pt ++ qt, x :: dn, out ++ [x.e.num], a33, cap33⟩ (⟨(todo_perm.symm).trans hpl, by have h := under_step hpo; rw [if_pos hpass] at h; exact h, by (try dsimp only); rw [List.length_append, List.length_append]; rw [List.length_append, List.length_cons] at hol; simp only [List.length_cons, List.length_nil]; omega⟩) (by (try dsimp only); rw [List.length_append, List.length_append, List.length_cons]; omega))
    ·try simp only [dz, ne_eq] at hc1
     have hpass : ¬ (decide (x.e.ix = ix) && hb x.e) = true := by first | (intro h; rw [Bool.and_eq_true, decide_eq_true_eq] at h; exact hix (by show x.e.ix.l = ix.l; rw [h.1])) | (intro h; rw [Bool.and_eq_true] at h; rw [h.2] at hc1; cases hc1) | (intro h; rw [Bool.and_eq_true] at h; exact hc1 h.2)
     refine WC_skip ?_
     refine Ps_wkA (hK5 ⟨pt ++ qt, x :: dn, out, a, cap⟩ (⟨(todo_perm.symm).trans hpl, by have h := under_step hpo; rw [if_neg hpass] at h; exact h, by (try dsimp only); rw [List.length_append]; rw [List.length_append, List.length_cons] at hol; omega⟩) (by (try dsimp only); rw [List.length_append, List.length_append, List.length_cons]; omega))
   ·try simp only [dz, ne_eq] at hg13
    have hix := hg13
    refine WL_skip rfl rfl rfl ?_
    refine WL_skip rfl rfl rfl ?_
    refine WL_skip rfl rfl rfl ?_
    refine WL_r (Rd_pickF rfl rfl) rfl ?_
    refine WL_end hK12 ?_
    refine WC_condF rfl ?_
    have hpass : ¬ (decide (x.e.ix = ix) && hb x.e) = true := by first | (intro h; rw [Bool.and_eq_true, decide_eq_true_eq] at h; exact hix (by show x.e.ix.l = ix.l; rw [h.1])) | (intro h; rw [Bool.and_eq_true] at h; rw [h.2] at hc1; cases hc1) | (intro h; rw [Bool.and_eq_true] at h; exact hc1 h.2)
    refine WC_skip ?_
    refine Ps_wkA (hK5 ⟨pt ++ qt, x :: dn, out, a, cap⟩ (⟨(todo_perm.symm).trans hpl, by have h := under_step hpo; rw [if_neg hpass] at h; exact h, by (try dsimp only); rw [List.length_append]; rw [List.length_append, List.length_cons] at hol; omega⟩) (by (try dsimp only); rw [List.length_append, List.length_append, List.length_cons]; omega))
end Go.Proofs.Ytoakfknnaiapiaa
namespace Go.Proofs.Ytoakfknnaiapiaa
open Go.RowKit Go.SL Go.ShM Go.SvM
set_option maxHeartbeats 1000000
set_option maxRecDepth 20000
set_option linter.all false
theorem cf45 : cfn Try.prog 45 = true := by kernel_rfl
theorem cf46 : cfn Try.prog 46 = true := by kernel_rfl
theorem fls27 : fls Try.prog 27 = some [(0, 25), (1, 3)] := by kernel_rfl
theorem fo27_0 : fo Try.prog 27 0 = some (0, 25) := by kernel_rfl
theorem fo27_1 : fo Try.prog 27 1 = some (1, 3) := by kernel_rfl
theorem fo30_0 : fo Try.prog 30 0 = some (0, 22) := by kernel_rfl
theorem fo30_1 : fo Try.prog 30 1 = some (1, 24) := by kernel_rfl
theorem fo30_2 : fo Try.prog 30 2 = some (17, 3) := by kernel_rfl
theorem fo30_3 : fo Try.prog 30 3 = some (18, 3) := by kernel_rfl
theorem fo30_4 : fo Try.prog 30 4 = some (19, 3) := by kernel_rfl
theorem fo30_5 : fo Try.prog 30 5 = some (20, 27) := by kernel_rfl
theorem fo30_6 : fo Try.prog 30 6 = some (22, 28) := by kernel_rfl
theorem pls30 : pls Try.prog 30 = some ([.int .u8 0, .int .u8 0, .int .u8 0, .int .u8 0, .int .u8 0, .int .u8 0, .int .u8 0, .int .u8 0, .int .u8 0, .int .u8 0, .int .u8 0, .int .u8 0, .int .u8 0, .int .u8 0, .int .u8 0, .int .u8 0, .int .u8 0, .int .i64 0, .int .i64 0, .int .i64 0, .int .u32 0, .int .i64 0, .slice none 0 0], [(0, 1), (1, 16), (17, 1), (18, 1), (19, 1), (20, 2), (22, 1)]) := by kernel_rfl
theorem sz25 : sz Try.prog 25 = some 1 := by kernel_rfl
theorem sz27 : sz Try.prog 27 = some 2 := by kernel_rfl
theorem sz28 : sz Try.prog 28 = some 1 := by kernel_rfl
theorem sz30 : sz Try.prog 30 = some 23 := by kernel_rfl
theorem tk22 : tk Try.prog 22 = some none := by kernel_rfl
theorem tk25 : tk Try.prog 25 = some none := by kernel_rfl
theorem tk27 : tk Try.prog 27 = some (some 2) := by kernel_rfl
theorem zr30 : zr Try.prog 30 = some [.int .u8 0, .int .u8 0, .int .u8 0, .int .u8 0, .int .u8 0, .int .u8 0, .int .u8 0, .int .u8 0, .int .u8 0, .int .u8 0, .int .u8 0, .int .u8 0, .int .u8 0, .int .u8 0, .int .u8 0, .int .u8 0, .int .u8 0, .int .i64 0, .int .i64 0, .int .i64 0, .int .u32 0, .int .i64 0, .slice none 0 0] := by kernel_rfl
theorem number_ct {n : Int}  : Ct Try.prog 46 [.int .i64 n] [] (fun _ : Unit => .bool (decide (0 ≤ n) && decide (n < 255))) (fun _ => []) := by
 refine Ct_body (n := 9) Try.func46 rfl rfl rfl fun F w0 Q hret hnorm hp => ?_
 change WC _ _ _ _ _ _ _ (F)
 refine WC_sr fun K1 hK1 => ?_
 refine WL_r (Rd_assign rfl) rfl ?_
 refine WL_end hK1 ?_
 refine WC_sr fun K2 hK2 => ?_
 refine WL_r (Rd_move rfl) rfl ?_
 refine WL_r (Rd_geq rfl rfl) rfl ?_
 refine WL_r (Rd_move rfl) rfl ?_
 refine WL_bool 5 rfl (fun hg3 => ?_) (fun hg3 => ?_)
 ·try simp only [dz, ne_eq] at hg3
  refine WL_r (Rd_move rfl) rfl ?_
  refine WL_r (Rd_lss rfl rfl) rfl ?_
  refine WL_r (Rd_pickT rfl rfl) rfl ?_
  refine WL_r (Rd_assign rfl) rfl ?_
  refine WL_end hK2 ?_
  refine WC_ret ?_
  exact hret.goE () (Rs1 rfl rfl) (by first | (congr 1; done) | (congr 1; simp [mayM, bareM, *]; done) | (congr 1; simp [mayM, bareM, *]; omega) | (congr 1; rw [Bool.eq_iff_iff]; simp [mayM, bareM, *]; omega) | (congr 1; rw [Bool.eq_iff_iff]; simp [mayM, bareM] at * <;> omega))
 ·try simp only [dz, ne_eq] at hg3
  refine WL_skip rfl rfl rfl ?_
  refine WL_skip rfl rfl rfl ?_
  refine WL_r (Rd_pickF rfl rfl) rfl ?_
  refine WL_r (Rd_assign rfl) rfl ?_
  refine WL_end hK2 ?_
  refine WC_ret ?_
  exact hret.goE () (Rs1 rfl rfl) (by first | (congr 1; done) | (congr 1; simp [mayM, bareM, *]; done) | (congr 1; simp [mayM, bareM, *]; omega) | (congr 1; rw [Bool.eq_iff_iff]; simp [mayM, bareM, *]; omega) | (congr 1; rw [Bool.eq_iff_iff]; simp [mayM, bareM] at * <;> omega))

theorem until_ct {n : Int}  : Ct Try.prog 45 [.int .i64 n] [] (fun _ : Unit => .bool (decide (0 ≤ n) && decide (n ≤ 1099511627776))) (fun _ => []) := by
 refine Ct_body (n := 9) Try.func45 rfl rfl rfl fun F w0 Q hret hnorm hp => ?_
 change WC _ _ _ _ _ _ _ (F)
 refine WC_sr fun K1 hK1 => ?_
 refine WL_r (Rd_assign rfl) rfl ?_
 refine WL_end hK1 ?_
 refine WC_sr fun K2 hK2 => ?_
 refine WL_r (Rd_move rfl) rfl ?_
 refine WL_r (Rd_geq rfl rfl) rfl ?_
 refine WL_r (Rd_move rfl) rfl ?_
 refine WL_bool 5 rfl (fun hg3 => ?_) (fun hg3 => ?_)
 ·try simp only [dz, ne_eq] at hg3
  refine WL_r (Rd_move rfl) rfl ?_
  refine WL_r (Rd_leq rfl rfl) rfl ?_
  refine WL_r (Rd_pickT rfl rfl) rfl ?_
  refine WL_r (Rd_assign rfl) rfl ?_
  refine WL_end hK2 ?_
  refine WC_ret ?_
  exact hret.goE () (Rs1 rfl rfl) (by first | (congr 1; done) | (congr 1; simp [mayM, bareM, *]; done) | (congr 1; simp [mayM, bareM, *]; omega) | (congr 1; rw [Bool.eq_iff_iff]; simp [mayM, bareM, *]; omega) | (congr 1; rw [Bool.eq_iff_iff]; simp [mayM, bareM] at * <;> omega))
 ·try simp only [dz, ne_eq] at hg3
  refine WL_skip rfl rfl rfl ?_
  refine WL_skip rfl rfl rfl ?_
  refine WL_r (Rd_pickF rfl rfl) rfl ?_
  refine WL_r (Rd_assign rfl) rfl ?_
  refine WL_end hK2 ?_
  refine WC_ret ?_
  exact hret.goE () (Rs1 rfl rfl) (by first | (congr 1; done) | (congr 1; simp [mayM, bareM, *]; done) | (congr 1; simp [mayM, bareM, *]; omega) | (congr 1; rw [Bool.eq_iff_iff]; simp [mayM, bareM, *]; omega) | (congr 1; rw [Bool.eq_iff_iff]; simp [mayM, bareM] at * <;> omega))

theorem mayS_ct {k n f c wh un : Int} {x0 x1 x2 x3 x4 x5 x6 x7 x8 x9 x10 x11 x12 x13 x14 x15 : Int} {ao : Option Addr} {len cap : Nat}  : Ct Try.prog 29 [.agg [.int .u8 k, .int .u8 x0, .int .u8 x1, .int .u8 x2, .int .u8 x3, .int .u8 x4, .int .u8 x5, .int .u8 x6, .int .u8 x7, .int .u8 x8, .int .u8 x9, .int .u8 x10, .int .u8 x11, .int .u8 x12, .int .u8 x13, .int .u8 x14, .int .u8 x15, .int .i64 n, .int .i64 f, .int .i64 c, .int .u32 wh, .int .i64 un, .slice ao len cap].toArray] [] (fun _ : Unit => .bool (mayM k n f c wh un len)) (fun _ => []) := by
 refine Ct_body (n := 128) Try.func29 rfl rfl rfl fun F w0 Q hret hnorm hp => ?_
 change WC _ _ _ _ _ _ _ (F)
 refine WC_sr fun K1 hK1 => ?_
 refine WL_ac (Ac_box rfl rfl) rfl rfl rfl ?_
 rintro _ _ ⟨b1, rfl, rfl⟩
 refine WL_r (Rd_assign rfl) rfl ?_
 refine WL_end hK1 ?_
 refine WC_sr fun K2 hK2 => ?_
 refine WL_r (Rd_fieldAddr rfl fo30_0) rfl ?_
 refine WL_r (Rd_load rfl tk22) rfl ?_
 refine WL_r (Rd_fieldAddr rfl fo30_1) rfl ?_
 refine WL_r (Rd_loadg rfl tk24) rfl ?_
 refine WL_r (Rd_build pls30 rfl) rfl ?_
 refine WL_ac (Ac_alloc zr30) rfl rfl rfl ?_
 rintro _ _ ⟨b3, rfl, rfl⟩
 refine WL_ac0 (Ac_store rfl rfl sz30) rfl rfl ?_
 rintro _ _ rfl
 refine WL_end hK2 ?_
 refine WC_sr fun K3 hK3 => ?_
 refine WL_r (Rd_assign rfl) rfl ?_
 refine WL_end hK3 ?_
 refine WC_seq fun K4 hK4 => ?_
 refine WC_sr fun K5 hK5 => ?_
 refine WL_r (Rd_fieldAddr rfl fo30_0) rfl ?_
 refine WL_r (Rd_load rfl tk22) rfl ?_
 refine WL_end hK5 ?_
 refine WC_block ?_
 refine WC_sr fun K6 hK6 => ?_
 first | refine WL_rd (Rd_eqlN (j := 1) rfl rfl) rfl rfl rfl ?_ | refine WL_rd (Rd_eql rfl rfl) rfl rfl rfl ?_
 refine WL_r (Rd_assign rfl) rfl ?_
 refine WL_end hK6 ?_
 refine WC_cond rfl (fun hc0 => ?_) (fun hc0 => ?_)
 ·try simp only [dz, ne_eq] at hc0
  refine WC_skip ?_
  refine Ps_next hK4 ?_
  refine WC_sr fun K7 hK7 => ?_
  refine WL_r (Rd_move rfl) rfl ?_
  refine WL_r (Rd_move rfl) rfl ?_
  refine WL_r (Rd_fieldAddr rfl fo30_2) rfl ?_
  refine WL_r (Rd_load rfl tk3) rfl ?_
  refine WL_r (Rd_fieldAddr rfl fo30_2) rfl ?_
  refine WL_r (Rd_load rfl tk3) rfl ?_
  first | refine WL_rd (Rd_eqlN rfl rfl) rfl rfl rfl ?_ | refine WL_rd (Rd_eql rfl rfl) rfl rfl rfl ?_
  refine WL_r (Rd_pickT rfl rfl) rfl ?_
  refine WL_r (Rd_move rfl) rfl ?_
  refine WL_bool 98 rfl (fun hg8 => ?_) (fun hg8 => ?_)
  ·try simp only [dz, ne_eq] at hg8
   refine WL_r (Rd_fieldAddr rfl fo30_3) rfl ?_
   refine WL_r (Rd_load rfl tk3) rfl ?_
   refine WL_r (Rd_fieldAddr rfl fo30_3) rfl ?_
   refine WL_r (Rd_load rfl tk3) rfl ?_
   first | refine WL_rd (Rd_eqlN rfl rfl) rfl rfl rfl ?_ | refine WL_rd (Rd_eql rfl rfl) rfl rfl rfl ?_
   refine WL_r (Rd_pickT rfl rfl) rfl ?_
   refine WL_r (Rd_move rfl) rfl ?_
   refine WL_bool 105 rfl (fun hg9 => ?_) (fun hg9 => ?_)
   ·try simp only [dz, ne_eq] at hg9
    refine WL_r (Rd_fieldAddr rfl fo30_4) rfl ?_
    refine WL_r (Rd_load rfl tk3) rfl ?_
    refine WL_r (Rd_fieldAddr rfl fo30_4) rfl ?_
    refine WL_r (Rd_load rfl tk3) rfl ?_
    first | refine WL_rd (Rd_eqlN rfl rfl) rfl rfl rfl ?_ | refine WL_rd (Rd_eql rfl rfl) rfl rfl rfl ?_
    refine WL_r (Rd_pickT rfl rfl) rfl ?_
    refine WL_r (Rd_move rfl) rfl ?_
    refine WL_bool 112 rfl (fun hg10 => ?_) (fun hg10 => ?_)
    ·try simp only [dz, ne_eq] at hg10
     refine WL_r (Rd_fieldAddr rfl fo30_5) rfl ?_
     refine WL_r (Rd_loadg rfl tk27) rfl ?_
     refine WL_r (Rd_fieldAddr rfl fo30_5) rfl ?_
     refine WL_r (Rd_loadg rfl tk27) rfl ?_
     refine WL_r (Rd_eqS rfl rfl fls27 (EqL.sc tk25 rfl rfl (Eqs_int ud25 _ _) (EqL.sc tk3 rfl rfl (Eqs_int ud3 _ _) EqL.nil))) rfl ?_
     refine WL_r (Rd_pickT rfl rfl) rfl ?_
     refine WL_r (Rd_move rfl) rfl ?_
     refine WL_bool 119 rfl (fun hg11 => ?_) (fun hg11 => ?_)
     ·try simp only [dz, ne_eq] at hg11
      refine WL_r (Rd_fieldAddr rfl fo30_6) rfl ?_
      refine WL_r (Rd_load rfl tk28) rfl ?_
      first | refine WL_rd (Rd_len rfl rfl ud28) rfl rfl rfl ?_ | refine WL_rd (Rd_len_sv rfl rfl ud28) rfl rfl rfl ?_
      refine WL_r (Rd_fieldAddr rfl fo30_6) rfl ?_
      refine WL_r (Rd_load rfl tk28) rfl ?_
      first | refine WL_rd (Rd_len rfl rfl ud28) rfl rfl rfl ?_ | refine WL_rd (Rd_len_sv rfl rfl ud28) rfl rfl rfl ?_
      refine WL_r (Rd_eqlN rfl rfl) rfl ?_
      refine WL_r (Rd_pickT rfl rfl) rfl ?_
      refine WL_r (Rd_assign rfl) rfl ?_
      refine WL_end hK7 ?_
      refine WC_ret ?_
      exact hret.goE () (Rs1 rfl rfl) (by first | (congr 1; done) | (congr 1; simp [mayM, bareM, *]; done) | (congr 1; simp [mayM, bareM, *]; omega) | (congr 1; rw [Bool.eq_iff_iff]; simp [mayM, bareM, *]; omega) | (congr 1; rw [Bool.eq_iff_iff]; simp [mayM, bareM] at * <;> omega))
     ·try simp only [dz, ne_eq] at hg11
      refine WL_skip rfl rfl rfl ?_
      refine WL_skip rfl rfl rfl ?_
      refine WL_skip rfl rfl rfl ?_
      refine WL_skip rfl rfl rfl ?_
      refine WL_skip rfl rfl rfl ?_
      refine WL_skip rfl rfl rfl ?_
      refine WL_skip rfl rfl rfl ?_
      refine WL_r (Rd_pickF rfl rfl) rfl ?_
      refine WL_r (Rd_assign rfl) rfl ?_
      refine WL_end hK7 ?_
      refine WC_ret ?_
      exact hret.goE () (Rs1 rfl rfl) (by first | (congr 1; done) | (congr 1; simp [mayM, bareM, *]; done) | (congr 1; simp [mayM, bareM, *]; omega) | (congr 1; rw [Bool.eq_iff_iff]; simp [mayM, bareM, *]; omega) | (congr 1; rw [Bool.eq_iff_iff]; simp [mayM, bareM] at * <;> omega))
    ·try simp only [dz, ne_eq] at hg10
     refine WL_skip rfl rfl rfl ?_
     refine WL_skip rfl rfl rfl ?_
     refine WL_skip rfl rfl rfl ?_
     refine WL_skip rfl rfl rfl ?_
     refine WL_skip rfl rfl rfl ?_
     refine WL_r (Rd_pickF rfl rfl) rfl ?_
     refine WL_r (Rd_move rfl) rfl ?_
     refine WL_skip rfl rfl rfl ?_
     refine WL_skip rfl rfl rfl ?_
     refine WL_skip rfl rfl rfl ?_
     refine WL_skip rfl rfl rfl ?_
     refine WL_skip rfl rfl rfl ?_
     refine WL_skip rfl rfl rfl ?_
     refine WL_skip rfl rfl rfl ?_
     refine WL_r (Rd_pickF rfl rfl) rfl ?_
     refine WL_r (Rd_assign rfl) rfl ?_
     refine WL_end hK7 ?_
     refine WC_ret ?_
     exact hret.goE () (Rs1 rfl rfl) (by first | (congr 1; done) | (congr 1; simp [mayM, bareM, *]; done) | (congr 1; simp [mayM, bareM, *]; omega) | (congr 1; rw [Bool.eq_iff_iff]; simp [mayM, bareM, *]; omega) | (congr 1; rw [Bool.eq_iff_iff]; simp [mayM, bareM] at * <;> omega))
   ·try simp only [dz, ne_eq] at hg9
    refine WL_skip rfl rfl rfl ?_
    refine WL_skip rfl rfl rfl ?_
    refine WL_skip rfl rfl rfl ?_
    refine WL_skip rfl rfl rfl ?_
    refine WL_skip rfl rfl rfl ?_
    refine WL_r (Rd_pickF rfl rfl) rfl ?_
    refine WL_r (Rd_move rfl) rfl ?_
    refine WL_skip rfl rfl rfl ?_
    refine WL_skip rfl rfl rfl ?_
    refine WL_skip rfl rfl rfl ?_
    refine WL_skip rfl rfl rfl ?_
    refine WL_skip rfl rfl rfl ?_
    refine WL_r (Rd_pickF rfl rfl) rfl ?_
    refine WL_r (Rd_move rfl) rfl ?_
    refine WL_skip rfl rfl rfl ?_
    refine WL_skip rfl rfl rfl ?_
    refine WL_skip rfl rfl rfl ?_
    refine WL_skip rfl rfl rfl ?_
    refine WL_skip rfl rfl rfl ?_
    refine WL_skip rfl rfl rfl ?_
    refine WL_skip rfl rfl rfl ?_
    refine WL_r (Rd_pickF rfl rfl) rfl ?_
    refine WL_r (Rd_assign rfl) rfl ?_
    refine WL_end hK7 ?_
    refine WC_ret ?_
    exact hret.goE () (Rs1 rfl rfl) (by first | (congr 1; done) | (congr 1; simp [mayM, bareM, *]; done) | (congr 1; simp [mayM, bareM, *]; omega) | (congr 1; rw [Bool.eq_iff_iff]; simp [mayM, bareM, *]; omega) | (congr 1; rw [Bool.eq_iff_iff]; simp [mayM, bareM] at * <;> omega))
  ·try simp only [dz, ne_eq] at hg8
   refine WL_skip rfl rfl rfl ?_
   refine WL_skip rfl rfl rfl ?_
   refine WL_skip rfl rfl rfl ?_
   refine WL_skip rfl rfl rfl ?_
   refine WL_skip rfl rfl rfl ?_
   refine WL_r (Rd_pickF rfl rfl) rfl ?_
   refine WL_r (Rd_move rfl) rfl ?_
   refine WL_skip rfl rfl rfl ?_
   refine WL_skip rfl rfl rfl ?_
   refine WL_skip rfl rfl rfl ?_
   refine WL_skip rfl rfl rfl ?_
   refine WL_skip rfl rfl rfl ?_
   refine WL_r (Rd_pickF rfl rfl) rfl ?_
   refine WL_r (Rd_move rfl) rfl ?_
   refine WL_skip rfl rfl rfl ?_
   refine WL_skip rfl rfl rfl ?_
   refine WL_skip rfl rfl rfl ?_
   refine WL_skip rfl rfl rfl ?_
   refine WL_skip rfl rfl rfl ?_
   refine WL_r (Rd_pickF rfl rfl) rfl ?_
   refine WL_r (Rd_move rfl) rfl ?_
   refine WL_skip rfl rfl rfl ?_
   refine WL_skip rfl rfl rfl ?_
   refine WL_skip rfl rfl rfl ?_
   refine WL_skip rfl rfl rfl ?_
   refine WL_skip rfl rfl rfl ?_
   refine WL_skip rfl rfl rfl ?_
   refine WL_skip rfl rfl rfl ?_
   refine WL_r (Rd_pickF rfl rfl) rfl ?_
   refine WL_r (Rd_assign rfl) rfl ?_
   refine WL_end hK7 ?_
   refine WC_ret ?_
   exact hret.goE () (Rs1 rfl rfl) (by first | (congr 1; done) | (congr 1; simp [mayM, bareM, *]; done) | (congr 1; simp [mayM, bareM, *]; omega) | (congr 1; rw [Bool.eq_iff_iff]; simp [mayM, bareM, *]; omega) | (congr 1; rw [Bool.eq_iff_iff]; simp [mayM, bareM] at * <;> omega))
 ·try simp only [dz, ne_eq] at hc0
  refine WC_sr fun K12 hK12 => ?_
  first | refine WL_rd (Rd_eqlN (j := 2) rfl rfl) rfl rfl rfl ?_ | refine WL_rd (Rd_eql rfl rfl) rfl rfl rfl ?_
  refine WL_r (Rd_assign rfl) rfl ?_
  refine WL_end hK12 ?_
  refine WC_cond rfl (fun hc1 => ?_) (fun hc1 => ?_)
  ·try simp only [dz, ne_eq] at hc1
   refine WC_seq fun K13 hK13 => ?_
   refine WC_draw mix [cl b1 30 [.int .u8 k, .int .u8 x0, .int .u8 x1, .int .u8 x2, .int .u8 x3, .int .u8 x4, .int .u8 x5, .int .u8 x6, .int .u8 x7, .int .u8 x8, .int .u8 x9, .int .u8 x10, .int .u8 x11, .int .u8 x12, .int .u8 x13, .int .u8 x14, .int .u8 x15, .int .i64 n, .int .i64 f, .int .i64 c, .int .u32 wh, .int .i64 un, .slice ao len cap]] (fun i => ([2, 2, 2, 2, 2, 2, 2, 1, 2, 1, 2, 1] : List Nat).getD i 0) ?_
   refine WJ_tp 0 rfl (Rd_fieldAddr rfl fo30_2) rfl (hp _ _) ?_
   refine WJ_tk 1 (Rd_load rfl tk3) hp ?_ rfl (by kernel_rfl) rfl rfl rfl
   refine WJ_tp 2 rfl (Rd_fieldAddr rfl fo30_5) rfl (hp _ _) ?_
   refine WJ_tk 3 (Rd_loadg rfl tk27) hp ?_ rfl (by kernel_rfl) rfl rfl rfl
   refine WJ_tp 4 rfl (Rd_fieldAddr rfl fo30_6) rfl (hp _ _) ?_
   refine WJ_tk 5 (Rd_load rfl tk28) hp ?_ rfl (by kernel_rfl) rfl rfl rfl
   refine WJ_tp 6 rfl (Rd_fieldAddr rfl fo30_2) rfl (hp _ _) ?_
   refine WJ_all (rs := [7]) (by kernel_rfl) rfl ?_
   refine WI_one ?_
   refine WI_ac0 rfl (Ac_store1 rfl rfl sz3) rfl rfl rfl ?_
   rintro _ _ rfl
   refine ⟨(fun _ => subA), ?_⟩
   refine WJ_tp 8 rfl (Rd_fieldAddr rfl fo30_5) rfl (hp _ _) ?_
   refine WJ_all (rs := [9]) (by kernel_rfl) rfl ?_
   refine WI_one ?_
   refine WI_ac0 rfl (Ac_store rfl rfl sz27) rfl rfl rfl ?_
   rintro _ _ rfl
   refine ⟨(fun _ => subA), ?_⟩
   refine WJ_tp 10 rfl (Rd_fieldAddr rfl fo30_6) rfl (hp _ _) ?_
   refine WJ_all (rs := [11]) (by kernel_rfl) rfl ?_
   refine WI_one ?_
   refine WI_ac0 rfl (Ac_store1 rfl rfl sz28) rfl rfl rfl ?_
   rintro _ _ rfl
   refine ⟨(fun _ => subA), ?_⟩
   refine WJ_done (by kernel_rfl) ?_
   refine Ps_next hK13 ?_
   refine WC_region ?_
   refine WL_r (Rd_fieldAddr rfl fo30_2) rfl ?_
   refine WL_r (Rd_load rfl tk3) rfl ?_
   refine WL_ac (Ac_call cf46 rfl (hs := number_ct)) rfl rfl rfl ?_
   rintro _ _ ⟨⟨⟩, rfl, hA⟩
   simp only [List.cons_append, List.nil_append] at hA
   replace hA := hA.symm
   subst hA
   refine WL_r (Rd_move rfl) rfl ?_
   refine WL_bool 28 rfl (fun hg14 => ?_) (fun hg14 => ?_)
   ·try simp only [dz, ne_eq] at hg14
    refine WL_r (Rd_fieldAddr rfl fo30_5) rfl ?_
    refine WL_r (Rd_fieldAddr rfl fo27_1) rfl ?_
    refine WL_r (Rd_load rfl tk3) rfl ?_
    refine WL_ac (Ac_call cf45 rfl (hs := until_ct)) rfl rfl rfl ?_
    rintro _ _ ⟨⟨⟩, rfl, hA⟩
    simp only [List.cons_append, List.nil_append] at hA
    replace hA := hA.symm
    subst hA
    refine WL_r (Rd_pickT rfl rfl) rfl ?_
    refine WL_r (Rd_move rfl) rfl ?_
    refine WL_bool 34 rfl (fun hg15 => ?_) (fun hg15 => ?_)
    ·try simp only [dz, ne_eq] at hg15
     refine WL_r (Rd_fieldAddr rfl fo30_6) rfl ?_
     refine WL_r (Rd_load rfl tk28) rfl ?_
     first | refine WL_rd (Rd_len rfl rfl ud28) rfl rfl rfl ?_ | refine WL_rd (Rd_len_sv rfl rfl ud28) rfl rfl rfl ?_
     refine WL_r (Rd_leqN (j := 33554432) rfl rfl) rfl ?_
     refine WL_r (Rd_pickT rfl rfl) rfl ?_
     refine WL_r (Rd_assign rfl) rfl ?_
     refine WL_nil ?_
     refine Ps_next hK4 ?_
     refine WC_sr fun K16 hK16 => ?_
     refine WL_r (Rd_move rfl) rfl ?_
     refine WL_r (Rd_move rfl) rfl ?_
     refine WL_bool 91 rfl (fun hg17 => ?_) (fun hg17 => ?_)
     ·try simp only [dz, ne_eq] at hg17
      refine WL_r (Rd_fieldAddr rfl fo30_2) rfl ?_
      refine WL_r (Rd_load rfl tk3) rfl ?_
      refine WL_r (Rd_fieldAddr rfl fo30_2) rfl ?_
      refine WL_r (Rd_load rfl tk3) rfl ?_
      first | refine WL_rd (Rd_eqlN rfl rfl) rfl rfl rfl ?_ | refine WL_rd (Rd_eql rfl rfl) rfl rfl rfl ?_
      refine WL_r (Rd_pickT rfl rfl) rfl ?_
      refine WL_r (Rd_move rfl) rfl ?_
      refine WL_bool 98 rfl (fun hg18 => ?_) (fun hg18 => ?_)
      ·try simp only [dz, ne_eq] at hg18
       refine WL_r (Rd_fieldAddr rfl fo30_3) rfl ?_
       refine WL_r (Rd_load rfl tk3) rfl ?_
       refine WL_r (Rd_fieldAddr rfl fo30_3) rfl ?_
       refine WL_r (Rd_load rfl tk3) rfl ?_
       first | refine WL_rd (Rd_eqlN rfl rfl) rfl rfl rfl ?_ | refine WL_rd (Rd_eql rfl rfl) rfl rfl rfl ?_
       refine WL_r (Rd_pickT rfl rfl) rfl ?_
       refine WL_r (Rd_move rfl) rfl ?_
       refine WL_bool 105 rfl (fun hg19 => ?_) (fun hg19 => ?_)
       ·try simp only [dz, ne_eq] at hg19
        refine WL_r (Rd_fieldAddr rfl fo30_4) rfl ?_
        refine WL_r (Rd_load rfl tk3) rfl ?_
        refine WL_r (Rd_fieldAddr rfl fo30_4) rfl ?_
        refine WL_r (Rd_load rfl tk3) rfl ?_
        first | refine WL_rd (Rd_eqlN rfl rfl) rfl rfl rfl ?_ | refine WL_rd (Rd_eql rfl rfl) rfl rfl rfl ?_
        refine WL_r (Rd_pickT rfl rfl) rfl ?_
        refine WL_r (Rd_move rfl) rfl ?_
        refine WL_bool 112 rfl (fun hg20 => ?_) (fun hg20 => ?_)
        ·try simp only [dz, ne_eq] at hg20
         refine WL_r (Rd_fieldAddr rfl fo30_5) rfl ?_
         refine WL_r (Rd_loadg rfl tk27) rfl ?_
         refine WL_r (Rd_fieldAddr rfl fo30_5) rfl ?_
         refine WL_r (Rd_loadg rfl tk27) rfl ?_
         refine WL_r (Rd_eqS rfl rfl fls27 (EqL.sc tk25 rfl rfl (Eqs_int ud25 _ _) (EqL.sc tk3 rfl rfl (Eqs_int ud3 _ _) EqL.nil))) rfl ?_
         refine WL_r (Rd_pickT rfl rfl) rfl ?_
         refine WL_r (Rd_move rfl) rfl ?_
         refine WL_bool 119 rfl (fun hg21 => ?_) (fun hg21 => ?_)
         ·try simp only [dz, ne_eq] at hg21
          refine WL_r (Rd_fieldAddr rfl fo30_6) rfl ?_
          refine WL_r (Rd_load rfl tk28) rfl ?_
          first | refine WL_rd (Rd_len rfl rfl ud28) rfl rfl rfl ?_ | refine WL_rd (Rd_len_sv rfl rfl ud28) rfl rfl rfl ?_
          refine WL_r (Rd_fieldAddr rfl fo30_6) rfl ?_
          refine WL_r (Rd_load rfl tk28) rfl ?_
          first | refine WL_rd (Rd_len rfl rfl ud28) rfl rfl rfl ?_ | refine WL_rd (Rd_len_sv rfl rfl ud28) rfl rfl rfl ?_
          refine WL_r (Rd_eqlN rfl rfl) rfl ?_
          refine WL_r (Rd_pickT rfl rfl) rfl ?_
          refine WL_r (Rd_assign rfl) rfl ?_
          refine WL_end hK16 ?_
          refine WC_ret ?_
          exact hret.goE () (Rs1 rfl rfl) (by first | (congr 1; done) | (congr 1; simp [mayM, bareM, *]; done) | (congr 1; simp [mayM, bareM, *]; omega) | (congr 1; rw [Bool.eq_iff_iff]; simp [mayM, bareM, *]; omega) | (congr 1; rw [Bool.eq_iff_iff]; simp [mayM, bareM] at * <;> omega))
         ·try simp only [dz, ne_eq] at hg21
          refine WL_skip rfl rfl rfl ?_
          refine WL_skip rfl rfl rfl ?_
          refine WL_skip rfl rfl rfl ?_
          refine WL_skip rfl rfl rfl ?_
          refine WL_skip rfl rfl rfl ?_
          refine WL_skip rfl rfl rfl ?_
          refine WL_skip rfl rfl rfl ?_
          refine WL_r (Rd_pickF rfl rfl) rfl ?_
          refine WL_r (Rd_assign rfl) rfl ?_
          refine WL_end hK16 ?_
          refine WC_ret ?_
          exact hret.goE () (Rs1 rfl rfl) (by first | (congr 1; done) | (congr 1; simp [mayM, bareM, *]; done) | (congr 1; simp [mayM, bareM, *]; omega) | (congr 1; rw [Bool.eq_iff_iff]; simp [mayM, bareM, *]; omega) | (congr 1; rw [Bool.eq_iff_iff]; simp [mayM, bareM] at * <;> omega))
        ·try simp only [dz, ne_eq] at hg20
         refine WL_skip rfl rfl rfl ?_
         refine WL_skip rfl rfl rfl ?_
         refine WL_skip rfl rfl rfl ?_
         refine WL_skip rfl rfl rfl ?_
         refine WL_skip rfl rfl rfl ?_
         refine WL_r (Rd_pickF rfl rfl) rfl ?_
         refine WL_r (Rd_move rfl) rfl ?_
         refine WL_skip rfl rfl rfl ?_
         refine WL_skip rfl rfl rfl ?_
         refine WL_skip rfl rfl rfl ?_
         refine WL_skip rfl rfl rfl ?_
         refine WL_skip rfl rfl rfl ?_
         refine WL_skip rfl rfl rfl ?_
         refine WL_skip rfl rfl rfl ?_
         refine WL_r (Rd_pickF rfl rfl) rfl ?_
         refine WL_r (Rd_assign rfl) rfl ?_
         refine WL_end hK16 ?_
         refine WC_ret ?_
         exact hret.goE () (Rs1 rfl rfl) (by first | (congr 1; done) | (congr 1; simp [mayM, bareM, *]; done) | (congr 1; simp [mayM, bareM, *]; omega) | (congr 1; rw [Bool.eq_iff_iff]; simp [mayM, bareM, *]; omega) | (congr 1; rw [Bool.eq_iff_iff]; simp [mayM, bareM] at * <;> omega))
       ·try simp only [dz, ne_eq] at hg19
        refine WL_skip rfl rfl rfl ?_
        refine WL_skip rfl rfl rfl ?_
        refine WL_skip rfl rfl rfl ?_
        refine WL_skip rfl rfl rfl ?_
        refine WL_skip rfl rfl rfl ?_
        refine WL_r (Rd_pickF rfl rfl) rfl ?_
        refine WL_r (Rd_move rfl) rfl ?_
        refine WL_skip rfl rfl rfl ?_
        refine WL_skip rfl rfl rfl ?_
        refine WL_skip rfl rfl rfl ?_
        refine WL_skip rfl rfl rfl ?_
        refine WL_skip rfl rfl rfl ?_
        refine WL_r (Rd_pickF rfl rfl) rfl ?_
        refine WL_r (Rd_move rfl) rfl ?_
        refine WL_skip rfl rfl rfl ?_
        refine WL_skip rfl rfl rfl ?_
        refine WL_skip rfl rfl rfl ?_
        refine WL_skip rfl rfl rfl ?_
        refine WL_skip rfl rfl rfl ?_
        refine WL_skip rfl rfl rfl ?_
        refine WL_skip rfl rfl rfl ?_
        refine WL_r (Rd_pickF rfl rfl) rfl ?_
        refine WL_r (Rd_assign rfl) rfl ?_
        refine WL_end hK16 ?_
        refine WC_ret ?_
        exact hret.goE () (Rs1 rfl rfl) (by first | (congr 1; done) | (congr 1; simp [mayM, bareM, *]; done) | (congr 1; simp [mayM, bareM, *]; omega) | (congr 1; rw [Bool.eq_iff_iff]; simp [mayM, bareM, *]; omega) | (congr 1; rw [Bool.eq_iff_iff]; simp [mayM, bareM] at * <;> omega))
      ·try simp only [dz, ne_eq] at hg18
       refine WL_skip rfl rfl rfl ?_
       refine WL_skip rfl rfl rfl ?_
       refine WL_skip rfl rfl rfl ?_
       refine WL_skip rfl rfl rfl ?_
       refine WL_skip rfl rfl rfl ?_
       refine WL_r (Rd_pickF rfl rfl) rfl ?_
       refine WL_r (Rd_move rfl) rfl ?_
       refine WL_skip rfl rfl rfl ?_
       refine WL_skip rfl rfl rfl ?_
       refine WL_skip rfl rfl rfl ?_
       refine WL_skip rfl rfl rfl ?_
       refine WL_skip rfl rfl rfl ?_
       refine WL_r (Rd_pickF rfl rfl) rfl ?_
       refine WL_r (Rd_move rfl) rfl ?_
       refine WL_skip rfl rfl rfl ?_
       refine WL_skip rfl rfl rfl ?_
       refine WL_skip rfl rfl rfl ?_
       refine WL_skip rfl rfl rfl ?_
       refine WL_skip rfl rfl rfl ?_
       refine WL_r (Rd_pickF rfl rfl) rfl ?_
       refine WL_r (Rd_move rfl) rfl ?_
       refine WL_skip rfl rfl rfl ?_
       refine WL_skip rfl rfl rfl ?_
       refine WL_skip rfl rfl rfl ?_
       refine WL_skip rfl rfl rfl ?_
       refine WL_skip rfl rfl rfl ?_
       refine WL_skip rfl rfl rfl ?_
       refine WL_skip rfl rfl rfl ?_
       refine WL_r (Rd_pickF rfl rfl) rfl ?_
       refine WL_r (Rd_assign rfl) rfl ?_
       refine WL_end hK16 ?_
       refine WC_ret ?_
       exact hret.goE () (Rs1 rfl rfl) (by first | (congr 1; done) | (congr 1; simp [mayM, bareM, *]; done) | (congr 1; simp [mayM, bareM, *]; omega) | (congr 1; rw [Bool.eq_iff_iff]; simp [mayM, bareM, *]; omega) | (congr 1; rw [Bool.eq_iff_iff]; simp [mayM, bareM] at * <;> omega))
     ·try simp only [dz, ne_eq] at hg17
      refine WL_skip rfl rfl rfl ?_
      refine WL_skip rfl rfl rfl ?_
      refine WL_skip rfl rfl rfl ?_
      refine WL_skip rfl rfl rfl ?_
      refine WL_skip rfl rfl rfl ?_
      refine WL_r (Rd_pickF rfl rfl) rfl ?_
      refine WL_r (Rd_move rfl) rfl ?_
      refine WL_skip rfl rfl rfl ?_
      refine WL_skip rfl rfl rfl ?_
      refine WL_skip rfl rfl rfl ?_
      refine WL_skip rfl rfl rfl ?_
      refine WL_skip rfl rfl rfl ?_
      refine WL_r (Rd_pickF rfl rfl) rfl ?_
      refine WL_r (Rd_move rfl) rfl ?_
      refine WL_skip rfl rfl rfl ?_
      refine WL_skip rfl rfl rfl ?_
      refine WL_skip rfl rfl rfl ?_
      refine WL_skip rfl rfl rfl ?_
      refine WL_skip rfl rfl rfl ?_
      refine WL_r (Rd_pickF rfl rfl) rfl ?_
      refine WL_r (Rd_move rfl) rfl ?_
      refine WL_skip rfl rfl rfl ?_
      refine WL_skip rfl rfl rfl ?_
      refine WL_skip rfl rfl rfl ?_
      refine WL_skip rfl rfl rfl ?_
      refine WL_skip rfl rfl rfl ?_
      refine WL_r (Rd_pickF rfl rfl) rfl ?_
      refine WL_r (Rd_move rfl) rfl ?_
      refine WL_skip rfl rfl rfl ?_
      refine WL_skip rfl rfl rfl ?_
      refine WL_skip rfl rfl rfl ?_
      refine WL_skip rfl rfl rfl ?_
      refine WL_skip rfl rfl rfl ?_
      refine WL_skip rfl rfl rfl ?_
      refine WL_skip rfl rfl rfl ?_
      refine WL_r (Rd_pickF rfl rfl) rfl ?_
      refine WL_r (Rd_assign rfl) rfl ?_
      refine WL_end hK16 ?_
      refine WC_ret ?_
      exact hret.goE () (Rs1 rfl rfl) (by first | (congr 1; done) | (congr 1; simp [mayM, bareM, *]; done) | (congr 1; simp [mayM, bareM, *]; omega) | (congr 1; rw [Bool.eq_iff_iff]; simp [mayM, bareM, *]; omega) | (congr 1; rw [Bool.eq_iff_iff]; simp [mayM, bareM] at * <;> omega))
    ·try simp only [dz, ne_eq] at hg15
     refine WL_skip rfl rfl rfl ?_
     refine WL_skip rfl rfl rfl ?_
     refine WL_skip rfl rfl rfl ?_
     refine WL_skip rfl rfl rfl ?_
     refine WL_r (Rd_pickF rfl rfl) rfl ?_
     refine WL_r (Rd_assign rfl) rfl ?_
     refine WL_nil ?_
     refine Ps_next hK4 ?_
     refine WC_sr fun K22 hK22 => ?_
     refine WL_r (Rd_move rfl) rfl ?_
     refine WL_r (Rd_move rfl) rfl ?_
     refine WL_skip rfl rfl rfl ?_
     refine WL_skip rfl rfl rfl ?_
     refine WL_skip rfl rfl rfl ?_
     refine WL_skip rfl rfl rfl ?_
     refine WL_skip rfl rfl rfl ?_
     refine WL_r (Rd_pickF rfl rfl) rfl ?_
     refine WL_r (Rd_move rfl) rfl ?_
     refine WL_skip rfl rfl rfl ?_
     refine WL_skip rfl rfl rfl ?_
     refine WL_skip rfl rfl rfl ?_
     refine WL_skip rfl rfl rfl ?_
     refine WL_skip rfl rfl rfl ?_
     refine WL_r (Rd_pickF rfl rfl) rfl ?_
     refine WL_r (Rd_move rfl) rfl ?_
     refine WL_skip rfl rfl rfl ?_
     refine WL_skip rfl rfl rfl ?_
     refine WL_skip rfl rfl rfl ?_
     refine WL_skip rfl rfl rfl ?_
     refine WL_skip rfl rfl rfl ?_
     refine WL_r (Rd_pickF rfl rfl) rfl ?_
     refine WL_r (Rd_move rfl) rfl ?_
     refine WL_skip rfl rfl rfl ?_
     refine WL_skip rfl rfl rfl ?_
     refine WL_skip rfl rfl rfl ?_
     refine WL_skip rfl rfl rfl ?_
     refine WL_skip rfl rfl rfl ?_
     refine WL_r (Rd_pickF rfl rfl) rfl ?_
     refine WL_r (Rd_move rfl) rfl ?_
     refine WL_skip rfl rfl rfl ?_
     refine WL_skip rfl rfl rfl ?_
     refine WL_skip rfl rfl rfl ?_
     refine WL_skip rfl rfl rfl ?_
     refine WL_skip rfl rfl rfl ?_
     refine WL_skip rfl rfl rfl ?_
     refine WL_skip rfl rfl rfl ?_
     refine WL_r (Rd_pickF rfl rfl) rfl ?_
     refine WL_r (Rd_assign rfl) rfl ?_
     refine WL_end hK22 ?_
     refine WC_ret ?_
     exact hret.goE () (Rs1 rfl rfl) (by first | (congr 1; done) | (congr 1; simp [mayM, bareM, *]; done) | (congr 1; simp [mayM, bareM, *]; omega) | (congr 1; rw [Bool.eq_iff_iff]; simp [mayM, bareM, *]; omega) | (congr 1; rw [Bool.eq_iff_iff]; simp [mayM, bareM] at * <;> omega))
   ·try simp only [dz, ne_eq] at hg14
    refine WL_skip rfl rfl rfl ?_
    refine WL_skip rfl rfl rfl ?_
    refine WL_skip rfl rfl rfl ?_
    refine WL_skip rfl rfl rfl ?_
    refine WL_r (Rd_pickF rfl rfl) rfl ?_
    refine WL_r (Rd_move rfl) rfl ?_
    refine WL_skip rfl rfl rfl ?_
    refine WL_skip rfl rfl rfl ?_
    refine WL_skip rfl rfl rfl ?_
    refine WL_skip rfl rfl rfl ?_
    refine WL_r (Rd_pickF rfl rfl) rfl ?_
    refine WL_r (Rd_assign rfl) rfl ?_
    refine WL_nil ?_
    refine Ps_next hK4 ?_
    refine WC_sr fun K23 hK23 => ?_
    refine WL_r (Rd_move rfl) rfl ?_
    refine WL_r (Rd_move rfl) rfl ?_
    refine WL_skip rfl rfl rfl ?_
    refine WL_skip rfl rfl rfl ?_
    refine WL_skip rfl rfl rfl ?_
    refine WL_skip rfl rfl rfl ?_
    refine WL_skip rfl rfl rfl ?_
    refine WL_r (Rd_pickF rfl rfl) rfl ?_
    refine WL_r (Rd_move rfl) rfl ?_
    refine WL_skip rfl rfl rfl ?_
    refine WL_skip rfl rfl rfl ?_
    refine WL_skip rfl rfl rfl ?_
    refine WL_skip rfl rfl rfl ?_
    refine WL_skip rfl rfl rfl ?_
    refine WL_r (Rd_pickF rfl rfl) rfl ?_
    refine WL_r (Rd_move rfl) rfl ?_
    refine WL_skip rfl rfl rfl ?_
    refine WL_skip rfl rfl rfl ?_
    refine WL_skip rfl rfl rfl ?_
    refine WL_skip rfl rfl rfl ?_
    refine WL_skip rfl rfl rfl ?_
    refine WL_r (Rd_pickF rfl rfl) rfl ?_
    refine WL_r (Rd_move rfl) rfl ?_
    refine WL_skip rfl rfl rfl ?_
    refine WL_skip rfl rfl rfl ?_
    refine WL_skip rfl rfl rfl ?_
    refine WL_skip rfl rfl rfl ?_
    refine WL_skip rfl rfl rfl ?_
    refine WL_r (Rd_pickF rfl rfl) rfl ?_
    refine WL_r (Rd_move rfl) rfl ?_
    refine WL_skip rfl rfl rfl ?_
    refine WL_skip rfl rfl rfl ?_
    refine WL_skip rfl rfl rfl ?_
    refine WL_skip rfl rfl rfl ?_
    refine WL_skip rfl rfl rfl ?_
    refine WL_skip rfl rfl rfl ?_
    refine WL_skip rfl rfl rfl ?_
    refine WL_r (Rd_pickF rfl rfl) rfl ?_
    refine WL_r (Rd_assign rfl) rfl ?_
    refine WL_end hK23 ?_
    refine WC_ret ?_
    exact hret.goE () (Rs1 rfl rfl) (by first | (congr 1; done) | (congr 1; simp [mayM, bareM, *]; done) | (congr 1; simp [mayM, bareM, *]; omega) | (congr 1; rw [Bool.eq_iff_iff]; simp [mayM, bareM, *]; omega) | (congr 1; rw [Bool.eq_iff_iff]; simp [mayM, bareM] at * <;> omega))
  ·try simp only [dz, ne_eq] at hc1
   refine WC_sr fun K24 hK24 => ?_
   first | refine WL_rd (Rd_eqlN (j := 3) rfl rfl) rfl rfl rfl ?_ | refine WL_rd (Rd_eql rfl rfl) rfl rfl rfl ?_
   refine WL_r (Rd_assign rfl) rfl ?_
   refine WL_end hK24 ?_
   refine WC_cond rfl (fun hc2 => ?_) (fun hc2 => ?_)
   ·try simp only [dz, ne_eq] at hc2
    refine WC_seq fun K25 hK25 => ?_
    refine WC_draw mix [cl b1 30 [.int .u8 k, .int .u8 x0, .int .u8 x1, .int .u8 x2, .int .u8 x3, .int .u8 x4, .int .u8 x5, .int .u8 x6, .int .u8 x7, .int .u8 x8, .int .u8 x9, .int .u8 x10, .int .u8 x11, .int .u8 x12, .int .u8 x13, .int .u8 x14, .int .u8 x15, .int .i64 n, .int .i64 f, .int .i64 c, .int .u32 wh, .int .i64 un, .slice ao len cap]] (fun i => ([2, 2, 2, 2, 2, 2, 2, 1, 2, 1, 2, 1] : List Nat).getD i 0) ?_
    refine WJ_tp 0 rfl (Rd_fieldAddr rfl fo30_2) rfl (hp _ _) ?_
    refine WJ_tk 1 (Rd_load rfl tk3) hp ?_ rfl (by kernel_rfl) rfl rfl rfl
    refine WJ_tp 2 rfl (Rd_fieldAddr rfl fo30_3) rfl (hp _ _) ?_
    refine WJ_tk 3 (Rd_load rfl tk3) hp ?_ rfl (by kernel_rfl) rfl rfl rfl
    refine WJ_tp 4 rfl (Rd_fieldAddr rfl fo30_4) rfl (hp _ _) ?_
    refine WJ_tk 5 (Rd_load rfl tk3) hp ?_ rfl (by kernel_rfl) rfl rfl rfl
    refine WJ_tp 6 rfl (Rd_fieldAddr rfl fo30_2) rfl (hp _ _) ?_
    refine WJ_all (rs := [7]) (by kernel_rfl) rfl ?_
    refine WI_one ?_
    refine WI_ac0 rfl (Ac_store1 rfl rfl sz3) rfl rfl rfl ?_
    rintro _ _ rfl
    refine ⟨(fun _ => subA), ?_⟩
    refine WJ_tp 8 rfl (Rd_fieldAddr rfl fo30_3) rfl (hp _ _) ?_
    refine WJ_all (rs := [9]) (by kernel_rfl) rfl ?_
    refine WI_one ?_
    refine WI_ac0 rfl (Ac_store1 rfl rfl sz3) rfl rfl rfl ?_
    rintro _ _ rfl
    refine ⟨(fun _ => subA), ?_⟩
    refine WJ_tp 10 rfl (Rd_fieldAddr rfl fo30_4) rfl (hp _ _) ?_
    refine WJ_all (rs := [11]) (by kernel_rfl) rfl ?_
    refine WI_one ?_
    refine WI_ac0 rfl (Ac_store1 rfl rfl sz3) rfl rfl rfl ?_
    rintro _ _ rfl
    refine ⟨(fun _ => subA), ?_⟩
    refine WJ_done (by kernel_rfl) ?_
    refine Ps_next hK25 ?_
    refine WC_region ?_
    refine WL_r (Rd_fieldAddr rfl fo30_2) rfl ?_
    refine WL_r (Rd_load rfl tk3) rfl ?_
    refine WL_ac (Ac_call cf46 rfl (hs := number_ct)) rfl rfl rfl ?_
    rintro _ _ ⟨⟨⟩, rfl, hA⟩
    simp only [List.cons_append, List.nil_append] at hA
    replace hA := hA.symm
    subst hA
    refine WL_r (Rd_move rfl) rfl ?_
    refine WL_bool 54 rfl (fun hg26 => ?_) (fun hg26 => ?_)
    ·try simp only [dz, ne_eq] at hg26
     refine WL_r (Rd_fieldAddr rfl fo30_3) rfl ?_
     refine WL_r (Rd_load rfl tk3) rfl ?_
     first | refine WL_rd (Rd_geqN (j := 0) rfl rfl) rfl rfl rfl ?_ | refine WL_rd (Rd_geq rfl rfl) rfl rfl rfl ?_
     refine WL_r (Rd_pickT rfl rfl) rfl ?_
     refine WL_r (Rd_move rfl) rfl ?_
     refine WL_bool 59 rfl (fun hg27 => ?_) (fun hg27 => ?_)
     ·try simp only [dz, ne_eq] at hg27
      refine WL_r (Rd_fieldAddr rfl fo30_3) rfl ?_
      refine WL_r (Rd_load rfl tk3) rfl ?_
      first | refine WL_rd (Rd_leqN (j := 33554432) rfl rfl) rfl rfl rfl ?_ | refine WL_rd (Rd_leq rfl rfl) rfl rfl rfl ?_
      refine WL_r (Rd_pickT rfl rfl) rfl ?_
      refine WL_r (Rd_move rfl) rfl ?_
      refine WL_bool 64 rfl (fun hg28 => ?_) (fun hg28 => ?_)
      ·try simp only [dz, ne_eq] at hg28
       refine WL_r (Rd_fieldAddr rfl fo30_4) rfl ?_
       refine WL_r (Rd_load rfl tk3) rfl ?_
       first | refine WL_rd (Rd_geqN (j := 1) rfl rfl) rfl rfl rfl ?_ | refine WL_rd (Rd_geq rfl rfl) rfl rfl rfl ?_
       refine WL_r (Rd_pickT rfl rfl) rfl ?_
       refine WL_r (Rd_move rfl) rfl ?_
       refine WL_bool 69 rfl (fun hg29 => ?_) (fun hg29 => ?_)
       ·try simp only [dz, ne_eq] at hg29
        refine WL_r (Rd_fieldAddr rfl fo30_4) rfl ?_
        refine WL_r (Rd_load rfl tk3) rfl ?_
        first | refine WL_rd (Rd_leqN (j := 131072) rfl rfl) rfl rfl rfl ?_ | refine WL_rd (Rd_leq rfl rfl) rfl rfl rfl ?_
        refine WL_r (Rd_pickT rfl rfl) rfl ?_
        refine WL_r (Rd_assign rfl) rfl ?_
        refine WL_nil ?_
        refine Ps_next hK4 ?_
        refine WC_sr fun K30 hK30 => ?_
        refine WL_r (Rd_move rfl) rfl ?_
        refine WL_r (Rd_move rfl) rfl ?_
        refine WL_bool 91 rfl (fun hg31 => ?_) (fun hg31 => ?_)
        ·try simp only [dz, ne_eq] at hg31
         refine WL_r (Rd_fieldAddr rfl fo30_2) rfl ?_
         refine WL_r (Rd_load rfl tk3) rfl ?_
         refine WL_r (Rd_fieldAddr rfl fo30_2) rfl ?_
         refine WL_r (Rd_load rfl tk3) rfl ?_
         first | refine WL_rd (Rd_eqlN rfl rfl) rfl rfl rfl ?_ | refine WL_rd (Rd_eql rfl rfl) rfl rfl rfl ?_
         refine WL_r (Rd_pickT rfl rfl) rfl ?_
         refine WL_r (Rd_move rfl) rfl ?_
         refine WL_bool 98 rfl (fun hg32 => ?_) (fun hg32 => ?_)
         ·try simp only [dz, ne_eq] at hg32
          refine WL_r (Rd_fieldAddr rfl fo30_3) rfl ?_
          refine WL_r (Rd_load rfl tk3) rfl ?_
          refine WL_r (Rd_fieldAddr rfl fo30_3) rfl ?_
          refine WL_r (Rd_load rfl tk3) rfl ?_
          first | refine WL_rd (Rd_eqlN rfl rfl) rfl rfl rfl ?_ | refine WL_rd (Rd_eql rfl rfl) rfl rfl rfl ?_
          refine WL_r (Rd_pickT rfl rfl) rfl ?_
          refine WL_r (Rd_move rfl) rfl ?_
          refine WL_bool 105 rfl (fun hg33 => ?_) (fun hg33 => ?_)
          ·try simp only [dz, ne_eq] at hg33
           refine WL_r (Rd_fieldAddr rfl fo30_4) rfl ?_
           refine WL_r (Rd_load rfl tk3) rfl ?_
           refine WL_r (Rd_fieldAddr rfl fo30_4) rfl ?_
           refine WL_r (Rd_load rfl tk3) rfl ?_
           first | refine WL_rd (Rd_eqlN rfl rfl) rfl rfl rfl ?_ | refine WL_rd (Rd_eql rfl rfl) rfl rfl rfl ?_
           refine WL_r (Rd_pickT rfl rfl) rfl ?_
           refine WL_r (Rd_move rfl) rfl ?_
           refine WL_bool 112 rfl (fun hg34 => ?_) (fun hg34 => ?_)
           ·try simp only [dz, ne_eq] at hg34
            refine WL_r (Rd_fieldAddr rfl fo30_5) rfl ?_
            refine WL_r (Rd_loadg rfl tk27) rfl ?_
            refine WL_r (Rd_fieldAddr rfl fo30_5) rfl ?_
            refine WL_r (Rd_loadg rfl tk27) rfl ?_
            refine WL_r (Rd_eqS rfl rfl fls27 (EqL.sc tk25 rfl rfl (Eqs_int ud25 _ _) (EqL.sc tk3 rfl rfl (Eqs_int ud3 _ _) EqL.nil))) rfl ?_
            refine WL_r (Rd_pickT rfl rfl) rfl ?_
            refine WL_r (Rd_move rfl) rfl ?_
            refine WL_bool 119 rfl (fun hg35 => ?_) (fun hg35 => ?_)
            ·try simp only [dz, ne_eq] at hg35
             refine WL_r (Rd_fieldAddr rfl fo30_6) rfl ?_
             refine WL_r (Rd_load rfl tk28) rfl ?_
             first | refine WL_rd (Rd_len rfl rfl ud28) rfl rfl rfl ?_ | refine WL_rd (Rd_len_sv rfl rfl ud28) rfl rfl rfl ?_
             refine WL_r (Rd_fieldAddr rfl fo30_6) rfl ?_
             refine WL_r (Rd_load rfl tk28) rfl ?_
             first | refine WL_rd (Rd_len rfl rfl ud28) rfl rfl rfl ?_ | refine WL_rd (Rd_len_sv rfl rfl ud28) rfl rfl rfl ?_
             refine WL_r (Rd_eqlN rfl rfl) rfl ?_
             refine WL_r (Rd_pickT rfl rfl) rfl ?_
             refine WL_r (Rd_assign rfl) rfl ?_
             refine WL_end hK30 ?_
             refine WC_ret ?_
             exact hret.goE () (Rs1 rfl rfl) (by first | (congr 1; done) | (congr 1; simp [mayM, bareM, *]; done) | (congr 1; simp [mayM, bareM, *]; omega) | (congr 1; rw [Bool.eq_iff_iff]; simp [mayM, bareM, *]; omega) | (congr 1; rw [Bool.eq_iff_iff]; simp [mayM, bareM] at * <;> omega))
            ·try simp only [dz, ne_eq] at hg35
             refine WL_skip rfl rfl rfl ?_
             refine WL_skip rfl rfl rfl ?_
             refine WL_skip rfl rfl rfl ?_
             refine WL_skip rfl rfl rfl ?_
             refine WL_skip rfl rfl rfl ?_
             refine WL_skip rfl rfl rfl ?_
             refine WL_skip rfl rfl rfl ?_
             refine WL_r (Rd_pickF rfl rfl) rfl ?_
             refine WL_r (Rd_assign rfl) rfl ?_
             refine WL_end hK30 ?_
             refine WC_ret ?_
             exact hret.goE () (Rs1 rfl rfl) (by first | (congr 1; done) | (congr 1; simp [mayM, bareM, *]; done) | (congr 1; simp [mayM, bareM, *]; omega) | (congr 1; rw [Bool.eq_iff_iff]; simp [mayM, bareM, *]; omega) | (congr 1; rw [Bool.eq_iff_iff]; simp [mayM, bareM] at * <;> omega))
           ·try simp only [dz, ne_eq] at hg34
            refine WL_skip rfl rfl rfl ?_
            refine WL_skip rfl rfl rfl ?_
            refine WL_skip rfl rfl rfl ?_
            refine WL_skip rfl rfl rfl ?_
            refine WL_skip rfl rfl rfl ?_
            refine WL_r (Rd_pickF rfl rfl) rfl ?_
            refine WL_r (Rd_move rfl) rfl ?_
            refine WL_skip rfl rfl rfl ?_
            refine WL_skip rfl rfl rfl ?_
            refine WL_skip rfl rfl rfl ?_
            refine WL_skip rfl rfl rfl ?_
            refine WL_skip rfl rfl rfl ?_
            refine WL_skip rfl rfl rfl ?_
            refine WL_skip rfl rfl rfl ?_
            refine WL_r (Rd_pickF rfl rfl) rfl ?_
            refine WL_r (Rd_assign rfl) rfl ?_
            refine WL_end hK30 ?_
            refine WC_ret ?_
            exact hret.goE () (Rs1 rfl rfl) (by first | (congr 1; done) | (congr 1; simp [mayM, bareM, *]; done) | (congr 1; simp [mayM, bareM, *]; omega) | (congr 1; rw [Bool.eq_iff_iff]; simp [mayM, bareM, *]; omega) | (congr 1; rw [Bool.eq_iff_iff]; simp [mayM, bareM] at * <;> omega))
          ·try simp only [dz, ne_eq] at hg33
           refine WL_skip rfl rfl rfl ?_
           refine WL_skip rfl rfl rfl ?_
           refine WL_skip rfl rfl rfl ?_
           refine WL_skip rfl rfl rfl ?_
           refine WL_skip rfl rfl rfl ?_
           refine WL_r (Rd_pickF rfl rfl) rfl ?_
           refine WL_r (Rd_move rfl) rfl ?_
           refine WL_skip rfl rfl rfl ?_
           refine WL_skip rfl rfl rfl ?_
           refine WL_skip rfl rfl rfl ?_
           refine WL_skip rfl rfl rfl ?_
           refine WL_skip rfl rfl rfl ?_
           refine WL_r (Rd_pickF rfl rfl) rfl ?_
           refine WL_r (Rd_move rfl) rfl ?_
           refine WL_skip rfl rfl rfl ?_
           refine WL_skip rfl rfl rfl ?_
           refine WL_skip rfl rfl rfl ?_
           refine WL_skip rfl rfl rfl ?_
           refine WL_skip rfl rfl rfl ?_
           refine WL_skip rfl rfl rfl ?_
           refine WL_skip rfl rfl rfl ?_
           refine WL_r (Rd_pickF rfl rfl) rfl ?_
           refine WL_r (Rd_assign rfl) rfl ?_
           refine WL_end hK30 ?_
           refine WC_ret ?_
           exact hret.goE () (Rs1 rfl rfl) (by first | (congr 1; done) | (congr 1; simp [mayM, bareM, *]; done) | (congr 1; simp [mayM, bareM, *]; omega) | (congr 1; rw [Bool.eq_iff_iff]; simp [mayM, bareM, *]; omega) | (congr 1; rw [Bool.eq_iff_iff]; simp [mayM, bareM] at * <;> omega))
         ·try simp only [dz, ne_eq] at hg32
          refine WL_skip rfl rfl rfl ?_
          refine WL_skip rfl rfl rfl ?_
          refine WL_skip rfl rfl rfl ?_
          refine WL_skip rfl rfl rfl ?_
          refine WL_skip rfl rfl rfl ?_
          refine WL_r (Rd_pickF rfl rfl) rfl ?_
          refine WL_r (Rd_move rfl) rfl ?_
          refine WL_skip rfl rfl rfl ?_
          refine WL_skip rfl rfl rfl ?_
          refine WL_skip rfl rfl rfl ?_
          refine WL_skip rfl rfl rfl ?_
          refine WL_skip rfl rfl rfl ?_
          refine WL_r (Rd_pickF rfl rfl) rfl ?_
          refine WL_r (Rd_move rfl) rfl ?_
          refine WL_skip rfl rfl rfl ?_
          refine WL_skip rfl rfl rfl ?_
          refine WL_skip rfl rfl rfl ?_
          refine WL_skip rfl rfl rfl ?_
          refine WL_skip rfl rfl rfl ?_
          refine WL_r (Rd_pickF rfl rfl) rfl ?_
          refine WL_r (Rd_move rfl) rfl ?_
          refine WL_skip rfl rfl rfl ?_
          refine WL_skip rfl rfl rfl ?_
          refine WL_skip rfl rfl rfl ?_
          refine WL_skip rfl rfl rfl ?_
          refine WL_skip rfl rfl rfl ?_
          refine WL_skip rfl rfl rfl ?_
          refine WL_skip rfl rfl rfl ?_
          refine WL_r (Rd_pickF rfl rfl) rfl ?_
          refine WL_r (Rd_assign rfl) rfl ?_
          refine WL_end hK30 ?_
          refine WC_ret ?_
          exact hret.goE () (Rs1 rfl rfl) (by first | (congr 1; done) | (congr 1; simp [mayM, bareM, *]; done) | (congr 1; simp [mayM, bareM, *]; omega) | (congr 1; rw [Bool.eq_iff_iff]; simp [mayM, bareM, *]; omega) | (congr 1; rw [Bool.eq_iff_iff]; simp [mayM, bareM] at * <;> omega))
        ·try simp only [dz, ne_eq] at hg31
         refine WL_skip rfl rfl rfl ?_
         refine WL_skip rfl rfl rfl ?_
         refine WL_skip rfl rfl rfl ?_
         refine WL_skip rfl rfl rfl ?_
         refine WL_skip rfl rfl rfl ?_
         refine WL_r (Rd_pickF rfl rfl) rfl ?_
         refine WL_r (Rd_move rfl) rfl ?_
         refine WL_skip rfl rfl rfl ?_
         refine WL_skip rfl rfl rfl ?_
         refine WL_skip rfl rfl rfl ?_
         refine WL_skip rfl rfl rfl ?_
         refine WL_skip rfl rfl rfl ?_
         refine WL_r (Rd_pickF rfl rfl) rfl ?_
         refine WL_r (Rd_move rfl) rfl ?_
         refine WL_skip rfl rfl rfl ?_
         refine WL_skip rfl rfl rfl ?_
         refine WL_skip rfl rfl rfl ?_
         refine WL_skip rfl rfl rfl ?_
         refine WL_skip rfl rfl rfl ?_
         refine WL_r (Rd_pickF rfl rfl) rfl ?_
         refine WL_r (Rd_move rfl) rfl ?_
         refine WL_skip rfl rfl rfl ?_
         refine WL_skip rfl rfl rfl ?_
         refine WL_skip rfl rfl rfl ?_
         refine WL_skip rfl rfl rfl ?_
         refine WL_skip rfl rfl rfl ?_
         refine WL_r (Rd_pickF rfl rfl) rfl ?_
         refine WL_r (Rd_move rfl) rfl ?_
         refine WL_skip rfl rfl rfl ?_
         refine WL_skip rfl rfl rfl ?_
         refine WL_skip rfl rfl rfl ?_
         refine WL_skip rfl rfl rfl ?_
         refine WL_skip rfl rfl rfl ?_
         refine WL_skip rfl rfl rfl ?_
         refine WL_skip rfl rfl rfl ?_
         refine WL_r (Rd_pickF rfl rfl) rfl ?_
         refine WL_r (Rd_assign rfl) rfl ?_
         refine WL_end hK30 ?_
         refine WC_ret ?_
         exact hret.goE () (Rs1 rfl rfl) (by first | (congr 1; done) | (congr 1; simp [mayM, bareM, *]; done) | (congr 1; simp [mayM, bareM, *]; omega) | (congr 1; rw [Bool.eq_iff_iff]; simp [mayM, bareM, *]; omega) | (congr 1; rw [Bool.eq_iff_iff]; simp [mayM, bareM] at * <;> omega))
       ·try simp only [dz, ne_eq] at hg29
        refine WL_skip rfl rfl rfl ?_
        refine WL_skip rfl rfl rfl ?_
        refine WL_skip rfl rfl rfl ?_
        refine WL_r (Rd_pickF rfl rfl) rfl ?_
        refine WL_r (Rd_assign rfl) rfl ?_
        refine WL_nil ?_
        refine Ps_next hK4 ?_
        refine WC_sr fun K36 hK36 => ?_
        refine WL_r (Rd_move rfl) rfl ?_
        refine WL_r (Rd_move rfl) rfl ?_
        refine WL_skip rfl rfl rfl ?_
        refine WL_skip rfl rfl rfl ?_
        refine WL_skip rfl rfl rfl ?_
        refine WL_skip rfl rfl rfl ?_
        refine WL_skip rfl rfl rfl ?_
        refine WL_r (Rd_pickF rfl rfl) rfl ?_
        refine WL_r (Rd_move rfl) rfl ?_
        refine WL_skip rfl rfl rfl ?_
        refine WL_skip rfl rfl rfl ?_
        refine WL_skip rfl rfl rfl ?_
        refine WL_skip rfl rfl rfl ?_
        refine WL_skip rfl rfl rfl ?_
        refine WL_r (Rd_pickF rfl rfl) rfl ?_
        refine WL_r (Rd_move rfl) rfl ?_
        refine WL_skip rfl rfl rfl ?_
        refine WL_skip rfl rfl rfl ?_
        refine WL_skip rfl rfl rfl ?_
        refine WL_skip rfl rfl rfl ?_
        refine WL_skip rfl rfl rfl ?_
        refine WL_r (Rd_pickF rfl rfl) rfl ?_
        refine WL_r (Rd_move rfl) rfl ?_
        refine WL_skip rfl rfl rfl ?_
        refine WL_skip rfl rfl rfl ?_
        refine WL_skip rfl rfl rfl ?_
        refine WL_skip rfl rfl rfl ?_
        refine WL_skip rfl rfl rfl ?_
        refine WL_r (Rd_pickF rfl rfl) rfl ?_
        refine WL_r (Rd_move rfl) rfl ?_
        refine WL_skip rfl rfl rfl ?_
        refine WL_skip rfl rfl rfl ?_
        refine WL_skip rfl rfl rfl ?_
        refine WL_skip rfl rfl rfl ?_
        refine WL_skip rfl rfl rfl ?_
        refine WL_skip rfl rfl rfl ?_
        refine WL_skip rfl rfl rfl ?_
        refine WL_r (Rd_pickF rfl rfl) rfl ?_
        refine WL_r (Rd_assign rfl) rfl ?_
        refine WL_end hK36 ?_
        refine WC_ret ?_
        exact hret.goE () (Rs1 rfl rfl) (by first | (congr 1; done) | (congr 1; simp [mayM, bareM, *]; done) | (congr 1; simp [mayM, bareM, *]; omega) | (congr 1; rw [Bool.eq_iff_iff]; simp [mayM, bareM, *]; omega) | (congr 1; rw [Bool.eq_iff_iff]; simp [mayM, bareM] at * <;> omega))
      ·try simp only [dz, ne_eq] at hg28
       refine WL_skip rfl rfl rfl ?_
       refine WL_skip rfl rfl rfl ?_
       refine WL_skip rfl rfl rfl ?_
       refine WL_r (Rd_pickF rfl rfl) rfl ?_
       refine WL_r (Rd_move rfl) rfl ?_
       refine WL_skip rfl rfl rfl ?_
       refine WL_skip rfl rfl rfl ?_
       refine WL_skip rfl rfl rfl ?_
       refine WL_r (Rd_pickF rfl rfl) rfl ?_
       refine WL_r (Rd_assign rfl) rfl ?_
       refine WL_nil ?_
       refine Ps_next hK4 ?_
       refine WC_sr fun K37 hK37 => ?_
       refine WL_r (Rd_move rfl) rfl ?_
       refine WL_r (Rd_move rfl) rfl ?_
       refine WL_skip rfl rfl rfl ?_
       refine WL_skip rfl rfl rfl ?_
       refine WL_skip rfl rfl rfl ?_
       refine WL_skip rfl rfl rfl ?_
       refine WL_skip rfl rfl rfl ?_
       refine WL_r (Rd_pickF rfl rfl) rfl ?_
       refine WL_r (Rd_move rfl) rfl ?_
       refine WL_skip rfl rfl rfl ?_
       refine WL_skip rfl rfl rfl ?_
       refine WL_skip rfl rfl rfl ?_
       refine WL_skip rfl rfl rfl ?_
       refine WL_skip rfl rfl rfl ?_
       refine WL_r (Rd_pickF rfl rfl) rfl ?_
       refine WL_r (Rd_move rfl) rfl ?_
       refine WL_skip rfl rfl rfl ?_
       refine WL_skip rfl rfl rfl ?_
       refine WL_skip rfl rfl rfl ?_
       refine WL_skip rfl rfl rfl ?_
       refine WL_skip rfl rfl rfl ?_
       refine WL_r (Rd_pickF rfl rfl) rfl ?_
       refine WL_r (Rd_move rfl) rfl ?_
       refine WL_skip rfl rfl rfl ?_
       refine WL_skip rfl rfl rfl ?_
       refine WL_skip rfl rfl rfl ?_
       refine WL_skip rfl rfl rfl ?_
       refine WL_skip rfl rfl rfl ?_
       refine WL_r (Rd_pickF rfl rfl) rfl ?_
       refine WL_r (Rd_move rfl) rfl ?_
       refine WL_skip rfl rfl rfl ?_
       refine WL_skip rfl rfl rfl ?_
       refine WL_skip rfl rfl rfl ?_
       refine WL_skip rfl rfl rfl ?_
       refine WL_skip rfl rfl rfl ?_
       refine WL_skip rfl rfl rfl ?_
       refine WL_skip rfl rfl rfl ?_
       refine WL_r (Rd_pickF rfl rfl) rfl ?_
       refine WL_r (Rd_assign rfl) rfl ?_
       refine WL_end hK37 ?_
       refine WC_ret ?_
       exact hret.goE () (Rs1 rfl rfl) (by first | (congr 1; done) | (congr 1; simp [mayM, bareM, *]; done) | (congr 1; simp [mayM, bareM, *]; omega) | (congr 1; rw [Bool.eq_iff_iff]; simp [mayM, bareM, *]; omega) | (congr 1; rw [Bool.eq_iff_iff]; simp [mayM, bareM] at * <;> omega))
     ·try simp only [dz, ne_eq] at hg27
      refine WL_skip rfl rfl rfl ?_
      refine WL_skip rfl rfl rfl ?_
      refine WL_skip rfl rfl rfl ?_
      refine WL_r (Rd_pickF rfl rfl) rfl ?_
      refine WL_r (Rd_move rfl) rfl ?_
      refine WL_skip rfl rfl rfl ?_
      refine WL_skip rfl rfl rfl ?_
      refine WL_skip rfl rfl rfl ?_
      refine WL_r (Rd_pickF rfl rfl) rfl ?_
      refine WL_r (Rd_move rfl) rfl ?_
      refine WL_skip rfl rfl rfl ?_
      refine WL_skip rfl rfl rfl ?_
      refine WL_skip rfl rfl rfl ?_
      refine WL_r (Rd_pickF rfl rfl) rfl ?_
      refine WL_r (Rd_assign rfl) rfl ?_
      refine WL_nil ?_
      refine Ps_next hK4 ?_
      refine WC_sr fun K38 hK38 => ?_
      refine WL_r (Rd_move rfl) rfl ?_
      refine WL_r (Rd_move rfl) rfl ?_
      refine WL_skip rfl rfl rfl ?_
      refine WL_skip rfl rfl rfl ?_
      refine WL_skip rfl rfl rfl ?_
      refine WL_skip rfl rfl rfl ?_
      refine WL_skip rfl rfl rfl ?_
      refine WL_r (Rd_pickF rfl rfl) rfl ?_
      refine WL_r (Rd_move rfl) rfl ?_
      refine WL_skip rfl rfl rfl ?_
      refine WL_skip rfl rfl rfl ?_
      refine WL_skip rfl rfl rfl ?_
      refine WL_skip rfl rfl rfl ?_
      refine WL_skip rfl rfl rfl ?_
      refine WL_r (Rd_pickF rfl rfl) rfl ?_
      refine WL_r (Rd_move rfl) rfl ?_
      refine WL_skip rfl rfl rfl ?_
      refine WL_skip rfl rfl rfl ?_
      refine WL_skip rfl rfl rfl ?_
      refine WL_skip rfl rfl rfl ?_
      refine WL_skip rfl rfl rfl ?_
      refine WL_r (Rd_pickF rfl rfl) rfl ?_
      refine WL_r (Rd_move rfl) rfl ?_
      refine WL_skip rfl rfl rfl ?_
      refine WL_skip rfl rfl rfl ?_
      refine WL_skip rfl rfl rfl ?_
      refine WL_skip rfl rfl rfl ?_
      refine WL_skip rfl rfl rfl ?_
      refine WL_r (Rd_pickF rfl rfl) rfl ?_
      refine WL_r (Rd_move rfl) rfl ?_
      refine WL_skip rfl rfl rfl ?_
      refine WL_skip rfl rfl rfl ?_
      refine WL_skip rfl rfl rfl ?_
      refine WL_skip rfl rfl rfl ?_
      refine WL_skip rfl rfl rfl ?_
      refine WL_skip rfl rfl rfl ?_
      refine WL_skip rfl rfl rfl ?_
      refine WL_r (Rd_pickF rfl rfl) rfl ?_
      refine WL_r (Rd_assign rfl) rfl ?_
      refine WL_end hK38 ?_
      refine WC_ret ?_
      exact hret.goE () (Rs1 rfl rfl) (by first | (congr 1; done) | (congr 1; simp [mayM, bareM, *]; done) | (congr 1; simp [mayM, bareM, *]; omega) | (congr 1; rw [Bool.eq_iff_iff]; simp [mayM, bareM, *]; omega) | (congr 1; rw [Bool.eq_iff_iff]; simp [mayM, bareM] at * <;> omega))
    ·try simp only [dz, ne_eq] at hg26
     refine WL_skip rfl rfl rfl ?_
     refine WL_skip rfl rfl rfl ?_
     refine WL_skip rfl rfl rfl ?_
     refine WL_r (Rd_pickF rfl rfl) rfl ?_
     refine WL_r (Rd_move rfl) rfl ?_
     refine WL_skip rfl rfl rfl ?_
     refine WL_skip rfl rfl rfl ?_
     refine WL_skip rfl rfl rfl ?_
     refine WL_r (Rd_pickF rfl rfl) rfl ?_
     refine WL_r (Rd_move rfl) rfl ?_
     refine WL_skip rfl rfl rfl ?_
     refine WL_skip rfl rfl rfl ?_
     refine WL_skip rfl rfl rfl ?_
     refine WL_r (Rd_pickF rfl rfl) rfl ?_
     refine WL_r (Rd_move rfl) rfl ?_
     refine WL_skip rfl rfl rfl ?_
     refine WL_skip rfl rfl rfl ?_
     refine WL_skip rfl rfl rfl ?_
     refine WL_r (Rd_pickF rfl rfl) rfl ?_
     refine WL_r (Rd_assign rfl) rfl ?_
     refine WL_nil ?_
     refine Ps_next hK4 ?_
     refine WC_sr fun K39 hK39 => ?_
     refine WL_r (Rd_move rfl) rfl ?_
     refine WL_r (Rd_move rfl) rfl ?_
     refine WL_skip rfl rfl rfl ?_
     refine WL_skip rfl rfl rfl ?_
     refine WL_skip rfl rfl rfl ?_
     refine WL_skip rfl rfl rfl ?_
     refine WL_skip rfl rfl rfl ?_
     refine WL_r (Rd_pickF rfl rfl) rfl ?_
     refine WL_r (Rd_move rfl) rfl ?_
     refine WL_skip rfl rfl rfl ?_
     refine WL_skip rfl rfl rfl ?_
     refine WL_skip rfl rfl rfl ?_
     refine WL_skip rfl rfl rfl ?_
     refine WL_skip rfl rfl rfl ?_
     refine WL_r (Rd_pickF rfl rfl) rfl ?_
     refine WL_r (Rd_move rfl) rfl ?_
     refine WL_skip rfl rfl rfl ?_
     refine WL_skip rfl rfl rfl ?_
     refine WL_skip rfl rfl rfl ?_
     refine WL_skip rfl rfl rfl ?_
     refine WL_skip rfl rfl rfl ?_
     refine WL_r (Rd_pickF rfl rfl) rfl ?_
     refine WL_r (Rd_move rfl) rfl ?_
     refine WL_skip rfl rfl rfl ?_
     refine WL_skip rfl rfl rfl ?_
     refine WL_skip rfl rfl rfl ?_
     refine WL_skip rfl rfl rfl ?_
     refine WL_skip rfl rfl rfl ?_
     refine WL_r (Rd_pickF rfl rfl) rfl ?_
     refine WL_r (Rd_move rfl) rfl ?_
     refine WL_skip rfl rfl rfl ?_
     refine WL_skip rfl rfl rfl ?_
     refine WL_skip rfl rfl rfl ?_
     refine WL_skip rfl rfl rfl ?_
     refine WL_skip rfl rfl rfl ?_
     refine WL_skip rfl rfl rfl ?_
     refine WL_skip rfl rfl rfl ?_
     refine WL_r (Rd_pickF rfl rfl) rfl ?_
     refine WL_r (Rd_assign rfl) rfl ?_
     refine WL_end hK39 ?_
     refine WC_ret ?_
     exact hret.goE () (Rs1 rfl rfl) (by first | (congr 1; done) | (congr 1; simp [mayM, bareM, *]; done) | (congr 1; simp [mayM, bareM, *]; omega) | (congr 1; rw [Bool.eq_iff_iff]; simp [mayM, bareM, *]; omega) | (congr 1; rw [Bool.eq_iff_iff]; simp [mayM, bareM] at * <;> omega))
   ·try simp only [dz, ne_eq] at hc2
    refine WC_sr fun K40 hK40 => ?_
    first | refine WL_rd (Rd_eqlN (j := 4) rfl rfl) rfl rfl rfl ?_ | refine WL_rd (Rd_eql rfl rfl) rfl rfl rfl ?_
    refine WL_r (Rd_assign rfl) rfl ?_
    refine WL_end hK40 ?_
    refine WC_cond rfl (fun hc3 => ?_) (fun hc3 => ?_)
    ·try simp only [dz, ne_eq] at hc3
     refine WC_sr fun K41 hK41 => ?_
     refine WL_r (Rd_fieldAddr rfl fo30_5) rfl ?_
     refine WL_r (Rd_loadg rfl tk27) rfl ?_
     refine WL_r (Rd_fieldAddr rfl fo30_5) rfl ?_
     refine WL_ac0 (Ac_store rfl rfl sz27) rfl rfl ?_
     rintro _ _ rfl
     refine WL_end hK41 ?_
     refine WC_region ?_
     refine WL_r (Rd_fieldAddr rfl fo30_5) rfl ?_
     refine WL_r (Rd_fieldAddr rfl fo27_1) rfl ?_
     refine WL_r (Rd_load rfl tk3) rfl ?_
     refine WL_ac (Ac_call cf45 rfl (hs := until_ct)) rfl rfl rfl ?_
     rintro _ _ ⟨⟨⟩, rfl, hA⟩
     simp only [List.cons_append, List.nil_append] at hA
     replace hA := hA.symm
     subst hA
     refine WL_r (Rd_assign rfl) rfl ?_
     refine WL_nil ?_
     refine Ps_next hK4 ?_
     refine WC_sr fun K42 hK42 => ?_
     refine WL_r (Rd_move rfl) rfl ?_
     refine WL_r (Rd_move rfl) rfl ?_
     refine WL_bool 91 rfl (fun hg43 => ?_) (fun hg43 => ?_)
     ·try simp only [dz, ne_eq] at hg43
      refine WL_r (Rd_fieldAddr rfl fo30_2) rfl ?_
      refine WL_r (Rd_load rfl tk3) rfl ?_
      refine WL_r (Rd_fieldAddr rfl fo30_2) rfl ?_
      refine WL_r (Rd_load rfl tk3) rfl ?_
      first | refine WL_rd (Rd_eqlN rfl rfl) rfl rfl rfl ?_ | refine WL_rd (Rd_eql rfl rfl) rfl rfl rfl ?_
      refine WL_r (Rd_pickT rfl rfl) rfl ?_
      refine WL_r (Rd_move rfl) rfl ?_
      refine WL_bool 98 rfl (fun hg44 => ?_) (fun hg44 => ?_)
      ·try simp only [dz, ne_eq] at hg44
       refine WL_r (Rd_fieldAddr rfl fo30_3) rfl ?_
       refine WL_r (Rd_load rfl tk3) rfl ?_
       refine WL_r (Rd_fieldAddr rfl fo30_3) rfl ?_
       refine WL_r (Rd_load rfl tk3) rfl ?_
       first | refine WL_rd (Rd_eqlN rfl rfl) rfl rfl rfl ?_ | refine WL_rd (Rd_eql rfl rfl) rfl rfl rfl ?_
       refine WL_r (Rd_pickT rfl rfl) rfl ?_
       refine WL_r (Rd_move rfl) rfl ?_
       refine WL_bool 105 rfl (fun hg45 => ?_) (fun hg45 => ?_)
       ·try simp only [dz, ne_eq] at hg45
        refine WL_r (Rd_fieldAddr rfl fo30_4) rfl ?_
        refine WL_r (Rd_load rfl tk3) rfl ?_
        refine WL_r (Rd_fieldAddr rfl fo30_4) rfl ?_
        refine WL_r (Rd_load rfl tk3) rfl ?_
        first | refine WL_rd (Rd_eqlN rfl rfl) rfl rfl rfl ?_ | refine WL_rd (Rd_eql rfl rfl) rfl rfl rfl ?_
        refine WL_r (Rd_pickT rfl rfl) rfl ?_
        refine WL_r (Rd_move rfl) rfl ?_
        refine WL_bool 112 rfl (fun hg46 => ?_) (fun hg46 => ?_)
        ·try simp only [dz, ne_eq] at hg46
         refine WL_r (Rd_fieldAddr rfl fo30_5) rfl ?_
         refine WL_r (Rd_loadg rfl tk27) rfl ?_
         refine WL_r (Rd_fieldAddr rfl fo30_5) rfl ?_
         refine WL_r (Rd_loadg rfl tk27) rfl ?_
         refine WL_r (Rd_eqS rfl rfl fls27 (EqL.sc tk25 rfl rfl (Eqs_int ud25 _ _) (EqL.sc tk3 rfl rfl (Eqs_int ud3 _ _) EqL.nil))) rfl ?_
         refine WL_r (Rd_pickT rfl rfl) rfl ?_
         refine WL_r (Rd_move rfl) rfl ?_
         refine WL_bool 119 rfl (fun hg47 => ?_) (fun hg47 => ?_)
         ·try simp only [dz, ne_eq] at hg47
          refine WL_r (Rd_fieldAddr rfl fo30_6) rfl ?_
          refine WL_r (Rd_load rfl tk28) rfl ?_
          first | refine WL_rd (Rd_len rfl rfl ud28) rfl rfl rfl ?_ | refine WL_rd (Rd_len_sv rfl rfl ud28) rfl rfl rfl ?_
          refine WL_r (Rd_fieldAddr rfl fo30_6) rfl ?_
          refine WL_r (Rd_load rfl tk28) rfl ?_
          first | refine WL_rd (Rd_len rfl rfl ud28) rfl rfl rfl ?_ | refine WL_rd (Rd_len_sv rfl rfl ud28) rfl rfl rfl ?_
          refine WL_r (Rd_eqlN rfl rfl) rfl ?_
          refine WL_r (Rd_pickT rfl rfl) rfl ?_
          refine WL_r (Rd_assign rfl) rfl ?_
          refine WL_end hK42 ?_
          refine WC_ret ?_
          exact hret.goE () (Rs1 rfl rfl) (by first | (congr 1; done) | (congr 1; simp [mayM, bareM, *]; done) | (congr 1; simp [mayM, bareM, *]; omega) | (congr 1; rw [Bool.eq_iff_iff]; simp [mayM, bareM, *]; omega) | (congr 1; rw [Bool.eq_iff_iff]; simp [mayM, bareM] at * <;> omega))
         ·try simp only [dz, ne_eq] at hg47
          refine WL_skip rfl rfl rfl ?_
          refine WL_skip rfl rfl rfl ?_
          refine WL_skip rfl rfl rfl ?_
          refine WL_skip rfl rfl rfl ?_
          refine WL_skip rfl rfl rfl ?_
          refine WL_skip rfl rfl rfl ?_
          refine WL_skip rfl rfl rfl ?_
          refine WL_r (Rd_pickF rfl rfl) rfl ?_
          refine WL_r (Rd_assign rfl) rfl ?_
          refine WL_end hK42 ?_
          refine WC_ret ?_
          exact hret.goE () (Rs1 rfl rfl) (by first | (congr 1; done) | (congr 1; simp [mayM, bareM, *]; done) | (congr 1; simp [mayM, bareM, *]; omega) | (congr 1; rw [Bool.eq_iff_iff]; simp [mayM, bareM, *]; omega) | (congr 1; rw [Bool.eq_iff_iff]; simp [mayM, bareM] at * <;> omega))
        ·try simp only [dz, ne_eq] at hg46
         refine WL_skip rfl rfl rfl ?_
         refine WL_skip rfl rfl rfl ?_
         refine WL_skip rfl rfl rfl ?_
         refine WL_skip rfl rfl rfl ?_
         refine WL_skip rfl rfl rfl ?_
         refine WL_r (Rd_pickF rfl rfl) rfl ?_
         refine WL_r (Rd_move rfl) rfl ?_
         refine WL_skip rfl rfl rfl ?_
         refine WL_skip rfl rfl rfl ?_
         refine WL_skip rfl rfl rfl ?_
         refine WL_skip rfl rfl rfl ?_
         refine WL_skip rfl rfl rfl ?_
         refine WL_skip rfl rfl rfl ?_
         refine WL_skip rfl rfl rfl ?_
         refine WL_r (Rd_pickF rfl rfl) rfl ?_
         refine WL_r (Rd_assign rfl) rfl ?_
         refine WL_end hK42 ?_
         refine WC_ret ?_
         exact hret.goE () (Rs1 rfl rfl) (by first | (congr 1; done) | (congr 1; simp [mayM, bareM, *]; done) | (congr 1; simp [mayM, bareM, *]; omega) | (congr 1; rw [Bool.eq_iff_iff]; simp [mayM, bareM, *]; omega) | (congr 1; rw [Bool.eq_iff_iff]; simp [mayM, bareM] at * <;> omega))
       ·try simp only [dz, ne_eq] at hg45
        refine WL_skip rfl rfl rfl ?_
        refine WL_skip rfl rfl rfl ?_
        refine WL_skip rfl rfl rfl ?_
        refine WL_skip rfl rfl rfl ?_
        refine WL_skip rfl rfl rfl ?_
        refine WL_r (Rd_pickF rfl rfl) rfl ?_
        refine WL_r (Rd_move rfl) rfl ?_
        refine WL_skip rfl rfl rfl ?_
        refine WL_skip rfl rfl rfl ?_
        refine WL_skip rfl rfl rfl ?_
        refine WL_skip rfl rfl rfl ?_
        refine WL_skip rfl rfl rfl ?_
        refine WL_r (Rd_pickF rfl rfl) rfl ?_
        refine WL_r (Rd_move rfl) rfl ?_
        refine WL_skip rfl rfl rfl ?_
        refine WL_skip rfl rfl rfl ?_
        refine WL_skip rfl rfl rfl ?_
        refine WL_skip rfl rfl rfl ?_
        refine WL_skip rfl rfl rfl ?_
        refine WL_skip rfl rfl rfl ?_
        refine WL_skip rfl rfl rfl ?_
        refine WL_r (Rd_pickF rfl rfl) rfl ?_
        refine WL_r (Rd_assign rfl) rfl ?_
        refine WL_end hK42 ?_
        refine WC_ret ?_
        exact hret.goE () (Rs1 rfl rfl) (by first | (congr 1; done) | (congr 1; simp [mayM, bareM, *]; done) | (congr 1; simp [mayM, bareM, *]; omega) | (congr 1; rw [Bool.eq_iff_iff]; simp [mayM, bareM, *]; omega) | (congr 1; rw [Bool.eq_iff_iff]; simp [mayM, bareM] at * <;> omega))
      ·try simp only [dz, ne_eq] at hg44
       refine WL_skip rfl rfl rfl ?_
       refine WL_skip rfl rfl rfl ?_
       refine WL_skip rfl rfl rfl ?_
       refine WL_skip rfl rfl rfl ?_
       refine WL_skip rfl rfl rfl ?_
       refine WL_r (Rd_pickF rfl rfl) rfl ?_
       refine WL_r (Rd_move rfl) rfl ?_
       refine WL_skip rfl rfl rfl ?_
       refine WL_skip rfl rfl rfl ?_
       refine WL_skip rfl rfl rfl ?_
       refine WL_skip rfl rfl rfl ?_
       refine WL_skip rfl rfl rfl ?_
       refine WL_r (Rd_pickF rfl rfl) rfl ?_
       refine WL_r (Rd_move rfl) rfl ?_
       refine WL_skip rfl rfl rfl ?_
       refine WL_skip rfl rfl rfl ?_
       refine WL_skip rfl rfl rfl ?_
       refine WL_skip rfl rfl rfl ?_
       refine WL_skip rfl rfl rfl ?_
       refine WL_r (Rd_pickF rfl rfl) rfl ?_
       refine WL_r (Rd_move rfl) rfl ?_
       refine WL_skip rfl rfl rfl ?_
       refine WL_skip rfl rfl rfl ?_
       refine WL_skip rfl rfl rfl ?_
       refine WL_skip rfl rfl rfl ?_
       refine WL_skip rfl rfl rfl ?_
       refine WL_skip rfl rfl rfl ?_
       refine WL_skip rfl rfl rfl ?_
       refine WL_r (Rd_pickF rfl rfl) rfl ?_
       refine WL_r (Rd_assign rfl) rfl ?_
       refine WL_end hK42 ?_
       refine WC_ret ?_
       exact hret.goE () (Rs1 rfl rfl) (by first | (congr 1; done) | (congr 1; simp [mayM, bareM, *]; done) | (congr 1; simp [mayM, bareM, *]; omega) | (congr 1; rw [Bool.eq_iff_iff]; simp [mayM, bareM, *]; omega) | (congr 1; rw [Bool.eq_iff_iff]; simp [mayM, bareM] at * <;> omega))
     ·try simp only [dz, ne_eq] at hg43
      refine WL_skip rfl rfl rfl ?_
      refine WL_skip rfl rfl rfl ?_
      refine WL_skip rfl rfl rfl ?_
      refine WL_skip rfl rfl rfl ?_
      refine WL_skip rfl rfl rfl ?_
      refine WL_r (Rd_pickF rfl rfl) rfl ?_
      refine WL_r (Rd_move rfl) rfl ?_
      refine WL_skip rfl rfl rfl ?_
      refine WL_skip rfl rfl rfl ?_
      refine WL_skip rfl rfl rfl ?_
      refine WL_skip rfl rfl rfl ?_
      refine WL_skip rfl rfl rfl ?_
      refine WL_r (Rd_pickF rfl rfl) rfl ?_
      refine WL_r (Rd_move rfl) rfl ?_
      refine WL_skip rfl rfl rfl ?_
      refine WL_skip rfl rfl rfl ?_
      refine WL_skip rfl rfl rfl ?_
      refine WL_skip rfl rfl rfl ?_
      refine WL_skip rfl rfl rfl ?_
      refine WL_r (Rd_pickF rfl rfl) rfl ?_
      refine WL_r (Rd_move rfl) rfl ?_
      refine WL_skip rfl rfl rfl ?_
      refine WL_skip rfl rfl rfl ?_
      refine WL_skip rfl rfl rfl ?_
      refine WL_skip rfl rfl rfl ?_
      refine WL_skip rfl rfl rfl ?_
      refine WL_r (Rd_pickF rfl rfl) rfl ?_
      refine WL_r (Rd_move rfl) rfl ?_
      refine WL_skip rfl rfl rfl ?_
      refine WL_skip rfl rfl rfl ?_
      refine WL_skip rfl rfl rfl ?_
      refine WL_skip rfl rfl rfl ?_
      refine WL_skip rfl rfl rfl ?_
      refine WL_skip rfl rfl rfl ?_
      refine WL_skip rfl rfl rfl ?_
      refine WL_r (Rd_pickF rfl rfl) rfl ?_
      refine WL_r (Rd_assign rfl) rfl ?_
      refine WL_end hK42 ?_
      refine WC_ret ?_
      exact hret.goE () (Rs1 rfl rfl) (by first | (congr 1; done) | (congr 1; simp [mayM, bareM, *]; done) | (congr 1; simp [mayM, bareM, *]; omega) | (congr 1; rw [Bool.eq_iff_iff]; simp [mayM, bareM, *]; omega) | (congr 1; rw [Bool.eq_iff_iff]; simp [mayM, bareM] at * <;> omega))
    ·try simp only [dz, ne_eq] at hc3
     refine WC_sr fun K48 hK48 => ?_
     first | refine WL_rd (Rd_eqlN (j := 5) rfl rfl) rfl rfl rfl ?_ | refine WL_rd (Rd_eql rfl rfl) rfl rfl rfl ?_
     refine WL_r (Rd_assign rfl) rfl ?_
     refine WL_end hK48 ?_
     refine WC_cond rfl (fun hc4 => ?_) (fun hc4 => ?_)
     ·try simp only [dz, ne_eq] at hc4
      refine WC_region ?_
      refine WL_r (Rd_fieldAddr rfl fo30_5) rfl ?_
      refine WL_r (Rd_fieldAddr rfl fo27_0) rfl ?_
      refine WL_r (Rd_load rfl tk25) rfl ?_
      refine WL_r (Rd_fieldAddr rfl fo30_5) rfl ?_
      refine WL_r (Rd_fieldAddr rfl fo27_0) rfl ?_
      refine WL_ac0 (Ac_store1 rfl rfl sz25) rfl rfl ?_
      rintro _ _ rfl
      refine WL_nil ?_
      refine Ps_next hK4 ?_
      refine WC_sr fun K49 hK49 => ?_
      refine WL_r (Rd_move rfl) rfl ?_
      refine WL_r (Rd_move rfl) rfl ?_
      refine WL_r (Rd_fieldAddr rfl fo30_2) rfl ?_
      refine WL_r (Rd_load rfl tk3) rfl ?_
      refine WL_r (Rd_fieldAddr rfl fo30_2) rfl ?_
      refine WL_r (Rd_load rfl tk3) rfl ?_
      first | refine WL_rd (Rd_eqlN rfl rfl) rfl rfl rfl ?_ | refine WL_rd (Rd_eql rfl rfl) rfl rfl rfl ?_
      refine WL_r (Rd_pickT rfl rfl) rfl ?_
      refine WL_r (Rd_move rfl) rfl ?_
      refine WL_bool 98 rfl (fun hg50 => ?_) (fun hg50 => ?_)
      ·try simp only [dz, ne_eq] at hg50
       refine WL_r (Rd_fieldAddr rfl fo30_3) rfl ?_
       refine WL_r (Rd_load rfl tk3) rfl ?_
       refine WL_r (Rd_fieldAddr rfl fo30_3) rfl ?_
       refine WL_r (Rd_load rfl tk3) rfl ?_
       first | refine WL_rd (Rd_eqlN rfl rfl) rfl rfl rfl ?_ | refine WL_rd (Rd_eql rfl rfl) rfl rfl rfl ?_
       refine WL_r (Rd_pickT rfl rfl) rfl ?_
       refine WL_r (Rd_move rfl) rfl ?_
       refine WL_bool 105 rfl (fun hg51 => ?_) (fun hg51 => ?_)
       ·try simp only [dz, ne_eq] at hg51
        refine WL_r (Rd_fieldAddr rfl fo30_4) rfl ?_
        refine WL_r (Rd_load rfl tk3) rfl ?_
        refine WL_r (Rd_fieldAddr rfl fo30_4) rfl ?_
        refine WL_r (Rd_load rfl tk3) rfl ?_
        first | refine WL_rd (Rd_eqlN rfl rfl) rfl rfl rfl ?_ | refine WL_rd (Rd_eql rfl rfl) rfl rfl rfl ?_
        refine WL_r (Rd_pickT rfl rfl) rfl ?_
        refine WL_r (Rd_move rfl) rfl ?_
        refine WL_bool 112 rfl (fun hg52 => ?_) (fun hg52 => ?_)
        ·try simp only [dz, ne_eq] at hg52
         refine WL_r (Rd_fieldAddr rfl fo30_5) rfl ?_
         refine WL_r (Rd_loadg rfl tk27) rfl ?_
         refine WL_r (Rd_fieldAddr rfl fo30_5) rfl ?_
         refine WL_r (Rd_loadg rfl tk27) rfl ?_
         refine WL_r (Rd_eqS rfl rfl fls27 (EqL.sc tk25 rfl rfl (Eqs_int ud25 _ _) (EqL.sc tk3 rfl rfl (Eqs_int ud3 _ _) EqL.nil))) rfl ?_
         refine WL_r (Rd_pickT rfl rfl) rfl ?_
         refine WL_r (Rd_move rfl) rfl ?_
         refine WL_bool 119 rfl (fun hg53 => ?_) (fun hg53 => ?_)
         ·try simp only [dz, ne_eq] at hg53
          refine WL_r (Rd_fieldAddr rfl fo30_6) rfl ?_
          refine WL_r (Rd_load rfl tk28) rfl ?_
          first | refine WL_rd (Rd_len rfl rfl ud28) rfl rfl rfl ?_ | refine WL_rd (Rd_len_sv rfl rfl ud28) rfl rfl rfl ?_
          refine WL_r (Rd_fieldAddr rfl fo30_6) rfl ?_
          refine WL_r (Rd_load rfl tk28) rfl ?_
          first | refine WL_rd (Rd_len rfl rfl ud28) rfl rfl rfl ?_ | refine WL_rd (Rd_len_sv rfl rfl ud28) rfl rfl rfl ?_
          refine WL_r (Rd_eqlN rfl rfl) rfl ?_
          refine WL_r (Rd_pickT rfl rfl) rfl ?_
          refine WL_r (Rd_assign rfl) rfl ?_
          refine WL_end hK49 ?_
          refine WC_ret ?_
          exact hret.goE () (Rs1 rfl rfl) (by first | (congr 1; done) | (congr 1; simp [mayM, bareM, *]; done) | (congr 1; simp [mayM, bareM, *]; omega) | (congr 1; rw [Bool.eq_iff_iff]; simp [mayM, bareM, *]; omega) | (congr 1; rw [Bool.eq_iff_iff]; simp [mayM, bareM] at * <;> omega))
         ·try simp only [dz, ne_eq] at hg53
          refine WL_skip rfl rfl rfl ?_
          refine WL_skip rfl rfl rfl ?_
          refine WL_skip rfl rfl rfl ?_
          refine WL_skip rfl rfl rfl ?_
          refine WL_skip rfl rfl rfl ?_
          refine WL_skip rfl rfl rfl ?_
          refine WL_skip rfl rfl rfl ?_
          refine WL_r (Rd_pickF rfl rfl) rfl ?_
          refine WL_r (Rd_assign rfl) rfl ?_
          refine WL_end hK49 ?_
          refine WC_ret ?_
          exact hret.goE () (Rs1 rfl rfl) (by first | (congr 1; done) | (congr 1; simp [mayM, bareM, *]; done) | (congr 1; simp [mayM, bareM, *]; omega) | (congr 1; rw [Bool.eq_iff_iff]; simp [mayM, bareM, *]; omega) | (congr 1; rw [Bool.eq_iff_iff]; simp [mayM, bareM] at * <;> omega))
        ·try simp only [dz, ne_eq] at hg52
         refine WL_skip rfl rfl rfl ?_
         refine WL_skip rfl rfl rfl ?_
         refine WL_skip rfl rfl rfl ?_
         refine WL_skip rfl rfl rfl ?_
         refine WL_skip rfl rfl rfl ?_
         refine WL_r (Rd_pickF rfl rfl) rfl ?_
         refine WL_r (Rd_move rfl) rfl ?_
         refine WL_skip rfl rfl rfl ?_
         refine WL_skip rfl rfl rfl ?_
         refine WL_skip rfl rfl rfl ?_
         refine WL_skip rfl rfl rfl ?_
         refine WL_skip rfl rfl rfl ?_
         refine WL_skip rfl rfl rfl ?_
         refine WL_skip rfl rfl rfl ?_
         refine WL_r (Rd_pickF rfl rfl) rfl ?_
         refine WL_r (Rd_assign rfl) rfl ?_
         refine WL_end hK49 ?_
         refine WC_ret ?_
         exact hret.goE () (Rs1 rfl rfl) (by first | (congr 1; done) | (congr 1; simp [mayM, bareM, *]; done) | (congr 1; simp [mayM, bareM, *]; omega) | (congr 1; rw [Bool.eq_iff_iff]; simp [mayM, bareM, *]; omega) | (congr 1; rw [Bool.eq_iff_iff]; simp [mayM, bareM] at * <;> omega))
       ·try simp only [dz, ne_eq] at hg51
        refine WL_skip rfl rfl rfl ?_
        refine WL_skip rfl rfl rfl ?_
        refine WL_skip rfl rfl rfl ?_
        refine WL_skip rfl rfl rfl ?_
        refine WL_skip rfl rfl rfl ?_
        refine WL_r (Rd_pickF rfl rfl) rfl ?_
        refine WL_r (Rd_move rfl) rfl ?_
        refine WL_skip rfl rfl rfl ?_
        refine WL_skip rfl rfl rfl ?_
        refine WL_skip rfl rfl rfl ?_
        refine WL_skip rfl rfl rfl ?_
        refine WL_skip rfl rfl rfl ?_
        refine WL_r (Rd_pickF rfl rfl) rfl ?_
        refine WL_r (Rd_move rfl) rfl ?_
        refine WL_skip rfl rfl rfl ?_
        refine WL_skip rfl rfl rfl ?_
        refine WL_skip rfl rfl rfl ?_
        refine WL_skip rfl rfl rfl ?_
        refine WL_skip rfl rfl rfl ?_
        refine WL_skip rfl rfl rfl ?_
        refine WL_skip rfl rfl rfl ?_
        refine WL_r (Rd_pickF rfl rfl) rfl ?_
        refine WL_r (Rd_assign rfl) rfl ?_
        refine WL_end hK49 ?_
        refine WC_ret ?_
        exact hret.goE () (Rs1 rfl rfl) (by first | (congr 1; done) | (congr 1; simp [mayM, bareM, *]; done) | (congr 1; simp [mayM, bareM, *]; omega) | (congr 1; rw [Bool.eq_iff_iff]; simp [mayM, bareM, *]; omega) | (congr 1; rw [Bool.eq_iff_iff]; simp [mayM, bareM] at * <;> omega))
      ·try simp only [dz, ne_eq] at hg50
       refine WL_skip rfl rfl rfl ?_
       refine WL_skip rfl rfl rfl ?_
       refine WL_skip rfl rfl rfl ?_
       refine WL_skip rfl rfl rfl ?_
       refine WL_skip rfl rfl rfl ?_
       refine WL_r (Rd_pickF rfl rfl) rfl ?_
       refine WL_r (Rd_move rfl) rfl ?_
       refine WL_skip rfl rfl rfl ?_
       refine WL_skip rfl rfl rfl ?_
       refine WL_skip rfl rfl rfl ?_
       refine WL_skip rfl rfl rfl ?_
       refine WL_skip rfl rfl rfl ?_
       refine WL_r (Rd_pickF rfl rfl) rfl ?_
       refine WL_r (Rd_move rfl) rfl ?_
       refine WL_skip rfl rfl rfl ?_
       refine WL_skip rfl rfl rfl ?_
       refine WL_skip rfl rfl rfl ?_
       refine WL_skip rfl rfl rfl ?_
       refine WL_skip rfl rfl rfl ?_
       refine WL_r (Rd_pickF rfl rfl) rfl ?_
       refine WL_r (Rd_move rfl) rfl ?_
       refine WL_skip rfl rfl rfl ?_
       refine WL_skip rfl rfl rfl ?_
       refine WL_skip rfl rfl rfl ?_
       refine WL_skip rfl rfl rfl ?_
       refine WL_skip rfl rfl rfl ?_
       refine WL_skip rfl rfl rfl ?_
       refine WL_skip rfl rfl rfl ?_
       refine WL_r (Rd_pickF rfl rfl) rfl ?_
       refine WL_r (Rd_assign rfl) rfl ?_
       refine WL_end hK49 ?_
       refine WC_ret ?_
       exact hret.goE () (Rs1 rfl rfl) (by first | (congr 1; done) | (congr 1; simp [mayM, bareM, *]; done) | (congr 1; simp [mayM, bareM, *]; omega) | (congr 1; rw [Bool.eq_iff_iff]; simp [mayM, bareM, *]; omega) | (congr 1; rw [Bool.eq_iff_iff]; simp [mayM, bareM] at * <;> omega))
     ·try simp only [dz, ne_eq] at hc4
      refine WC_sr fun K54 hK54 => ?_
      refine WL_r (Rd_assign rfl) rfl ?_
      refine WL_end hK54 ?_
      refine WC_ret ?_
      exact hret.goE () (Rs1 rfl rfl) (by first | (congr 1; done) | (congr 1; simp [mayM, bareM, *]; done) | (congr 1; simp [mayM, bareM, *]; omega) | (congr 1; rw [Bool.eq_iff_iff]; simp [mayM, bareM, *]; omega) | (congr 1; rw [Bool.eq_iff_iff]; simp [mayM, bareM] at * <;> omega))
end Go.Proofs.Ytoakfknnaiapiaa
namespace Go.Proofs.Ytoakfknnaiapiaa
open Go.RowKit Go.SL Go.ShM Go.SvM
set_option maxHeartbeats 1000000
set_option maxRecDepth 20000
set_option linter.all false

theorem ix16 (l : List B8) (h : l.length = 16) : ∃ a0 a1 a2 a3 a4 a5 a6 a7 a8 a9 a10 a11 a12 a13 a14 a15 : B8, l = [a0, a1, a2, a3, a4, a5, a6, a7, a8, a9, a10, a11, a12, a13, a14, a15] := by
  obtain ⟨a0, l0, rfl, h0⟩ := unc8 h
  obtain ⟨a1, l1, rfl, h1⟩ := unc8 h0
  obtain ⟨a2, l2, rfl, h2⟩ := unc8 h1
  obtain ⟨a3, l3, rfl, h3⟩ := unc8 h2
  obtain ⟨a4, l4, rfl, h4⟩ := unc8 h3
  obtain ⟨a5, l5, rfl, h5⟩ := unc8 h4
  obtain ⟨a6, l6, rfl, h6⟩ := unc8 h5
  obtain ⟨a7, l7, rfl, h7⟩ := unc8 h6
  obtain ⟨a8, l8, rfl, h8⟩ := unc8 h7
  obtain ⟨a9, l9, rfl, h9⟩ := unc8 h8
  obtain ⟨a10, l10, rfl, h10⟩ := unc8 h9
  obtain ⟨a11, l11, rfl, h11⟩ := unc8 h10
  obtain ⟨a12, l12, rfl, h12⟩ := unc8 h11
  obtain ⟨a13, l13, rfl, h13⟩ := unc8 h12
  obtain ⟨a14, l14, rfl, h14⟩ := unc8 h13
  obtain ⟨a15, l15, rfl, h15⟩ := unc8 h14
  obtain rfl : l15 = [] := List.eq_nil_of_length_eq_zero h15
  exact ⟨a0, a1, a2, a3, a4, a5, a6, a7, a8, a9, a10, a11, a12, a13, a14, a15, rfl⟩
theorem mayQ_ct {r : Rq} : Ct Try.prog 29 [.agg (eRq r).toArray] [] (fun _ : Unit => .bool (mayQ r)) (fun _ => []) := by
  obtain ⟨k, ⟨l, hl⟩, n, f, c, wh, un, b⟩ := r
  obtain ⟨a0, a1, a2, a3, a4, a5, a6, a7, a8, a9, a10, a11, a12, a13, a14, a15, rfl⟩ := ix16 l hl
  exact mayS_ct (k := (k.toNat : Int)) (n := n) (f := f) (c := c) (wh := (wh.toNat : Int)) (un := un) (len := b.l.length)
end Go.Proofs.Ytoakfknnaiapiaa
