/-
  Contracts of functions that the claim reaches, or the logic and the plain laws that they rest on, or the row over them. (Conditions: none beyond the statement.)
-/
import Derived.Test.YtoakfknnaiapiaaSqGb
import Derived.Test.YtoakfknnaiapiaaSvLB
import Derived.Test.YtoakfknnaiapiaaLibA
import Derived.Test.YtoakfknnaiapiaaLibE
import Derived.Test.YtoakfknnaiapiaaLibC
import Derived.Test.YtoakfknnaiapiaaLibR
set_option linter.all false
namespace Go.Proofs.Ytoakfknnaiapiaa
open Go.RowKit Go.SL Go.ShM Go.SvM
set_option maxHeartbeats 1000000
set_option maxRecDepth 20000
set_option linter.all false

def methF (k : B8) : Nat := if k = 1#8 then 30 else if k = 2#8 then 31 else if k = 3#8 then 32 else if k = 4#8 then 33 else 34
section
variable {b m : Nat} {room tick : Int} {L : List En} {r : Rq} {Y : Asn}
theorem fetch_m (hm : MayR r) (hk : r.kind = 3#8) {rp : Rp} {l2 : List Kp} (h : (fetchM (L.map En.e) r, L.map En.e) = (rp, l2)) : Ct Try.prog 32 [.pointer (some ⟨b, 0, none⟩), .agg (eRq r).toArray] [cl b 40 [.bool true, .int .i64 room, .int .i64 tick, .int .i64 (((usedE L) : Nat) : Int), .map (some m)], mpP m kfK vfP (L.map En.kp), star (FEn 85 5) L, Y] (fun g : {g : List En × (Option Nat × Nat) × (Option Nat × Nat) // g.1.map En.e = l2} => .agg [.int .u8 rp.kind, sl g.1.2.1.1 rp.ns.length g.1.2.1.2, sl g.1.2.2.1 rp.bs.length g.1.2.2.2].toArray) (fun g => [cl b 40 [.bool true, .int .i64 room, .int .i64 tick, .int .i64 (((usedE g.1.1) : Nat) : Int), .map (some m)], mpP m kfK vfP (g.1.1.map En.kp), star (FEn 85 5) g.1.1, Y, arr g.1.2.1.1 g.1.2.1.2 1 3 eI rp.ns, arr g.1.2.2.1 g.1.2.2.2 1 5 (eU .u8 (w := 8)) rp.bs]) := by
  have hf3 := hm.fetch hk
  cases hf : findE (r.ix, r.num) L with
  | none =>
    rw [fetchM_no (by rw [findE_K, hf]; rfl)] at h
    cases h
    exact Ct_re ((fetch_no hf).frame [Y]) (fun g => ⟨(L, (none, 0), (none, 0)), rfl⟩) (fun g => rfl) (fun g F w h => by
      simp only [List.cons_append, List.nil_append] at h ⊢
      exact sat_perm (show Gv _ [cl b 40 [.bool true, .int .i64 room, .int .i64 tick, .int .i64 (((usedE L) : Nat) : Int), .map (some m)], mpP m kfK vfP (L.map En.kp), star (FEn 85 5) L, Y, arr none 0 1 3 eI [], arr none 0 1 5 (eU .u8 (w := 8)) []] F from gvA) (sat_nil (e := 1) (T := 5) (f := (eU .u8 (w := 8))) (sat_nil (e := 1) (T := 3) (f := eI) h)))
  | some x =>
    obtain ⟨A, B, rfl, hkey⟩ := find_split hf
    by_cases h3 : (x.e.b.length : Int) < r.at_ + r.len
    · rw [fetchM_out (by rw [findE_K, hf]; rfl) h3] at h
      cases h
      exact Ct_re ((fetch_out hf hf3.1 hf3.2 h3).frame [Y]) (fun g => ⟨((A ++ x :: B), (none, 0), (none, 0)), rfl⟩) (fun g => rfl) (fun g F w h => by
      simp only [List.cons_append, List.nil_append] at h ⊢
      exact sat_perm (show Gv _ [cl b 40 [.bool true, .int .i64 room, .int .i64 tick, .int .i64 (((usedE (A ++ x :: B)) : Nat) : Int), .map (some m)], mpP m kfK vfP ((A ++ x :: B).map En.kp), star (FEn 85 5) (A ++ x :: B), Y, arr none 0 1 3 eI [], arr none 0 1 5 (eU .u8 (w := 8)) []] F from gvA) (sat_nil (e := 1) (T := 5) (f := (eU .u8 (w := 8))) (sat_nil (e := 1) (T := 3) (f := eI) h)))
    · rw [fetchM_in (by rw [findE_K, hf]; rfl) h3] at h
      cases h
      exact Ct_re ((fetch_in hf (at' := r.at_.toNat) (ln' := r.len.toNat) (by omega) (by omega) (by omega) (by omega) (by omega)).frame [Y]) (fun g => ⟨((A ++ x :: B), (none, 0), g), rfl⟩) (fun g => rfl) (fun g F w h => by
      simp only [List.cons_append, List.nil_append] at h ⊢
      exact sat_perm (show Gv _ [cl b 40 [.bool true, .int .i64 room, .int .i64 tick, .int .i64 (((usedE (A ++ x :: B)) : Nat) : Int), .map (some m)], mpP m kfK vfP ((A ++ x :: B).map En.kp), star (FEn 85 5) (A ++ x :: B), Y, arr none 0 1 3 eI [], arr g.1 g.2 1 5 (eU .u8 (w := 8)) ((x.e.b.take (r.at_.toNat + r.len.toNat)).drop r.at_.toNat)] F from gvA) (sat_nil (e := 1) (T := 3) (f := eI) h))
theorem store_m (hw : Wf room ⟨tick, L.map En.e⟩) (hm : MayR r) (hB : Sv [Y] r.b.v 1 (eU .u8 (w := 8)) r.b.l r.b.ao r.b.cap) {rp : Rp} {l2 : List Kp} (h : storeM room (L.map En.e) r = (rp, l2)) : Ct Try.prog 31 [.pointer (some ⟨b, 0, none⟩), .agg (eRq r).toArray] [cl b 40 [.bool true, .int .i64 room, .int .i64 tick, .int .i64 (((usedE L) : Nat) : Int), .map (some m)], mpP m kfK vfP (L.map En.kp), star (FEn 85 5) L, Y] (fun g : {g : List En × (Option Nat × Nat) × (Option Nat × Nat) // g.1.map En.e = l2} => .agg [.int .u8 rp.kind, sl g.1.2.1.1 rp.ns.length g.1.2.1.2, sl g.1.2.2.1 rp.bs.length g.1.2.2.2].toArray) (fun g => [cl b 40 [.bool true, .int .i64 room, .int .i64 tick, .int .i64 (((usedE g.1.1) : Nat) : Int), .map (some m)], mpP m kfK vfP (g.1.1.map En.kp), star (FEn 85 5) g.1.1, Y, arr g.1.2.1.1 g.1.2.1.2 1 3 eI rp.ns, arr g.1.2.2.1 g.1.2.2.2 1 5 (eU .u8 (w := 8)) rp.bs]) := by
  have hus : (usedE L : Int) ≤ room := hw.used
  have hrm := hw.rm
  cases hf : findE (r.ix, r.num) L with
  | none =>
    by_cases h3 : room - (usedM (L.map En.e) : Int) < (r.b.l.length : Int)
    · rw [storeM_full (by rw [findE_K, hf]; rfl) h3] at h
      cases h
      exact Ct_re (store_full hf hB hm.len (by omega) hrm h3) (fun g => ⟨(L, (none, 0), (none, 0)), rfl⟩) (fun g => rfl) (fun g F w h => by
      simp only [List.cons_append, List.nil_append] at h ⊢
      exact sat_perm (show Gv _ [cl b 40 [.bool true, .int .i64 room, .int .i64 tick, .int .i64 (((usedE L) : Nat) : Int), .map (some m)], mpP m kfK vfP (L.map En.kp), star (FEn 85 5) L, Y, arr none 0 1 3 eI [], arr none 0 1 5 (eU .u8 (w := 8)) []] F from gvA) (sat_nil (e := 1) (T := 5) (f := (eU .u8 (w := 8))) (sat_nil (e := 1) (T := 3) (f := eI) h)))
    · rw [storeM_new (by rw [findE_K, hf]; rfl) h3] at h
      cases h
      exact Ct_re (store_new hf hB hm.len (by omega) hrm (by rw [usedE_M]; omega)) (fun g => ⟨(insE (⟨⟨r.ix, r.num, r.b.l, [(r.who, r.un)]⟩, g.p, g.a, g.cap, g.m⟩ : En) L, (none, 0), (none, 0)), insE_e _ _⟩) (fun g => rfl) (fun g F w h => by
      simp only [List.cons_append, List.nil_append] at h ⊢
      exact sat_perm (show Gv _ [cl b 40 [.bool true, .int .i64 room, .int .i64 tick, .int .i64 (((usedE (insE (⟨⟨r.ix, r.num, r.b.l, [(r.who, r.un)]⟩, g.p, g.a, g.cap, g.m⟩ : En) L)) : Nat) : Int), .map (some m)], mpP m kfK vfP ((insE (⟨⟨r.ix, r.num, r.b.l, [(r.who, r.un)]⟩, g.p, g.a, g.cap, g.m⟩ : En) L).map En.kp), star (FEn 85 5) (insE (⟨⟨r.ix, r.num, r.b.l, [(r.who, r.un)]⟩, g.p, g.a, g.cap, g.m⟩ : En) L), Y, arr none 0 1 3 eI [], arr none 0 1 5 (eU .u8 (w := 8)) []] F from gvA) (sat_nil (e := 1) (T := 5) (f := (eU .u8 (w := 8))) (sat_nil (e := 1) (T := 3) (f := eI) h)))
  | some x =>
    obtain ⟨A, B, rfl, hkey⟩ := find_split hf
    have hfK : findK (r.ix, r.num) ((A ++ x :: B).map En.e) = some x.e := by rw [findE_K, hf]; rfl
    by_cases h3 : x.e.b = r.b.l
    · by_cases h4 : hasW r.who x.e.ls = false ∧ 64 ≤ x.e.ls.length
      · rw [storeM_many hfK h3 h4] at h
        cases h
        exact Ct_re (store_many hf hB h3 h4.1 h4.2) (fun g => ⟨((A ++ x :: B), (none, 0), (none, 0)), rfl⟩) (fun g => rfl) (fun g F w h => by
      simp only [List.cons_append, List.nil_append] at h ⊢
      exact sat_perm (show Gv _ [cl b 40 [.bool true, .int .i64 room, .int .i64 tick, .int .i64 (((usedE (A ++ x :: B)) : Nat) : Int), .map (some m)], mpP m kfK vfP ((A ++ x :: B).map En.kp), star (FEn 85 5) (A ++ x :: B), Y, arr none 0 1 3 eI [], arr none 0 1 5 (eU .u8 (w := 8)) []] F from gvA) (sat_nil (e := 1) (T := 5) (f := (eU .u8 (w := 8))) (sat_nil (e := 1) (T := 3) (f := eI) h)))
      · rw [storeM_laid hfK h3 h4] at h
        cases h
        have h5 : hasW r.who x.e.ls = true ∨ x.e.ls.length < 64 := by
          by_cases q : hasW r.who x.e.ls = true
          · exact .inl q
          · exact .inr (Nat.lt_of_not_le fun z => h4 ⟨by simpa using q, z⟩)
        exact Ct_re (store_laid hf hB h3 h5 (hw.ws x.e (by simp)) hm.un.1) (fun g => ⟨((A ++ x.put (x.e.with (layL r.who r.un x.e.ls)) :: B), (none, 0), (none, 0)), (setLs_at hw.srt hkey).symm⟩) (fun g => rfl) (fun g F w h => by
      simp only [List.cons_append, List.nil_append] at h ⊢
      exact sat_perm (show Gv _ [cl b 40 [.bool true, .int .i64 room, .int .i64 tick, .int .i64 (((usedE (A ++ x.put (x.e.with (layL r.who r.un x.e.ls)) :: B)) : Nat) : Int), .map (some m)], mpP m kfK vfP ((A ++ x.put (x.e.with (layL r.who r.un x.e.ls)) :: B).map En.kp), star (FEn 85 5) (A ++ x.put (x.e.with (layL r.who r.un x.e.ls)) :: B), Y, arr none 0 1 3 eI [], arr none 0 1 5 (eU .u8 (w := 8)) []] F from gvA) (sat_nil (e := 1) (T := 5) (f := (eU .u8 (w := 8))) (sat_nil (e := 1) (T := 3) (f := eI) h)))
    · rw [storeM_other hfK h3] at h
      cases h
      exact Ct_re (store_other hf hB h3) (fun g => ⟨((A ++ x :: B), (none, 0), (none, 0)), rfl⟩) (fun g => rfl) (fun g F w h => by
      simp only [List.cons_append, List.nil_append] at h ⊢
      exact sat_perm (show Gv _ [cl b 40 [.bool true, .int .i64 room, .int .i64 tick, .int .i64 (((usedE (A ++ x :: B)) : Nat) : Int), .map (some m)], mpP m kfK vfP ((A ++ x :: B).map En.kp), star (FEn 85 5) (A ++ x :: B), Y, arr none 0 1 3 eI [], arr none 0 1 5 (eU .u8 (w := 8)) []] F from gvA) (sat_nil (e := 1) (T := 5) (f := (eU .u8 (w := 8))) (sat_nil (e := 1) (T := 3) (f := eI) h)))
theorem meth_ct (hw : Wf room ⟨tick, L.map En.e⟩) (hm : MayR r) (hB : Sv [Y] r.b.v 1 (eU .u8 (w := 8)) r.b.l r.b.ao r.b.cap) (hn : L.length ≤ 100000000) {rp : Rp} {l2 : List Kp} (h : doM room (L.map En.e) r = (rp, l2)) : Ct Try.prog (methF r.kind) [.pointer (some ⟨b, 0, none⟩), .agg (eRq r).toArray] [cl b 40 [.bool true, .int .i64 room, .int .i64 tick, .int .i64 (((usedE L) : Nat) : Int), .map (some m)], mpP m kfK vfP (L.map En.kp), star (FEn 85 5) L, Y] (fun g : {g : List En × (Option Nat × Nat) × (Option Nat × Nat) // g.1.map En.e = l2} => .agg [.int .u8 rp.kind, sl g.1.2.1.1 rp.ns.length g.1.2.1.2, sl g.1.2.2.1 rp.bs.length g.1.2.2.2].toArray) (fun g => [cl b 40 [.bool true, .int .i64 room, .int .i64 tick, .int .i64 (((usedE g.1.1) : Nat) : Int), .map (some m)], mpP m kfK vfP (g.1.1.map En.kp), star (FEn 85 5) g.1.1, Y, arr g.1.2.1.1 g.1.2.1.2 1 3 eI rp.ns, arr g.1.2.2.1 g.1.2.2.2 1 5 (eU .u8 (w := 8)) rp.bs]) := by
  have hus : (usedE L : Int) ≤ room := hw.used
  have hrm := hw.rm
  rcases hm.kind with hk | hk | hk | hk | hk
  · rw [doM_1 hk] at h
    cases h
    rw [show methF r.kind = 30 from by rw [hk]; rfl]
    exact Ct_re ((have_ct hw.srt hn).frame [Y]) (fun g => ⟨(L, g, (none, 0)), rfl⟩) (fun g => rfl) (fun g F w h => by
      simp only [List.cons_append, List.nil_append] at h ⊢
      exact sat_perm (show Gv _ [cl b 40 [.bool true, .int .i64 room, .int .i64 tick, .int .i64 (((usedE L) : Nat) : Int), .map (some m)], mpP m kfK vfP (L.map En.kp), star (FEn 85 5) L, Y, arr g.1 g.2 1 3 eI (underM r.ix (fun _ => true) (L.map En.e)), arr none 0 1 5 (eU .u8 (w := 8)) []] F from gvA) (sat_nil (e := 1) (T := 5) (f := (eU .u8 (w := 8))) h))
  · rw [doM_2 hk] at h
    rw [show methF r.kind = 31 from by rw [hk]; rfl]
    exact store_m hw hm hB h
  · rw [doM_3 hk] at h
    rw [show methF r.kind = 32 from by rw [hk]; rfl]
    exact fetch_m hm hk h
  · rw [doM_4 hk] at h
    cases h
    rw [show methF r.kind = 33 from by rw [hk]; rfl]
    exact Ct_re ((renew_ct hw.srt (fun x hx => hw.ws x.e (List.mem_map.2 ⟨x, hx, rfl⟩)) hm.un.1 hn).frame [Y]) (fun g => ⟨((allE r.ix (fun e : Kp => hasW r.who e.ls) (layL r.who r.un) L), g, (none, 0)), allE_e r.ix (fun e : Kp => hasW r.who e.ls) (layL r.who r.un) L⟩) (fun g => rfl) (fun g F w h => by
      simp only [List.cons_append, List.nil_append] at h ⊢
      exact sat_perm (show Gv _ [cl b 40 [.bool true, .int .i64 room, .int .i64 tick, .int .i64 (((usedE (allE r.ix (fun e : Kp => hasW r.who e.ls) (layL r.who r.un) L)) : Nat) : Int), .map (some m)], mpP m kfK vfP ((allE r.ix (fun e : Kp => hasW r.who e.ls) (layL r.who r.un) L).map En.kp), star (FEn 85 5) (allE r.ix (fun e : Kp => hasW r.who e.ls) (layL r.who r.un) L), Y, arr g.1 g.2 1 3 eI (underM r.ix (fun e => hasW r.who e.ls) (L.map En.e)), arr none 0 1 5 (eU .u8 (w := 8)) []] F from gvA) (sat_nil (e := 1) (T := 5) (f := (eU .u8 (w := 8))) h))
  · rw [doM_5 hk] at h
    cases h
    rw [show methF r.kind = 34 from by rw [hk]; rfl]
    exact Ct_re ((release_ct hw.srt (by omega) hn).frame [Y]) (fun g => ⟨((allE r.ix (fun e : Kp => hasW r.who e.ls) (delL r.who) L), g, (none, 0)), allE_e r.ix (fun e : Kp => hasW r.who e.ls) (delL r.who) L⟩) (fun g => rfl) (fun g F w h => by
      simp only [List.cons_append, List.nil_append] at h ⊢
      exact sat_perm (show Gv _ [cl b 40 [.bool true, .int .i64 room, .int .i64 tick, .int .i64 (((usedE (allE r.ix (fun e : Kp => hasW r.who e.ls) (delL r.who) L)) : Nat) : Int), .map (some m)], mpP m kfK vfP ((allE r.ix (fun e : Kp => hasW r.who e.ls) (delL r.who) L).map En.kp), star (FEn 85 5) (allE r.ix (fun e : Kp => hasW r.who e.ls) (delL r.who) L), Y, arr g.1 g.2 1 3 eI (underM r.ix (fun e => hasW r.who e.ls) (L.map En.e)), arr none 0 1 5 (eU .u8 (w := 8)) []] F from gvA) (sat_nil (e := 1) (T := 5) (f := (eU .u8 (w := 8))) h))
end
end Go.Proofs.Ytoakfknnaiapiaa
namespace Go.Proofs.Ytoakfknnaiapiaa
open Go.RowKit Go.SL Go.ShM Go.SvM
set_option maxHeartbeats 1000000
set_option maxRecDepth 20000
set_option linter.all false
theorem cf30 : cfn Try.prog 30 = true := by kernel_rfl
theorem cf31 : cfn Try.prog 31 = true := by kernel_rfl
theorem cf32 : cfn Try.prog 32 = true := by kernel_rfl
theorem cf33 : cfn Try.prog 33 = true := by kernel_rfl
theorem cf34 : cfn Try.prog 34 = true := by kernel_rfl
theorem ud22 : Try.prog.underlying 22 = some (.int .u8) := by kernel_rfl
theorem zv88 : ∀ w, (zeroValue 88).run Try.prog w = .ok (.nilFunc) w := fun w => by kernel_rfl
def kfB (b : B8) : Value := .int .u8 (b.toNat : Int)
def vfF (b : Nat) (f : Nat) : Value := .func (.func f) #[.pointer (some ⟨b, 0, none⟩)] #[]
theorem keyB : KeyT Try.prog 22 kfB := (KeyT_int (P := Try.prog) .u8 ud22).comp (fun w : B8 => (w.toNat : Int)) (fun a b h => BitVec.eq_of_toNat_eq (by omega))
theorem zvF : ∀ w, (zeroValue 88).run Try.prog w = .ok .nilFunc w := zv88
def doL : List (B8 × Nat) := putL 5#8 34 (putL 4#8 33 (putL 3#8 32 (putL 2#8 31 (putL 1#8 30 []))))
theorem doL_get {r : Rq} (hm : MayR r) : getL r.kind doL = some (methF r.kind) := by
  rcases hm.kind with h | h | h | h | h <;> rw [h] <;> decide
theorem doL_fn {r : Rq} (hm : MayR r) : cfn Try.prog (methF r.kind) = true := by
  rcases hm.kind with h | h | h | h | h <;> rw [h]
  · exact cf30
  · exact cf31
  · exact cf32
  · exact cf33
  · exact cf34
end Go.Proofs.Ytoakfknnaiapiaa
namespace Go.Proofs.Ytoakfknnaiapiaa
open Go.RowKit Go.SL Go.ShM Go.SvM
set_option maxHeartbeats 1000000
set_option maxRecDepth 20000
set_option linter.all false
theorem cf9 : cfn Try.prog 9 = true := by kernel_rfl
theorem cf29 : cfn Try.prog 29 = true := by kernel_rfl
theorem do_no {b m : Nat} {room tick : Int} {L : List En} {t : Int} {r : Rq} (h : t < tick ∨ 1099511627776 < t) : Ct Try.prog 10 [.pointer (some ⟨b, 0, none⟩), .int .i64 t, .agg (eRq r).toArray] [cl b 40 [.bool true, .int .i64 room, .int .i64 tick, .int .i64 (((usedE L) : Nat) : Int), .map (some m)], mpP m kfK vfP (L.map En.kp), star (FEn 85 5) L] (fun _ : Unit => .tuple #[.agg [.int .u8 0, .slice none 0 0, .slice none 0 0].toArray, .int .i64 191]) (fun _ => [cl b 40 [.bool true, .int .i64 room, .int .i64 tick, .int .i64 (((usedE L) : Nat) : Int), .map (some m)], mpP m kfK vfP (L.map En.kp), star (FEn 85 5) L]) := by
 refine Ct_body (n := 59) Try.func10 rfl rfl rfl fun F w0 Q hret hnorm hp => ?_
 change WC _ _ _ _ _ _ _ (_ :: _ :: _ :: F)
 refine WC_sr fun K1 hK1 => ?_
 refine WL_ac (Ac_box (xs := eRq r) rfl rfl) rfl rfl rfl ?_
 rintro _ _ ⟨b3, rfl, rfl⟩
 refine WL_ac (Ac_alloc zr45) rfl rfl rfl ?_
 rintro _ _ ⟨b4, rfl, rfl⟩
 refine WL_r (Rd_assign rfl) rfl ?_
 refine WL_end hK1 ?_
 refine WC_seq fun K2 hK2 => ?_
 refine WC_sr fun K3 hK3 => ?_
 refine WL_r (Rd_move rfl) rfl ?_
 refine WL_r (Rd_move rfl) rfl ?_
 refine WL_ac (Ac_call cf9 rfl (hs := tick_no (b := b) (m := m) (room := room) (tick := tick) (t1 := t) (L := L) h)) rfl rfl rfl ?_
 rintro _ _ ⟨⟨⟩, rfl, hA⟩
 simp only [List.cons_append, List.nil_append] at hA
 replace hA := hA.symm
 subst hA
 refine WL_r (Rd_assign rfl) rfl ?_
 refine WL_end hK3 ?_
 refine WC_sr fun K4 hK4 => ?_
 refine WL_r (Rd_move rfl) rfl ?_
 refine WL_r (Rd_neqN (i := 191) (j := 0) rfl rfl) rfl ?_
 refine WL_end hK4 ?_
 refine WC_condT rfl ?_
 refine WC_sr fun K5 hK5 => ?_
 refine WL_r (Rd_build pls45 rfl) rfl ?_
 refine WL_r (Rd_move rfl) rfl ?_
 refine WL_ac0 (Ac_store (ys := [.int .u8 0, .slice none 0 0, .slice none 0 0]) rfl rfl sz45 (h1 := by simp [setAt, Value.cells, Value.oneCell', sl]) (hr := rfl)) rfl rfl ?_
 rintro _ _ rfl
 refine WL_r (Rd_assign rfl) rfl ?_
 refine WL_end hK5 ?_
 refine WC_ret ?_
 exact hret.go () (Rs2ct rfl rfl rfl tk45)

theorem do_ref {b m : Nat} {room tick : Int} {L : List En} {t : Int} {r : Rq} (h1 : tick ≤ t) (h2 : t ≤ 1099511627776) (hu : usedE L ≤ 1099511627776) (hno : (mayQ r && livesQ t r) = false) : Ct Try.prog 10 [.pointer (some ⟨b, 0, none⟩), .int .i64 t, .agg (eRq r).toArray] [cl b 40 [.bool true, .int .i64 room, .int .i64 tick, .int .i64 (((usedE L) : Nat) : Int), .map (some m)], mpP m kfK vfP (L.map En.kp), star (FEn 85 5) L] (fun _ : Unit => .tuple #[.agg [.int .u8 7, .slice none 0 0, .slice none 0 0].toArray, .int .i64 0]) (fun _ => [cl b 40 [.bool true, .int .i64 room, .int .i64 t, .int .i64 (((usedE (L.filterMap (tickEn t))) : Nat) : Int), .map (some m)], mpP m kfK vfP ((L.filterMap (tickEn t)).map En.kp), star (FEn 85 5) (L.filterMap (tickEn t))]) := by
 refine Ct_body (n := 59) Try.func10 rfl rfl rfl fun F w0 Q hret hnorm hp => ?_
 change WC _ _ _ _ _ _ _ (_ :: _ :: _ :: F)
 refine WC_sr fun K1 hK1 => ?_
 refine WL_ac (Ac_box (xs := eRq r) rfl rfl) rfl rfl rfl ?_
 rintro _ _ ⟨b3, rfl, rfl⟩
 refine WL_ac (Ac_alloc zr45) rfl rfl rfl ?_
 rintro _ _ ⟨b4, rfl, rfl⟩
 refine WL_r (Rd_assign rfl) rfl ?_
 refine WL_end hK1 ?_
 refine WC_seq fun K2 hK2 => ?_
 refine WC_sr fun K3 hK3 => ?_
 refine WL_r (Rd_move rfl) rfl ?_
 refine WL_r (Rd_move rfl) rfl ?_
 refine WL_ac (Ac_call cf9 rfl (hs := tick_ct (b := b) (m := m) (room := room) (tick := tick) (t1 := t) (L := L) h1 h2 hu)) rfl rfl rfl ?_
 rintro _ _ ⟨⟨⟩, rfl, hA⟩
 simp only [List.cons_append, List.nil_append] at hA
 replace hA := hA.symm
 subst hA
 refine WL_r (Rd_assign rfl) rfl ?_
 refine WL_end hK3 ?_
 refine WC_sr fun K4 hK4 => ?_
 refine WL_r (Rd_move rfl) rfl ?_
 refine WL_r (Rd_neqN (i := 0) (j := 0) rfl rfl) rfl ?_
 refine WL_end hK4 ?_
 refine WC_condF rfl ?_
 refine WC_skip ?_
 refine Ps_next hK2 ?_
 refine WC_sr fun K5 hK5 => ?_
 refine WL_r (Rd_fieldAddr rfl fo30_5) rfl ?_
 refine WL_r (Rd_fieldAddr rfl fo27_1) rfl ?_
 refine WL_r (Rd_load rfl tk3 (v := .int .i64 r.un) (hi := eRq_un r)) rfl ?_
 refine WL_r (Rd_move rfl) rfl ?_
 refine WL_r (Rd_geq rfl rfl) rfl ?_
 refine WL_r (Rd_move rfl) rfl ?_
 refine WL_bool 23 rfl (fun hg6 => ?_) (fun hg6 => ?_)
 ·try simp only [dz, ne_eq] at hg6
  refine WL_skip rfl rfl rfl ?_
  refine WL_skip rfl rfl rfl ?_
  refine WL_skip rfl rfl rfl ?_
  refine WL_skip rfl rfl rfl ?_
  refine WL_skip rfl rfl rfl ?_
  refine WL_skip rfl rfl rfl ?_
  refine WL_skip rfl rfl rfl ?_
  refine WL_skip rfl rfl rfl ?_
  refine WL_r (Rd_pickT rfl rfl) rfl ?_
  refine WL_r (Rd_assign rfl) rfl ?_
  refine WL_end hK5 ?_
  refine WC_seq fun K7 hK7 => ?_
  refine WC_sr fun K8 hK8 => ?_
  refine WL_r (Rd_loadg (vs := eRq r) rfl tk30 (hl := by rw [eRq_len]; omega) (hi := eRq_all r)) rfl ?_
  refine WL_ac (Ac_call cf29 rfl (hs := mayQ_ct (r := r))) rfl rfl rfl ?_
  rintro _ _ ⟨⟨⟩, rfl, hA⟩
  simp only [List.cons_append, List.nil_append] at hA
  replace hA := hA.symm
  subst hA
  refine WL_r (Rd_not rfl) rfl ?_
  refine WL_r (Rd_move rfl) rfl ?_
  refine WL_bool 36 rfl (fun hg9 => ?_) (fun hg9 => ?_)
  ·try simp only [dz, ne_eq] at hg9
   refine WL_skip rfl rfl rfl ?_
   refine WL_skip rfl rfl rfl ?_
   refine WL_r (Rd_pickT rfl rfl) rfl ?_
   refine WL_end hK8 ?_
   refine WC_condT rfl ?_
   refine WC_sr fun K10 hK10 => ?_
   refine WL_r (Rd_build pls45 rfl) rfl ?_
   refine WL_ac0 (Ac_store (ys := [.int .u8 7, .slice none 0 0, .slice none 0 0]) rfl rfl sz45 (h1 := by simp [setAt, Value.cells, Value.oneCell', sl]) (hr := rfl)) rfl rfl ?_
   rintro _ _ rfl
   refine WL_r (Rd_assign rfl) rfl ?_
   refine WL_end hK10 ?_
   refine WC_ret ?_
   exact hret.go () (Rs2ct rfl rfl rfl tk45)
  ·try simp only [dz, ne_eq] at hg9
   refine WL_r (Rd_move rfl) rfl ?_
   refine WL_r (Rd_not rfl) rfl ?_
   refine WL_r (Rd_pickF rfl rfl) rfl ?_
   refine WL_end hK8 ?_
   refine WC_condF rfl ?_
   (exfalso; revert hno; unfold livesQ; simp_all; done)
 ·try simp only [dz, ne_eq] at hg6
  refine WL_r (Rd_fieldAddr rfl fo30_0) rfl ?_
  refine WL_r (Rd_load rfl tk22 (v := .int .u8 ((r.kind.toNat : Nat) : Int)) (hi := eRq_kind r)) rfl ?_
  refine WL_r (Rd_neqU (b := 2#8) rfl rfl) rfl ?_
  refine WL_r (Rd_move rfl) rfl ?_
  refine WL_bool 27 rfl (fun hg11 => ?_) (fun hg11 => ?_)
  ·try simp only [dz, ne_eq] at hg11
   refine WL_r (Rd_fieldAddr rfl fo30_0) rfl ?_
   refine WL_r (Rd_load rfl tk22 (v := .int .u8 ((r.kind.toNat : Nat) : Int)) (hi := eRq_kind r)) rfl ?_
   refine WL_r (Rd_neqU (b := 4#8) rfl rfl) rfl ?_
   refine WL_r (Rd_pickT rfl rfl) rfl ?_
   refine WL_r (Rd_pickF rfl rfl) rfl ?_
   refine WL_r (Rd_assign rfl) rfl ?_
   refine WL_end hK5 ?_
   refine WC_seq fun K12 hK12 => ?_
   refine WC_sr fun K13 hK13 => ?_
   refine WL_r (Rd_loadg (vs := eRq r) rfl tk30 (hl := by rw [eRq_len]; omega) (hi := eRq_all r)) rfl ?_
   refine WL_ac (Ac_call cf29 rfl (hs := mayQ_ct (r := r))) rfl rfl rfl ?_
   rintro _ _ ⟨⟨⟩, rfl, hA⟩
   simp only [List.cons_append, List.nil_append] at hA
   replace hA := hA.symm
   subst hA
   refine WL_r (Rd_not rfl) rfl ?_
   refine WL_r (Rd_move rfl) rfl ?_
   refine WL_bool 36 rfl (fun hg14 => ?_) (fun hg14 => ?_)
   ·try simp only [dz, ne_eq] at hg14
    refine WL_skip rfl rfl rfl ?_
    refine WL_skip rfl rfl rfl ?_
    refine WL_r (Rd_pickT rfl rfl) rfl ?_
    refine WL_end hK13 ?_
    refine WC_condT rfl ?_
    refine WC_sr fun K15 hK15 => ?_
    refine WL_r (Rd_build pls45 rfl) rfl ?_
    refine WL_ac0 (Ac_store (ys := [.int .u8 7, .slice none 0 0, .slice none 0 0]) rfl rfl sz45 (h1 := by simp [setAt, Value.cells, Value.oneCell', sl]) (hr := rfl)) rfl rfl ?_
    rintro _ _ rfl
    refine WL_r (Rd_assign rfl) rfl ?_
    refine WL_end hK15 ?_
    refine WC_ret ?_
    exact hret.go () (Rs2ct rfl rfl rfl tk45)
   ·try simp only [dz, ne_eq] at hg14
    refine WL_r (Rd_move rfl) rfl ?_
    refine WL_r (Rd_not rfl) rfl ?_
    refine WL_r (Rd_pickF rfl rfl) rfl ?_
    refine WL_end hK13 ?_
    refine WC_cond rfl (fun hc1 => ?_) (fun hc1 => ?_)
    ·try simp only [dz, ne_eq] at hc1
     refine WC_sr fun K16 hK16 => ?_
     refine WL_r (Rd_build pls45 rfl) rfl ?_
     refine WL_ac0 (Ac_store (ys := [.int .u8 7, .slice none 0 0, .slice none 0 0]) rfl rfl sz45 (h1 := by simp [setAt, Value.cells, Value.oneCell', sl]) (hr := rfl)) rfl rfl ?_
     rintro _ _ rfl
     refine WL_r (Rd_assign rfl) rfl ?_
     refine WL_end hK16 ?_
     refine WC_ret ?_
     exact hret.go () (Rs2ct rfl rfl rfl tk45)
    ·try simp only [dz, ne_eq] at hc1
     (exfalso; revert hno; unfold livesQ; simp_all; done)
  ·try simp only [dz, ne_eq] at hg11
   refine WL_skip rfl rfl rfl ?_
   refine WL_skip rfl rfl rfl ?_
   refine WL_skip rfl rfl rfl ?_
   refine WL_r (Rd_pickF rfl rfl) rfl ?_
   refine WL_r (Rd_pickF rfl rfl) rfl ?_
   refine WL_r (Rd_assign rfl) rfl ?_
   refine WL_end hK5 ?_
   refine WC_seq fun K17 hK17 => ?_
   refine WC_sr fun K18 hK18 => ?_
   refine WL_r (Rd_loadg (vs := eRq r) rfl tk30 (hl := by rw [eRq_len]; omega) (hi := eRq_all r)) rfl ?_
   refine WL_ac (Ac_call cf29 rfl (hs := mayQ_ct (r := r))) rfl rfl rfl ?_
   rintro _ _ ⟨⟨⟩, rfl, hA⟩
   simp only [List.cons_append, List.nil_append] at hA
   replace hA := hA.symm
   subst hA
   refine WL_r (Rd_not rfl) rfl ?_
   refine WL_r (Rd_move rfl) rfl ?_
   refine WL_bool 36 rfl (fun hg19 => ?_) (fun hg19 => ?_)
   ·try simp only [dz, ne_eq] at hg19
    refine WL_skip rfl rfl rfl ?_
    refine WL_skip rfl rfl rfl ?_
    refine WL_r (Rd_pickT rfl rfl) rfl ?_
    refine WL_end hK18 ?_
    refine WC_condT rfl ?_
    refine WC_sr fun K20 hK20 => ?_
    refine WL_r (Rd_build pls45 rfl) rfl ?_
    refine WL_ac0 (Ac_store (ys := [.int .u8 7, .slice none 0 0, .slice none 0 0]) rfl rfl sz45 (h1 := by simp [setAt, Value.cells, Value.oneCell', sl]) (hr := rfl)) rfl rfl ?_
    rintro _ _ rfl
    refine WL_r (Rd_assign rfl) rfl ?_
    refine WL_end hK20 ?_
    refine WC_ret ?_
    exact hret.go () (Rs2ct rfl rfl rfl tk45)
   ·try simp only [dz, ne_eq] at hg19
    refine WL_r (Rd_move rfl) rfl ?_
    refine WL_r (Rd_not rfl) rfl ?_
    refine WL_r (Rd_pickF rfl rfl) rfl ?_
    refine WL_end hK18 ?_
    refine WC_condT rfl ?_
    refine WC_sr fun K21 hK21 => ?_
    refine WL_r (Rd_build pls45 rfl) rfl ?_
    refine WL_ac0 (Ac_store (ys := [.int .u8 7, .slice none 0 0, .slice none 0 0]) rfl rfl sz45 (h1 := by simp [setAt, Value.cells, Value.oneCell', sl]) (hr := rfl)) rfl rfl ?_
    rintro _ _ rfl
    refine WL_r (Rd_assign rfl) rfl ?_
    refine WL_end hK21 ?_
    refine WC_ret ?_
    exact hret.go () (Rs2ct rfl rfl rfl tk45)
end Go.Proofs.Ytoakfknnaiapiaa
namespace Go.Proofs.Ytoakfknnaiapiaa
open Go.RowKit Go.SL Go.ShM Go.SvM
set_option maxHeartbeats 1000000
set_option maxRecDepth 20000
set_option linter.all false
theorem ud89 : Try.prog.underlying 89 = some (.map 22 88) := by kernel_rfl
theorem do_run {b m : Nat} {room tick : Int} {L : List En} {t : Int} {r : Rq} {Y : Asn} {rp : Rp} {l2 : List Kp} (h1 : tick ≤ t) (h2 : t ≤ 1099511627776) (hw : Wf room ⟨tick, L.map En.e⟩) (hyes : (mayQ r && livesQ t r) = true) (hB : Sv [Y] r.b.v 1 (eU .u8 (w := 8)) r.b.l r.b.ao r.b.cap) (hn : L.length ≤ 100000000) (hd : doM room (tickL t (L.map En.e)) r = (rp, l2)) : Ct Try.prog 10 [.pointer (some ⟨b, 0, none⟩), .int .i64 t, .agg (eRq r).toArray] [cl b 40 [.bool true, .int .i64 room, .int .i64 tick, .int .i64 (((usedE L) : Nat) : Int), .map (some m)], mpP m kfK vfP (L.map En.kp), star (FEn 85 5) L, Y] (fun g : {g : List En × (Option Nat × Nat) × (Option Nat × Nat) // g.1.map En.e = l2} => .tuple #[.agg [.int .u8 rp.kind, sl g.1.2.1.1 rp.ns.length g.1.2.1.2, sl g.1.2.2.1 rp.bs.length g.1.2.2.2].toArray, .int .i64 0]) (fun g => [cl b 40 [.bool true, .int .i64 room, .int .i64 t, .int .i64 (((usedE g.1.1) : Nat) : Int), .map (some m)], mpP m kfK vfP (g.1.1.map En.kp), star (FEn 85 5) g.1.1, Y, arr g.1.2.1.1 g.1.2.1.2 1 3 eI rp.ns, arr g.1.2.2.1 g.1.2.2.2 1 5 (eU .u8 (w := 8)) rp.bs]) := by
 refine Ct_body (n := 59) Try.func10 rfl rfl rfl fun F w0 Q hret hnorm hp => ?_
 change WC _ _ _ _ _ _ _ (_ :: _ :: _ :: _ :: F)
 have hu : usedE L ≤ 1099511627776 := by have q1 : (usedE L : Int) ≤ room := hw.used; have q2 := hw.rm; omega
 have hw2 : Wf room ⟨t, (L.filterMap (tickEn t)).map En.e⟩ := by rw [tickEn_e]; exact hw.tick h1 h2
 have hmay := mayQ_may (Bool.and_eq_true_iff.1 hyes).1
 have hn2 : (L.filterMap (tickEn t)).length ≤ 100000000 := Nat.le_trans (List.length_filterMap_le _ _) hn
 rw [← tickEn_e] at hd
 refine WC_sr fun K1 hK1 => ?_
 refine WL_ac (Ac_box (xs := eRq r) rfl rfl) rfl rfl rfl ?_
 rintro _ _ ⟨b3, rfl, rfl⟩
 refine WL_ac (Ac_alloc zr45) rfl rfl rfl ?_
 rintro _ _ ⟨b4, rfl, rfl⟩
 refine WL_r (Rd_assign rfl) rfl ?_
 refine WL_end hK1 ?_
 refine WC_seq fun K2 hK2 => ?_
 refine WC_sr fun K3 hK3 => ?_
 refine WL_r (Rd_move rfl) rfl ?_
 refine WL_r (Rd_move rfl) rfl ?_
 refine WL_ac (Ac_call cf9 rfl (hs := tick_ct (b := b) (m := m) (room := room) (tick := tick) (t1 := t) (L := L) h1 h2 hu)) rfl rfl rfl ?_
 rintro _ _ ⟨⟨⟩, rfl, hA⟩
 simp only [List.cons_append, List.nil_append] at hA
 replace hA := hA.symm
 subst hA
 refine WL_r (Rd_assign rfl) rfl ?_
 refine WL_end hK3 ?_
 refine WC_sr fun K4 hK4 => ?_
 refine WL_r (Rd_move rfl) rfl ?_
 refine WL_r (Rd_neqN (i := 0) (j := 0) rfl rfl) rfl ?_
 refine WL_end hK4 ?_
 refine WC_condF rfl ?_
 refine WC_skip ?_
 refine Ps_next hK2 ?_
 refine WC_sr fun K5 hK5 => ?_
 refine WL_r (Rd_fieldAddr rfl fo30_5) rfl ?_
 refine WL_r (Rd_fieldAddr rfl fo27_1) rfl ?_
 refine WL_r (Rd_load rfl tk3 (v := .int .i64 r.un) (hi := eRq_un r)) rfl ?_
 refine WL_r (Rd_move rfl) rfl ?_
 refine WL_r (Rd_geq rfl rfl) rfl ?_
 refine WL_r (Rd_move rfl) rfl ?_
 refine WL_bool 23 rfl (fun hg6 => ?_) (fun hg6 => ?_)
 ·try simp only [dz, ne_eq] at hg6
  refine WL_skip rfl rfl rfl ?_
  refine WL_skip rfl rfl rfl ?_
  refine WL_skip rfl rfl rfl ?_
  refine WL_skip rfl rfl rfl ?_
  refine WL_skip rfl rfl rfl ?_
  refine WL_skip rfl rfl rfl ?_
  refine WL_skip rfl rfl rfl ?_
  refine WL_skip rfl rfl rfl ?_
  refine WL_r (Rd_pickT rfl rfl) rfl ?_
  refine WL_r (Rd_assign rfl) rfl ?_
  refine WL_end hK5 ?_
  refine WC_seq fun K7 hK7 => ?_
  refine WC_sr fun K8 hK8 => ?_
  refine WL_r (Rd_loadg (vs := eRq r) rfl tk30 (hl := by rw [eRq_len]; omega) (hi := eRq_all r)) rfl ?_
  refine WL_ac (Ac_call cf29 rfl (hs := mayQ_ct (r := r))) rfl rfl rfl ?_
  rintro _ _ ⟨⟨⟩, rfl, hA⟩
  simp only [List.cons_append, List.nil_append] at hA
  replace hA := hA.symm
  subst hA
  refine WL_r (Rd_not rfl) rfl ?_
  refine WL_r (Rd_move rfl) rfl ?_
  refine WL_bool 36 rfl (fun hg9 => ?_) (fun hg9 => ?_)
  ·try simp only [dz, ne_eq] at hg9
   refine WL_skip rfl rfl rfl ?_
   refine WL_skip rfl rfl rfl ?_
   refine WL_r (Rd_pickT rfl rfl) rfl ?_
   refine WL_end hK8 ?_
   refine WC_condT rfl ?_
   (exfalso; revert hyes; unfold livesQ; simp_all; done)
  ·try simp only [dz, ne_eq] at hg9
   refine WL_r (Rd_move rfl) rfl ?_
   refine WL_r (Rd_not rfl) rfl ?_
   refine WL_r (Rd_pickF rfl rfl) rfl ?_
   refine WL_end hK8 ?_
   refine WC_condF rfl ?_
   refine WC_skip ?_
   refine Ps_next hK7 ?_
   refine WC_sr fun K10 hK10 => ?_
   refine WL_ac (Ac_makeP kfB (vfF b)) rfl rfl rfl ?_
   rintro _ _ ⟨m41, rfl, rfl⟩
   refine WL_r (Rd_move rfl) rfl ?_
   refine WL_r (Rd_makeFunc rfl rfl) rfl ?_
   refine WL_ac0 (Ac_insP (vf := vfF b) (k := 1#8) 30 keyB rfl rfl rfl ud89) rfl rfl ?_
   rintro _ _ rfl
   refine WL_r (Rd_move rfl) rfl ?_
   refine WL_r (Rd_makeFunc rfl rfl) rfl ?_
   refine WL_ac0 (Ac_insP (vf := vfF b) (k := 2#8) 31 keyB rfl rfl rfl ud89) rfl rfl ?_
   rintro _ _ rfl
   refine WL_r (Rd_move rfl) rfl ?_
   refine WL_r (Rd_makeFunc rfl rfl) rfl ?_
   refine WL_ac0 (Ac_insP (vf := vfF b) (k := 3#8) 32 keyB rfl rfl rfl ud89) rfl rfl ?_
   rintro _ _ rfl
   refine WL_r (Rd_move rfl) rfl ?_
   refine WL_r (Rd_makeFunc rfl rfl) rfl ?_
   refine WL_ac0 (Ac_insP (vf := vfF b) (k := 4#8) 33 keyB rfl rfl rfl ud89) rfl rfl ?_
   rintro _ _ rfl
   refine WL_r (Rd_move rfl) rfl ?_
   refine WL_r (Rd_makeFunc rfl rfl) rfl ?_
   refine WL_ac0 (Ac_insP (vf := vfF b) (k := 5#8) 34 keyB rfl rfl rfl ud89) rfl rfl ?_
   rintro _ _ rfl
   refine WL_r (Rd_move rfl) rfl ?_
   refine WL_r (Rd_assign rfl) rfl ?_
   refine WL_end hK10 ?_
   refine WC_sr fun K11 hK11 => ?_
   refine WL_r (Rd_move rfl) rfl ?_
   refine WL_r (Rd_fieldAddr rfl fo30_0) rfl ?_
   refine WL_r (Rd_load rfl tk22 (v := .int .u8 ((r.kind.toNat : Nat) : Int)) (hi := eRq_kind r)) rfl ?_
   refine WL_r (Rd_valE (v := vfF b (methF r.kind)) (Rd_lookP1 keyB rfl rfl ud89 zvF) (by show ((getL r.kind doL).map (vfF b)).getD .nilFunc = _; rw [doL_get hmay]; rfl)) rfl ?_
   refine WL_r (Rd_loadg (vs := eRq r) rfl tk30 (hl := by rw [eRq_len]; omega) (hi := eRq_all r)) rfl ?_
   refine WL_ac (Ac_callm (first := [.pointer (some ⟨b, 0, none⟩)]) (caps := []) rfl (doL_fn hmay) rfl rfl rfl rfl (hs := meth_ct (b := b) (m := m) (Y := Y) hw2 hmay hB hn2 hd)) rfl rfl rfl ?_
   rintro _ _ ⟨⟨⟨L2, ⟨na, nc⟩, ⟨ba, bc⟩⟩, hL2⟩, rfl, hA⟩
   simp only [List.cons_append, List.nil_append] at hA
   replace hA := hA.symm
   subst hA
   refine WL_ac0 (Ac_store (ys := [.int .u8 rp.kind, sl na rp.ns.length nc, sl ba rp.bs.length bc]) rfl rfl sz45 (h1 := by simp [setAt, Value.cells, Value.oneCell', sl]) (hr := rfl)) rfl rfl ?_
   rintro _ _ rfl
   refine WL_r (Rd_assign rfl) rfl ?_
   refine WL_end hK11 ?_
   refine WC_ret ?_
   exact hret.go ⟨(L2, (na, nc), (ba, bc)), hL2⟩ (Rs2ct rfl rfl rfl tk45)
 ·try simp only [dz, ne_eq] at hg6
  refine WL_r (Rd_fieldAddr rfl fo30_0) rfl ?_
  refine WL_r (Rd_load rfl tk22 (v := .int .u8 ((r.kind.toNat : Nat) : Int)) (hi := eRq_kind r)) rfl ?_
  refine WL_r (Rd_neqU (b := 2#8) rfl rfl) rfl ?_
  refine WL_r (Rd_move rfl) rfl ?_
  refine WL_bool 27 rfl (fun hg12 => ?_) (fun hg12 => ?_)
  ·try simp only [dz, ne_eq] at hg12
   refine WL_r (Rd_fieldAddr rfl fo30_0) rfl ?_
   refine WL_r (Rd_load rfl tk22 (v := .int .u8 ((r.kind.toNat : Nat) : Int)) (hi := eRq_kind r)) rfl ?_
   refine WL_r (Rd_neqU (b := 4#8) rfl rfl) rfl ?_
   refine WL_r (Rd_pickT rfl rfl) rfl ?_
   refine WL_r (Rd_pickF rfl rfl) rfl ?_
   refine WL_r (Rd_assign rfl) rfl ?_
   refine WL_end hK5 ?_
   refine WC_seq fun K13 hK13 => ?_
   refine WC_sr fun K14 hK14 => ?_
   refine WL_r (Rd_loadg (vs := eRq r) rfl tk30 (hl := by rw [eRq_len]; omega) (hi := eRq_all r)) rfl ?_
   refine WL_ac (Ac_call cf29 rfl (hs := mayQ_ct (r := r))) rfl rfl rfl ?_
   rintro _ _ ⟨⟨⟩, rfl, hA⟩
   simp only [List.cons_append, List.nil_append] at hA
   replace hA := hA.symm
   subst hA
   refine WL_r (Rd_not rfl) rfl ?_
   refine WL_r (Rd_move rfl) rfl ?_
   refine WL_bool 36 rfl (fun hg15 => ?_) (fun hg15 => ?_)
   ·try simp only [dz, ne_eq] at hg15
    refine WL_skip rfl rfl rfl ?_
    refine WL_skip rfl rfl rfl ?_
    refine WL_r (Rd_pickT rfl rfl) rfl ?_
    refine WL_end hK14 ?_
    refine WC_condT rfl ?_
    (exfalso; revert hyes; unfold livesQ; simp_all; done)
   ·try simp only [dz, ne_eq] at hg15
    refine WL_r (Rd_move rfl) rfl ?_
    refine WL_r (Rd_not rfl) rfl ?_
    refine WL_r (Rd_pickF rfl rfl) rfl ?_
    refine WL_end hK14 ?_
    refine WC_cond rfl (fun hc1 => ?_) (fun hc1 => ?_)
    ·try simp only [dz, ne_eq] at hc1
     (exfalso; revert hyes; unfold livesQ; simp_all; done)
    ·try simp only [dz, ne_eq] at hc1
     refine WC_skip ?_
     refine Ps_next hK13 ?_
     refine WC_sr fun K16 hK16 => ?_
     refine WL_ac (Ac_makeP kfB (vfF b)) rfl rfl rfl ?_
     rintro _ _ ⟨m41, rfl, rfl⟩
     refine WL_r (Rd_move rfl) rfl ?_
     refine WL_r (Rd_makeFunc rfl rfl) rfl ?_
     refine WL_ac0 (Ac_insP (vf := vfF b) (k := 1#8) 30 keyB rfl rfl rfl ud89) rfl rfl ?_
     rintro _ _ rfl
     refine WL_r (Rd_move rfl) rfl ?_
     refine WL_r (Rd_makeFunc rfl rfl) rfl ?_
     refine WL_ac0 (Ac_insP (vf := vfF b) (k := 2#8) 31 keyB rfl rfl rfl ud89) rfl rfl ?_
     rintro _ _ rfl
     refine WL_r (Rd_move rfl) rfl ?_
     refine WL_r (Rd_makeFunc rfl rfl) rfl ?_
     refine WL_ac0 (Ac_insP (vf := vfF b) (k := 3#8) 32 keyB rfl rfl rfl ud89) rfl rfl ?_
     rintro _ _ rfl
     refine WL_r (Rd_move rfl) rfl ?_
     refine WL_r (Rd_makeFunc rfl rfl) rfl ?_
     refine WL_ac0 (Ac_insP (vf := vfF b) (k := 4#8) 33 keyB rfl rfl rfl ud89) rfl rfl ?_
     rintro _ _ rfl
     refine WL_r (Rd_move rfl) rfl ?_
     refine WL_r (Rd_makeFunc rfl rfl) rfl ?_
     refine WL_ac0 (Ac_insP (vf := vfF b) (k := 5#8) 34 keyB rfl rfl rfl ud89) rfl rfl ?_
     rintro _ _ rfl
     refine WL_r (Rd_move rfl) rfl ?_
     refine WL_r (Rd_assign rfl) rfl ?_
     refine WL_end hK16 ?_
     refine WC_sr fun K17 hK17 => ?_
     refine WL_r (Rd_move rfl) rfl ?_
     refine WL_r (Rd_fieldAddr rfl fo30_0) rfl ?_
     refine WL_r (Rd_load rfl tk22 (v := .int .u8 ((r.kind.toNat : Nat) : Int)) (hi := eRq_kind r)) rfl ?_
     refine WL_r (Rd_valE (v := vfF b (methF r.kind)) (Rd_lookP1 keyB rfl rfl ud89 zvF) (by show ((getL r.kind doL).map (vfF b)).getD .nilFunc = _; rw [doL_get hmay]; rfl)) rfl ?_
     refine WL_r (Rd_loadg (vs := eRq r) rfl tk30 (hl := by rw [eRq_len]; omega) (hi := eRq_all r)) rfl ?_
     refine WL_ac (Ac_callm (first := [.pointer (some ⟨b, 0, none⟩)]) (caps := []) rfl (doL_fn hmay) rfl rfl rfl rfl (hs := meth_ct (b := b) (m := m) (Y := Y) hw2 hmay hB hn2 hd)) rfl rfl rfl ?_
     rintro _ _ ⟨⟨⟨L2, ⟨na, nc⟩, ⟨ba, bc⟩⟩, hL2⟩, rfl, hA⟩
     simp only [List.cons_append, List.nil_append] at hA
     replace hA := hA.symm
     subst hA
     refine WL_ac0 (Ac_store (ys := [.int .u8 rp.kind, sl na rp.ns.length nc, sl ba rp.bs.length bc]) rfl rfl sz45 (h1 := by simp [setAt, Value.cells, Value.oneCell', sl]) (hr := rfl)) rfl rfl ?_
     rintro _ _ rfl
     refine WL_r (Rd_assign rfl) rfl ?_
     refine WL_end hK17 ?_
     refine WC_ret ?_
     exact hret.go ⟨(L2, (na, nc), (ba, bc)), hL2⟩ (Rs2ct rfl rfl rfl tk45)
  ·try simp only [dz, ne_eq] at hg12
   refine WL_skip rfl rfl rfl ?_
   refine WL_skip rfl rfl rfl ?_
   refine WL_skip rfl rfl rfl ?_
   refine WL_r (Rd_pickF rfl rfl) rfl ?_
   refine WL_r (Rd_pickF rfl rfl) rfl ?_
   refine WL_r (Rd_assign rfl) rfl ?_
   refine WL_end hK5 ?_
   refine WC_seq fun K18 hK18 => ?_
   refine WC_sr fun K19 hK19 => ?_
   refine WL_r (Rd_loadg (vs := eRq r) rfl tk30 (hl := by rw [eRq_len]; omega) (hi := eRq_all r)) rfl ?_
   refine WL_ac (Ac_call cf29 rfl (hs := mayQ_ct (r := r))) rfl rfl rfl ?_
   rintro _ _ ⟨⟨⟩, rfl, hA⟩
   simp only [List.cons_append, List.nil_append] at hA
   replace hA := hA.symm
   subst hA
   refine WL_r (Rd_not rfl) rfl ?_
   refine WL_r (Rd_move rfl) rfl ?_
   refine WL_bool 36 rfl (fun hg20 => ?_) (fun hg20 => ?_)
   ·try simp only [dz, ne_eq] at hg20
    refine WL_skip rfl rfl rfl ?_
    refine WL_skip rfl rfl rfl ?_
    refine WL_r (Rd_pickT rfl rfl) rfl ?_
    refine WL_end hK19 ?_
    refine WC_condT rfl ?_
    (exfalso; revert hyes; unfold livesQ; simp_all; done)
   ·try simp only [dz, ne_eq] at hg20
    refine WL_r (Rd_move rfl) rfl ?_
    refine WL_r (Rd_not rfl) rfl ?_
    refine WL_r (Rd_pickF rfl rfl) rfl ?_
    refine WL_end hK19 ?_
    refine WC_condT rfl ?_
    (exfalso; revert hyes; unfold livesQ; simp_all; done)
end Go.Proofs.Ytoakfknnaiapiaa
namespace Go.Proofs.Ytoakfknnaiapiaa
open Go.RowKit Go.SL Go.ShM Go.SvM
set_option maxHeartbeats 1000000
set_option maxRecDepth 20000
set_option linter.all false

theorem do_ct {b m : Nat} {room tick t : Int} {L : List En} {r : Rq} {Y : Asn} {rp : Rp} {er : Int} {s2 : Sv1} (hw : Wf room ⟨tick, L.map En.e⟩) (hB : Sv [Y] r.b.v 1 (eU .u8 (w := 8)) r.b.l r.b.ao r.b.cap) (hn : L.length ≤ 100000000) (hc : callM room ⟨tick, L.map En.e⟩ t r = (rp, er, s2)) :
    Ct Try.prog 10 [.pointer (some ⟨b, 0, none⟩), .int .i64 t, .agg (eRq r).toArray] [cl b 40 [.bool true, .int .i64 room, .int .i64 tick, .int .i64 (((usedE L) : Nat) : Int), .map (some m)], mpP m kfK vfP (L.map En.kp), star (FEn 85 5) L, Y] (fun g : {g : List En × (Option Nat × Nat) × (Option Nat × Nat) // g.1.map En.e = s2.l} => .tuple #[.agg [.int .u8 rp.kind, sl g.1.2.1.1 rp.ns.length g.1.2.1.2, sl g.1.2.2.1 rp.bs.length g.1.2.2.2].toArray, .int .i64 er]) (fun g => [cl b 40 [.bool true, .int .i64 room, .int .i64 s2.tick, .int .i64 (((usedE g.1.1) : Nat) : Int), .map (some m)], mpP m kfK vfP (g.1.1.map En.kp), star (FEn 85 5) g.1.1, Y, arr g.1.2.1.1 g.1.2.1.2 1 3 eI rp.ns, arr g.1.2.2.1 g.1.2.2.2 1 5 (eU .u8 (w := 8)) rp.bs]) := by
  unfold callM at hc
  by_cases h : t < tick ∨ 1099511627776 < t
  · rw [if_pos h] at hc
    cases hc
    exact Ct_re ((do_no h).frame [Y]) (fun g => ⟨(L, (none, 0), (none, 0)), rfl⟩) (fun g => rfl) (fun g F w h => by
        simp only [List.cons_append, List.nil_append] at h ⊢
        exact sat_perm (show Gv _ [cl b 40 [.bool true, .int .i64 room, .int .i64 tick, .int .i64 (((usedE L) : Nat) : Int), .map (some m)], mpP m kfK vfP (L.map En.kp), star (FEn 85 5) L, Y, arr none 0 1 3 eI [], arr none 0 1 5 (eU .u8 (w := 8)) []] F from gvA) (sat_nil (e := 1) (T := 5) (f := (eU .u8 (w := 8))) (sat_nil (e := 1) (T := 3) (f := eI) h)))
  · rw [if_neg h] at hc
    simp only at hc
    have h1 : tick ≤ t := by omega
    have h2 : t ≤ 1099511627776 := by omega
    have hu : usedE L ≤ 1099511627776 := by have q1 : (usedE L : Int) ≤ room := hw.used; have q2 := hw.rm; omega
    by_cases h3 : (mayQ r && livesQ t r) = true
    · rw [if_pos h3] at hc
      cases hc
      exact do_run h1 h2 hw h3 hB hn rfl
    · rw [if_neg h3] at hc
      cases hc
      exact Ct_re ((do_ref h1 h2 hu (by simpa using h3)).frame [Y]) (fun g => ⟨((L.filterMap (tickEn t)), (none, 0), (none, 0)), tickEn_e _ _⟩) (fun g => rfl) (fun g F w h => by
        simp only [List.cons_append, List.nil_append] at h ⊢
        exact sat_perm (show Gv _ [cl b 40 [.bool true, .int .i64 room, .int .i64 t, .int .i64 (((usedE (L.filterMap (tickEn t))) : Nat) : Int), .map (some m)], mpP m kfK vfP ((L.filterMap (tickEn t)).map En.kp), star (FEn 85 5) (L.filterMap (tickEn t)), Y, arr none 0 1 3 eI [], arr none 0 1 5 (eU .u8 (w := 8)) []] F from gvA) (sat_nil (e := 1) (T := 5) (f := (eU .u8 (w := 8))) (sat_nil (e := 1) (T := 3) (f := eI) h)))

theorem used_ct {b m : Nat} {room tick : Int} {u : Nat}  : Ct Try.prog 13 [.pointer (some ⟨b, 0, none⟩)] [cl b 40 [.bool true, .int .i64 room, .int .i64 tick, .int .i64 ((u : Nat) : Int), .map (some m)]] (fun _ : Unit => .int .i64 ((u : Nat) : Int)) (fun _ => [cl b 40 [.bool true, .int .i64 room, .int .i64 tick, .int .i64 ((u : Nat) : Int), .map (some m)]]) := by
 refine Ct_body (n := 10) Try.func13 rfl rfl rfl fun F w0 Q hret hnorm hp => ?_
 change WC _ _ _ _ _ _ _ (_ :: F)
 refine WC_sr fun K1 hK1 => ?_
 refine WL_r (Rd_assign rfl) rfl ?_
 refine WL_end hK1 ?_
 refine WC_seq fun K2 hK2 => ?_
 refine WC_sr fun K3 hK3 => ?_
 refine WL_r (Rd_move rfl) rfl ?_
 refine WL_ac (Ac_call cf27 rfl (hs := ready_ct)) rfl rfl rfl ?_
 rintro _ _ ⟨⟨⟩, rfl, hA⟩
 simp only [List.cons_append, List.nil_append] at hA
 replace hA := hA.symm
 subst hA
 refine WL_r (Rd_not rfl) rfl ?_
 refine WL_end hK3 ?_
 refine WC_condF rfl ?_
 refine WC_skip ?_
 refine Ps_next hK2 ?_
 refine WC_sr fun K4 hK4 => ?_
 refine WL_r (Rd_move rfl) rfl ?_
 refine WL_r (Rd_nilCheck rfl) rfl ?_
 refine WL_r (Rd_fieldAddr rfl fo40_3) rfl ?_
 refine WL_r (Rd_load rfl tk3) rfl ?_
 refine WL_r (Rd_assign rfl) rfl ?_
 refine WL_end hK4 ?_
 refine WC_ret ?_
 exact hret.go () (Rs1 rfl rfl)
end Go.Proofs.Ytoakfknnaiapiaa
namespace Go.Proofs.Ytoakfknnaiapiaa
open Go.RowKit Go.SL Go.ShM Go.SvM Go.Proofs Go.Shelf Go.Sort Go.Lib
set_option maxHeartbeats 1000000
set_option maxRecDepth 20000
set_option linter.all false
theorem cf39 : cfn Try.prog 39 = true := by kernel_rfl
theorem cf55 : cfn Try.prog 55 = true := by kernel_rfl
theorem ud24 : Try.prog.underlying 24 = some (.array 16 5) := by kernel_rfl
theorem cmpE : ∀ (args : Array Value) (w : World), (callFunc 64 args).run Try.prog w = ((Extern.BytealgCompare.compare args).run Try.prog w).andThen fun v w' => .ok (.value v) w' := fun args w => run_callFunc_extern Try.func64 (by kernel_rfl) (by kernel_rfl) (by kernel_rfl) (e := Extern.BytealgCompare.compare) (by kernel_rfl) args w

theorem cmpB_ct {X : Asn} {v v' : Value} {l l' : List B8} {ao ao' : Option Addr} {cap cap' : Nat} (hS : Sv [X] v 1 (eU .u8 (w := 8)) l ao cap := by assumption) (hS' : Sv [X] v' 1 (eU .u8 (w := 8)) l' ao' cap' := by assumption) : Ct Try.prog 55 [v, v'] [X] (fun _ : Unit => .int .i64 (Extern.BytealgCompare.cmp (ba l) (ba l'))) (fun _ => [X]) := by
 refine Ct_body (n := 8) Try.func55 rfl rfl rfl fun F w0 Q hret hnorm hp => ?_
 change WC _ _ _ _ _ _ _ (_ :: F)
 refine WC_sr fun K1 hK1 => ?_
 refine WL_r (Rd_assign rfl) rfl ?_
 refine WL_end hK1 ?_
 refine WC_sr fun K2 hK2 => ?_
 refine WL_r (Rd_move rfl) rfl ?_
 refine WL_r (Rd_move rfl) rfl ?_
 refine WL_ac (Ac_cmpB cmpE rfl) rfl rfl rfl ?_
 rintro _ _ ⟨rfl, rfl⟩
 refine WL_r (Rd_assign rfl) rfl ?_
 refine WL_end hK2 ?_
 refine WC_ret ?_
 exact hret.go () (Rs1 rfl rfl)

theorem ahead_ct {x y : Ky} (hx : 0 ≤ x.2 ∧ x.2 < 255) (hy : 0 ≤ y.2 ∧ y.2 < 255) : Ct Try.prog 39 [kfK x, kfK y] [] (fun _ : Unit => .int .i64 (cfK x y)) (fun _ => []) := by
 refine Ct_body (n := 19) Try.func39 rfl rfl rfl fun F w0 Q hret hnorm hp => ?_
 change WC _ _ _ _ _ _ _ (F)
 refine WC_sr fun K1 hK1 => ?_
 refine WL_ac (Ac_box (xs := kcK x) rfl rfl) rfl rfl rfl ?_
 rintro _ _ ⟨b2, rfl, rfl⟩
 refine WL_ac (Ac_box (xs := kcK y) rfl rfl) rfl rfl rfl ?_
 rintro _ _ ⟨b3, rfl, rfl⟩
 refine WL_r (Rd_assign rfl) rfl ?_
 refine WL_end hK1 ?_
 refine WC_seq fun K2 hK2 => ?_
 refine WC_seq fun K3 hK3 => ?_
 refine WC_drawA mix (fun i => ([2, 2, 2, 2, 1, 2] : List Nat).getD i 0) ?_
 refine WJ_tp 0 rfl (Rd_fieldAddr rfl fo81_0) rfl (hp _ _) ?_
 refine WJ_tp 1 rfl (Rd_sliceA0 rfl ud24 sz5) rfl (hp _ _) ?_
 refine WJ_tp 2 rfl (Rd_fieldAddr rfl fo81_0) rfl (hp _ _) ?_
 refine WJ_tp 3 rfl (Rd_sliceA0 rfl ud24 sz5) rfl (hp _ _) ?_
 refine WJ_all (rs := [4]) (by kernel_rfl) rfl ?_
 refine WI_one ?_
 refine WI_ac rfl (Ac_call cf55 rfl (hs := Ct.un0 (Xs := [cl b2 81 (kcK x), cl b3 81 (kcK y)]) (cmpB_ct (X := sep [cl b2 81 (kcK x), cl b3 81 (kcK y)]) (l := x.1.l) (l' := y.1.l) (hS := (Sv_key (b := b2) (T := 81) (k := x)).pk hasA) (hS' := (Sv_key (b := b3) (T := 81) (k := y)).pk hasA)))) rfl rfl rfl rfl ?_
 rintro _ _ ⟨⟨⟩, rfl, hA⟩
 simp only [List.cons_append, List.nil_append] at hA
 replace hA := hA.symm
 subst hA
 refine ⟨(fun _ => subA), ?_⟩
 refine WJ_tp 5 rfl (Rd_assign rfl) rfl (hp _ _) ?_
 refine WJ_done (by kernel_rfl) ?_
 refine Ps_next hK3 ?_
 refine WC_sr fun K4 hK4 => ?_
 refine WL_r (Rd_move rfl) rfl ?_
 refine WL_r (Rd_neq rfl rfl) rfl ?_
 refine WL_end hK4 ?_
 refine WC_cond rfl (fun hc0 => ?_) (fun hc0 => ?_)
 ·try simp only [dz, ne_eq] at hc0
  refine WC_sr fun K5 hK5 => ?_
  refine WL_r (Rd_move rfl) rfl ?_
  refine WL_r (Rd_assign rfl) rfl ?_
  refine WL_end hK5 ?_
  refine WC_ret ?_
  exact hret.goE () (Rs1 rfl rfl) (by unfold cfK; first | rw [if_pos (by omega)] | rw [if_neg (by omega)])
 ·try simp only [dz, ne_eq] at hc0
  refine WC_skip ?_
  refine Ps_next hK2 ?_
  refine WC_sr fun K6 hK6 => ?_
  refine WL_r (Rd_fieldAddr rfl fo81_1) rfl ?_
  refine WL_r (Rd_load rfl tk3 (v := .int .i64 x.2) (hi := kcK_num x)) rfl ?_
  refine WL_r (Rd_fieldAddr rfl fo81_1) rfl ?_
  refine WL_r (Rd_load rfl tk3 (v := .int .i64 y.2) (hi := kcK_num y)) rfl ?_
  refine WL_r (Rd_sub' rfl rfl (wr64 rfl (by omega) (by omega))) rfl ?_
  refine WL_r (Rd_assign rfl) rfl ?_
  refine WL_end hK6 ?_
  refine WC_ret ?_
  exact hret.goE () (Rs1 rfl rfl) (by unfold cfK; first | rw [if_pos (by omega)] | rw [if_neg (by omega)])

theorem sortKy_ct {a : Option Nat} {cap : Nat} {L : List Kp} {ks : List Ky} (hs : SrtK L) (hnum : ∀ e ∈ L, 0 ≤ e.num ∧ e.num < 255) (p : ks.Perm (L.map Kp.key)) (hn : ks.length < 4611686018427387904) :
    Ct Try.prog 53 [sl a ks.length cap, .func (.func 39) #[] #[]] [arr a cap 17 81 kcK ks] (fun _ : Unit => .tuple #[]) (fun _ => [arr a cap 17 81 kcK (L.map Kp.key)]) := by
  have hin : ∀ k ∈ L.map Kp.key, 0 ≤ k.2 ∧ k.2 < 255 := fun k hk => by
    obtain ⟨e, he, rfl⟩ := List.mem_map.1 hk; exact hnum e he
  obtain ⟨k8, rfl⟩ := to8 (l := ks) fun k hk => hin k (p.mem_iff.1 hk)
  obtain ⟨l8, hl8⟩ := to8 hin
  haveI : Inhabited K8 := ⟨⟨(⟨List.replicate 16 0#8, rfl⟩, 0), by decide⟩⟩
  have h := Ct_sortK sortK 17 (fun w => by kernel_rfl) (fun w => by kernel_rfl) (fun x : K8 => kcK x.1) (fun x => kcK_len x.1) (fun x => encK.one x.1) cf8 cf8_swo cf8_tot 39 [] cf39 [] (fun x y => ahead_ct x.2 y.2) a cap 81 k8 (by rw [← List.length_map (f := Subtype.val)]; exact hn)
  rw [sort8 (l' := l8) (perm8 (by rw [hl8]; exact p)) (pair8 (by rw [hl8]; exact List.pairwise_map.2 hs))] at h
  rw [List.length_map]
  refine h.conv (fun F w q => ?_) (fun r F w q => ?_)
  · exact sat_imp (fun hp z => arr_unmap (f := kcK) (g := fun x : K8 => x.1) (fun x => kcK_len x.1) hp z) q
  · refine sat_imp (fun hp z => ?_) q
    rw [← hl8]
    exact arr_map (f := kcK) (g := fun x : K8 => x.1) kcK_len hp z
end Go.Proofs.Ytoakfknnaiapiaa
namespace Go.Proofs.Ytoakfknnaiapiaa
open Go.RowKit Go.SL Go.ShM Go.SvM
set_option maxHeartbeats 1000000
set_option maxRecDepth 20000
set_option linter.all false
theorem cf54 : cfn Try.prog 54 = true := by kernel_rfl
theorem cf58 : cfn Try.prog 58 = true := by kernel_rfl
theorem el25 : el Try.prog 25 = some (1, 4) := by kernel_rfl
theorem el81 : el Try.prog 81 = some (17, 24) := by kernel_rfl
theorem sz93 : sz Try.prog 93 = some 1 := by kernel_rfl
theorem sz99 : sz Try.prog 99 = some 1 := by kernel_rfl
theorem tk93 : tk Try.prog 93 = some none := by kernel_rfl
theorem tk99 : tk Try.prog 99 = some none := by kernel_rfl
theorem ud93 : Try.prog.underlying 93 = some (.slice 81) := by kernel_rfl
theorem ud99 : Try.prog.underlying 99 = some (.slice 25) := by kernel_rfl
theorem zr25 : zr Try.prog 25 = some [.int .u32 0] := by kernel_rfl
theorem kk_ct {m : Nat}  : Ct Try.prog 38 [.map (some m)] [] (fun g : Nat => .func (.func 54) #[] #[.pointer (some ⟨g, 0, none⟩)]) (fun g => [cl g 38 [.map (some m)]]) := by
 refine Ct_body (n := 4) Try.func38 rfl rfl rfl fun F w0 Q hret hnorm hp => ?_
 change WC _ _ _ _ _ _ _ (F)
 refine WC_sr fun K1 hK1 => ?_
 refine WL_ac (Ac_box (xs := [.map (some m)]) rfl rfl) rfl rfl rfl ?_
 rintro _ _ ⟨b1, rfl, rfl⟩
 refine WL_r (Rd_assign rfl) rfl ?_
 refine WL_end hK1 ?_
 refine WC_sr fun K2 hK2 => ?_
 refine WL_r (Rd_makeFunc rfl rfl) rfl ?_
 refine WL_r (Rd_assign rfl) rfl ?_
 refine WL_end hK2 ?_
 refine WC_ret ?_
 exact hret.go b1 (Rs1 rfl rfl)

theorem kkIt_ct {l p m : Nat} {L : List (Ky × Nat)} {X : List Ky → Asn} (hL : L.length ≤ 100000000) (hy : ∀ (dn : List Ky) (k : Ky), dn.length < 100000000 → Yd Try.prog l [kfK k] [X dn] (fun _ : Unit => .bool true) (fun _ => [X (dn ++ [k])])) : Ct Try.prog 54 [yv l, .pointer (some ⟨p, 0, none⟩)] [cl p 38 [.map (some m)], mpP m kfK vfP L, X []] (fun g : {ks : List Ky // ks.Perm (keysL L)} => .tuple #[]) (fun g => [cl p 38 [.map (some m)], mpP m kfK vfP L, X g.1]) := by
 refine Ct_body (n := 14) Try.func54 rfl rfl rfl fun F w0 Q hret hnorm hp => ?_
 change WC _ _ _ _ _ _ _ (_ :: _ :: _ :: F)
 refine WC_sr fun K1 hK1 => ?_
 refine WL_r (Rd_load rfl tk38 (v := .map (some m))) rfl ?_
 refine WL_ac (Ac_range (κ := Ky) (β := Nat) rfl ud38) rfl rfl rfl ?_
 rintro _ _ ⟨r5, rfl, rfl⟩
 refine WL_end hK1 ?_
 refine WC_block ?_
 rw [show X [] = X (keysL ([] : List (Ky × Nat))) from rfl]
 refine WC_loopK (σ := (List (Ky × Nat)) × (List (Ky × Nat))) (fun ⟨ts, dn⟩ => []) (fun ⟨ts, dn⟩ => [mpN m r5 kfK vfP (dn ++ ts) ts none, X (keysL dn)]) (fun ⟨ts, dn⟩ => (dn ++ ts).Perm L) (fun ⟨ts, dn⟩ => ts.length) ⟨L, []⟩ [0, 5] kpA (by (try dsimp only); (try simp only [List.nil_append]); repeat (first | with_reducible exact Gv.nil | (with_reducible apply Gv.cons; · (repeat (first | with_reducible exact Ext.here | with_reducible apply Ext.there))))) ?_ ?_ Sub.refl ?_
 ·exact List.Perm.refl _
 ·(try dsimp only); exact Wk.nil
 ·rintro ⟨ts, dn⟩ hpl K2 hK2
  simp only [List.cons_append, List.nil_append]
  refine WC_sr fun K3 hK3 => ?_
  refine WL_ac (Ac_next (κ := Ky) (β := Nat) (kf := kfK) (vf := vfP) kfK_inj rfl) rfl rfl rfl ?_
  rintro _ _ (⟨hre, rfl, rfl⟩ | ⟨k, v, pre, post, hre, rfl, rfl⟩)
  ·skip
   subst hre
   refine WL_rep (mpN m r5 kfK vfP (dn ++ []) [] none) (mpP m kfK vfP L) (mpN_fin hpl) ?_
   have hpk : (keysL dn).Perm (keysL L) := by have h : (dn ++ []).Perm L := hpl; rw [List.append_nil] at h; exact h.map _
   refine WL_r (Rd_ext0 rfl) rfl ?_
   refine WL_end hK3 ?_
   refine WC_seq fun K4 hK4 => ?_
   refine WC_condF rfl ?_
   refine WC_exit ?_
   exact hnorm.go ⟨keysL dn, hpk⟩ (Rs0 rfl)
  ·skip
   subst hre
   have hdl : (keysL dn).length < 100000000 := by have h : (dn ++ (pre ++ (k, v) :: post)).Perm L := hpl; replace h := h.length_eq; rw [List.length_append, List.length_append, List.length_cons] at h; unfold keysL; rw [List.length_map]; omega
   refine WL_r (Rd_ext0 rfl) rfl ?_
   refine WL_end hK3 ?_
   refine WC_seq fun K5 hK5 => ?_
   refine WC_condT rfl ?_
   refine WC_skip ?_
   refine Ps_next hK5 ?_
   refine WC_block ?_
   refine WC_sr fun K6 hK6 => ?_
   refine WL_r (Rd_entry rfl) rfl ?_
   refine WL_r (Rd_ext0 rfl) rfl ?_
   refine WL_ac (Ac_alloc zr81) rfl rfl rfl ?_
   rintro _ _ ⟨b3, rfl, rfl⟩
   refine WL_ac0 (Ac_store (ys := kcK k) rfl rfl sz81 (h1 := encK.one _) (hv := by simpa [Value.cells, kfK] using kcK_len k) (hr := by simp [Value.cells, kfK])) rfl rfl ?_
   rintro _ _ rfl
   refine WL_end hK6 ?_
   refine WC_sr fun K7 hK7 => ?_
   refine WL_r (Rd_move rfl) rfl ?_
   refine WL_r (Rd_loadg (vs := kcK k) rfl tk81 (hl := by rw [kcK_len]; omega) (hi := by rw [List.drop_zero]; exact List.take_of_length_le (Nat.le_of_eq (kcK_len k)))) rfl ?_
   refine WL_ac (Ac_yield rfl rfl (hy (keysL dn) k hdl)) rfl rfl rfl ?_
   rintro _ _ ⟨⟨⟩, rfl, hA⟩
   simp only [List.cons_append, List.nil_append] at hA
   replace hA := hA.symm
   subst hA
   rw [keysL_snoc (v := v)]
   refine WL_rep (mpN m r5 kfK vfP (dn ++ (pre ++ (k, v) :: post)) (pre ++ post) (some (k, v))) (mpN m r5 kfK vfP ((dn ++ [(k, v)]) ++ (pre ++ post)) (pre ++ post) none) (mpN_rep yield_perm) ?_
   refine WL_r (Rd_not rfl) rfl ?_
   refine WL_end hK7 ?_
   refine WC_condF rfl ?_
   refine WC_skip ?_
   refine Ps_wkA (hK2 ⟨pre ++ post, dn ++ [(k, v)]⟩ (yield_perm.symm.trans hpl) (by (try dsimp only); rw [List.length_append, List.length_append, List.length_cons]; omega))

theorem kkApp_ct {p m : Nat} {L : List (Ky × Nat)} (hL : L.length ≤ 100000000) : Ct Try.prog 61 [.slice none 0 0, .func (.func 54) #[] #[.pointer (some ⟨p, 0, none⟩)]] [cl p 38 [.map (some m)], mpP m kfK vfP L] (fun g : {ks : List Ky // ks.Perm (keysL L)} × Option Nat × Nat => sl g.2.1 g.1.1.length g.2.2) (fun g => [cl p 38 [.map (some m)], mpP m kfK vfP L, arr g.2.1 g.2.2 17 81 kcK g.1.1]) := by
 refine Ct_body (n := 13) Try.func61 rfl rfl rfl fun F w0 Q hret hnorm hp => ?_
 change WC _ _ _ _ _ _ _ (_ :: _ :: F)
 refine WC_sr fun K1 hK1 => ?_
 refine WL_ac (Ac_box (xs := [.slice none 0 0]) rfl rfl) rfl rfl rfl ?_
 rintro _ _ ⟨b2, rfl, rfl⟩
 refine WL_r (Rd_assign (v := sl none 0 0) rfl) rfl ?_
 refine WL_end hK1 ?_
 refine WC_seq fun K2 hK2 => ?_
 refine WC_sr fun K3 hK3 => ?_
 refine WL_r (Rd_move rfl) rfl ?_
 refine WL_end hK3 ?_
 refine WC_block ?_
 refine WC_imp (fun w h => sat_nil (e := 17) (T := 81) (f := kcK) h) ?_
 rw [show cl b2 93 [.slice none 0 0] = cl b2 93 [sl none ([] : List Ky).length 0] from rfl]
 refine WC_rf (f := 54) (caps := [.pointer (some ⟨p, 0, none⟩)]) rfl cf54 fun lrf_0 Drf_0 rrf_0 hstrf_0 hpdrf_0 hparf_0 hasrf_0 hbdrf_0 hfrrf_0 => ?_
 have hyrf_0 : ∀ (dn : List Ky) (k : Ky), dn.length < 100000000 → Yd Try.prog lrf_0 [kfK k] [(fun (dn : List Ky) => exA (fun (⟨a, cap⟩ : (Option Nat) × Nat) => True) (fun (⟨a, cap⟩ : (Option Nat) × Nat) => [lp lrf_0 rrf_0, cl b2 93 [sl a dn.length cap], arr a cap 17 81 kcK dn])) dn] (fun b : Bool => .bool b) (fun b => [bif b then (fun (dn : List Ky) => exA (fun (⟨a, cap⟩ : (Option Nat) × Nat) => True) (fun (⟨a, cap⟩ : (Option Nat) × Nat) => [lp lrf_0 rrf_0, cl b2 93 [sl a dn.length cap], arr a cap 17 81 kcK dn])) (dn ++ [k]) else (exA (fun _ : Unit => False) (fun _ => []))]) := by
  intro dn k hdn
  refine Yd_ex ?_
  rintro ⟨a, cap⟩ hφ
  refine Yd_of (pre := [cl b2 93 [sl a dn.length cap], arr a cap 17 81 kcK dn]) hstrf_0 hpdrf_0 hparf_0 hasrf_0 hbdrf_0 hfrrf_0 rfl rfl fun F w0 Q K hp hend hbeg => ?_
  change WC _ _ _ _ _ _ ((7, kfK k) :: _) (_ :: _ :: _ :: F)
  dsimp only at *
  refine WC_region ?_
  refine WL_ac (Ac_alloc zr81) rfl rfl rfl ?_
  rintro _ _ ⟨b5, rfl, rfl⟩
  refine WL_ac0 (Ac_store (ys := kcK k) rfl rfl sz81 (h1 := encK.one _) (hv := by simpa [Value.cells, kfK] using kcK_len k) (hr := by simp [Value.cells, kfK])) rfl rfl ?_
  rintro _ _ rfl
  refine WL_nil ?_
  refine hbeg (by repeat (first | with_reducible exact Ext.here | with_reducible apply Ext.there)) ?_
  refine WC_block ?_
  refine WC_region ?_
  refine WL_r (Rd_load rfl tk93 (v := sl a dn.length cap)) rfl ?_
  refine WL_r (Rd_loadg (vs := kcK k) rfl tk81 (hl := by rw [kcK_len]; omega) (hi := by rw [List.drop_zero]; exact List.take_of_length_le (Nat.le_of_eq (kcK_len k)))) rfl ?_
  refine WL_ac (Ac_bs1 (xs := kcK k) rfl ud93 zr81 sz81 (hl := kcK_len k)) rfl rfl rfl ?_
  rintro _ _ ⟨b10, rfl, rfl⟩
  refine WL_ac (Ac_append1 (f := kcK) encK k rfl rfl ud93 ud93 el81) rfl rfl rfl ?_
  rintro _ _ ⟨a11, cap11, rfl, rfl⟩
  refine WL_ac0 (Ac_store1 rfl rfl sz93) rfl rfl ?_
  rintro _ _ rfl
  refine WL_nil ?_
  rw [show dn.length + 1 = (dn ++ [k]).length from by rw [List.length_append]; rfl]
  refine hend.nrm true rfl (by repeat (first | with_reducible exact Ext.here | with_reducible apply Ext.there)) ?_
  try simp only [List.cons_append, List.nil_append, cond_true, cond_false]
  exact imp_ex (⟨a11, cap11⟩) (trivial) (by (try dsimp only); (try simp only [List.cons_append, List.nil_append]); repeat (first | with_reducible exact Sub.refl | with_reducible exact Sub.nil | with_reducible refine Sub.cons (by repeat (first | with_reducible exact Ext.here | with_reducible apply Ext.there)) ?_ | with_reducible refine Sub.tail ?_))
 refine ⟨_, _, _, _, _, kkIt_ct (m := m) (L := L) (X := (fun (dn : List Ky) => exA (fun (⟨a, cap⟩ : (Option Nat) × Nat) => True) (fun (⟨a, cap⟩ : (Option Nat) × Nat) => [lp lrf_0 rrf_0, cl b2 93 [sl a dn.length cap], arr a cap 17 81 kcK dn]))) (p := p) (l := lrf_0) hL (fun dn k hd => Yd_true (hyrf_0 dn k hd)), imp_rf (Y := [_, _]) (⟨none, 0⟩) (trivial) gvA (by (try dsimp only); repeat (first | with_reducible exact Gv.nil | (with_reducible apply Gv.cons; · (repeat (first | with_reducible exact Ext.here | with_reducible apply Ext.there))))), ?_⟩
 ·rintro ⟨ks, hks⟩
  ·simp only [List.cons_append, List.nil_append, cond_true, cond_false]
   refine RfEnd_ex ?_
   rintro ⟨a, cap⟩ hφ
   simp only [List.cons_append, List.nil_append]
   refine RfEnd_nrm hstrf_0 hpdrf_0 ?_
   refine Ps_next hK2 ?_
   refine WC_sr fun K4 hK4 => ?_
   refine WL_r (Rd_load rfl tk93 (v := sl a ks.length cap)) rfl ?_
   refine WL_r (Rd_assign rfl) rfl ?_
   refine WL_end hK4 ?_
   refine WC_ret ?_
   exact hret.goD (⟨ks, hks⟩, a, cap) (Rs1 rfl rfl)

theorem kw_ct {m : Nat}  : Ct Try.prog 41 [.map (some m)] [] (fun g : Nat => .func (.func 58) #[] #[.pointer (some ⟨g, 0, none⟩)]) (fun g => [cl g 83 [.map (some m)]]) := by
 refine Ct_body (n := 4) Try.func41 rfl rfl rfl fun F w0 Q hret hnorm hp => ?_
 change WC _ _ _ _ _ _ _ (F)
 refine WC_sr fun K1 hK1 => ?_
 refine WL_ac (Ac_box (xs := [.map (some m)]) rfl rfl) rfl rfl rfl ?_
 rintro _ _ ⟨b1, rfl, rfl⟩
 refine WL_r (Rd_assign rfl) rfl ?_
 refine WL_end hK1 ?_
 refine WC_sr fun K2 hK2 => ?_
 refine WL_r (Rd_makeFunc rfl rfl) rfl ?_
 refine WL_r (Rd_assign rfl) rfl ?_
 refine WL_end hK2 ?_
 refine WC_ret ?_
 exact hret.go b1 (Rs1 rfl rfl)

theorem kwIt_ct {l p m : Nat} {L : List (B32 × Int)} {X : List B32 → Asn} (hL : L.length ≤ 100000000) (hy : ∀ (dn : List B32) (k : B32), dn.length < 100000000 → Yd Try.prog l [kfW k] [X dn] (fun _ : Unit => .bool true) (fun _ => [X (dn ++ [k])])) : Ct Try.prog 58 [yv l, .pointer (some ⟨p, 0, none⟩)] [cl p 83 [.map (some m)], mpP m kfW vfI L, X []] (fun g : {ks : List B32 // ks.Perm (keysL L)} => .tuple #[]) (fun g => [cl p 83 [.map (some m)], mpP m kfW vfI L, X g.1]) := by
 refine Ct_body (n := 14) Try.func58 rfl rfl rfl fun F w0 Q hret hnorm hp => ?_
 change WC _ _ _ _ _ _ _ (_ :: _ :: _ :: F)
 refine WC_sr fun K1 hK1 => ?_
 refine WL_r (Rd_load rfl tk83 (v := .map (some m))) rfl ?_
 refine WL_ac (Ac_range (κ := B32) (β := Int) rfl ud83) rfl rfl rfl ?_
 rintro _ _ ⟨r5, rfl, rfl⟩
 refine WL_end hK1 ?_
 refine WC_block ?_
 rw [show X [] = X (keysL ([] : List (B32 × Int))) from rfl]
 refine WC_loopK (σ := (List (B32 × Int)) × (List (B32 × Int))) (fun ⟨ts, dn⟩ => []) (fun ⟨ts, dn⟩ => [mpN m r5 kfW vfI (dn ++ ts) ts none, X (keysL dn)]) (fun ⟨ts, dn⟩ => (dn ++ ts).Perm L) (fun ⟨ts, dn⟩ => ts.length) ⟨L, []⟩ [0, 5] kpA (by (try dsimp only); (try simp only [List.nil_append]); repeat (first | with_reducible exact Gv.nil | (with_reducible apply Gv.cons; · (repeat (first | with_reducible exact Ext.here | with_reducible apply Ext.there))))) ?_ ?_ Sub.refl ?_
 ·exact List.Perm.refl _
 ·(try dsimp only); exact Wk.nil
 ·rintro ⟨ts, dn⟩ hpl K2 hK2
  simp only [List.cons_append, List.nil_append]
  refine WC_sr fun K3 hK3 => ?_
  refine WL_ac (Ac_next (κ := B32) (β := Int) (kf := kfW) (vf := vfI) kfW_inj rfl) rfl rfl rfl ?_
  rintro _ _ (⟨hre, rfl, rfl⟩ | ⟨k, v, pre, post, hre, rfl, rfl⟩)
  ·skip
   subst hre
   refine WL_rep (mpN m r5 kfW vfI (dn ++ []) [] none) (mpP m kfW vfI L) (mpN_fin hpl) ?_
   have hpk : (keysL dn).Perm (keysL L) := by have h : (dn ++ []).Perm L := hpl; rw [List.append_nil] at h; exact h.map _
   refine WL_r (Rd_ext0 rfl) rfl ?_
   refine WL_end hK3 ?_
   refine WC_seq fun K4 hK4 => ?_
   refine WC_condF rfl ?_
   refine WC_exit ?_
   exact hnorm.go ⟨keysL dn, hpk⟩ (Rs0 rfl)
  ·skip
   subst hre
   have hdl : (keysL dn).length < 100000000 := by have h : (dn ++ (pre ++ (k, v) :: post)).Perm L := hpl; replace h := h.length_eq; rw [List.length_append, List.length_append, List.length_cons] at h; unfold keysL; rw [List.length_map]; omega
   refine WL_r (Rd_ext0 rfl) rfl ?_
   refine WL_end hK3 ?_
   refine WC_seq fun K5 hK5 => ?_
   refine WC_condT rfl ?_
   refine WC_skip ?_
   refine Ps_next hK5 ?_
   refine WC_block ?_
   refine WC_sr fun K6 hK6 => ?_
   refine WL_r (Rd_entry rfl) rfl ?_
   refine WL_r (Rd_ext0 rfl) rfl ?_
   refine WL_r (Rd_assign rfl) rfl ?_
   refine WL_end hK6 ?_
   refine WC_sr fun K7 hK7 => ?_
   refine WL_r (Rd_move rfl) rfl ?_
   refine WL_r (Rd_move rfl) rfl ?_
   refine WL_ac (Ac_yield rfl rfl (hy (keysL dn) k hdl)) rfl rfl rfl ?_
   rintro _ _ ⟨⟨⟩, rfl, hA⟩
   simp only [List.cons_append, List.nil_append] at hA
   replace hA := hA.symm
   subst hA
   rw [keysL_snoc (v := v)]
   refine WL_rep (mpN m r5 kfW vfI (dn ++ (pre ++ (k, v) :: post)) (pre ++ post) (some (k, v))) (mpN m r5 kfW vfI ((dn ++ [(k, v)]) ++ (pre ++ post)) (pre ++ post) none) (mpN_rep yield_perm) ?_
   refine WL_r (Rd_not rfl) rfl ?_
   refine WL_end hK7 ?_
   refine WC_condF rfl ?_
   refine WC_skip ?_
   refine Ps_wkA (hK2 ⟨pre ++ post, dn ++ [(k, v)]⟩ (yield_perm.symm.trans hpl) (by (try dsimp only); rw [List.length_append, List.length_append, List.length_cons]; omega))

theorem kwApp_ct {p m : Nat} {L : List (B32 × Int)} (hL : L.length ≤ 100000000) : Ct Try.prog 65 [.slice none 0 0, .func (.func 58) #[] #[.pointer (some ⟨p, 0, none⟩)]] [cl p 83 [.map (some m)], mpP m kfW vfI L] (fun g : {ks : List B32 // ks.Perm (keysL L)} × Option Nat × Nat => sl g.2.1 g.1.1.length g.2.2) (fun g => [cl p 83 [.map (some m)], mpP m kfW vfI L, arr g.2.1 g.2.2 1 25 (eU .u32 (w := 32)) g.1.1]) := by
 refine Ct_body (n := 13) Try.func65 rfl rfl rfl fun F w0 Q hret hnorm hp => ?_
 change WC _ _ _ _ _ _ _ (_ :: _ :: F)
 refine WC_sr fun K1 hK1 => ?_
 refine WL_ac (Ac_box (xs := [.slice none 0 0]) rfl rfl) rfl rfl rfl ?_
 rintro _ _ ⟨b2, rfl, rfl⟩
 refine WL_r (Rd_assign (v := sl none 0 0) rfl) rfl ?_
 refine WL_end hK1 ?_
 refine WC_seq fun K2 hK2 => ?_
 refine WC_sr fun K3 hK3 => ?_
 refine WL_r (Rd_move rfl) rfl ?_
 refine WL_end hK3 ?_
 refine WC_block ?_
 refine WC_imp (fun w h => sat_nil (e := 1) (T := 25) (f := (eU .u32 (w := 32))) h) ?_
 rw [show cl b2 99 [.slice none 0 0] = cl b2 99 [sl none ([] : List B32).length 0] from rfl]
 refine WC_rf (f := 58) (caps := [.pointer (some ⟨p, 0, none⟩)]) rfl cf58 fun lrf_0 Drf_0 rrf_0 hstrf_0 hpdrf_0 hparf_0 hasrf_0 hbdrf_0 hfrrf_0 => ?_
 have hyrf_0 : ∀ (dn : List B32) (k : B32), dn.length < 100000000 → Yd Try.prog lrf_0 [kfW k] [(fun (dn : List B32) => exA (fun (⟨a, cap⟩ : (Option Nat) × Nat) => True) (fun (⟨a, cap⟩ : (Option Nat) × Nat) => [lp lrf_0 rrf_0, cl b2 99 [sl a dn.length cap], arr a cap 1 25 (eU .u32 (w := 32)) dn])) dn] (fun b : Bool => .bool b) (fun b => [bif b then (fun (dn : List B32) => exA (fun (⟨a, cap⟩ : (Option Nat) × Nat) => True) (fun (⟨a, cap⟩ : (Option Nat) × Nat) => [lp lrf_0 rrf_0, cl b2 99 [sl a dn.length cap], arr a cap 1 25 (eU .u32 (w := 32)) dn])) (dn ++ [k]) else (exA (fun _ : Unit => False) (fun _ => []))]) := by
  intro dn k hdn
  refine Yd_ex ?_
  rintro ⟨a, cap⟩ hφ
  refine Yd_of (pre := [cl b2 99 [sl a dn.length cap], arr a cap 1 25 (eU .u32 (w := 32)) dn]) hstrf_0 hpdrf_0 hparf_0 hasrf_0 hbdrf_0 hfrrf_0 rfl rfl fun F w0 Q K hp hend hbeg => ?_
  change WC _ _ _ _ _ _ ((7, kfW k) :: _) (_ :: _ :: _ :: F)
  dsimp only at *
  refine WC_region ?_
  refine WL_r (Rd_assign rfl) rfl ?_
  refine WL_nil ?_
  refine hbeg (by repeat (first | with_reducible exact Ext.here | with_reducible apply Ext.there)) ?_
  refine WC_block ?_
  refine WC_region ?_
  refine WL_r (Rd_load rfl tk99 (v := sl a dn.length cap)) rfl ?_
  refine WL_r (Rd_move rfl) rfl ?_
  refine WL_ac (Ac_bs1 (xs := [.int .u32 (k.toNat : Int)]) rfl ud99 zr25 sz25) rfl rfl rfl ?_
  rintro _ _ ⟨b10, rfl, rfl⟩
  refine WL_ac (Ac_append1 (f := (eU .u32 (w := 32))) (encU .u32 (w := 32)) k rfl rfl ud99 ud99 el25) rfl rfl rfl ?_
  rintro _ _ ⟨a11, cap11, rfl, rfl⟩
  refine WL_ac0 (Ac_store1 rfl rfl sz99) rfl rfl ?_
  rintro _ _ rfl
  refine WL_nil ?_
  rw [show dn.length + 1 = (dn ++ [k]).length from by rw [List.length_append]; rfl]
  refine hend.nrm true rfl (by repeat (first | with_reducible exact Ext.here | with_reducible apply Ext.there)) ?_
  try simp only [List.cons_append, List.nil_append, cond_true, cond_false]
  exact imp_ex (⟨a11, cap11⟩) (trivial) (by (try dsimp only); (try simp only [List.cons_append, List.nil_append]); repeat (first | with_reducible exact Sub.refl | with_reducible exact Sub.nil | with_reducible refine Sub.cons (by repeat (first | with_reducible exact Ext.here | with_reducible apply Ext.there)) ?_ | with_reducible refine Sub.tail ?_))
 refine ⟨_, _, _, _, _, kwIt_ct (m := m) (L := L) (X := (fun (dn : List B32) => exA (fun (⟨a, cap⟩ : (Option Nat) × Nat) => True) (fun (⟨a, cap⟩ : (Option Nat) × Nat) => [lp lrf_0 rrf_0, cl b2 99 [sl a dn.length cap], arr a cap 1 25 (eU .u32 (w := 32)) dn]))) (p := p) (l := lrf_0) hL (fun dn k hd => Yd_true (hyrf_0 dn k hd)), imp_rf (Y := [_, _]) (⟨none, 0⟩) (trivial) gvA (by (try dsimp only); repeat (first | with_reducible exact Gv.nil | (with_reducible apply Gv.cons; · (repeat (first | with_reducible exact Ext.here | with_reducible apply Ext.there))))), ?_⟩
 ·rintro ⟨ks, hks⟩
  ·simp only [List.cons_append, List.nil_append, cond_true, cond_false]
   refine RfEnd_ex ?_
   rintro ⟨a, cap⟩ hφ
   simp only [List.cons_append, List.nil_append]
   refine RfEnd_nrm hstrf_0 hpdrf_0 ?_
   refine Ps_next hK2 ?_
   refine WC_sr fun K4 hK4 => ?_
   refine WL_r (Rd_load rfl tk99 (v := sl a ks.length cap)) rfl ?_
   refine WL_r (Rd_assign rfl) rfl ?_
   refine WL_end hK4 ?_
   refine WC_ret ?_
   exact hret.goD (⟨ks, hks⟩, a, cap) (Rs1 rfl rfl)
end Go.Proofs.Ytoakfknnaiapiaa
namespace Go.Proofs.Ytoakfknnaiapiaa
open Go.RowKit Go.SL Go.ShM Go.SvM
set_option maxHeartbeats 1000000
set_option maxRecDepth 20000
set_option linter.all false
theorem cf52 : cfn Try.prog 52 = true := by kernel_rfl
theorem cf53 : cfn Try.prog 53 = true := by kernel_rfl
theorem cf56 : cfn Try.prog 56 = true := by kernel_rfl
theorem cf57 : cfn Try.prog 57 = true := by kernel_rfl
theorem cf61 : cfn Try.prog 61 = true := by kernel_rfl
theorem cf65 : cfn Try.prog 65 = true := by kernel_rfl
theorem kkCol_ct {p m : Nat} {L : List (Ky × Nat)} (hL : L.length ≤ 100000000) : Ct Try.prog 52 [.func (.func 54) #[] #[.pointer (some ⟨p, 0, none⟩)]] [cl p 38 [.map (some m)], mpP m kfK vfP L] (fun g : {ks : List Ky // ks.Perm (keysL L)} × Option Nat × Nat => sl g.2.1 g.1.1.length g.2.2) (fun g => [cl p 38 [.map (some m)], mpP m kfK vfP L, arr g.2.1 g.2.2 17 81 kcK g.1.1]) := by
 refine Ct_body (n := 5) Try.func52 rfl rfl rfl fun F w0 Q hret hnorm hp => ?_
 change WC _ _ _ _ _ _ _ (_ :: _ :: F)
 refine WC_sr fun K1 hK1 => ?_
 refine WL_r (Rd_assign (v := sl none 0 0) rfl) rfl ?_
 refine WL_end hK1 ?_
 refine WC_sr fun K2 hK2 => ?_
 refine WL_r (Rd_move rfl) rfl ?_
 refine WL_ac (Ac_call cf61 rfl (hs := kkApp_ct (p := p) (m := m) (L := L) hL)) rfl rfl rfl ?_
 rintro _ _ ⟨⟨⟨ks, hks⟩, a, cap⟩, rfl, hA⟩
 simp only [List.cons_append, List.nil_append] at hA
 replace hA := hA.symm
 subst hA
 refine WL_r (Rd_assign rfl) rfl ?_
 refine WL_end hK2 ?_
 refine WC_ret ?_
 exact hret.go (⟨ks, hks⟩, a, cap) (Rs1 rfl rfl)

theorem kwCol_ct {p m : Nat} {L : List (B32 × Int)} (hL : L.length ≤ 100000000) : Ct Try.prog 56 [.func (.func 58) #[] #[.pointer (some ⟨p, 0, none⟩)]] [cl p 83 [.map (some m)], mpP m kfW vfI L] (fun g : {ks : List B32 // ks.Perm (keysL L)} × Option Nat × Nat => sl g.2.1 g.1.1.length g.2.2) (fun g => [cl p 83 [.map (some m)], mpP m kfW vfI L, arr g.2.1 g.2.2 1 25 (eU .u32 (w := 32)) g.1.1]) := by
 refine Ct_body (n := 5) Try.func56 rfl rfl rfl fun F w0 Q hret hnorm hp => ?_
 change WC _ _ _ _ _ _ _ (_ :: _ :: F)
 refine WC_sr fun K1 hK1 => ?_
 refine WL_r (Rd_assign (v := sl none 0 0) rfl) rfl ?_
 refine WL_end hK1 ?_
 refine WC_sr fun K2 hK2 => ?_
 refine WL_r (Rd_move rfl) rfl ?_
 refine WL_ac (Ac_call cf65 rfl (hs := kwApp_ct (p := p) (m := m) (L := L) hL)) rfl rfl rfl ?_
 rintro _ _ ⟨⟨⟨ks, hks⟩, a, cap⟩, rfl, hA⟩
 simp only [List.cons_append, List.nil_append] at hA
 replace hA := hA.symm
 subst hA
 refine WL_r (Rd_assign rfl) rfl ?_
 refine WL_end hK2 ?_
 refine WC_ret ?_
 exact hret.go (⟨ks, hks⟩, a, cap) (Rs1 rfl rfl)

theorem kkSorted_ct {p m : Nat} {L : List En} (hs : SrtK (L.map En.e)) (hnum : ∀ e ∈ L.map En.e, 0 ≤ e.num ∧ e.num < 255) (hL : L.length ≤ 100000000) : Ct Try.prog 37 [.func (.func 54) #[] #[.pointer (some ⟨p, 0, none⟩)], .func (.func 39) #[] #[]] [cl p 38 [.map (some m)], mpP m kfK vfP (L.map En.kp)] (fun g : Option Nat × Nat => sl g.1 ((L.map En.e).map Kp.key).length g.2) (fun g => [cl p 38 [.map (some m)], mpP m kfK vfP (L.map En.kp), arr g.1 g.2 17 81 kcK ((L.map En.e).map Kp.key)]) := by
 refine Ct_body (n := 12) Try.func37 rfl rfl rfl fun F w0 Q hret hnorm hp => ?_
 change WC _ _ _ _ _ _ _ (_ :: _ :: F)
 refine WC_sr fun K1 hK1 => ?_
 refine WL_r (Rd_assign (v := sl none 0 0) rfl) rfl ?_
 refine WL_end hK1 ?_
 refine WC_sr fun K2 hK2 => ?_
 refine WL_r (Rd_move rfl) rfl ?_
 refine WL_ac (Ac_call cf52 rfl (hs := kkCol_ct (p := p) (m := m) (L := L.map En.kp) (by rw [List.length_map]; exact hL))) rfl rfl rfl ?_
 rintro _ _ ⟨⟨⟨ks, hks⟩, a, cap⟩, rfl, hA⟩
 simp only [List.cons_append, List.nil_append] at hA
 replace hA := hA.symm
 subst hA
 have hkp : ks.Perm ((L.map En.e).map Kp.key) := by rw [← kp_keys]; exact hks
 have hkl : ks.length = ((L.map En.e).map Kp.key).length := hkp.length_eq
 have hkm : ((L.map En.e).map Kp.key).length = L.length := by rw [List.length_map, List.length_map]
 refine WL_r (Rd_assign rfl) rfl ?_
 refine WL_end hK2 ?_
 refine WC_sr fun K3 hK3 => ?_
 refine WL_r (Rd_move rfl) rfl ?_
 refine WL_r (Rd_move rfl) rfl ?_
 refine WL_ac (Ac_call cf53 rfl (hs := sortKy_ct (a := a) (cap := cap) (ks := ks) hs hnum hkp (by omega))) rfl rfl rfl ?_
 rintro _ _ ⟨⟨⟩, rfl, hA⟩
 simp only [List.cons_append, List.nil_append] at hA
 replace hA := hA.symm
 subst hA
 refine WL_end hK3 ?_
 refine WC_sr fun K4 hK4 => ?_
 refine WL_r (Rd_move rfl) rfl ?_
 refine WL_r (Rd_assign rfl) rfl ?_
 refine WL_end hK4 ?_
 refine WC_ret ?_
 exact hret.goE (a, cap) (Rs1 rfl rfl) (by rw [hkl])

def SortW (N : Nat) : Prop := ∀ (a : Option Nat) (cap : Nat) (l : List B32), l.length ≤ N → Ct Try.prog 57 [sl a l.length cap] [arr a cap 1 25 (eU .u32 (w := 32)) l] (fun _ : Unit => .tuple #[]) (fun _ => [arr a cap 1 25 (eU .u32 (w := 32)) (l.mergeSort fun x y => decide (x.toNat ≤ y.toNat))])

theorem kwSorted_ct {p m N : Nat} {ls : List Ls} (hsort : SortW N) (hs : SrtW ls) (hL : ls.length ≤ N) (hN : N ≤ 100000000) : Ct Try.prog 40 [.func (.func 58) #[] #[.pointer (some ⟨p, 0, none⟩)]] [cl p 83 [.map (some m)], mpP m kfW vfI ls] (fun g : Option Nat × Nat => sl g.1 (ls.map Prod.fst).length g.2) (fun g => [cl p 83 [.map (some m)], mpP m kfW vfI ls, arr g.1 g.2 1 25 (eU .u32 (w := 32)) (ls.map Prod.fst)]) := by
 refine Ct_body (n := 9) Try.func40 rfl rfl rfl fun F w0 Q hret hnorm hp => ?_
 change WC _ _ _ _ _ _ _ (_ :: _ :: F)
 refine WC_sr fun K1 hK1 => ?_
 refine WL_r (Rd_assign (v := sl none 0 0) rfl) rfl ?_
 refine WL_end hK1 ?_
 refine WC_sr fun K2 hK2 => ?_
 refine WL_r (Rd_move rfl) rfl ?_
 refine WL_ac (Ac_call cf56 rfl (hs := kwCol_ct (p := p) (m := m) (L := ls) (by omega))) rfl rfl rfl ?_
 rintro _ _ ⟨⟨⟨ks, hks⟩, a, cap⟩, rfl, hA⟩
 simp only [List.cons_append, List.nil_append] at hA
 replace hA := hA.symm
 subst hA
 have hkp : ks.Perm (ls.map Prod.fst) := hks
 have hkl : ks.length = (ls.map Prod.fst).length := hkp.length_eq
 have hkm : (ls.map Prod.fst).length = ls.length := List.length_map _
 have hso := sort_uniqW hkp (List.pairwise_map.2 hs)
 refine WL_r (Rd_assign rfl) rfl ?_
 refine WL_end hK2 ?_
 refine WC_sr fun K3 hK3 => ?_
 refine WL_r (Rd_move rfl) rfl ?_
 refine WL_ac (Ac_call cf57 rfl (hs := hsort a cap ks (by omega))) rfl rfl rfl ?_
 rintro _ _ ⟨⟨⟩, rfl, hA⟩
 simp only [List.cons_append, List.nil_append] at hA
 replace hA := hA.symm
 subst hA
 rw [hso]
 refine WL_end hK3 ?_
 refine WC_sr fun K4 hK4 => ?_
 refine WL_r (Rd_move rfl) rfl ?_
 refine WL_r (Rd_assign rfl) rfl ?_
 refine WL_end hK4 ?_
 refine WC_ret ?_
 exact hret.goE (a, cap) (Rs1 rfl rfl) (by rw [hkl])
end Go.Proofs.Ytoakfknnaiapiaa
