/-
  Contracts of functions that the claim reaches, or the logic and the plain laws that they rest on, or the row over them. (Conditions: none beyond the statement.)
-/
import Derived.Test.YtoakfknnaiapiaaSvLA
import Derived.Test.YtoakfknnaiapiaaShA
import Derived.Test.YtoakfknnaiapiaaLibS
import Derived.Test.YtoakfknnaiapiaaLibA
import Derived.Test.YtoakfknnaiapiaaLibE
import Derived.Test.YtoakfknnaiapiaaLibR
import Derived.Test.YtoakfknnaiapiaaLibC
import Derived.Test.YtoakfknnaiapiaaTrArg
set_option linter.all false
/-
  A server's requests, what may be asked, what is answered, in plain words. (Conditions: none; no program in sight.)
-/
set_option maxRecDepth 20000
namespace Go.SvM
open Go.SL Go.ShM Go.RowKit
structure Rq where
  kind : B8
  ix : Ix
  num : Int
  at_ : Int
  len : Int
  who : B32
  un : Int
  b : Pt
def eRq (r : Rq) : List Value := .int .u8 (r.kind.toNat : Int) :: (r.ix.l.flatMap (eU .u8) ++ [.int .i64 r.num, .int .i64 r.at_, .int .i64 r.len, .int .u32 (r.who.toNat : Int), .int .i64 r.un, r.b.v])
theorem eRq_len (r : Rq) : (eRq r).length = 23 := by
  unfold eRq
  rw [List.length_cons, List.length_append, flatU_len, r.ix.h]; rfl
theorem encRq : Enc eRq 23 := ⟨eRq_len, fun r v hv => by
  unfold eRq at hv
  rw [List.mem_cons, List.mem_append] at hv
  rcases hv with rfl | hv | hv
  · rfl
  · obtain ⟨a, _, ha⟩ := List.mem_flatMap.1 hv
    exact (encU .u8).one a v ha
  · simp only [List.mem_cons, List.not_mem_nil, or_false] at hv
    rcases hv with rfl | rfl | rfl | rfl | rfl | rfl <;> rfl⟩
theorem eRq_ix (r : Rq) : ((eRq r).drop 1).take 16 = r.ix.l.flatMap (eU .u8) := by
  unfold eRq
  rw [List.drop_succ_cons, List.drop_zero]
  exact List.take_left' (by rw [flatU_len, r.ix.h])
theorem eRq_end (r : Rq) : (eRq r).drop 17 = [.int .i64 r.num, .int .i64 r.at_, .int .i64 r.len, .int .u32 (r.who.toNat : Int), .int .i64 r.un, r.b.v] := by
  unfold eRq
  rw [List.drop_succ_cons]
  exact List.drop_left' (by rw [flatU_len, r.ix.h])
theorem eRq_at (r : Rq) (j : Nat) : (eRq r)[17 + j]? = [Value.int .i64 r.num, .int .i64 r.at_, .int .i64 r.len, .int .u32 (r.who.toNat : Int), .int .i64 r.un, r.b.v][j]? := by
  rw [← eRq_end, List.getElem?_drop]
theorem eRq_kind (r : Rq) : (eRq r)[0]? = some (.int .u8 (r.kind.toNat : Int)) := rfl
theorem eRq_num (r : Rq) : (eRq r)[17]? = some (.int .i64 r.num) := eRq_at r 0
theorem eRq_at_ (r : Rq) : (eRq r)[18]? = some (.int .i64 r.at_) := eRq_at r 1
theorem eRq_ln (r : Rq) : (eRq r)[19]? = some (.int .i64 r.len) := eRq_at r 2
theorem eRq_who (r : Rq) : (eRq r)[20]? = some (.int .u32 (r.who.toNat : Int)) := eRq_at r 3
theorem eRq_un (r : Rq) : (eRq r)[21]? = some (.int .i64 r.un) := eRq_at r 4
theorem eRq_b (r : Rq) : (eRq r)[22]? = some r.b.v := eRq_at r 5
theorem eRq_ls (r : Rq) : ((eRq r).drop 20).take 2 = [.int .u32 (r.who.toNat : Int), .int .i64 r.un] := by
  rw [show 20 = 17 + 3 from rfl, ← List.drop_drop, eRq_end]; rfl
theorem eRq_all (r : Rq) : ((eRq r).drop 0).take 23 = eRq r := by rw [List.drop_zero]; exact List.take_of_length_le (Nat.le_of_eq (eRq_len r))
def bareM (n f c wh un : Int) (len : Nat) (bn bf bl bb : Bool) : Bool :=
  (bn || decide (n = 0)) && (bf || (decide (f = 0) && decide (c = 0))) && (bl || (decide (wh = 0) && decide (un = 0))) && (bb || decide (len = 0)) && decide (0 ≤ n) && decide (n < 255) && decide (0 ≤ un) && decide (un ≤ 1099511627776)
def mayM (k n f c wh un : Int) (len : Nat) : Bool :=
  (decide (k = 1) && bareM n f c wh un len false false false false) || (decide (k = 2) && bareM n f c wh un len true false true true && decide (len ≤ 33554432)) ||
  (decide (k = 3) && bareM n f c wh un len true true false false && decide (0 ≤ f) && decide (f ≤ 33554432) && decide (1 ≤ c) && decide (c ≤ 131072)) ||
  (decide (k = 4) && bareM n f c wh un len false false true false) || (decide (k = 5) && bareM n f c wh un len false false true false && decide (un = 0))
def mayQ (r : Rq) : Bool := mayM (r.kind.toNat : Int) r.num r.at_ r.len (r.who.toNat : Int) r.un r.b.l.length
theorem unc8 {l : List B8} {n : Nat} (h : l.length = n + 1) : ∃ x r, l = x :: r ∧ r.length = n := by cases l with
  | nil => simp at h
  | cons x r => exact ⟨x, r, rfl, by simpa using h⟩
end Go.SvM
/-
  A server's leases laid, its shares found, one more share: in plain words. (Conditions: none; no program in sight.)
-/
set_option maxRecDepth 20000
namespace Go.SvM
open Go.SL Go.ShM Go.RowKit
theorem getW_has {w : B32} {ls : List Ls} : (getL w ls).isSome = hasW w ls := by
  rw [Bool.eq_iff_iff, getL_isSome, hasW_iff]; exact Iff.rfl
theorem look_int {w : B32} {ls : List Ls} : ((getL w ls).map vfI).getD (.int .i64 0) = .int .i64 ((getL w ls).getD 0) := by
  cases getL w ls <;> rfl
theorem getL_cons_ne {κ β : Type} [DecidableEq κ] {k : κ} {x : κ × β} {l : List (κ × β)} (h : x.1 ≠ k) : getL k (x :: l) = getL k l := by
  unfold getL; rw [List.find?_cons_of_neg (by simpa using h)]
theorem getL_cons_eq {κ β : Type} [DecidableEq κ] {k : κ} {x : κ × β} {l : List (κ × β)} (h : x.1 = k) : getL k (x :: l) = some x.2 := by
  unfold getL; rw [List.find?_cons_of_pos (by simpa using h)]; rfl
theorem delL_cons_ne {κ β : Type} [DecidableEq κ] {k : κ} {x : κ × β} {l : List (κ × β)} (h : x.1 ≠ k) : delL k (x :: l) = x :: delL k l := by
  unfold delL; rw [List.filter_cons_of_pos (by simpa using h)]
theorem delL_cons_eq {κ β : Type} [DecidableEq κ] {k : κ} {x : κ × β} {l : List (κ × β)} (h : x.1 = k) : delL k (x :: l) = delL k l := by
  unfold delL; rw [List.filter_cons_of_neg (by simpa using h)]
theorem layL_perm {w : B32} {u : Int} (hu : 0 ≤ u) : ∀ {ls : List Ls}, SrtW ls → (putL w (max ((getL w ls).getD 0) u) ls).Perm (layL w u ls)
  | [], _ => by simp [putL, delL, getL, layL, Int.max_eq_right hu]
  | x :: r, h => by
    have h' := List.pairwise_cons.1 h
    unfold layL
    by_cases e : x.1 = w
    · rw [if_pos e, getL_cons_eq e]
      unfold putL
      rw [delL_cons_eq e, delL_no (fun hk => by
        obtain ⟨y, hy, hk⟩ := List.mem_map.1 hk
        exact wLt_ne (h'.1 y hy) (e.trans hk.symm))]
      exact .refl _
    · rw [if_neg e]
      split
      · rename_i hlt
        have hno : w ∉ keysL (x :: r) := fun hk => by
          obtain ⟨y, hy, hk2⟩ := List.mem_map.1 hk
          rcases List.mem_cons.1 hy with hy | hy
          · rw [hy] at hk2; exact e hk2
          · have := h'.1 y hy; unfold wLt at this; rw [hk2] at this; omega
        rw [getL_none hno]
        unfold putL
        rw [delL_no hno]
        simp [Int.max_eq_right hu]
      · rw [getL_cons_ne e]
        unfold putL
        rw [delL_cons_ne e]
        exact (List.Perm.swap _ _ _).trans ((layL_perm hu h'.2).cons x)
theorem layL_srt {w : B32} {u : Int} : ∀ {ls : List Ls}, SrtW ls → SrtW (layL w u ls) ∧ ∀ y ∈ layL w u ls, y.1 = w ∨ y ∈ ls
  | [], _ => by simp [layL, SrtW]
  | x :: r, h => by
    have h' := List.pairwise_cons.1 h
    obtain ⟨i1, i2⟩ := layL_srt (w := w) (u := u) h'.2
    unfold layL
    by_cases e : x.1 = w
    · rw [if_pos e]
      refine ⟨List.pairwise_cons.2 ⟨fun y hy => ?_, h'.2⟩, fun y hy => ?_⟩
      · have := h'.1 y hy; unfold wLt at *; rw [e] at this; exact this
      · rcases List.mem_cons.1 hy with rfl | hy
        · exact .inl rfl
        · exact .inr (List.mem_cons_of_mem _ hy)
    · rw [if_neg e]
      split
      · rename_i hlt
        refine ⟨List.pairwise_cons.2 ⟨fun y hy => ?_, h⟩, fun y hy => ?_⟩
        · rcases List.mem_cons.1 hy with rfl | hy
          · exact hlt
          · have := h'.1 y hy; unfold wLt at *; simp only; omega
        · rcases List.mem_cons.1 hy with rfl | hy
          · exact .inl rfl
          · exact .inr hy
      · rename_i hlt
        refine ⟨List.pairwise_cons.2 ⟨fun y hy => ?_, i1⟩, fun y hy => ?_⟩
        · rcases i2 y hy with q | q
          · have hne : x.1.toNat ≠ w.toNat := fun q => e (BitVec.eq_of_toNat_eq q)
            unfold wLt; rw [q]; omega
          · exact h'.1 y q
        · rcases List.mem_cons.1 hy with rfl | hy
          · exact .inr (by simp)
          · rcases i2 y hy with q | q
            · exact .inl q
            · exact .inr (List.mem_cons_of_mem _ q)
def findE (k : Ky) (L : List En) : Option En := L.find? fun x => decide (x.e.key = k)
theorem findE_some {k : Ky} {L : List En} {x : En} (h : findE k L = some x) : x.e.key = k ∧ ∃ A B, L = A ++ x :: B := by
  have h1 := List.mem_of_find?_eq_some h
  have h2 := List.find?_some h
  exact ⟨by simpa using h2, List.append_of_mem h1⟩
theorem findE_none {k : Ky} {L : List En} (h : findE k L = none) : k ∉ keysL (L.map En.kp) := fun hk => by
  rw [kp_keys, List.map_map] at hk
  obtain ⟨x, hx, hk⟩ := List.mem_map.1 hk
  unfold findE at h
  rw [List.find?_eq_none] at h
  exact h x hx (by simpa using hk)
theorem getE {k : Ky} {L : List En} : getL k (L.map En.kp) = (findE k L).map En.p := by
  induction L with
  | nil => rfl
  | cons x r ih =>
    unfold findE at *
    rw [List.map_cons]
    by_cases h : x.e.key = k
    · rw [getL_cons_eq (x := x.kp) h, List.find?_cons_of_pos (by simpa using h)]; rfl
    · rw [getL_cons_ne (x := x.kp) h, List.find?_cons_of_neg (by simpa using h), ih]
def insK (e : Kp) : List Kp → List Kp
  | [] => [e]
  | x :: r => if kLt e.key x.key then e :: x :: r else x :: insK e r
def insE (e : En) : List En → List En
  | [] => [e]
  | x :: r => if kLt e.e.key x.e.key then e :: x :: r else x :: insE e r
theorem insE_e (e : En) : ∀ L, (insE e L).map En.e = insK e.e (L.map En.e)
  | [] => rfl
  | x :: r => by
    unfold insE
    rw [List.map_cons, insK]
    split
    · rfl
    · rw [List.map_cons, insE_e e r]
theorem insE_perm (e : En) : ∀ L, (e :: L).Perm (insE e L)
  | [] => .refl _
  | x :: r => by
    unfold insE
    split
    · exact .refl _
    · exact (List.Perm.swap _ _ _).trans ((insE_perm e r).cons x)
theorem insK_mem {e : Kp} : ∀ {l : List Kp} {y : Kp}, y ∈ insK e l → y = e ∨ y ∈ l
  | [], y, h => by simpa [insK] using h
  | x :: r, y, h => by
    unfold insK at h
    split at h
    · rcases List.mem_cons.1 h with q | q
      · exact .inl q
      · exact .inr q
    · rcases List.mem_cons.1 h with q | q
      · exact .inr (by simp [q])
      · rcases insK_mem q with q | q
        · exact .inl q
        · exact .inr (by simp [q])
theorem insK_srt {e : Kp} : ∀ {l : List Kp}, SrtK l → e.key ∉ l.map Kp.key → SrtK (insK e l)
  | [], _, _ => by simp [insK, SrtK]
  | x :: r, h, hn => by
    have h' := List.pairwise_cons.1 h
    unfold insK
    split
    · rename_i hlt
      refine List.pairwise_cons.2 ⟨fun y hy => ?_, h⟩
      rcases List.mem_cons.1 hy with rfl | hy
      · exact hlt
      · exact kLt_tr hlt (h'.1 y hy)
    · rename_i hlt
      have hxe : kLt x.key e.key := by
        by_cases q : kLt x.key e.key
        · exact q
        · exact absurd (List.mem_map.2 ⟨x, by simp, (kLt_tot q hlt)⟩) hn
      refine List.pairwise_cons.2 ⟨fun y hy => ?_, insK_srt h'.2 (fun hm => hn (by rw [List.map_cons]; exact List.mem_cons_of_mem _ hm))⟩
      rcases insK_mem hy with rfl | hy
      · exact hxe
      · exact h'.1 y hy
def setLs (k : Ky) (f : List Ls → List Ls) (l : List Kp) : List Kp := l.map fun e => if e.key = k then e.with (f e.ls) else e
end Go.SvM
/-
  A server's share opened in its place, and shut again. (Conditions: none; generic over the program.)
-/
set_option maxRecDepth 20000
namespace Go.SvM
open Go.SL Go.ShM Go.RowKit
theorem lookE {k : Ky} {L : List En} : Value.tuple #[((getL k (L.map En.kp)).map vfP).getD (.pointer none), .bool (getL k (L.map En.kp)).isSome] = Value.tuple #[((findE k L).map fun x => vfP x.p).getD (.pointer none), .bool (findE k L).isSome] := by
  rw [getE]
  cases findE k L <;> rfl
theorem lookE1 {k : Ky} {L : List En} : ((getL k (L.map En.kp)).map vfP).getD (.pointer none) = ((findE k L).map fun x => vfP x.p).getD (.pointer none) := by
  rw [getE]
  cases findE k L <;> rfl
theorem sat_enopen {tK tU : TypeId} {x : En} {A B : List En} {S : List Asn} {w : World} : sat w (star (FEn tK tU) (A ++ x :: B) :: S) ↔ sat w (cl x.p tK [sl x.a x.e.b.length x.cap, .map (some x.m)] :: arr x.a x.cap 1 tU (eU .u8 (w := 8)) x.e.b :: mpP x.m kfW vfI x.e.ls :: star (FEn tK tU) (A ++ B) :: S) := by
  rw [← sat_enhead]
  exact ⟨fun h => star_perm List.perm_middle h, fun h => star_perm List.perm_middle.symm h⟩
section
variable {P : Program} {m : Md} {ops : Array Oper} {Q : Exit → Act → World → Prop} {w0 : World} {n : Nat} {rest : List Oper} {L : List (Nat × Value)} {A0 R : List Asn} {c : Code}
theorem WC_enopen (tK tU : TypeId) (A : List En) (x : En) (B : List En) (k : WC P m Q w0 n c L (cl x.p tK [sl x.a x.e.b.length x.cap, .map (some x.m)] :: arr x.a x.cap 1 tU (eU .u8 (w := 8)) x.e.b :: mpP x.m kfW vfI x.e.ls :: star (FEn tK tU) (A ++ B) :: R)) (hE : Ext A0 (star (FEn tK tU) (A ++ x :: B)) R := by repeat (first | with_reducible exact Ext.here | with_reducible apply Ext.there)) : WC P m Q w0 n c L A0 :=
  WC_imp (fun _ hs => sat_enopen.1 (sat_perm hE hs)) k
theorem sat_enshut {tK tU : TypeId} {x : En} {e' : Kp} {A B : List En} {S : List Asn} {w : World} (hb : e'.b = x.e.b) (h : sat w (cl x.p tK [sl x.a x.e.b.length x.cap, .map (some x.m)] :: arr x.a x.cap 1 tU (eU .u8 (w := 8)) x.e.b :: mpP x.m kfW vfI e'.ls :: star (FEn tK tU) (A ++ B) :: S)) : sat w (star (FEn tK tU) (A ++ x.put e' :: B) :: S) := by
  rw [sat_enopen]
  unfold En.put
  dsimp only
  rw [hb]; exact h
theorem Ps_enclose {K : Act → World → Prop} (tK tU : TypeId) (A : List En) (x : En) (B : List En) (k : Ps m K w0 n L (star (FEn tK tU) (A ++ x :: B) :: R)) (hG : Gv A0 [cl x.p tK [sl x.a x.e.b.length x.cap, .map (some x.m)], arr x.a x.cap 1 tU (eU .u8 (w := 8)) x.e.b, mpP x.m kfW vfI x.e.ls, star (FEn tK tU) (A ++ B)] R := by repeat (first | with_reducible exact Gv.nil | (with_reducible apply Gv.cons; · (repeat (first | with_reducible exact Ext.here | with_reducible apply Ext.there))))) : Ps m K w0 n L A0 :=
  Ps_imp (fun _ hs => sat_enopen.2 (sat_perm hG hs)) k
theorem WL_enclose (tK tU : TypeId) (A : List En) (x : En) (B : List En) (k : WL P m ops Q w0 n rest L (star (FEn tK tU) (A ++ x :: B) :: R)) (hG : Gv A0 [cl x.p tK [sl x.a x.e.b.length x.cap, .map (some x.m)], arr x.a x.cap 1 tU (eU .u8 (w := 8)) x.e.b, mpP x.m kfW vfI x.e.ls, star (FEn tK tU) (A ++ B)] R := by repeat (first | with_reducible exact Gv.nil | (with_reducible apply Gv.cons; · (repeat (first | with_reducible exact Ext.here | with_reducible apply Ext.there))))) : WL P m ops Q w0 n rest L A0 :=
  WL_imp (fun _ hs => sat_enopen.2 (sat_perm hG hs)) k
theorem Ps_ennew {K : Act → World → Prop} (tK tU : TypeId) (ix : Ix) (nn : Int) (b : List B8) (ls : List Ls) (p : Nat) (a : Option Nat) (cap mm : Nat) (L0 : List En) (k : Ps m K w0 n L (star (FEn tK tU) ((⟨⟨ix, nn, b, ls⟩, p, a, cap, mm⟩ : En) :: L0) :: R)) (hG : Gv A0 [cl p tK [sl a b.length cap, .map (some mm)], arr a cap 1 tU (eU .u8 (w := 8)) b, mpP mm kfW vfI ls, star (FEn tK tU) L0] R := by repeat (first | with_reducible exact Gv.nil | (with_reducible apply Gv.cons; · (repeat (first | with_reducible exact Ext.here | with_reducible apply Ext.there))))) : Ps m K w0 n L A0 :=
  Ps_imp (fun _ hs => (sat_enhead (x := (⟨⟨ix, nn, b, ls⟩, p, a, cap, mm⟩ : En))).2 (sat_perm hG hs)) k
end
theorem new_map {ix : Ix} {n : Int} {b : List B8} {ls : List Ls} {L : List En} {p : Nat} {a : Option Nat} {cap m : Nat} (hf : findE (ix, n) L = none) : (putL (ix, n) p (L.map En.kp)).Perm ((insE (⟨⟨ix, n, b, ls⟩, p, a, cap, m⟩ : En) L).map En.kp) := by
  unfold putL
  rw [delL_no (findE_none hf)]
  exact (insE_perm (⟨⟨ix, n, b, ls⟩, p, a, cap, m⟩ : En) L).map En.kp
end Go.SvM
/-
  A server's share shut with other leases. (Conditions: none; generic over the program.)
-/
set_option maxRecDepth 20000
namespace Go.SvM
open Go.SL Go.ShM Go.RowKit
section
variable {P : Program} {m : Md} {ops : Array Oper} {Q : Exit → Act → World → Prop} {w0 : World} {n : Nat} {rest : List Oper} {L : List (Nat × Value)} {A0 R : List Asn} {c : Code}
theorem Ps_enshutL {K : Act → World → Prop} (tK tU : TypeId) (A : List En) (x : En) (ls' : List Ls) (B : List En) (k : Ps m K w0 n L (star (FEn tK tU) (A ++ x.put (x.e.with ls') :: B) :: R)) (hG : Gv A0 [cl x.p tK [sl x.a x.e.b.length x.cap, .map (some x.m)], arr x.a x.cap 1 tU (eU .u8 (w := 8)) x.e.b, mpP x.m kfW vfI ls', star (FEn tK tU) (A ++ B)] R := by repeat (first | with_reducible exact Gv.nil | (with_reducible apply Gv.cons; · (repeat (first | with_reducible exact Ext.here | with_reducible apply Ext.there))))) : Ps m K w0 n L A0 :=
  Ps_imp (fun _ hs => sat_enshut (e' := x.e.with ls') rfl (sat_perm hG hs)) k
theorem WL_enshutL (tK tU : TypeId) (A : List En) (x : En) (ls' : List Ls) (B : List En) (k : WL P m ops Q w0 n rest L (star (FEn tK tU) (A ++ x.put (x.e.with ls') :: B) :: R)) (hG : Gv A0 [cl x.p tK [sl x.a x.e.b.length x.cap, .map (some x.m)], arr x.a x.cap 1 tU (eU .u8 (w := 8)) x.e.b, mpP x.m kfW vfI ls', star (FEn tK tU) (A ++ B)] R := by repeat (first | with_reducible exact Gv.nil | (with_reducible apply Gv.cons; · (repeat (first | with_reducible exact Ext.here | with_reducible apply Ext.there))))) : WL P m ops Q w0 n rest L A0 :=
  WL_imp (fun _ hs => sat_enshut (e' := x.e.with ls') rfl (sat_perm hG hs)) k
end
end Go.SvM
/-
  A server's shares changed one by one: those under an index of which something holds. (Conditions: none; no program in sight.)
-/
set_option maxRecDepth 20000
namespace Go.SvM
open Go.SL Go.ShM Go.RowKit
def chg (g : List Ls → List Ls) (x : En) : Option En := (keepK x.e (g x.e.ls)).map x.put
def chgK (g : List Ls → List Ls) (e : Kp) : Option Kp := keepK e (g e.ls)
def midE (ix : Ix) (ns : List Int) (g : List Ls → List Ls) (i : Nat) (L : List En) : List En := L.filterMap fun x => if x.e.ix = ix ∧ x.e.num ∈ ns.take i then chg g x else some x
def allE (ix : Ix) (p : Kp → Bool) (g : List Ls → List Ls) (L : List En) : List En := L.filterMap fun x => if (decide (x.e.ix = ix) && p x.e) = true then chg g x else some x
def allK (ix : Ix) (p : Kp → Bool) (g : List Ls → List Ls) (L : List Kp) : List Kp := L.filterMap fun e => if (decide (e.ix = ix) && p e) = true then chgK g e else some e
theorem allE_e (ix : Ix) (p : Kp → Bool) (g : List Ls → List Ls) (L : List En) : (allE ix p g L).map En.e = allK ix p g (L.map En.e) := by
  unfold allE allK
  rw [List.map_filterMap, List.filterMap_map]
  congr 1
  funext x
  simp only [Function.comp]
  split
  · unfold chg chgK
    rw [Option.map_map]
    cases keepK x.e (g x.e.ls) <;> rfl
  · rfl
theorem fmap_congr {α β : Type} {f g : α → Option β} : ∀ {l : List α}, (∀ x ∈ l, f x = g x) → l.filterMap f = l.filterMap g
  | [], _ => rfl
  | x :: r, h => by rw [List.filterMap_cons, List.filterMap_cons, h x (by simp), fmap_congr fun y hy => h y (List.mem_cons_of_mem _ hy)]
theorem mid_zero (ix : Ix) (ns : List Int) (g : List Ls → List Ls) (L : List En) : midE ix ns g 0 L = L := by
  unfold midE
  simp
theorem En.key_eq {x : En} {ix : Ix} {n : Int} : x.e.key = (ix, n) ↔ x.e.ix = ix ∧ x.e.num = n := by
  unfold Kp.key
  exact Prod.mk.injEq _ _ _ _ ▸ Iff.rfl
theorem nodup_keys {L : List En} (h : SrtK (L.map En.e)) : (L.map fun x => x.e.key).Nodup := by
  have := h.nd
  rw [List.map_map] at this
  exact this
theorem key_uniq {L : List En} (h : (L.map fun x => x.e.key).Nodup) {x y : En} (hx : x ∈ L) (hy : y ∈ L) (e : x.e.key = y.e.key) : x = y := by
  induction L with
  | nil => cases hx
  | cons z r ih =>
    rw [List.map_cons, List.nodup_cons] at h
    rcases List.mem_cons.1 hx with hx' | hx'
    · rcases List.mem_cons.1 hy with hy' | hy'
      · rw [hx', hy']
      · exact absurd (List.mem_map.2 ⟨y, hy', by rw [← hx', e]⟩ : z.e.key ∈ r.map fun z => z.e.key) h.1
    · rcases List.mem_cons.1 hy with hy' | hy'
      · exact absurd (List.mem_map.2 ⟨x, hx', by rw [← hy', e]⟩ : z.e.key ∈ r.map fun z => z.e.key) h.1
      · exact ih h.2 hx' hy'
theorem under_mem {ix : Ix} {p : Kp → Bool} {L : List En} {n : Int} : n ∈ underM ix p (L.map En.e) ↔ ∃ x ∈ L, x.e.ix = ix ∧ p x.e = true ∧ x.e.num = n := by
  unfold underM
  simp only [List.mem_map, List.mem_filter, Bool.and_eq_true, decide_eq_true_eq]
  constructor
  · rintro ⟨e, ⟨⟨x, hx, rfl⟩, h1, h2⟩, h3⟩; exact ⟨x, hx, h1, h2, h3⟩
  · rintro ⟨x, hx, h1, h2, h3⟩; exact ⟨x.e, ⟨⟨x, hx, rfl⟩, h1, h2⟩, h3⟩
theorem mid_end {ix : Ix} {p : Kp → Bool} {g : List Ls → List Ls} {L : List En} {i : Nat} (h : SrtK (L.map En.e)) (hi : i = (underM ix p (L.map En.e)).length) : midE ix (underM ix p (L.map En.e)) g i L = allE ix p g L := by
  subst hi
  unfold midE allE
  rw [List.take_length]
  refine fmap_congr fun x hx => ?_
  have hk : (x.e.ix = ix ∧ x.e.num ∈ underM ix p (L.map En.e)) ↔ (decide (x.e.ix = ix) && p x.e) = true := by
    rw [under_mem, Bool.and_eq_true, decide_eq_true_eq]
    constructor
    · rintro ⟨h1, y, hy, h2, h3, h4⟩
      have := key_uniq (nodup_keys h) hx hy (by unfold Kp.key; rw [h1, h2, h4])
      subst this
      exact ⟨h1, h3⟩
    · rintro ⟨h1, h2⟩; exact ⟨h1, x, hx, h1, h2, rfl⟩
  by_cases q : x.e.ix = ix ∧ x.e.num ∈ underM ix p (L.map En.e)
  · rw [if_pos q, if_pos (hk.1 q)]
  · rw [if_neg q, if_neg (fun z => q (hk.2 z))]
theorem mid_mem {ix : Ix} {ns : List Int} {g : List Ls → List Ls} {i : Nat} {L : List En} {y : En} (h : y ∈ midE ix ns g i L) : ∃ x ∈ L, x.e.key = y.e.key := by
  obtain ⟨x, hx, hy⟩ := List.mem_filterMap.1 h
  refine ⟨x, hx, ?_⟩
  split at hy
  · unfold chg at hy
    rw [Option.map_eq_some_iff] at hy
    obtain ⟨e, he, rfl⟩ := hy
    exact (keepK_key he).1.symm
  · cases hy; rfl
theorem find_at {k : Ky} {A B : List En} {x : En} (hx : x.e.key = k) (hA : ∀ y ∈ A, y.e.key ≠ k) : findE k (A ++ x :: B) = some x := by
  unfold findE
  rw [List.find?_append, List.find?_eq_none.2 (fun y hy => by simpa using hA y hy)]
  rw [List.find?_cons_of_pos (by simpa using hx)]
  rfl
theorem mid_step {ix : Ix} {p : Kp → Bool} {g : List Ls → List Ls} {L : List En} {i : Nat} (h : SrtK (L.map En.e)) (hi : i < (underM ix p (L.map En.e)).length) :
    ∃ A x B, midE ix (underM ix p (L.map En.e)) g i L = A ++ x :: B ∧ x ∈ L ∧ x.e.key = (ix, (underM ix p (L.map En.e)).getD i 0) ∧ findE (ix, (underM ix p (L.map En.e)).getD i 0) (A ++ x :: B) = some x ∧ p x.e = true ∧
      x.e.key ∉ A.map (fun y => y.e.key) ∧ x.e.key ∉ B.map (fun y => y.e.key) ∧ midE ix (underM ix p (L.map En.e)) g (i + 1) L = A ++ ((chg g x).toList ++ B) := by
  have hsr := underM_srt (x := ix) (p := p) h
  have hmem : (underM ix p (L.map En.e)).getD i 0 ∈ underM ix p (L.map En.e) := by rw [List.getD_eq_getElem?_getD, List.getElem?_eq_getElem hi]; exact List.getElem_mem hi
  obtain ⟨x, hx, h1, h2, h3⟩ := under_mem.1 hmem
  generalize hns : underM ix p (L.map En.e) = ns at *
  generalize hn : ns.getD i 0 = n at *
  have hkey : x.e.key = (ix, n) := En.key_eq.2 ⟨h1, h3⟩
  obtain ⟨A0, B0, rfl⟩ := List.append_of_mem hx
  have hnd := nodup_keys h
  rw [List.map_append, List.map_cons] at hnd
  have hnd2 := List.nodup_cons.1 ((List.perm_middle.nodup_iff).1 hnd)
  rw [← List.map_append] at hnd2
  have hout : ∀ y ∈ A0 ++ B0, y.e.key ≠ (ix, n) := fun y hy e => hnd2.1 (List.mem_map.2 ⟨y, hy, e.trans hkey.symm⟩)
  have hnt : n ∉ ns.take i := by
    intro hm
    obtain ⟨j, hj, e⟩ := List.mem_iff_getElem.1 hm
    rw [List.length_take] at hj
    rw [List.getElem_take] at e
    have := List.pairwise_iff_getElem.1 hsr j i (by omega) hi (by omega)
    rw [List.getD_eq_getElem?_getD, List.getElem?_eq_getElem hi] at hn
    simp only [Option.getD_some] at hn
    omega
  have htk : ns.take (i + 1) = ns.take i ++ [n] := by
    rw [List.take_add_one, List.getElem?_eq_getElem hi]
    rw [List.getD_eq_getElem?_getD, List.getElem?_eq_getElem hi] at hn
    simp only [Option.getD_some] at hn
    rw [hn]; rfl
  have hsame : ∀ C : List En, (∀ y ∈ C, y.e.key ≠ (ix, n)) → midE ix ns g (i + 1) C = midE ix ns g i C := fun C hC => by
    unfold midE
    refine fmap_congr fun y hy => ?_
    have hk : (y.e.ix = ix ∧ y.e.num ∈ ns.take (i + 1)) ↔ (y.e.ix = ix ∧ y.e.num ∈ ns.take i) := by
      rw [htk, List.mem_append, List.mem_singleton]
      constructor
      · rintro ⟨q1, q2 | q2⟩
        · exact ⟨q1, q2⟩
        · exact absurd (En.key_eq.2 ⟨q1, q2⟩) (hC y hy)
      · rintro ⟨q1, q2⟩; exact ⟨q1, .inl q2⟩
    by_cases q : y.e.ix = ix ∧ y.e.num ∈ ns.take i
    · rw [if_pos q, if_pos (hk.2 q)]
    · rw [if_neg q, if_neg (fun z => q (hk.1 z))]
  have hA : ∀ y ∈ A0, y.e.key ≠ (ix, n) := fun y hy => hout y (by simp [hy])
  have hB : ∀ y ∈ B0, y.e.key ≠ (ix, n) := fun y hy => hout y (by simp [hy])
  have hAm : ∀ y ∈ midE ix ns g i A0, y.e.key ≠ (ix, n) := fun y hy => by
    obtain ⟨z, hz, e⟩ := mid_mem hy; rw [← e]; exact hA z hz
  have hBm : ∀ y ∈ midE ix ns g i B0, y.e.key ≠ (ix, n) := fun y hy => by
    obtain ⟨z, hz, e⟩ := mid_mem hy; rw [← e]; exact hB z hz
  refine ⟨midE ix ns g i A0, x, midE ix ns g i B0, ?_, by simp, hkey, find_at hkey hAm, h2, ?_, ?_, ?_⟩
  · show List.filterMap _ (A0 ++ x :: B0) = _
    rw [List.filterMap_append, List.filterMap_cons, if_neg (fun q => hnt (h3 ▸ q.2))]
    rfl
  · rw [hkey]; intro q; obtain ⟨y, hy, e⟩ := List.mem_map.1 q; exact hAm y hy e
  · rw [hkey]; intro q; obtain ⟨y, hy, e⟩ := List.mem_map.1 q; exact hBm y hy e
  · rw [← hsame A0 hA, ← hsame B0 hB]
    show List.filterMap _ (A0 ++ x :: B0) = _
    rw [List.filterMap_append, List.filterMap_cons, if_pos ⟨h1, by rw [htk, h3]; simp⟩]
    unfold midE
    cases chg g x <;> rfl
theorem mid_used (ix : Ix) (ns : List Int) (g : List Ls → List Ls) (i : Nat) : ∀ L : List En, usedE (midE ix ns g i L) ≤ usedE L
  | [] => Nat.le_refl _
  | x :: r => by
    have h := mid_used ix ns g i r
    unfold midE at *
    rw [List.filterMap_cons, usedE_cons]
    split
    · omega
    · rename_i y hy
      rw [usedE_cons]
      have : y.e.b = x.e.b := by
        split at hy
        · unfold chg at hy
          rw [Option.map_eq_some_iff] at hy
          obtain ⟨e, he, rfl⟩ := hy
          exact (keepK_key he).2.1
        · cases hy; rfl
      rw [this]; omega
theorem under_len {ix : Ix} {p : Kp → Bool} {L : List En} : (underM ix p (L.map En.e)).length ≤ L.length := by
  unfold underM
  rw [List.length_map]
  exact Nat.le_trans (List.length_filter_le _ _) (Nat.le_of_eq (List.length_map _))
theorem layL_ne (w : B32) (u : Int) : ∀ ls : List Ls, layL w u ls ≠ []
  | [] => by simp [layL]
  | x :: r => by unfold layL; split; · simp
                 split <;> simp
theorem cut_used {x : En} {a b : List En} {ls : List Ls} : (if ls = [] then usedE (a ++ x :: b) - x.e.b.length else usedE (a ++ x :: b)) = usedE (a ++ (((keepK x.e ls).map x.put).toList ++ b)) := by
  unfold keepK
  rw [usedE_app, usedE_cons, usedE_app, usedE_app]
  by_cases h : ls = []
  · rw [if_pos h, if_pos h]
    simp only [Option.map_none, Option.toList_none]
    rw [show usedE ([] : List En) = 0 from rfl]; omega
  · rw [if_neg h, if_neg h]
    simp only [Option.map_some, Option.toList_some]
    rw [usedE_cons, show usedE ([] : List En) = 0 from rfl]
    have : (x.put (x.e.with ls)).e.b = x.e.b := rfl
    rw [this]; omega
theorem cut_map {x : En} {a b : List En} {ls : List Ls} (ha : x.e.key ∉ a.map (fun y => y.e.key)) (hb : x.e.key ∉ b.map (fun y => y.e.key)) : (if ls = [] then delL x.e.key ((a ++ x :: b).map En.kp) else (a ++ x :: b).map En.kp) = (a ++ (((keepK x.e ls).map x.put).toList ++ b)).map En.kp := by
  have hk : ∀ c : List En, keysL (c.map En.kp) = c.map (fun y => y.e.key) := fun c => by rw [kp_keys, List.map_map]; rfl
  unfold keepK
  by_cases h : ls = []
  · rw [if_pos h, if_pos h]
    simp only [Option.map_none, Option.toList_none, List.nil_append, List.map_append, List.map_cons]
    have h1 := delL_no (l := a.map En.kp) (k := x.e.key) (by rw [hk]; exact ha)
    have h2 := delL_no (l := b.map En.kp) (k := x.e.key) (by rw [hk]; exact hb)
    unfold delL at *
    rw [List.filter_append, h1, List.filter_cons_of_neg (by unfold En.kp; simp), h2]
  · rw [if_neg h, if_neg h]
    simp only [Option.map_some, Option.toList_some, List.cons_append, List.nil_append, List.map_append, List.map_cons]
    rfl
theorem en_cut {tK tU : TypeId} {x : En} {ls : List Ls} {A B : List En} {S : List Asn} {w : World}
    (h : sat w (cl x.p tK [sl x.a x.e.b.length x.cap, .map (some x.m)] :: arr x.a x.cap 1 tU (eU .u8 (w := 8)) x.e.b :: mpP x.m kfW vfI ls :: star (FEn tK tU) (A ++ B) :: S)) :
    sat w (star (FEn tK tU) (A ++ (((keepK x.e ls).map x.put).toList ++ B)) :: S) :=
  star_perm (by rw [← List.append_assoc, ← List.append_assoc]; exact List.Perm.append_right _ List.perm_append_comm) (en_keep h)
section
variable {P : Program} {m : Md} {ops : Array Oper} {Q : Exit → Act → World → Prop} {w0 : World} {n : Nat} {rest : List Oper} {L : List (Nat × Value)} {A0 R : List Asn} {c : Code}
theorem WL_encut (tK tU : TypeId) (A : List En) (x : En) (B : List En) (ls : List Ls) (k : WL P m ops Q w0 n rest L (star (FEn tK tU) (A ++ (((keepK x.e ls).map x.put).toList ++ B)) :: R)) (hG : Gv A0 [cl x.p tK [sl x.a x.e.b.length x.cap, .map (some x.m)], arr x.a x.cap 1 tU (eU .u8 (w := 8)) x.e.b, mpP x.m kfW vfI ls, star (FEn tK tU) (A ++ B)] R := by repeat (first | with_reducible exact Gv.nil | (with_reducible apply Gv.cons; · (repeat (first | with_reducible exact Ext.here | with_reducible apply Ext.there))))) : WL P m ops Q w0 n rest L A0 :=
  WL_imp (fun _ hs => en_cut (sat_perm hG hs)) k
end
end Go.SvM
/-
  What a server answers, and what it holds then, in plain words. (Conditions: none; no program in sight.)
-/
set_option maxRecDepth 20000
namespace Go.SvM
open Go.SL Go.ShM Go.RowKit
structure Rp where
  kind : Int
  ns : List Int
  bs : List B8
def rp0 (k : Int) : Rp := ⟨k, [], []⟩
def storeM (room : Int) (l : List Kp) (r : Rq) : Rp × List Kp :=
  match findK (r.ix, r.num) l with
  | none => if room - (usedM l : Int) < (r.b.l.length : Int) then (rp0 3, l) else (rp0 2, insK ⟨r.ix, r.num, r.b.l, [(r.who, r.un)]⟩ l)
  | some e => if e.b ≠ r.b.l then (rp0 4, l) else if hasW r.who e.ls = false ∧ 64 ≤ e.ls.length then (rp0 3, l) else (rp0 2, setLs (r.ix, r.num) (layL r.who r.un) l)
def fetchM (l : List Kp) (r : Rq) : Rp :=
  match findK (r.ix, r.num) l with
  | none => rp0 6
  | some e => if (e.b.length : Int) < r.at_ + r.len then rp0 6 else ⟨5, [], (e.b.take (r.at_.toNat + r.len.toNat)).drop r.at_.toNat⟩
def heldM (r : Rq) (l : List Kp) : List Int := underM r.ix (fun e => hasW r.who e.ls) l
def doM (room : Int) (l : List Kp) (r : Rq) : Rp × List Kp :=
  if r.kind = 1#8 then (⟨1, underM r.ix (fun _ => true) l, []⟩, l)
  else if r.kind = 2#8 then storeM room l r
  else if r.kind = 3#8 then (fetchM l r, l)
  else if r.kind = 4#8 then (⟨1, heldM r l, []⟩, allK r.ix (fun e => hasW r.who e.ls) (layL r.who r.un) l)
  else (⟨1, heldM r l, []⟩, allK r.ix (fun e => hasW r.who e.ls) (delL r.who) l)
def livesQ (t : Int) (r : Rq) : Bool := decide (t ≤ r.un) || (decide (r.kind ≠ 2#8) && decide (r.kind ≠ 4#8))
structure Sv1 where
  tick : Int
  l : List Kp
def callM (room : Int) (s : Sv1) (t : Int) (r : Rq) : Rp × Int × Sv1 :=
  if t < s.tick ∨ 1099511627776 < t then (rp0 0, 191, s)
  else if mayQ r && livesQ t r then ((doM room (tickL t s.l) r).1, 0, ⟨t, (doM room (tickL t s.l) r).2⟩)
  else (rp0 7, 0, ⟨t, tickL t s.l⟩)
structure Wf (room : Int) (s : Sv1) : Prop where
  rm : 0 ≤ room ∧ room ≤ 1073741824
  tk : 0 ≤ s.tick ∧ s.tick ≤ 1099511627776
  srt : SrtK s.l
  ws : ∀ e ∈ s.l, SrtW e.ls
  num : ∀ e ∈ s.l, 0 ≤ e.num ∧ e.num < 255
  len : ∀ e ∈ s.l, e.b.length ≤ 33554432
  ls : ∀ e ∈ s.l, 1 ≤ e.ls.length ∧ e.ls.length ≤ 64
  un : ∀ e ∈ s.l, ∀ x ∈ e.ls, s.tick ≤ x.2 ∧ x.2 ≤ 1099511627776
  used : (usedM s.l : Int) ≤ room
structure WfK (t : Int) (e : Kp) : Prop where
  ws : SrtW e.ls
  num : 0 ≤ e.num ∧ e.num < 255
  len : e.b.length ≤ 33554432
  ls : 1 ≤ e.ls.length ∧ e.ls.length ≤ 64
  un : ∀ x ∈ e.ls, t ≤ x.2 ∧ x.2 ≤ 1099511627776
theorem Wf.one {room : Int} {s : Sv1} (h : Wf room s) {e : Kp} (he : e ∈ s.l) : WfK s.tick e := ⟨h.ws e he, h.num e he, h.len e he, h.ls e he, h.un e he⟩
theorem Wf.of {room : Int} {s : Sv1} (rm : 0 ≤ room ∧ room ≤ 1073741824) (tk : 0 ≤ s.tick ∧ s.tick ≤ 1099511627776) (srt : SrtK s.l) (all : ∀ e ∈ s.l, WfK s.tick e) (used : (usedM s.l : Int) ≤ room) : Wf room s :=
  ⟨rm, tk, srt, fun e h => (all e h).ws, fun e h => (all e h).num, fun e h => (all e h).len, fun e h => (all e h).ls, fun e h => (all e h).un, used⟩
theorem used_fm {f : Kp → Option Kp} (hf : ∀ e x, f e = some x → x.b = e.b) : ∀ l : List Kp, usedM (l.filterMap f) ≤ usedM l
  | [] => Nat.le_refl _
  | x :: r => by
    have h := used_fm hf r
    rw [List.filterMap_cons, usedM_cons]
    split
    · omega
    · rename_i y hy; rw [usedM_cons, hf x y hy]; omega
theorem Wf.fm {room : Int} {s : Sv1} {t : Int} {f : Kp → Option Kp} (h : Wf room s) (ht : 0 ≤ t ∧ t ≤ 1099511627776) (hf : ∀ e x, f e = some x → x.key = e.key ∧ x.b = e.b) (hk : ∀ e ∈ s.l, ∀ x, f e = some x → WfK t x) : Wf room ⟨t, s.l.filterMap f⟩ := by
  refine Wf.of h.rm ht (h.srt.fm fun e x q => (hf e x q).1) (fun y hy => ?_) ?_
  · obtain ⟨e, he, q⟩ := List.mem_filterMap.1 hy
    exact hk e he y q
  · have := used_fm (fun e x q => (hf e x q).2) s.l
    have := h.used
    show ((usedM (s.l.filterMap f) : Nat) : Int) ≤ room
    omega
theorem WfK.keep {t t' : Int} {e x : Kp} {ls : List Ls} (h : WfK t e) (hx : keepK e ls = some x) (hs : SrtW ls) (hl : ls.length ≤ 64) (hu : ∀ y ∈ ls, t' ≤ y.2 ∧ y.2 ≤ 1099511627776) : WfK t' x := by
  obtain ⟨h1, h2, h3, h4⟩ := keepK_key hx
  have hn : x.num = e.num := congrArg Prod.snd h1
  have h5 : 1 ≤ ls.length := by
    cases ls with
    | nil => exact absurd rfl h4
    | cons _ _ => simp
  exact ⟨by rw [h3]; exact hs, by rw [hn]; exact h.num, by rw [h2]; exact h.len, by rw [h3]; exact ⟨h5, hl⟩, by rw [h3]; exact hu⟩
theorem SrtW.filter {ls : List Ls} (p : Ls → Bool) (h : SrtW ls) : SrtW (ls.filter p) := List.Pairwise.filter p h
theorem Wf.tick {room : Int} {s : Sv1} {t : Int} (h : Wf room s) (h1 : s.tick ≤ t) (h2 : t ≤ 1099511627776) : Wf room ⟨t, tickL t s.l⟩ := by
  have h0 := h.tk
  refine h.fm ⟨by omega, h2⟩ (fun e x q => ⟨(keepK_key q).1, (keepK_key q).2.1⟩) (fun e he x q => ?_)
  have hw := h.one he
  refine hw.keep q (SrtW.filter _ hw.ws) (Nat.le_trans (List.length_filter_le _ _) hw.ls.2) (fun y hy => ?_)
  obtain ⟨a, b⟩ := List.mem_filter.1 hy
  exact ⟨by simpa using b, (hw.un y a).2⟩
theorem layL_len (w : B32) (u : Int) : ∀ ls : List Ls, (layL w u ls).length ≤ ls.length + 1 ∧ (hasW w ls = true → SrtW ls → (layL w u ls).length = ls.length)
  | [] => ⟨by simp [layL], fun h => by simp [hasW] at h⟩
  | x :: r => by
    obtain ⟨i1, i2⟩ := layL_len w u r
    unfold layL
    by_cases e : x.1 = w
    · rw [if_pos e]; exact ⟨by simp, fun _ _ => by simp⟩
    · rw [if_neg e]
      by_cases q : w.toNat < x.1.toNat
      · rw [if_pos q]
        refine ⟨by simp, fun hh hs => ?_⟩
        exfalso
        obtain ⟨y, hy, hw⟩ := List.mem_map.1 (hasW_iff.1 hh)
        rcases List.mem_cons.1 hy with rfl | hy
        · exact e hw
        · have := (List.pairwise_cons.1 hs).1 y hy
          unfold wLt at this; rw [hw] at this; omega
      · rw [if_neg q]
        refine ⟨by simp; omega, fun hh hs => ?_⟩
        rw [List.length_cons, List.length_cons, i2 ?_ (List.pairwise_cons.1 hs).2]
        unfold hasW at hh ⊢
        rw [List.any_cons] at hh
        simpa [e] using hh
theorem layL_un {t : Int} {w : B32} {u : Int} (h1 : t ≤ u) (h2 : u ≤ 1099511627776) : ∀ {ls : List Ls}, (∀ x ∈ ls, t ≤ x.2 ∧ x.2 ≤ 1099511627776) → ∀ x ∈ layL w u ls, t ≤ x.2 ∧ x.2 ≤ 1099511627776
  | [], _, x, hx => by
    rw [layL, List.mem_singleton] at hx; subst hx; exact ⟨h1, h2⟩
  | y :: r, h, x, hx => by
    unfold layL at hx
    have hy := h y (by simp)
    split at hx
    · rcases List.mem_cons.1 hx with rfl | hx
      · exact ⟨by simp only; omega, by simp only; omega⟩
      · exact h x (List.mem_cons_of_mem _ hx)
    · split at hx
      · rcases List.mem_cons.1 hx with rfl | hx
        · exact ⟨h1, h2⟩
        · exact h x hx
      · rcases List.mem_cons.1 hx with rfl | hx
        · exact hy
        · exact layL_un h1 h2 (fun z hz => h z (List.mem_cons_of_mem _ hz)) x hx
structure MayR (r : Rq) : Prop where
  num : 0 ≤ r.num ∧ r.num < 255
  un : 0 ≤ r.un ∧ r.un ≤ 1099511627776
  len : r.b.l.length ≤ 33554432
  kind : r.kind = 1#8 ∨ r.kind = 2#8 ∨ r.kind = 3#8 ∨ r.kind = 4#8 ∨ r.kind = 5#8
  fetch : r.kind = 3#8 → (0 ≤ r.at_ ∧ r.at_ ≤ 33554432) ∧ 1 ≤ r.len ∧ r.len ≤ 131072
theorem kind_of {k : B8} {n : Nat} (hn : n < 256) (h : (k.toNat : Int) = n) : k = BitVec.ofNat 8 n := by
  apply BitVec.eq_of_toNat_eq
  rw [BitVec.toNat_ofNat, Nat.mod_eq_of_lt (by omega)]
  omega
theorem mayQ_may {r : Rq} (h : mayQ r = true) : MayR r := by
  unfold mayQ mayM bareM at h
  simp only [Bool.or_eq_true, Bool.and_eq_true, decide_eq_true_eq] at h
  refine ⟨⟨by omega, by omega⟩, ⟨by omega, by omega⟩, by simp only [Bool.false_eq_true, false_or, true_or] at h; omega, ?_, fun hk => ?_⟩
  · rcases h with (((h | h) | h) | h) | h
    · exact .inl (kind_of (n := 1) (by omega) (by omega))
    · exact .inr (.inl (kind_of (n := 2) (by omega) (by omega)))
    · exact .inr (.inr (.inl (kind_of (n := 3) (by omega) (by omega))))
    · exact .inr (.inr (.inr (.inl (kind_of (n := 4) (by omega) (by omega)))))
    · exact .inr (.inr (.inr (.inr (kind_of (n := 5) (by omega) (by omega)))))
  · have : (r.kind.toNat : Int) = 3 := by rw [hk]; rfl
    rcases h with (((h | h) | h) | h) | h <;> omega
end Go.SvM
/-
  What a server keeps to, kept by every call. (Conditions: none; no program in sight.)
-/
set_option maxRecDepth 20000
namespace Go.SvM
open Go.SL Go.ShM Go.RowKit
theorem insK_perm (e : Kp) : ∀ l : List Kp, (e :: l).Perm (insK e l)
  | [] => .refl _
  | x :: r => by
    unfold insK
    split
    · exact .refl _
    · exact (List.Perm.swap _ _ _).trans ((insK_perm e r).cons x)
theorem setLs_fm (k : Ky) (f : List Ls → List Ls) (l : List Kp) : setLs k f l = l.filterMap fun e => some (if e.key = k then e.with (f e.ls) else e) := by
  unfold setLs
  rw [← List.filterMap_eq_map]; rfl
theorem findK_uniq {l : List Kp} (h : SrtK l) {k : Ky} {e e' : Kp} (hf : findK k l = some e) (hm : e' ∈ l) (hk : e'.key = k) : e' = e := by
  have := findK_mem h.nd hm
  rw [hk, hf] at this
  exact (Option.some.inj this).symm
theorem laid_one {t : Int} {r : Rq} {e x : Kp} (h : WfK t e) (hu : t ≤ r.un ∧ r.un ≤ 1099511627776) (hok : hasW r.who e.ls = true ∨ e.ls.length < 64) (hx : keepK e (layL r.who r.un e.ls) = some x) : WfK t x := by
  refine h.keep hx (layL_srt h.ws).1 ?_ (layL_un hu.1 hu.2 h.un)
  obtain ⟨a, b⟩ := layL_len r.who r.un e.ls
  rcases hok with q | q
  · rw [b q h.ws]; exact h.ls.2
  · omega
theorem keepK_layL {e : Kp} {w : B32} {u : Int} : keepK e (layL w u e.ls) = some (e.with (layL w u e.ls)) := by
  unfold keepK; rw [if_neg (layL_ne _ _ _)]
theorem Wf.do_ {room : Int} {s : Sv1} {r : Rq} (h : Wf room s) (hm : MayR r) (hl : livesQ s.tick r = true) : Wf room ⟨s.tick, (doM room s.l r).2⟩ := by
  have hun : r.kind = 2#8 ∨ r.kind = 4#8 → s.tick ≤ r.un := fun hk => by
    unfold livesQ at hl
    simp only [Bool.or_eq_true, Bool.and_eq_true, decide_eq_true_eq, ne_eq] at hl
    rcases hl with q | ⟨q1, q2⟩
    · exact q
    · rcases hk with k | k
      · exact absurd k q1
      · exact absurd k q2
  unfold doM
  split
  · exact h
  split
  · rename_i _ hk
    have hun' := hun (.inl hk)
    unfold storeM
    split
    · rename_i hf
      split
      · exact h
      · rename_i hr
        have hno := findK_none hf
        refine Wf.of h.rm h.tk (insK_srt h.srt hno) (fun e he => ?_) ?_
        · rcases insK_mem he with rfl | he
          · exact ⟨by simp [SrtW], hm.num, hm.len, by simp, fun x hx => by
              rw [List.mem_singleton] at hx; subst hx; exact ⟨hun', hm.un.2⟩⟩
          · exact h.one he
        · show ((usedM (insK _ s.l) : Nat) : Int) ≤ room
          rw [← usedM_perm (insK_perm _ _), usedM_cons]
          simp only
          omega
    · rename_i e hf
      split
      · exact h
      split
      · exact h
      · rename_i hne hq
        show Wf room ⟨s.tick, setLs _ _ _⟩
        rw [setLs_fm]
        refine h.fm h.tk (fun e' x q => ?_) (fun e' he' x q => ?_)
        · cases q; split <;> exact ⟨rfl, rfl⟩
        · cases q
          split
          · rename_i hkey
            have := findK_uniq h.srt hf he' hkey
            subst this
            refine laid_one (r := r) (h.one he') ⟨hun', hm.un.2⟩ ?_ keepK_layL
            by_cases hw : hasW r.who e'.ls = true
            · exact .inl hw
            · refine .inr (Nat.lt_of_not_le fun h64 => hq ⟨by simpa using hw, h64⟩)
          · exact h.one he'
  split
  · exact h
  split
  · rename_i _ _ _ hk
    have hun' := hun (.inr hk)
    refine h.fm h.tk (fun e x q => ?_) (fun e he x q => ?_)
    · split at q
      · exact ⟨(keepK_key q).1, (keepK_key q).2.1⟩
      · cases q; exact ⟨rfl, rfl⟩
    · split at q
      · rename_i hp
        rw [Bool.and_eq_true] at hp
        exact laid_one (h.one he) ⟨hun', hm.un.2⟩ (.inl hp.2) q
      · cases q; exact h.one he
  · refine h.fm h.tk (fun e x q => ?_) (fun e he x q => ?_)
    · split at q
      · exact ⟨(keepK_key q).1, (keepK_key q).2.1⟩
      · cases q; exact ⟨rfl, rfl⟩
    · split at q
      · have hw := h.one he
        refine hw.keep q (SrtW.filter _ hw.ws) (Nat.le_trans (List.length_filter_le _ _) hw.ls.2) (fun y hy => hw.un y ((List.mem_filter.1 hy).1))
      · cases q; exact h.one he
theorem Wf.call {room : Int} {s : Sv1} {t : Int} {r : Rq} (h : Wf room s) : Wf room (callM room s t r).2.2 := by
  unfold callM
  split
  · exact h
  · have ht := h.tick (t := t) (by omega) (by omega)
    split
    · rename_i hp
      rw [Bool.and_eq_true] at hp
      exact ht.do_ (mayQ_may hp.1) hp.2
    · exact ht
theorem findE_K {k : Ky} : ∀ {L : List En}, findK k (L.map En.e) = (findE k L).map En.e
  | [] => rfl
  | x :: r => by
    have ih := findE_K (k := k) (L := r)
    unfold findK findE at *
    rw [List.map_cons]
    by_cases h : x.e.key = k
    · rw [List.find?_cons_of_pos (by simpa using h), List.find?_cons_of_pos (by simpa using h)]; rfl
    · rw [List.find?_cons_of_neg (by simpa using h), List.find?_cons_of_neg (by simpa using h), ih]
theorem setLs_no {k : Ky} {f : List Ls → List Ls} : ∀ {l : List Kp}, k ∉ l.map Kp.key → setLs k f l = l
  | [], _ => rfl
  | x :: r, h => by
    rw [List.map_cons, List.mem_cons, not_or] at h
    unfold setLs
    rw [List.map_cons, if_neg (fun e => h.1 e.symm)]
    rw [show List.map (fun e => if e.key = k then e.with (f e.ls) else e) r = setLs k f r from rfl, setLs_no h.2]
theorem setLs_at {k : Ky} {f : List Ls → List Ls} {A B : List En} {x : En} (h : SrtK ((A ++ x :: B).map En.e)) (hk : x.e.key = k) : setLs k f ((A ++ x :: B).map En.e) = (A ++ x.put (x.e.with (f x.e.ls)) :: B).map En.e := by
  have hnd := h.nd
  rw [List.map_append, List.map_cons, List.map_append, List.map_cons] at hnd
  have h2 := List.nodup_cons.1 ((List.perm_middle.nodup_iff).1 hnd)
  rw [List.mem_append, not_or, hk] at h2
  have hA := setLs_no (f := f) h2.1.1
  have hB := setLs_no (f := f) h2.1.2
  unfold setLs at hA hB ⊢
  rw [List.map_append, List.map_cons, List.map_append, List.map_cons, if_pos hk, hA, hB, List.map_append, List.map_cons]
  rfl
theorem find_split {k : Ky} {L : List En} {x : En} (h : findE k L = some x) : ∃ A B, L = A ++ x :: B ∧ x.e.key = k := by
  obtain ⟨h1, A, B, h2⟩ := findE_some h
  exact ⟨A, B, h2, h1⟩
theorem doM_1 {room : Int} {l : List Kp} {r : Rq} (h : r.kind = 1#8) : doM room l r = (⟨1, underM r.ix (fun _ => true) l, []⟩, l) := by unfold doM; rw [if_pos h]
theorem doM_2 {room : Int} {l : List Kp} {r : Rq} (h : r.kind = 2#8) : doM room l r = storeM room l r := by unfold doM; rw [h]; rfl
theorem doM_3 {room : Int} {l : List Kp} {r : Rq} (h : r.kind = 3#8) : doM room l r = (fetchM l r, l) := by unfold doM; rw [h]; rfl
theorem doM_4 {room : Int} {l : List Kp} {r : Rq} (h : r.kind = 4#8) : doM room l r = (⟨1, heldM r l, []⟩, allK r.ix (fun e => hasW r.who e.ls) (layL r.who r.un) l) := by unfold doM; rw [h]; rfl
theorem doM_5 {room : Int} {l : List Kp} {r : Rq} (h : r.kind = 5#8) : doM room l r = (⟨1, heldM r l, []⟩, allK r.ix (fun e => hasW r.who e.ls) (delL r.who) l) := by unfold doM; rw [h]; rfl
theorem storeM_full {room : Int} {l : List Kp} {r : Rq} (hf : findK (r.ix, r.num) l = none) (h : room - (usedM l : Int) < (r.b.l.length : Int)) : storeM room l r = (rp0 3, l) := by unfold storeM; rw [hf]; exact if_pos h
theorem storeM_new {room : Int} {l : List Kp} {r : Rq} (hf : findK (r.ix, r.num) l = none) (h : ¬ room - (usedM l : Int) < (r.b.l.length : Int)) : storeM room l r = (rp0 2, insK ⟨r.ix, r.num, r.b.l, [(r.who, r.un)]⟩ l) := by unfold storeM; rw [hf]; exact if_neg h
theorem storeM_other {room : Int} {l : List Kp} {r : Rq} {e : Kp} (hf : findK (r.ix, r.num) l = some e) (h : e.b ≠ r.b.l) : storeM room l r = (rp0 4, l) := by unfold storeM; rw [hf]; exact if_pos h
theorem storeM_many {room : Int} {l : List Kp} {r : Rq} {e : Kp} (hf : findK (r.ix, r.num) l = some e) (h : e.b = r.b.l) (h2 : hasW r.who e.ls = false ∧ 64 ≤ e.ls.length) : storeM room l r = (rp0 3, l) := by
  unfold storeM; rw [hf]
  show (if e.b ≠ r.b.l then _ else _) = _
  rw [if_neg (fun q => q h)]; exact if_pos h2
theorem storeM_laid {room : Int} {l : List Kp} {r : Rq} {e : Kp} (hf : findK (r.ix, r.num) l = some e) (h : e.b = r.b.l) (h2 : ¬ (hasW r.who e.ls = false ∧ 64 ≤ e.ls.length)) : storeM room l r = (rp0 2, setLs (r.ix, r.num) (layL r.who r.un) l) := by
  unfold storeM; rw [hf]
  show (if e.b ≠ r.b.l then _ else _) = _
  rw [if_neg (fun q => q h)]; exact if_neg h2
theorem fetchM_no {l : List Kp} {r : Rq} (hf : findK (r.ix, r.num) l = none) : fetchM l r = rp0 6 := by unfold fetchM; rw [hf]
theorem fetchM_out {l : List Kp} {r : Rq} {e : Kp} (hf : findK (r.ix, r.num) l = some e) (h : (e.b.length : Int) < r.at_ + r.len) : fetchM l r = rp0 6 := by unfold fetchM; rw [hf]; exact if_pos h
theorem fetchM_in {l : List Kp} {r : Rq} {e : Kp} (hf : findK (r.ix, r.num) l = some e) (h : ¬ (e.b.length : Int) < r.at_ + r.len) : fetchM l r = ⟨5, [], (e.b.take (r.at_.toNat + r.len.toNat)).drop r.at_.toNat⟩ := by unfold fetchM; rw [hf]; exact if_neg h
theorem Ct_re {P : Program} {f : FuncId} {args : List Value} {pre : List Asn} {ρ ρ' : Type} {val : ρ → Value} {post : ρ → List Asn} {val' : ρ' → Value} {post' : ρ' → List Asn} (h : Ct P f args pre val post) (pick : ρ → ρ') (hv : ∀ r, val r = val' (pick r)) (hs : ∀ r F w, sat w (post r ++ F) → sat w (post' (pick r) ++ F)) : Ct P f args pre val' post' :=
  h.reg fun r F w q => ⟨pick r, hv r, hs r F w q⟩
theorem usedE_M (L : List En) : usedE L = usedM (L.map En.e) := rfl
end Go.SvM
/-
  A call of a bound method's value. (Conditions: none; generic over the program.)
-/
set_option maxRecDepth 20000
namespace Go.SL
open Go.RowKit
section
variable {P : Program} {n : Nat} {L : List (Nat × Value)} {A : List Asn} {d : Option Tmp} {ty : TypeId} {pos : String} {af : Array Edge} {g : Option (Nat × Bool)}
theorem Ac_callm {f : FuncId} {x : Operand} {xs : Array Operand} {ts : Array TypeId} {args first caps all : List Value} {fi capt : Array Value} {pre F : List Asn} {ρ : Type} {val : ρ → Value} {post : ρ → List Asn} (hx : ev L x = some (.func (.func f) fi capt)) (hc : cfn P f = true) (ha : evs L xs.toList = some args)
    (hfi : fi = first.toArray) (hca : capt = caps.toArray) (hall : first ++ args ++ caps = all) (hg : Gv A pre F := by repeat (first | with_reducible exact Gv.nil | (with_reducible apply Gv.cons; · (repeat (first | with_reducible exact Ext.here | with_reducible apply Ext.there))))) (hs : Ct P f all pre val post) : Ac P n ⟨d, .call ⟨.value x, xs, ts⟩, ty, pos, af, g⟩ L A (fun v A' => ∃ r, v = val r ∧ A' = post r ++ F) :=
  Ac_of_calls (fun a w hf _ => by
    have e := hf.evals ha
    have e' : xs.map a.eval = args.toArray := by apply Array.ext'; simp [e]
    subst hfi; subst hca; subst hall
    simp [execOp, resolve, hf.eval hx, Deferred.ofValue, invoke, e', run_callFunc hc]) hs hg
end
end Go.SL
/-
  Keys in order: the comparison; keys sorted. (Conditions: none; no program in sight.)
-/
set_option maxRecDepth 20000
namespace Go.SvM
open Go.SL Go.ShM Go.RowKit Go.Sort Go.Shelf Go.Proofs Go.Lib
theorem Vx_Vb : ∀ l, Vx l = Vb l
  | [] => rfl
  | x :: l => by unfold Vx Vb; rw [Vx_Vb l]
theorem cmp_eq {l l' : List B8} (he : l.length = l'.length) : Extern.BytealgCompare.cmp (ba l) (ba l') = 0 ↔ l = l' := by
  constructor
  · intro h
    unfold Extern.BytealgCompare.cmp at h
    rw [ba_size, ba_size, ← he, Nat.min_self] at h
    split at h
    · split at h <;> omega
    · rename_i hn
      apply List.ext_getElem? 
      intro j
      by_cases hj : j < l.length
      · obtain ⟨x, hx⟩ := at_b (l := l) (i := j) hj
        obtain ⟨y, hy⟩ := at_b (l := l') (i := j) (by omega)
        have := List.find?_range_eq_none.1 hn j hj
        rw [ba_at hx, ba_at hy] at this
        simp only [Bool.not_eq_true', bne_eq_false_iff_eq] at this
        rw [hx, hy, u8_eq.1 this]
      · rw [List.getElem?_eq_none (by omega), List.getElem?_eq_none (by omega)]
  · rintro rfl
    unfold Extern.BytealgCompare.cmp
    rw [Nat.min_self]
    split
    · rename_i i hi
      obtain ⟨h1, _, _⟩ := List.find?_range_eq_some.1 hi
      simp at h1
    · simp
def cfK (a b : Ky) : Int := if Extern.BytealgCompare.cmp (ba a.1.l) (ba b.1.l) ≠ 0 then Extern.BytealgCompare.cmp (ba a.1.l) (ba b.1.l) else a.2 - b.2
theorem cfK_lt (a b : Ky) : cfK a b < 0 ↔ kLt a b := by
  have hl : a.1.l.length = b.1.l.length := by rw [a.1.h, b.1.h]
  obtain ⟨h1, h2, h3⟩ := diffL_V a.1.l b.1.l hl
  have h4 := cmp_eq hl
  have h5 := cmp_lt hl
  unfold cfK kLt
  rw [Vx_Vb, Vx_Vb]
  by_cases h : Extern.BytealgCompare.cmp (ba a.1.l) (ba b.1.l) = 0
  · rw [if_neg (fun q => q h)]
    have := h3.2 (h4.1 h)
    omega
  · rw [if_pos h, h5, h1]
    have : ¬ Vb a.1.l = Vb b.1.l := fun q => h (h4.2 (h3.1 q))
    omega
abbrev K8 := {k : Ky // 0 ≤ k.2 ∧ k.2 < 255}
def cf8 (a b : K8) : Int := cfK a.1 b.1
theorem cf8_lt (a b : K8) : (ltOf cf8) a b = decide (kLt a.1 b.1) := decide_eq_decide.2 (cfK_lt a.1 b.1)
theorem cf8_swo : SWO (ltOf cf8) := ⟨fun x => by rw [cf8_lt]; simpa using kLt_irr x.1, fun x y z h1 h2 => by
    rw [cf8_lt, decide_eq_true_eq] at *; exact kLt_tr h1 h2, fun x y z h1 h2 => by
    rw [cf8_lt, decide_eq_false_iff_not] at *
    intro h
    by_cases q : kLt y.1 x.1
    · exact h2 (kLt_tr q h)
    · have := kLt_tot h1 q
      rw [this] at h
      exact h2 h⟩
theorem cf8_tot (x y : K8) (h1 : (ltOf cf8) x y = false) (h2 : (ltOf cf8) y x = false) : x = y := by
  rw [cf8_lt, decide_eq_false_iff_not] at *
  exact Subtype.ext (kLt_tot h1 h2)
theorem sort8 {l l' : List K8} (p : l.Perm l') (h : l'.Pairwise fun a b => kLt a.1 b.1) : (l.mergeSort fun x y => !(ltOf cf8) y x) = l' := by
  have e : (fun x y : K8 => !(ltOf cf8) y x) = fun x y => decide (¬ kLt y.1 x.1) := by funext x y; rw [cf8_lt]; simp
  rw [e]
  have h1 : (l.mergeSort fun x y : K8 => decide (¬ kLt y.1 x.1)).Pairwise (fun x y => decide (¬ kLt y.1 x.1) = true) := List.pairwise_mergeSort (fun a b c => by
    simp only [decide_eq_true_eq]
    intro q1 q2 q3
    by_cases z : kLt a.1 b.1
    · exact q2 (kLt_tr q3 z)
    · exact q2 (kLt_tot z q1 ▸ q3)) (fun a b => by
    simp only [Bool.or_eq_true, decide_eq_true_eq]
    by_cases z : kLt b.1 a.1
    · exact .inr (kLt_as z)
    · exact .inl z) l
  have h2 : l'.Pairwise (fun x y => decide (¬ kLt y.1 x.1) = true) := h.imp fun q => by simpa using kLt_as q
  exact ((List.mergeSort_perm _ _).trans p).eq_of_pairwise (fun a b _ _ q1 q2 => by
    simp only [decide_eq_true_eq] at q1 q2
    exact Subtype.ext (kLt_tot q2 q1)) h1 h2
end Go.SvM
/-
  A yield that always goes on; the cells of a key. (Conditions: none; generic over the program.)
-/
set_option maxRecDepth 20000
namespace Go.SvM
open Go.SL Go.ShM Go.RowKit
theorem Yd_true {P : Program} {l : Nat} {args : List Value} {pre : List Asn} {X : Asn} {f : Unit → List Asn} (h : Yd P l args pre (fun b : Bool => .bool b) (fun b => [bif b then X else exA (fun _ : Unit => False) f])) : Yd P l args pre (fun _ : Unit => .bool true) (fun _ => [X]) := fun F w hs => by
  obtain ⟨g, tm, as', bd, h1, h2⟩ := h F w hs
  refine ⟨g, tm, as', bd, h1, fun r => RoundIn.mono (h2 r) ?_⟩
  rintro e w' ⟨q, rfl, hs', hk⟩
  cases q with
  | true => exact ⟨(), rfl, hs', hk⟩
  | false =>
    obtain ⟨_, q, _⟩ := sat_exA.1 hs'
    exact q.elim
theorem flatU_map (l : List B8) : l.flatMap (eU .u8 (w := 8)) = l.map fun b => Value.int .u8 (b.toNat : Int) := by
  induction l with
  | nil => rfl
  | cons x l ih => rw [List.flatMap_cons, ih]; rfl
theorem Sv_key {b : Nat} {T : TypeId} {k : Ky} : Sv [cl b T (kcK k)] (sl (some b) 16 16) 1 (eU .u8 (w := 8)) k.1.l (some ⟨b, 0, none⟩) 16 := by
  refine ⟨by rw [k.1.h]; rfl, fun _ => ⟨b, 0, rfl⟩, fun x _ => rfl, Nat.le_of_eq k.1.h, fun w hs i x hx j u hu => ?_⟩
  have hi := (List.getElem?_eq_some_iff.1 hx).1
  cases j with
  | succ j => cases hu
  | zero =>
    have hb := sat_pt hs
    refine cell_of (i := 0 + (i * 1 + 0)) hb ?_
    rw [Nat.zero_add, Nat.mul_one, Nat.add_zero]
    unfold kcK
    rw [flatU_map, List.getElem?_toArray, List.getElem?_append_left (by simpa using hi), List.getElem?_map, hx]
    exact hu
theorem yield_perm {α : Type} {pre post D : List α} {x : α} : (D ++ (pre ++ x :: post)).Perm ((D ++ [x]) ++ (pre ++ post)) := by
  rw [List.append_assoc, List.singleton_append]
  exact List.Perm.append_left D List.perm_middle
theorem keysL_snoc {κ β : Type} [DecidableEq κ] {D : List (κ × β)} {k : κ} {v : β} : keysL D ++ [k] = keysL (D ++ [(k, v)]) := by
  unfold keysL; rw [List.map_append]; rfl
theorem to8 : ∀ {l : List Ky}, (∀ k ∈ l, 0 ≤ k.2 ∧ k.2 < 255) → ∃ l8 : List K8, l8.map Subtype.val = l
  | [], _ => ⟨[], rfl⟩
  | x :: r, h => by
    obtain ⟨l8, e⟩ := to8 (l := r) fun k hk => h k (List.mem_cons_of_mem _ hk)
    exact ⟨⟨x, h x (by simp)⟩ :: l8, by rw [List.map_cons, e]⟩
def of8 (k : Ky) : Option K8 := if h : 0 ≤ k.2 ∧ k.2 < 255 then some ⟨k, h⟩ else none
theorem of8_map : ∀ a : List K8, (a.map Subtype.val).filterMap of8 = a
  | [] => rfl
  | x :: r => by
    rw [List.map_cons, List.filterMap_cons_some (b := x) (by unfold of8; rw [dif_pos x.2]), of8_map r]
theorem perm8 {a b : List K8} (p : (a.map Subtype.val).Perm (b.map Subtype.val)) : a.Perm b := by
  have := p.filterMap of8
  rw [of8_map, of8_map] at this
  exact this
theorem pair8 {l : List K8} (h : (l.map Subtype.val).Pairwise kLt) : l.Pairwise fun a b => kLt a.1 b.1 := List.pairwise_map.1 h
theorem sort_uniqW {l l' : List B32} (p : l.Perm l') (h : l'.Pairwise fun a b => a.toNat < b.toNat) : (l.mergeSort fun x y => decide (x.toNat ≤ y.toNat)) = l' := by
  have h1 : (l.mergeSort fun x y => decide (x.toNat ≤ y.toNat)).Pairwise (fun x y => decide (x.toNat ≤ y.toNat) = true) := List.pairwise_mergeSort (fun a b c => by simp; omega) (fun a b => by simp; omega) l
  have h2 : l'.Pairwise (fun x y => decide (x.toNat ≤ y.toNat) = true) := h.imp fun q => by simp; omega
  exact ((List.mergeSort_perm _ _).trans p).eq_of_pairwise (fun a b _ _ q1 q2 => by simp at q1 q2; exact BitVec.eq_of_toNat_eq (by omega)) h1 h2
end Go.SvM
/-
  What a server tells of itself, in memory. (Conditions: none; generic over the program.)
-/
set_option maxRecDepth 20000
namespace Go.SvM
open Go.SL Go.ShM Go.RowKit
def kpC (ix : Ix) (n : Int) (bv lv : Value) : List Value := ix.l.flatMap (eU .u8 (w := 8)) ++ [.int .i64 n, bv, lv]
theorem kpC_l (ix : Ix) : (ix.l.flatMap (eU .u8 (w := 8))).length = 16 := by rw [flatU_len, ix.h]
theorem kpC_len (ix : Ix) (n : Int) (bv lv : Value) : (kpC ix n bv lv).length = 19 := by unfold kpC; rw [List.length_append, kpC_l]; rfl
theorem kpC_ix (ix : Ix) (n : Int) (bv lv : Value) : ((kpC ix n bv lv).drop 0).take 16 = ix.l.flatMap (eU .u8) := by unfold kpC; exact List.take_left' (kpC_l ix)
theorem kpC_end (ix : Ix) (n : Int) (bv lv : Value) (j : Nat) : (kpC ix n bv lv)[16 + j]? = [Value.int .i64 n, bv, lv][j]? := by
  unfold kpC
  rw [List.getElem?_append_right (by rw [kpC_l]; omega), kpC_l, Nat.add_sub_cancel_left]
theorem kpC_num (ix : Ix) (n : Int) (bv lv : Value) : (kpC ix n bv lv)[16]? = some (.int .i64 n) := kpC_end ix n bv lv 0
theorem kpC_b (ix : Ix) (n : Int) (bv lv : Value) : (kpC ix n bv lv)[17]? = some bv := kpC_end ix n bv lv 1
theorem kpC_ls (ix : Ix) (n : Int) (bv lv : Value) : (kpC ix n bv lv)[18]? = some lv := kpC_end ix n bv lv 2
theorem kpC_all (ix : Ix) (n : Int) (bv lv : Value) : ((kpC ix n bv lv).drop 0).take 19 = kpC ix n bv lv := List.take_of_length_le (Nat.le_of_eq (kpC_len ix n bv lv))
theorem kpC_set (ix : Ix) (n : Int) (bv lv v : Value) : (kpC ix n bv lv).set 18 v = kpC ix n bv v := by
  unfold kpC
  rw [List.set_append_right _ _ (by rw [kpC_l]; omega), kpC_l]; rfl
theorem kpC_one {ix : Ix} {n : Int} {bv lv : Value} (h1 : bv.oneCell' = true) (h2 : lv.oneCell' = true) : ∀ v ∈ kpC ix n bv lv, v.oneCell' = true := fun v hv => by
  unfold kpC at hv
  rcases List.mem_append.1 hv with h | h
  · obtain ⟨a, _, ha⟩ := List.mem_flatMap.1 h
    exact (encU .u8).one a v ha
  · simp only [List.mem_cons, List.not_mem_nil, or_false] at h
    rcases h with rfl | rfl | rfl
    · rfl
    · exact h1
    · exact h2
def eLs (x : Ls) : List Value := [.int .u32 (x.1.toNat : Int), .int .i64 x.2]
theorem encLs : Enc eLs 2 := ⟨fun _ => rfl, fun x v hv => by
  simp only [eLs, List.mem_cons, List.not_mem_nil, or_false] at hv
  rcases hv with rfl | rfl <;> rfl⟩
structure KM where
  e : Kp
  ba : Option Nat
  bc : Nat
  la : Option Nat
  lc : Nat
def eKM (k : KM) : List Value := kpC k.e.ix k.e.num (sl k.ba k.e.b.length k.bc) (sl k.la k.e.ls.length k.lc)
theorem encKM : Enc eKM 19 := ⟨fun k => kpC_len _ _ _ _, fun k => kpC_one rfl rfl⟩
def FKM (tU tL : TypeId) (k : KM) : Asn := sep [arr k.ba k.bc 1 tU (eU .u8 (w := 8)) k.e.b, arr k.la k.lc 2 tL eLs k.e.ls]
theorem sat_kmsnoc {tU tL : TypeId} {ks : List KM} {k : KM} {S : List Asn} {w : World} (h : sat w (star (FKM tU tL) ks :: arr k.ba k.bc 1 tU (eU .u8 (w := 8)) k.e.b :: arr k.la k.lc 2 tL eLs k.e.ls :: S)) : sat w (star (FKM tU tL) (ks ++ [k]) :: S) := by
  have h2 : sat w (FKM tU tL k :: star (FKM tU tL) ks :: S) := by
    unfold FKM
    rw [sat_app]
    exact sat_perm ((List.Perm.swap _ _ _).trans (List.Perm.cons _ (.swap _ _ _))) h
  exact star_perm (l := k :: ks) (List.perm_append_comm (l₁ := [k])) (star_cons.2 h2)
section
variable {P : Program} {m : Md} {ops : Array Oper} {Q : Exit → Act → World → Prop} {w0 : World} {n : Nat} {rest : List Oper} {L : List (Nat × Value)} {A0 R : List Asn} {c : Code}
theorem WL_kmsnoc (tU tL : TypeId) (ks : List KM) (e : Kp) (ba : Option Nat) (bc : Nat) (la : Option Nat) (lc : Nat) (k : WL P m ops Q w0 n rest L (star (FKM tU tL) (ks ++ [⟨e, ba, bc, la, lc⟩]) :: R)) (hG : Gv A0 [star (FKM tU tL) ks, arr ba bc 1 tU (eU .u8 (w := 8)) e.b, arr la lc 2 tL eLs e.ls] R := by repeat (first | with_reducible exact Gv.nil | (with_reducible apply Gv.cons; · (repeat (first | with_reducible exact Ext.here | with_reducible apply Ext.there))))) : WL P m ops Q w0 n rest L A0 :=
  WL_imp (fun _ hs => sat_kmsnoc (k := ⟨e, ba, bc, la, lc⟩) (sat_perm hG hs)) k
end
theorem at_key {L : List En} (h : SrtK (L.map En.e)) {i : Nat} (hi : i < L.length) : ∃ A x B, L = A ++ x :: B ∧ ((L.map En.e).map Kp.key)[i]? = some x.e.key ∧ findE x.e.key L = some x ∧ x ∈ L ∧ (L.map En.e).take (i + 1) = (L.map En.e).take i ++ [x.e] := by
  have hx : L = L.take i ++ L[i] :: L.drop (i + 1) := by rw [List.getElem_cons_drop, List.take_append_drop]
  refine ⟨L.take i, L[i], L.drop (i + 1), hx, ?_, ?_, List.getElem_mem hi, ?_⟩
  · rw [List.getElem?_map, List.getElem?_map, List.getElem?_eq_getElem hi]; rfl
  · have key : ∀ (x : En) (A B : List En), ((A ++ x :: B).map fun y => y.e.key).Nodup → findE x.e.key (A ++ x :: B) = some x := fun x A B hnd => by
      rw [List.map_append, List.map_cons] at hnd
      have h2 := List.nodup_cons.1 ((List.perm_middle.nodup_iff).1 hnd)
      rw [List.mem_append, not_or] at h2
      refine find_at rfl fun y hy e => h2.1.1 ?_
      rw [← e]; exact List.mem_map.2 ⟨y, hy, rfl⟩
    have := key L[i] (L.take i) (L.drop (i + 1)) (by rw [← hx]; exact nodup_keys h)
    rw [← hx] at this
    exact this
  · rw [List.take_add_one, List.getElem?_map, List.getElem?_eq_getElem hi]; rfl
theorem ls_at {ls : List Ls} (h : SrtW ls) {j : Nat} (hj : j < ls.length) : ∃ x, ls[j]? = some x ∧ (ls.map Prod.fst)[j]? = some x.1 ∧ getL x.1 ls = some x.2 ∧ ls.take (j + 1) = ls.take j ++ [x] := by
  refine ⟨ls[j], List.getElem?_eq_getElem hj, by rw [List.getElem?_map, List.getElem?_eq_getElem hj]; rfl, ?_, by rw [List.take_add_one, List.getElem?_eq_getElem hj]; rfl⟩
  have hnd := h.nd
  have : ∀ (l : List Ls) (x : Ls), (l.map Prod.fst).Nodup → x ∈ l → getL x.1 l = some x.2 := fun l => by
    induction l with
    | nil => intro x _ hx; cases hx
    | cons y r ih =>
      intro x hn hx
      rw [List.map_cons, List.nodup_cons] at hn
      rcases List.mem_cons.1 hx with q | q
      · rw [q]; exact getL_cons_eq rfl
      · rw [getL_cons_ne (fun e => hn.1 (by rw [e]; exact List.mem_map.2 ⟨x, q, rfl⟩))]
        exact ih x hn.2 q
  exact this ls _ hnd (List.getElem_mem hj)
end Go.SvM
/-
  What may be loaded, share by share; a state's view in memory. (Conditions: none; generic over the program.)
-/
set_option maxRecDepth 20000
namespace Go.SvM
open Go.SL Go.ShM Go.RowKit
structure VL where
  l : List Ls
  ao : Option Addr
  cap : Nat
def VL.v (p : VL) : Value := .slice p.ao p.l.length p.cap
structure KV where
  ix : Ix
  num : Int
  b : Pt
  ls : VL
def KV.kp (k : KV) : Kp := ⟨k.ix, k.num, k.b.l, k.ls.l⟩
def eKV (k : KV) : List Value := kpC k.ix k.num k.b.v k.ls.v
theorem eKV_len (k : KV) : (eKV k).length = 19 := kpC_len _ _ _ _
theorem eKV_ix (k : KV) : ((eKV k).drop 0).take 16 = k.ix.l.flatMap (eU .u8) := kpC_ix _ _ _ _
theorem eKV_num (k : KV) : (eKV k)[16]? = some (.int .i64 k.num) := kpC_num _ _ _ _
theorem eKV_b (k : KV) : (eKV k)[17]? = some k.b.v := kpC_b _ _ _ _
theorem eKV_ls (k : KV) : (eKV k)[18]? = some k.ls.v := kpC_ls _ _ _ _
theorem eKV_all (k : KV) : ((eKV k).drop 0).take 19 = eKV k := kpC_all _ _ _ _
theorem encKV : Enc eKV 19 := ⟨fun k => kpC_len _ _ _ _, fun k => kpC_one rfl rfl⟩
def OKv (X : Asn) (k : KV) : Prop := Sv [X] k.b.v 1 (eU .u8 (w := 8)) k.b.l k.b.ao k.b.cap ∧ Sv [X] k.ls.v 2 eLs k.ls.l k.ls.ao k.ls.cap
def KM.kv (k : KM) : KV := ⟨k.e.ix, k.e.num, ⟨k.e.b, k.ba.map fun g => ⟨g, 0, none⟩, k.bc⟩, ⟨k.e.ls, k.la.map fun g => ⟨g, 0, none⟩, k.lc⟩⟩
theorem KM.kv_e (k : KM) : eKV k.kv = eKM k := rfl
theorem KM.kv_kp (k : KM) : k.kv.kp = k.e := rfl
def leasesOk (t : Int) (ls : List Ls) : Prop := SrtW ls ∧ (∀ x ∈ ls, t ≤ x.2 ∧ x.2 ≤ 1099511627776) ∧ 1 ≤ ls.length ∧ ls.length ≤ 64
instance (t : Int) (ls : List Ls) : Decidable (leasesOk t ls) := by unfold leasesOk SrtW; infer_instance
theorem take_snocG {α : Type} {l : List α} {i : Nat} {x : α} (h : l[i]? = some x) : l.take (i + 1) = l.take i ++ [x] := by
  rw [List.take_add_one, h]; rfl
theorem mem_takeG {α : Type} {l : List α} {i : Nat} {x : α} (h : x ∈ l.take i) : ∃ j, j < i ∧ l[j]? = some x := by
  obtain ⟨j, hj, e⟩ := List.mem_iff_getElem.1 h
  rw [List.length_take] at hj
  refine ⟨j, by omega, ?_⟩
  rw [List.getElem_take] at e
  rw [List.getElem?_eq_getElem (by omega), e]
theorem pw_at {α : Type} {r : α → α → Prop} {l : List α} (h : l.Pairwise r) {i j : Nat} {x y : α} (hij : i < j) (hx : l[i]? = some x) (hy : l[j]? = some y) : r x y := by
  obtain ⟨h1, e1⟩ := List.getElem?_eq_some_iff.1 hx
  obtain ⟨h2, e2⟩ := List.getElem?_eq_some_iff.1 hy
  have := List.pairwise_iff_getElem.1 h i j h1 h2 hij
  rw [e1, e2] at this; exact this
theorem pw_snoc {α : Type} {r : α → α → Prop} (ht : ∀ {a b c}, r a b → r b c → r a c) {l : List α} {i : Nat} {x : α} (hx : l[i]? = some x) (h : (l.take i).Pairwise r) (hp : i = 0 ∨ ∃ y, l[i - 1]? = some y ∧ r y x) : (l.take (i + 1)).Pairwise r := by
  rw [take_snocG hx, List.pairwise_append]
  refine ⟨h, List.pairwise_singleton _ _, fun a ha b hb => ?_⟩
  rw [List.mem_singleton] at hb
  subst hb
  obtain ⟨j, hj, ea⟩ := mem_takeG ha
  rcases hp with rfl | ⟨y, hy, hr⟩
  · omega
  · by_cases q : j = i - 1
    · subst q; rw [ea] at hy; cases hy; exact hr
    · exact ht (pw_at h (show j < i - 1 by omega) (by rw [List.getElem?_take_of_lt hj]; exact ea) (by rw [List.getElem?_take_of_lt (by omega)]; exact hy)) hr
theorem wLt_tr {a b c : Ls} (h : wLt a b) (k : wLt b c) : wLt a c := by unfold wLt at *; omega
theorem lk_step {t : Int} {ls : List Ls} {i : Nat} {x : Ls} (hx : ls[i]? = some x) (h : SrtW (ls.take i)) (hb : ∀ y ∈ ls.take i, t ≤ y.2 ∧ y.2 ≤ 1099511627776) (h1 : t ≤ x.2 ∧ x.2 ≤ 1099511627776) (hp : i = 0 ∨ ∃ y, ls[i - 1]? = some y ∧ y.1.toNat < x.1.toNat) : SrtW (ls.take (i + 1)) ∧ ∀ y ∈ ls.take (i + 1), t ≤ y.2 ∧ y.2 ≤ 1099511627776 := by
  refine ⟨pw_snoc (r := wLt) (fun a b => wLt_tr a b) hx h hp, fun y hy => ?_⟩
  rw [take_snocG hx, List.mem_append, List.mem_singleton] at hy
  rcases hy with hy | rfl
  · exact hb y hy
  · exact h1
theorem lk_bad {t : Int} {ls : List Ls} {i : Nat} {x : Ls} (hx : ls[i]? = some x) (h1 : ¬ (t ≤ x.2 ∧ x.2 ≤ 1099511627776)) : ¬ leasesOk t ls := fun h => h1 (h.2.1 x (List.mem_of_getElem? hx))
theorem lk_ord {t : Int} {ls : List Ls} {i : Nat} {x y : Ls} (hi : 0 < i) (hx : ls[i]? = some x) (hy : ls[i - 1]? = some y) (h1 : x.1.toNat ≤ y.1.toNat) : ¬ leasesOk t ls := fun h => by
  have := pw_at h.1 (show i - 1 < i by omega) hy hx
  unfold wLt at this; omega
theorem wfk_of {t : Int} {e : Kp} (hn : 0 ≤ e.num ∧ e.num < 255) (hb : e.b.length ≤ 33554432) (h : leasesOk t e.ls) : WfK t e := ⟨h.1, hn, hb, h.2.2, h.2.1⟩
theorem WfK.ok {t : Int} {e : Kp} (h : WfK t e) : leasesOk t e.ls := ⟨h.ws, h.un, h.ls⟩
theorem ld_zero {room tick : Int} (h : 0 ≤ room ∧ room ≤ 1073741824) (ht : 0 ≤ tick ∧ tick ≤ 1099511627776) : Wf room ⟨tick, []⟩ := Wf.of h ht List.Pairwise.nil (fun e h => (List.not_mem_nil h).elim) h.1
theorem ld_step {room tick : Int} {l : List Kp} {i : Nat} {e : Kp} (hx : l[i]? = some e) (h : Wf room ⟨tick, l.take i⟩) (hk : WfK tick e) (hp : i = 0 ∨ ∃ y, l[i - 1]? = some y ∧ kLt y.key e.key) (hu : ((usedM (l.take i) + e.b.length : Nat) : Int) ≤ room) : Wf room ⟨tick, l.take (i + 1)⟩ := by
  refine Wf.of h.rm h.tk (pw_snoc (r := fun a b : Kp => kLt a.key b.key) (fun a b => kLt_tr a b) hx h.srt hp) (fun y hy => ?_) ?_
  · rw [take_snocG hx, List.mem_append, List.mem_singleton] at hy
    rcases hy with hy | rfl
    · exact h.one hy
    · exact hk
  · show ((usedM (l.take (i + 1)) : Nat) : Int) ≤ room
    rw [take_snocG hx, usedM_app, usedM_cons]
    exact hu
def kz : Ky := (⟨List.replicate 16 0#8, rfl⟩, 0)
def preK (l : List Kp) (i : Nat) : Ky := if i = 0 then kz else (l[i - 1]?.map Kp.key).getD kz
theorem preK_succ {l : List Kp} {i : Nat} {e : Kp} (hx : l[i]? = some e) : preK l (i + 1) = e.key := by
  unfold preK
  rw [if_neg (by omega), Nat.add_sub_cancel, hx]; rfl
theorem preK_num {room tick : Int} {l : List Kp} {i : Nat} (h : Wf room ⟨tick, l.take i⟩) : 0 ≤ (preK l i).2 ∧ (preK l i).2 < 255 := by
  unfold preK
  split
  · exact ⟨by decide, by decide⟩
  · rename_i hi
    cases hq : l[i - 1]? with
    | none => exact ⟨by decide, by decide⟩
    | some y => exact h.num y (List.mem_of_getElem? (i := i - 1) (by rw [List.getElem?_take_of_lt (by omega)]; exact hq))
theorem preK_lt {l : List Kp} {i : Nat} {e : Kp} (hx : l[i]? = some e) (hi : 0 < i) (h : kLt (preK l i) e.key) : ∃ y, l[i - 1]? = some y ∧ kLt y.key e.key := by
  have hl := (List.getElem?_eq_some_iff.1 hx).1
  refine ⟨l[i - 1], List.getElem?_eq_getElem (by omega), ?_⟩
  unfold preK at h
  rw [if_neg (by omega), List.getElem?_eq_getElem (by omega)] at h
  exact h
theorem cfK_nlt {a b : Ky} (h : ¬ 0 ≤ cfK a b) : kLt a b := (cfK_lt a b).1 (by omega)
theorem key_new {l : List Kp} {i : Nat} {e : Kp} (hx : l[i]? = some e) (h : SrtK (l.take (i + 1))) : e.key ∉ (l.take i).map Kp.key := by
  rw [take_snocG hx] at h
  have := h.nd
  rw [List.map_append, List.nodup_append] at this
  intro q
  exact this.2.2 _ q _ (by simp) rfl
theorem putL_snoc {ls : List Ls} {j : Nat} {y : Ls} (hy : ls[j]? = some y) (h : SrtW ls) : (putL y.1 y.2 (ls.take j)).Perm (ls.take (j + 1)) := by
  have hn : y.1 ∉ keysL (ls.take j) := fun q => by
    obtain ⟨z, hz, e⟩ := List.mem_map.1 q
    obtain ⟨k, hk, ez⟩ := mem_takeG hz
    exact wLt_ne (pw_at h hk ez hy) e
  rw [take_snocG hy]
  unfold putL
  rw [delL_no hn]
  exact (List.perm_append_comm (l₁ := [(y.1, y.2)]))
theorem new_snoc {L : List En} {e : Kp} {p : Nat} {a : Option Nat} {cap m : Nat} (hn : e.key ∉ (L.map En.e).map Kp.key) : (putL e.key p (L.map En.kp)).Perm ((L ++ [(⟨e, p, a, cap, m⟩ : En)]).map En.kp) := by
  unfold putL
  rw [delL_no (by rw [kp_keys]; exact hn), List.map_append]
  exact (List.perm_append_comm (l₁ := [(e.key, p)]))
section
variable {P : Program} {m : Md} {ops : Array Oper} {Q : Exit → Act → World → Prop} {w0 : World} {n : Nat} {rest : List Oper} {L : List (Nat × Value)} {A0 R : List Asn} {c : Code}
theorem WL_ensnoc (tK tU : TypeId) (e : Kp) (p : Nat) (a : Option Nat) (cap mm : Nat) (L0 : List En) (k : WL P m ops Q w0 n rest L (star (FEn tK tU) (L0 ++ [⟨e, p, a, cap, mm⟩]) :: R)) (hG : Gv A0 [cl p tK [sl a e.b.length cap, .map (some mm)], arr a cap 1 tU (eU .u8 (w := 8)) e.b, mpP mm kfW vfI e.ls, star (FEn tK tU) L0] R := by repeat (first | with_reducible exact Gv.nil | (with_reducible apply Gv.cons; · (repeat (first | with_reducible exact Ext.here | with_reducible apply Ext.there))))) : WL P m ops Q w0 n rest L A0 :=
  WL_imp (fun _ hs => star_perm (l := (⟨e, p, a, cap, mm⟩ : En) :: L0) (List.perm_append_comm (l₁ := [_])) ((sat_enhead (x := (⟨e, p, a, cap, mm⟩ : En))).2 (sat_perm hG hs))) k
theorem WL_ensnocV (tK tU : TypeId) (v : KV) (p : Nat) (a : Option Nat) (cap mm : Nat) (L0 : List En) (k : WL P m ops Q w0 n rest L (star (FEn tK tU) (L0 ++ [⟨v.kp, p, a, cap, mm⟩]) :: R)) (hG : Gv A0 [cl p tK [sl a v.b.l.length cap, .map (some mm)], arr a cap 1 tU (eU .u8 (w := 8)) v.b.l, mpP mm kfW vfI v.ls.l, star (FEn tK tU) L0] R := by repeat (first | with_reducible exact Gv.nil | (with_reducible apply Gv.cons; · (repeat (first | with_reducible exact Ext.here | with_reducible apply Ext.there))))) : WL P m ops Q w0 n rest L A0 :=
  WL_ensnoc tK tU v.kp p a cap mm L0 k hG
end
end Go.SvM
/-
  A list put in order by insertions, in plain words. (Conditions: none; no program in sight.)
-/
set_option maxRecDepth 20000
namespace Go.SvM
open Go.SL Go.ShM Go.RowKit
def vA (l : List B32) (i : Nat) : Nat := (l.getD i 0#32).toNat
def swA (l : List B32) (i j : Nat) : List B32 := (l.set i (l.getD j 0#32)).set j (l.getD i 0#32)
theorem swA_len (l : List B32) (i j : Nat) : (swA l i j).length = l.length := by unfold swA; simp
theorem getA {l : List B32} {i : Nat} (h : i < l.length) : l[i]? = some (l.getD i 0#32) := by rw [List.getD_eq_getElem?_getD, List.getElem?_eq_getElem h]; rfl
theorem swA_get {l : List B32} {i j : Nat} (hi : i < l.length) (hj : j < l.length) (k : Nat) : (swA l i j).getD k 0#32 = if k = j then l.getD i 0#32 else if k = i then l.getD j 0#32 else l.getD k 0#32 := by
  unfold swA
  rw [List.getD_eq_getElem?_getD, List.getElem?_set, List.getElem?_set]
  by_cases hk : k = j
  · subst hk; simp [hj]
  · rw [if_neg (Ne.symm hk), if_neg hk]
    by_cases hk' : k = i
    · subst hk'; simp [hi]
    · rw [if_neg (Ne.symm hk'), if_neg hk', ← List.getD_eq_getElem?_getD]
theorem swA_v {l : List B32} {i j : Nat} (hi : i < l.length) (hj : j < l.length) (k : Nat) : vA (swA l i j) k = if k = j then vA l i else if k = i then vA l j else vA l k := by
  unfold vA
  rw [swA_get hi hj]
  split
  · rfl
  · split <;> rfl
theorem swA_perm {l : List B32} {i j : Nat} (hij : i ≠ j) (hi : i < l.length) (hj : j < l.length) : (swA l i j).Perm l := by
  unfold swA
  have h1 := getA hi
  have h2 := getA hj
  generalize l.getD i 0#32 = x at *
  generalize l.getD j 0#32 = y at *
  obtain ⟨_, e1⟩ := List.getElem?_eq_some_iff.1 h1
  rw [List.perm_iff_count]
  intro a
  have hj' : ((l.set i y)[j]?) = some y := by rw [List.getElem?_set, if_neg hij]; exact h2
  rw [List.count_set (by simpa using hj), List.count_set hi]
  have e2 : (l.set i y)[j]'(by simpa using hj) = y := (List.getElem?_eq_some_iff.1 hj').2
  rw [e2, e1]
  have hx : x ∈ l := List.mem_of_getElem? h1
  by_cases ha : x = a
  · subst ha
    have := List.count_pos_iff.2 hx
    by_cases hb : y = x <;> simp [hb] <;> omega
  · by_cases hb : y = a <;> simp [ha, hb]
def ordE (l : List B32) (n j : Nat) : Prop := ∀ p q, p < q → q < n → q ≠ j → vA l p ≤ vA l q
def ordA (l : List B32) (n : Nat) : Prop := ∀ p q, p < q → q < n → vA l p ≤ vA l q
theorem ordE_of {l : List B32} {n : Nat} (h : ordA l n) : ordE l (n + 1) n := fun p q h1 h2 h3 => h p q h1 (by omega)
theorem ordE_step {l : List B32} {n j : Nat} (hn : n ≤ l.length) (hj : 0 < j) (hjn : j < n) (hlt : vA l j < vA l (j - 1)) (h : ordE l n j) : ordE (swA l j (j - 1)) n (j - 1) := by
  intro p q h1 h2 h3
  rw [swA_v (by omega) (by omega), swA_v (by omega) (by omega)]
  rw [if_neg h3]
  by_cases hq : q = j
  · rw [if_pos hq]
    by_cases hp : p = j - 1
    · rw [if_pos hp]; omega
    · rw [if_neg hp, if_neg (by omega)]
      exact h p (j - 1) (by omega) (by omega) (by omega)
  · rw [if_neg hq]
    by_cases hp : p = j - 1
    · rw [if_pos hp]
      exact h j q (by omega) h2 hq
    · rw [if_neg hp]
      by_cases hp' : p = j
      · rw [if_pos hp']
        exact h (j - 1) q (by omega) h2 hq
      · rw [if_neg hp']
        exact h p q h1 h2 hq
theorem ordE_end {l : List B32} {n j : Nat} (hend : j = 0 ∨ vA l (j - 1) ≤ vA l j) (h : ordE l n j) : ordA l n := by
  intro p q h1 h2
  by_cases hq : q = j
  · subst hq
    rcases hend with e | e
    · omega
    · by_cases hp : p = q - 1
      · subst hp; exact e
      · exact Nat.le_trans (h p (q - 1) (by omega) (by omega) (by omega)) e
  · exact h p q h1 h2 hq
theorem ordA_sorted {l m : List B32} (p : m.Perm l) (h : ordA m m.length) : m = l.mergeSort fun x y => decide (x.toNat ≤ y.toNat) := by
  have h1 : (l.mergeSort fun x y => decide (x.toNat ≤ y.toNat)).Pairwise (fun x y => decide (x.toNat ≤ y.toNat) = true) := List.pairwise_mergeSort (fun a b c => by simp; omega) (fun a b => by simp; omega) l
  have h2 : m.Pairwise (fun x y => decide (x.toNat ≤ y.toNat) = true) := List.pairwise_iff_getElem.2 fun i j hi hj hij => by
    have := h i j hij hj
    unfold vA at this
    rw [List.getD_eq_getElem?_getD, List.getD_eq_getElem?_getD, List.getElem?_eq_getElem hi, List.getElem?_eq_getElem hj] at this
    simpa using this
  exact (p.trans (List.mergeSort_perm _ _).symm).eq_of_pairwise (fun a b _ _ q1 q2 => by simp at q1 q2; exact BitVec.eq_of_toNat_eq (by omega)) h2 h1
end Go.SvM
/-
  A list put in order by swaps within ranges, in plain words. (Conditions: none; no program in sight.)
-/
set_option maxRecDepth 20000
namespace Go.SvM
open Go.SL Go.ShM Go.RowKit
theorem swA_self {l : List B32} {i : Nat} (hi : i < l.length) : swA l i i = l := by
  unfold swA
  rw [List.set_set]
  apply List.ext_getElem?
  intro k
  rw [List.getElem?_set]
  by_cases hk : i = k
  · subst hk; rw [if_pos rfl, if_pos hi, getA hi]
  · rw [if_neg hk]
inductive SwR (a b : Nat) (l : List B32) : List B32 → Prop
  | refl : SwR a b l l
  | step {m : List B32} {i j : Nat} : SwR a b l m → a ≤ i → i < b → a ≤ j → j < b → SwR a b l (swA m i j)
variable {a b c d : Nat} {l m n : List B32}
theorem SwR.len (h : SwR a b l m) : m.length = l.length := by
  induction h with
  | refl => rfl
  | step _ _ _ _ _ ih => rw [swA_len]; exact ih
theorem SwR.trans (h : SwR a b l m) (h2 : SwR a b m n) : SwR a b l n := by
  induction h2 with
  | refl => exact h
  | step _ q1 q2 q3 q4 ih => exact .step ih q1 q2 q3 q4
theorem SwR.wide (h : SwR a b l m) (h1 : c ≤ a) (h2 : b ≤ d) : SwR c d l m := by
  induction h with
  | refl => exact .refl
  | step _ q1 q2 q3 q4 ih => exact .step ih (by omega) (by omega) (by omega) (by omega)
theorem SwR.perm (h : SwR a b l m) (hb : b ≤ l.length) : m.Perm l := by
  induction h with
  | refl => exact .refl _
  | @step m i j q q1 q2 q3 q4 ih =>
    have := q.len
    by_cases e : i = j
    · subst e; rw [swA_self (by omega)]; exact ih
    · exact (swA_perm e (by omega) (by omega)).trans ih
theorem SwR.out (h : SwR a b l m) (hb : b ≤ l.length) {k : Nat} (hk : k < a ∨ b ≤ k) : vA m k = vA l k := by
  induction h with
  | refl => rfl
  | @step m i j q q1 q2 q3 q4 ih =>
    have := q.len
    rw [swA_v (by omega) (by omega), if_neg (by omega), if_neg (by omega)]; exact ih
theorem SwR.all (h : SwR a b l m) (hb : b ≤ l.length) {p : Nat → Prop} (hp : ∀ k, a ≤ k → k < b → p (vA l k)) : ∀ k, a ≤ k → k < b → p (vA m k) := by
  induction h with
  | refl => exact hp
  | @step m i j q q1 q2 q3 q4 ih =>
    have := q.len
    intro k h1 h2
    rw [swA_v (by omega) (by omega)]
    split
    · exact ih _ q1 q2
    · split
      · exact ih _ q3 q4
      · exact ih _ h1 h2
def ordS (l : List B32) (a b : Nat) : Prop := ∀ p q, a ≤ p → p < q → q < b → vA l p ≤ vA l q
def LB (l : List B32) (a b : Nat) : Prop := a = 0 ∨ ∀ k, a ≤ k → k < b → vA l (a - 1) ≤ vA l k
def ordO (l : List B32) (a b c d : Nat) : Prop := ∀ p q, a ≤ p → p < q → q < b → (p < c ∨ d ≤ q) → vA l p ≤ vA l q
theorem LB.sw (h : LB l a b) (hs : SwR a b l m) (hb : b ≤ l.length) : LB m a b := by
  rcases h with h | h
  · exact .inl h
  · by_cases h0 : a = 0
    · exact .inl h0
    · refine .inr ?_
      rw [hs.out hb (.inl (by omega))]
      exact hs.all hb h
theorem ordO_nil : ordO l a b a b := fun p q h1 h2 h3 h4 => by omega
theorem ordO_sw (h : ordO l a b c d) (hs : SwR c d l m) (h1 : a ≤ c) (h2 : d ≤ b) (hb : b ≤ l.length) : ordO m a b c d := by
  intro p q q1 q2 q3 q4
  by_cases hp : p < c ∨ d ≤ p
  · rw [hs.out (by omega) hp]
    by_cases hq : q < c ∨ d ≤ q
    · rw [hs.out (by omega) hq]; exact h p q q1 q2 q3 q4
    · exact hs.all (by omega) (p := fun x => vA l p ≤ x) (fun k k1 k2 => h p k q1 (by omega) (by omega) (by omega)) q (by omega) (by omega)
  · rw [hs.out (k := q) (by omega) (by omega)]
    exact hs.all (by omega) (p := fun x => x ≤ vA l q) (fun k k1 k2 => h k q (by omega) (by omega) q3 (by omega)) p (by omega) (by omega)
theorem ordO_fin (h : ordO l a b c d) (hs : ordS l c d) : ordS l a b := fun p q q1 q2 q3 => by
  by_cases e : p < c ∨ d ≤ q
  · exact h p q q1 q2 q3 e
  · exact hs p q (by omega) q2 (by omega)
structure Cut (m : List B32) (c d mid : Nat) : Prop where
  lo : c ≤ mid
  hi : mid < d
  le : ∀ k, c ≤ k → k < mid → vA m k ≤ vA m mid
  ge : ∀ k, mid < k → k < d → vA m mid ≤ vA m k
theorem Cut.left {mid : Nat} (hc : Cut m c d mid) (ho : ordO m a b c d) (hs : SwR c mid m n) (hn : ordS n c mid) (h1 : a ≤ c) (h2 : d ≤ b) (hb : b ≤ m.length) : ordO n a b (mid + 1) d := by
  obtain ⟨lo, hi, le, ge⟩ := hc
  have ho' := ordO_sw ho (hs.wide (Nat.le_refl c) (Nat.le_of_lt hi)) h1 h2 hb
  have hm : vA n mid = vA m mid := hs.out (by omega) (.inr (Nat.le_refl _))
  intro p q q1 q2 q3 q4
  by_cases e : p < c ∨ d ≤ q
  · exact ho' p q q1 q2 q3 e
  · have h3 : ∀ k, c ≤ k → k < mid → vA n k ≤ vA m mid := hs.all (by omega) (p := fun x => x ≤ vA m mid) le
    have h4 : mid < q → vA m mid ≤ vA n q := fun h => by rw [hs.out (k := q) (by omega) (by omega)]; exact ge q h (by omega)
    by_cases e2 : q < mid
    · exact hn p q (by omega) q2 e2
    · by_cases e3 : p = mid
      · subst e3; rw [hm]; exact h4 (by omega)
      · have h5 := h3 p (by omega) (by omega)
        by_cases e4 : q = mid
        · subst e4; rw [hm]; exact h5
        · exact Nat.le_trans h5 (h4 (by omega))
theorem Cut.right {mid : Nat} (hc : Cut m c d mid) (ho : ordO m a b c d) (hs : SwR (mid + 1) d m n) (hn : ordS n (mid + 1) d) (h1 : a ≤ c) (h2 : d ≤ b) (hb : b ≤ m.length) : ordO n a b c mid := by
  obtain ⟨lo, hi, le, ge⟩ := hc
  have ho' := ordO_sw ho (hs.wide (by omega) (Nat.le_refl d)) h1 h2 hb
  have hm : vA n mid = vA m mid := hs.out (by omega) (.inl (by omega))
  intro p q q1 q2 q3 q4
  by_cases e : p < c ∨ d ≤ q
  · exact ho' p q q1 q2 q3 e
  · have h3 : ∀ k, mid + 1 ≤ k → k < d → vA m mid ≤ vA n k := hs.all (by omega) (p := fun x => vA m mid ≤ x) (fun k k1 k2 => ge k (by omega) k2)
    have h4 : p < mid → vA n p ≤ vA m mid := fun h => by rw [hs.out (k := p) (by omega) (by omega)]; exact le p (by omega) h
    by_cases e2 : mid < p
    · exact hn p q (by omega) q2 (by omega)
    · by_cases e3 : q = mid
      · subst e3; rw [hm]; exact h4 (by omega)
      · have h5 := h3 q (by omega) (by omega)
        by_cases e4 : p = mid
        · subst e4; rw [hm]; exact h5
        · exact Nat.le_trans (h4 (by omega)) h5
theorem Cut.lbR {mid : Nat} (hc : Cut m c d mid) : LB m (mid + 1) d := .inr fun k k1 k2 => by
  have := hc.ge k (by omega) k2
  simpa using this
theorem LB.sub (h : LB m c d) {e : Nat} (he : e ≤ d) : LB m c e := by
  rcases h with h | h
  · exact .inl h
  · exact .inr fun k k1 k2 => h k k1 (by omega)
theorem LB_in (ho : ordO m a b c d) (h : LB m a b) (h1 : a ≤ c) (h2 : d ≤ b) : LB m c d := by
  by_cases e : c = a
  · subst e; exact h.sub h2
  · exact .inr fun k k1 k2 => ho (c - 1) k (by omega) (by omega) (by omega) (.inl (by omega))
theorem ordO_eqs {mid v : Nat} (ho : ordO m a b c d) (hlb : LB m c d) (hc0 : 0 < c) (hv : v ≤ vA m (c - 1)) (hle : ∀ k, c ≤ k → k < mid → vA m k ≤ v) (h1 : a ≤ c) (h3 : mid ≤ d) (h2 : d ≤ b) : ordO m a b mid d := by
  have hge : ∀ k, c ≤ k → k < d → v ≤ vA m k := fun k k1 k2 => by
    rcases hlb with h | h
    · omega
    · exact Nat.le_trans hv (h k k1 k2)
  intro p q q1 q2 q3 q4
  by_cases e : p < c ∨ d ≤ q
  · exact ho p q q1 q2 q3 e
  · exact Nat.le_trans (hle p (by omega) (by omega)) (hge q (by omega) (by omega))
theorem ordS_fin {l m : List B32} (p : m.Perm l) (h : ordS m 0 m.length) : m = l.mergeSort fun x y => decide (x.toNat ≤ y.toNat) := ordA_sorted p fun i j h1 h2 => h i j (Nat.zero_le _) h1 h2
def ordF (l : List B32) (a n j : Nat) : Prop := ∀ p q, a ≤ p → p < q → q < n → q ≠ j → vA l p ≤ vA l q
theorem ordF_of {e : Nat} (h : ordS l a e) : ordF l a (e + 1) e := fun p q h0 h1 h2 h3 => h p q h0 h1 (by omega)
theorem ordF_step {e j : Nat} (hn : e ≤ l.length) (hj : a < j) (hjn : j < e) (hlt : vA l j < vA l (j - 1)) (h : ordF l a e j) : ordF (swA l j (j - 1)) a e (j - 1) := by
  intro p q h0 h1 h2 h3
  rw [swA_v (by omega) (by omega), swA_v (by omega) (by omega)]
  rw [if_neg h3]
  by_cases hq : q = j
  · rw [if_pos hq]
    by_cases hp : p = j - 1
    · rw [if_pos hp]; omega
    · rw [if_neg hp, if_neg (by omega)]
      exact h p (j - 1) h0 (by omega) (by omega) (by omega)
  · rw [if_neg hq]
    by_cases hp : p = j - 1
    · rw [if_pos hp]
      exact h j q (by omega) (by omega) h2 hq
    · rw [if_neg hp]
      by_cases hp' : p = j
      · rw [if_pos hp']
        exact h (j - 1) q (by omega) (by omega) h2 hq
      · rw [if_neg hp']
        exact h p q h0 h1 h2 hq
theorem ordF_end {e j : Nat} (hend : j ≤ a ∨ vA l (j - 1) ≤ vA l j) (h : ordF l a e j) : ordS l a e := by
  intro p q h0 h1 h2
  by_cases hq : q = j
  · subst hq
    rcases hend with e | e
    · omega
    · by_cases hp : p = q - 1
      · subst hp; exact e
      · exact Nat.le_trans (h p (q - 1) h0 (by omega) (by omega) (by omega)) e
  · exact h p q h0 h1 h2 hq
theorem ordS_snoc {e : Nat} (h : ordS l a e) (hlt : a < e → vA l (e - 1) ≤ vA l e) : ordS l a (e + 1) := by
  intro p q h0 h1 h2
  by_cases hq : q = e
  · subst hq
    by_cases hp : p = q - 1
    · subst hp; exact hlt (by omega)
    · exact Nat.le_trans (h p (q - 1) h0 (by omega) (by omega)) (hlt (by omega))
  · exact h p q h0 h1 (by omega)
theorem ordS_out (h : ordS l a c) (hs : SwR c b l m) (hb : b ≤ l.length) : ordS m a c := fun p q h0 h1 h2 => by
  rw [hs.out hb (.inl (by omega)), hs.out hb (.inl (by omega))]; exact h p q h0 h1 h2
def hpF (l : List B32) (f lo hi : Nat) : Prop := ∀ k c, lo ≤ k → (c = 2 * k + 1 ∨ c = 2 * k + 2) → c < hi → vA l (f + c) ≤ vA l (f + k)
structure hpX (l : List B32) (f lo hi r : Nat) : Prop where
  fl : lo ≤ r
  ot : ∀ k c, lo ≤ k → k ≠ r → (c = 2 * k + 1 ∨ c = 2 * k + 2) → c < hi → vA l (f + c) ≤ vA l (f + k)
  gp : ∀ k c, lo ≤ k → (r = 2 * k + 1 ∨ r = 2 * k + 2) → (c = 2 * r + 1 ∨ c = 2 * r + 2) → c < hi → vA l (f + c) ≤ vA l (f + k)
theorem hpX_of {f lo hi : Nat} (h : hpF l f (lo + 1) hi) : hpX l f lo hi lo := ⟨Nat.le_refl _, fun k c h1 h2 h3 h4 => h k c (by omega) h3 h4, fun k c h1 h2 h3 h4 => by omega⟩
theorem hpX_end {f lo hi r : Nat} (h : hpX l f lo hi r) (h1 : ∀ c, (c = 2 * r + 1 ∨ c = 2 * r + 2) → c < hi → vA l (f + c) ≤ vA l (f + r)) : hpF l f lo hi := fun k c q1 q2 q3 => by
  by_cases e : k = r
  · subst e; exact h1 c q2 q3
  · exact h.ot k c q1 e q2 q3
theorem hpX_step {f lo hi r c' : Nat} (h : hpX l f lo hi r) (hl : f + hi ≤ l.length) (hc : c' = 2 * r + 1 ∨ c' = 2 * r + 2) (hch : c' < hi) (hgt : vA l (f + r) ≤ vA l (f + c')) (hmx : ∀ c, (c = 2 * r + 1 ∨ c = 2 * r + 2) → c < hi → vA l (f + c) ≤ vA l (f + c')) : hpX (swA l (f + r) (f + c')) f lo hi c' := by
  have h0 := h.fl
  have hv : ∀ k, vA (swA l (f + r) (f + c')) (f + k) = if k = c' then vA l (f + r) else if k = r then vA l (f + c') else vA l (f + k) := fun k => by
    rw [swA_v (by omega) (by omega)]
    by_cases e : k = c'
    · rw [if_pos (by omega), if_pos e]
    · rw [if_neg (by omega), if_neg e]
      by_cases e2 : k = r
      · rw [if_pos (by omega), if_pos e2]
      · rw [if_neg (by omega), if_neg e2]
  refine ⟨by omega, fun k c q1 q2 q3 q4 => ?_, fun k c q1 q2 q3 q4 => ?_⟩
  · rw [hv, hv, if_neg q2]
    by_cases e : k = r
    · subst e
      rw [if_pos rfl]
      by_cases e2 : c = c'
      · rw [if_pos e2]; exact hgt
      · rw [if_neg e2, if_neg (by omega)]; exact hmx c q3 q4
    · rw [if_neg e]
      by_cases e2 : c = c'
      · omega
      · rw [if_neg e2]
        by_cases e3 : c = r
        · rw [if_pos e3]; exact h.gp k c' q1 (by omega) hc hch
        · rw [if_neg e3]; exact h.ot k c q1 e q3 q4
  · have ek : k = r := by omega
    subst ek
    rw [hv, hv, if_neg (by omega), if_neg (by omega), if_neg (by omega), if_pos rfl]
    exact h.ot c' c (by omega) (by omega) q3 q4
theorem hpF_top {f hi : Nat} (h : hpF l f 0 hi) : ∀ k, k < hi → vA l (f + k) ≤ vA l f := by
  intro k
  induction k using Nat.strongRecOn with
  | ind k ih =>
    intro hk
    by_cases e : k = 0
    · subst e; exact Nat.le_refl _
    · exact Nat.le_trans (h ((k - 1) / 2) k (Nat.zero_le _) (by omega) hk) (ih _ (by omega) (by omega))
theorem hpF_none {f hi : Nat} {lo : Nat} (h : hi ≤ 2 * lo + 1) : hpF l f lo hi := fun k c q1 q2 q3 => by omega
theorem hpF_swap {f i : Nat} (h : hpF l f 0 (i + 1)) (hl : f + i < l.length) : hpF (swA l f (f + i)) f 1 i := fun k c q1 q2 q3 => by
  rw [swA_v (by omega) (by omega), swA_v (by omega) (by omega), if_neg (by omega), if_neg (by omega), if_neg (by omega), if_neg (by omega)]
  exact h k c (Nat.zero_le _) q2 (by omega)
theorem ordO_swap {f i e : Nat} (h : hpF l f 0 (i + 1)) (ho : ordO l f (f + e) f (f + (i + 1))) (hi : i < e) (hl : f + e ≤ l.length) : ordO (swA l f (f + i)) f (f + e) f (f + i) := by
  have ht := hpF_top h
  have h2 : SwR f (f + (i + 1)) l (swA l f (f + i)) := .step .refl (by omega) (by omega) (by omega) (by omega)
  have ho2 := ordO_sw ho h2 (Nat.le_refl f) (by omega) hl
  intro p q q1 q2 q3 q4
  by_cases e1 : q = f + i
  · subst e1
    rw [swA_v (k := f + i) (by omega) (by omega), if_pos rfl]
    refine h2.all (p := fun x => x ≤ vA l f) (by omega) (fun k k1 k2 => ?_) p (by omega) (by omega)
    have := ht (k - f) (by omega)
    rw [show f + (k - f) = k by omega] at this
    exact this
  · exact ho2 p q q1 q2 q3 (.inr (by omega))
theorem sift_max2 {f r hi : Nat} (h : vA l (f + (2 * r + 1)) ≤ vA l (f + (2 * r + 2))) : ∀ e, (e = 2 * r + 1 ∨ e = 2 * r + 2) → e < hi → vA l (f + e) ≤ vA l (f + (2 * r + 2)) := fun e h1 h2 => by
  rcases h1 with rfl | rfl
  · exact h
  · exact Nat.le_refl _
theorem sift_max1 {f r hi : Nat} (h : 2 * r + 2 < hi → vA l (f + (2 * r + 2)) ≤ vA l (f + (2 * r + 1))) : ∀ e, (e = 2 * r + 1 ∨ e = 2 * r + 2) → e < hi → vA l (f + e) ≤ vA l (f + (2 * r + 1)) := fun e h1 h2 => by
  rcases h1 with rfl | rfl
  · exact Nat.le_refl _
  · exact h h2
def LoI (w : List B32) (a i : Nat) : Prop := ∀ k, a < k → k < i → vA w k ≤ vA w a
def HiJ (w : List B32) (a j b : Nat) : Prop := ∀ k, j < k → k < b → vA w a ≤ vA w k
theorem LoI_snoc {w : List B32} {i : Nat} (h : LoI w a i) (h1 : vA w i ≤ vA w a) : LoI w a (i + 1) := fun k k1 k2 => by
  by_cases e : k = i
  · subst e; exact h1
  · exact h k k1 (by omega)
theorem HiJ_snoc {w : List B32} {j : Nat} (h : HiJ w a j b) (h1 : vA w a ≤ vA w j) : HiJ w a (j - 1) b := fun k k1 k2 => by
  by_cases e : k = j
  · subst e; exact h1
  · exact h k (by omega) k2
theorem LoI_swap {w : List B32} {i j : Nat} (hi : a < i) (hij : i < j) (hj : j < w.length) (h : LoI w a i) (h1 : vA w j ≤ vA w a) : LoI (swA w i j) a (i + 1) := fun k k1 k2 => by
  rw [swA_v (by omega) hj, swA_v (by omega) hj, if_neg (by omega), if_neg (show ¬ a = j by omega), if_neg (show ¬ a = i by omega)]
  by_cases e : k = i
  · rw [if_pos e]; exact h1
  · rw [if_neg e]; exact h k k1 (by omega)
theorem HiJ_swap {w : List B32} {i j : Nat} (hi : a < i) (hij : i < j) (hj : j < w.length) (h : HiJ w a j b) (h1 : vA w a ≤ vA w i) : HiJ (swA w i j) a (j - 1) b := fun k k1 k2 => by
  rw [swA_v (by omega) hj, swA_v (by omega) hj, if_neg (show ¬ a = j by omega), if_neg (show ¬ a = i by omega)]
  by_cases e : k = j
  · rw [if_pos e]; exact h1
  · rw [if_neg e, if_neg (by omega)]; exact h k (by omega) k2
theorem lt_of_vals {w : List B32} {i j : Nat} {x : Nat} (h : i ≤ j) (h1 : vA w j < x) (h2 : x ≤ vA w i) : i < j := by
  rcases Nat.lt_or_ge i j with q | q
  · exact q
  · have : i = j := by omega
    subst this; omega
theorem lt_of_vals' {w : List B32} {i j : Nat} {x : Nat} (h : i ≤ j) (h1 : vA w j ≤ x) (h2 : x < vA w i) : i < j := by
  rcases Nat.lt_or_ge i j with q | q
  · exact q
  · have : i = j := by omega
    subst this; omega
theorem Cut_fin {w : List B32} {i j : Nat} (hlo : LoI w a i) (hhi : HiJ w a j b) (h1 : i = j + 1) (h2 : a ≤ j) (h3 : j < b) (hb : b ≤ w.length) : Cut (swA w j a) a b j := by
  have hv : ∀ k, vA (swA w j a) k = if k = a then vA w j else if k = j then vA w a else vA w k := fun k => swA_v (by omega) (by omega) k
  refine ⟨h2, h3, fun k k1 k2 => ?_, fun k k1 k2 => ?_⟩
  · rw [hv, hv, if_neg (show ¬ j = a by omega), if_pos rfl]
    split
    · exact hlo j (by omega) (by omega)
    · rw [if_neg (by omega)]; exact hlo k (by omega) (by omega)
  · rw [hv, hv, if_neg (show ¬ k = a by omega), if_neg (show ¬ k = j by omega)]
    split
    · rename_i e; subst e; exact hhi k k1 k2
    · rw [if_pos rfl]; exact hhi k k1 k2
theorem swA_fst {w : List B32} {p : Nat} (ha : a < w.length) (hp : p < w.length) : vA (swA w a p) a = vA w p := by
  rw [swA_v ha hp]
  split
  · rename_i e; rw [e]
  · rw [if_pos rfl]
theorem LoI_all {w : List B32} {i v : Nat} (h : LoI w a i) (h1 : vA w a ≤ v) : ∀ k, a ≤ k → k < i → vA w k ≤ v := fun k k1 k2 => by
  by_cases e : k = a
  · subst e; exact h1
  · exact Nat.le_trans (h k (by omega) k2) h1
end Go.SvM
/-
  A server, a state told and a reply, each as one thing owned. (Conditions: none; generic over the program.)
-/
set_option maxRecDepth 20000
namespace Go.SvM
open Go.SL Go.ShM Go.RowKit
theorem Ct_ex {P : Program} {f : FuncId} {args : List Value} {σ : Type} {φ : σ → Prop} {B : σ → List Asn} {pre : List Asn} {ρ : Type} {val : ρ → Value} {post : ρ → List Asn} (h : ∀ s, φ s → Ct P f args (B s ++ pre) val post) : Ct P f args (exA φ B :: pre) val post :=
  ⟨fun F w hs => by
    obtain ⟨s, h1, h2⟩ := sat_exA.1 (show sat w (exA φ B :: (pre ++ F)) from hs)
    exact (h s h1).out F w (by rw [List.append_assoc]; exact h2)⟩
def SvA (tS tK tU : TypeId) (b : Nat) (room : Int) (s : Sv1) : Asn := exA (fun q : Nat × List En => q.2.map En.e = s.l) (fun q => [cl b tS [.bool true, .int .i64 room, .int .i64 s.tick, .int .i64 ((usedE q.2 : Nat) : Int), .map (some q.1)], mpP q.1 kfK vfP (q.2.map En.kp), star (FEn tK tU) q.2])
theorem SvA_mk {tS tK tU : TypeId} {b : Nat} {room : Int} {s : Sv1} {R : List Asn} {w : World} (m : Nat) (L : List En) (hL : L.map En.e = s.l) (h : sat w ([cl b tS [.bool true, .int .i64 room, .int .i64 s.tick, .int .i64 ((usedE L : Nat) : Int), .map (some m)], mpP m kfK vfP (L.map En.kp), star (FEn tK tU) L] ++ R)) : sat w (SvA tS tK tU b room s :: R) := sat_exA.2 ⟨(m, L), hL, h⟩
theorem Sv_mapf {α β : Type} {A : List Asn} {v : Value} {e : Nat} {f : α → List Value} {g : β → List Value} {h : α → β} {l : List α} {ao : Option Addr} {cap : Nat} (hs : Sv A v e f l ao cap) (hg : ∀ x, g (h x) = f x) : Sv A v e g (l.map h) ao cap :=
  ⟨by rw [List.length_map]; exact hs.val, fun hne => hs.adr (fun e => hne (by rw [e]; rfl)),
    fun x hx => by
      obtain ⟨y, hy, rfl⟩ := List.mem_map.1 hx
      rw [hg]; exact hs.len y hy,
    by rw [List.length_map]; exact hs.le,
    fun w hw i x hx j u hu => by
      rw [List.getElem?_map] at hx
      cases hy : l[i]? with
      | none => rw [hy] at hx; cases hx
      | some y =>
        rw [hy] at hx; cases hx
        rw [hg] at hu
        exact hs.cell w hw i y hy j u hu⟩
structure StG (l : List Kp) where
  X : Asn
  v : Value
  kvs : List KV
  ao : Option Addr
  cap : Nat
  eq : kvs.map KV.kp = l
  sv : Sv [X] v 19 eKV kvs ao cap
  ok : ∀ k ∈ kvs, OKv X k
theorem st_view {tT tU tL : TypeId} {kms : List KM} {a : Option Nat} {cap : Nat} {l : List Kp} {R : List Asn} {w : World} (he : kms.map KM.e = l) (h : sat w (arr a cap 19 tT eKM kms :: star (FKM tU tL) kms :: R)) :
    ∃ g : StG l, g.v = sl a kms.length cap ∧ sat w (g.X :: R) := by
  have h0 := arr_facts (a := a) (cap := cap) (e := 19) (T := tT) (f := eKM) (l := kms) Has.here h
  have hs : Sv [arr a cap 19 tT eKM kms] (sl a kms.length cap) 19 eKM kms (a.map fun g => ⟨g, 0, none⟩) cap := Sv_own' encKM h0.1 h0.2
  refine ⟨⟨sep [arr a cap 19 tT eKM kms, star (FKM tU tL) kms], sl a kms.length cap, kms.map KM.kv, a.map fun g => ⟨g, 0, none⟩, cap, ?_, ?_, ?_⟩, rfl, sat_app.2 h⟩
  · rw [List.map_map, ← he]; exact List.map_congr_left fun k _ => KM.kv_kp k
  · exact (Sv_mapf (g := eKV) (h := KM.kv) hs fun k => KM.kv_e k).pk Has.here
  · intro k hk
    obtain ⟨km, hm, rfl⟩ := List.mem_map.1 hk
    obtain ⟨i, hi, hx⟩ := List.mem_iff_getElem.1 hm
    have hx' : kms[i]? = some km := by rw [List.getElem?_eq_getElem hi, hx]
    have h1 := star_open i hx' (sat_drop h)
    have h2 : sat w (arr km.ba km.bc 1 tU (eU .u8 (w := 8)) km.e.b :: arr km.la km.lc 2 tL eLs km.e.ls :: star (FKM tU tL) (kms.eraseIdx i) :: R) := by
      unfold FKM at h1; exact sat_app.1 h1
    have f1 := arr_facts (a := km.ba) (cap := km.bc) (e := 1) (T := tU) (f := (eU .u8 (w := 8))) (l := km.e.b) Has.here h2
    have f2 := arr_facts (a := km.la) (cap := km.lc) (e := 2) (T := tL) (f := eLs) (l := km.e.ls) (Has.there Has.here) h2
    have s1 : Sv [arr km.ba km.bc 1 tU (eU .u8 (w := 8)) km.e.b] (sl km.ba km.e.b.length km.bc) 1 (eU .u8 (w := 8)) km.e.b (km.ba.map fun g => ⟨g, 0, none⟩) km.bc := Sv_own' (encU .u8 (w := 8)) f1.1 f1.2
    have s2 : Sv [arr km.la km.lc 2 tL eLs km.e.ls] (sl km.la km.e.ls.length km.lc) 2 eLs km.e.ls (km.la.map fun g => ⟨g, 0, none⟩) km.lc := Sv_own' encLs f2.1 f2.2
    have op : ∀ w', sat w' [sep [arr a cap 19 tT eKM kms, star (FKM tU tL) kms]] → sat w' (arr km.ba km.bc 1 tU (eU .u8 (w := 8)) km.e.b :: arr km.la km.lc 2 tL eLs km.e.ls :: [star (FKM tU tL) (kms.eraseIdx i)]) := fun w' hw => by
      have h3 := star_open i hx' (sat_drop (sat_app.1 hw))
      unfold FKM at h3; exact sat_app.1 h3
    exact ⟨s1.imp fun w' hw => (Sub.cons Ext.here Sub.nil).sat (op w' hw), s2.imp fun w' hw => (Sub.cons Ext.here Sub.nil).sat (sat_drop (op w' hw))⟩
structure RpG (eI : Int → List Value) (rp : Rp) where
  X : Asn
  nv : Value
  bv : Value
  na : Option Addr
  nc : Nat
  ba : Option Addr
  bc : Nat
  hn : Sv [X] nv 1 eI rp.ns na nc
  hb : Sv [X] bv 1 (eU .u8 (w := 8)) rp.bs ba bc
def RpG.v {eI : Int → List Value} {rp : Rp} (g : RpG eI rp) : Value := .agg [.int .u8 rp.kind, g.nv, g.bv].toArray
theorem rp_view {eI : Int → List Value} (encI : Enc eI 1) {tI tU : TypeId} {rp : Rp} {na ba : Option Nat} {nc bc : Nat} {R : List Asn} {w : World} (h : sat w (arr na nc 1 tI eI rp.ns :: arr ba bc 1 tU (eU .u8 (w := 8)) rp.bs :: R)) :
    ∃ g : RpG eI rp, g.v = .agg [.int .u8 rp.kind, sl na rp.ns.length nc, sl ba rp.bs.length bc].toArray ∧ sat w (g.X :: R) := by
  have f1 := arr_facts (a := na) (cap := nc) (e := 1) (T := tI) (f := eI) (l := rp.ns) Has.here h
  have f2 := arr_facts (a := ba) (cap := bc) (e := 1) (T := tU) (f := (eU .u8 (w := 8))) (l := rp.bs) (Has.there Has.here) h
  have s1 : Sv [arr na nc 1 tI eI rp.ns] (sl na rp.ns.length nc) 1 eI rp.ns (na.map fun g => ⟨g, 0, none⟩) nc := Sv_own' encI f1.1 f1.2
  have s2 : Sv [arr ba bc 1 tU (eU .u8 (w := 8)) rp.bs] (sl ba rp.bs.length bc) 1 (eU .u8 (w := 8)) rp.bs (ba.map fun g => ⟨g, 0, none⟩) bc := Sv_own' (encU .u8 (w := 8)) f2.1 f2.2
  exact ⟨⟨sep [arr na nc 1 tI eI rp.ns, arr ba bc 1 tU (eU .u8 (w := 8)) rp.bs], _, _, _, _, _, _, s1.pk Has.here, s2.pk (Has.there Has.here)⟩, rfl, sat_app.2 h⟩
theorem Wf.bl {room : Int} {s : Sv1} (h : Wf room s) {kvs : List KV} (e : kvs.map KV.kp = s.l) : ∀ k ∈ kvs, k.b.l.length ≤ 900000000000 := fun k hk => by
  have h1 := h.len k.kp (by rw [← e]; exact List.mem_map.2 ⟨k, hk, rfl⟩)
  have h2 : k.kp.b.length = k.b.l.length := rfl
  omega
end Go.SvM
/-
  Stores, requests and scripts as they are handed in. (Conditions: none; generic over the program.)
-/
set_option maxRecDepth 20000
namespace Go.SvM
open Go.SL Go.ShM Go.RowKit Go.ChangeShapes Go.WideShapes
section
variable {H : Type} {enc : TypeId × Value → H} {P : Program} {W : World} {base : Nat} {sp : Nat → Bool} {hd : Bool} {m : DataW H → Nat} {N : Nat}
structure AcQ where
  on : Int
  kind : Int
  at_ : Int
  stop : Int
  r : Rq
end
end Go.SvM
