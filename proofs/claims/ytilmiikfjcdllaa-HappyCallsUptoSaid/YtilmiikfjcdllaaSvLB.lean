/-
  Contracts of functions that the claim reaches, or the logic and the plain laws that they rest on, or the row over them. (Conditions: none beyond the statement.)
-/
import Derived.Test.YtilmiikfjcdllaaSvLA
import Derived.Test.YtilmiikfjcdllaaShA
import Derived.Test.YtilmiikfjcdllaaLibS
import Derived.Test.YtilmiikfjcdllaaLibA
import Derived.Test.YtilmiikfjcdllaaLibE
import Derived.Test.YtilmiikfjcdllaaLibR
import Derived.Test.YtilmiikfjcdllaaLibC
import Derived.Test.YtilmiikfjcdllaaTrArg
set_option linter.all false
/-
  A server's requests, what may be asked, what is answered, in plain words. (Conditions: none; no program in sight.)
-/
set_option maxRecDepth 20000
namespace Go.SvM
open Go.SL Go.ShM Go.RowKit
structure Rq where
  kind : B8
  ix : Ix
  num : Int
  at_ : Int
  len : Int
  who : B32
  un : Int
  b : Pt
def bareM (n f c wh un : Int) (len : Nat) (bn bf bl bb : Bool) : Bool :=
  (bn || decide (n = 0)) && (bf || (decide (f = 0) && decide (c = 0))) && (bl || (decide (wh = 0) && decide (un = 0))) && (bb || decide (len = 0)) && decide (0 ≤ n) && decide (n < 255) && decide (0 ≤ un) && decide (un ≤ 1099511627776)
def mayM (k n f c wh un : Int) (len : Nat) : Bool :=
  (decide (k = 1) && bareM n f c wh un len false false false false) || (decide (k = 2) && bareM n f c wh un len true false true true && decide (len ≤ 33554432)) ||
  (decide (k = 3) && bareM n f c wh un len true true false false && decide (0 ≤ f) && decide (f ≤ 33554432) && decide (1 ≤ c) && decide (c ≤ 131072)) ||
  (decide (k = 4) && bareM n f c wh un len false false true false) || (decide (k = 5) && bareM n f c wh un len false false true false && decide (un = 0))
def mayQ (r : Rq) : Bool := mayM (r.kind.toNat : Int) r.num r.at_ r.len (r.who.toNat : Int) r.un r.b.l.length
end Go.SvM
/-
  A server's leases laid, its shares found, one more share: in plain words. (Conditions: none; no program in sight.)
-/
set_option maxRecDepth 20000
namespace Go.SvM
open Go.SL Go.ShM Go.RowKit
theorem layL_srt {w : B32} {u : Int} : ∀ {ls : List Ls}, SrtW ls → SrtW (layL w u ls) ∧ ∀ y ∈ layL w u ls, y.1 = w ∨ y ∈ ls
  | [], _ => by simp [layL, SrtW]
  | x :: r, h => by
    have h' := List.pairwise_cons.1 h
    obtain ⟨i1, i2⟩ := layL_srt (w := w) (u := u) h'.2
    unfold layL
    by_cases e : x.1 = w
    · rw [if_pos e]
      refine ⟨List.pairwise_cons.2 ⟨fun y hy => ?_, h'.2⟩, fun y hy => ?_⟩
      · have := h'.1 y hy; unfold wLt at *; rw [e] at this; exact this
      · rcases List.mem_cons.1 hy with rfl | hy
        · exact .inl rfl
        · exact .inr (List.mem_cons_of_mem _ hy)
    · rw [if_neg e]
      split
      · rename_i hlt
        refine ⟨List.pairwise_cons.2 ⟨fun y hy => ?_, h⟩, fun y hy => ?_⟩
        · rcases List.mem_cons.1 hy with rfl | hy
          · exact hlt
          · have := h'.1 y hy; unfold wLt at *; simp only; omega
        · rcases List.mem_cons.1 hy with rfl | hy
          · exact .inl rfl
          · exact .inr hy
      · rename_i hlt
        refine ⟨List.pairwise_cons.2 ⟨fun y hy => ?_, i1⟩, fun y hy => ?_⟩
        · rcases i2 y hy with q | q
          · have hne : x.1.toNat ≠ w.toNat := fun q => e (BitVec.eq_of_toNat_eq q)
            unfold wLt; rw [q]; omega
          · exact h'.1 y q
        · rcases List.mem_cons.1 hy with rfl | hy
          · exact .inr (by simp)
          · rcases i2 y hy with q | q
            · exact .inl q
            · exact .inr (List.mem_cons_of_mem _ q)
def findE (k : Ky) (L : List En) : Option En := L.find? fun x => decide (x.e.key = k)
def insK (e : Kp) : List Kp → List Kp
  | [] => [e]
  | x :: r => if kLt e.key x.key then e :: x :: r else x :: insK e r
theorem insK_mem {e : Kp} : ∀ {l : List Kp} {y : Kp}, y ∈ insK e l → y = e ∨ y ∈ l
  | [], y, h => by simpa [insK] using h
  | x :: r, y, h => by
    unfold insK at h
    split at h
    · rcases List.mem_cons.1 h with q | q
      · exact .inl q
      · exact .inr q
    · rcases List.mem_cons.1 h with q | q
      · exact .inr (by simp [q])
      · rcases insK_mem q with q | q
        · exact .inl q
        · exact .inr (by simp [q])
theorem insK_srt {e : Kp} : ∀ {l : List Kp}, SrtK l → e.key ∉ l.map Kp.key → SrtK (insK e l)
  | [], _, _ => by simp [insK, SrtK]
  | x :: r, h, hn => by
    have h' := List.pairwise_cons.1 h
    unfold insK
    split
    · rename_i hlt
      refine List.pairwise_cons.2 ⟨fun y hy => ?_, h⟩
      rcases List.mem_cons.1 hy with rfl | hy
      · exact hlt
      · exact kLt_tr hlt (h'.1 y hy)
    · rename_i hlt
      have hxe : kLt x.key e.key := by
        by_cases q : kLt x.key e.key
        · exact q
        · exact absurd (List.mem_map.2 ⟨x, by simp, (kLt_tot q hlt)⟩) hn
      refine List.pairwise_cons.2 ⟨fun y hy => ?_, insK_srt h'.2 (fun hm => hn (by rw [List.map_cons]; exact List.mem_cons_of_mem _ hm))⟩
      rcases insK_mem hy with rfl | hy
      · exact hxe
      · exact h'.1 y hy
def setLs (k : Ky) (f : List Ls → List Ls) (l : List Kp) : List Kp := l.map fun e => if e.key = k then e.with (f e.ls) else e
end Go.SvM
/-
  A server's share opened in its place, and shut again. (Conditions: none; generic over the program.)
-/
set_option maxRecDepth 20000
namespace Go.SvM
open Go.SL Go.ShM Go.RowKit
section
variable {P : Program} {m : Md} {ops : Array Oper} {Q : Exit → Act → World → Prop} {w0 : World} {n : Nat} {rest : List Oper} {L : List (Nat × Value)} {A0 R : List Asn} {c : Code}
end
end Go.SvM
/-
  A server's share shut with other leases. (Conditions: none; generic over the program.)
-/
set_option maxRecDepth 20000
namespace Go.SvM
open Go.SL Go.ShM Go.RowKit
section
variable {P : Program} {m : Md} {ops : Array Oper} {Q : Exit → Act → World → Prop} {w0 : World} {n : Nat} {rest : List Oper} {L : List (Nat × Value)} {A0 R : List Asn} {c : Code}
end
end Go.SvM
/-
  A server's shares changed one by one: those under an index of which something holds. (Conditions: none; no program in sight.)
-/
set_option maxRecDepth 20000
namespace Go.SvM
open Go.SL Go.ShM Go.RowKit
def chgK (g : List Ls → List Ls) (e : Kp) : Option Kp := keepK e (g e.ls)
def allK (ix : Ix) (p : Kp → Bool) (g : List Ls → List Ls) (L : List Kp) : List Kp := L.filterMap fun e => if (decide (e.ix = ix) && p e) = true then chgK g e else some e
theorem find_at {k : Ky} {A B : List En} {x : En} (hx : x.e.key = k) (hA : ∀ y ∈ A, y.e.key ≠ k) : findE k (A ++ x :: B) = some x := by
  unfold findE
  rw [List.find?_append, List.find?_eq_none.2 (fun y hy => by simpa using hA y hy)]
  rw [List.find?_cons_of_pos (by simpa using hx)]
  rfl
theorem layL_ne (w : B32) (u : Int) : ∀ ls : List Ls, layL w u ls ≠ []
  | [] => by simp [layL]
  | x :: r => by unfold layL; split; · simp
                 split <;> simp
section
variable {P : Program} {m : Md} {ops : Array Oper} {Q : Exit → Act → World → Prop} {w0 : World} {n : Nat} {rest : List Oper} {L : List (Nat × Value)} {A0 R : List Asn} {c : Code}
end
end Go.SvM
/-
  What a server answers, and what it holds then, in plain words. (Conditions: none; no program in sight.)
-/
set_option maxRecDepth 20000
namespace Go.SvM
open Go.SL Go.ShM Go.RowKit
structure Rp where
  kind : Int
  ns : List Int
  bs : List B8
def rp0 (k : Int) : Rp := ⟨k, [], []⟩
def storeM (room : Int) (l : List Kp) (r : Rq) : Rp × List Kp :=
  match findK (r.ix, r.num) l with
  | none => if room - (usedM l : Int) < (r.b.l.length : Int) then (rp0 3, l) else (rp0 2, insK ⟨r.ix, r.num, r.b.l, [(r.who, r.un)]⟩ l)
  | some e => if e.b ≠ r.b.l then (rp0 4, l) else if hasW r.who e.ls = false ∧ 64 ≤ e.ls.length then (rp0 3, l) else (rp0 2, setLs (r.ix, r.num) (layL r.who r.un) l)
def fetchM (l : List Kp) (r : Rq) : Rp :=
  match findK (r.ix, r.num) l with
  | none => rp0 6
  | some e => if (e.b.length : Int) < r.at_ + r.len then rp0 6 else ⟨5, [], (e.b.take (r.at_.toNat + r.len.toNat)).drop r.at_.toNat⟩
def heldM (r : Rq) (l : List Kp) : List Int := underM r.ix (fun e => hasW r.who e.ls) l
def doM (room : Int) (l : List Kp) (r : Rq) : Rp × List Kp :=
  if r.kind = 1#8 then (⟨1, underM r.ix (fun _ => true) l, []⟩, l)
  else if r.kind = 2#8 then storeM room l r
  else if r.kind = 3#8 then (fetchM l r, l)
  else if r.kind = 4#8 then (⟨1, heldM r l, []⟩, allK r.ix (fun e => hasW r.who e.ls) (layL r.who r.un) l)
  else (⟨1, heldM r l, []⟩, allK r.ix (fun e => hasW r.who e.ls) (delL r.who) l)
def livesQ (t : Int) (r : Rq) : Bool := decide (t ≤ r.un) || (decide (r.kind ≠ 2#8) && decide (r.kind ≠ 4#8))
structure Sv1 where
  tick : Int
  l : List Kp
def callM (room : Int) (s : Sv1) (t : Int) (r : Rq) : Rp × Int × Sv1 :=
  if t < s.tick ∨ 1099511627776 < t then (rp0 0, 191, s)
  else if mayQ r && livesQ t r then ((doM room (tickL t s.l) r).1, 0, ⟨t, (doM room (tickL t s.l) r).2⟩)
  else (rp0 7, 0, ⟨t, tickL t s.l⟩)
structure Wf (room : Int) (s : Sv1) : Prop where
  rm : 0 ≤ room ∧ room ≤ 1073741824
  tk : 0 ≤ s.tick ∧ s.tick ≤ 1099511627776
  srt : SrtK s.l
  ws : ∀ e ∈ s.l, SrtW e.ls
  num : ∀ e ∈ s.l, 0 ≤ e.num ∧ e.num < 255
  len : ∀ e ∈ s.l, e.b.length ≤ 33554432
  ls : ∀ e ∈ s.l, 1 ≤ e.ls.length ∧ e.ls.length ≤ 64
  un : ∀ e ∈ s.l, ∀ x ∈ e.ls, s.tick ≤ x.2 ∧ x.2 ≤ 1099511627776
  used : (usedM s.l : Int) ≤ room
structure WfK (t : Int) (e : Kp) : Prop where
  ws : SrtW e.ls
  num : 0 ≤ e.num ∧ e.num < 255
  len : e.b.length ≤ 33554432
  ls : 1 ≤ e.ls.length ∧ e.ls.length ≤ 64
  un : ∀ x ∈ e.ls, t ≤ x.2 ∧ x.2 ≤ 1099511627776
theorem Wf.one {room : Int} {s : Sv1} (h : Wf room s) {e : Kp} (he : e ∈ s.l) : WfK s.tick e := ⟨h.ws e he, h.num e he, h.len e he, h.ls e he, h.un e he⟩
theorem Wf.of {room : Int} {s : Sv1} (rm : 0 ≤ room ∧ room ≤ 1073741824) (tk : 0 ≤ s.tick ∧ s.tick ≤ 1099511627776) (srt : SrtK s.l) (all : ∀ e ∈ s.l, WfK s.tick e) (used : (usedM s.l : Int) ≤ room) : Wf room s :=
  ⟨rm, tk, srt, fun e h => (all e h).ws, fun e h => (all e h).num, fun e h => (all e h).len, fun e h => (all e h).ls, fun e h => (all e h).un, used⟩
theorem used_fm {f : Kp → Option Kp} (hf : ∀ e x, f e = some x → x.b = e.b) : ∀ l : List Kp, usedM (l.filterMap f) ≤ usedM l
  | [] => Nat.le_refl _
  | x :: r => by
    have h := used_fm hf r
    rw [List.filterMap_cons, usedM_cons]
    split
    · omega
    · rename_i y hy; rw [usedM_cons, hf x y hy]; omega
theorem Wf.fm {room : Int} {s : Sv1} {t : Int} {f : Kp → Option Kp} (h : Wf room s) (ht : 0 ≤ t ∧ t ≤ 1099511627776) (hf : ∀ e x, f e = some x → x.key = e.key ∧ x.b = e.b) (hk : ∀ e ∈ s.l, ∀ x, f e = some x → WfK t x) : Wf room ⟨t, s.l.filterMap f⟩ := by
  refine Wf.of h.rm ht (h.srt.fm fun e x q => (hf e x q).1) (fun y hy => ?_) ?_
  · obtain ⟨e, he, q⟩ := List.mem_filterMap.1 hy
    exact hk e he y q
  · have := used_fm (fun e x q => (hf e x q).2) s.l
    have := h.used
    show ((usedM (s.l.filterMap f) : Nat) : Int) ≤ room
    omega
theorem WfK.keep {t t' : Int} {e x : Kp} {ls : List Ls} (h : WfK t e) (hx : keepK e ls = some x) (hs : SrtW ls) (hl : ls.length ≤ 64) (hu : ∀ y ∈ ls, t' ≤ y.2 ∧ y.2 ≤ 1099511627776) : WfK t' x := by
  obtain ⟨h1, h2, h3, h4⟩ := keepK_key hx
  have hn : x.num = e.num := congrArg Prod.snd h1
  have h5 : 1 ≤ ls.length := by
    cases ls with
    | nil => exact absurd rfl h4
    | cons _ _ => simp
  exact ⟨by rw [h3]; exact hs, by rw [hn]; exact h.num, by rw [h2]; exact h.len, by rw [h3]; exact ⟨h5, hl⟩, by rw [h3]; exact hu⟩
theorem SrtW.filter {ls : List Ls} (p : Ls → Bool) (h : SrtW ls) : SrtW (ls.filter p) := List.Pairwise.filter p h
theorem Wf.tick {room : Int} {s : Sv1} {t : Int} (h : Wf room s) (h1 : s.tick ≤ t) (h2 : t ≤ 1099511627776) : Wf room ⟨t, tickL t s.l⟩ := by
  have h0 := h.tk
  refine h.fm ⟨by omega, h2⟩ (fun e x q => ⟨(keepK_key q).1, (keepK_key q).2.1⟩) (fun e he x q => ?_)
  have hw := h.one he
  refine hw.keep q (SrtW.filter _ hw.ws) (Nat.le_trans (List.length_filter_le _ _) hw.ls.2) (fun y hy => ?_)
  obtain ⟨a, b⟩ := List.mem_filter.1 hy
  exact ⟨by simpa using b, (hw.un y a).2⟩
theorem layL_len (w : B32) (u : Int) : ∀ ls : List Ls, (layL w u ls).length ≤ ls.length + 1 ∧ (hasW w ls = true → SrtW ls → (layL w u ls).length = ls.length)
  | [] => ⟨by simp [layL], fun h => by simp [hasW] at h⟩
  | x :: r => by
    obtain ⟨i1, i2⟩ := layL_len w u r
    unfold layL
    by_cases e : x.1 = w
    · rw [if_pos e]; exact ⟨by simp, fun _ _ => by simp⟩
    · rw [if_neg e]
      by_cases q : w.toNat < x.1.toNat
      · rw [if_pos q]
        refine ⟨by simp, fun hh hs => ?_⟩
        exfalso
        obtain ⟨y, hy, hw⟩ := List.mem_map.1 (hasW_iff.1 hh)
        rcases List.mem_cons.1 hy with rfl | hy
        · exact e hw
        · have := (List.pairwise_cons.1 hs).1 y hy
          unfold wLt at this; rw [hw] at this; omega
      · rw [if_neg q]
        refine ⟨by simp; omega, fun hh hs => ?_⟩
        rw [List.length_cons, List.length_cons, i2 ?_ (List.pairwise_cons.1 hs).2]
        unfold hasW at hh ⊢
        rw [List.any_cons] at hh
        simpa [e] using hh
theorem layL_un {t : Int} {w : B32} {u : Int} (h1 : t ≤ u) (h2 : u ≤ 1099511627776) : ∀ {ls : List Ls}, (∀ x ∈ ls, t ≤ x.2 ∧ x.2 ≤ 1099511627776) → ∀ x ∈ layL w u ls, t ≤ x.2 ∧ x.2 ≤ 1099511627776
  | [], _, x, hx => by
    rw [layL, List.mem_singleton] at hx; subst hx; exact ⟨h1, h2⟩
  | y :: r, h, x, hx => by
    unfold layL at hx
    have hy := h y (by simp)
    split at hx
    · rcases List.mem_cons.1 hx with rfl | hx
      · exact ⟨by simp only; omega, by simp only; omega⟩
      · exact h x (List.mem_cons_of_mem _ hx)
    · split at hx
      · rcases List.mem_cons.1 hx with rfl | hx
        · exact ⟨h1, h2⟩
        · exact h x hx
      · rcases List.mem_cons.1 hx with rfl | hx
        · exact hy
        · exact layL_un h1 h2 (fun z hz => h z (List.mem_cons_of_mem _ hz)) x hx
structure MayR (r : Rq) : Prop where
  num : 0 ≤ r.num ∧ r.num < 255
  un : 0 ≤ r.un ∧ r.un ≤ 1099511627776
  len : r.b.l.length ≤ 33554432
  kind : r.kind = 1#8 ∨ r.kind = 2#8 ∨ r.kind = 3#8 ∨ r.kind = 4#8 ∨ r.kind = 5#8
  fetch : r.kind = 3#8 → (0 ≤ r.at_ ∧ r.at_ ≤ 33554432) ∧ 1 ≤ r.len ∧ r.len ≤ 131072
theorem kind_of {k : B8} {n : Nat} (hn : n < 256) (h : (k.toNat : Int) = n) : k = BitVec.ofNat 8 n := by
  apply BitVec.eq_of_toNat_eq
  rw [BitVec.toNat_ofNat, Nat.mod_eq_of_lt (by omega)]
  omega
theorem mayQ_may {r : Rq} (h : mayQ r = true) : MayR r := by
  unfold mayQ mayM bareM at h
  simp only [Bool.or_eq_true, Bool.and_eq_true, decide_eq_true_eq] at h
  refine ⟨⟨by omega, by omega⟩, ⟨by omega, by omega⟩, by simp only [Bool.false_eq_true, false_or, true_or] at h; omega, ?_, fun hk => ?_⟩
  · rcases h with (((h | h) | h) | h) | h
    · exact .inl (kind_of (n := 1) (by omega) (by omega))
    · exact .inr (.inl (kind_of (n := 2) (by omega) (by omega)))
    · exact .inr (.inr (.inl (kind_of (n := 3) (by omega) (by omega))))
    · exact .inr (.inr (.inr (.inl (kind_of (n := 4) (by omega) (by omega)))))
    · exact .inr (.inr (.inr (.inr (kind_of (n := 5) (by omega) (by omega)))))
  · have : (r.kind.toNat : Int) = 3 := by rw [hk]; rfl
    rcases h with (((h | h) | h) | h) | h <;> omega
end Go.SvM
/-
  What a server keeps to, kept by every call. (Conditions: none; no program in sight.)
-/
set_option maxRecDepth 20000
namespace Go.SvM
open Go.SL Go.ShM Go.RowKit
theorem insK_perm (e : Kp) : ∀ l : List Kp, (e :: l).Perm (insK e l)
  | [] => .refl _
  | x :: r => by
    unfold insK
    split
    · exact .refl _
    · exact (List.Perm.swap _ _ _).trans ((insK_perm e r).cons x)
theorem setLs_fm (k : Ky) (f : List Ls → List Ls) (l : List Kp) : setLs k f l = l.filterMap fun e => some (if e.key = k then e.with (f e.ls) else e) := by
  unfold setLs
  rw [← List.filterMap_eq_map]; rfl
theorem findK_uniq {l : List Kp} (h : SrtK l) {k : Ky} {e e' : Kp} (hf : findK k l = some e) (hm : e' ∈ l) (hk : e'.key = k) : e' = e := by
  have := findK_mem h.nd hm
  rw [hk, hf] at this
  exact (Option.some.inj this).symm
theorem laid_one {t : Int} {r : Rq} {e x : Kp} (h : WfK t e) (hu : t ≤ r.un ∧ r.un ≤ 1099511627776) (hok : hasW r.who e.ls = true ∨ e.ls.length < 64) (hx : keepK e (layL r.who r.un e.ls) = some x) : WfK t x := by
  refine h.keep hx (layL_srt h.ws).1 ?_ (layL_un hu.1 hu.2 h.un)
  obtain ⟨a, b⟩ := layL_len r.who r.un e.ls
  rcases hok with q | q
  · rw [b q h.ws]; exact h.ls.2
  · omega
theorem keepK_layL {e : Kp} {w : B32} {u : Int} : keepK e (layL w u e.ls) = some (e.with (layL w u e.ls)) := by
  unfold keepK; rw [if_neg (layL_ne _ _ _)]
theorem Wf.do_ {room : Int} {s : Sv1} {r : Rq} (h : Wf room s) (hm : MayR r) (hl : livesQ s.tick r = true) : Wf room ⟨s.tick, (doM room s.l r).2⟩ := by
  have hun : r.kind = 2#8 ∨ r.kind = 4#8 → s.tick ≤ r.un := fun hk => by
    unfold livesQ at hl
    simp only [Bool.or_eq_true, Bool.and_eq_true, decide_eq_true_eq, ne_eq] at hl
    rcases hl with q | ⟨q1, q2⟩
    · exact q
    · rcases hk with k | k
      · exact absurd k q1
      · exact absurd k q2
  unfold doM
  split
  · exact h
  split
  · rename_i _ hk
    have hun' := hun (.inl hk)
    unfold storeM
    split
    · rename_i hf
      split
      · exact h
      · rename_i hr
        have hno := findK_none hf
        refine Wf.of h.rm h.tk (insK_srt h.srt hno) (fun e he => ?_) ?_
        · rcases insK_mem he with rfl | he
          · exact ⟨by simp [SrtW], hm.num, hm.len, by simp, fun x hx => by
              rw [List.mem_singleton] at hx; subst hx; exact ⟨hun', hm.un.2⟩⟩
          · exact h.one he
        · show ((usedM (insK _ s.l) : Nat) : Int) ≤ room
          rw [← usedM_perm (insK_perm _ _), usedM_cons]
          simp only
          omega
    · rename_i e hf
      split
      · exact h
      split
      · exact h
      · rename_i hne hq
        show Wf room ⟨s.tick, setLs _ _ _⟩
        rw [setLs_fm]
        refine h.fm h.tk (fun e' x q => ?_) (fun e' he' x q => ?_)
        · cases q; split <;> exact ⟨rfl, rfl⟩
        · cases q
          split
          · rename_i hkey
            have := findK_uniq h.srt hf he' hkey
            subst this
            refine laid_one (r := r) (h.one he') ⟨hun', hm.un.2⟩ ?_ keepK_layL
            by_cases hw : hasW r.who e'.ls = true
            · exact .inl hw
            · refine .inr (Nat.lt_of_not_le fun h64 => hq ⟨by simpa using hw, h64⟩)
          · exact h.one he'
  split
  · exact h
  split
  · rename_i _ _ _ hk
    have hun' := hun (.inr hk)
    refine h.fm h.tk (fun e x q => ?_) (fun e he x q => ?_)
    · split at q
      · exact ⟨(keepK_key q).1, (keepK_key q).2.1⟩
      · cases q; exact ⟨rfl, rfl⟩
    · split at q
      · rename_i hp
        rw [Bool.and_eq_true] at hp
        exact laid_one (h.one he) ⟨hun', hm.un.2⟩ (.inl hp.2) q
      · cases q; exact h.one he
  · refine h.fm h.tk (fun e x q => ?_) (fun e he x q => ?_)
    · split at q
      · exact ⟨(keepK_key q).1, (keepK_key q).2.1⟩
      · cases q; exact ⟨rfl, rfl⟩
    · split at q
      · have hw := h.one he
        refine hw.keep q (SrtW.filter _ hw.ws) (Nat.le_trans (List.length_filter_le _ _) hw.ls.2) (fun y hy => hw.un y ((List.mem_filter.1 hy).1))
      · cases q; exact h.one he
theorem Wf.call {room : Int} {s : Sv1} {t : Int} {r : Rq} (h : Wf room s) : Wf room (callM room s t r).2.2 := by
  unfold callM
  split
  · exact h
  · have ht := h.tick (t := t) (by omega) (by omega)
    split
    · rename_i hp
      rw [Bool.and_eq_true] at hp
      exact ht.do_ (mayQ_may hp.1) hp.2
    · exact ht
end Go.SvM
/-
  A call of a bound method's value. (Conditions: none; generic over the program.)
-/
set_option maxRecDepth 20000
namespace Go.SL
open Go.RowKit
section
variable {P : Program} {n : Nat} {L : List (Nat × Value)} {A : List Asn} {d : Option Tmp} {ty : TypeId} {pos : String} {af : Array Edge} {g : Option (Nat × Bool)}
end
end Go.SL
/-
  Keys in order: the comparison; keys sorted. (Conditions: none; no program in sight.)
-/
set_option maxRecDepth 20000
namespace Go.SvM
open Go.SL Go.ShM Go.RowKit Go.Sort Go.Shelf Go.Proofs Go.Lib
def cfK (a b : Ky) : Int := if Extern.BytealgCompare.cmp (ba a.1.l) (ba b.1.l) ≠ 0 then Extern.BytealgCompare.cmp (ba a.1.l) (ba b.1.l) else a.2 - b.2
abbrev K8 := {k : Ky // 0 ≤ k.2 ∧ k.2 < 255}
def cf8 (a b : K8) : Int := cfK a.1 b.1
end Go.SvM
/-
  A yield that always goes on; the cells of a key. (Conditions: none; generic over the program.)
-/
set_option maxRecDepth 20000
namespace Go.SvM
open Go.SL Go.ShM Go.RowKit
theorem Yd_true {P : Program} {l : Nat} {args : List Value} {pre : List Asn} {X : Asn} {f : Unit → List Asn} (h : Yd P l args pre (fun b : Bool => .bool b) (fun b => [bif b then X else exA (fun _ : Unit => False) f])) : Yd P l args pre (fun _ : Unit => .bool true) (fun _ => [X]) := fun F w hs => by
  obtain ⟨g, tm, as', bd, h1, h2⟩ := h F w hs
  refine ⟨g, tm, as', bd, h1, fun r => RoundIn.mono (h2 r) ?_⟩
  rintro e w' ⟨q, rfl, hs', hk⟩
  cases q with
  | true => exact ⟨(), rfl, hs', hk⟩
  | false =>
    obtain ⟨_, q, _⟩ := sat_exA.1 hs'
    exact q.elim
theorem yield_perm {α : Type} {pre post D : List α} {x : α} : (D ++ (pre ++ x :: post)).Perm ((D ++ [x]) ++ (pre ++ post)) := by
  rw [List.append_assoc, List.singleton_append]
  exact List.Perm.append_left D List.perm_middle
theorem keysL_snoc {κ β : Type} [DecidableEq κ] {D : List (κ × β)} {k : κ} {v : β} : keysL D ++ [k] = keysL (D ++ [(k, v)]) := by
  unfold keysL; rw [List.map_append]; rfl
end Go.SvM
/-
  What a server tells of itself, in memory. (Conditions: none; generic over the program.)
-/
set_option maxRecDepth 20000
namespace Go.SvM
open Go.SL Go.ShM Go.RowKit
def kpC (ix : Ix) (n : Int) (bv lv : Value) : List Value := ix.l.flatMap (eU .u8 (w := 8)) ++ [.int .i64 n, bv, lv]
def eLs (x : Ls) : List Value := [.int .u32 (x.1.toNat : Int), .int .i64 x.2]
structure KM where
  e : Kp
  ba : Option Nat
  bc : Nat
  la : Option Nat
  lc : Nat
section
variable {P : Program} {m : Md} {ops : Array Oper} {Q : Exit → Act → World → Prop} {w0 : World} {n : Nat} {rest : List Oper} {L : List (Nat × Value)} {A0 R : List Asn} {c : Code}
end
end Go.SvM
/-
  What may be loaded, share by share; a state's view in memory. (Conditions: none; generic over the program.)
-/
set_option maxRecDepth 20000
namespace Go.SvM
open Go.SL Go.ShM Go.RowKit
structure VL where
  l : List Ls
  ao : Option Addr
  cap : Nat
def VL.v (p : VL) : Value := .slice p.ao p.l.length p.cap
structure KV where
  ix : Ix
  num : Int
  b : Pt
  ls : VL
def KV.kp (k : KV) : Kp := ⟨k.ix, k.num, k.b.l, k.ls.l⟩
def eKV (k : KV) : List Value := kpC k.ix k.num k.b.v k.ls.v
def OKv (X : Asn) (k : KV) : Prop := Sv [X] k.b.v 1 (eU .u8 (w := 8)) k.b.l k.b.ao k.b.cap ∧ Sv [X] k.ls.v 2 eLs k.ls.l k.ls.ao k.ls.cap
def leasesOk (t : Int) (ls : List Ls) : Prop := SrtW ls ∧ (∀ x ∈ ls, t ≤ x.2 ∧ x.2 ≤ 1099511627776) ∧ 1 ≤ ls.length ∧ ls.length ≤ 64
instance (t : Int) (ls : List Ls) : Decidable (leasesOk t ls) := by unfold leasesOk SrtW; infer_instance
theorem WfK.ok {t : Int} {e : Kp} (h : WfK t e) : leasesOk t e.ls := ⟨h.ws, h.un, h.ls⟩
section
variable {P : Program} {m : Md} {ops : Array Oper} {Q : Exit → Act → World → Prop} {w0 : World} {n : Nat} {rest : List Oper} {L : List (Nat × Value)} {A0 R : List Asn} {c : Code}
end
end Go.SvM
/-
  A list put in order by insertions, in plain words. (Conditions: none; no program in sight.)
-/
set_option maxRecDepth 20000
namespace Go.SvM
open Go.SL Go.ShM Go.RowKit
def vA (l : List B32) (i : Nat) : Nat := (l.getD i 0#32).toNat
def swA (l : List B32) (i j : Nat) : List B32 := (l.set i (l.getD j 0#32)).set j (l.getD i 0#32)
theorem swA_len (l : List B32) (i j : Nat) : (swA l i j).length = l.length := by unfold swA; simp
theorem getA {l : List B32} {i : Nat} (h : i < l.length) : l[i]? = some (l.getD i 0#32) := by rw [List.getD_eq_getElem?_getD, List.getElem?_eq_getElem h]; rfl
theorem swA_get {l : List B32} {i j : Nat} (hi : i < l.length) (hj : j < l.length) (k : Nat) : (swA l i j).getD k 0#32 = if k = j then l.getD i 0#32 else if k = i then l.getD j 0#32 else l.getD k 0#32 := by
  unfold swA
  rw [List.getD_eq_getElem?_getD, List.getElem?_set, List.getElem?_set]
  by_cases hk : k = j
  · subst hk; simp [hj]
  · rw [if_neg (Ne.symm hk), if_neg hk]
    by_cases hk' : k = i
    · subst hk'; simp [hi]
    · rw [if_neg (Ne.symm hk'), if_neg hk', ← List.getD_eq_getElem?_getD]
theorem swA_v {l : List B32} {i j : Nat} (hi : i < l.length) (hj : j < l.length) (k : Nat) : vA (swA l i j) k = if k = j then vA l i else if k = i then vA l j else vA l k := by
  unfold vA
  rw [swA_get hi hj]
  split
  · rfl
  · split <;> rfl
theorem swA_perm {l : List B32} {i j : Nat} (hij : i ≠ j) (hi : i < l.length) (hj : j < l.length) : (swA l i j).Perm l := by
  unfold swA
  have h1 := getA hi
  have h2 := getA hj
  generalize l.getD i 0#32 = x at *
  generalize l.getD j 0#32 = y at *
  obtain ⟨_, e1⟩ := List.getElem?_eq_some_iff.1 h1
  rw [List.perm_iff_count]
  intro a
  have hj' : ((l.set i y)[j]?) = some y := by rw [List.getElem?_set, if_neg hij]; exact h2
  rw [List.count_set (by simpa using hj), List.count_set hi]
  have e2 : (l.set i y)[j]'(by simpa using hj) = y := (List.getElem?_eq_some_iff.1 hj').2
  rw [e2, e1]
  have hx : x ∈ l := List.mem_of_getElem? h1
  by_cases ha : x = a
  · subst ha
    have := List.count_pos_iff.2 hx
    by_cases hb : y = x <;> simp [hb] <;> omega
  · by_cases hb : y = a <;> simp [ha, hb]
end Go.SvM
/-
  A list put in order by swaps within ranges, in plain words. (Conditions: none; no program in sight.)
-/
set_option maxRecDepth 20000
namespace Go.SvM
open Go.SL Go.ShM Go.RowKit
theorem swA_self {l : List B32} {i : Nat} (hi : i < l.length) : swA l i i = l := by
  unfold swA
  rw [List.set_set]
  apply List.ext_getElem?
  intro k
  rw [List.getElem?_set]
  by_cases hk : i = k
  · subst hk; rw [if_pos rfl, if_pos hi, getA hi]
  · rw [if_neg hk]
inductive SwR (a b : Nat) (l : List B32) : List B32 → Prop
  | refl : SwR a b l l
  | step {m : List B32} {i j : Nat} : SwR a b l m → a ≤ i → i < b → a ≤ j → j < b → SwR a b l (swA m i j)
variable {a b c d : Nat} {l m n : List B32}
theorem SwR.len (h : SwR a b l m) : m.length = l.length := by
  induction h with
  | refl => rfl
  | step _ _ _ _ _ ih => rw [swA_len]; exact ih
theorem SwR.trans (h : SwR a b l m) (h2 : SwR a b m n) : SwR a b l n := by
  induction h2 with
  | refl => exact h
  | step _ q1 q2 q3 q4 ih => exact .step ih q1 q2 q3 q4
theorem SwR.wide (h : SwR a b l m) (h1 : c ≤ a) (h2 : b ≤ d) : SwR c d l m := by
  induction h with
  | refl => exact .refl
  | step _ q1 q2 q3 q4 ih => exact .step ih (by omega) (by omega) (by omega) (by omega)
theorem SwR.perm (h : SwR a b l m) (hb : b ≤ l.length) : m.Perm l := by
  induction h with
  | refl => exact .refl _
  | @step m i j q q1 q2 q3 q4 ih =>
    have := q.len
    by_cases e : i = j
    · subst e; rw [swA_self (by omega)]; exact ih
    · exact (swA_perm e (by omega) (by omega)).trans ih
theorem SwR.out (h : SwR a b l m) (hb : b ≤ l.length) {k : Nat} (hk : k < a ∨ b ≤ k) : vA m k = vA l k := by
  induction h with
  | refl => rfl
  | @step m i j q q1 q2 q3 q4 ih =>
    have := q.len
    rw [swA_v (by omega) (by omega), if_neg (by omega), if_neg (by omega)]; exact ih
theorem SwR.all (h : SwR a b l m) (hb : b ≤ l.length) {p : Nat → Prop} (hp : ∀ k, a ≤ k → k < b → p (vA l k)) : ∀ k, a ≤ k → k < b → p (vA m k) := by
  induction h with
  | refl => exact hp
  | @step m i j q q1 q2 q3 q4 ih =>
    have := q.len
    intro k h1 h2
    rw [swA_v (by omega) (by omega)]
    split
    · exact ih _ q1 q2
    · split
      · exact ih _ q3 q4
      · exact ih _ h1 h2
def ordS (l : List B32) (a b : Nat) : Prop := ∀ p q, a ≤ p → p < q → q < b → vA l p ≤ vA l q
def LB (l : List B32) (a b : Nat) : Prop := a = 0 ∨ ∀ k, a ≤ k → k < b → vA l (a - 1) ≤ vA l k
def ordO (l : List B32) (a b c d : Nat) : Prop := ∀ p q, a ≤ p → p < q → q < b → (p < c ∨ d ≤ q) → vA l p ≤ vA l q
theorem ordO_sw (h : ordO l a b c d) (hs : SwR c d l m) (h1 : a ≤ c) (h2 : d ≤ b) (hb : b ≤ l.length) : ordO m a b c d := by
  intro p q q1 q2 q3 q4
  by_cases hp : p < c ∨ d ≤ p
  · rw [hs.out (by omega) hp]
    by_cases hq : q < c ∨ d ≤ q
    · rw [hs.out (by omega) hq]; exact h p q q1 q2 q3 q4
    · exact hs.all (by omega) (p := fun x => vA l p ≤ x) (fun k k1 k2 => h p k q1 (by omega) (by omega) (by omega)) q (by omega) (by omega)
  · rw [hs.out (k := q) (by omega) (by omega)]
    exact hs.all (by omega) (p := fun x => x ≤ vA l q) (fun k k1 k2 => h k q (by omega) (by omega) q3 (by omega)) p (by omega) (by omega)
structure Cut (m : List B32) (c d mid : Nat) : Prop where
  lo : c ≤ mid
  hi : mid < d
  le : ∀ k, c ≤ k → k < mid → vA m k ≤ vA m mid
  ge : ∀ k, mid < k → k < d → vA m mid ≤ vA m k
theorem Cut.left {mid : Nat} (hc : Cut m c d mid) (ho : ordO m a b c d) (hs : SwR c mid m n) (hn : ordS n c mid) (h1 : a ≤ c) (h2 : d ≤ b) (hb : b ≤ m.length) : ordO n a b (mid + 1) d := by
  obtain ⟨lo, hi, le, ge⟩ := hc
  have ho' := ordO_sw ho (hs.wide (Nat.le_refl c) (Nat.le_of_lt hi)) h1 h2 hb
  have hm : vA n mid = vA m mid := hs.out (by omega) (.inr (Nat.le_refl _))
  intro p q q1 q2 q3 q4
  by_cases e : p < c ∨ d ≤ q
  · exact ho' p q q1 q2 q3 e
  · have h3 : ∀ k, c ≤ k → k < mid → vA n k ≤ vA m mid := hs.all (by omega) (p := fun x => x ≤ vA m mid) le
    have h4 : mid < q → vA m mid ≤ vA n q := fun h => by rw [hs.out (k := q) (by omega) (by omega)]; exact ge q h (by omega)
    by_cases e2 : q < mid
    · exact hn p q (by omega) q2 e2
    · by_cases e3 : p = mid
      · subst e3; rw [hm]; exact h4 (by omega)
      · have h5 := h3 p (by omega) (by omega)
        by_cases e4 : q = mid
        · subst e4; rw [hm]; exact h5
        · exact Nat.le_trans h5 (h4 (by omega))
theorem Cut.right {mid : Nat} (hc : Cut m c d mid) (ho : ordO m a b c d) (hs : SwR (mid + 1) d m n) (hn : ordS n (mid + 1) d) (h1 : a ≤ c) (h2 : d ≤ b) (hb : b ≤ m.length) : ordO n a b c mid := by
  obtain ⟨lo, hi, le, ge⟩ := hc
  have ho' := ordO_sw ho (hs.wide (by omega) (Nat.le_refl d)) h1 h2 hb
  have hm : vA n mid = vA m mid := hs.out (by omega) (.inl (by omega))
  intro p q q1 q2 q3 q4
  by_cases e : p < c ∨ d ≤ q
  · exact ho' p q q1 q2 q3 e
  · have h3 : ∀ k, mid + 1 ≤ k → k < d → vA m mid ≤ vA n k := hs.all (by omega) (p := fun x => vA m mid ≤ x) (fun k k1 k2 => ge k (by omega) k2)
    have h4 : p < mid → vA n p ≤ vA m mid := fun h => by rw [hs.out (k := p) (by omega) (by omega)]; exact le p (by omega) h
    by_cases e2 : mid < p
    · exact hn p q (by omega) q2 (by omega)
    · by_cases e3 : q = mid
      · subst e3; rw [hm]; exact h4 (by omega)
      · have h5 := h3 q (by omega) (by omega)
        by_cases e4 : p = mid
        · subst e4; rw [hm]; exact h5
        · exact Nat.le_trans (h4 (by omega)) h5
theorem LB.sub (h : LB m c d) {e : Nat} (he : e ≤ d) : LB m c e := by
  rcases h with h | h
  · exact .inl h
  · exact .inr fun k k1 k2 => h k k1 (by omega)
structure hpX (l : List B32) (f lo hi r : Nat) : Prop where
  fl : lo ≤ r
  ot : ∀ k c, lo ≤ k → k ≠ r → (c = 2 * k + 1 ∨ c = 2 * k + 2) → c < hi → vA l (f + c) ≤ vA l (f + k)
  gp : ∀ k c, lo ≤ k → (r = 2 * k + 1 ∨ r = 2 * k + 2) → (c = 2 * r + 1 ∨ c = 2 * r + 2) → c < hi → vA l (f + c) ≤ vA l (f + k)
end Go.SvM
/-
  A server, a state told and a reply, each as one thing owned. (Conditions: none; generic over the program.)
-/
set_option maxRecDepth 20000
namespace Go.SvM
open Go.SL Go.ShM Go.RowKit
structure StG (l : List Kp) where
  X : Asn
  v : Value
  kvs : List KV
  ao : Option Addr
  cap : Nat
  eq : kvs.map KV.kp = l
  sv : Sv [X] v 19 eKV kvs ao cap
  ok : ∀ k ∈ kvs, OKv X k
structure RpG (eI : Int → List Value) (rp : Rp) where
  X : Asn
  nv : Value
  bv : Value
  na : Option Addr
  nc : Nat
  ba : Option Addr
  bc : Nat
  hn : Sv [X] nv 1 eI rp.ns na nc
  hb : Sv [X] bv 1 (eU .u8 (w := 8)) rp.bs ba bc
def RpG.v {eI : Int → List Value} {rp : Rp} (g : RpG eI rp) : Value := .agg [.int .u8 rp.kind, g.nv, g.bv].toArray
theorem Wf.bl {room : Int} {s : Sv1} (h : Wf room s) {kvs : List KV} (e : kvs.map KV.kp = s.l) : ∀ k ∈ kvs, k.b.l.length ≤ 900000000000 := fun k hk => by
  have h1 := h.len k.kp (by rw [← e]; exact List.mem_map.2 ⟨k, hk, rfl⟩)
  have h2 : k.kp.b.length = k.b.l.length := rfl
  omega
end Go.SvM
/-
  Stores, requests and scripts as they are handed in. (Conditions: none; generic over the program.)
-/
set_option maxRecDepth 20000
namespace Go.SvM
open Go.SL Go.ShM Go.RowKit Go.ChangeShapes Go.WideShapes
section
variable {H : Type} {enc : TypeId × Value → H} {P : Program} {W : World} {base : Nat} {sp : Nat → Bool} {hd : Bool} {m : DataW H → Nat} {N : Nat}
structure AcQ where
  on : Int
  kind : Int
  at_ : Int
  stop : Int
  r : Rq
end
end Go.SvM
