/-
  Contracts of functions that the claim reaches, or the logic and the plain laws that they rest on, or the row over them. (Conditions: none beyond the statement.)
-/
import Derived.Test.YtlcafifjhilleaaShOp
import Derived.Test.YtlcafifjhilleaaTgRead
set_option linter.all false
/-
  Lists of lists of bytes handed out: gathered, written over, longer ones made of them: in plain words, and what is owned. (Conditions: none; no program in sight.)
-/
set_option maxRecDepth 20000
namespace Go.ShM
open Go.SL Go.RowKit
/-- a list of lists: where it lies, how much room, what it holds -/
structure RL where
  a : Option Nat
  cap : Nat
  ps : List PB
def eRL (r : RL) : List Value := [sl r.a r.ps.length r.cap]
theorem encRL : Enc eRL 1 := ⟨fun _ => rfl, fun x v hv => by simp [eRL, sl] at hv; subst hv; rfl⟩
def FRL (T : TypeId) (r : RL) : Asn := arr r.a r.cap 1 T ePB r.ps
def allP (rs : List RL) : List PB := rs.flatMap (·.ps)
theorem allP_take {rs : List RL} {k : Nat} {r : RL} (h : rs[k]? = some r) : allP (rs.take (k + 1)) = allP (rs.take k) ++ r.ps := by
  obtain ⟨hk, e⟩ := List.getElem?_eq_some_iff.1 h
  unfold allP
  rw [List.take_succ_eq_append_getElem hk, List.flatMap_append, e]
  simp
theorem allP_snoc (rs : List RL) (r : RL) : allP (rs ++ [r]) = allP rs ++ r.ps := by unfold allP; simp
theorem allP_le {rs : List RL} {k : Nat} {r : RL} (h : rs[k]? = some r) : (allP (rs.take k)).length + r.ps.length ≤ (allP rs).length := by
  have e : allP rs = allP (rs.take (k + 1)) ++ allP (rs.drop (k + 1)) := by unfold allP; rw [← List.flatMap_append, List.take_append_drop]
  rw [e, allP_take h, List.length_append, List.length_append]; omega
theorem allP_bok {rs : List RL} (h : ∀ r ∈ rs, BOk r.ps) : BOk (allP rs) := fun p hp => by
  obtain ⟨r, hr, hp⟩ := List.mem_flatMap.1 hp
  exact h r hr p hp
/-- the mark of a place -/
def mk3 (k i : Nat) : List B8 := [BitVec.ofNat 8 k, BitVec.ofNat 8 i, BitVec.ofNat 8 (i / 256)]
def mP (b k i : Nat) : PB := ⟨some b, 3, mk3 k i⟩
def MOk (ms : List PB) : Prop := ∀ p ∈ ms, p.a ≠ none ∧ p.l.length = 3 ∧ 3 ≤ p.cap
theorem MOk_nil : MOk [] := fun p h => by cases h
theorem MOk_snoc {ms : List PB} (h : MOk ms) (b k i : Nat) : MOk (ms ++ [mP b k i]) := fun p hp => by
  rcases List.mem_append.1 hp with q | q
  · exact h p q
  · rw [List.mem_singleton] at q; subst q; exact ⟨(fun e => by cases e), rfl, Nat.le_refl 3⟩
def MkU (ms : List PB) (k u : Nat) (ps : List PB) : Prop := ∀ (i : Nat) (p : PB), i < u → ps[i]? = some p → p ∈ ms ∧ p.l = mk3 k i
theorem MkU_0 {ms : List PB} {k : Nat} {ps : List PB} : MkU ms k 0 ps := fun i p h => by omega
theorem MkU_mono {ms : List PB} {k u : Nat} {ps : List PB} (x : PB) (h : MkU ms k u ps) : MkU (ms ++ [x]) k u ps := fun i p h1 h2 => ⟨List.mem_append_left _ (h i p h1 h2).1, (h i p h1 h2).2⟩
theorem MkU_set {ms : List PB} {k i b : Nat} {ps : List PB} (h : MkU ms k i ps) (hi : i < ps.length) : MkU (ms ++ [mP b k i]) k (i + 1) (ps.set i (mP b k i)) := fun j p h1 h2 => by
  rw [List.getElem?_set] at h2
  by_cases e : i = j
  · subst e
    rw [if_pos rfl, if_pos hi] at h2
    cases h2
    exact ⟨List.mem_append_right _ (by simp), rfl⟩
  · rw [if_neg e] at h2
    exact ⟨List.mem_append_left _ (h j p (by omega) h2).1, (h j p (by omega) h2).2⟩
theorem MkU_snoc {ms : List PB} {k n b : Nat} {ps : List PB} (h : MkU ms k n ps) (hn : ps.length = n) : MkU (ms ++ [mP b k n]) k (n + 1) (ps ++ [mP b k n]) := fun j p h1 h2 => by
  rw [List.getElem?_append] at h2
  split at h2
  · exact ⟨List.mem_append_left _ (h j p (by omega) h2).1, (h j p (by omega) h2).2⟩
  · have e : j = n := by omega
    subst e
    rw [hn, Nat.sub_self] at h2
    cases h2
    exact ⟨List.mem_append_right _ (by simp), rfl⟩
/-- written over so far -/
def ROk (rs : List RL) (ms : List PB) (k : Nat) (rs' : List RL) : Prop := rs'.length = rs.length ∧ ∀ (j : Nat) (r r' : RL), rs[j]? = some r → rs'[j]? = some r' → r'.a = r.a ∧ r'.cap = r.cap ∧ r'.ps.length = r.ps.length ∧ (j < k → MkU ms j r'.ps.length r'.ps)
theorem ROk_0 {rs : List RL} : ROk rs [] 0 rs := ⟨rfl, fun j r r' h1 h2 => by rw [h1] at h2; cases h2; exact ⟨rfl, rfl, rfl, fun h => by omega⟩⟩
theorem ROk_mono {rs rs' : List RL} {ms : List PB} {k : Nat} (x : PB) (h : ROk rs ms k rs') : ROk rs (ms ++ [x]) k rs' := ⟨h.1, fun j r r' h1 h2 => let ⟨a, b, c, d⟩ := h.2 j r r' h1 h2; ⟨a, b, c, fun e => MkU_mono x (d e)⟩⟩
theorem ROk_get {rs rs' : List RL} {ms : List PB} {k j : Nat} {ra : Option Nat} {rc : Nat} {rps : List PB} (h : ROk rs ms k rs') (hj : rs[j]? = some ⟨ra, rc, rps⟩) : ∃ qs, rs'[j]? = some ⟨ra, rc, qs⟩ ∧ qs.length = rps.length ∧ (j < k → MkU ms j qs.length qs) := by
  have hl := (List.getElem?_eq_some_iff.1 hj).1
  have hg : rs'[j]? = some (rs'[j]'(by rw [h.1]; exact hl)) := List.getElem?_eq_getElem _
  obtain ⟨h1, h2, h3, h4⟩ := h.2 j _ _ hj hg
  generalize rs'[j]'(by rw [h.1]; exact hl) = r' at *
  obtain ⟨a, c, qs⟩ := r'
  dsimp only at *
  subst h1; subst h2
  exact ⟨qs, hg, h3, h4⟩
theorem ROk_set {rs rs' : List RL} {ms : List PB} {k : Nat} {r : RL} {qs : List PB} (h : ROk rs ms k rs') (hk : rs[k]? = some r) (hq : qs.length = r.ps.length) (hm : MkU ms k qs.length qs) : ROk rs ms (k + 1) (rs'.set k ⟨r.a, r.cap, qs⟩) := by
  refine ⟨by rw [List.length_set]; exact h.1, fun j x x' h1 h2 => ?_⟩
  have hl := (List.getElem?_eq_some_iff.1 hk).1
  rw [List.getElem?_set] at h2
  by_cases e : k = j
  · subst e
    rw [if_pos rfl, if_pos (by rw [h.1]; exact hl)] at h2
    rw [hk] at h1
    cases h1; cases h2
    exact ⟨rfl, rfl, hq, fun _ => hm⟩
  · rw [if_neg e] at h2
    obtain ⟨a, b, c, d⟩ := h.2 j x x' h1 h2
    exact ⟨a, b, c, fun q => d (by omega)⟩
/-- a longer one made of one -/
structure GQ where
  a : Option Nat
  cap : Nat
  a' : Option Nat
  cap' : Nat
  ps : List PB
  ps' : List PB
def eGQ (q : GQ) : List Value := [sl q.a' q.ps'.length q.cap']
theorem encGQ : Enc eGQ 1 := ⟨fun _ => rfl, fun x v hv => by simp [eGQ, sl] at hv; subst hv; rfl⟩
def FGQ (T : TypeId) (q : GQ) : Asn := apk q.a q.cap q.a' q.cap' 1 T ePB q.ps q.ps'
def QOkL (rs : List RL) (ms : List PB) (qs : List GQ) : Prop := ∀ (j : Nat) (q : GQ), qs[j]? = some q → q.a' ≠ none ∧ q.ps'.length = q.ps.length + 70 ∧ q.ps'.length ≤ q.cap' ∧ (q.a = none → q.ps = []) ∧ q.ps.length ≤ q.cap ∧ q.ps <+: q.ps' ∧ MkU ms j q.ps'.length q.ps' ∧ ∃ r, rs[j]? = some r ∧ q.a = r.a ∧ q.cap = r.cap ∧ q.ps.length = r.ps.length
theorem QOkL_nil {rs : List RL} {ms : List PB} : QOkL rs ms [] := fun j q h => by simp at h
theorem QOkL_mono {rs : List RL} {ms : List PB} {qs : List GQ} (x : PB) (h : QOkL rs ms qs) : QOkL rs (ms ++ [x]) qs := fun j q hq => let ⟨a, b, c, d, e, f, g, i⟩ := h j q hq; ⟨a, b, c, d, e, f, MkU_mono x g, i⟩
theorem QOkL_snoc {rs : List RL} {ms : List PB} {qs : List GQ} {q : GQ} {r : RL} {k : Nat} (h : QOkL rs ms qs) (hl : qs.length = k) (hr : rs[k]? = some r) (h1 : q.a' ≠ none) (h2 : q.ps'.length = q.ps.length + 70) (h3 : q.ps'.length ≤ q.cap') (h4 : q.a = none → q.ps = []) (h5 : q.ps.length ≤ q.cap) (h6 : q.ps <+: q.ps') (h7 : MkU ms k q.ps'.length q.ps') (h8 : q.a = r.a) (h9 : q.cap = r.cap) (h10 : q.ps.length = r.ps.length) : QOkL rs ms (qs ++ [q]) := by
  intro j x hx
  rw [List.getElem?_append] at hx
  split at hx
  · exact h j x hx
  · rename_i hlt
    have h0 : j - qs.length = 0 := by
      have := (List.getElem?_eq_some_iff.1 hx).1
      simp at this; omega
    rw [h0] at hx
    simp at hx
    subst hx
    have e : j = k := by omega
    subst e
    exact ⟨h1, h2, h3, h4, h5, h6, h7, r, hr, h8, h9, h10⟩
theorem Sv_GQn {T : TypeId} {q : GQ} (h1 : q.a' ≠ none) (h2 : q.ps'.length ≤ q.cap') : Sv [FGQ T q] (sl q.a' q.ps'.length q.cap') 1 ePB q.ps' (q.a'.map fun g => ⟨g, 0, none⟩) q.cap' :=
  Sv_apkN (a := q.a) (cap := q.cap) (a' := q.a') (cap' := q.cap') (T := T) (l := q.ps) (l' := q.ps') encPB (fun e => absurd e h1) h2
theorem Sv_GQe {T : TypeId} {q : GQ} (h1 : q.a = none → q.ps = []) (h2 : q.ps.length ≤ q.cap) (hp : q.ps <+: q.ps') : Sv [FGQ T q] (sl q.a q.ps.length q.cap) 1 ePB q.ps (q.a.map fun g => ⟨g, 0, none⟩) q.cap :=
  Sv_apkE (a := q.a) (cap := q.cap) (a' := q.a') (cap' := q.cap') (T := T) (l := q.ps) (l' := q.ps') encPB hp h1 h2
theorem Sv_RL {T : TypeId} {r : RL} (h1 : r.a = none → r.ps = []) (h2 : r.ps.length ≤ r.cap) : Sv [FRL T r] (sl r.a r.ps.length r.cap) 1 ePB r.ps (r.a.map fun g => ⟨g, 0, none⟩) r.cap := Sv_own' (T := T) encPB h1 h2
theorem Sv_mark {T : TypeId} {ms : List PB} {p : PB} (hm : MOk ms) (hp : p ∈ ms) : Sv [star (FPB T) ms] (sl p.a p.l.length p.cap) 1 (eU .u8 (w := 8)) p.l (p.a.map fun g => ⟨g, 0, none⟩) p.cap := by
  obtain ⟨i, hi, e⟩ := List.getElem_of_mem hp
  obtain ⟨h1, h2, h3⟩ := hm p hp
  exact Sv.star (F := FPB T) i (by rw [List.getElem?_eq_getElem hi, e]) (Sv_own' (T := T) (encU .u8 (w := 8)) (fun q => absurd q h1) (by omega))
theorem Sv_nil {α : Type} {A : List Asn} {e : Nat} {f : α → List Value} : Sv A (sl none 0 0) e f [] none 0 := ⟨rfl, fun h => absurd rfl h, (fun x hx => by cases hx), Nat.le_refl _, fun w hs i x hx => by simp at hx⟩
section
variable {P : Program} {m : Md} {ops : Array Oper} {Q : Exit → Act → World → Prop} {w0 : World} {n : Nat} {rest : List Oper} {L : List (Nat × Value)} {A R R2 : List Asn} {α : Type}
theorem sat_starapp {F : α → Asn} {l l' : List α} {w : World} (h : sat w (star F l :: star F l' :: R)) : sat w (star F (l ++ l') :: R) := by
  unfold star at *
  rw [sat_app] at h ⊢
  rw [List.map_append, List.append_assoc]
  have h2 := sat_perm (List.perm_middle (l₁ := l.map F) (a := sep (l'.map F)) (l₂ := R)) h
  rw [sat_app] at h2
  refine sat_perm ?_ h2
  rw [← List.append_assoc, ← List.append_assoc]
  exact List.Perm.append_right R List.perm_append_comm
theorem WL_starapp (F : α → Asn) (l l' : List α) (k : WL P m ops Q w0 n rest L (star F (l ++ l') :: R2)) (hE : Ext A (star F l) R := by repeat (first | with_reducible exact Ext.here | with_reducible apply Ext.there)) (hE2 : Ext R (star F l') R2 := by repeat (first | with_reducible exact Ext.here | with_reducible apply Ext.there)) : WL P m ops Q w0 n rest L A :=
  WL_imp (fun _ h => sat_starapp (sat_perm (List.Perm.trans hE (List.Perm.cons _ hE2)) h)) k
end
theorem rd_lenA (b : List B8) : (rdM b).2.1.length ≤ b.length := by
  by_cases h : (rdM b).2.2.2 = 0
  · exact (rd_lens h).2
  · rw [(rd_err h).2]; exact Nat.zero_le _
end Go.ShM
