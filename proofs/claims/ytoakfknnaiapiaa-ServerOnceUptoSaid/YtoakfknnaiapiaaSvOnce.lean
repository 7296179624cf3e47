/-
  Contracts of functions that the claim reaches, or the logic and the plain laws that they rest on, or the row over them. (Conditions: none beyond the statement.)
-/
import Derived.Test.YtoakfknnaiapiaaSvLB
set_option linter.all false
/-
  What becomes of each share by one call, in plain words. (Conditions: none; no program in sight.)
-/
set_option maxRecDepth 20000
namespace Go.SvM
open Go.SL Go.ShM Go.RowKit
theorem kp_uniq {l : List Kp} (h : SrtK l) {e e' : Kp} (h1 : e ∈ l) (h2 : e' ∈ l) (hk : e'.key = e.key) : e' = e := by
  have q1 := findK_mem h.nd h1
  have q2 := findK_mem h.nd h2
  rw [hk, q1] at q2
  exact (Option.some.inj q2).symm
theorem fm_find {l : List Kp} {g : Kp → Option Kp} (h : SrtK l) (hg : ∀ e x, g e = some x → x.key = e.key ∧ x.b = e.b) {e : Kp} (he : e ∈ l) : findK e.key (l.filterMap g) = g e := by
  have hs : SrtK (l.filterMap g) := h.fm fun e x q => (hg e x q).1
  cases hx : g e with
  | some x =>
    have hm : x ∈ l.filterMap g := List.mem_filterMap.2 ⟨e, he, hx⟩
    have := findK_mem hs.nd hm
    rw [(hg e x hx).1] at this
    exact this
  | none =>
    cases hf : findK e.key (l.filterMap g) with
    | none => rfl
    | some y =>
      obtain ⟨h1, h2⟩ := findK_some hf
      obtain ⟨e2, h3, h4⟩ := List.mem_filterMap.1 h1
      have h5 := (hg e2 y h4).1
      have := kp_uniq h he h3 (by rw [← h5]; exact h2)
      subst this
      rw [h4] at hx; cases hx
theorem fm_from {l : List Kp} {g : Kp → Option Kp} (hg : ∀ e x, g e = some x → x.key = e.key ∧ x.b = e.b) {x : Kp} (hx : x ∈ l.filterMap g) : findK x.key l ≠ none := fun hn => by
  obtain ⟨e, h3, h4⟩ := List.mem_filterMap.1 hx
  exact findK_none hn (List.mem_map.2 ⟨e, h3, ((hg e x h4).1).symm⟩)
def runB (ls : List Ls) (t : Int) : Bool := ls.any fun x => decide (t ≤ x.2)
theorem runB_iff {ls : List Ls} {t : Int} : runB ls t = true ↔ runsL t ls ≠ [] := by
  unfold runB runsL
  rw [List.any_eq_true, ne_eq, List.filter_eq_nil_iff]
  constructor
  · rintro ⟨x, h1, h2⟩ h; exact h x h1 h2
  · intro h
    refine Classical.byContradiction fun hn => h fun x hx hd => hn ⟨x, hx, hd⟩
theorem tickK_kb (t : Int) (e x : Kp) (h : tickK t e = some x) : x.key = e.key ∧ x.b = e.b := by
  unfold tickK at h
  exact ⟨(keepK_key h).1, (keepK_key h).2.1⟩
theorem tickK_run {t : Int} {e : Kp} : runB e.ls t = true ↔ tickK t e ≠ none := by
  rw [runB_iff]
  unfold tickK keepK
  split
  · rename_i h; simp [h]
  · rename_i h; simp [h]
structure DoK (l l' : List Kp) (r : Rq) : Prop where
  b : ∀ e e', e ∈ l → findK e.key l' = some e' → e'.b = e.b
  gone : ∀ e, e ∈ l → findK e.key l' = none → r.kind = 5#8 ∧ r.ix = e.ix
  come : ∀ e', e' ∈ l' → findK e'.key l = none → r.kind = 2#8
theorem DoK.id {l : List Kp} (r : Rq) (h : SrtK l) : DoK l l r :=
  ⟨fun e e' he hf => (by rw [findK_mem h.nd he] at hf; cases hf; rfl), fun e he hf => (by rw [findK_mem h.nd he] at hf; cases hf), fun e he hf => (by rw [findK_mem h.nd he] at hf; cases hf)⟩
theorem DoK.fm {l : List Kp} {r : Rq} {g : Kp → Option Kp} (h : SrtK l) (hg : ∀ e x, g e = some x → x.key = e.key ∧ x.b = e.b) (hn : ∀ e ∈ l, g e = none → r.kind = 5#8 ∧ r.ix = e.ix) : DoK l (l.filterMap g) r :=
  ⟨fun e e' he hf => by rw [fm_find h hg he] at hf; exact (hg e e' hf).2, fun e he hf => by rw [fm_find h hg he] at hf; exact hn e he hf, fun e he hf => absurd hf (fm_from hg he)⟩
theorem do_K {room : Int} {s : Sv1} {r : Rq} (h : Wf room s) (hm : MayR r) : DoK s.l (doM room s.l r).2 r := by
  have hs := h.srt
  unfold doM
  split
  · exact DoK.id r hs
  split
  · rename_i _ hk
    unfold storeM
    split
    · rename_i hf
      split
      · exact DoK.id r hs
      · have hno := findK_none hf
        have hs2 : SrtK (insK ⟨r.ix, r.num, r.b.l, [(r.who, r.un)]⟩ s.l) := insK_srt hs hno
        have hin : ∀ e ∈ s.l, e ∈ insK ⟨r.ix, r.num, r.b.l, [(r.who, r.un)]⟩ s.l := fun e he => (insK_perm _ _).mem_iff.1 (List.mem_cons_of_mem _ he)
        refine ⟨fun e e' he hf' => ?_, fun e he hf' => ?_, fun e' he' hf' => hk⟩
        · rw [findK_mem hs2.nd (hin e he)] at hf'; cases hf'; rfl
        · rw [findK_mem hs2.nd (hin e he)] at hf'; cases hf'
    · split
      · exact DoK.id r hs
      split
      · exact DoK.id r hs
      · show DoK s.l (setLs _ _ s.l) r
        rw [setLs_fm]
        exact DoK.fm hs (fun e x q => by cases q; split <;> exact ⟨rfl, rfl⟩) (fun e _ q => by cases q)
  split
  · exact DoK.id r hs
  split
  · exact DoK.fm hs (fun e x q => by
      split at q
      · exact ⟨(keepK_key q).1, (keepK_key q).2.1⟩
      · cases q; exact ⟨rfl, rfl⟩) (fun e _ q => by
      split at q
      · rw [show chgK (layL r.who r.un) e = keepK e (layL r.who r.un e.ls) from rfl, keepK_layL] at q; cases q
      · cases q)
  · rename_i h1 h2 h3 h4
    have h5 : r.kind = 5#8 := by
      rcases hm.kind with q | q | q | q | q
      · exact absurd q h1
      · exact absurd q h2
      · exact absurd q h3
      · exact absurd q h4
      · exact q
    exact DoK.fm hs (fun e x q => by
        split at q
        · exact ⟨(keepK_key q).1, (keepK_key q).2.1⟩
        · cases q; exact ⟨rfl, rfl⟩) (fun e _ q => by
        split at q
        · rename_i hp
          rw [Bool.and_eq_true, decide_eq_true_eq] at hp
          exact ⟨h5, hp.1.symm⟩
        · cases q)
structure OnK (s s2 : Sv1) (r : Rq) : Prop where
  b : ∀ e e', e ∈ s.l → findK e.key s2.l = some e' → e.b ≠ e'.b → runB e.ls s2.tick = false ∧ r.kind = 2#8
  gone : ∀ e, e ∈ s.l → findK e.key s2.l = none → runB e.ls s2.tick = true → r.kind = 5#8 ∧ r.ix = e.ix
  come : ∀ e', e' ∈ s2.l → findK e'.key s.l = none → r.kind = 2#8
theorem on_do {t : Int} {l l' : List Kp} {s : Sv1} {r : Rq} (hs : SrtK s.l) (he : l = tickL t s.l) (hsl : SrtK l) (h : DoK l l' r) : OnK s ⟨t, l'⟩ r := by
  subst he
  have hT : ∀ e, e ∈ s.l → findK e.key (tickL t s.l) = tickK t e := fun e he => fm_find hs (tickK_kb t) he
  refine ⟨fun e e' he hf hb => ?_, fun e he hf hr => ?_, fun e' he' hf => ?_⟩
  · cases hx : tickK t e with
    | some x =>
      have hm := hT e he
      rw [hx] at hm
      obtain ⟨q1, q2⟩ := findK_some hm
      have := h.b x e' q1 (by rw [q2]; exact hf)
      rw [(tickK_kb t e x hx).2] at this
      exact absurd this.symm hb
    | none =>
      have hr : runB e.ls t = false := by
        cases hq : runB e.ls t with
        | false => rfl
        | true => exact absurd hx (tickK_run.1 hq)
      obtain ⟨q1, q2⟩ := findK_some hf
      have hm := hT e he
      rw [hx, ← q2] at hm
      exact ⟨hr, h.come e' q1 hm⟩
  · have hx := tickK_run.1 hr
    obtain ⟨x, hx⟩ := Option.ne_none_iff_exists'.1 hx
    have hm := hT e he
    rw [hx] at hm
    obtain ⟨q1, q2⟩ := findK_some hm
    have hk := (tickK_kb t e x hx).1
    obtain ⟨g1, g2⟩ := h.gone x q1 (by rw [q2]; exact hf)
    exact ⟨g1, g2.trans (congrArg Prod.fst hk)⟩
  · refine h.come e' he' ?_
    cases hx : findK e'.key (tickL t s.l) with
    | none => rfl
    | some x =>
      obtain ⟨q1, q2⟩ := findK_some hx
      have := fm_from (tickK_kb t) (show x ∈ s.l.filterMap (tickK t) from q1)
      rw [q2] at this
      exact absurd hf this
theorem call_on {room : Int} {s s2 : Sv1} {t : Int} {r : Rq} {rp : Rp} {er : Int} (h : Wf room s) (hc : callM room s t r = (rp, er, s2)) : OnK s s2 r ∧ (er ≠ 0 → s2 = s) := by
  unfold callM at hc
  split at hc
  · cases hc
    refine ⟨⟨fun e e' he hf hb => ?_, fun e he hf => ?_, fun e he hf => ?_⟩, fun _ => rfl⟩
    · rw [findK_mem h.srt.nd he] at hf; cases hf; exact absurd rfl hb
    · rw [findK_mem h.srt.nd he] at hf; cases hf
    · rw [findK_mem h.srt.nd he] at hf; cases hf
  · have hw := h.tick (t := t) (by omega) (by omega)
    split at hc
    · rename_i hp
      rw [Bool.and_eq_true] at hp
      cases hc
      exact ⟨on_do h.srt rfl hw.srt (do_K hw (mayQ_may hp.1)), fun q => absurd rfl q⟩
    · cases hc
      exact ⟨on_do h.srt rfl hw.srt (DoK.id r hw.srt), fun q => absurd rfl q⟩
theorem wf_run {room : Int} {s : Sv1} (h : Wf room s) {e : Kp} (he : e ∈ s.l) : runB e.ls s.tick = true := by
  unfold runB
  rw [List.any_eq_true]
  have h1 := (h.ls e he).1
  cases hq : e.ls with
  | nil => rw [hq] at h1; simp at h1
  | cons x r => exact ⟨x, List.mem_cons_self, by have := (h.un e he x (by rw [hq]; exact List.mem_cons_self)).1; simpa using this⟩
end Go.SvM
