/-
  Contracts of functions that the claim reaches, or the logic and the plain laws that they rest on, or the row over them. (Conditions: none beyond the statement.)
-/
import Derived.Test.YtcemkpiopijbmaaSlRf
import Derived.Test.YtcemkpiopijbmaaLibC
set_option linter.all false
/-
  Loops whose rounds leave marks on the deferred calls (a range over a function within a plain loop). (Conditions: none; generic over the program.)
-/
namespace Go.SL
open Go.RowKit
theorem WC_loopD {P : Program} {Q : Exit → Act → World → Prop} {w0 : World} {n : Nat} {L : List (Nat × Value)} {A : List Asn} {r : Option Nat} {ds0 : List Deferred} {c : Code} {σ : Type} (Li : σ → List (Nat × Value)) (Ai : σ → List Asn) (φ : σ → Prop) (μ : σ → Nat) (ds : σ → List Deferred) (s0 : σ) (hds : ds0 = ds s0) (h0 : φ s0) (hl : Wk L (Li s0)) (ha : Sub A (Ai s0))
    (round : ∀ s, φ s → ∀ K : Act → World → Prop, (∀ s', φ s' → μ s' < μ s → Ps ⟨r, ds s'⟩ K w0 n (Li s') (Ai s')) → WC P ⟨r, ds s⟩ (Exit.then K Q) w0 n c (Li s) (Ai s)) : WC P ⟨r, ds0⟩ Q w0 n (.loop c) L A := by
  subst hds
  intro a w hd0 hf hs hk
  suffices H : ∀ k s, μ s < k → φ s → ∀ a w, a.defers = ds s → Fr n (Li s) a → sat w (Ai s) → Kept w0 w → Code.roundsIn (fz r) 0 P c Q k a w from
    wpIn_loop_rounds (μ s0 + 1) (H _ s0 (Nat.lt_succ_self _) h0 a w hd0 (hf.wk hl) (ha.sat hs) hk)
  intro k
  induction k with
  | zero => intro s hm; omega
  | succ k ih =>
    intro s hm hφ a w hd0 hf hs hk
    rw [roundsIn_succ]
    exact round s hφ _ (fun s' hφ' hlt a' w' hd' hf' hs' hk' => ih s' (by omega) hφ' a' w' hd' hf' hs' hk') a w hd0 hf hs hk
/-- the marks of many such rounds, run off -/
theorem drun_all {P : Program} {K : List Asn → Prop} : ∀ (Ds : List Nat) (A B : List Asn), A.Perm (Ds.map dfr ++ B) → (∀ A, A.Perm B → K A) → DRun P (Ds.map dmk) A K
  | [], A, B, h, hK => hK A h
  | D :: Ds, A, B, h, hK => .inl ⟨D, Ds.map dfr ++ B, rfl, h, drun_all Ds _ B (.refl _) hK⟩
/-- .. that keeps what it does not name -/
theorem WC_loopKD {P : Program} {Q : Exit → Act → World → Prop} {w0 : World} {n : Nat} {L D : List (Nat × Value)} {A R B0 : List Asn} {r : Option Nat} {ds0 : List Deferred} {c : Code} {σ : Type} (M : σ → List (Nat × Value)) (B : σ → List Asn) (φ : σ → Prop) (μ : σ → Nat) (ds : σ → List Deferred) (s0 : σ) (ks : List Nat) (hD : Kep ks L D) (hR : Gv A B0 R) (h0 : φ s0) (hds : ds0 = ds s0) (hl : Wk L (M s0)) (hb : Sub (B0 ++ R) (B s0 ++ R))
    (round : ∀ s, φ s → ∀ K : Act → World → Prop, (∀ s', φ s' → μ s' < μ s → Ps ⟨r, ds s'⟩ K w0 n (M s' ++ D) (B s' ++ R)) → WC P ⟨r, ds s⟩ (Exit.then K Q) w0 n c (M s ++ D) (B s ++ R)) : WC P ⟨r, ds0⟩ Q w0 n (.loop c) L A :=
  WC_loopD (fun s => M s ++ D) (fun s => B s ++ R) φ μ ds s0 hds h0 (hl.app hD.wk) (by obtain ⟨X, p⟩ := hb; exact ⟨X, List.Perm.trans hR p⟩) round
section
variable {P : Program} {n : Nat} {w0 : World} {L : List (Nat × Value)} {A B : List Asn} {fn : Func} {F : List Asn} {ρ : Type} {val : ρ → Value} {post : ρ → List Asn} {Q : Act → World → Prop} {Ds : List Nat}
/-- the marks' blocks, as one thing -/
def dfrs (Ds : List Nat) : Asn := sep (Ds.map dfr)
theorem dfrs_nil {w : World} (h : sat w A) : sat w (dfrs [] :: A) := sat_app.2 h
theorem dfrs_cons {w : World} {D : Nat} : sat w (dfrs (D :: Ds) :: A) ↔ sat w (dfr D :: dfrs Ds :: A) := by
  unfold dfrs
  exact star_cons (F := dfr)
theorem WC_dfrs0 {m : Md} {Q : Exit → Act → World → Prop} {c : Code} (k : WC P m Q w0 n c L (dfrs [] :: A)) : WC P m Q w0 n c L A := WC_imp (fun _ h => dfrs_nil h) k
theorem Ps_dfrs {m : Md} {K : Act → World → Prop} {R R2 : List Asn} {D : Nat} (k : Ps m K w0 n L (dfrs (D :: Ds) :: R2)) (hE : Ext A (dfr D) R := by repeat (first | with_reducible exact Ext.here | with_reducible apply Ext.there)) (hE2 : Ext R (dfrs Ds) R2 := by repeat (first | with_reducible exact Ext.here | with_reducible apply Ext.there)) : Ps m K w0 n L A :=
  Ps_imp (fun _ h => dfrs_cons.2 (sat_perm (List.Perm.trans hE (List.Perm.cons _ hE2)) h)) k
theorem End.goSE (h : End P fn n w0 F val post Q) (r : ρ) {v : Value} (hr : Rs P fn n L B v) (he : v = val r) (hE : Ext A (dfrs Ds) B := by repeat (first | with_reducible exact Ext.here | with_reducible apply Ext.there)) (hS : Sub B (post r ++ F) := by simp only [List.cons_append, List.nil_append]; repeat (first | with_reducible exact Sub.refl | with_reducible exact Sub.nil | with_reducible refine Sub.cons (by repeat (first | with_reducible exact Ext.here | with_reducible apply Ext.there)) ?_ | with_reducible refine Sub.tail ?_)) : Ps ⟨none, Ds.map dmk⟩ Q w0 n L A :=
  Ps_imp (A' := Ds.map dfr ++ B) (fun _ hs => (sat_app (A := Ds.map dfr)).1 (sat_perm hE hs)) (h _ _ _ rfl (drun_all Ds _ B (.refl _) fun _ hA => ⟨r, he ▸ fun a w hf hs => hr a w hf (sat_perm hA hs), by obtain ⟨R, p⟩ := hS; exact ⟨R, List.Perm.trans hA p⟩⟩))
end
end Go.SL
