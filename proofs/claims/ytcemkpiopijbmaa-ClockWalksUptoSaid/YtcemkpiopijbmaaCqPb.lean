/-
  Contracts of functions that the claim reaches, or the logic and the plain laws that they rest on, or the row over them. (Conditions: none beyond the statement.)
-/
import Derived.Test.YtcemkpiopijbmaaCqPa
set_option linter.all false
namespace Go.Proofs.Ytcemkpiopijbmaa
open Go.RowKit Go.SL Go.HpM
set_option maxHeartbeats 1000000
set_option maxRecDepth 20000
set_option linter.all false
theorem cf68 : cfn Try.prog 68 = true := by kernel_rfl
theorem cf92 : cfn Try.prog 92 = true := by kernel_rfl
theorem sz131 : sz Try.prog 131 = some 1 := by kernel_rfl
theorem tk129 : tk Try.prog 129 = some none := by kernel_rfl
theorem tk131 : tk Try.prog 131 = some none := by kernel_rfl
theorem zr131 : zr Try.prog 131 = some [.nilFunc] := by kernel_rfl
theorem Rd_lent {P : Program} {n : Nat} {o : Oper} {L : List (Nat × Value)} {A R : List Asn} {X Y : Asn} {Ls : List Asn} {v : Value} (h : Rd P n o L Ls v) (hX : ∀ R w, sat w (X :: R) → sat w (sep Ls :: Y :: R)) (hE : Ext A X R) : Rd P n o L A v :=
  fun a w hf hs => h a w hf (by
    have h2 := sat_app.1 (hX _ w (sat_perm hE hs))
    exact sat_sub (List.Perm.refl _) h2)
theorem exA_lend1 {σ : Type} {φ : σ → Prop} {f : σ → List Asn} {l a : Asn} {R : List Asn} {w : World} : sat w (exA φ (fun s => l :: a :: f s) :: R) ↔ sat w (a :: exA φ (fun s => l :: f s) :: R) := by
  constructor
  · intro h
    obtain ⟨s, h1, h2⟩ := sat_exA.1 h
    refine sat_perm (.swap _ _ _) (sat_exA.2 ⟨s, h1, ?_⟩)
    exact sat_perm ((List.Perm.swap _ _ _).trans (List.Perm.cons a (List.Perm.refl _)) |>.trans (List.perm_middle (l₁ := l :: f s)).symm) h2
  · intro h
    obtain ⟨s, h1, h2⟩ := sat_exA.1 (sat_perm (.swap _ _ _) h)
    refine sat_exA.2 ⟨s, h1, ?_⟩
    exact sat_perm ((List.perm_middle (l₁ := l :: f s)).trans (List.Perm.swap _ _ _)) h2
/-- what an iterator lends, out of a thing that lends more -/
theorem exA_lnd {σ : Type} {φ : σ → Prop} {l X Y k a b c d : Asn} (hX : ∀ R w, sat w (X :: R) ↔ sat w (sep [k, a, b, c, d] :: Y :: R)) {f : σ → List Asn} {R : List Asn} {w : World} :
    sat w (exA φ (fun s => l :: X :: f s) :: R) ↔ sat w (a :: b :: c :: d :: exA φ (fun s => l :: k :: Y :: f s) :: R) := by
  have p : ∀ (s : σ), List.Perm ([k, a, b, c, d] ++ (Y :: (l :: f s ++ R))) ((l :: k :: Y :: f s) ++ ([a, b, c, d] ++ R)) := fun s => by
    have e1 : List.Perm ((l :: k :: Y :: f s) ++ ([a, b, c, d] ++ R)) ([a, b, c, d] ++ ((l :: k :: Y :: f s) ++ R)) := by
      rw [← List.append_assoc, ← List.append_assoc]
      exact List.Perm.append_right R List.perm_append_comm
    refine List.Perm.trans ?_ e1.symm
    have e2 : List.Perm ((l :: k :: Y :: f s) ++ R) (k :: Y :: l :: (f s ++ R)) := by
      simp only [List.cons_append]
      exact (List.Perm.swap _ _ _).trans (List.Perm.cons k (List.Perm.swap _ _ _))
    refine List.Perm.trans ?_ (List.Perm.append_left _ e2.symm)
    simp only [List.cons_append, List.nil_append]
    exact (List.perm_middle (l₁ := [a, b, c, d]) (a := k)).symm
  constructor
  · intro h
    obtain ⟨s, h1, h2⟩ := sat_exA.1 h
    have h3 : sat w (X :: (l :: f s ++ R)) := sat_perm (.swap _ _ _) h2
    have h4 := sat_perm (p s) (sat_app.1 ((hX _ _).1 h3))
    have h5 : sat w (exA φ (fun s => l :: k :: Y :: f s) :: ([a, b, c, d] ++ R)) := sat_exA.2 ⟨s, h1, h4⟩
    exact sat_perm (List.perm_middle (l₁ := [a, b, c, d])).symm h5
  · intro h
    have h5 : sat w (exA φ (fun s => l :: k :: Y :: f s) :: ([a, b, c, d] ++ R)) := sat_perm (List.perm_middle (l₁ := [a, b, c, d])) h
    obtain ⟨s, h1, h2⟩ := sat_exA.1 h5
    have h3 := (hX _ _).2 (sat_app.2 (sat_perm (p s).symm h2))
    exact sat_exA.2 ⟨s, h1, sat_perm (.swap _ _ _) h3⟩
def LCk (cw u tb : Nat) (ta : Option Nat) (tc tm : Nat) (rows : List (Nat × (Int × Int × ByteArray))) : Asn := sep [cl cw 131 [.func (.func 92) #[] #[.pointer (some ⟨u, 0, none⟩)]], cl u 116 [.pointer (some ⟨tb, 0, none⟩)], cl tb 157 [(.func (.func 59) #[] ([] : List Value).toArray), sl ta rows.length tc, .map (some tm), .int .i64 ((0 : Nat) : Int)], arr ta tc 4 159 kS_h_itf rows, emp]

theorem kS_all {c hb made : Nat} {now : Int} {rows : List (Nat × (Int × Int × ByteArray))} (hm : made ≤ 900000000 := by omega) : Ct Try.prog 33 [.pointer (some ⟨c, 0, none⟩)] [cl c 121 [.int .i64 now, .int .i64 ((made : Nat) : Int), .pointer (some ⟨hb, 0, none⟩)], kS_h_hpA (.func (.func 59) #[] ([] : List Value).toArray) hb rows made, emp] (fun g : Nat × Nat × Nat × Option Nat × Nat × Nat => .func (.func 69) #[] #[.pointer (some ⟨g.1, 0, none⟩)]) (fun g => [cl c 121 [.int .i64 now, .int .i64 ((made : Nat) : Int), .pointer (some ⟨hb, 0, none⟩)], kS_h_hpA (.func (.func 59) #[] ([] : List Value).toArray) hb rows made, emp, LCk g.1 g.2.1 g.2.2.1 g.2.2.2.1 g.2.2.2.2.1 g.2.2.2.2.2 rows]) := by
  refine Ct_body (n := 13) Try.func33 rfl rfl rfl fun F w0 Q hret hnorm hp => ?_
  change WC _ _ _ _ _ _ _ (_ :: _ :: _ :: F)
  refine WC_sr fun K1 hK1 => ?_
  refine WL_rd (Rd_assign rfl) rfl rfl rfl ?_
  refine WL_end hK1 ?_
  refine WC_seq fun K2 hK2 => ?_
  refine WC_sr fun K3 hK3 => ?_
  refine WL_rd (Rd_move rfl) rfl rfl rfl ?_
  refine WL_ac (Ac_call cf62 rfl (hs := kS_made)) rfl rfl rfl ?_
  rintro _ _ ⟨⟨⟩, rfl, hA⟩
  simp only [List.cons_append, List.nil_append] at hA
  replace hA := hA.symm
  subst hA
  refine WL_rd (Rd_not rfl) rfl rfl rfl ?_
  refine WL_end hK3 ?_
  refine WC_condF rfl ?_
  refine WC_skip ?_
  refine Ps_next hK2 ?_
  refine WC_sr fun K4 hK4 => ?_
  refine WL_rd (Rd_move rfl) rfl rfl rfl ?_
  refine WL_rd (Rd_nilCheck rfl) rfl rfl rfl ?_
  refine WL_rd (Rd_fieldAddr rfl fo121_2) rfl rfl rfl ?_
  refine WL_rd (Rd_load rfl tk116) rfl rfl rfl ?_
  refine WL_ac (Ac_call cf68 rfl (hs := kS_h_all_hp (b := hb) (lf := 59) (caps := []) (rows := rows) (made := made))) rfl rfl rfl ?_
  rintro _ _ ⟨⟨u, tb, ta, tc, tm⟩, rfl, hA⟩
  simp only [List.cons_append, List.nil_append] at hA
  replace hA := hA.symm
  subst hA
  refine WL_ac (Ac_alloc zr131) rfl rfl rfl ?_
  rintro _ _ ⟨b3, rfl, rfl⟩
  refine WL_ac0 (Ac_store1 rfl rfl sz131) rfl rfl ?_
  rintro _ _ rfl
  refine WL_end hK4 ?_
  refine WC_sr fun K5 hK5 => ?_
  refine WL_imp (fun _ h => sat_emp h) ?_
  refine WL_pk0 ?_
  refine WL_pull (emp) ?_
  refine WL_pull (arr ta tc 4 159 kS_h_itf rows) ?_
  refine WL_pull (cl tb 157 [(.func (.func 59) #[] ([] : List Value).toArray), sl ta rows.length tc, .map (some tm), .int .i64 ((0 : Nat) : Int)]) ?_
  refine WL_pull (cl u 116 [.pointer (some ⟨tb, 0, none⟩)]) ?_
  refine WL_pull (cl b3 131 [.func (.func 92) #[] #[.pointer (some ⟨u, 0, none⟩)]]) ?_
  rw [show sep [cl b3 131 [.func (.func 92) #[] #[.pointer (some ⟨u, 0, none⟩)]], cl u 116 [.pointer (some ⟨tb, 0, none⟩)], cl tb 157 [(.func (.func 59) #[] ([] : List Value).toArray), sl ta rows.length tc, .map (some tm), .int .i64 ((0 : Nat) : Int)], arr ta tc 4 159 kS_h_itf rows, emp] = LCk b3 u tb ta tc tm rows from rfl]
  refine WL_rd (Rd_makeFunc rfl rfl) rfl rfl rfl ?_
  refine WL_rd (Rd_assign rfl) rfl rfl rfl ?_
  refine WL_end hK5 ?_
  refine WC_ret ?_
  exact hret.go (b3, u, tb, ta, tc, tm) (Rs1 rfl rfl)

theorem kS_it {l cw u tb tc tm : Nat} {ta : Option Nat} {rows L : List (Nat × (Int × Int × ByteArray))} {X Y : Nat → Asn} {JJ : Asn} (hpm : rows.Perm L) (hu : L.Pairwise fun x y => x.1 < y.1) (hH : Hp kS_lt rows) (hT : Tk rows) (hcap : rows.length ≤ 900000000) (hX : ∀ i R w, sat w (X i :: R) ↔ sat w (LCk cw u tb ta tc tm rows :: Y i :: R)) (hy : ∀ (i : Nat) (x : Nat × (Int × Int × ByteArray)), (srt kS_lt L)[i]? = some x → Yd Try.prog l [.agg [.int .i64 x.2.1, .int .i64 x.2.2.1, .string x.2.2.2].toArray] [X i] (fun b : Bool => .bool b) (fun b => [bif b then X (i + 1) else JJ])) : Ct Try.prog 69 [yv l, .pointer (some ⟨cw, 0, none⟩)] [X 0] (fun b : Bool => .tuple #[]) (fun b => [bif b then X L.length else JJ]) := by
  refine Ct_body (n := 12) Try.func69 rfl rfl rfl fun F w0 Q hret hnorm hp => ?_
  change WC _ _ _ _ _ _ _ (_ :: F)
  refine WC_sr fun K1 hK1 => ?_
  refine WL_ac (Ac_box (xs := [yv l]) rfl rfl) rfl rfl rfl ?_
  rintro _ _ ⟨b2, rfl, rfl⟩
  refine WL_end hK1 ?_
  refine WC_sr fun K2 hK2 => ?_
  refine WL_rd (Rd_lent (Rd_load rfl tk131 (v := .func (.func 92) #[] #[.pointer (some ⟨u, 0, none⟩)])) (fun R w h => (hX 0 R w).1 h) (by repeat (first | with_reducible exact Ext.here | with_reducible apply Ext.there))) rfl rfl rfl ?_
  refine WL_end hK2 ?_
  refine WC_block ?_
  refine WC_rf (f := 92) (caps := [.pointer (some ⟨u, 0, none⟩)]) rfl cf92 fun lrf_0 Drf_0 rrf_0 hstrf_0 hpdrf_0 hparf_0 hasrf_0 hbdrf_0 hfrrf_0 => ?_
  have hyrf_0 : ∀ (i : Nat) (x : Nat × (Int × Int × ByteArray)), (srt kS_lt L)[i]? = some x → Yd Try.prog lrf_0 [.int .i64 ((x.1 : Nat) : Int), .agg [.int .i64 x.2.1, .int .i64 x.2.2.1, .string x.2.2.2].toArray] [(fun (i : Nat) => exA (fun (_u : Unit) => True) (fun (_u : Unit) => [lp lrf_0 rrf_0, X i, cl b2 129 [yv l]])) i] (fun b : Bool => .bool b) (fun b => [bif b then (fun (i : Nat) => exA (fun (_u : Unit) => True) (fun (_u : Unit) => [lp lrf_0 rrf_0, X i, cl b2 129 [yv l]])) (i + 1) else (exA (fun (_u : Unit) => True) (fun (_u : Unit) => [lp lrf_0 (rcD rrf_0 .ret), JJ, cl b2 129 [yv l]]))]) := by
    intro i x hix
    refine Yd_ex ?_
    rintro _u hφ
    refine Yd_of (pre := [X i, cl b2 129 [yv l]]) hstrf_0 hpdrf_0 hparf_0 hasrf_0 hbdrf_0 hfrrf_0 rfl rfl fun F w0 Q K hp hend hbeg => ?_
    change WC _ _ _ _ _ _ ((7, .agg [.int .i64 x.2.1, .int .i64 x.2.2.1, .string x.2.2.2].toArray) :: (6, .int .i64 ((x.1 : Nat) : Int)) :: _) (_ :: _ :: _ :: F)
    dsimp only at *
    refine WC_region ?_
    refine WL_ac (Ac_alloc zr62) rfl rfl rfl ?_
    rintro _ _ ⟨b4, rfl, rfl⟩
    refine WL_ac0 (Ac_store (ys := [.int .i64 x.2.1, .int .i64 x.2.2.1, .string x.2.2.2]) rfl rfl sz62 (h1 := kS_encD.one x.2) (hr := rfl)) rfl rfl ?_
    rintro _ _ rfl
    refine WL_nil ?_
    refine hbeg (by repeat (first | with_reducible exact Ext.here | with_reducible apply Ext.there)) ?_
    refine WC_block ?_
    refine WC_sr fun K3 hK3 => ?_
    refine WL_rd (Rd_load rfl tk129 (v := yv l)) rfl rfl rfl ?_
    refine WL_rd (Rd_loadg (vs := [.int .i64 x.2.1, .int .i64 x.2.2.1, .string x.2.2.2]) rfl tk62 (hi := rfl)) rfl rfl rfl ?_
    refine WL_ac (Ac_yield rfl rfl (hy i x hix)) rfl rfl rfl ?_
    rintro _ _ ⟨b', rfl, hA⟩
    simp only [List.cons_append, List.nil_append] at hA
    replace hA := hA.symm
    subst hA
    refine WL_rd (Rd_not rfl) rfl rfl rfl ?_
    refine WL_end hK3 ?_
    refine WC_cond rfl (fun hc0 => ?_) (fun hc0 => ?_)
    · try simp only [decide_eq_true_eq, decide_eq_false_iff_not, Bool.not_eq_true', Bool.not_eq_false', Bool.not_eq_true, Bool.not_eq_false, Int.not_lt, Int.not_le, Nat.not_lt, Nat.not_le, Decidable.not_not, ne_eq] at hc0
      obtain rfl : b' = false := by revert hc0; cases b' <;> simp
      simp only [cond_false]
      refine WC_ret ?_
      refine hend.ret false rfl (by repeat (first | with_reducible exact Ext.here | with_reducible apply Ext.there)) ?_
      try simp only [List.cons_append, List.nil_append, cond_true, cond_false]
      exact imp_ex (()) (trivial) (by (try dsimp only); (try simp only [List.cons_append, List.nil_append]); repeat (first | with_reducible exact Sub.refl | with_reducible exact Sub.nil | with_reducible refine Sub.cons (by repeat (first | with_reducible exact Ext.here | with_reducible apply Ext.there)) ?_ | with_reducible refine Sub.tail ?_))
    · try simp only [decide_eq_true_eq, decide_eq_false_iff_not, Bool.not_eq_true', Bool.not_eq_false', Bool.not_eq_true, Bool.not_eq_false, Int.not_lt, Int.not_le, Nat.not_lt, Nat.not_le, Decidable.not_not, ne_eq] at hc0
      obtain rfl : b' = true := by revert hc0; cases b' <;> simp
      simp only [cond_true]
      refine WC_skip ?_
      refine hend.nrm true rfl (by repeat (first | with_reducible exact Ext.here | with_reducible apply Ext.there)) ?_
      try simp only [List.cons_append, List.nil_append, cond_true, cond_false]
      exact imp_ex (()) (trivial) (by (try dsimp only); (try simp only [List.cons_append, List.nil_append]); repeat (first | with_reducible exact Sub.refl | with_reducible exact Sub.nil | with_reducible refine Sub.cons (by repeat (first | with_reducible exact Ext.here | with_reducible apply Ext.there)) ?_ | with_reducible refine Sub.tail ?_))
  refine ⟨_, _, _, _, _, kS_h_allIt (J := fun _ : Unit => emp) (lt0 := kS_lt) (lf := 59) (caps := []) (u := u) (tb := tb) (ta := ta) (tc := tc) (tm := tm) (rows := rows) (L := L) (X := (fun (i : Nat) => exA (fun (_u : Unit) => True) (fun (_u : Unit) => [lp lrf_0 rrf_0, X i, cl b2 129 [yv l]]))) (JJ := (exA (fun (_u : Unit) => True) (fun (_u : Unit) => [lp lrf_0 (rcD rrf_0 .ret), JJ, cl b2 129 [yv l]]))) (l := lrf_0) kS_hcf kS_hless kS_lt_od hpm hu hH hT hcap (fun i R w h => (exA_lnd (fun R w => hX i R w)).1 h) (fun i R w h => (exA_lnd (fun R w => hX i R w)).2 h) hyrf_0, imp_rf (Y := []) ((())) (trivial) (by repeat (first | with_reducible exact Gv.nil | (with_reducible apply Gv.cons; · (repeat (first | with_reducible exact Ext.here | with_reducible apply Ext.there))))) (by (try dsimp only); repeat (first | with_reducible exact Gv.nil | (with_reducible apply Gv.cons; · (repeat (first | with_reducible exact Ext.here | with_reducible apply Ext.there))))), ?_⟩
  · rintro (_ | _)
    · skip
      simp only [List.cons_append, List.nil_append, cond_true, cond_false]
      refine RfEnd_ex ?_
      rintro _u hφ
      simp only [List.cons_append, List.nil_append]
      have hstop : True := trivial
      refine RfEnd_jmp ?_
      refine WC_ret ?_
      first | (have := hstop; exact hret.goD false (Rs0 rfl) (hS := by simp only [List.cons_append, List.nil_append, cond_false]; repeat (first | with_reducible exact Sub.refl | with_reducible exact Sub.nil | with_reducible refine Sub.cons (by repeat (first | with_reducible exact Ext.here | with_reducible apply Ext.there)) ?_ | with_reducible refine Sub.tail ?_))) | exact hret.goD true (Rs0 rfl) (hS := by simp only [List.cons_append, List.nil_append, cond_true]; repeat (first | with_reducible exact Sub.refl | with_reducible exact Sub.nil | with_reducible refine Sub.cons (by repeat (first | with_reducible exact Ext.here | with_reducible apply Ext.there)) ?_ | with_reducible refine Sub.tail ?_))
    · simp only [List.cons_append, List.nil_append, cond_true, cond_false]
      refine RfEnd_ex ?_
      rintro _u hφ
      simp only [List.cons_append, List.nil_append]
      refine RfEnd_nrm hstrf_0 hpdrf_0 ?_
      first | (have := hstop; exact hnorm.goD false (Rs0 rfl) (hS := by simp only [List.cons_append, List.nil_append, cond_false]; repeat (first | with_reducible exact Sub.refl | with_reducible exact Sub.nil | with_reducible refine Sub.cons (by repeat (first | with_reducible exact Ext.here | with_reducible apply Ext.there)) ?_ | with_reducible refine Sub.tail ?_))) | exact hnorm.goD true (Rs0 rfl) (hS := by simp only [List.cons_append, List.nil_append, cond_true]; repeat (first | with_reducible exact Sub.refl | with_reducible exact Sub.nil | with_reducible refine Sub.cons (by repeat (first | with_reducible exact Ext.here | with_reducible apply Ext.there)) ?_ | with_reducible refine Sub.tail ?_))
end Go.Proofs.Ytcemkpiopijbmaa
