/-
  Contracts of functions that the claim reaches, or the row over them. (Conditions: none.)
-/
import Derived.Test.YtcookmkklcbbnaaHpInt
set_option linter.all false
namespace Go.Proofs.Ytcookmkklcbbnaa
open Go.RowKit Go.SL Go.HpM
set_option maxHeartbeats 400000
set_option maxRecDepth 10000
theorem cf12 : cfn Try.prog 12 = true := by kernel_rfl
theorem cf19 : cfn Try.prog 19 = true := by kernel_rfl
theorem cf24 : cfn Try.prog 24 = true := by kernel_rfl
theorem cf25 : cfn Try.prog 25 = true := by kernel_rfl
theorem cf26 : cfn Try.prog 26 = true := by kernel_rfl
theorem cf39 : cfn Try.prog 39 = true := by kernel_rfl
theorem cf46 : cfn Try.prog 46 = true := by kernel_rfl
/-- a heap: by its order, its rows, how many tickets were given -/
def hpB (lv : Value) (b : Nat) (rows : List (Nat × Int)) (made : Nat) (x : Option Nat × Nat × Nat) : List Asn := [cl b 85 [lv, sl x.1 rows.length x.2.1, .map (some x.2.2), .int .i64 (made : Int)], arr x.1 x.2.1 2 101 itf rows, mpI x.2.2 (atOf rows)]
def hpA (lv : Value) (b : Nat) (rows : List (Nat × Int)) (made : Nat) : Asn := fun h => ∃ x, sep (hpB lv b rows made x) h
theorem hp_open {lv : Value} {b : Nat} {rows : List (Nat × Int)} {made : Nat} {R : List Asn} {w : World} : sat w (hpA lv b rows made :: R) ↔ ∃ x, sat w (hpB lv b rows made x ++ R) := by
  unfold hpA; rw [sat_ex]; exact exists_congr fun x => sat_app
def Gd (rows : List (Nat × Int)) (made : Nat) : Prop := Tk rows ∧ ∀ r ∈ rows, r.1 < made
section
variable {σ : Type} {J : σ → Asn} {lt : σ → Int → Int → Bool × σ} {lf : FuncId} {caps : List Value} (hcf : cfn Try.prog lf = true) (hless : ∀ s x y, Ct Try.prog lf ([.int .i64 x, .int .i64 y] ++ caps) [J s] (fun _ : Unit => .bool (lt s x y).1) (fun _ => [J (lt s x y).2]))
include hcf hless
theorem push_hp {b made : Nat} {rows : List (Nat × Int)} {s : σ} (x : Int) (hG : Gd rows made) (hcap : made ≤ 1000000 ∧ rows.length ≤ 1000000) :
    Ct Try.prog 25 [(.pointer (some ⟨b, 0, none⟩)), .int .i64 x] [hpA (.func (.func lf) #[] caps.toArray) b rows made, J s] (fun _ : Unit => .tuple #[.int .i64 (made : Int), .int .i64 0]) (fun _ => [hpA (.func (.func lf) #[] caps.toArray) b (pushM lt s rows made x).1 (made + 1), J (pushM lt s rows made x).2]) :=
  Ct_way fun F w hs => by
    obtain ⟨⟨a, cap, m⟩, hs⟩ := hp_open.1 hs
    refine ⟨_, _, _, _, push_ct hcf hless b rows.length cap m made a rows s x hG.1 hG.2 rfl hcap, hs, fun r w' hw => ⟨(), rfl, hp_open.2 ⟨(r.1, r.2, m), ?_⟩⟩⟩
    have e : (pushM lt s rows made x).1.length = (rows ++ [(made, x)]).length := (upM_perm lt _ _ _).length_eq
    unfold hpB; dsimp only; rw [e]; exact hw
theorem pop_hp {b made : Nat} {rows : List (Nat × Int)} {s : σ} {x : Nat × Int} (hx : rows[0]? = some x) (hG : Gd rows made) (hcap : rows.length ≤ 1000000000) :
    Ct Try.prog 26 [(.pointer (some ⟨b, 0, none⟩))] [hpA (.func (.func lf) #[] caps.toArray) b rows made, J s] (fun _ : Unit => .tuple #[.int .i64 x.2, .bool true]) (fun _ => [hpA (.func (.func lf) #[] caps.toArray) b (takeM lt s rows 0).1 made, J (takeM lt s rows 0).2]) :=
  Ct_way fun F w hs => by
    obtain ⟨⟨a, cap, m⟩, hs⟩ := hp_open.1 hs
    refine ⟨_, _, _, _, pop_ct hcf hless b rows.length cap m made a rows s x hx hG.1 rfl hcap, hs, fun r w' hw => ⟨(), rfl, hp_open.2 ⟨(a, cap, m), ?_⟩⟩⟩
    have e : (takeM lt s rows 0).1.length = rows.length - 1 := takeM_len lt s rows 0
    unfold hpB; dsimp only; rw [e]; exact hw
end
theorem pop0_hp {lf : FuncId} {caps : List Value} {b made : Nat} : Ct Try.prog 26 [(.pointer (some ⟨b, 0, none⟩))] [hpA (.func (.func lf) #[] caps.toArray) b [] made] (fun _ : Unit => .tuple #[.int .i64 0, .bool false]) (fun _ => [hpA (.func (.func lf) #[] caps.toArray) b [] made]) :=
  Ct_way fun F w hs => by
    obtain ⟨⟨a, cap, m⟩, hs⟩ := hp_open.1 hs
    exact ⟨_, _, _, _, (pop0_ct b (.func lf) #[] caps.toArray a cap _ _).frame [arr a cap 2 101 itf [], mpI m (atOf [])], hs, fun r w' hw => ⟨(), rfl, hp_open.2 ⟨(a, cap, m), hw⟩⟩⟩
theorem peek0_hp {lf : FuncId} {caps : List Value} {b made : Nat} : Ct Try.prog 39 [(.pointer (some ⟨b, 0, none⟩))] [hpA (.func (.func lf) #[] caps.toArray) b [] made] (fun _ : Unit => .tuple #[.int .i64 0, .bool false]) (fun _ => [hpA (.func (.func lf) #[] caps.toArray) b [] made]) :=
  Ct_way fun F w hs => by
    obtain ⟨⟨a, cap, m⟩, hs⟩ := hp_open.1 hs
    exact ⟨_, _, _, _, (peek0_ct b (.func lf) #[] caps.toArray a cap _ _).frame [arr a cap 2 101 itf [], mpI m (atOf [])], hs, fun r w' hw => ⟨(), rfl, hp_open.2 ⟨(a, cap, m), hw⟩⟩⟩
theorem peek_hp {lf : FuncId} {caps : List Value} {b made : Nat} {rows : List (Nat × Int)} {x : Nat × Int} (hx : rows[0]? = some x) : Ct Try.prog 39 [(.pointer (some ⟨b, 0, none⟩))] [hpA (.func (.func lf) #[] caps.toArray) b rows made] (fun _ : Unit => .tuple #[.int .i64 x.2, .bool true]) (fun _ => [hpA (.func (.func lf) #[] caps.toArray) b rows made]) :=
  Ct_way fun F w hs => by
    obtain ⟨⟨a, cap, m⟩, hs⟩ := hp_open.1 hs
    exact ⟨_, _, _, _, (peek_ct b rows.length cap m made a lf caps rows x hx rfl).frame [mpI m (atOf rows)], hs, fun r w' hw => ⟨(), rfl, hp_open.2 ⟨(a, cap, m), hw⟩⟩⟩
theorem len_hp {lf : FuncId} {caps : List Value} {b made : Nat} {rows : List (Nat × Int)} : Ct Try.prog 27 [(.pointer (some ⟨b, 0, none⟩))] [hpA (.func (.func lf) #[] caps.toArray) b rows made] (fun _ : Unit => .int .i64 (rows.length : Int)) (fun _ => [hpA (.func (.func lf) #[] caps.toArray) b rows made]) :=
  Ct_way fun F w hs => by
    obtain ⟨⟨a, cap, m⟩, hs⟩ := hp_open.1 hs
    exact ⟨_, _, _, _, (len_ct b (.func lf) #[] caps.toArray a rows.length cap _ _).frame [arr a cap 2 101 itf rows, mpI m (atOf rows)], hs, fun r w' hw => ⟨(), rfl, hp_open.2 ⟨(a, cap, m), hw⟩⟩⟩
theorem new_hp (lf : FuncId) (caps : List Value) : Ct Try.prog 24 [(.func (.func lf) #[] caps.toArray)] [] (fun b : Nat => .tuple #[(.pointer (some ⟨b, 0, none⟩)), .int .i64 0]) (fun b => [hpA (.func (.func lf) #[] caps.toArray) b [] 0]) :=
  Ct_way fun F w hs => ⟨_, _, _, _, new_ct lf caps, hs, fun r w' hw => ⟨r.1, rfl, hp_open.2 ⟨(none, 0, r.2), hw⟩⟩⟩
/-- the order by the rest of a division -/
def ltz (by_ x y : Int) : Bool := if by_ ≤ 0 then decide (x < y) else decide (x.tmod by_ < y.tmod by_)
def ltU (by_ : Int) : Unit → Int → Int → Bool × Unit := fun _ x y => (ltz by_ x y, ())
def caO (c : Nat) : List Value := [.pointer (some ⟨c, 0, none⟩)]
def lvO (c : Nat) : Value := .func (.func 45) #[] (caO c).toArray
def J1 (c : Nat) (by_ : Int) : Unit → Asn := fun _ => cl c 3 [.int .i64 by_]

theorem Ahead_ct (by_ x y : Int) : Ct Try.prog 46 [.int .i64 by_, .int .i64 x, .int .i64 y] [] (fun _ : Unit => .bool (ltz by_ x y)) (fun _ => []) := by
  refine Ct_body (n := 19) Try.func46 rfl rfl rfl fun F w0 Q hret hnorm hp => ?_
  change WC _ _ _ _ _ _ (F)
  refine WC_seq fun K1 hK1 => ?_
  refine WC_region ?_
  refine WL_rd (Rd_assign rfl) rfl rfl rfl ?_
  refine WL_nil ?_
  refine Ps_next hK1 ?_
  refine WC_seq fun K2 hK2 => ?_
  refine WC_seq fun K3 hK3 => ?_
  refine WC_region ?_
  refine WL_rd (Rd_move rfl) rfl rfl rfl ?_
  refine WL_rd (Rd_leq rfl rfl) rfl rfl rfl ?_
  refine WL_nil ?_
  refine Ps_next hK3 ?_
  refine WC_cond rfl (fun hc8 => ?_) (fun hc8 => ?_)
  · try simp only [decide_eq_true_eq, decide_eq_false_iff_not, Bool.not_eq_true', Bool.not_eq_false', Bool.not_eq_true, Bool.not_eq_false, Int.not_lt, Int.not_le] at hc8
    rw [show ltz by_ x y = decide (x < y) from by unfold ltz; rw [if_pos hc8]] at hret
    refine WC_seq fun K5 hK5 => ?_
    refine WC_region ?_
    refine WL_rd (Rd_move rfl) rfl rfl rfl ?_
    refine WL_rd (Rd_move rfl) rfl rfl rfl ?_
    refine WL_rd (Rd_lss rfl rfl) rfl rfl rfl ?_
    refine WL_rd (Rd_assign rfl) rfl rfl rfl ?_
    refine WL_nil ?_
    refine Ps_next hK5 ?_
    refine WC_ret ?_
    exact hret () _ _ (Rs1 rfl rfl) (by simp only [List.cons_append, List.nil_append]; repeat (first | with_reducible exact Sub.refl | with_reducible exact Sub.nil | with_reducible refine Sub.cons (by repeat (first | with_reducible exact Ext.here | with_reducible apply Ext.there)) ?_ | with_reducible refine Sub.tail ?_))
  · try simp only [decide_eq_true_eq, decide_eq_false_iff_not, Bool.not_eq_true', Bool.not_eq_false', Bool.not_eq_true, Bool.not_eq_false, Int.not_lt, Int.not_le] at hc8
    rw [show ltz by_ x y = decide (x.tmod by_ < y.tmod by_) from by unfold ltz; rw [if_neg (by omega)]] at hret
    refine WC_skip ?_
    refine Ps_next hK2 ?_
    refine WC_seq fun K6 hK6 => ?_
    refine WC_drawA mix (fun i => ([2, 2, 2, 2, 2, 2, 2, 2] : List Nat).getD i 0) ?_
    refine WJ_takeP 0 rfl (by kernel_rfl) (Rd_move rfl) rfl rfl rfl (hp _ _) ?_
    refine WJ_takeP 1 rfl (by kernel_rfl) (Rd_move rfl) rfl rfl rfl (hp _ _) ?_
    refine WJ_takeP 2 rfl (by kernel_rfl) (Rd_rem' rfl rfl (by omega) rfl) rfl rfl rfl (hp _ _) ?_
    refine WJ_takeP 3 rfl (by kernel_rfl) (Rd_move rfl) rfl rfl rfl (hp _ _) ?_
    refine WJ_takeP 4 rfl (by kernel_rfl) (Rd_move rfl) rfl rfl rfl (hp _ _) ?_
    refine WJ_takeP 5 rfl (by kernel_rfl) (Rd_rem' rfl rfl (by omega) rfl) rfl rfl rfl (hp _ _) ?_
    refine WJ_takeP 6 rfl (by kernel_rfl) (Rd_lss rfl rfl) rfl rfl rfl (hp _ _) ?_
    refine WJ_takeP 7 rfl (by kernel_rfl) (Rd_assign rfl) rfl rfl rfl (hp _ _) ?_
    refine WJ_done (by kernel_rfl) ?_
    refine Ps_next hK6 ?_
    refine WC_ret ?_
    exact hret () _ _ (Rs1 rfl rfl) (by simp only [List.cons_append, List.nil_append]; repeat (first | with_reducible exact Sub.refl | with_reducible exact Sub.nil | with_reducible refine Sub.cons (by repeat (first | with_reducible exact Ext.here | with_reducible apply Ext.there)) ?_ | with_reducible refine Sub.tail ?_))

theorem order1_ct (c : Nat) (by_ x y : Int) : Ct Try.prog 45 ([.int .i64 x, .int .i64 y] ++ caO c) [cl c 3 [.int .i64 by_]] (fun _ : Unit => .bool (ltz by_ x y)) (fun _ => [cl c 3 [.int .i64 by_]]) := by
  refine Ct_body (n := 10) Try.func45 rfl rfl rfl fun F w0 Q hret hnorm hp => ?_
  change WC _ _ _ _ _ _ (_ :: F)
  refine WC_seq fun K1 hK1 => ?_
  refine WC_region ?_
  refine WL_rd (Rd_assign rfl) rfl rfl rfl ?_
  refine WL_nil ?_
  refine Ps_next hK1 ?_
  refine WC_seq fun K2 hK2 => ?_
  refine WC_region ?_
  first | refine WL_rd (Rd_load rfl tk3 (by repeat (first | with_reducible exact Has.here | with_reducible refine Has.there ?_)) (by rfl)) rfl rfl rfl ?_ | refine WL_rd (Rd_load_arr rfl tk3 (by repeat (first | with_reducible exact Has.here | with_reducible refine Has.there ?_)) (by rfl) (by assumption) (by rfl)) rfl rfl rfl ?_
  refine WL_rd (Rd_move rfl) rfl rfl rfl ?_
  refine WL_rd (Rd_move rfl) rfl rfl rfl ?_
  refine WL_ac (Ac_call cf46 rfl (Ahead_ct by_ x y) (Gv.nil)) rfl rfl rfl ?_
  rintro _ _ ⟨⟨⟩, rfl, hA⟩
  simp only [List.cons_append, List.nil_append] at hA
  subst hA
  refine WL_rd (Rd_assign rfl) rfl rfl rfl ?_
  refine WL_nil ?_
  refine Ps_next hK2 ?_
  refine WC_ret ?_
  exact hret () _ _ (Rs1 rfl rfl) (by simp only [List.cons_append, List.nil_append]; repeat (first | with_reducible exact Sub.refl | with_reducible exact Sub.nil | with_reducible refine Sub.cons (by repeat (first | with_reducible exact Ext.here | with_reducible apply Ext.there)) ?_ | with_reducible refine Sub.tail ?_))

theorem order_ct0 (by_ : Int) : Ct Try.prog 19 [.int .i64 by_] [] (fun c : Nat => lvO c) (fun c => [cl c 3 [.int .i64 by_]]) := by
  refine Ct_body (n := 4) Try.func19 rfl rfl rfl fun F w0 Q hret hnorm hp => ?_
  change WC _ _ _ _ _ _ (F)
  refine WC_seq fun K1 hK1 => ?_
  refine WC_region ?_
  refine WL_ac (Ac_box rfl rfl) rfl rfl rfl ?_
  rintro _ _ ⟨c, rfl, rfl⟩
  refine WL_rd (Rd_assign rfl) rfl rfl rfl ?_
  refine WL_nil ?_
  refine Ps_next hK1 ?_
  refine WC_seq fun K2 hK2 => ?_
  refine WC_region ?_
  refine WL_rd (Rd_makeFunc rfl rfl) rfl rfl rfl ?_
  refine WL_rd (Rd_assign rfl) rfl rfl rfl ?_
  refine WL_nil ?_
  refine Ps_next hK2 ?_
  refine WC_ret ?_
  exact hret c _ _ (Rs1 rfl rfl) (by simp only [List.cons_append, List.nil_append]; repeat (first | with_reducible exact Sub.refl | with_reducible exact Sub.nil | with_reducible refine Sub.cons (by repeat (first | with_reducible exact Ext.here | with_reducible apply Ext.there)) ?_ | with_reducible refine Sub.tail ?_))

theorem order_ct (by_ : Int) : Ct Try.prog 19 [.int .i64 by_] [] (fun c : Nat => lvO c) (fun c => [J1 c by_ ()]) := order_ct0 by_
theorem hcfO : cfn Try.prog 45 = true := by kernel_rfl
theorem hlessO (c : Nat) (by_ : Int) : ∀ s x y, Ct Try.prog 45 ([.int .i64 x, .int .i64 y] ++ caO c) [J1 c by_ s] (fun _ : Unit => .bool (ltU by_ s x y).1) (fun _ => [J1 c by_ (ltU by_ s x y).2]) := fun _ x y => order1_ct c by_ x y
theorem live1 : (pushM (ltU 0) () [] 0 5).1 = [(0, 5)] := by unfold pushM; rw [List.length_nil, upM_zero]; rfl
theorem live2 : (pushM (ltU 0) () [(0, 5)] 1 3).1 = [(1, 3), (0, 5)] := by
  unfold pushM; rw [show [((0 : Nat), (5 : Int))].length = 1 from rfl, upM_step (x := (1, 3)) (y := (0, 5)) _ _ (by decide) rfl rfl, if_pos (by rfl), upM_zero]; rfl
theorem live3 : (takeM (ltU 0) () [(1, 3), (0, 5)] 0).1 = [(0, 5)] := by
  unfold takeM; rw [if_pos (by decide)]
  have e : (swp [((1 : Nat), (3 : Int)), (0, 5)] 0 ([((1 : Nat), (3 : Int)), (0, 5)].length - 1)).take ([((1 : Nat), (3 : Int)), (0, 5)].length - 1) = [(0, 5)] := rfl
  rw [e, downM_stop rfl, upM_zero]

theorem lives_ct : Ct Try.prog 12 [] [] (fun _ : Unit => .bool true) (fun _ => []) := by
  refine Ct_body (n := 75) Try.func12 rfl rfl rfl fun F w0 Q hret hnorm hp => ?_
  change WC _ _ _ _ _ _ (F)
  refine WC_seq fun K1 hK1 => ?_
  refine WC_region ?_
  refine WL_rd (Rd_assign rfl) rfl rfl rfl ?_
  refine WL_nil ?_
  refine Ps_next hK1 ?_
  refine WC_seq fun K2 hK2 => ?_
  refine WC_region ?_
  refine WL_ac (Ac_call cf19 rfl (order_ct 0) (Gv.nil)) rfl rfl rfl ?_
  rintro _ _ ⟨c, rfl, hA⟩
  simp only [List.cons_append, List.nil_append] at hA
  subst hA
  refine WL_ac (Ac_call cf24 rfl (new_hp 45 (caO c)) (Gv.nil)) rfl rfl rfl ?_
  rintro _ _ ⟨b, rfl, hA⟩
  simp only [List.cons_append, List.nil_append] at hA
  subst hA
  refine WL_rd (Rd_move rfl) rfl rfl rfl ?_
  refine WL_rd (Rd_extract rfl rfl) rfl rfl rfl ?_
  refine WL_rd (Rd_extract rfl rfl) rfl rfl rfl ?_
  refine WL_rd (Rd_assign rfl) rfl rfl rfl ?_
  refine WL_rd (Rd_assign rfl) rfl rfl rfl ?_
  refine WL_nil ?_
  refine Ps_next hK2 ?_
  refine WC_seq fun K3 hK3 => ?_
  refine WC_seq fun K4 hK4 => ?_
  refine WC_region ?_
  refine WL_rd (Rd_move rfl) rfl rfl rfl ?_
  refine WL_rd (Rd_neq rfl rfl) rfl rfl rfl ?_
  refine WL_rd (Rd_move rfl) rfl rfl rfl ?_
  refine WL_rd (Rd_move rfl) rfl rfl rfl ?_
  refine WL_rd (Rd_peq rfl rfl ud55) rfl rfl rfl ?_
  refine WL_rd (Rd_pickF rfl rfl) rfl rfl rfl ?_
  refine WL_nil ?_
  refine Ps_next hK4 ?_
  refine WC_condF rfl ?_
  refine WC_skip ?_
  refine Ps_next hK3 ?_
  refine WC_seq fun K5 hK5 => ?_
  refine WC_region ?_
  refine WL_rd (Rd_move rfl) rfl rfl rfl ?_
  refine WL_ac (Ac_call cf25 rfl (push_hp hcfO (hlessO c 0) (b := b) (rows := []) (made := 0) (s := ()) 5 ⟨by simp [Tk], by simp⟩ (by simp)) (Gv.cons (by repeat (first | with_reducible exact Ext.here | with_reducible apply Ext.there)) (Gv.cons (by repeat (first | with_reducible exact Ext.here | with_reducible apply Ext.there)) Gv.nil))) rfl rfl rfl ?_
  rintro _ _ ⟨⟨⟩, rfl, hA⟩
  simp only [List.cons_append, List.nil_append] at hA
  subst hA
  rw [live1]
  refine WL_rd (Rd_move rfl) rfl rfl rfl ?_
  refine WL_rd (Rd_extract rfl rfl) rfl rfl rfl ?_
  refine WL_rd (Rd_extract rfl rfl) rfl rfl rfl ?_
  refine WL_rd (Rd_assign rfl) rfl rfl rfl ?_
  refine WL_rd (Rd_assign rfl) rfl rfl rfl ?_
  refine WL_nil ?_
  refine Ps_next hK5 ?_
  refine WC_seq fun K6 hK6 => ?_
  refine WC_region ?_
  refine WL_rd (Rd_move rfl) rfl rfl rfl ?_
  refine WL_ac (Ac_call cf25 rfl (push_hp hcfO (hlessO c 0) (b := b) (rows := [(0, 5)]) (made := 1) (s := ()) 3 ⟨by simp [Tk], by simp⟩ (by simp)) (Gv.cons (by repeat (first | with_reducible exact Ext.here | with_reducible apply Ext.there)) (Gv.cons (by repeat (first | with_reducible exact Ext.here | with_reducible apply Ext.there)) Gv.nil))) rfl rfl rfl ?_
  rintro _ _ ⟨⟨⟩, rfl, hA⟩
  simp only [List.cons_append, List.nil_append] at hA
  subst hA
  rw [live2]
  refine WL_rd (Rd_move rfl) rfl rfl rfl ?_
  refine WL_rd (Rd_extract rfl rfl) rfl rfl rfl ?_
  refine WL_rd (Rd_extract rfl rfl) rfl rfl rfl ?_
  refine WL_rd (Rd_assign rfl) rfl rfl rfl ?_
  refine WL_rd (Rd_assign rfl) rfl rfl rfl ?_
  refine WL_nil ?_
  refine Ps_next hK6 ?_
  refine WC_seq fun K7 hK7 => ?_
  refine WC_region ?_
  refine WL_rd (Rd_move rfl) rfl rfl rfl ?_
  refine WL_ac (Ac_call cf26 rfl (pop_hp hcfO (hlessO c 0) (b := b) (rows := [(1, 3), (0, 5)]) (made := 2) (s := ()) (x := (1, 3)) rfl ⟨by simp [Tk], by simp⟩ (by simp)) (Gv.cons (by repeat (first | with_reducible exact Ext.here | with_reducible apply Ext.there)) (Gv.cons (by repeat (first | with_reducible exact Ext.here | with_reducible apply Ext.there)) Gv.nil))) rfl rfl rfl ?_
  rintro _ _ ⟨⟨⟩, rfl, hA⟩
  simp only [List.cons_append, List.nil_append] at hA
  subst hA
  rw [live3]
  refine WL_rd (Rd_move rfl) rfl rfl rfl ?_
  refine WL_rd (Rd_extract rfl rfl) rfl rfl rfl ?_
  refine WL_rd (Rd_extract rfl rfl) rfl rfl rfl ?_
  refine WL_rd (Rd_assign rfl) rfl rfl rfl ?_
  refine WL_rd (Rd_assign rfl) rfl rfl rfl ?_
  refine WL_nil ?_
  refine Ps_next hK7 ?_
  refine WC_seq fun K8 hK8 => ?_
  refine WC_region ?_
  refine WL_rd (Rd_move rfl) rfl rfl rfl ?_
  refine WL_ac (Ac_call cf39 rfl (peek_hp (lf := 45) (caps := caO c) (b := b) (made := 2) (rows := [(0, 5)]) (x := (0, 5)) rfl) (Gv.cons (by repeat (first | with_reducible exact Ext.here | with_reducible apply Ext.there)) Gv.nil)) rfl rfl rfl ?_
  rintro _ _ ⟨⟨⟩, rfl, hA⟩
  simp only [List.cons_append, List.nil_append] at hA
  subst hA
  refine WL_rd (Rd_move rfl) rfl rfl rfl ?_
  refine WL_rd (Rd_extract rfl rfl) rfl rfl rfl ?_
  refine WL_rd (Rd_extract rfl rfl) rfl rfl rfl ?_
  refine WL_rd (Rd_assign rfl) rfl rfl rfl ?_
  refine WL_rd (Rd_assign rfl) rfl rfl rfl ?_
  refine WL_nil ?_
  refine Ps_next hK8 ?_
  refine WC_seq fun K9 hK9 => ?_
  refine WC_region ?_
  refine WL_rd (Rd_move rfl) rfl rfl rfl ?_
  refine WL_rd (Rd_eql rfl rfl) rfl rfl rfl ?_
  refine WL_rd (Rd_move rfl) rfl rfl rfl ?_
  refine WL_rd (Rd_move rfl) rfl rfl rfl ?_
  refine WL_rd (Rd_eql rfl rfl) rfl rfl rfl ?_
  refine WL_rd (Rd_pickT rfl rfl) rfl rfl rfl ?_
  refine WL_rd (Rd_move rfl) rfl rfl rfl ?_
  refine WL_rd (Rd_move rfl) rfl rfl rfl ?_
  refine WL_rd (Rd_eql rfl rfl) rfl rfl rfl ?_
  refine WL_rd (Rd_pickT rfl rfl) rfl rfl rfl ?_
  refine WL_rd (Rd_move rfl) rfl rfl rfl ?_
  refine WL_rd (Rd_move rfl) rfl rfl rfl ?_
  refine WL_rd (Rd_eql rfl rfl) rfl rfl rfl ?_
  refine WL_rd (Rd_pickT rfl rfl) rfl rfl rfl ?_
  refine WL_rd (Rd_move rfl) rfl rfl rfl ?_
  refine WL_rd (Rd_move rfl) rfl rfl rfl ?_
  refine WL_rd (Rd_pickT rfl rfl) rfl rfl rfl ?_
  refine WL_rd (Rd_move rfl) rfl rfl rfl ?_
  refine WL_rd (Rd_move rfl) rfl rfl rfl ?_
  refine WL_rd (Rd_pickT rfl rfl) rfl rfl rfl ?_
  refine WL_rd (Rd_move rfl) rfl rfl rfl ?_
  refine WL_rd (Rd_move rfl) rfl rfl rfl ?_
  refine WL_rd (Rd_eql rfl rfl) rfl rfl rfl ?_
  refine WL_rd (Rd_pickT rfl rfl) rfl rfl rfl ?_
  refine WL_rd (Rd_move rfl) rfl rfl rfl ?_
  refine WL_rd (Rd_move rfl) rfl rfl rfl ?_
  refine WL_rd (Rd_eql rfl rfl) rfl rfl rfl ?_
  refine WL_rd (Rd_pickT rfl rfl) rfl rfl rfl ?_
  refine WL_rd (Rd_move rfl) rfl rfl rfl ?_
  refine WL_rd (Rd_move rfl) rfl rfl rfl ?_
  refine WL_ac (Ac_call cf27 rfl (len_hp (lf := 45) (caps := caO c) (b := b) (made := 2) (rows := [(0, 5)])) (Gv.cons (by repeat (first | with_reducible exact Ext.here | with_reducible apply Ext.there)) Gv.nil)) rfl rfl rfl ?_
  rintro _ _ ⟨⟨⟩, rfl, hA⟩
  simp only [List.cons_append, List.nil_append] at hA
  subst hA
  refine WL_rd (Rd_eql rfl rfl) rfl rfl rfl ?_
  refine WL_rd (Rd_pickT rfl rfl) rfl rfl rfl ?_
  refine WL_rd (Rd_assign rfl) rfl rfl rfl ?_
  refine WL_nil ?_
  refine Ps_next hK9 ?_
  refine WC_ret ?_
  exact hret () _ _ (Rs1 rfl rfl) (by simp only [List.cons_append, List.nil_append]; repeat (first | with_reducible exact Sub.refl | with_reducible exact Sub.nil | with_reducible refine Sub.cons (by repeat (first | with_reducible exact Ext.here | with_reducible apply Ext.there)) ?_ | with_reducible refine Sub.tail ?_))

theorem Names_ct : Ct Try.prog 5 [] [] (fun _ : Unit => .bool true) (fun _ => []) := by
  refine Ct_body (n := 4) Try.func5 rfl rfl rfl fun F w0 Q hret hnorm hp => ?_
  change WC _ _ _ _ _ _ (F)
  refine WC_seq fun K1 hK1 => ?_
  refine WC_region ?_
  refine WL_rd (Rd_assign rfl) rfl rfl rfl ?_
  refine WL_nil ?_
  refine Ps_next hK1 ?_
  refine WC_seq fun K2 hK2 => ?_
  refine WC_region ?_
  refine WL_rd (Rd_move rfl) rfl rfl rfl ?_
  refine WL_ac (Ac_call cf12 rfl (lives_ct) (Gv.nil)) rfl rfl rfl ?_
  rintro _ _ ⟨⟨⟩, rfl, hA⟩
  simp only [List.cons_append, List.nil_append] at hA
  subst hA
  refine WL_rd (Rd_pickT rfl rfl) rfl rfl rfl ?_
  refine WL_rd (Rd_assign rfl) rfl rfl rfl ?_
  refine WL_nil ?_
  refine Ps_next hK2 ?_
  refine WC_ret ?_
  exact hret () _ _ (Rs1 rfl rfl) (by simp only [List.cons_append, List.nil_append]; repeat (first | with_reducible exact Sub.refl | with_reducible exact Sub.nil | with_reducible refine Sub.cons (by repeat (first | with_reducible exact Ext.here | with_reducible apply Ext.there)) ?_ | with_reducible refine Sub.tail ?_))
end Go.Proofs.Ytcookmkklcbbnaa
