/-
  Contracts of functions that the claim reaches, or the logic and the plain laws that they rest on, or the row over them. (Conditions: none beyond the statement.)
-/
import Derived.Test.YtcookmkklcbbnaaHqCallE
import Derived.Test.YtcookmkklcbbnaaShStr
set_option linter.all false
namespace Go.Proofs.Ytcookmkklcbbnaa
open Go.RowKit Go.SL Go.HpM Go.ShM 
set_option maxHeartbeats 1000000
set_option maxRecDepth 20000
set_option linter.all false
theorem cf31 : cfn Try.prog 31 = true := by kernel_rfl
theorem cf33 : cfn Try.prog 33 = true := by kernel_rfl
theorem cf34 : cfn Try.prog 34 = true := by kernel_rfl
theorem fo77_0 : fo Try.prog 77 0 = some (0, 3) := by kernel_rfl
theorem pls73 : pls Try.prog 73 = some ([.int .i64 0, .slice none 0 0, .int .i64 0], [(0, 1), (1, 1), (2, 1)]) := by kernel_rfl
theorem pls74 : pls Try.prog 74 = some ([.pointer none, .pointer none], [(0, 1), (1, 1)]) := by kernel_rfl
theorem pls75 : pls Try.prog 75 = some ([.pointer none, .pointer none], [(0, 1), (1, 1)]) := by kernel_rfl
theorem sz70 : sz Try.prog 70 = some 1 := by kernel_rfl
theorem sz74 : sz Try.prog 74 = some 2 := by kernel_rfl
theorem sz75 : sz Try.prog 75 = some 2 := by kernel_rfl
theorem sz77 : sz Try.prog 77 = some 5 := by kernel_rfl
theorem ud69 : Try.prog.underlying 69 = some (.slice 77) := by kernel_rfl
theorem ud74 : Try.prog.underlying 74 = some (.array 2 70) := by kernel_rfl
theorem ud75 : Try.prog.underlying 75 = some (.array 2 55) := by kernel_rfl
theorem zr74 : zr Try.prog 74 = some [.pointer none, .pointer none] := by kernel_rfl
theorem zr75 : zr Try.prog 75 = some [.pointer none, .pointer none] := by kernel_rfl
structure HS where
  by_ : Int
  hb : Nat
  rb : Nat
  c : Nat
  g : HG
def eB (b : Nat) : List Value := [.pointer (some ⟨b, 0, none⟩)]
theorem encB : Enc eB 1 := ⟨fun _ => rfl, fun x v hv => by simp [eB] at hv; subst hv; rfl⟩
def FS (it : HS) : Asn := sep [hI_hpA (.func (.func 45) #[] (caO it.c).toArray) it.hb it.g.rows it.g.made, JO it.c it.by_, cl it.rb 73 [.int .i64 it.by_, sl it.g.a it.g.L.length it.g.cap, .int .i64 ((it.g.made : Nat) : Int)], arr it.g.a it.g.cap 2 99 eIt it.g.L]
def OKs (its : List HS) (n : Nat) : Prop := ∀ x ∈ its, Rl (ltz x.by_) x.g.rows x.g.L x.g.made ∧ x.g.made ≤ n
theorem OKs_set {its : List HS} {n n' i : Nat} {y : HS} (h : OKs its n) (hn : n ≤ n') (h1 : Rl (ltz y.by_) y.g.rows y.g.L y.g.made) (h2 : y.g.made ≤ n') : OKs (its.set i y) n' := fun x hx => by
  rcases List.mem_or_eq_of_mem_set hx with q | rfl
  · exact ⟨(h x q).1, Nat.le_trans (h x q).2 hn⟩
  · exact ⟨h1, h2⟩
theorem sat_star2 {α : Type} {F : α → Asn} {x y : α} {A R1 R : List Asn} {w : World} (hE1 : Ext A (F x) R1) (hE2 : Ext R1 (F y) R) (h : sat w A) : sat w (star F [x, y] :: R) := by
  have h1 : sat w (F x :: F y :: R) := sat_perm (List.Perm.trans hE1 (List.Perm.cons _ hE2)) h
  have e : ∀ B : List Asn, sat w (F y :: B) → sat w (star F [y] :: B) := fun B h => star_cons.2 (sat_perm (.swap _ _ _) (star_nil h))
  refine star_cons.2 (sat_perm (.swap _ _ _) (e _ (sat_perm (.swap _ _ _) h1)))

theorem pick_ct {x : Int} {n : Nat} (hn : 1 ≤ n := by omega) (hn2 : n ≤ 1000000000 := by omega) : Ct Try.prog 31 [.int .i64 x, .int .i64 ((n : Nat) : Int)] [] (fun _ : Unit => .int .i64 (((pickN x n) : Nat) : Int)) (fun _ => []) := by
  refine Ct_body (n := 16) Try.func31 rfl rfl rfl fun F w0 Q hret hnorm hp => ?_
  change WC _ _ _ _ _ _ _ (F)
  have htm := tmod_abs x hn
  refine WC_sr fun K1 hK1 => ?_
  refine WL_rd (Rd_assign rfl) rfl rfl rfl ?_
  refine WL_end hK1 ?_
  refine WC_seq fun K2 hK2 => ?_
  refine WC_sr fun K3 hK3 => ?_
  refine WL_rd (Rd_move rfl) rfl rfl rfl ?_
  refine WL_rd (Rd_isF (Rd_lssN (j := 1) rfl rfl)) rfl rfl rfl ?_
  refine WL_end hK3 ?_
  refine WC_condF rfl ?_
  refine WC_skip ?_
  refine Ps_next hK2 ?_
  refine WC_sr fun K4 hK4 => ?_
  refine WL_rd (Rd_move rfl) rfl rfl rfl ?_
  refine WL_rd (Rd_move rfl) rfl rfl rfl ?_
  refine WL_rd (Rd_rem' rfl rfl (by omega) rfl) rfl rfl rfl ?_
  refine WL_rd (Rd_assign rfl) rfl rfl rfl ?_
  refine WL_end hK4 ?_
  refine WC_seq fun K5 hK5 => ?_
  refine WC_sr fun K6 hK6 => ?_
  refine WL_rd (Rd_move rfl) rfl rfl rfl ?_
  refine WL_rd (Rd_lss rfl rfl) rfl rfl rfl ?_
  refine WL_end hK6 ?_
  refine WC_cond rfl (fun hc1 => ?_) (fun hc1 => ?_)
  · try simp only [decide_eq_true_eq, decide_eq_false_iff_not, Bool.not_eq_true', Bool.not_eq_false', Bool.not_eq_true, Bool.not_eq_false, Int.not_lt, Int.not_le, Nat.not_lt, Nat.not_le, Decidable.not_not, ne_eq] at hc1
    refine WC_region ?_
    refine WL_rd (Rd_move rfl) rfl rfl rfl ?_
    refine WL_rd (Rd_move rfl) rfl rfl rfl ?_
    refine WL_rd (Rd_add' rfl rfl (wr64 rfl (by omega) (by omega))) rfl rfl rfl ?_
    refine WL_rd (Rd_assign rfl) rfl rfl rfl ?_
    refine WL_nil ?_
    refine Ps_next hK5 ?_
    refine WC_sr fun K7 hK7 => ?_
    refine WL_rd (Rd_move rfl) rfl rfl rfl ?_
    refine WL_rd (Rd_assign rfl) rfl rfl rfl ?_
    refine WL_end hK7 ?_
    refine WC_ret ?_
    first | exact hret.goE () (Rs1 rfl rfl) (by rw [pick_neg hn hc1]) | exact hret.goE () (Rs1 rfl rfl) (by rw [pick_pos hn (by omega)])
  · try simp only [decide_eq_true_eq, decide_eq_false_iff_not, Bool.not_eq_true', Bool.not_eq_false', Bool.not_eq_true, Bool.not_eq_false, Int.not_lt, Int.not_le, Nat.not_lt, Nat.not_le, Decidable.not_not, ne_eq] at hc1
    refine WC_skip ?_
    refine Ps_next hK5 ?_
    refine WC_sr fun K8 hK8 => ?_
    refine WL_rd (Rd_move rfl) rfl rfl rfl ?_
    refine WL_rd (Rd_assign rfl) rfl rfl rfl ?_
    refine WL_end hK8 ?_
    refine WC_ret ?_
    first | exact hret.goE () (Rs1 rfl rfl) (by rw [pick_neg hn hc1]) | exact hret.goE () (Rs1 rfl rfl) (by rw [pick_pos hn (by omega)])

theorem Calls_ct {X : Asn} {v : Value} {qs : List HO} {ao : Option Addr} {cap : Nat} {b1 b2 : Int} (hS : Sv [X] v 5 eHO qs ao cap := by assumption) (hn : qs.length ≤ 1048576 := by omega) : Ct Try.prog 8 [.int .i64 b1, .int .i64 b2, v] [X] (fun _ : Unit => .bool true) (fun _ => [X]) := by
  refine Ct_body (n := 90) Try.func8 rfl rfl rfl fun F w0 Q hret hnorm hp => ?_
  change WC _ _ _ _ _ _ _ (_ :: F)
  refine WC_sr fun K1 hK1 => ?_
  refine WL_rd (Rd_assign rfl) rfl rfl rfl ?_
  refine WL_end hK1 ?_
  refine WC_seq fun K2 hK2 => ?_
  refine WC_sr fun K3 hK3 => ?_
  refine WL_ac (Ac_call cf12 rfl (hs := lives_ct)) rfl rfl rfl ?_
  rintro _ _ ⟨⟨⟩, rfl, hA⟩
  simp only [List.cons_append, List.nil_append] at hA
  replace hA := hA.symm
  subst hA
  refine WL_rd (Rd_not rfl) rfl rfl rfl ?_
  refine WL_end hK3 ?_
  refine WC_condF rfl ?_
  refine WC_skip ?_
  refine Ps_next hK2 ?_
  refine WC_sr fun K4 hK4 => ?_
  refine WL_rd (Rd_move rfl) rfl rfl rfl ?_
  refine WL_ac (Ac_call cf19 rfl (hs := order_ct (by_ := b1))) rfl rfl rfl ?_
  rintro _ _ ⟨c1, rfl, hA⟩
  simp only [List.cons_append, List.nil_append] at hA
  replace hA := hA.symm
  subst hA
  refine WL_ac (Ac_call cf24 rfl (hs := hI_new_hp (lf := 45) (caps := caO c1))) rfl rfl rfl ?_
  rintro _ _ ⟨hb1, rfl, hA⟩
  simp only [List.cons_append, List.nil_append] at hA
  replace hA := hA.symm
  subst hA
  refine WL_rd (Rd_move rfl) rfl rfl rfl ?_
  refine WL_rd (Rd_ext0 rfl) rfl rfl rfl ?_
  refine WL_rd (Rd_ext1 rfl) rfl rfl rfl ?_
  refine WL_rd (Rd_assign rfl) rfl rfl rfl ?_
  refine WL_rd (Rd_assign rfl) rfl rfl rfl ?_
  refine WL_end hK4 ?_
  refine WC_sr fun K5 hK5 => ?_
  refine WL_rd (Rd_move rfl) rfl rfl rfl ?_
  refine WL_ac (Ac_call cf19 rfl (hs := order_ct (by_ := b2))) rfl rfl rfl ?_
  rintro _ _ ⟨c2, rfl, hA⟩
  simp only [List.cons_append, List.nil_append] at hA
  replace hA := hA.symm
  subst hA
  refine WL_ac (Ac_call cf24 rfl (hs := hI_new_hp (lf := 45) (caps := caO c2))) rfl rfl rfl ?_
  rintro _ _ ⟨hb2, rfl, hA⟩
  simp only [List.cons_append, List.nil_append] at hA
  replace hA := hA.symm
  subst hA
  refine WL_rd (Rd_move rfl) rfl rfl rfl ?_
  refine WL_rd (Rd_ext0 rfl) rfl rfl rfl ?_
  refine WL_rd (Rd_ext1 rfl) rfl rfl rfl ?_
  refine WL_rd (Rd_assign rfl) rfl rfl rfl ?_
  refine WL_rd (Rd_assign rfl) rfl rfl rfl ?_
  refine WL_end hK5 ?_
  refine WC_seq fun K6 hK6 => ?_
  refine WC_sr fun K7 hK7 => ?_
  refine WL_rd (Rd_move rfl) rfl rfl rfl ?_
  refine WL_rd (Rd_neqN (i := 0) (j := 0) rfl rfl) rfl rfl rfl ?_
  refine WL_rd (Rd_move rfl) rfl rfl rfl ?_
  refine WL_rd (Rd_move rfl) rfl rfl rfl ?_
  refine WL_rd (Rd_neqN (i := 0) (j := 0) rfl rfl) rfl rfl rfl ?_
  refine WL_rd (Rd_pickF rfl rfl) rfl rfl rfl ?_
  refine WL_rd (Rd_move rfl) rfl rfl rfl ?_
  refine WL_rd (Rd_move rfl) rfl rfl rfl ?_
  refine WL_rd (Rd_peq rfl rfl ud55) rfl rfl rfl ?_
  refine WL_rd (Rd_pickF rfl rfl) rfl rfl rfl ?_
  refine WL_rd (Rd_move rfl) rfl rfl rfl ?_
  refine WL_rd (Rd_move rfl) rfl rfl rfl ?_
  refine WL_rd (Rd_peq rfl rfl ud55) rfl rfl rfl ?_
  refine WL_rd (Rd_pickF rfl rfl) rfl rfl rfl ?_
  refine WL_end hK7 ?_
  refine WC_condF rfl ?_
  refine WC_skip ?_
  refine Ps_next hK6 ?_
  refine WC_sr fun K8 hK8 => ?_
  refine WL_rd (Rd_move rfl) rfl rfl rfl ?_
  refine WL_rd (Rd_build pls73 rfl) rfl rfl rfl ?_
  refine WL_ac (Ac_box (xs := [.int .i64 b1, sl none 0 0, .int .i64 ((0 : Nat) : Int)]) rfl rfl) rfl rfl rfl ?_
  rintro _ _ ⟨b46, rfl, rfl⟩
  refine WL_rd (Rd_move rfl) rfl rfl rfl ?_
  refine WL_rd (Rd_build pls73 rfl) rfl rfl rfl ?_
  refine WL_ac (Ac_box (xs := [.int .i64 b2, sl none 0 0, .int .i64 ((0 : Nat) : Int)]) rfl rfl) rfl rfl rfl ?_
  rintro _ _ ⟨b49, rfl, rfl⟩
  refine WL_rd (Rd_build pls74 rfl) rfl rfl rfl ?_
  refine WL_ac (Ac_alloc zr74) rfl rfl rfl ?_
  rintro _ _ ⟨b11, rfl, rfl⟩
  refine WL_ac0 (Ac_store (ys := [.pointer (some ⟨b46, 0, none⟩), .pointer (some ⟨b49, 0, none⟩)]) rfl rfl sz74 (hr := rfl)) rfl rfl ?_
  rintro _ _ rfl
  refine WL_end hK8 ?_
  refine WC_sr fun K9 hK9 => ?_
  refine WL_rd (Rd_move rfl) rfl rfl rfl ?_
  refine WL_rd (Rd_move rfl) rfl rfl rfl ?_
  refine WL_rd (Rd_build pls75 rfl) rfl rfl rfl ?_
  refine WL_ac (Ac_alloc zr75) rfl rfl rfl ?_
  rintro _ _ ⟨b12, rfl, rfl⟩
  refine WL_ac0 (Ac_store (ys := [.pointer (some ⟨hb1, 0, none⟩), .pointer (some ⟨hb2, 0, none⟩)]) rfl rfl sz75 (hr := rfl)) rfl rfl ?_
  rintro _ _ rfl
  refine WL_end hK9 ?_
  refine WC_seq fun K10 hK10 => ?_
  refine WC_sr fun K11 hK11 => ?_
  refine WL_rd (Rd_assign rfl) rfl rfl rfl ?_
  refine WL_end hK11 ?_
  refine WC_block ?_
  rw [show cl b46 73 [.int .i64 b1, sl none 0 0, .int .i64 ((0 : Nat) : Int)] = cl b46 73 [.int .i64 b1, sl none ([] : List (Nat × Int)).length 0, .int .i64 ((0 : Nat) : Int)] from rfl]
  refine WC_imp (fun w h => sat_nil (e := 2) (T := 99) (f := eIt) h) ?_
  refine WC_pk0 ?_
  refine WC_pull (arr none 0 2 99 eIt ([] : List (Nat × Int))) ?_
  refine WC_pull (cl b46 73 [.int .i64 b1, sl none ([] : List (Nat × Int)).length 0, .int .i64 ((0 : Nat) : Int)]) ?_
  refine WC_pull (JO c1 b1) ?_
  refine WC_pull (hI_hpA (.func (.func 45) #[] (caO c1).toArray) hb1 ([] : List (Nat × Int)) 0) ?_
  rw [show sep [hI_hpA (.func (.func 45) #[] (caO c1).toArray) hb1 ([] : List (Nat × Int)) 0, JO c1 b1, cl b46 73 [.int .i64 b1, sl none ([] : List (Nat × Int)).length 0, .int .i64 ((0 : Nat) : Int)], arr none 0 2 99 eIt ([] : List (Nat × Int))] = FS ⟨b1, hb1, b46, c1, (⟨[], [], 0, none, 0⟩ : HG)⟩ from rfl]
  rw [show cl b49 73 [.int .i64 b2, sl none 0 0, .int .i64 ((0 : Nat) : Int)] = cl b49 73 [.int .i64 b2, sl none ([] : List (Nat × Int)).length 0, .int .i64 ((0 : Nat) : Int)] from rfl]
  refine WC_imp (fun w h => sat_nil (e := 2) (T := 99) (f := eIt) h) ?_
  refine WC_pk0 ?_
  refine WC_pull (arr none 0 2 99 eIt ([] : List (Nat × Int))) ?_
  refine WC_pull (cl b49 73 [.int .i64 b2, sl none ([] : List (Nat × Int)).length 0, .int .i64 ((0 : Nat) : Int)]) ?_
  refine WC_pull (JO c2 b2) ?_
  refine WC_pull (hI_hpA (.func (.func 45) #[] (caO c2).toArray) hb2 ([] : List (Nat × Int)) 0) ?_
  rw [show sep [hI_hpA (.func (.func 45) #[] (caO c2).toArray) hb2 ([] : List (Nat × Int)) 0, JO c2 b2, cl b49 73 [.int .i64 b2, sl none ([] : List (Nat × Int)).length 0, .int .i64 ((0 : Nat) : Int)], arr none 0 2 99 eIt ([] : List (Nat × Int))] = FS ⟨b2, hb2, b49, c2, (⟨[], [], 0, none, 0⟩ : HG)⟩ from rfl]
  refine WC_imp (fun w h => sat_star2 (F := FS) (x := ⟨b1, hb1, b46, c1, (⟨[], [], 0, none, 0⟩ : HG)⟩) (y := ⟨b2, hb2, b49, c2, (⟨[], [], 0, none, 0⟩ : HG)⟩) (by repeat (first | with_reducible exact Ext.here | with_reducible apply Ext.there)) (by repeat (first | with_reducible exact Ext.here | with_reducible apply Ext.there)) h) ?_
  refine WC_imp (fun w h => sat_arr (b := b12) (e := 1) (n := 2) (T := 75) (f := eB) (l := [(⟨b1, hb1, b46, c1, (⟨[], [], 0, none, 0⟩ : HG)⟩ : HS), ⟨b2, hb2, b49, c2, (⟨[], [], 0, none, 0⟩ : HG)⟩].map HS.hb) (xs := [.pointer (some ⟨hb1, 0, none⟩), .pointer (some ⟨hb2, 0, none⟩)]) (fun _ => rfl) (by simp [maxLen]) rfl rfl (by repeat (first | with_reducible exact Ext.here | with_reducible apply Ext.there)) h) ?_
  refine WC_imp (fun w h => sat_arr (b := b11) (e := 1) (n := 2) (T := 74) (f := eB) (l := [(⟨b1, hb1, b46, c1, (⟨[], [], 0, none, 0⟩ : HG)⟩ : HS), ⟨b2, hb2, b49, c2, (⟨[], [], 0, none, 0⟩ : HG)⟩].map HS.rb) (xs := [.pointer (some ⟨b46, 0, none⟩), .pointer (some ⟨b49, 0, none⟩)]) (fun _ => rfl) (by simp [maxLen]) rfl rfl (by repeat (first | with_reducible exact Ext.here | with_reducible apply Ext.there)) h) ?_
  refine WC_loopK (σ := Nat × (List HS)) (fun ⟨k, its⟩ => [(13, .int .i64 ((k : Nat) : Int))]) (fun ⟨k, its⟩ => [star FS its, arr (some b12) 2 1 75 eB (its.map HS.hb), arr (some b11) 2 1 74 eB (its.map HS.rb)]) (fun ⟨k, its⟩ => k ≤ qs.length ∧ its.length = 2 ∧ OKs its k) (fun ⟨k, its⟩ => qs.length - k) ⟨0, [(⟨b1, hb1, b46, c1, (⟨[], [], 0, none, 0⟩ : HG)⟩ : HS), ⟨b2, hb2, b49, c2, (⟨[], [], 0, none, 0⟩ : HG)⟩]⟩ [2, 11, 12, 15, 78, 79, 80, 81, 82, 83, 84, 85, 86, 87, 88, 89] (by repeat (first | exact Kep.nil | apply Kep.drop rfl | apply Kep.keep rfl)) (by (try dsimp only); repeat (first | with_reducible exact Gv.nil | (with_reducible apply Gv.cons; · (repeat (first | with_reducible exact Ext.here | with_reducible apply Ext.there))))) ?_ ?_ Sub.refl ?_
  · exact ⟨Nat.zero_le _, rfl, fun x hx => by simp only [List.mem_cons, List.not_mem_nil, or_false] at hx; rcases hx with rfl | rfl <;> exact ⟨Rl_nil, Nat.le_refl _⟩⟩
  · (try dsimp only); exact (Wk.cons (by first | rfl | (simp only [List.length_append, List.length_cons, List.length_nil, List.length_replicate, Nat.zero_add]; rfl) | (simp; done)) Wk.nil)
  · rintro ⟨k, its⟩ ⟨hk, hl2, hok⟩ K12 hK12
    simp only [List.cons_append, List.nil_append]
    refine WC_seq fun K13 hK13 => ?_
    refine WC_sr fun K14 hK14 => ?_
    refine WL_rd (Rd_move rfl) rfl rfl rfl ?_
    refine WL_rd (Rd_move rfl) rfl rfl rfl ?_
    refine WL_rd (Rd_len_sv rfl rfl ud69) rfl rfl rfl ?_
    refine WL_rd (Rd_lssN rfl rfl) rfl rfl rfl ?_
    refine WL_end hK14 ?_
    refine WC_cond rfl (fun hc2 => ?_) (fun hc2 => ?_)
    · try simp only [decide_eq_true_eq, decide_eq_false_iff_not, Bool.not_eq_true', Bool.not_eq_false', Bool.not_eq_true, Bool.not_eq_false, Int.not_lt, Int.not_le, Nat.not_lt, Nat.not_le, Decidable.not_not, ne_eq] at hc2
      obtain ⟨q, hq⟩ := at_i (l := qs) (i := k) (by omega)
      refine WC_skip ?_
      refine Ps_next hK13 ?_
      refine WC_seq fun K15 hK15 => ?_
      refine WC_block ?_
      refine WC_sr fun K16 hK16 => ?_
      refine WL_rd (Rd_move rfl) rfl rfl rfl ?_
      refine WL_rd (Rd_move rfl) rfl rfl rfl ?_
      refine WL_rd (Rd_index_sv k rfl rfl ud69 sz77 (hA := hS) (hi := by omega)) rfl rfl rfl ?_
      refine WL_rd (Rd_fieldAddr rfl fo77_0) rfl rfl rfl ?_
      refine WL_rd (Rd_load_sv (f := eHO) (i := k) (j := 0) (u := .int .i64 q.on) rfl tk3 (hA := hS) (hl := hq)) rfl rfl rfl ?_
      refine WL_ac (Ac_call cf31 rfl (hs := pick_ct (x := q.on) (n := 2))) rfl rfl rfl ?_
      rintro _ _ ⟨⟨⟩, rfl, hA⟩
      simp only [List.cons_append, List.nil_append] at hA
      replace hA := hA.symm
      subst hA
      have hn2 := pickN_lt (x := q.on) (n := 2) (by omega)
      generalize pickN q.on 2 = pn at hn2 ⊢
      obtain ⟨it, hit⟩ := at_i (l := its) (i := pn) (by omega)
      obtain ⟨hRi, hmi⟩ := hok it (List.mem_of_getElem? hit)
      have hhi : (its.map HS.hb)[pn]? = some it.hb := by rw [List.getElem?_map, hit]; rfl
      have hri : (its.map HS.rb)[pn]? = some it.rb := by rw [List.getElem?_map, hit]; rfl
      refine WL_open FS its pn (x := it) hit ?_
      rw [show FS it = sep [hI_hpA (.func (.func 45) #[] (caO it.c).toArray) it.hb it.g.rows it.g.made, JO it.c it.by_, cl it.rb 73 [.int .i64 it.by_, sl it.g.a it.g.L.length it.g.cap, .int .i64 ((it.g.made : Nat) : Int)], arr it.g.a it.g.cap 2 99 eIt it.g.L] from rfl]
      refine WL_unpk [hI_hpA (.func (.func 45) #[] (caO it.c).toArray) it.hb it.g.rows it.g.made, JO it.c it.by_, cl it.rb 73 [.int .i64 it.by_, sl it.g.a it.g.L.length it.g.cap, .int .i64 ((it.g.made : Nat) : Int)], arr it.g.a it.g.cap 2 99 eIt it.g.L] ?_
      simp only [List.cons_append, List.nil_append]
      refine WL_rd (Rd_assign rfl) rfl rfl rfl ?_
      refine WL_end hK16 ?_
      refine WC_seq fun K17 hK17 => ?_
      refine WC_drawA mix (fun i => ([2, 2, 2, 2, 2, 2, 2, 2, 2, 2, 0, 2] : List Nat).getD i 0) ?_
      refine WJ_takeP 0 rfl (by kernel_rfl) (Rd_move rfl) rfl rfl rfl (hp _ _) ?_
      refine WJ_takeP 1 rfl (by kernel_rfl) (Rd_ixA pn rfl rfl ud75 sz55 (hi := by omega)) rfl rfl rfl (hp _ _) ?_
      refine WJ_tk 2 (Rd_load_arr (f := eB) (i := pn) (j := 0) (v := .pointer (some ⟨it.hb, 0, none⟩)) rfl tk55 (hl := hhi) (hv := rfl)) hp ?_ rfl (by kernel_rfl) rfl rfl rfl
      refine WJ_takeP 3 rfl (by kernel_rfl) (Rd_move rfl) rfl rfl rfl (hp _ _) ?_
      refine WJ_takeP 4 rfl (by kernel_rfl) (Rd_ixA pn rfl rfl ud74 sz70 (hi := by omega)) rfl rfl rfl (hp _ _) ?_
      refine WJ_tk 5 (Rd_load_arr (f := eB) (i := pn) (j := 0) (v := .pointer (some ⟨it.rb, 0, none⟩)) rfl tk70 (hl := hri) (hv := rfl)) hp ?_ rfl (by kernel_rfl) rfl rfl rfl
      refine WJ_takeP 6 rfl (by kernel_rfl) (Rd_move rfl) rfl rfl rfl (hp _ _) ?_
      refine WJ_takeP 7 rfl (by kernel_rfl) (Rd_move rfl) rfl rfl rfl (hp _ _) ?_
      refine WJ_takeP 8 rfl (by kernel_rfl) (Rd_index_sv k rfl rfl ud69 sz77 (hA := hS) (hi := by omega)) rfl rfl rfl (hp _ _) ?_
      refine WJ_tk 9 (Rd_loadg_sv (f := eHO) (i := k) rfl tk77 (hA := hS) (hl := hq)) hp ?_ rfl (by kernel_rfl) rfl rfl rfl
      refine WJ_all (rs := [10]) (by kernel_rfl) rfl ?_
      refine WI_one ?_
      refine WI_ac rfl (Ac_call cf33 rfl (hs := ask_ct (p := it.g) (q := q) (hb := it.hb) (rb := it.rb) (c := it.c) (by_ := it.by_) (hR := hRi))) rfl rfl rfl rfl ?_
      rintro _ _ ⟨⟨g, hRg, hmg⟩, rfl, hA⟩
      simp only [List.cons_append, List.nil_append] at hA
      replace hA := hA.symm
      subst hA
      try dsimp only
      refine ⟨(fun h => by cases h), ?_⟩
      refine WJ_takeP 11 rfl (by kernel_rfl) (Rd_not rfl) rfl rfl rfl (hp _ _) ?_
      refine WJ_done (by kernel_rfl) ?_
      refine Ps_next hK17 ?_
      refine WC_condF rfl ?_
      refine WC_skip ?_
      refine Ps_next hK15 ?_
      refine WC_region ?_
      refine WL_pk0 ?_
      refine WL_pull (arr g.a g.cap 2 99 eIt g.L) ?_
      refine WL_pull (cl it.rb 73 [.int .i64 it.by_, sl g.a g.L.length g.cap, .int .i64 ((g.made : Nat) : Int)]) ?_
      refine WL_pull (JO it.c it.by_) ?_
      refine WL_pull (hI_hpA (.func (.func 45) #[] (caO it.c).toArray) it.hb g.rows g.made) ?_
      rw [show sep [hI_hpA (.func (.func 45) #[] (caO it.c).toArray) it.hb g.rows g.made, JO it.c it.by_, cl it.rb 73 [.int .i64 it.by_, sl g.a g.L.length g.cap, .int .i64 ((g.made : Nat) : Int)], arr g.a g.cap 2 99 eIt g.L] = FS (⟨it.by_, it.hb, it.rb, it.c, g⟩ : HS) from rfl]
      refine WL_shut FS its pn (⟨it.by_, it.hb, it.rb, it.c, g⟩ : HS) (by omega) ?_
      rw [show its.map HS.hb = (its.set pn (⟨it.by_, it.hb, it.rb, it.c, g⟩ : HS)).map HS.hb from map_same hit rfl, show its.map HS.rb = (its.set pn (⟨it.by_, it.hb, it.rb, it.c, g⟩ : HS)).map HS.rb from map_same hit rfl]
      refine WL_rd (Rd_move rfl) rfl rfl rfl ?_
      refine WL_rd (Rd_addN (j := 1) rfl rfl) rfl rfl rfl ?_
      refine WL_rd (Rd_assign rfl) rfl rfl rfl ?_
      refine WL_nil ?_
      refine Ps_wk (by (try simp only [List.cons_append, List.nil_append]); repeat (first | with_reducible exact Wk.nil | refine Wk.cons (by first | rfl | (simp only [List.length_append, List.length_cons, List.length_nil, List.length_replicate, Nat.zero_add]; rfl) | (simp; done)) ?_)) (by (try simp only [List.cons_append, List.nil_append]); repeat (first | with_reducible exact Sub.refl | with_reducible exact Sub.nil | with_reducible refine Sub.cons (by repeat (first | with_reducible exact Ext.here | with_reducible apply Ext.there)) ?_ | with_reducible refine Sub.tail ?_)) (hK12 ⟨k + 1, its.set pn (⟨it.by_, it.hb, it.rb, it.c, g⟩ : HS)⟩ (⟨by (try dsimp only); omega, by (try dsimp only); rw [List.length_set]; exact hl2, OKs_set hok (by omega) hRg (by (try dsimp only); omega)⟩) (by (try dsimp only); omega))
    · try simp only [decide_eq_true_eq, decide_eq_false_iff_not, Bool.not_eq_true', Bool.not_eq_false', Bool.not_eq_true, Bool.not_eq_false, Int.not_lt, Int.not_le, Nat.not_lt, Nat.not_le, Decidable.not_not, ne_eq] at hc2
      refine WC_exit ?_
      refine Ps_next hK10 ?_
      refine WC_seq fun K18 hK18 => ?_
      refine WC_sr fun K19 hK19 => ?_
      refine WL_rd (Rd_assign rfl) rfl rfl rfl ?_
      refine WL_end hK19 ?_
      refine WC_block ?_
      refine WC_loopK (σ := Nat × (List HS)) (fun ⟨j, its2⟩ => [(15, .int .i64 ((j : Nat) : Int))]) (fun ⟨j, its2⟩ => [star FS its2, arr (some b12) 2 1 75 eB (its2.map HS.hb), arr (some b11) 2 1 74 eB (its2.map HS.rb)]) (fun ⟨j, its2⟩ => j ≤ 2 ∧ its2.length = 2 ∧ OKs its2 qs.length) (fun ⟨j, its2⟩ => 2 - j) ⟨0, its⟩ [11, 12] (by repeat (first | exact Kep.nil | apply Kep.drop rfl | apply Kep.keep rfl)) (by (try dsimp only); repeat (first | with_reducible exact Gv.nil | (with_reducible apply Gv.cons; · (repeat (first | with_reducible exact Ext.here | with_reducible apply Ext.there))))) ?_ ?_ Sub.refl ?_
      · exact ⟨Nat.zero_le _, hl2, fun x hx => ⟨(hok x hx).1, Nat.le_trans (hok x hx).2 hk⟩⟩
      · (try dsimp only); exact (Wk.cons (by first | rfl | (simp only [List.length_append, List.length_cons, List.length_nil, List.length_replicate, Nat.zero_add]; rfl) | (simp; done)) Wk.nil)
      · rintro ⟨j, its2⟩ ⟨hj, hl2', hok⟩ K20 hK20
        simp only [List.cons_append, List.nil_append]
        refine WC_seq fun K21 hK21 => ?_
        refine WC_sr fun K22 hK22 => ?_
        refine WL_rd (Rd_move rfl) rfl rfl rfl ?_
        refine WL_rd (Rd_lssN (j := 2) rfl rfl) rfl rfl rfl ?_
        refine WL_end hK22 ?_
        refine WC_cond rfl (fun hc4 => ?_) (fun hc4 => ?_)
        · try simp only [decide_eq_true_eq, decide_eq_false_iff_not, Bool.not_eq_true', Bool.not_eq_false', Bool.not_eq_true, Bool.not_eq_false, Int.not_lt, Int.not_le, Nat.not_lt, Nat.not_le, Decidable.not_not, ne_eq] at hc4
          obtain ⟨it, hit⟩ := at_i (l := its2) (i := j) (by omega)
          obtain ⟨hRi, hmi⟩ := hok it (List.mem_of_getElem? hit)
          have hhi : (its2.map HS.hb)[j]? = some it.hb := by rw [List.getElem?_map, hit]; rfl
          have hri : (its2.map HS.rb)[j]? = some it.rb := by rw [List.getElem?_map, hit]; rfl
          refine WC_open FS its2 j (x := it) hit ?_
          rw [show FS it = sep [hI_hpA (.func (.func 45) #[] (caO it.c).toArray) it.hb it.g.rows it.g.made, JO it.c it.by_, cl it.rb 73 [.int .i64 it.by_, sl it.g.a it.g.L.length it.g.cap, .int .i64 ((it.g.made : Nat) : Int)], arr it.g.a it.g.cap 2 99 eIt it.g.L] from rfl]
          refine WC_unpk [hI_hpA (.func (.func 45) #[] (caO it.c).toArray) it.hb it.g.rows it.g.made, JO it.c it.by_, cl it.rb 73 [.int .i64 it.by_, sl it.g.a it.g.L.length it.g.cap, .int .i64 ((it.g.made : Nat) : Int)], arr it.g.a it.g.cap 2 99 eIt it.g.L] ?_
          simp only [List.cons_append, List.nil_append]
          refine WC_skip ?_
          refine Ps_next hK21 ?_
          refine WC_seq fun K23 hK23 => ?_
          refine WC_block ?_
          refine WC_seq fun K24 hK24 => ?_
          refine WC_drawA mix (fun i => ([2, 2, 2, 2, 2, 2, 0, 2] : List Nat).getD i 0) ?_
          refine WJ_takeP 0 rfl (by kernel_rfl) (Rd_move rfl) rfl rfl rfl (hp _ _) ?_
          refine WJ_takeP 1 rfl (by kernel_rfl) (Rd_ixA j rfl rfl ud75 sz55 (hi := by omega)) rfl rfl rfl (hp _ _) ?_
          refine WJ_tk 2 (Rd_load_arr (f := eB) (i := j) (j := 0) (v := .pointer (some ⟨it.hb, 0, none⟩)) rfl tk55 (hl := hhi) (hv := rfl)) hp ?_ rfl (by kernel_rfl) rfl rfl rfl
          refine WJ_takeP 3 rfl (by kernel_rfl) (Rd_move rfl) rfl rfl rfl (hp _ _) ?_
          refine WJ_takeP 4 rfl (by kernel_rfl) (Rd_ixA j rfl rfl ud74 sz70 (hi := by omega)) rfl rfl rfl (hp _ _) ?_
          refine WJ_tk 5 (Rd_load_arr (f := eB) (i := j) (j := 0) (v := .pointer (some ⟨it.rb, 0, none⟩)) rfl tk70 (hl := hri) (hv := rfl)) hp ?_ rfl (by kernel_rfl) rfl rfl rfl
          refine WJ_all (rs := [6]) (by kernel_rfl) rfl ?_
          refine WI_one ?_
          refine WI_ac rfl (Ac_call cf34 rfl (hs := emptied_ct (p := it.g) (hb := it.hb) (rb := it.rb) (c := it.c) (by_ := it.by_) (hR := hRi))) rfl rfl rfl rfl ?_
          rintro _ _ ⟨⟨g, hRg, hmg⟩, rfl, hA⟩
          simp only [List.cons_append, List.nil_append] at hA
          replace hA := hA.symm
          subst hA
          try dsimp only
          refine ⟨(fun h => by cases h), ?_⟩
          refine WJ_takeP 7 rfl (by kernel_rfl) (Rd_not rfl) rfl rfl rfl (hp _ _) ?_
          refine WJ_done (by kernel_rfl) ?_
          refine Ps_next hK24 ?_
          refine WC_condF rfl ?_
          refine WC_skip ?_
          refine Ps_next hK23 ?_
          refine WC_region ?_
          refine WL_pk0 ?_
          refine WL_pull (arr g.a g.cap 2 99 eIt g.L) ?_
          refine WL_pull (cl it.rb 73 [.int .i64 it.by_, sl g.a g.L.length g.cap, .int .i64 ((g.made : Nat) : Int)]) ?_
          refine WL_pull (JO it.c it.by_) ?_
          refine WL_pull (hI_hpA (.func (.func 45) #[] (caO it.c).toArray) it.hb g.rows g.made) ?_
          rw [show sep [hI_hpA (.func (.func 45) #[] (caO it.c).toArray) it.hb g.rows g.made, JO it.c it.by_, cl it.rb 73 [.int .i64 it.by_, sl g.a g.L.length g.cap, .int .i64 ((g.made : Nat) : Int)], arr g.a g.cap 2 99 eIt g.L] = FS (⟨it.by_, it.hb, it.rb, it.c, g⟩ : HS) from rfl]
          refine WL_shut FS its2 j (⟨it.by_, it.hb, it.rb, it.c, g⟩ : HS) (by omega) ?_
          rw [show its2.map HS.hb = (its2.set j (⟨it.by_, it.hb, it.rb, it.c, g⟩ : HS)).map HS.hb from map_same hit rfl, show its2.map HS.rb = (its2.set j (⟨it.by_, it.hb, it.rb, it.c, g⟩ : HS)).map HS.rb from map_same hit rfl]
          refine WL_rd (Rd_move rfl) rfl rfl rfl ?_
          refine WL_rd (Rd_addN (j := 1) rfl rfl) rfl rfl rfl ?_
          refine WL_rd (Rd_assign rfl) rfl rfl rfl ?_
          refine WL_nil ?_
          refine Ps_wk (by (try simp only [List.cons_append, List.nil_append]); repeat (first | with_reducible exact Wk.nil | refine Wk.cons (by first | rfl | (simp only [List.length_append, List.length_cons, List.length_nil, List.length_replicate, Nat.zero_add]; rfl) | (simp; done)) ?_)) (by (try simp only [List.cons_append, List.nil_append]); repeat (first | with_reducible exact Sub.refl | with_reducible exact Sub.nil | with_reducible refine Sub.cons (by repeat (first | with_reducible exact Ext.here | with_reducible apply Ext.there)) ?_ | with_reducible refine Sub.tail ?_)) (hK20 ⟨j + 1, its2.set j (⟨it.by_, it.hb, it.rb, it.c, g⟩ : HS)⟩ (⟨by (try dsimp only); omega, by (try dsimp only); rw [List.length_set]; exact hl2', OKs_set hok (Nat.le_refl _) hRg (by (try dsimp only); omega)⟩) (by (try dsimp only); omega))
        · try simp only [decide_eq_true_eq, decide_eq_false_iff_not, Bool.not_eq_true', Bool.not_eq_false', Bool.not_eq_true, Bool.not_eq_false, Int.not_lt, Int.not_le, Nat.not_lt, Nat.not_le, Decidable.not_not, ne_eq] at hc4
          refine WC_exit ?_
          refine Ps_next hK18 ?_
          refine WC_sr fun K25 hK25 => ?_
          refine WL_rd (Rd_assign rfl) rfl rfl rfl ?_
          refine WL_end hK25 ?_
          refine WC_ret ?_
          exact hret.go () (Rs1 rfl rfl)
end Go.Proofs.Ytcookmkklcbbnaa
