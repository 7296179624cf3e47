/-
  Contracts of functions that the claim reaches, or the logic and the plain laws that they rest on, or the row over them. (Conditions: none beyond the statement.)
-/
import Derived.Test.YtcookmkklcbbnaaHqApart
import Derived.Test.YtcookmkklcbbnaaHpSort
set_option linter.all false
namespace Go.Proofs.Ytcookmkklcbbnaa
open Go.RowKit Go.SL Go.HpM Go.ShM 
set_option maxHeartbeats 1000000
set_option maxRecDepth 20000
set_option linter.all false
theorem cf62 : cfn Try.prog 62 = true := by kernel_rfl
theorem cf63 : cfn Try.prog 63 = true := by kernel_rfl
theorem el99 : el Try.prog 99 = some (2, 16) := by kernel_rfl
theorem fo73_0 : fo Try.prog 73 0 = some (0, 3) := by kernel_rfl
theorem fo73_1 : fo Try.prog 73 1 = some (1, 71) := by kernel_rfl
theorem fo73_2 : fo Try.prog 73 2 = some (2, 3) := by kernel_rfl
theorem fo99_1 : fo Try.prog 99 1 = some (1, 3) := by kernel_rfl
theorem pls99 : pls Try.prog 99 = some ([.int .i64 0, .int .i64 0], [(0, 1), (1, 1)]) := by kernel_rfl
theorem sz71 : sz Try.prog 71 = some 1 := by kernel_rfl
theorem sz99 : sz Try.prog 99 = some 2 := by kernel_rfl
theorem tk71 : tk Try.prog 71 = some none := by kernel_rfl
theorem tk99 : tk Try.prog 99 = some (some 2) := by kernel_rfl
theorem ud71 : Try.prog.underlying 71 = some (.slice 99) := by kernel_rfl
theorem zr73 : zr Try.prog 73 = some [.int .i64 0, .slice none 0 0, .int .i64 0] := by kernel_rfl
theorem zr99 : zr Try.prog 99 = some [.int .i64 0, .int .i64 0] := by kernel_rfl
def eIt (r : Nat × Int) : List Value := [.int .i64 ((r.1 : Nat) : Int), .int .i64 r.2]
theorem encIt : Enc eIt 2 := ⟨fun _ => rfl, fun x v hv => by simp only [eIt, List.mem_cons, List.not_mem_nil, or_false] at hv; rcases hv with rfl | rfl <;> rfl⟩
theorem er_add {α : Type} {l : List α} {i k : Nat} {x : α} (hx : l[k]? = some x) (h : k ≠ i) : (l.take k).eraseIdx i ++ [x] = (l.take (k + 1)).eraseIdx i := by
  obtain ⟨hk, e⟩ := List.getElem?_eq_some_iff.1 hx
  rw [List.take_succ_eq_append_getElem hk, e]
  by_cases hi : i < k
  · rw [List.eraseIdx_append_of_lt_length (by simp; omega)]
  · rw [List.eraseIdx_append_of_length_le (by simp; omega), List.eraseIdx_of_length_le (by simp; omega)]
    congr 1
    rw [List.eraseIdx_of_length_le (by simp; omega)]
theorem er_skip {α : Type} {l : List α} {i : Nat} (h : i < l.length) : (l.take i).eraseIdx i = (l.take (i + 1)).eraseIdx i := by
  rw [List.take_succ_eq_append_getElem h]
  rw [List.eraseIdx_append_of_length_le (by simp; omega), List.eraseIdx_of_length_le (by simp; omega)]
  have : i - (l.take i).length = 0 := by simp; omega
  rw [this]; simp
theorem at_r {α : Type} {l : List α} {i : Nat} (h : i < l.length) : ∃ x, l[i]? = some x := ⟨_, List.getElem?_eq_getElem h⟩

theorem rPush_ct {by_ : Int} {b cap made : Nat} {a : Option Nat} {rows : List (Nat × Int)} {x : Int} (hlen : rows.length ≤ 100000000 := by omega) (hmd : made ≤ 100000000 := by omega) : Ct Try.prog 47 [.pointer (some ⟨b, 0, none⟩), .int .i64 x] [cl b 73 [.int .i64 by_, sl a rows.length cap, .int .i64 ((made : Nat) : Int)], arr a cap 2 99 eIt rows] (fun g : Option Nat × Nat => .int .i64 ((made : Nat) : Int)) (fun g => [cl b 73 [.int .i64 by_, sl g.1 (rows ++ [(made, x)]).length g.2, .int .i64 (((made + 1) : Nat) : Int)], arr g.1 g.2 2 99 eIt (rows ++ [(made, x)])]) := by
  refine Ct_body (n := 32) Try.func47 rfl rfl rfl fun F w0 Q hret hnorm hp => ?_
  change WC _ _ _ _ _ _ _ (_ :: _ :: F)
  have hrl : (rows ++ [(made, x)]).length = rows.length + 1 := by simp
  refine WC_sr fun K1 hK1 => ?_
  refine WL_rd (Rd_assign rfl) rfl rfl rfl ?_
  refine WL_end hK1 ?_
  refine WC_seq fun K2 hK2 => ?_
  refine WC_drawA mix (fun i => ([2, 2, 2, 2, 2, 2, 2, 2, 2, 2, 2, 1, 0, 2, 2, 0] : List Nat).getD i 0) ?_
  refine WJ_takeP 0 rfl (by kernel_rfl) (Rd_move rfl) rfl rfl rfl (hp _ _) ?_
  refine WJ_takeP 1 rfl (by kernel_rfl) (Rd_move rfl) rfl rfl rfl (hp _ _) ?_
  refine WJ_takeP 2 rfl (by kernel_rfl) (Rd_nilCheck rfl) rfl rfl rfl (hp _ _) ?_
  refine WJ_takeP 3 rfl (by kernel_rfl) (Rd_fieldAddr rfl fo73_1) rfl rfl rfl (hp _ _) ?_
  refine WJ_tk 4 (Rd_load rfl tk71) hp ?_ rfl (by kernel_rfl) rfl rfl rfl
  refine WJ_takeP 5 rfl (by kernel_rfl) (Rd_move rfl) rfl rfl rfl (hp _ _) ?_
  refine WJ_takeP 6 rfl (by kernel_rfl) (Rd_nilCheck rfl) rfl rfl rfl (hp _ _) ?_
  refine WJ_takeP 7 rfl (by kernel_rfl) (Rd_fieldAddr rfl fo73_2) rfl rfl rfl (hp _ _) ?_
  refine WJ_takeP 9 rfl (by kernel_rfl) (Rd_move rfl) rfl rfl rfl (hp _ _) ?_
  refine WJ_all (rs := [8]) (by kernel_rfl) rfl ?_
  refine WI_one ?_
  refine WI_rd rfl (Rd_load rfl tk3) rfl rfl rfl (fun h => by cases h) ?_
  refine WJ_takeP 10 rfl (by kernel_rfl) (Rd_build pls99 rfl) rfl rfl rfl (hp _ _) ?_
  refine WJ_all (rs := [11]) (by kernel_rfl) rfl ?_
  refine WI_one ?_
  refine WI_ac rfl (Ac_bs1 (xs := eIt (made, x)) rfl ud71 zr99 sz99) rfl rfl rfl rfl ?_
  rintro _ _ ⟨b16, rfl, rfl⟩
  refine ⟨(fun _ => (by repeat (first | with_reducible exact Sub.refl | with_reducible exact Sub.nil | with_reducible refine Sub.cons (by repeat (first | with_reducible exact Ext.here | with_reducible apply Ext.there)) ?_ | with_reducible refine Sub.tail ?_))), ?_⟩
  refine WJ_all (rs := [12]) (by kernel_rfl) rfl ?_
  refine WI_one ?_
  refine WI_ac rfl (Ac_append1 (f := eIt) encIt (made, x) rfl rfl ud71 ud71 el99) rfl rfl rfl rfl ?_
  rintro _ _ ⟨a17, cap17, rfl, rfl⟩
  refine ⟨(fun h => by cases h), ?_⟩
  rw [← hrl]
  refine WJ_takeP 13 rfl (by kernel_rfl) (Rd_nilCheck rfl) rfl rfl rfl (hp _ _) ?_
  refine WJ_takeP 14 rfl (by kernel_rfl) (Rd_fieldAddr rfl fo73_1) rfl rfl rfl (hp _ _) ?_
  refine WJ_all (rs := [15]) (by kernel_rfl) rfl ?_
  refine WI_one ?_
  refine WI_ac0 rfl (Ac_store1 rfl rfl sz71) rfl rfl rfl ?_
  rintro _ _ rfl
  refine ⟨(fun h => by cases h), ?_⟩
  refine WJ_done (by kernel_rfl) ?_
  refine Ps_next hK2 ?_
  refine WC_sr fun K3 hK3 => ?_
  refine WL_rd (Rd_move rfl) rfl rfl rfl ?_
  refine WL_rd (Rd_nilCheck rfl) rfl rfl rfl ?_
  refine WL_rd (Rd_fieldAddr rfl fo73_2) rfl rfl rfl ?_
  refine WL_rd (Rd_load rfl tk3) rfl rfl rfl ?_
  refine WL_rd (Rd_addN (j := 1) rfl rfl) rfl rfl rfl ?_
  refine WL_rd (Rd_nilCheck rfl) rfl rfl rfl ?_
  refine WL_rd (Rd_fieldAddr rfl fo73_2) rfl rfl rfl ?_
  refine WL_ac0 (Ac_store1 rfl rfl sz3) rfl rfl ?_
  rintro _ _ rfl
  refine WL_end hK3 ?_
  refine WC_sr fun K4 hK4 => ?_
  refine WL_rd (Rd_move rfl) rfl rfl rfl ?_
  refine WL_rd (Rd_nilCheck rfl) rfl rfl rfl ?_
  refine WL_rd (Rd_fieldAddr rfl fo73_2) rfl rfl rfl ?_
  refine WL_rd (Rd_load rfl tk3) rfl rfl rfl ?_
  refine WL_rd (Rd_subN (j := 1) rfl rfl) rfl rfl rfl ?_
  refine WL_rd (Rd_assign rfl) rfl rfl rfl ?_
  refine WL_end hK4 ?_
  refine WC_ret ?_
  exact hret.goE (a17, cap17) (Rs1 rfl rfl) (by congr 1)

theorem rLeast_ct {by_ : Int} {b cap made : Nat} {a : Option Nat} {rows : List (Nat × Int)} (hlen : rows.length ≤ 100000000 := by omega) (hmd : made ≤ 100000000 := by omega) : Ct Try.prog 63 [.pointer (some ⟨b, 0, none⟩)] [cl b 73 [.int .i64 by_, sl a rows.length cap, .int .i64 ((made : Nat) : Int)], arr a cap 2 99 eIt rows] (fun _ : Unit => .int .i64 ((leastP (ltz by_) rows rows.length))) (fun _ => [cl b 73 [.int .i64 by_, sl a rows.length cap, .int .i64 ((made : Nat) : Int)], arr a cap 2 99 eIt rows]) := by
  refine Ct_body (n := 41) Try.func63 rfl rfl rfl fun F w0 Q hret hnorm hp => ?_
  change WC _ _ _ _ _ _ _ (_ :: _ :: F)
  refine WC_sr fun K1 hK1 => ?_
  refine WL_rd (Rd_assign rfl) rfl rfl rfl ?_
  refine WL_end hK1 ?_
  refine WC_sr fun K2 hK2 => ?_
  refine WL_rd (Rd_assign rfl) rfl rfl rfl ?_
  refine WL_end hK2 ?_
  refine WC_seq fun K3 hK3 => ?_
  refine WC_sr fun K4 hK4 => ?_
  refine WL_rd (Rd_assign rfl) rfl rfl rfl ?_
  refine WL_end hK4 ?_
  refine WC_block ?_
  refine WC_loopK (σ := Nat × Int) (fun ⟨k, best⟩ => [(3, .int .i64 best), (4, .int .i64 ((k : Nat) : Int))]) (fun ⟨k, best⟩ => []) (fun ⟨k, best⟩ => k ≤ rows.length ∧ best = leastP (ltz by_) rows k) (fun ⟨k, best⟩ => rows.length - k) ⟨0, -1⟩ [0, 2, 40] (by repeat (first | exact Kep.nil | apply Kep.drop rfl | apply Kep.keep rfl)) (by (try dsimp only); repeat (first | with_reducible exact Gv.nil | (with_reducible apply Gv.cons; · (repeat (first | with_reducible exact Ext.here | with_reducible apply Ext.there))))) ?_ ?_ Sub.refl ?_
  · exact ⟨Nat.zero_le _, rfl⟩
  · (try dsimp only); exact (Wk.cons (by first | rfl | (simp only [List.length_append, List.length_cons, List.length_nil, List.length_replicate, Nat.zero_add]; rfl) | (simp; done)) (Wk.cons (by first | rfl | (simp only [List.length_append, List.length_cons, List.length_nil, List.length_replicate, Nat.zero_add]; rfl) | (simp; done)) Wk.nil))
  · rintro ⟨k, best⟩ ⟨hk, hbe⟩ K5 hK5
    simp only [List.cons_append, List.nil_append]
    refine WC_seq fun K6 hK6 => ?_
    refine WC_sr fun K7 hK7 => ?_
    refine WL_rd (Rd_move rfl) rfl rfl rfl ?_
    refine WL_rd (Rd_move rfl) rfl rfl rfl ?_
    refine WL_rd (Rd_nilCheck rfl) rfl rfl rfl ?_
    refine WL_rd (Rd_fieldAddr rfl fo73_1) rfl rfl rfl ?_
    refine WL_rd (Rd_load rfl tk71) rfl rfl rfl ?_
    refine WL_rd (Rd_len rfl rfl ud71) rfl rfl rfl ?_
    refine WL_rd (Rd_lssN rfl rfl) rfl rfl rfl ?_
    refine WL_end hK7 ?_
    refine WC_cond rfl (fun hc0 => ?_) (fun hc0 => ?_)
    · try simp only [decide_eq_true_eq, decide_eq_false_iff_not, Bool.not_eq_true', Bool.not_eq_false', Bool.not_eq_true, Bool.not_eq_false, Int.not_lt, Int.not_le, Nat.not_lt, Nat.not_le, Decidable.not_not, ne_eq] at hc0
      have hr := leastP_rng (lt := ltz by_) rows k (by omega)
      refine WC_some (a := a) (by repeat (first | with_reducible exact Has.here | with_reducible refine Has.there ?_)) (by omega) (fun gb hgb hcp => ?_)
      subst hgb
      obtain ⟨x, hx⟩ := at_r (l := rows) (i := k) (by omega)
      obtain ⟨y, hy⟩ := at_r (l := rows) (i := (leastP (ltz by_) rows k).toNat) (by omega)
      have hst := leastP_step hx hy
      refine WC_skip ?_
      refine Ps_next hK6 ?_
      refine WC_seq fun K8 hK8 => ?_
      refine WC_block ?_
      refine WC_seq fun K9 hK9 => ?_
      refine WC_drawA mix (fun i => ([2, 2, 2, 2, 2, 2, 2, 2, 2, 2, 2, 2, 2, 2, 2, 2, 2, 2, 2, 2, 2, 2, 2, 1, 2] : List Nat).getD i 0) ?_
      refine WJ_takeP 0 rfl (by kernel_rfl) (Rd_move rfl) rfl rfl rfl (hp _ _) ?_
      refine WJ_takeP 1 rfl (by kernel_rfl) (Rd_lss rfl rfl) rfl rfl rfl (hp _ _) ?_
      refine WJ_takeP 2 rfl (by kernel_rfl) (Rd_move rfl) rfl rfl rfl (hp _ _) ?_
      refine WJ_bool 16 rfl (fun hg10 => ?_) (fun hg10 => ?_)
      · try simp only [decide_eq_true_eq, decide_eq_false_iff_not, Bool.not_eq_true', Bool.not_eq_false', Bool.not_eq_true, Bool.not_eq_false, Int.not_lt, Int.not_le, Nat.not_lt, Nat.not_le, Decidable.not_not, ne_eq] at hg10
        have q0 := hg10
        refine WJ_skip 3 rfl (by kernel_rfl) rfl rfl rfl (hp _ _) ?_
        refine WJ_skip 4 rfl (by kernel_rfl) rfl rfl rfl (hp _ _) ?_
        refine WJ_skip 5 rfl (by kernel_rfl) rfl rfl rfl (hp _ _) ?_
        refine WJ_skip 6 rfl (by kernel_rfl) rfl rfl rfl (hp _ _) ?_
        refine WJ_skip 7 rfl (by kernel_rfl) rfl rfl rfl (hp _ _) ?_
        refine WJ_skip 8 rfl (by kernel_rfl) rfl rfl rfl (hp _ _) ?_
        refine WJ_skip 9 rfl (by kernel_rfl) rfl rfl rfl (hp _ _) ?_
        refine WJ_skip 10 rfl (by kernel_rfl) rfl rfl rfl (hp _ _) ?_
        refine WJ_skip 11 rfl (by kernel_rfl) rfl rfl rfl (hp _ _) ?_
        refine WJ_skip 12 rfl (by kernel_rfl) rfl rfl rfl (hp _ _) ?_
        refine WJ_skip 13 rfl (by kernel_rfl) rfl rfl rfl (hp _ _) ?_
        refine WJ_skip 14 rfl (by kernel_rfl) rfl rfl rfl (hp _ _) ?_
        refine WJ_skip 15 rfl (by kernel_rfl) rfl rfl rfl (hp _ _) ?_
        refine WJ_skip 16 rfl (by kernel_rfl) rfl rfl rfl (hp _ _) ?_
        refine WJ_skip 17 rfl (by kernel_rfl) rfl rfl rfl (hp _ _) ?_
        refine WJ_skip 18 rfl (by kernel_rfl) rfl rfl rfl (hp _ _) ?_
        refine WJ_skip 19 rfl (by kernel_rfl) rfl rfl rfl (hp _ _) ?_
        refine WJ_skip 20 rfl (by kernel_rfl) rfl rfl rfl (hp _ _) ?_
        refine WJ_skip 21 rfl (by kernel_rfl) rfl rfl rfl (hp _ _) ?_
        refine WJ_skip 22 rfl (by kernel_rfl) rfl rfl rfl (hp _ _) ?_
        refine WJ_all (rs := [23]) (by kernel_rfl) rfl ?_
        refine WI_one ?_
        refine WI_skip rfl rfl rfl rfl (fun _ => (by repeat (first | with_reducible exact Sub.refl | with_reducible exact Sub.nil | with_reducible refine Sub.cons (by repeat (first | with_reducible exact Ext.here | with_reducible apply Ext.there)) ?_ | with_reducible refine Sub.tail ?_))) ?_
        refine WJ_takeP 24 rfl (by kernel_rfl) (Rd_pickT rfl rfl) rfl rfl rfl (hp _ _) ?_
        refine WJ_done (by kernel_rfl) ?_
        refine Ps_next hK9 ?_
        refine WC_condT rfl ?_
        refine WC_region ?_
        refine WL_rd (Rd_move rfl) rfl rfl rfl ?_
        refine WL_rd (Rd_assign rfl) rfl rfl rfl ?_
        refine WL_nil ?_
        refine Ps_next hK8 ?_
        refine WC_region ?_
        refine WL_rd (Rd_move rfl) rfl rfl rfl ?_
        refine WL_rd (Rd_addN (j := 1) rfl rfl) rfl rfl rfl ?_
        refine WL_rd (Rd_assign rfl) rfl rfl rfl ?_
        refine WL_nil ?_
        refine Ps_wk (by (try simp only [List.cons_append, List.nil_append]); repeat (first | with_reducible exact Wk.nil | refine Wk.cons (by first | rfl | (simp only [List.length_append, List.length_cons, List.length_nil, List.length_replicate, Nat.zero_add]; rfl) | (simp; done)) ?_)) (by (try simp only [List.cons_append, List.nil_append]); repeat (first | with_reducible exact Sub.refl | with_reducible exact Sub.nil | with_reducible refine Sub.cons (by repeat (first | with_reducible exact Ext.here | with_reducible apply Ext.there)) ?_ | with_reducible refine Sub.tail ?_)) (hK5 ⟨k + 1, (k : Int)⟩ (⟨by (try dsimp only); omega, by (try dsimp only); rw [hst, if_pos (by first | exact .inr hc1 | exact .inl (by omega))]⟩) (by (try dsimp only); omega))
      · try simp only [decide_eq_true_eq, decide_eq_false_iff_not, Bool.not_eq_true', Bool.not_eq_false', Bool.not_eq_true, Bool.not_eq_false, Int.not_lt, Int.not_le, Nat.not_lt, Nat.not_le, Decidable.not_not, ne_eq] at hg10
        have q0 := hg10
        refine WJ_takeP 3 rfl (by kernel_rfl) (Rd_move rfl) rfl rfl rfl (hp _ _) ?_
        refine WJ_takeP 4 rfl (by kernel_rfl) (Rd_nilCheck rfl) rfl rfl rfl (hp _ _) ?_
        refine WJ_takeP 5 rfl (by kernel_rfl) (Rd_fieldAddr rfl fo73_0) rfl rfl rfl (hp _ _) ?_
        refine WJ_tk 6 (Rd_load rfl tk3) hp ?_ rfl (by kernel_rfl) rfl rfl rfl
        refine WJ_takeP 7 rfl (by kernel_rfl) (Rd_move rfl) rfl rfl rfl (hp _ _) ?_
        refine WJ_takeP 8 rfl (by kernel_rfl) (Rd_nilCheck rfl) rfl rfl rfl (hp _ _) ?_
        refine WJ_takeP 9 rfl (by kernel_rfl) (Rd_fieldAddr rfl fo73_1) rfl rfl rfl (hp _ _) ?_
        refine WJ_tk 10 (Rd_load rfl tk71) hp ?_ rfl (by kernel_rfl) rfl rfl rfl
        refine WJ_takeP 11 rfl (by kernel_rfl) (Rd_move rfl) rfl rfl rfl (hp _ _) ?_
        refine WJ_takeP 12 rfl (by kernel_rfl) (Rd_index k rfl rfl ud71 sz99 (hi := by omega)) rfl rfl rfl (hp _ _) ?_
        refine WJ_takeP 13 rfl (by kernel_rfl) (Rd_fieldAddr rfl fo99_1) rfl rfl rfl (hp _ _) ?_
        refine WJ_tk 14 (Rd_load_arr (f := eIt) (i := k) (j := 1) rfl tk3 (hl := hx)) hp ?_ rfl (by kernel_rfl) rfl rfl rfl
        refine WJ_takeP 15 rfl (by kernel_rfl) (Rd_move rfl) rfl rfl rfl (hp _ _) ?_
        refine WJ_takeP 16 rfl (by kernel_rfl) (Rd_nilCheck rfl) rfl rfl rfl (hp _ _) ?_
        refine WJ_takeP 17 rfl (by kernel_rfl) (Rd_fieldAddr rfl fo73_1) rfl rfl rfl (hp _ _) ?_
        refine WJ_tk 18 (Rd_load rfl tk71) hp ?_ rfl (by kernel_rfl) rfl rfl rfl
        refine WJ_takeP 19 rfl (by kernel_rfl) (Rd_move rfl) rfl rfl rfl (hp _ _) ?_
        refine WJ_takeP 20 rfl (by kernel_rfl) (Rd_index (leastP (ltz by_) rows k).toNat rfl rfl ud71 sz99 (hj := by omega) (hi := by omega)) rfl rfl rfl (hp _ _) ?_
        refine WJ_takeP 21 rfl (by kernel_rfl) (Rd_fieldAddr rfl fo99_1) rfl rfl rfl (hp _ _) ?_
        refine WJ_tk 22 (Rd_load_arr (f := eIt) (i := (leastP (ltz by_) rows k).toNat) (j := 1) rfl tk3 (hl := hy)) hp ?_ rfl (by kernel_rfl) rfl rfl rfl
        refine WJ_all (rs := [23]) (by kernel_rfl) rfl ?_
        refine WI_one ?_
        refine WI_ac rfl (Ac_call cf46 rfl (hs := Ahead_ct (by_ := by_) (x := x.2) (y := y.2))) rfl rfl rfl rfl ?_
        rintro _ _ ⟨⟨⟩, rfl, hA⟩
        simp only [List.cons_append, List.nil_append] at hA
        replace hA := hA.symm
        subst hA
        refine ⟨(fun _ => (by repeat (first | with_reducible exact Sub.refl | with_reducible exact Sub.nil | with_reducible refine Sub.cons (by repeat (first | with_reducible exact Ext.here | with_reducible apply Ext.there)) ?_ | with_reducible refine Sub.tail ?_))), ?_⟩
        refine WJ_takeP 24 rfl (by kernel_rfl) (Rd_pickF rfl rfl) rfl rfl rfl (hp _ _) ?_
        refine WJ_done (by kernel_rfl) ?_
        refine Ps_next hK9 ?_
        refine WC_cond rfl (fun hc1 => ?_) (fun hc1 => ?_)
        · try simp only [decide_eq_true_eq, decide_eq_false_iff_not, Bool.not_eq_true', Bool.not_eq_false', Bool.not_eq_true, Bool.not_eq_false, Int.not_lt, Int.not_le, Nat.not_lt, Nat.not_le, Decidable.not_not, ne_eq] at hc1
          refine WC_region ?_
          refine WL_rd (Rd_move rfl) rfl rfl rfl ?_
          refine WL_rd (Rd_assign rfl) rfl rfl rfl ?_
          refine WL_nil ?_
          refine Ps_next hK8 ?_
          refine WC_region ?_
          refine WL_rd (Rd_move rfl) rfl rfl rfl ?_
          refine WL_rd (Rd_addN (j := 1) rfl rfl) rfl rfl rfl ?_
          refine WL_rd (Rd_assign rfl) rfl rfl rfl ?_
          refine WL_nil ?_
          refine Ps_wk (by (try simp only [List.cons_append, List.nil_append]); repeat (first | with_reducible exact Wk.nil | refine Wk.cons (by first | rfl | (simp only [List.length_append, List.length_cons, List.length_nil, List.length_replicate, Nat.zero_add]; rfl) | (simp; done)) ?_)) (by (try simp only [List.cons_append, List.nil_append]); repeat (first | with_reducible exact Sub.refl | with_reducible exact Sub.nil | with_reducible refine Sub.cons (by repeat (first | with_reducible exact Ext.here | with_reducible apply Ext.there)) ?_ | with_reducible refine Sub.tail ?_)) (hK5 ⟨k + 1, (k : Int)⟩ (⟨by (try dsimp only); omega, by (try dsimp only); rw [hst, if_pos (by first | exact .inr hc1 | exact .inl (by omega))]⟩) (by (try dsimp only); omega))
        · try simp only [decide_eq_true_eq, decide_eq_false_iff_not, Bool.not_eq_true', Bool.not_eq_false', Bool.not_eq_true, Bool.not_eq_false, Int.not_lt, Int.not_le, Nat.not_lt, Nat.not_le, Decidable.not_not, ne_eq] at hc1
          refine WC_skip ?_
          refine Ps_next hK8 ?_
          refine WC_region ?_
          refine WL_rd (Rd_move rfl) rfl rfl rfl ?_
          refine WL_rd (Rd_addN (j := 1) rfl rfl) rfl rfl rfl ?_
          refine WL_rd (Rd_assign rfl) rfl rfl rfl ?_
          refine WL_nil ?_
          refine Ps_wk (by (try simp only [List.cons_append, List.nil_append]); repeat (first | with_reducible exact Wk.nil | refine Wk.cons (by first | rfl | (simp only [List.length_append, List.length_cons, List.length_nil, List.length_replicate, Nat.zero_add]; rfl) | (simp; done)) ?_)) (by (try simp only [List.cons_append, List.nil_append]); repeat (first | with_reducible exact Sub.refl | with_reducible exact Sub.nil | with_reducible refine Sub.cons (by repeat (first | with_reducible exact Ext.here | with_reducible apply Ext.there)) ?_ | with_reducible refine Sub.tail ?_)) (hK5 ⟨k + 1, best⟩ (⟨by (try dsimp only); omega, by (try dsimp only); rw [hst, if_neg (by rintro (q | q) <;> first | omega | (rw [q] at hc1; revert hc1; simp))]; exact hbe⟩) (by (try dsimp only); omega))
    · try simp only [decide_eq_true_eq, decide_eq_false_iff_not, Bool.not_eq_true', Bool.not_eq_false', Bool.not_eq_true, Bool.not_eq_false, Int.not_lt, Int.not_le, Nat.not_lt, Nat.not_le, Decidable.not_not, ne_eq] at hc0
      obtain rfl : k = rows.length := by omega
      subst hbe
      refine WC_exit ?_
      refine Ps_next hK3 ?_
      refine WC_sr fun K11 hK11 => ?_
      refine WL_rd (Rd_move rfl) rfl rfl rfl ?_
      refine WL_rd (Rd_assign rfl) rfl rfl rfl ?_
      refine WL_end hK11 ?_
      refine WC_ret ?_
      exact hret.go () (Rs1 rfl rfl)

theorem rTake_ct {by_ : Int} {b cap made : Nat} {a : Option Nat} {rows : List (Nat × Int)} {i : Nat} {x : Nat × Int} (hlen : rows.length ≤ 100000000 := by omega) (hmd : made ≤ 100000000 := by omega) (hx : rows[i]? = some x := by assumption) : Ct Try.prog 62 [.pointer (some ⟨b, 0, none⟩), .int .i64 ((i : Nat) : Int)] [cl b 73 [.int .i64 by_, sl a rows.length cap, .int .i64 ((made : Nat) : Int)], arr a cap 2 99 eIt rows] (fun g : Option Nat × Nat => .agg [.int .i64 ((x.1 : Nat) : Int), .int .i64 x.2].toArray) (fun g => [cl b 73 [.int .i64 by_, sl g.1 (rows.eraseIdx i).length g.2, .int .i64 ((made : Nat) : Int)], arr g.1 g.2 2 99 eIt (rows.eraseIdx i)]) := by
  refine Ct_body (n := 42) Try.func62 rfl rfl rfl fun F w0 Q hret hnorm hp => ?_
  change WC _ _ _ _ _ _ _ (_ :: _ :: F)
  have hil := (List.getElem?_eq_some_iff.1 hx).1
  refine WC_some (a := a) (by repeat (first | with_reducible exact Has.here | with_reducible refine Has.there ?_)) (by omega) (fun gb hgb hcp => ?_)
  subst hgb
  refine WC_sr fun K1 hK1 => ?_
  refine WL_ac (Ac_alloc zr99) rfl rfl rfl ?_
  rintro _ _ ⟨b4, rfl, rfl⟩
  refine WL_end hK1 ?_
  refine WC_sr fun K2 hK2 => ?_
  refine WL_rd (Rd_move rfl) rfl rfl rfl ?_
  refine WL_rd (Rd_nilCheck rfl) rfl rfl rfl ?_
  refine WL_rd (Rd_fieldAddr rfl fo73_1) rfl rfl rfl ?_
  refine WL_rd (Rd_load rfl tk71) rfl rfl rfl ?_
  refine WL_rd (Rd_move rfl) rfl rfl rfl ?_
  refine WL_rd (Rd_index i rfl rfl ud71 sz99 (hi := by omega)) rfl rfl rfl ?_
  refine WL_rd (Rd_loadg_arr (f := eIt) (i := i) rfl tk99 (hl := hx)) rfl rfl rfl ?_
  refine WL_ac (Ac_alloc zr99) rfl rfl rfl ?_
  rintro _ _ ⟨b5, rfl, rfl⟩
  refine WL_ac0 (Ac_store rfl rfl sz99 (h1 := by simp [Value.cells, Value.oneCell', eIt])) rfl rfl ?_
  rintro _ _ rfl
  refine WL_end hK2 ?_
  refine WC_sr fun K3 hK3 => ?_
  refine WL_rd (Rd_assign (v := sl none 0 0) rfl) rfl rfl rfl ?_
  refine WL_nilarr eIt 2 99 ?_
  refine WL_end hK3 ?_
  refine WC_seq fun K4 hK4 => ?_
  refine WC_sr fun K5 hK5 => ?_
  refine WL_rd (Rd_assign rfl) rfl rfl rfl ?_
  refine WL_end hK5 ?_
  refine WC_block ?_
  rw [show ([] : List (Nat × Int)) = ((rows.take 0).eraseIdx i) from by simp]
  have hz0 : ((rows.take 0).eraseIdx i).length = 0 := by simp
  refine WC_loopK (σ := Nat × (Option Nat) × Nat) (fun ⟨k, oa, oc⟩ => [(6, sl oa ((rows.take k).eraseIdx i).length oc), (7, .int .i64 ((k : Nat) : Int))]) (fun ⟨k, oa, oc⟩ => [arr oa oc 2 99 eIt ((rows.take k).eraseIdx i)]) (fun ⟨k, oa, oc⟩ => k ≤ rows.length) (fun ⟨k, oa, oc⟩ => rows.length - k) ⟨0, none, 0⟩ [0, 1, 4, 5, 37, 38, 39, 40, 41] (by repeat (first | exact Kep.nil | apply Kep.drop rfl | apply Kep.keep rfl)) (by (try dsimp only); repeat (first | with_reducible exact Gv.nil | (with_reducible apply Gv.cons; · (repeat (first | with_reducible exact Ext.here | with_reducible apply Ext.there))))) ?_ ?_ Sub.refl ?_
  · exact Nat.zero_le _
  · (try dsimp only); exact (Wk.cons (by first | rfl | (simp only [List.length_append, List.length_cons, List.length_nil, List.length_replicate, Nat.zero_add]; rfl) | (simp; done)) (Wk.cons (by first | rfl | (simp only [List.length_append, List.length_cons, List.length_nil, List.length_replicate, Nat.zero_add]; rfl) | (simp; done)) Wk.nil))
  · rintro ⟨k, oa, oc⟩ hk K6 hK6
    simp only [List.cons_append, List.nil_append]
    have hel : ((rows.take k).eraseIdx i).length ≤ k := by rw [List.length_eraseIdx]; split <;> simp <;> omega
    refine WC_seq fun K7 hK7 => ?_
    refine WC_sr fun K8 hK8 => ?_
    refine WL_rd (Rd_move rfl) rfl rfl rfl ?_
    refine WL_rd (Rd_move rfl) rfl rfl rfl ?_
    refine WL_rd (Rd_nilCheck rfl) rfl rfl rfl ?_
    refine WL_rd (Rd_fieldAddr rfl fo73_1) rfl rfl rfl ?_
    refine WL_rd (Rd_load rfl tk71) rfl rfl rfl ?_
    refine WL_rd (Rd_len rfl rfl ud71) rfl rfl rfl ?_
    refine WL_rd (Rd_lssN rfl rfl) rfl rfl rfl ?_
    refine WL_end hK8 ?_
    refine WC_cond rfl (fun hc0 => ?_) (fun hc0 => ?_)
    · try simp only [decide_eq_true_eq, decide_eq_false_iff_not, Bool.not_eq_true', Bool.not_eq_false', Bool.not_eq_true, Bool.not_eq_false, Int.not_lt, Int.not_le, Nat.not_lt, Nat.not_le, Decidable.not_not, ne_eq] at hc0
      obtain ⟨y, hy⟩ := at_r (l := rows) (i := k) (by omega)
      refine WC_skip ?_
      refine Ps_next hK7 ?_
      refine WC_seq fun K9 hK9 => ?_
      refine WC_block ?_
      refine WC_sr fun K10 hK10 => ?_
      refine WL_rd (Rd_move rfl) rfl rfl rfl ?_
      refine WL_rd (Rd_move rfl) rfl rfl rfl ?_
      refine WL_rd (Rd_neqN rfl rfl) rfl rfl rfl ?_
      refine WL_end hK10 ?_
      refine WC_cond rfl (fun hc1 => ?_) (fun hc1 => ?_)
      · try simp only [decide_eq_true_eq, decide_eq_false_iff_not, Bool.not_eq_true', Bool.not_eq_false', Bool.not_eq_true, Bool.not_eq_false, Int.not_lt, Int.not_le, Nat.not_lt, Nat.not_le, Decidable.not_not, ne_eq] at hc1
        refine WC_region ?_
        refine WL_rd (Rd_move rfl) rfl rfl rfl ?_
        refine WL_rd (Rd_move rfl) rfl rfl rfl ?_
        refine WL_rd (Rd_nilCheck rfl) rfl rfl rfl ?_
        refine WL_rd (Rd_fieldAddr rfl fo73_1) rfl rfl rfl ?_
        refine WL_rd (Rd_load rfl tk71) rfl rfl rfl ?_
        refine WL_rd (Rd_move rfl) rfl rfl rfl ?_
        refine WL_rd (Rd_index k rfl rfl ud71 sz99 (hi := by omega)) rfl rfl rfl ?_
        refine WL_rd (Rd_loadg_arr (f := eIt) (i := k) rfl tk99 (hl := hy)) rfl rfl rfl ?_
        refine WL_ac (Ac_bs1 (xs := eIt y) rfl ud71 zr99 sz99) rfl rfl rfl ?_
        rintro _ _ ⟨b35, rfl, rfl⟩
        refine WL_ac (Ac_append1 (f := eIt) encIt y rfl rfl ud71 ud71 el99) rfl rfl rfl ?_
        rintro _ _ ⟨a36, cap36, rfl, rfl⟩
        rw [show ((rows.take k).eraseIdx i).length + 1 = ((rows.take (k + 1)).eraseIdx i).length from by rw [← er_add hy hc1, List.length_append]; rfl, er_add hy hc1]
        refine WL_rd (Rd_assign rfl) rfl rfl rfl ?_
        refine WL_nil ?_
        refine Ps_next hK9 ?_
        refine WC_region ?_
        refine WL_rd (Rd_move rfl) rfl rfl rfl ?_
        refine WL_rd (Rd_addN (j := 1) rfl rfl) rfl rfl rfl ?_
        refine WL_rd (Rd_assign rfl) rfl rfl rfl ?_
        refine WL_nil ?_
        refine Ps_wk (by (try simp only [List.cons_append, List.nil_append]); repeat (first | with_reducible exact Wk.nil | refine Wk.cons (by first | rfl | (simp only [List.length_append, List.length_cons, List.length_nil, List.length_replicate, Nat.zero_add]; rfl) | (simp; done)) ?_)) (by (try simp only [List.cons_append, List.nil_append]); repeat (first | with_reducible exact Sub.refl | with_reducible exact Sub.nil | with_reducible refine Sub.cons (by repeat (first | with_reducible exact Ext.here | with_reducible apply Ext.there)) ?_ | with_reducible refine Sub.tail ?_)) (hK6 ⟨k + 1, a36, cap36⟩ (by (try dsimp only); omega) (by (try dsimp only); omega))
      · try simp only [decide_eq_true_eq, decide_eq_false_iff_not, Bool.not_eq_true', Bool.not_eq_false', Bool.not_eq_true, Bool.not_eq_false, Int.not_lt, Int.not_le, Nat.not_lt, Nat.not_le, Decidable.not_not, ne_eq] at hc1
        obtain rfl : k = i := by omega
        rw [er_skip (by omega)]
        refine WC_skip ?_
        refine Ps_next hK9 ?_
        refine WC_region ?_
        refine WL_rd (Rd_move rfl) rfl rfl rfl ?_
        refine WL_rd (Rd_addN (j := 1) rfl rfl) rfl rfl rfl ?_
        refine WL_rd (Rd_assign rfl) rfl rfl rfl ?_
        refine WL_nil ?_
        refine Ps_wk (by (try simp only [List.cons_append, List.nil_append]); repeat (first | with_reducible exact Wk.nil | refine Wk.cons (by first | rfl | (simp only [List.length_append, List.length_cons, List.length_nil, List.length_replicate, Nat.zero_add]; rfl) | (simp; done)) ?_)) (by (try simp only [List.cons_append, List.nil_append]); repeat (first | with_reducible exact Sub.refl | with_reducible exact Sub.nil | with_reducible refine Sub.cons (by repeat (first | with_reducible exact Ext.here | with_reducible apply Ext.there)) ?_ | with_reducible refine Sub.tail ?_)) (hK6 ⟨k + 1, oa, oc⟩ (by (try dsimp only); omega) (by (try dsimp only); omega))
    · try simp only [decide_eq_true_eq, decide_eq_false_iff_not, Bool.not_eq_true', Bool.not_eq_false', Bool.not_eq_true, Bool.not_eq_false, Int.not_lt, Int.not_le, Nat.not_lt, Nat.not_le, Decidable.not_not, ne_eq] at hc0
      obtain rfl : k = rows.length := by omega
      rw [List.take_length]
      refine WC_exit ?_
      refine Ps_next hK4 ?_
      refine WC_sr fun K11 hK11 => ?_
      refine WL_rd (Rd_move rfl) rfl rfl rfl ?_
      refine WL_rd (Rd_move rfl) rfl rfl rfl ?_
      refine WL_rd (Rd_nilCheck rfl) rfl rfl rfl ?_
      refine WL_rd (Rd_fieldAddr rfl fo73_1) rfl rfl rfl ?_
      refine WL_ac0 (Ac_store1 rfl rfl sz71) rfl rfl ?_
      rintro _ _ rfl
      refine WL_end hK11 ?_
      refine WC_sr fun K12 hK12 => ?_
      refine WL_rd (Rd_loadg rfl tk99) rfl rfl rfl ?_
      refine WL_ac0 (Ac_store rfl rfl sz99 (h1 := by simp [Value.cells, Value.oneCell', eIt])) rfl rfl ?_
      rintro _ _ rfl
      refine WL_end hK12 ?_
      refine WC_ret ?_
      exact hret.go (oa, oc) (Rs1c rfl rfl tk99)

theorem rAll_ct {by_ : Int} {b cap made : Nat} {a : Option Nat} {l : List Int} (hlen : l.length ≤ 100000000 := by omega) (hmd : made ≤ 100000000 := by omega) : Ct Try.prog 48 [.pointer (some ⟨b, 0, none⟩)] [cl b 73 [.int .i64 by_, sl a (rowsI l).length cap, .int .i64 ((made : Nat) : Int)], arr a cap 2 99 eIt (rowsI l)] (fun g : Option Nat × Nat => sl g.1 (srt (ltz by_) (rowsI l)).length g.2) (fun g => [cl b 73 [.int .i64 by_, sl a (rowsI l).length cap, .int .i64 ((made : Nat) : Int)], arr a cap 2 99 eIt (rowsI l), arr g.1 g.2 2 99 eIt (srt (ltz by_) (rowsI l))]) := by
  refine Ct_body (n := 28) Try.func48 rfl rfl rfl fun F w0 Q hret hnorm hp => ?_
  change WC _ _ _ _ _ _ _ (_ :: _ :: F)
  have hrl := rowsI_len l
  refine WC_imp (fun w h => sat_nil (e := 2) (T := 99) (f := eIt) h) ?_
  refine WC_fact (fun w h => arr_facts (a := a) (cap := cap) (e := 2) (T := 99) (f := eIt) (l := (rowsI l)) (by repeat (first | with_reducible exact Has.here | with_reducible refine Has.there ?_)) h) (fun hRSf => ?_)
  have hRS : Sv [arr a cap 2 99 eIt (rowsI l)] (sl a (rowsI l).length cap) 2 eIt (rowsI l) (a.map fun g => ⟨g, 0, none⟩) cap := Sv_own' encIt hRSf.1 hRSf.2
  refine WC_sr fun K1 hK1 => ?_
  refine WL_rd (Rd_assign (v := sl none 0 0) rfl) rfl rfl rfl ?_
  refine WL_end hK1 ?_
  refine WC_sr fun K2 hK2 => ?_
  refine WL_ac (Ac_alloc zr73) rfl rfl rfl ?_
  rintro _ _ ⟨c, rfl, rfl⟩
  refine WL_end hK2 ?_
  refine WC_sr fun K3 hK3 => ?_
  refine WL_rd (Rd_move rfl) rfl rfl rfl ?_
  refine WL_rd (Rd_nilCheck rfl) rfl rfl rfl ?_
  refine WL_rd (Rd_fieldAddr rfl fo73_0) rfl rfl rfl ?_
  refine WL_rd (Rd_load rfl tk3) rfl rfl rfl ?_
  refine WL_rd (Rd_fieldAddr rfl fo73_0) rfl rfl rfl ?_
  refine WL_ac0 (Ac_store1 rfl rfl sz3) rfl rfl ?_
  rintro _ _ rfl
  refine WL_end hK3 ?_
  refine WC_seq fun K4 hK4 => ?_
  refine WC_drawA mix (fun i => ([2, 2, 2, 2, 2, 2, 0, 2, 0] : List Nat).getD i 0) ?_
  refine WJ_takeP 0 rfl (by kernel_rfl) (Rd_fieldAddr rfl fo73_1) rfl rfl rfl (hp _ _) ?_
  refine WJ_tk 1 (Rd_load rfl tk71) hp ?_ rfl (by kernel_rfl) rfl rfl rfl
  refine WJ_takeP 2 rfl (by kernel_rfl) (Rd_move rfl) rfl rfl rfl (hp _ _) ?_
  refine WJ_takeP 3 rfl (by kernel_rfl) (Rd_nilCheck rfl) rfl rfl rfl (hp _ _) ?_
  refine WJ_takeP 4 rfl (by kernel_rfl) (Rd_fieldAddr rfl fo73_1) rfl rfl rfl (hp _ _) ?_
  refine WJ_tk 5 (Rd_load rfl tk71) hp ?_ rfl (by kernel_rfl) rfl rfl rfl
  refine WJ_all (rs := [6]) (by kernel_rfl) rfl ?_
  refine WI_one ?_
  refine WI_ac rfl (Ac_appendS (f := eIt) (a := none) (cap := 0) (l := []) encIt rfl rfl ud71 ud71 el99 (hS := hRS) (hb := by simp only [List.length_nil]; omega)) rfl rfl rfl rfl ?_
  rintro _ _ ⟨a16, cap16, rfl, rfl⟩
  refine ⟨(fun h => by cases h), ?_⟩
  rw [show ([] : List (Nat × Int)) ++ rowsI l = rowsI l from rfl]
  simp only [List.length_nil, Nat.zero_add]
  refine WJ_takeP 7 rfl (by kernel_rfl) (Rd_fieldAddr rfl fo73_1) rfl rfl rfl (hp _ _) ?_
  refine WJ_all (rs := [8]) (by kernel_rfl) rfl ?_
  refine WI_one ?_
  refine WI_ac0 rfl (Ac_store1 rfl rfl sz71) rfl rfl rfl ?_
  rintro _ _ rfl
  refine ⟨(fun h => by cases h), ?_⟩
  refine WJ_done (by kernel_rfl) ?_
  refine Ps_next hK4 ?_
  refine WC_sr fun K5 hK5 => ?_
  refine WL_rd (Rd_assign (v := sl none 0 0) rfl) rfl rfl rfl ?_
  refine WL_nilarr eIt 2 99 ?_
  refine WL_end hK5 ?_
  refine WC_seq fun K6 hK6 => ?_
  refine WC_block ?_
  rw [show cl c 73 [.int .i64 by_, sl a16 (rowsI l).length cap16, .int .i64 0] = cl c 73 [.int .i64 by_, sl a16 (rowsI l).length cap16, .int .i64 ((0 : Nat) : Int)] from rfl]
  refine WC_loopK (σ := (List (Nat × Int)) × (List (Nat × Int)) × (Option Nat) × Nat × (Option Nat) × Nat) (fun ⟨rows, out, ca, cc, oa, oc⟩ => [(4, sl oa out.length oc)]) (fun ⟨rows, out, ca, cc, oa, oc⟩ => [cl c 73 [.int .i64 by_, sl ca rows.length cc, .int .i64 ((0 : Nat) : Int)], arr ca cc 2 99 eIt rows, arr oa oc 2 99 eIt out]) (fun ⟨rows, out, ca, cc, oa, oc⟩ => Outs (ltz by_) l out rows ∧ rows.Pairwise fun x y => x.1 < y.1) (fun ⟨rows, out, ca, cc, oa, oc⟩ => rows.length) ⟨rowsI l, [], a16, cap16, none, 0⟩ [2, 3, 27] (by repeat (first | exact Kep.nil | apply Kep.drop rfl | apply Kep.keep rfl)) (by (try dsimp only); repeat (first | with_reducible exact Gv.nil | (with_reducible apply Gv.cons; · (repeat (first | with_reducible exact Ext.here | with_reducible apply Ext.there))))) ?_ ?_ Sub.refl ?_
  · exact ⟨Outs_0 (List.Perm.refl _), rowsI_up l⟩
  · (try dsimp only); exact (Wk.cons (by first | rfl | (simp only [List.length_append, List.length_cons, List.length_nil, List.length_replicate, Nat.zero_add]; rfl) | (simp; done)) Wk.nil)
  · rintro ⟨rows, out, ca, cc, oa, oc⟩ ⟨hO, hU⟩ K7 hK7
    simp only [List.cons_append, List.nil_append]
    have hol := Outs_len hO
    refine WC_seq fun K8 hK8 => ?_
    refine WC_sr fun K9 hK9 => ?_
    refine WL_rd (Rd_fieldAddr rfl fo73_1) rfl rfl rfl ?_
    refine WL_rd (Rd_load rfl tk71) rfl rfl rfl ?_
    refine WL_rd (Rd_len rfl rfl ud71) rfl rfl rfl ?_
    refine WL_rd (Rd_gtrN (j := 0) rfl rfl) rfl rfl rfl ?_
    refine WL_end hK9 ?_
    refine WC_cond rfl (fun hc0 => ?_) (fun hc0 => ?_)
    · try simp only [decide_eq_true_eq, decide_eq_false_iff_not, Bool.not_eq_true', Bool.not_eq_false', Bool.not_eq_true, Bool.not_eq_false, Int.not_lt, Int.not_le, Nat.not_lt, Nat.not_le, Decidable.not_not, ne_eq] at hc0
      have hr := leastP_rng (lt := ltz by_) rows rows.length (Nat.le_refl _)
      obtain ⟨x, hx⟩ := at_r (l := rows) (i := (leastP (ltz by_) rows rows.length).toNat) (by omega)
      have hti : leastP (ltz by_) rows rows.length = (((leastP (ltz by_) rows rows.length).toNat : Nat) : Int) := by omega
      refine WC_skip ?_
      refine Ps_next hK8 ?_
      refine WC_block ?_
      refine WC_region ?_
      refine WL_rd (Rd_move rfl) rfl rfl rfl ?_
      refine WL_ac (Ac_call cf63 rfl (hs := rLeast_ct (by_ := by_) (rows := rows) (made := 0))) rfl rfl rfl ?_
      rintro _ _ ⟨⟨⟩, rfl, hA⟩
      simp only [List.cons_append, List.nil_append] at hA
      replace hA := hA.symm
      subst hA
      rw [hti]
      refine WL_ac (Ac_call cf62 rfl (hs := rTake_ct (by_ := by_) (rows := rows) (made := 0) (i := (leastP (ltz by_) rows rows.length).toNat) (x := x) (hx := hx))) rfl rfl rfl ?_
      rintro _ _ ⟨⟨a24, cap24⟩, rfl, hA⟩
      simp only [List.cons_append, List.nil_append] at hA
      replace hA := hA.symm
      subst hA
      refine WL_ac (Ac_bs1 (xs := eIt x) rfl ud71 zr99 sz99) rfl rfl rfl ?_
      rintro _ _ ⟨b25, rfl, rfl⟩
      refine WL_ac (Ac_append1 (f := eIt) encIt x rfl rfl ud71 ud71 el99) rfl rfl rfl ?_
      rintro _ _ ⟨a26, cap26, rfl, rfl⟩
      refine WL_rd (Rd_assign rfl) rfl rfl rfl ?_
      refine WL_nil ?_
      refine Ps_wk (by (try simp only [List.cons_append, List.nil_append]); repeat (first | with_reducible exact Wk.nil | refine Wk.cons (by first | rfl | (simp only [List.length_append, List.length_cons, List.length_nil, List.length_replicate, Nat.zero_add]; rfl) | (simp; done)) ?_)) (by (try simp only [List.cons_append, List.nil_append]); repeat (first | with_reducible exact Sub.refl | with_reducible exact Sub.nil | with_reducible refine Sub.cons (by repeat (first | with_reducible exact Ext.here | with_reducible apply Ext.there)) ?_ | with_reducible refine Sub.tail ?_)) (hK7 ⟨rows.eraseIdx (leastP (ltz by_) rows rows.length).toNat, out ++ [x], a24, cap24, a26, cap26⟩ (⟨Outs_list (ltz_od by_) hO hU (by omega) hx, up_erase _ hU⟩) (by (try dsimp only); rw [List.length_eraseIdx]; split <;> omega))
    · try simp only [decide_eq_true_eq, decide_eq_false_iff_not, Bool.not_eq_true', Bool.not_eq_false', Bool.not_eq_true, Bool.not_eq_false, Int.not_lt, Int.not_le, Nat.not_lt, Nat.not_le, Decidable.not_not, ne_eq] at hc0
      obtain rfl : rows = [] := List.eq_nil_of_length_eq_zero (by omega)
      obtain rfl : out = srt (ltz by_) (rowsI l) := srt_uniq (ltz_od by_) (by have := hO.1; rwa [List.append_nil] at this) hO.2.1
      refine WC_exit ?_
      refine Ps_next hK6 ?_
      refine WC_sr fun K10 hK10 => ?_
      refine WL_rd (Rd_move rfl) rfl rfl rfl ?_
      refine WL_rd (Rd_assign rfl) rfl rfl rfl ?_
      refine WL_end hK10 ?_
      refine WC_ret ?_
      exact hret.go (oa, oc) (Rs1 rfl rfl)
end Go.Proofs.Ytcookmkklcbbnaa
