/-
  Contracts of functions that the claim reaches, or the logic and the plain laws that they rest on, or the row over them. (Conditions: none beyond the statement.)
-/
import Derived.Test.YthkchjcodibaeaaZqRH
import Derived.Test.YthkchjcodibaeaaSlExt
set_option linter.all false
namespace Go.Proofs.Ythkchjcodibaeaa
open Go.RowKit Go.SL Go.ShM
set_option maxHeartbeats 1000000
set_option maxRecDepth 20000
set_option linter.all false
theorem cf39 : cfn Try.prog 39 = true := by kernel_rfl
theorem cf78 : cfn Try.prog 78 = true := by kernel_rfl
theorem cf133 : cfn Try.prog 133 = true := by kernel_rfl
theorem el4 : el Try.prog 4 = some (1, 1) := by kernel_rfl
theorem ud46 : Try.prog.underlying 46 = some (.slice 4) := by kernel_rfl
theorem cmpE : ∀ (args : Array Value) (w : World), (callFunc 169 args).run Try.prog w = ((Extern.BytealgCompare.compare args).run Try.prog w).andThen fun v w' => .ok (.value v) w' := fun args w => run_callFunc_extern Try.func169 (by kernel_rfl) (by kernel_rfl) (by kernel_rfl) (e := Extern.BytealgCompare.compare) (by kernel_rfl) args w

theorem cmpB_ct {X : Asn} {v v' : Value} {l l' : List B8} {ao ao' : Option Addr} {cap cap' : Nat} (hS : Sv [X] v 1 (eU .u8 (w := 8)) l ao cap := by assumption) (hS' : Sv [X] v' 1 (eU .u8 (w := 8)) l' ao' cap' := by assumption) : Ct Try.prog 133 [v, v'] [X] (fun _ : Unit => .int .i64 (Extern.BytealgCompare.cmp (ba l) (ba l'))) (fun _ => [X]) := by
  refine Ct_body (n := 8) Try.func133 rfl rfl rfl fun F w0 Q hret hnorm hp => ?_
  change WC _ _ _ _ _ _ _ (_ :: F)
  refine WC_sr fun K1 hK1 => ?_
  refine WL_rd (Rd_assign rfl) rfl rfl rfl ?_
  refine WL_end hK1 ?_
  refine WC_sr fun K2 hK2 => ?_
  refine WL_rd (Rd_move rfl) rfl rfl rfl ?_
  refine WL_rd (Rd_move rfl) rfl rfl rfl ?_
  refine WL_ac (Ac_cmpB cmpE rfl) rfl rfl rfl ?_
  rintro _ _ ⟨rfl, rfl⟩
  refine WL_rd (Rd_assign rfl) rfl rfl rfl ?_
  refine WL_end hK2 ?_
  refine WC_ret ?_
  exact hret.go () (Rs1 rfl rfl)

theorem less_ct {X : Asn} {v v' : Value} {l l' : List B8} {ao ao' : Option Addr} {cap cap' : Nat} (hS : Sv [X] v 1 (eU .u8 (w := 8)) l ao cap := by assumption) (hS' : Sv [X] v' 1 (eU .u8 (w := 8)) l' ao' cap' := by assumption) (he : l.length = l'.length) : Ct Try.prog 78 [v, v'] [X] (fun _ : Unit => .bool (decide (diffL l l' < 0))) (fun _ => [X]) := by
  refine Ct_body (n := 9) Try.func78 rfl rfl rfl fun F w0 Q hret hnorm hp => ?_
  change WC _ _ _ _ _ _ _ (_ :: F)
  refine WC_sr fun K1 hK1 => ?_
  refine WL_rd (Rd_assign rfl) rfl rfl rfl ?_
  refine WL_end hK1 ?_
  refine WC_sr fun K2 hK2 => ?_
  refine WL_rd (Rd_move rfl) rfl rfl rfl ?_
  refine WL_rd (Rd_move rfl) rfl rfl rfl ?_
  refine WL_ac (Ac_call cf133 rfl (hs := cmpB_ct (hS := hS) (hS' := hS'))) rfl rfl rfl ?_
  rintro _ _ ⟨⟨⟩, rfl, hA⟩
  simp only [List.cons_append, List.nil_append] at hA
  replace hA := hA.symm
  subst hA
  refine WL_rd (Rd_lss rfl rfl) rfl rfl rfl ?_
  refine WL_rd (Rd_assign rfl) rfl rfl rfl ?_
  refine WL_end hK2 ?_
  refine WC_ret ?_
  exact hret.goE () (Rs1 rfl rfl) (by rw [decide_eq_decide.2 (cmp_lt he)])

theorem encBo : Enc eBool 1 := ⟨fun _ => rfl, fun x v hv => by simp [eBool] at hv; subst hv; rfl⟩
/-- what has been seen -/
def snL (l : List Nat) (i : Nat) : List Bool := (List.range 40).map fun j => decide (j ∈ l.take i)
theorem snL_0 (l : List Nat) : snL l 0 = List.replicate 40 false := by
  unfold snL
  apply List.ext_getElem
  · simp
  · intro j h1 h2
    rw [List.getElem_map, List.getElem_replicate]; simp
theorem snL_len (l : List Nat) (i : Nat) : (snL l i).length = 40 := by simp [snL]
theorem snL_at {l : List Nat} {i v : Nat} (hd : l.Nodup) (hv : l[i]? = some v) (h : v < 40) : (snL l i)[v]? = some false := by
  obtain ⟨h1, e1⟩ := List.getElem?_eq_some_iff.1 hv
  unfold snL
  rw [List.getElem?_map, List.getElem?_range h, Option.map_some]
  congr 1
  rw [decide_eq_false_iff_not]
  intro hm
  obtain ⟨j, hj, ej⟩ := List.getElem_of_mem hm
  rw [List.getElem_take] at ej
  rw [List.length_take] at hj
  have := (List.getElem_inj hd).1 (ej.trans e1.symm)
  omega
theorem snL_set {l : List Nat} {i v : Nat} (hv : l[i]? = some v) (h : v < 40) : (snL l i).set v true = snL l (i + 1) := by
  obtain ⟨h1, e1⟩ := List.getElem?_eq_some_iff.1 hv
  apply List.ext_getElem?
  intro j
  rw [List.getElem?_set, snL_len]
  unfold snL
  rw [List.take_succ_eq_append_getElem h1, e1]
  by_cases hj : j < 40
  · rw [List.getElem?_map, List.getElem?_map, List.getElem?_range hj]
    simp only [Option.map_some, List.mem_append, List.mem_singleton]
    by_cases hvj : v = j
    · subst hvj; simp [h]
    · rw [if_neg hvj]
      congr 1
      have : ¬ j = v := fun e => hvj e.symm
      simp [this]
  · rw [if_neg (by omega)]
    rw [List.getElem?_eq_none (by simp; omega), List.getElem?_eq_none (by simp; omega)]
theorem ord_step {d : Nat → Dg} {n i u v : Nat} (hu : (ordL d n)[i]? = some u) (hv : (ordL d n)[i + 1]? = some v) : ltR d u v := by
  obtain ⟨h1, e1⟩ := List.getElem?_eq_some_iff.1 hu
  obtain ⟨h2, e2⟩ := List.getElem?_eq_some_iff.1 hv
  have := List.pairwise_iff_getElem.1 (ordL_sorted d n) i (i + 1) h1 h2 (by omega)
  rwa [e1, e2] at this
theorem ord_nl {d : Nat → Dg} {u v : Nat} (h : ltR d u v) : ¬ diffL (d v).1 (d u).1 < 0 := by
  rw [(diffL_V (d v).1 (d u).1 (by rw [Dg_len, Dg_len])).1]
  unfold ltR at h; omega
theorem ord_eq {d : Nat → Dg} {u v : Nat} (h : ltR d u v) (he : (d u).1 = (d v).1) : u < v := by
  unfold ltR at h; rw [he] at h; omega

theorem Whole_ct {x : List B8} {n : Nat} {f : Int} (hx : x.length = 16 := by first | with_reducible assumption | omega) (h1 : 1 ≤ n := by omega) (h2 : n ≤ 32 := by omega) : Ct Try.prog 23 [aU .u8 x, .int .i64 ((n : Nat) : Int), .int .i64 f] [] (fun _ : Unit => .bool true) (fun _ => []) := by
  refine Ct_body (n := 170) Try.func23 rfl rfl rfl fun F w0 Q hret hnorm hp => ?_
  change WC _ _ _ _ _ _ _ (F)
  have hol := ordL_len (ringD x) n
  have hpl := pickN_lt (x := f) h1
  have hnd := ordL_nodup (ringD x) n
  refine WC_sr fun K1 hK1 => ?_
  refine WL_ac (Ac_boxW (k := .u8) rfl) rfl rfl rfl ?_
  rintro _ _ ⟨b3, rfl, rfl⟩
  refine WL_ac (Ac_box rfl rfl) rfl rfl rfl ?_
  rintro _ _ ⟨b4, rfl, rfl⟩
  refine WL_ac (Ac_alloc zr4) rfl rfl rfl ?_
  rintro _ _ ⟨b6, rfl, rfl⟩
  refine WL_end hK1 ?_
  refine WC_seq fun K2 hK2 => ?_
  refine WC_sr fun K3 hK3 => ?_
  refine WL_ac (Ac_call cf70 rfl (hs := rgAwake_ct)) rfl rfl rfl ?_
  rintro _ _ ⟨⟨⟩, rfl, hA⟩
  simp only [List.cons_append, List.nil_append] at hA
  replace hA := hA.symm
  subst hA
  refine WL_rd (Rd_not rfl) rfl rfl rfl ?_
  refine WL_end hK3 ?_
  refine WC_condF rfl ?_
  refine WC_skip ?_
  refine Ps_next hK2 ?_
  refine WC_sr fun K4 hK4 => ?_
  refine WL_rd (Rd_loadW rfl tk120) rfl rfl rfl ?_
  refine WL_rd (Rd_load rfl tk3) rfl rfl rfl ?_
  refine WL_ac (Ac_call cf71 rfl (hs := order_ct (x := x) (n := n))) rfl rfl rfl ?_
  rintro _ _ ⟨og, rfl, hA⟩
  simp only [List.cons_append, List.nil_append] at hA
  replace hA := hA.symm
  subst hA
  refine WL_rd (Rd_move rfl) rfl rfl rfl ?_
  refine WL_rd (Rd_ext0 rfl) rfl rfl rfl ?_
  refine WL_rd (Rd_ext1 rfl) rfl rfl rfl ?_
  refine WL_ac (Ac_alloc zr101) rfl rfl rfl ?_
  rintro _ _ ⟨b7, rfl, rfl⟩
  refine WL_ac0 (Ac_store1 rfl rfl sz101) rfl rfl ?_
  rintro _ _ rfl
  refine WL_rd (Rd_assign rfl) rfl rfl rfl ?_
  refine WL_end hK4 ?_
  refine WC_seq fun K5 hK5 => ?_
  refine WC_sr fun K6 hK6 => ?_
  refine WL_rd (Rd_move rfl) rfl rfl rfl ?_
  refine WL_rd (Rd_neqN (i := 0) (j := 0) rfl rfl) rfl rfl rfl ?_
  refine WL_end hK6 ?_
  refine WC_condF rfl ?_
  refine WC_skip ?_
  refine Ps_next hK5 ?_
  refine WC_sr fun K7 hK7 => ?_
  refine WL_ac (Ac_make (f := eBool) (l := 40) (c := 40) encBo false rfl rfl ud46 el4 zr4) rfl rfl rfl ?_
  rintro _ _ ⟨b45, rfl, rfl⟩
  refine WL_rd (Rd_assign rfl) rfl rfl rfl ?_
  refine WL_end hK7 ?_
  refine WC_seq fun K8 hK8 => ?_
  refine WC_sr fun K9 hK9 => ?_
  refine WL_rd (Rd_assign rfl) rfl rfl rfl ?_
  refine WL_end hK9 ?_
  refine WC_block ?_
  rw [← snL_0 (ordL (ringD x) n)]
  refine WC_loopK (σ := Nat) (fun i' => [(10, .int .i64 ((i' : Nat) : Int))]) (fun i' => [arr (some b45) 40 1 4 eBool (snL (ordL (ringD x) n) i')]) (fun i' => i' ≤ n) (fun i' => n - i') (0) [2, 3, 4, 6, 7, 9, 15, 16, 17, 18, 19, 134, 135, 136, 137, 138, 139, 140, 141, 142, 143, 144, 145, 146, 147, 148, 149, 150, 151, 152, 153, 154, 155, 156, 157, 158, 159, 160, 161, 162, 163, 164, 165, 166, 167, 168, 169] (by repeat (first | exact Kep.nil | apply Kep.drop rfl | apply Kep.keep rfl)) (by (try dsimp only); repeat (first | with_reducible exact Gv.nil | (with_reducible apply Gv.cons; · (repeat (first | with_reducible exact Ext.here | with_reducible apply Ext.there))))) ?_ ?_ Sub.refl ?_
  · exact Nat.zero_le _
  · (try dsimp only); exact (Wk.cons (by first | rfl | (simp only [List.length_append, List.length_cons, List.length_nil, List.length_replicate, Nat.zero_add]; rfl) | (simp; done)) Wk.nil)
  · rintro i' hi K10 hK10
    simp only [List.cons_append, List.nil_append]
    refine WC_seq fun K11 hK11 => ?_
    refine WC_sr fun K12 hK12 => ?_
    refine WL_rd (Rd_move rfl) rfl rfl rfl ?_
    refine WL_rd (Rd_load rfl tk101) rfl rfl rfl ?_
    refine WL_rd (Rd_len rfl rfl ud101) rfl rfl rfl ?_
    refine WL_rd (Rd_lssN rfl rfl) rfl rfl rfl ?_
    refine WL_end hK12 ?_
    refine WC_cond rfl (fun hc2 => ?_) (fun hc2 => ?_)
    · try simp only [decide_eq_true_eq, decide_eq_false_iff_not, Bool.not_eq_true', Bool.not_eq_false', Bool.not_eq_true, Bool.not_eq_false, Int.not_lt, Int.not_le, Nat.not_lt, Nat.not_le, Decidable.not_not, ne_eq] at hc2
      have hv : (ordL (ringD x) n)[i']? = some ((ordL (ringD x) n).getD i' 0) := at_N (by omega)
      have hvn : ((ordL (ringD x) n).getD i' 0) < n := ordL_mem.1 (List.mem_of_getElem? hv)
      have hsn : (snL (ordL (ringD x) n) i')[((ordL (ringD x) n).getD i' 0)]? = some false := snL_at hnd hv (by omega)
      have hsl := snL_len (ordL (ringD x) n) i'
      refine WC_skip ?_
      refine Ps_next hK11 ?_
      refine WC_seq fun K13 hK13 => ?_
      refine WC_block ?_
      refine WC_seq fun K14 hK14 => ?_
      refine WC_seq fun K15 hK15 => ?_
      refine WC_drawA mix (fun i => ([2, 2, 2, 2, 2, 2, 2, 2, 2, 2, 2, 2, 2, 2, 2, 2, 2, 2, 2, 2, 2, 2] : List Nat).getD i 0) ?_
      refine WJ_tk 0 (Rd_load rfl tk101) hp ?_ rfl (by kernel_rfl) rfl rfl rfl
      refine WJ_takeP 1 rfl (by kernel_rfl) (Rd_move rfl) rfl rfl rfl (hp _ _) ?_
      refine WJ_takeP 2 rfl (by kernel_rfl) (Rd_index i' rfl rfl ud101 sz3 (hi := by omega)) rfl rfl rfl (hp _ _) ?_
      refine WJ_tk 3 (Rd_load_arr (i := i') (j := 0) rfl tk3 (hl := at_N (by omega))) hp ?_ rfl (by kernel_rfl) rfl rfl rfl
      refine WJ_takeP 4 rfl (by kernel_rfl) (Rd_isF (Rd_lssN (j := 0) rfl rfl)) rfl rfl rfl (hp _ _) ?_
      refine WJ_takeP 5 rfl (by kernel_rfl) (Rd_move rfl) rfl rfl rfl (hp _ _) ?_
      refine WJ_tk 6 (Rd_load rfl tk101) hp ?_ rfl (by kernel_rfl) rfl rfl rfl
      refine WJ_takeP 7 rfl (by kernel_rfl) (Rd_move rfl) rfl rfl rfl (hp _ _) ?_
      refine WJ_takeP 8 rfl (by kernel_rfl) (Rd_index i' rfl rfl ud101 sz3 (hi := by omega)) rfl rfl rfl (hp _ _) ?_
      refine WJ_tk 9 (Rd_load_arr (i := i') (j := 0) rfl tk3 (hl := at_N (by omega))) hp ?_ rfl (by kernel_rfl) rfl rfl rfl
      refine WJ_tk 10 (Rd_load rfl tk3) hp ?_ rfl (by kernel_rfl) rfl rfl rfl
      refine WJ_takeP 11 rfl (by kernel_rfl) (Rd_isF (Rd_geqN rfl rfl)) rfl rfl rfl (hp _ _) ?_
      refine WJ_takeP 12 rfl (by kernel_rfl) (Rd_pickF rfl rfl) rfl rfl rfl (hp _ _) ?_
      refine WJ_takeP 13 rfl (by kernel_rfl) (Rd_move rfl) rfl rfl rfl (hp _ _) ?_
      refine WJ_takeP 14 rfl (by kernel_rfl) (Rd_move rfl) rfl rfl rfl (hp _ _) ?_
      refine WJ_tk 15 (Rd_load rfl tk101) hp ?_ rfl (by kernel_rfl) rfl rfl rfl
      refine WJ_takeP 16 rfl (by kernel_rfl) (Rd_move rfl) rfl rfl rfl (hp _ _) ?_
      refine WJ_takeP 17 rfl (by kernel_rfl) (Rd_index i' rfl rfl ud101 sz3 (hi := by omega)) rfl rfl rfl (hp _ _) ?_
      refine WJ_tk 18 (Rd_load_arr (i := i') (j := 0) rfl tk3 (hl := at_N (by omega))) hp ?_ rfl (by kernel_rfl) rfl rfl rfl
      refine WJ_takeP 19 rfl (by kernel_rfl) (Rd_index ((ordL (ringD x) n).getD i' 0) rfl rfl ud46 sz4 (hi := by omega)) rfl rfl rfl (hp _ _) ?_
      refine WJ_tk 20 (Rd_load_arr (i := ((ordL (ringD x) n).getD i' 0)) (j := 0) rfl tk4 (hl := hsn)) hp ?_ rfl (by kernel_rfl) rfl rfl rfl
      refine WJ_takeP 21 rfl (by kernel_rfl) (Rd_pickF rfl rfl) rfl rfl rfl (hp _ _) ?_
      refine WJ_done (by kernel_rfl) ?_
      refine Ps_next hK15 ?_
      refine WC_condF rfl ?_
      refine WC_skip ?_
      refine Ps_next hK14 ?_
      refine WC_sr fun K16 hK16 => ?_
      refine WL_rd (Rd_move rfl) rfl rfl rfl ?_
      refine WL_rd (Rd_load rfl tk101) rfl rfl rfl ?_
      refine WL_rd (Rd_move rfl) rfl rfl rfl ?_
      refine WL_rd (Rd_index i' rfl rfl ud101 sz3 (hi := by omega)) rfl rfl rfl ?_
      refine WL_rd (Rd_load_arr (i := i') (j := 0) rfl tk3 (hl := at_N (by omega))) rfl rfl rfl ?_
      refine WL_rd (Rd_index ((ordL (ringD x) n).getD i' 0) rfl rfl ud46 sz4 (hi := by omega)) rfl rfl rfl ?_
      refine WL_ac0 (Ac_store_arr true rfl rfl sz4 (j := 0) (i := ((ordL (ringD x) n).getD i' 0)) (hl := hsn)) rfl rfl ?_
      rintro _ _ rfl
      rw [snL_set hv (by omega)]
      refine WL_end hK16 ?_
      refine WC_seq fun K17 hK17 => ?_
      refine WC_drawA mix (fun i => ([2, 2, 2, 2, 2, 2, 1, 2, 2, 2, 2, 2] : List Nat).getD i 0) ?_
      refine WJ_tk 0 (Rd_loadW rfl tk120) hp ?_ rfl (by kernel_rfl) rfl rfl rfl
      refine WJ_tk 1 (Rd_load rfl tk3) hp ?_ rfl (by kernel_rfl) rfl rfl rfl
      refine WJ_tk 2 (Rd_load rfl tk101) hp ?_ rfl (by kernel_rfl) rfl rfl rfl
      refine WJ_takeP 3 rfl (by kernel_rfl) (Rd_move rfl) rfl rfl rfl (hp _ _) ?_
      refine WJ_takeP 4 rfl (by kernel_rfl) (Rd_index i' rfl rfl ud101 sz3 (hi := by omega)) rfl rfl rfl (hp _ _) ?_
      refine WJ_tk 5 (Rd_load_arr (i := i') (j := 0) rfl tk3 (hl := at_N (by omega))) hp ?_ rfl (by kernel_rfl) rfl rfl rfl
      refine WJ_all (rs := [6]) (by kernel_rfl) rfl ?_
      refine WI_one ?_
      refine WI_ac rfl (Ac_call cf73 rfl (hs := rank_ct (x := x) (n := n) (s := ((ordL (ringD x) n).getD i' 0)) (k := i') (hk := hv))) rfl rfl rfl rfl ?_
      rintro _ _ ⟨⟨⟩, rfl, hA⟩
      simp only [List.cons_append, List.nil_append] at hA
      replace hA := hA.symm
      subst hA
      refine ⟨(fun _ => (by repeat (first | with_reducible exact Sub.refl | with_reducible exact Sub.nil | with_reducible refine Sub.cons (by repeat (first | with_reducible exact Ext.here | with_reducible apply Ext.there)) ?_ | with_reducible refine Sub.tail ?_))), ?_⟩
      refine WJ_takeP 7 rfl (by kernel_rfl) (Rd_move rfl) rfl rfl rfl (hp _ _) ?_
      refine WJ_takeP 8 rfl (by kernel_rfl) (Rd_ext0 rfl) rfl rfl rfl (hp _ _) ?_
      refine WJ_takeP 9 rfl (by kernel_rfl) (Rd_ext1 rfl) rfl rfl rfl (hp _ _) ?_
      refine WJ_takeP 10 rfl (by kernel_rfl) (Rd_assign rfl) rfl rfl rfl (hp _ _) ?_
      refine WJ_takeP 11 rfl (by kernel_rfl) (Rd_assign rfl) rfl rfl rfl (hp _ _) ?_
      refine WJ_done (by kernel_rfl) ?_
      refine Ps_next hK17 ?_
      refine WC_seq fun K18 hK18 => ?_
      refine WC_sr fun K19 hK19 => ?_
      refine WL_rd (Rd_move rfl) rfl rfl rfl ?_
      refine WL_rd (Rd_neqN (i := 0) (j := 0) rfl rfl) rfl rfl rfl ?_
      refine WL_rd (Rd_move rfl) rfl rfl rfl ?_
      refine WL_rd (Rd_move rfl) rfl rfl rfl ?_
      refine WL_rd (Rd_move rfl) rfl rfl rfl ?_
      refine WL_rd (Rd_isF (Rd_neqN rfl rfl)) rfl rfl rfl ?_
      refine WL_rd (Rd_pickF rfl rfl) rfl rfl rfl ?_
      refine WL_end hK19 ?_
      refine WC_condF rfl ?_
      refine WC_skip ?_
      refine Ps_next hK18 ?_
      refine WC_sr fun K20 hK20 => ?_
      refine WL_rd (Rd_move rfl) rfl rfl rfl ?_
      refine WL_rd (Rd_gtrN (j := 0) rfl rfl) rfl rfl rfl ?_
      refine WL_end hK20 ?_
      refine WC_cond rfl (fun hc5 => ?_) (fun hc5 => ?_)
      · try simp only [decide_eq_true_eq, decide_eq_false_iff_not, Bool.not_eq_true', Bool.not_eq_false', Bool.not_eq_true, Bool.not_eq_false, Int.not_lt, Int.not_le, Nat.not_lt, Nat.not_le, Decidable.not_not, ne_eq] at hc5
        have hu : (ordL (ringD x) n)[(i' - 1)]? = some ((ordL (ringD x) n).getD (i' - 1) 0) := at_N (by omega)
        have hlt : ltR (ringD x) ((ordL (ringD x) n).getD (i' - 1) 0) ((ordL (ringD x) n).getD i' 0) := ord_step hu (by rw [show (i' - 1) + 1 = i' from by omega]; exact hv)
        have hd1 := Dg_len (ringD x ((ordL (ringD x) n).getD i' 0))
        have hd2 := Dg_len (ringD x ((ordL (ringD x) n).getD (i' - 1) 0))
        refine WC_seq fun K21 hK21 => ?_
        refine WC_drawA mix (fun i => ([2, 2, 2, 2, 2, 2, 2, 1, 1, 0] : List Nat).getD i 0) ?_
        refine WJ_tk 0 (Rd_loadW rfl tk120) hp ?_ rfl (by kernel_rfl) rfl rfl rfl
        refine WJ_tk 1 (Rd_load rfl tk101) hp ?_ rfl (by kernel_rfl) rfl rfl rfl
        refine WJ_takeP 2 rfl (by kernel_rfl) (Rd_move rfl) rfl rfl rfl (hp _ _) ?_
        refine WJ_takeP 3 rfl (by kernel_rfl) (Rd_subN (j := 1) rfl rfl) rfl rfl rfl (hp _ _) ?_
        refine WJ_takeP 4 rfl (by kernel_rfl) (Rd_index (i' - 1) rfl rfl ud101 sz3 (hi := by omega)) rfl rfl rfl (hp _ _) ?_
        refine WJ_tk 5 (Rd_load_arr (i := (i' - 1)) (j := 0) rfl tk3 (hl := at_N (by omega))) hp ?_ rfl (by kernel_rfl) rfl rfl rfl
        refine WJ_takeP 6 rfl (by kernel_rfl) (Rd_convNU rfl ikd3_24 (h' := uk32)) rfl rfl rfl (hp _ _) ?_
        refine WJ_all (rs := [7, 8]) (by kernel_rfl) rfl ?_
        refine WI_cons ?_ (WI_cons ?_ (by intro _ h; cases h))
        · skip
          refine WI_ac rfl (Ac_call cf77 rfl (hs := ring_ct (x := x) (s := BitVec.ofNat 32 ((ordL (ringD x) n).getD (i' - 1) 0)))) rfl rfl rfl rfl ?_
          rintro _ _ ⟨⟨⟩, rfl, hA⟩
          simp only [List.cons_append, List.nil_append] at hA
          replace hA := hA.symm
          subst hA
          rw [show tagD 9#8 [x, big32 (BitVec.ofNat 32 ((ordL (ringD x) n).getD (i' - 1) 0))] = (ringD x ((ordL (ringD x) n).getD (i' - 1) 0)).1 from rfl]
          refine ⟨(fun _ => (by repeat (first | with_reducible exact Sub.refl | with_reducible exact Sub.nil | with_reducible refine Sub.cons (by repeat (first | with_reducible exact Ext.here | with_reducible apply Ext.there)) ?_ | with_reducible refine Sub.tail ?_))), ?_⟩
          refine WJ_all (rs := [8]) (by kernel_rfl) rfl ?_
          refine WI_one ?_
          refine WI_ac rfl (Ac_allocW (k := .u8) (w := 8) (m := 32) zr42) rfl rfl rfl rfl ?_
          rintro _ _ ⟨b13, rfl, rfl⟩
          refine ⟨(fun _ => (by repeat (first | with_reducible exact Sub.refl | with_reducible exact Sub.nil | with_reducible refine Sub.cons (by repeat (first | with_reducible exact Ext.here | with_reducible apply Ext.there)) ?_ | with_reducible refine Sub.tail ?_))), ?_⟩
          refine WJ_all (rs := [9]) (by kernel_rfl) rfl ?_
          refine WI_one ?_
          refine WI_ac0 rfl (Ac_storeW rfl rfl sz42) rfl rfl rfl ?_
          rintro _ _ rfl
          refine ⟨(fun h => by cases h), ?_⟩
          refine WJ_done (by kernel_rfl) ?_
          refine Ps_next hK21 ?_
          refine WC_seq fun K22 hK22 => ?_
          refine WC_drawA mix (fun i => ([2, 2, 2, 2, 2, 2, 1, 1, 0] : List Nat).getD i 0) ?_
          refine WJ_tk 0 (Rd_loadW rfl tk120) hp ?_ rfl (by kernel_rfl) rfl rfl rfl
          refine WJ_tk 1 (Rd_load rfl tk101) hp ?_ rfl (by kernel_rfl) rfl rfl rfl
          refine WJ_takeP 2 rfl (by kernel_rfl) (Rd_move rfl) rfl rfl rfl (hp _ _) ?_
          refine WJ_takeP 3 rfl (by kernel_rfl) (Rd_index i' rfl rfl ud101 sz3 (hi := by omega)) rfl rfl rfl (hp _ _) ?_
          refine WJ_tk 4 (Rd_load_arr (i := i') (j := 0) rfl tk3 (hl := at_N (by omega))) hp ?_ rfl (by kernel_rfl) rfl rfl rfl
          refine WJ_takeP 5 rfl (by kernel_rfl) (Rd_convNU rfl ikd3_24 (h' := uk32)) rfl rfl rfl (hp _ _) ?_
          refine WJ_all (rs := [6, 7]) (by kernel_rfl) rfl ?_
          refine WI_cons ?_ (WI_cons ?_ (by intro _ h; cases h))
          · skip
            refine WI_ac rfl (Ac_call cf77 rfl (hs := ring_ct (x := x) (s := BitVec.ofNat 32 ((ordL (ringD x) n).getD i' 0)))) rfl rfl rfl rfl ?_
            rintro _ _ ⟨⟨⟩, rfl, hA⟩
            simp only [List.cons_append, List.nil_append] at hA
            replace hA := hA.symm
            subst hA
            rw [show tagD 9#8 [x, big32 (BitVec.ofNat 32 ((ordL (ringD x) n).getD i' 0))] = (ringD x ((ordL (ringD x) n).getD i' 0)).1 from rfl]
            refine ⟨(fun _ => (by repeat (first | with_reducible exact Sub.refl | with_reducible exact Sub.nil | with_reducible refine Sub.cons (by repeat (first | with_reducible exact Ext.here | with_reducible apply Ext.there)) ?_ | with_reducible refine Sub.tail ?_))), ?_⟩
            refine WJ_all (rs := [7]) (by kernel_rfl) rfl ?_
            refine WI_one ?_
            refine WI_ac rfl (Ac_allocW (k := .u8) (w := 8) (m := 32) zr42) rfl rfl rfl rfl ?_
            rintro _ _ ⟨b14, rfl, rfl⟩
            refine ⟨(fun _ => (by repeat (first | with_reducible exact Sub.refl | with_reducible exact Sub.nil | with_reducible refine Sub.cons (by repeat (first | with_reducible exact Ext.here | with_reducible apply Ext.there)) ?_ | with_reducible refine Sub.tail ?_))), ?_⟩
            refine WJ_all (rs := [8]) (by kernel_rfl) rfl ?_
            refine WI_one ?_
            refine WI_ac0 rfl (Ac_storeW rfl rfl sz42) rfl rfl rfl ?_
            rintro _ _ rfl
            refine ⟨(fun h => by cases h), ?_⟩
            refine WJ_done (by kernel_rfl) ?_
            refine Ps_next hK22 ?_
            refine WC_seq fun K23 hK23 => ?_
            refine WC_drawA mix (fun i => ([2, 2, 1, 2, 2, 2, 2, 2, 2, 2, 2, 2, 2, 2, 2, 2, 2, 2, 2, 2] : List Nat).getD i 0) ?_
            refine WJ_takeP 0 rfl (by kernel_rfl) (Rd_valE (v := sl (some b14) (ringD x ((ordL (ringD x) n).getD i' 0)).1.length 32) (Rd_sliceA0 rfl ud42 sz5) (by rw [Dg_len])) rfl rfl rfl (hp _ _) ?_
            refine WJ_takeP 1 rfl (by kernel_rfl) (Rd_valE (v := sl (some b13) (ringD x ((ordL (ringD x) n).getD (i' - 1) 0)).1.length 32) (Rd_sliceA0 rfl ud42 sz5) (by rw [Dg_len])) rfl rfl rfl (hp _ _) ?_
            refine WJ_all (rs := [2]) (by kernel_rfl) rfl ?_
            refine WI_one ?_
            have hsB : Sv [arr (some b14) 32 1 42 (eU .u8) (ringD x ((ordL (ringD x) n).getD i' 0)).1] (sl (some b14) (ringD x ((ordL (ringD x) n).getD i' 0)).1.length 32) 1 (eU .u8 (w := 8)) (ringD x ((ordL (ringD x) n).getD i' 0)).1 (some ⟨b14, 0, none⟩) 32 := Sv_own' (a := some b14) (T := 42) (encU .u8 (w := 8)) (by simp) (by rw [Dg_len]; exact Nat.le_refl _)
            have hsA : Sv [arr (some b13) 32 1 42 (eU .u8) (ringD x ((ordL (ringD x) n).getD (i' - 1) 0)).1] (sl (some b13) (ringD x ((ordL (ringD x) n).getD (i' - 1) 0)).1.length 32) 1 (eU .u8 (w := 8)) (ringD x ((ordL (ringD x) n).getD (i' - 1) 0)).1 (some ⟨b13, 0, none⟩) 32 := Sv_own' (a := some b13) (T := 42) (encU .u8 (w := 8)) (by simp) (by rw [Dg_len]; exact Nat.le_refl _)
            refine WI_ac rfl (Ac_call cf78 rfl (hs := Ct.un0 (Xs := [arr (some b14) 32 1 42 (eU .u8) (ringD x ((ordL (ringD x) n).getD i' 0)).1, arr (some b13) 32 1 42 (eU .u8) (ringD x ((ordL (ringD x) n).getD (i' - 1) 0)).1]) (less_ct (X := sep [arr (some b14) 32 1 42 (eU .u8) (ringD x ((ordL (ringD x) n).getD i' 0)).1, arr (some b13) 32 1 42 (eU .u8) (ringD x ((ordL (ringD x) n).getD (i' - 1) 0)).1]) (l := (ringD x ((ordL (ringD x) n).getD i' 0)).1) (l' := (ringD x ((ordL (ringD x) n).getD (i' - 1) 0)).1) (hS := hsB.pk (by repeat (first | with_reducible exact Has.here | with_reducible refine Has.there ?_))) (hS' := hsA.pk (by repeat (first | with_reducible exact Has.here | with_reducible refine Has.there ?_))) (he := by rw [Dg_len, Dg_len])))) rfl rfl rfl rfl ?_
            rintro _ _ ⟨⟨⟩, rfl, hA⟩
            simp only [List.cons_append, List.nil_append] at hA
            replace hA := hA.symm
            subst hA
            rw [decide_eq_false (ord_nl hlt)]
            refine ⟨(fun _ => (by repeat (first | with_reducible exact Sub.refl | with_reducible exact Sub.nil | with_reducible refine Sub.cons (by repeat (first | with_reducible exact Ext.here | with_reducible apply Ext.there)) ?_ | with_reducible refine Sub.tail ?_))), ?_⟩
            refine WJ_takeP 3 rfl (by kernel_rfl) (Rd_move rfl) rfl rfl rfl (hp _ _) ?_
            refine WJ_tk 4 (Rd_loadW rfl tk42) hp ?_ rfl (by kernel_rfl) rfl rfl rfl
            refine WJ_tk 5 (Rd_loadW rfl tk42) hp ?_ rfl (by kernel_rfl) rfl rfl rfl
            refine WJ_takeP 6 rfl (by kernel_rfl) (Rd_eqW rfl rfl ais42) rfl rfl rfl (hp _ _) ?_
            refine WJ_takeP 7 rfl (by kernel_rfl) (Rd_move rfl) rfl rfl rfl (hp _ _) ?_
            refine WJ_bool 121 rfl (fun hg24 => ?_) (fun hg24 => ?_)
            · try simp only [decide_eq_true_eq, decide_eq_false_iff_not, Bool.not_eq_true', Bool.not_eq_false', Bool.not_eq_true, Bool.not_eq_false, Int.not_lt, Int.not_le, Nat.not_lt, Nat.not_le, Decidable.not_not, ne_eq] at hg24
              have hqe := ord_eq hlt hg24
              refine WJ_tk 8 (Rd_load rfl tk101) hp ?_ rfl (by kernel_rfl) rfl rfl rfl
              refine WJ_takeP 9 rfl (by kernel_rfl) (Rd_move rfl) rfl rfl rfl (hp _ _) ?_
              refine WJ_takeP 10 rfl (by kernel_rfl) (Rd_index i' rfl rfl ud101 sz3 (hi := by omega)) rfl rfl rfl (hp _ _) ?_
              refine WJ_tk 11 (Rd_load_arr (i := i') (j := 0) rfl tk3 (hl := at_N (by omega))) hp ?_ rfl (by kernel_rfl) rfl rfl rfl
              refine WJ_tk 12 (Rd_load rfl tk101) hp ?_ rfl (by kernel_rfl) rfl rfl rfl
              refine WJ_takeP 13 rfl (by kernel_rfl) (Rd_move rfl) rfl rfl rfl (hp _ _) ?_
              refine WJ_takeP 14 rfl (by kernel_rfl) (Rd_subN (j := 1) rfl rfl) rfl rfl rfl (hp _ _) ?_
              refine WJ_takeP 15 rfl (by kernel_rfl) (Rd_index (i' - 1) rfl rfl ud101 sz3 (hi := by omega)) rfl rfl rfl (hp _ _) ?_
              refine WJ_tk 16 (Rd_load_arr (i := (i' - 1)) (j := 0) rfl tk3 (hl := at_N (by omega))) hp ?_ rfl (by kernel_rfl) rfl rfl rfl
              refine WJ_takeP 17 rfl (by kernel_rfl) (Rd_isF (Rd_lssN rfl rfl)) rfl rfl rfl (hp _ _) ?_
              refine WJ_takeP 18 rfl (by kernel_rfl) (Rd_pickT rfl rfl) rfl rfl rfl (hp _ _) ?_
              refine WJ_takeP 19 rfl (by kernel_rfl) (Rd_pickF rfl rfl) rfl rfl rfl (hp _ _) ?_
              refine WJ_done (by kernel_rfl) ?_
              refine Ps_next hK23 ?_
              refine WC_condF rfl ?_
              refine WC_skip ?_
              refine Ps_next hK13 ?_
              refine WC_region ?_
              refine WL_rd (Rd_move rfl) rfl rfl rfl ?_
              refine WL_rd (Rd_addN (j := 1) rfl rfl) rfl rfl rfl ?_
              refine WL_rd (Rd_assign rfl) rfl rfl rfl ?_
              refine WL_nil ?_
              refine Ps_wk (by (try simp only [List.cons_append, List.nil_append]); repeat (first | with_reducible exact Wk.nil | refine Wk.cons (by first | rfl | (simp only [List.length_append, List.length_cons, List.length_nil, List.length_replicate, Nat.zero_add]; rfl) | (simp; done)) ?_)) (by (try simp only [List.cons_append, List.nil_append]); repeat (first | with_reducible exact Sub.refl | with_reducible exact Sub.nil | with_reducible refine Sub.cons (by repeat (first | with_reducible exact Ext.here | with_reducible apply Ext.there)) ?_ | with_reducible refine Sub.tail ?_)) (hK10 (i' + 1) (by omega) (by omega))
            · try simp only [decide_eq_true_eq, decide_eq_false_iff_not, Bool.not_eq_true', Bool.not_eq_false', Bool.not_eq_true, Bool.not_eq_false, Int.not_lt, Int.not_le, Nat.not_lt, Nat.not_le, Decidable.not_not, ne_eq] at hg24
              refine WJ_skip 8 rfl (by kernel_rfl) rfl rfl rfl (hp _ _) ?_
              refine WJ_skip 9 rfl (by kernel_rfl) rfl rfl rfl (hp _ _) ?_
              refine WJ_skip 10 rfl (by kernel_rfl) rfl rfl rfl (hp _ _) ?_
              refine WJ_skip 11 rfl (by kernel_rfl) rfl rfl rfl (hp _ _) ?_
              refine WJ_skip 12 rfl (by kernel_rfl) rfl rfl rfl (hp _ _) ?_
              refine WJ_skip 13 rfl (by kernel_rfl) rfl rfl rfl (hp _ _) ?_
              refine WJ_skip 14 rfl (by kernel_rfl) rfl rfl rfl (hp _ _) ?_
              refine WJ_skip 15 rfl (by kernel_rfl) rfl rfl rfl (hp _ _) ?_
              refine WJ_skip 16 rfl (by kernel_rfl) rfl rfl rfl (hp _ _) ?_
              refine WJ_skip 17 rfl (by kernel_rfl) rfl rfl rfl (hp _ _) ?_
              refine WJ_takeP 18 rfl (by kernel_rfl) (Rd_pickF rfl rfl) rfl rfl rfl (hp _ _) ?_
              refine WJ_takeP 19 rfl (by kernel_rfl) (Rd_pickF rfl rfl) rfl rfl rfl (hp _ _) ?_
              refine WJ_done (by kernel_rfl) ?_
              refine Ps_next hK23 ?_
              refine WC_condF rfl ?_
              refine WC_skip ?_
              refine Ps_next hK13 ?_
              refine WC_region ?_
              refine WL_rd (Rd_move rfl) rfl rfl rfl ?_
              refine WL_rd (Rd_addN (j := 1) rfl rfl) rfl rfl rfl ?_
              refine WL_rd (Rd_assign rfl) rfl rfl rfl ?_
              refine WL_nil ?_
              refine Ps_wk (by (try simp only [List.cons_append, List.nil_append]); repeat (first | with_reducible exact Wk.nil | refine Wk.cons (by first | rfl | (simp only [List.length_append, List.length_cons, List.length_nil, List.length_replicate, Nat.zero_add]; rfl) | (simp; done)) ?_)) (by (try simp only [List.cons_append, List.nil_append]); repeat (first | with_reducible exact Sub.refl | with_reducible exact Sub.nil | with_reducible refine Sub.cons (by repeat (first | with_reducible exact Ext.here | with_reducible apply Ext.there)) ?_ | with_reducible refine Sub.tail ?_)) (hK10 (i' + 1) (by omega) (by omega))
          · skip
            refine WI_ac rfl (Ac_allocW (k := .u8) (w := 8) (m := 32) zr42) rfl rfl rfl rfl ?_
            rintro _ _ ⟨b14, rfl, rfl⟩
            refine ⟨(fun _ => (by repeat (first | with_reducible exact Sub.refl | with_reducible exact Sub.nil | with_reducible refine Sub.cons (by repeat (first | with_reducible exact Ext.here | with_reducible apply Ext.there)) ?_ | with_reducible refine Sub.tail ?_))), ?_⟩
            refine WJ_all (rs := [6]) (by kernel_rfl) rfl ?_
            refine WI_one ?_
            refine WI_ac rfl (Ac_call cf77 rfl (hs := ring_ct (x := x) (s := BitVec.ofNat 32 ((ordL (ringD x) n).getD i' 0)))) rfl rfl rfl rfl ?_
            rintro _ _ ⟨⟨⟩, rfl, hA⟩
            simp only [List.cons_append, List.nil_append] at hA
            replace hA := hA.symm
            subst hA
            rw [show tagD 9#8 [x, big32 (BitVec.ofNat 32 ((ordL (ringD x) n).getD i' 0))] = (ringD x ((ordL (ringD x) n).getD i' 0)).1 from rfl]
            refine ⟨(fun _ => (by repeat (first | with_reducible exact Sub.refl | with_reducible exact Sub.nil | with_reducible refine Sub.cons (by repeat (first | with_reducible exact Ext.here | with_reducible apply Ext.there)) ?_ | with_reducible refine Sub.tail ?_))), ?_⟩
            refine WJ_all (rs := [8]) (by kernel_rfl) rfl ?_
            refine WI_one ?_
            refine WI_ac0 rfl (Ac_storeW rfl rfl sz42) rfl rfl rfl ?_
            rintro _ _ rfl
            refine ⟨(fun h => by cases h), ?_⟩
            refine WJ_done (by kernel_rfl) ?_
            refine Ps_next hK22 ?_
            refine WC_seq fun K25 hK25 => ?_
            refine WC_drawA mix (fun i => ([2, 2, 1, 2, 2, 2, 2, 2, 2, 2, 2, 2, 2, 2, 2, 2, 2, 2, 2, 2] : List Nat).getD i 0) ?_
            refine WJ_takeP 0 rfl (by kernel_rfl) (Rd_valE (v := sl (some b14) (ringD x ((ordL (ringD x) n).getD i' 0)).1.length 32) (Rd_sliceA0 rfl ud42 sz5) (by rw [Dg_len])) rfl rfl rfl (hp _ _) ?_
            refine WJ_takeP 1 rfl (by kernel_rfl) (Rd_valE (v := sl (some b13) (ringD x ((ordL (ringD x) n).getD (i' - 1) 0)).1.length 32) (Rd_sliceA0 rfl ud42 sz5) (by rw [Dg_len])) rfl rfl rfl (hp _ _) ?_
            refine WJ_all (rs := [2]) (by kernel_rfl) rfl ?_
            refine WI_one ?_
            have hsB : Sv [arr (some b14) 32 1 42 (eU .u8) (ringD x ((ordL (ringD x) n).getD i' 0)).1] (sl (some b14) (ringD x ((ordL (ringD x) n).getD i' 0)).1.length 32) 1 (eU .u8 (w := 8)) (ringD x ((ordL (ringD x) n).getD i' 0)).1 (some ⟨b14, 0, none⟩) 32 := Sv_own' (a := some b14) (T := 42) (encU .u8 (w := 8)) (by simp) (by rw [Dg_len]; exact Nat.le_refl _)
            have hsA : Sv [arr (some b13) 32 1 42 (eU .u8) (ringD x ((ordL (ringD x) n).getD (i' - 1) 0)).1] (sl (some b13) (ringD x ((ordL (ringD x) n).getD (i' - 1) 0)).1.length 32) 1 (eU .u8 (w := 8)) (ringD x ((ordL (ringD x) n).getD (i' - 1) 0)).1 (some ⟨b13, 0, none⟩) 32 := Sv_own' (a := some b13) (T := 42) (encU .u8 (w := 8)) (by simp) (by rw [Dg_len]; exact Nat.le_refl _)
            refine WI_ac rfl (Ac_call cf78 rfl (hs := Ct.un0 (Xs := [arr (some b14) 32 1 42 (eU .u8) (ringD x ((ordL (ringD x) n).getD i' 0)).1, arr (some b13) 32 1 42 (eU .u8) (ringD x ((ordL (ringD x) n).getD (i' - 1) 0)).1]) (less_ct (X := sep [arr (some b14) 32 1 42 (eU .u8) (ringD x ((ordL (ringD x) n).getD i' 0)).1, arr (some b13) 32 1 42 (eU .u8) (ringD x ((ordL (ringD x) n).getD (i' - 1) 0)).1]) (l := (ringD x ((ordL (ringD x) n).getD i' 0)).1) (l' := (ringD x ((ordL (ringD x) n).getD (i' - 1) 0)).1) (hS := hsB.pk (by repeat (first | with_reducible exact Has.here | with_reducible refine Has.there ?_))) (hS' := hsA.pk (by repeat (first | with_reducible exact Has.here | with_reducible refine Has.there ?_))) (he := by rw [Dg_len, Dg_len])))) rfl rfl rfl rfl ?_
            rintro _ _ ⟨⟨⟩, rfl, hA⟩
            simp only [List.cons_append, List.nil_append] at hA
            replace hA := hA.symm
            subst hA
            rw [decide_eq_false (ord_nl hlt)]
            refine ⟨(fun _ => (by repeat (first | with_reducible exact Sub.refl | with_reducible exact Sub.nil | with_reducible refine Sub.cons (by repeat (first | with_reducible exact Ext.here | with_reducible apply Ext.there)) ?_ | with_reducible refine Sub.tail ?_))), ?_⟩
            refine WJ_takeP 3 rfl (by kernel_rfl) (Rd_move rfl) rfl rfl rfl (hp _ _) ?_
            refine WJ_tk 4 (Rd_loadW rfl tk42) hp ?_ rfl (by kernel_rfl) rfl rfl rfl
            refine WJ_tk 5 (Rd_loadW rfl tk42) hp ?_ rfl (by kernel_rfl) rfl rfl rfl
            refine WJ_takeP 6 rfl (by kernel_rfl) (Rd_eqW rfl rfl ais42) rfl rfl rfl (hp _ _) ?_
            refine WJ_takeP 7 rfl (by kernel_rfl) (Rd_move rfl) rfl rfl rfl (hp _ _) ?_
            refine WJ_bool 121 rfl (fun hg26 => ?_) (fun hg26 => ?_)
            · try simp only [decide_eq_true_eq, decide_eq_false_iff_not, Bool.not_eq_true', Bool.not_eq_false', Bool.not_eq_true, Bool.not_eq_false, Int.not_lt, Int.not_le, Nat.not_lt, Nat.not_le, Decidable.not_not, ne_eq] at hg26
              have hqe := ord_eq hlt hg26
              refine WJ_tk 8 (Rd_load rfl tk101) hp ?_ rfl (by kernel_rfl) rfl rfl rfl
              refine WJ_takeP 9 rfl (by kernel_rfl) (Rd_move rfl) rfl rfl rfl (hp _ _) ?_
              refine WJ_takeP 10 rfl (by kernel_rfl) (Rd_index i' rfl rfl ud101 sz3 (hi := by omega)) rfl rfl rfl (hp _ _) ?_
              refine WJ_tk 11 (Rd_load_arr (i := i') (j := 0) rfl tk3 (hl := at_N (by omega))) hp ?_ rfl (by kernel_rfl) rfl rfl rfl
              refine WJ_tk 12 (Rd_load rfl tk101) hp ?_ rfl (by kernel_rfl) rfl rfl rfl
              refine WJ_takeP 13 rfl (by kernel_rfl) (Rd_move rfl) rfl rfl rfl (hp _ _) ?_
              refine WJ_takeP 14 rfl (by kernel_rfl) (Rd_subN (j := 1) rfl rfl) rfl rfl rfl (hp _ _) ?_
              refine WJ_takeP 15 rfl (by kernel_rfl) (Rd_index (i' - 1) rfl rfl ud101 sz3 (hi := by omega)) rfl rfl rfl (hp _ _) ?_
              refine WJ_tk 16 (Rd_load_arr (i := (i' - 1)) (j := 0) rfl tk3 (hl := at_N (by omega))) hp ?_ rfl (by kernel_rfl) rfl rfl rfl
              refine WJ_takeP 17 rfl (by kernel_rfl) (Rd_isF (Rd_lssN rfl rfl)) rfl rfl rfl (hp _ _) ?_
              refine WJ_takeP 18 rfl (by kernel_rfl) (Rd_pickT rfl rfl) rfl rfl rfl (hp _ _) ?_
              refine WJ_takeP 19 rfl (by kernel_rfl) (Rd_pickF rfl rfl) rfl rfl rfl (hp _ _) ?_
              refine WJ_done (by kernel_rfl) ?_
              refine Ps_next hK25 ?_
              refine WC_condF rfl ?_
              refine WC_skip ?_
              refine Ps_next hK13 ?_
              refine WC_region ?_
              refine WL_rd (Rd_move rfl) rfl rfl rfl ?_
              refine WL_rd (Rd_addN (j := 1) rfl rfl) rfl rfl rfl ?_
              refine WL_rd (Rd_assign rfl) rfl rfl rfl ?_
              refine WL_nil ?_
              refine Ps_wk (by (try simp only [List.cons_append, List.nil_append]); repeat (first | with_reducible exact Wk.nil | refine Wk.cons (by first | rfl | (simp only [List.length_append, List.length_cons, List.length_nil, List.length_replicate, Nat.zero_add]; rfl) | (simp; done)) ?_)) (by (try simp only [List.cons_append, List.nil_append]); repeat (first | with_reducible exact Sub.refl | with_reducible exact Sub.nil | with_reducible refine Sub.cons (by repeat (first | with_reducible exact Ext.here | with_reducible apply Ext.there)) ?_ | with_reducible refine Sub.tail ?_)) (hK10 (i' + 1) (by omega) (by omega))
            · try simp only [decide_eq_true_eq, decide_eq_false_iff_not, Bool.not_eq_true', Bool.not_eq_false', Bool.not_eq_true, Bool.not_eq_false, Int.not_lt, Int.not_le, Nat.not_lt, Nat.not_le, Decidable.not_not, ne_eq] at hg26
              refine WJ_skip 8 rfl (by kernel_rfl) rfl rfl rfl (hp _ _) ?_
              refine WJ_skip 9 rfl (by kernel_rfl) rfl rfl rfl (hp _ _) ?_
              refine WJ_skip 10 rfl (by kernel_rfl) rfl rfl rfl (hp _ _) ?_
              refine WJ_skip 11 rfl (by kernel_rfl) rfl rfl rfl (hp _ _) ?_
              refine WJ_skip 12 rfl (by kernel_rfl) rfl rfl rfl (hp _ _) ?_
              refine WJ_skip 13 rfl (by kernel_rfl) rfl rfl rfl (hp _ _) ?_
              refine WJ_skip 14 rfl (by kernel_rfl) rfl rfl rfl (hp _ _) ?_
              refine WJ_skip 15 rfl (by kernel_rfl) rfl rfl rfl (hp _ _) ?_
              refine WJ_skip 16 rfl (by kernel_rfl) rfl rfl rfl (hp _ _) ?_
              refine WJ_skip 17 rfl (by kernel_rfl) rfl rfl rfl (hp _ _) ?_
              refine WJ_takeP 18 rfl (by kernel_rfl) (Rd_pickF rfl rfl) rfl rfl rfl (hp _ _) ?_
              refine WJ_takeP 19 rfl (by kernel_rfl) (Rd_pickF rfl rfl) rfl rfl rfl (hp _ _) ?_
              refine WJ_done (by kernel_rfl) ?_
              refine Ps_next hK25 ?_
              refine WC_condF rfl ?_
              refine WC_skip ?_
              refine Ps_next hK13 ?_
              refine WC_region ?_
              refine WL_rd (Rd_move rfl) rfl rfl rfl ?_
              refine WL_rd (Rd_addN (j := 1) rfl rfl) rfl rfl rfl ?_
              refine WL_rd (Rd_assign rfl) rfl rfl rfl ?_
              refine WL_nil ?_
              refine Ps_wk (by (try simp only [List.cons_append, List.nil_append]); repeat (first | with_reducible exact Wk.nil | refine Wk.cons (by first | rfl | (simp only [List.length_append, List.length_cons, List.length_nil, List.length_replicate, Nat.zero_add]; rfl) | (simp; done)) ?_)) (by (try simp only [List.cons_append, List.nil_append]); repeat (first | with_reducible exact Sub.refl | with_reducible exact Sub.nil | with_reducible refine Sub.cons (by repeat (first | with_reducible exact Ext.here | with_reducible apply Ext.there)) ?_ | with_reducible refine Sub.tail ?_)) (hK10 (i' + 1) (by omega) (by omega))
        · skip
          refine WI_ac rfl (Ac_allocW (k := .u8) (w := 8) (m := 32) zr42) rfl rfl rfl rfl ?_
          rintro _ _ ⟨b13, rfl, rfl⟩
          refine ⟨(fun _ => (by repeat (first | with_reducible exact Sub.refl | with_reducible exact Sub.nil | with_reducible refine Sub.cons (by repeat (first | with_reducible exact Ext.here | with_reducible apply Ext.there)) ?_ | with_reducible refine Sub.tail ?_))), ?_⟩
          refine WJ_all (rs := [7]) (by kernel_rfl) rfl ?_
          refine WI_one ?_
          refine WI_ac rfl (Ac_call cf77 rfl (hs := ring_ct (x := x) (s := BitVec.ofNat 32 ((ordL (ringD x) n).getD (i' - 1) 0)))) rfl rfl rfl rfl ?_
          rintro _ _ ⟨⟨⟩, rfl, hA⟩
          simp only [List.cons_append, List.nil_append] at hA
          replace hA := hA.symm
          subst hA
          rw [show tagD 9#8 [x, big32 (BitVec.ofNat 32 ((ordL (ringD x) n).getD (i' - 1) 0))] = (ringD x ((ordL (ringD x) n).getD (i' - 1) 0)).1 from rfl]
          refine ⟨(fun _ => (by repeat (first | with_reducible exact Sub.refl | with_reducible exact Sub.nil | with_reducible refine Sub.cons (by repeat (first | with_reducible exact Ext.here | with_reducible apply Ext.there)) ?_ | with_reducible refine Sub.tail ?_))), ?_⟩
          refine WJ_all (rs := [9]) (by kernel_rfl) rfl ?_
          refine WI_one ?_
          refine WI_ac0 rfl (Ac_storeW rfl rfl sz42) rfl rfl rfl ?_
          rintro _ _ rfl
          refine ⟨(fun h => by cases h), ?_⟩
          refine WJ_done (by kernel_rfl) ?_
          refine Ps_next hK21 ?_
          refine WC_seq fun K27 hK27 => ?_
          refine WC_drawA mix (fun i => ([2, 2, 2, 2, 2, 2, 1, 1, 0] : List Nat).getD i 0) ?_
          refine WJ_tk 0 (Rd_loadW rfl tk120) hp ?_ rfl (by kernel_rfl) rfl rfl rfl
          refine WJ_tk 1 (Rd_load rfl tk101) hp ?_ rfl (by kernel_rfl) rfl rfl rfl
          refine WJ_takeP 2 rfl (by kernel_rfl) (Rd_move rfl) rfl rfl rfl (hp _ _) ?_
          refine WJ_takeP 3 rfl (by kernel_rfl) (Rd_index i' rfl rfl ud101 sz3 (hi := by omega)) rfl rfl rfl (hp _ _) ?_
          refine WJ_tk 4 (Rd_load_arr (i := i') (j := 0) rfl tk3 (hl := at_N (by omega))) hp ?_ rfl (by kernel_rfl) rfl rfl rfl
          refine WJ_takeP 5 rfl (by kernel_rfl) (Rd_convNU rfl ikd3_24 (h' := uk32)) rfl rfl rfl (hp _ _) ?_
          refine WJ_all (rs := [6, 7]) (by kernel_rfl) rfl ?_
          refine WI_cons ?_ (WI_cons ?_ (by intro _ h; cases h))
          · skip
            refine WI_ac rfl (Ac_call cf77 rfl (hs := ring_ct (x := x) (s := BitVec.ofNat 32 ((ordL (ringD x) n).getD i' 0)))) rfl rfl rfl rfl ?_
            rintro _ _ ⟨⟨⟩, rfl, hA⟩
            simp only [List.cons_append, List.nil_append] at hA
            replace hA := hA.symm
            subst hA
            rw [show tagD 9#8 [x, big32 (BitVec.ofNat 32 ((ordL (ringD x) n).getD i' 0))] = (ringD x ((ordL (ringD x) n).getD i' 0)).1 from rfl]
            refine ⟨(fun _ => (by repeat (first | with_reducible exact Sub.refl | with_reducible exact Sub.nil | with_reducible refine Sub.cons (by repeat (first | with_reducible exact Ext.here | with_reducible apply Ext.there)) ?_ | with_reducible refine Sub.tail ?_))), ?_⟩
            refine WJ_all (rs := [7]) (by kernel_rfl) rfl ?_
            refine WI_one ?_
            refine WI_ac rfl (Ac_allocW (k := .u8) (w := 8) (m := 32) zr42) rfl rfl rfl rfl ?_
            rintro _ _ ⟨b14, rfl, rfl⟩
            refine ⟨(fun _ => (by repeat (first | with_reducible exact Sub.refl | with_reducible exact Sub.nil | with_reducible refine Sub.cons (by repeat (first | with_reducible exact Ext.here | with_reducible apply Ext.there)) ?_ | with_reducible refine Sub.tail ?_))), ?_⟩
            refine WJ_all (rs := [8]) (by kernel_rfl) rfl ?_
            refine WI_one ?_
            refine WI_ac0 rfl (Ac_storeW rfl rfl sz42) rfl rfl rfl ?_
            rintro _ _ rfl
            refine ⟨(fun h => by cases h), ?_⟩
            refine WJ_done (by kernel_rfl) ?_
            refine Ps_next hK27 ?_
            refine WC_seq fun K28 hK28 => ?_
            refine WC_drawA mix (fun i => ([2, 2, 1, 2, 2, 2, 2, 2, 2, 2, 2, 2, 2, 2, 2, 2, 2, 2, 2, 2] : List Nat).getD i 0) ?_
            refine WJ_takeP 0 rfl (by kernel_rfl) (Rd_valE (v := sl (some b14) (ringD x ((ordL (ringD x) n).getD i' 0)).1.length 32) (Rd_sliceA0 rfl ud42 sz5) (by rw [Dg_len])) rfl rfl rfl (hp _ _) ?_
            refine WJ_takeP 1 rfl (by kernel_rfl) (Rd_valE (v := sl (some b13) (ringD x ((ordL (ringD x) n).getD (i' - 1) 0)).1.length 32) (Rd_sliceA0 rfl ud42 sz5) (by rw [Dg_len])) rfl rfl rfl (hp _ _) ?_
            refine WJ_all (rs := [2]) (by kernel_rfl) rfl ?_
            refine WI_one ?_
            have hsB : Sv [arr (some b14) 32 1 42 (eU .u8) (ringD x ((ordL (ringD x) n).getD i' 0)).1] (sl (some b14) (ringD x ((ordL (ringD x) n).getD i' 0)).1.length 32) 1 (eU .u8 (w := 8)) (ringD x ((ordL (ringD x) n).getD i' 0)).1 (some ⟨b14, 0, none⟩) 32 := Sv_own' (a := some b14) (T := 42) (encU .u8 (w := 8)) (by simp) (by rw [Dg_len]; exact Nat.le_refl _)
            have hsA : Sv [arr (some b13) 32 1 42 (eU .u8) (ringD x ((ordL (ringD x) n).getD (i' - 1) 0)).1] (sl (some b13) (ringD x ((ordL (ringD x) n).getD (i' - 1) 0)).1.length 32) 1 (eU .u8 (w := 8)) (ringD x ((ordL (ringD x) n).getD (i' - 1) 0)).1 (some ⟨b13, 0, none⟩) 32 := Sv_own' (a := some b13) (T := 42) (encU .u8 (w := 8)) (by simp) (by rw [Dg_len]; exact Nat.le_refl _)
            refine WI_ac rfl (Ac_call cf78 rfl (hs := Ct.un0 (Xs := [arr (some b14) 32 1 42 (eU .u8) (ringD x ((ordL (ringD x) n).getD i' 0)).1, arr (some b13) 32 1 42 (eU .u8) (ringD x ((ordL (ringD x) n).getD (i' - 1) 0)).1]) (less_ct (X := sep [arr (some b14) 32 1 42 (eU .u8) (ringD x ((ordL (ringD x) n).getD i' 0)).1, arr (some b13) 32 1 42 (eU .u8) (ringD x ((ordL (ringD x) n).getD (i' - 1) 0)).1]) (l := (ringD x ((ordL (ringD x) n).getD i' 0)).1) (l' := (ringD x ((ordL (ringD x) n).getD (i' - 1) 0)).1) (hS := hsB.pk (by repeat (first | with_reducible exact Has.here | with_reducible refine Has.there ?_))) (hS' := hsA.pk (by repeat (first | with_reducible exact Has.here | with_reducible refine Has.there ?_))) (he := by rw [Dg_len, Dg_len])))) rfl rfl rfl rfl ?_
            rintro _ _ ⟨⟨⟩, rfl, hA⟩
            simp only [List.cons_append, List.nil_append] at hA
            replace hA := hA.symm
            subst hA
            rw [decide_eq_false (ord_nl hlt)]
            refine ⟨(fun _ => (by repeat (first | with_reducible exact Sub.refl | with_reducible exact Sub.nil | with_reducible refine Sub.cons (by repeat (first | with_reducible exact Ext.here | with_reducible apply Ext.there)) ?_ | with_reducible refine Sub.tail ?_))), ?_⟩
            refine WJ_takeP 3 rfl (by kernel_rfl) (Rd_move rfl) rfl rfl rfl (hp _ _) ?_
            refine WJ_tk 4 (Rd_loadW rfl tk42) hp ?_ rfl (by kernel_rfl) rfl rfl rfl
            refine WJ_tk 5 (Rd_loadW rfl tk42) hp ?_ rfl (by kernel_rfl) rfl rfl rfl
            refine WJ_takeP 6 rfl (by kernel_rfl) (Rd_eqW rfl rfl ais42) rfl rfl rfl (hp _ _) ?_
            refine WJ_takeP 7 rfl (by kernel_rfl) (Rd_move rfl) rfl rfl rfl (hp _ _) ?_
            refine WJ_bool 121 rfl (fun hg29 => ?_) (fun hg29 => ?_)
            · try simp only [decide_eq_true_eq, decide_eq_false_iff_not, Bool.not_eq_true', Bool.not_eq_false', Bool.not_eq_true, Bool.not_eq_false, Int.not_lt, Int.not_le, Nat.not_lt, Nat.not_le, Decidable.not_not, ne_eq] at hg29
              have hqe := ord_eq hlt hg29
              refine WJ_tk 8 (Rd_load rfl tk101) hp ?_ rfl (by kernel_rfl) rfl rfl rfl
              refine WJ_takeP 9 rfl (by kernel_rfl) (Rd_move rfl) rfl rfl rfl (hp _ _) ?_
              refine WJ_takeP 10 rfl (by kernel_rfl) (Rd_index i' rfl rfl ud101 sz3 (hi := by omega)) rfl rfl rfl (hp _ _) ?_
              refine WJ_tk 11 (Rd_load_arr (i := i') (j := 0) rfl tk3 (hl := at_N (by omega))) hp ?_ rfl (by kernel_rfl) rfl rfl rfl
              refine WJ_tk 12 (Rd_load rfl tk101) hp ?_ rfl (by kernel_rfl) rfl rfl rfl
              refine WJ_takeP 13 rfl (by kernel_rfl) (Rd_move rfl) rfl rfl rfl (hp _ _) ?_
              refine WJ_takeP 14 rfl (by kernel_rfl) (Rd_subN (j := 1) rfl rfl) rfl rfl rfl (hp _ _) ?_
              refine WJ_takeP 15 rfl (by kernel_rfl) (Rd_index (i' - 1) rfl rfl ud101 sz3 (hi := by omega)) rfl rfl rfl (hp _ _) ?_
              refine WJ_tk 16 (Rd_load_arr (i := (i' - 1)) (j := 0) rfl tk3 (hl := at_N (by omega))) hp ?_ rfl (by kernel_rfl) rfl rfl rfl
              refine WJ_takeP 17 rfl (by kernel_rfl) (Rd_isF (Rd_lssN rfl rfl)) rfl rfl rfl (hp _ _) ?_
              refine WJ_takeP 18 rfl (by kernel_rfl) (Rd_pickT rfl rfl) rfl rfl rfl (hp _ _) ?_
              refine WJ_takeP 19 rfl (by kernel_rfl) (Rd_pickF rfl rfl) rfl rfl rfl (hp _ _) ?_
              refine WJ_done (by kernel_rfl) ?_
              refine Ps_next hK28 ?_
              refine WC_condF rfl ?_
              refine WC_skip ?_
              refine Ps_next hK13 ?_
              refine WC_region ?_
              refine WL_rd (Rd_move rfl) rfl rfl rfl ?_
              refine WL_rd (Rd_addN (j := 1) rfl rfl) rfl rfl rfl ?_
              refine WL_rd (Rd_assign rfl) rfl rfl rfl ?_
              refine WL_nil ?_
              refine Ps_wk (by (try simp only [List.cons_append, List.nil_append]); repeat (first | with_reducible exact Wk.nil | refine Wk.cons (by first | rfl | (simp only [List.length_append, List.length_cons, List.length_nil, List.length_replicate, Nat.zero_add]; rfl) | (simp; done)) ?_)) (by (try simp only [List.cons_append, List.nil_append]); repeat (first | with_reducible exact Sub.refl | with_reducible exact Sub.nil | with_reducible refine Sub.cons (by repeat (first | with_reducible exact Ext.here | with_reducible apply Ext.there)) ?_ | with_reducible refine Sub.tail ?_)) (hK10 (i' + 1) (by omega) (by omega))
            · try simp only [decide_eq_true_eq, decide_eq_false_iff_not, Bool.not_eq_true', Bool.not_eq_false', Bool.not_eq_true, Bool.not_eq_false, Int.not_lt, Int.not_le, Nat.not_lt, Nat.not_le, Decidable.not_not, ne_eq] at hg29
              refine WJ_skip 8 rfl (by kernel_rfl) rfl rfl rfl (hp _ _) ?_
              refine WJ_skip 9 rfl (by kernel_rfl) rfl rfl rfl (hp _ _) ?_
              refine WJ_skip 10 rfl (by kernel_rfl) rfl rfl rfl (hp _ _) ?_
              refine WJ_skip 11 rfl (by kernel_rfl) rfl rfl rfl (hp _ _) ?_
              refine WJ_skip 12 rfl (by kernel_rfl) rfl rfl rfl (hp _ _) ?_
              refine WJ_skip 13 rfl (by kernel_rfl) rfl rfl rfl (hp _ _) ?_
              refine WJ_skip 14 rfl (by kernel_rfl) rfl rfl rfl (hp _ _) ?_
              refine WJ_skip 15 rfl (by kernel_rfl) rfl rfl rfl (hp _ _) ?_
              refine WJ_skip 16 rfl (by kernel_rfl) rfl rfl rfl (hp _ _) ?_
              refine WJ_skip 17 rfl (by kernel_rfl) rfl rfl rfl (hp _ _) ?_
              refine WJ_takeP 18 rfl (by kernel_rfl) (Rd_pickF rfl rfl) rfl rfl rfl (hp _ _) ?_
              refine WJ_takeP 19 rfl (by kernel_rfl) (Rd_pickF rfl rfl) rfl rfl rfl (hp _ _) ?_
              refine WJ_done (by kernel_rfl) ?_
              refine Ps_next hK28 ?_
              refine WC_condF rfl ?_
              refine WC_skip ?_
              refine Ps_next hK13 ?_
              refine WC_region ?_
              refine WL_rd (Rd_move rfl) rfl rfl rfl ?_
              refine WL_rd (Rd_addN (j := 1) rfl rfl) rfl rfl rfl ?_
              refine WL_rd (Rd_assign rfl) rfl rfl rfl ?_
              refine WL_nil ?_
              refine Ps_wk (by (try simp only [List.cons_append, List.nil_append]); repeat (first | with_reducible exact Wk.nil | refine Wk.cons (by first | rfl | (simp only [List.length_append, List.length_cons, List.length_nil, List.length_replicate, Nat.zero_add]; rfl) | (simp; done)) ?_)) (by (try simp only [List.cons_append, List.nil_append]); repeat (first | with_reducible exact Sub.refl | with_reducible exact Sub.nil | with_reducible refine Sub.cons (by repeat (first | with_reducible exact Ext.here | with_reducible apply Ext.there)) ?_ | with_reducible refine Sub.tail ?_)) (hK10 (i' + 1) (by omega) (by omega))
          · skip
            refine WI_ac rfl (Ac_allocW (k := .u8) (w := 8) (m := 32) zr42) rfl rfl rfl rfl ?_
            rintro _ _ ⟨b14, rfl, rfl⟩
            refine ⟨(fun _ => (by repeat (first | with_reducible exact Sub.refl | with_reducible exact Sub.nil | with_reducible refine Sub.cons (by repeat (first | with_reducible exact Ext.here | with_reducible apply Ext.there)) ?_ | with_reducible refine Sub.tail ?_))), ?_⟩
            refine WJ_all (rs := [6]) (by kernel_rfl) rfl ?_
            refine WI_one ?_
            refine WI_ac rfl (Ac_call cf77 rfl (hs := ring_ct (x := x) (s := BitVec.ofNat 32 ((ordL (ringD x) n).getD i' 0)))) rfl rfl rfl rfl ?_
            rintro _ _ ⟨⟨⟩, rfl, hA⟩
            simp only [List.cons_append, List.nil_append] at hA
            replace hA := hA.symm
            subst hA
            rw [show tagD 9#8 [x, big32 (BitVec.ofNat 32 ((ordL (ringD x) n).getD i' 0))] = (ringD x ((ordL (ringD x) n).getD i' 0)).1 from rfl]
            refine ⟨(fun _ => (by repeat (first | with_reducible exact Sub.refl | with_reducible exact Sub.nil | with_reducible refine Sub.cons (by repeat (first | with_reducible exact Ext.here | with_reducible apply Ext.there)) ?_ | with_reducible refine Sub.tail ?_))), ?_⟩
            refine WJ_all (rs := [8]) (by kernel_rfl) rfl ?_
            refine WI_one ?_
            refine WI_ac0 rfl (Ac_storeW rfl rfl sz42) rfl rfl rfl ?_
            rintro _ _ rfl
            refine ⟨(fun h => by cases h), ?_⟩
            refine WJ_done (by kernel_rfl) ?_
            refine Ps_next hK27 ?_
            refine WC_seq fun K30 hK30 => ?_
            refine WC_drawA mix (fun i => ([2, 2, 1, 2, 2, 2, 2, 2, 2, 2, 2, 2, 2, 2, 2, 2, 2, 2, 2, 2] : List Nat).getD i 0) ?_
            refine WJ_takeP 0 rfl (by kernel_rfl) (Rd_valE (v := sl (some b14) (ringD x ((ordL (ringD x) n).getD i' 0)).1.length 32) (Rd_sliceA0 rfl ud42 sz5) (by rw [Dg_len])) rfl rfl rfl (hp _ _) ?_
            refine WJ_takeP 1 rfl (by kernel_rfl) (Rd_valE (v := sl (some b13) (ringD x ((ordL (ringD x) n).getD (i' - 1) 0)).1.length 32) (Rd_sliceA0 rfl ud42 sz5) (by rw [Dg_len])) rfl rfl rfl (hp _ _) ?_
            refine WJ_all (rs := [2]) (by kernel_rfl) rfl ?_
            refine WI_one ?_
            have hsB : Sv [arr (some b14) 32 1 42 (eU .u8) (ringD x ((ordL (ringD x) n).getD i' 0)).1] (sl (some b14) (ringD x ((ordL (ringD x) n).getD i' 0)).1.length 32) 1 (eU .u8 (w := 8)) (ringD x ((ordL (ringD x) n).getD i' 0)).1 (some ⟨b14, 0, none⟩) 32 := Sv_own' (a := some b14) (T := 42) (encU .u8 (w := 8)) (by simp) (by rw [Dg_len]; exact Nat.le_refl _)
            have hsA : Sv [arr (some b13) 32 1 42 (eU .u8) (ringD x ((ordL (ringD x) n).getD (i' - 1) 0)).1] (sl (some b13) (ringD x ((ordL (ringD x) n).getD (i' - 1) 0)).1.length 32) 1 (eU .u8 (w := 8)) (ringD x ((ordL (ringD x) n).getD (i' - 1) 0)).1 (some ⟨b13, 0, none⟩) 32 := Sv_own' (a := some b13) (T := 42) (encU .u8 (w := 8)) (by simp) (by rw [Dg_len]; exact Nat.le_refl _)
            refine WI_ac rfl (Ac_call cf78 rfl (hs := Ct.un0 (Xs := [arr (some b14) 32 1 42 (eU .u8) (ringD x ((ordL (ringD x) n).getD i' 0)).1, arr (some b13) 32 1 42 (eU .u8) (ringD x ((ordL (ringD x) n).getD (i' - 1) 0)).1]) (less_ct (X := sep [arr (some b14) 32 1 42 (eU .u8) (ringD x ((ordL (ringD x) n).getD i' 0)).1, arr (some b13) 32 1 42 (eU .u8) (ringD x ((ordL (ringD x) n).getD (i' - 1) 0)).1]) (l := (ringD x ((ordL (ringD x) n).getD i' 0)).1) (l' := (ringD x ((ordL (ringD x) n).getD (i' - 1) 0)).1) (hS := hsB.pk (by repeat (first | with_reducible exact Has.here | with_reducible refine Has.there ?_))) (hS' := hsA.pk (by repeat (first | with_reducible exact Has.here | with_reducible refine Has.there ?_))) (he := by rw [Dg_len, Dg_len])))) rfl rfl rfl rfl ?_
            rintro _ _ ⟨⟨⟩, rfl, hA⟩
            simp only [List.cons_append, List.nil_append] at hA
            replace hA := hA.symm
            subst hA
            rw [decide_eq_false (ord_nl hlt)]
            refine ⟨(fun _ => (by repeat (first | with_reducible exact Sub.refl | with_reducible exact Sub.nil | with_reducible refine Sub.cons (by repeat (first | with_reducible exact Ext.here | with_reducible apply Ext.there)) ?_ | with_reducible refine Sub.tail ?_))), ?_⟩
            refine WJ_takeP 3 rfl (by kernel_rfl) (Rd_move rfl) rfl rfl rfl (hp _ _) ?_
            refine WJ_tk 4 (Rd_loadW rfl tk42) hp ?_ rfl (by kernel_rfl) rfl rfl rfl
            refine WJ_tk 5 (Rd_loadW rfl tk42) hp ?_ rfl (by kernel_rfl) rfl rfl rfl
            refine WJ_takeP 6 rfl (by kernel_rfl) (Rd_eqW rfl rfl ais42) rfl rfl rfl (hp _ _) ?_
            refine WJ_takeP 7 rfl (by kernel_rfl) (Rd_move rfl) rfl rfl rfl (hp _ _) ?_
            refine WJ_bool 121 rfl (fun hg31 => ?_) (fun hg31 => ?_)
            · try simp only [decide_eq_true_eq, decide_eq_false_iff_not, Bool.not_eq_true', Bool.not_eq_false', Bool.not_eq_true, Bool.not_eq_false, Int.not_lt, Int.not_le, Nat.not_lt, Nat.not_le, Decidable.not_not, ne_eq] at hg31
              have hqe := ord_eq hlt hg31
              refine WJ_tk 8 (Rd_load rfl tk101) hp ?_ rfl (by kernel_rfl) rfl rfl rfl
              refine WJ_takeP 9 rfl (by kernel_rfl) (Rd_move rfl) rfl rfl rfl (hp _ _) ?_
              refine WJ_takeP 10 rfl (by kernel_rfl) (Rd_index i' rfl rfl ud101 sz3 (hi := by omega)) rfl rfl rfl (hp _ _) ?_
              refine WJ_tk 11 (Rd_load_arr (i := i') (j := 0) rfl tk3 (hl := at_N (by omega))) hp ?_ rfl (by kernel_rfl) rfl rfl rfl
              refine WJ_tk 12 (Rd_load rfl tk101) hp ?_ rfl (by kernel_rfl) rfl rfl rfl
              refine WJ_takeP 13 rfl (by kernel_rfl) (Rd_move rfl) rfl rfl rfl (hp _ _) ?_
              refine WJ_takeP 14 rfl (by kernel_rfl) (Rd_subN (j := 1) rfl rfl) rfl rfl rfl (hp _ _) ?_
              refine WJ_takeP 15 rfl (by kernel_rfl) (Rd_index (i' - 1) rfl rfl ud101 sz3 (hi := by omega)) rfl rfl rfl (hp _ _) ?_
              refine WJ_tk 16 (Rd_load_arr (i := (i' - 1)) (j := 0) rfl tk3 (hl := at_N (by omega))) hp ?_ rfl (by kernel_rfl) rfl rfl rfl
              refine WJ_takeP 17 rfl (by kernel_rfl) (Rd_isF (Rd_lssN rfl rfl)) rfl rfl rfl (hp _ _) ?_
              refine WJ_takeP 18 rfl (by kernel_rfl) (Rd_pickT rfl rfl) rfl rfl rfl (hp _ _) ?_
              refine WJ_takeP 19 rfl (by kernel_rfl) (Rd_pickF rfl rfl) rfl rfl rfl (hp _ _) ?_
              refine WJ_done (by kernel_rfl) ?_
              refine Ps_next hK30 ?_
              refine WC_condF rfl ?_
              refine WC_skip ?_
              refine Ps_next hK13 ?_
              refine WC_region ?_
              refine WL_rd (Rd_move rfl) rfl rfl rfl ?_
              refine WL_rd (Rd_addN (j := 1) rfl rfl) rfl rfl rfl ?_
              refine WL_rd (Rd_assign rfl) rfl rfl rfl ?_
              refine WL_nil ?_
              refine Ps_wk (by (try simp only [List.cons_append, List.nil_append]); repeat (first | with_reducible exact Wk.nil | refine Wk.cons (by first | rfl | (simp only [List.length_append, List.length_cons, List.length_nil, List.length_replicate, Nat.zero_add]; rfl) | (simp; done)) ?_)) (by (try simp only [List.cons_append, List.nil_append]); repeat (first | with_reducible exact Sub.refl | with_reducible exact Sub.nil | with_reducible refine Sub.cons (by repeat (first | with_reducible exact Ext.here | with_reducible apply Ext.there)) ?_ | with_reducible refine Sub.tail ?_)) (hK10 (i' + 1) (by omega) (by omega))
            · try simp only [decide_eq_true_eq, decide_eq_false_iff_not, Bool.not_eq_true', Bool.not_eq_false', Bool.not_eq_true, Bool.not_eq_false, Int.not_lt, Int.not_le, Nat.not_lt, Nat.not_le, Decidable.not_not, ne_eq] at hg31
              refine WJ_skip 8 rfl (by kernel_rfl) rfl rfl rfl (hp _ _) ?_
              refine WJ_skip 9 rfl (by kernel_rfl) rfl rfl rfl (hp _ _) ?_
              refine WJ_skip 10 rfl (by kernel_rfl) rfl rfl rfl (hp _ _) ?_
              refine WJ_skip 11 rfl (by kernel_rfl) rfl rfl rfl (hp _ _) ?_
              refine WJ_skip 12 rfl (by kernel_rfl) rfl rfl rfl (hp _ _) ?_
              refine WJ_skip 13 rfl (by kernel_rfl) rfl rfl rfl (hp _ _) ?_
              refine WJ_skip 14 rfl (by kernel_rfl) rfl rfl rfl (hp _ _) ?_
              refine WJ_skip 15 rfl (by kernel_rfl) rfl rfl rfl (hp _ _) ?_
              refine WJ_skip 16 rfl (by kernel_rfl) rfl rfl rfl (hp _ _) ?_
              refine WJ_skip 17 rfl (by kernel_rfl) rfl rfl rfl (hp _ _) ?_
              refine WJ_takeP 18 rfl (by kernel_rfl) (Rd_pickF rfl rfl) rfl rfl rfl (hp _ _) ?_
              refine WJ_takeP 19 rfl (by kernel_rfl) (Rd_pickF rfl rfl) rfl rfl rfl (hp _ _) ?_
              refine WJ_done (by kernel_rfl) ?_
              refine Ps_next hK30 ?_
              refine WC_condF rfl ?_
              refine WC_skip ?_
              refine Ps_next hK13 ?_
              refine WC_region ?_
              refine WL_rd (Rd_move rfl) rfl rfl rfl ?_
              refine WL_rd (Rd_addN (j := 1) rfl rfl) rfl rfl rfl ?_
              refine WL_rd (Rd_assign rfl) rfl rfl rfl ?_
              refine WL_nil ?_
              refine Ps_wk (by (try simp only [List.cons_append, List.nil_append]); repeat (first | with_reducible exact Wk.nil | refine Wk.cons (by first | rfl | (simp only [List.length_append, List.length_cons, List.length_nil, List.length_replicate, Nat.zero_add]; rfl) | (simp; done)) ?_)) (by (try simp only [List.cons_append, List.nil_append]); repeat (first | with_reducible exact Sub.refl | with_reducible exact Sub.nil | with_reducible refine Sub.cons (by repeat (first | with_reducible exact Ext.here | with_reducible apply Ext.there)) ?_ | with_reducible refine Sub.tail ?_)) (hK10 (i' + 1) (by omega) (by omega))
      · try simp only [decide_eq_true_eq, decide_eq_false_iff_not, Bool.not_eq_true', Bool.not_eq_false', Bool.not_eq_true, Bool.not_eq_false, Int.not_lt, Int.not_le, Nat.not_lt, Nat.not_le, Decidable.not_not, ne_eq] at hc5
        refine WC_skip ?_
        refine Ps_next hK13 ?_
        refine WC_region ?_
        refine WL_rd (Rd_move rfl) rfl rfl rfl ?_
        refine WL_rd (Rd_addN (j := 1) rfl rfl) rfl rfl rfl ?_
        refine WL_rd (Rd_assign rfl) rfl rfl rfl ?_
        refine WL_nil ?_
        refine Ps_wk (by (try simp only [List.cons_append, List.nil_append]); repeat (first | with_reducible exact Wk.nil | refine Wk.cons (by first | rfl | (simp only [List.length_append, List.length_cons, List.length_nil, List.length_replicate, Nat.zero_add]; rfl) | (simp; done)) ?_)) (by (try simp only [List.cons_append, List.nil_append]); repeat (first | with_reducible exact Sub.refl | with_reducible exact Sub.nil | with_reducible refine Sub.cons (by repeat (first | with_reducible exact Ext.here | with_reducible apply Ext.there)) ?_ | with_reducible refine Sub.tail ?_)) (hK10 (i' + 1) (by omega) (by omega))
    · try simp only [decide_eq_true_eq, decide_eq_false_iff_not, Bool.not_eq_true', Bool.not_eq_false', Bool.not_eq_true, Bool.not_eq_false, Int.not_lt, Int.not_le, Nat.not_lt, Nat.not_le, Decidable.not_not, ne_eq] at hc2
      obtain rfl : n = i' := by omega
      refine WC_exit ?_
      refine Ps_next hK8 ?_
      refine WC_seq fun K32 hK32 => ?_
      refine WC_sr fun K33 hK33 => ?_
      refine WL_rd (Rd_load rfl tk101) rfl rfl rfl ?_
      refine WL_rd (Rd_len rfl rfl ud101) rfl rfl rfl ?_
      refine WL_rd (Rd_load rfl tk3) rfl rfl rfl ?_
      refine WL_rd (Rd_isF (Rd_neqN rfl rfl)) rfl rfl rfl ?_
      refine WL_end hK33 ?_
      refine WC_condF rfl ?_
      refine WC_skip ?_
      refine Ps_next hK32 ?_
      refine WC_sr fun K34 hK34 => ?_
      refine WL_rd (Rd_loadW rfl tk120) rfl rfl rfl ?_
      refine WL_rd (Rd_load rfl tk3) rfl rfl rfl ?_
      refine WL_rd (Rd_move rfl) rfl rfl rfl ?_
      refine WL_ac (Ac_call cf76 rfl (hs := rgRound_ct (x := x) (n := (n : Int)) (f := f))) rfl rfl rfl ?_
      rintro _ _ ⟨⟨c1, c2, c3⟩, rfl, hA⟩
      simp only [List.cons_append, List.nil_append] at hA
      replace hA := hA.symm
      subst hA
      refine WL_rd (Rd_assign rfl) rfl rfl rfl ?_
      refine WL_end hK34 ?_
      refine WC_seq fun K35 hK35 => ?_
      refine WC_sr fun K36 hK36 => ?_
      refine WL_rd (Rd_move rfl) rfl rfl rfl ?_
      first | refine WL_rd (Rd_feq rfl rfl Try.underlying129) rfl rfl rfl ?_ | refine WL_rd (Rd_feq0 rfl rfl Try.underlying129) rfl rfl rfl ?_
      refine WL_end hK36 ?_
      refine WC_condF rfl ?_
      refine WC_skip ?_
      refine Ps_next hK35 ?_
      refine WC_sr fun K37 hK37 => ?_
      refine WL_rd (Rd_move rfl) rfl rfl rfl ?_
      refine WL_rd (Rd_load rfl tk3) rfl rfl rfl ?_
      refine WL_ac (Ac_call cf39 rfl (hs := pick_ct (x := f) (n := n))) rfl rfl rfl ?_
      rintro _ _ ⟨⟨⟩, rfl, hA⟩
      simp only [List.cons_append, List.nil_append] at hA
      replace hA := hA.symm
      subst hA
      refine WL_ac (Ac_alloc zr3) rfl rfl rfl ?_
      rintro _ _ ⟨b16, rfl, rfl⟩
      refine WL_ac0 (Ac_store1 rfl rfl sz3) rfl rfl ?_
      rintro _ _ rfl
      refine WL_end hK37 ?_
      refine WC_sr fun K38 hK38 => ?_
      refine WL_ac (Ac_alloc zr3) rfl rfl rfl ?_
      rintro _ _ ⟨b17, rfl, rfl⟩
      refine WL_ac0 (Ac_store1 rfl rfl sz3) rfl rfl ?_
      rintro _ _ rfl
      refine WL_end hK38 ?_
      refine WC_seq fun K39 hK39 => ?_
      refine WC_sr fun K40 hK40 => ?_
      refine WL_rd (Rd_move rfl) rfl rfl rfl ?_
      refine WL_end hK40 ?_
      refine WC_block ?_
      rw [show cl b16 3 [.int .i64 (((pickN f n) : Nat) : Int)] = cl b16 3 [.int .i64 ((((pickN f n + 0) % n) : Nat) : Int)] from by rw [Nat.add_zero, Nat.mod_eq_of_lt hpl]]
      rw [show cl b17 3 [.int .i64 0] = cl b17 3 [.int .i64 ((0 : Nat) : Int)] from rfl]
      refine WC_rf (f := 131) (caps := [.pointer (some ⟨c1, 0, none⟩), .pointer (some ⟨c2, 0, none⟩), .pointer (some ⟨c3, 0, none⟩)]) rfl cf131 fun lrf_0 Drf_0 rrf_0 hstrf_0 hpdrf_0 hparf_0 hasrf_0 hbdrf_0 hfrrf_0 => ?_
      have hyrf_0 : ∀ (i : Nat), i < n → Yd Try.prog lrf_0 [.int .i64 ((((pickN f n + i) % n) : Nat) : Int), .int .i64 ((((ordL (ringD x) n).getD ((pickN f n + i) % n) 0) : Nat) : Int)] [(fun (i : Nat) => exA (fun (_u : Unit) => True) (fun (_u : Unit) => [lp lrf_0 rrf_0, arr (some c1) x.length 1 120 (eU .u8) x, cl c2 3 [.int .i64 ((n : Nat) : Int)], cl c3 3 [.int .i64 f], cl b16 3 [.int .i64 ((((pickN f n + i) % n) : Nat) : Int)], cl b17 3 [.int .i64 ((i : Nat) : Int)], cl b7 101 [sl (some og) n n], arr (some og) n 1 3 eN (ordL (ringD x) n), cl b4 3 [.int .i64 ((n : Nat) : Int)]])) i] (fun b : Bool => .bool b) (fun b => [bif b then (fun (i : Nat) => exA (fun (_u : Unit) => True) (fun (_u : Unit) => [lp lrf_0 rrf_0, arr (some c1) x.length 1 120 (eU .u8) x, cl c2 3 [.int .i64 ((n : Nat) : Int)], cl c3 3 [.int .i64 f], cl b16 3 [.int .i64 ((((pickN f n + i) % n) : Nat) : Int)], cl b17 3 [.int .i64 ((i : Nat) : Int)], cl b7 101 [sl (some og) n n], arr (some og) n 1 3 eN (ordL (ringD x) n), cl b4 3 [.int .i64 ((n : Nat) : Int)]])) (i + 1) else (exA (fun _ : Unit => False) (fun _ => []))]) := by
        intro i hin
        refine Yd_ex ?_
        rintro _u hφ
        refine Yd_of (pre := [arr (some c1) x.length 1 120 (eU .u8) x, cl c2 3 [.int .i64 ((n : Nat) : Int)], cl c3 3 [.int .i64 f], cl b16 3 [.int .i64 ((((pickN f n + i) % n) : Nat) : Int)], cl b17 3 [.int .i64 ((i : Nat) : Int)], cl b7 101 [sl (some og) n n], arr (some og) n 1 3 eN (ordL (ringD x) n), cl b4 3 [.int .i64 ((n : Nat) : Int)]]) hstrf_0 hpdrf_0 hparf_0 hasrf_0 hbdrf_0 hfrrf_0 rfl rfl fun F w0 Q K hp hend hbeg => ?_
        change WC _ _ _ _ _ _ ((149, .int .i64 ((((ordL (ringD x) n).getD ((pickN f n + i) % n) 0) : Nat) : Int)) :: (148, .int .i64 ((((pickN f n + i) % n) : Nat) : Int)) :: _) (_ :: _ :: _ :: _ :: _ :: _ :: _ :: _ :: _ :: F)
        dsimp only at *
        have hmod : ((pickN f n + i) % n) < n := Nat.mod_lt _ (by omega)
        refine WC_sr fun K41 hK41 => ?_
        refine WL_rd (Rd_assign rfl) rfl rfl rfl ?_
        refine WL_end hK41 ?_
        refine WC_region ?_
        refine WL_rd (Rd_assign rfl) rfl rfl rfl ?_
        refine WL_nil ?_
        refine hbeg (by repeat (first | with_reducible exact Ext.here | with_reducible apply Ext.there)) ?_
        refine WC_block ?_
        refine WC_seq fun K42 hK42 => ?_
        refine WC_sr fun K43 hK43 => ?_
        refine WL_rd (Rd_move rfl) rfl rfl rfl ?_
        refine WL_rd (Rd_load rfl tk3) rfl rfl rfl ?_
        refine WL_rd (Rd_isF (Rd_neqN rfl rfl)) rfl rfl rfl ?_
        refine WL_rd (Rd_move rfl) rfl rfl rfl ?_
        refine WL_rd (Rd_move rfl) rfl rfl rfl ?_
        refine WL_rd (Rd_load rfl tk101) rfl rfl rfl ?_
        refine WL_rd (Rd_load rfl tk3) rfl rfl rfl ?_
        refine WL_rd (Rd_index ((pickN f n + i) % n) rfl rfl ud101 sz3 (hi := by omega)) rfl rfl rfl ?_
        refine WL_rd (Rd_load_arr (i := ((pickN f n + i) % n)) (j := 0) rfl tk3 (hl := at_N (by omega))) rfl rfl rfl ?_
        refine WL_rd (Rd_isF (Rd_neqN rfl rfl)) rfl rfl rfl ?_
        refine WL_rd (Rd_pickF rfl rfl) rfl rfl rfl ?_
        refine WL_end hK43 ?_
        refine WC_condF rfl ?_
        refine WC_skip ?_
        refine Ps_next hK42 ?_
        refine WC_sr fun K44 hK44 => ?_
        refine WL_rd (Rd_load rfl tk3) rfl rfl rfl ?_
        refine WL_rd (Rd_addN (j := 1) rfl rfl) rfl rfl rfl ?_
        refine WL_rd (Rd_load rfl tk3) rfl rfl rfl ?_
        refine WL_rd (Rd_remN rfl rfl) rfl rfl rfl ?_
        rw [show (((pickN f n + i) % n) + 1) % n = ((pickN f n + (i + 1)) % n) from by rw [Nat.mod_add_mod]; rfl]
        refine WL_ac0 (Ac_store1 rfl rfl sz3) rfl rfl ?_
        rintro _ _ rfl
        refine WL_end hK44 ?_
        refine WC_region ?_
        refine WL_rd (Rd_load rfl tk3) rfl rfl rfl ?_
        refine WL_rd (Rd_addN (j := 1) rfl rfl) rfl rfl rfl ?_
        refine WL_ac0 (Ac_store1 rfl rfl sz3) rfl rfl ?_
        rintro _ _ rfl
        refine WL_nil ?_
        refine hend.nrm true rfl (by repeat (first | with_reducible exact Ext.here | with_reducible apply Ext.there)) ?_
        try simp only [List.cons_append, List.nil_append, cond_true, cond_false]
        exact imp_ex (()) (trivial) (by (try dsimp only); (try simp only [List.cons_append, List.nil_append]); repeat (first | with_reducible exact Sub.refl | with_reducible exact Sub.nil | with_reducible refine Sub.cons (by repeat (first | with_reducible exact Ext.here | with_reducible apply Ext.there)) ?_ | with_reducible refine Sub.tail ?_))
      refine ⟨_, _, _, _, _, rgRoundI_ct (x := x) (n := n) (f := f) (X := (fun (i : Nat) => exA (fun (_u : Unit) => True) (fun (_u : Unit) => [lp lrf_0 rrf_0, arr (some c1) x.length 1 120 (eU .u8) x, cl c2 3 [.int .i64 ((n : Nat) : Int)], cl c3 3 [.int .i64 f], cl b16 3 [.int .i64 ((((pickN f n + i) % n) : Nat) : Int)], cl b17 3 [.int .i64 ((i : Nat) : Int)], cl b7 101 [sl (some og) n n], arr (some og) n 1 3 eN (ordL (ringD x) n), cl b4 3 [.int .i64 ((n : Nat) : Int)]]))) (J := (exA (fun _ : Unit => False) (fun _ => []))) (hX := fun i R w h => exA_lend3.1 h) (hX' := fun i R w h => exA_lend3.2 h) (hy := hyrf_0), imp_rf (Y := []) ((())) (trivial) (by repeat (first | with_reducible exact Gv.nil | (with_reducible apply Gv.cons; · (repeat (first | with_reducible exact Ext.here | with_reducible apply Ext.there))))) (by (try dsimp only); repeat (first | with_reducible exact Gv.nil | (with_reducible apply Gv.cons; · (repeat (first | with_reducible exact Ext.here | with_reducible apply Ext.there))))), ?_⟩
      · rintro (_ | _)
        · simp only [List.cons_append, List.nil_append, cond_true, cond_false]
          refine RfEnd_ex ?_
          exact fun _ h => h.elim
        · simp only [List.cons_append, List.nil_append, cond_true, cond_false]
          refine RfEnd_ex ?_
          rintro _u hφ
          simp only [List.cons_append, List.nil_append]
          refine RfEnd_nrm hstrf_0 hpdrf_0 ?_
          refine Ps_next hK39 ?_
          refine WC_sr fun K45 hK45 => ?_
          refine WL_rd (Rd_load rfl tk3) rfl rfl rfl ?_
          refine WL_rd (Rd_load rfl tk3) rfl rfl rfl ?_
          refine WL_rd (Rd_isT (Rd_eqlN rfl rfl)) rfl rfl rfl ?_
          refine WL_ac0 (Ac_store1 rfl rfl sz4) rfl rfl ?_
          rintro _ _ rfl
          refine WL_end hK45 ?_
          refine WC_ret ?_
          refine hret.goD () ?_
          exact Rs1cs rfl rfl tk4

theorem WholeBad_ct {x : List B8} {n f : Int} (hx : x.length = 16 := by first | with_reducible assumption | omega) (hb : n < 1 ∨ 32 < n) : Ct Try.prog 23 [aU .u8 x, .int .i64 n, .int .i64 f] [] (fun _ : Unit => .bool true) (fun _ => []) := by
  refine Ct_body (n := 170) Try.func23 rfl rfl rfl fun F w0 Q hret hnorm hp => ?_
  change WC _ _ _ _ _ _ _ (F)
  refine WC_sr fun K1 hK1 => ?_
  refine WL_ac (Ac_boxW (k := .u8) rfl) rfl rfl rfl ?_
  rintro _ _ ⟨b3, rfl, rfl⟩
  refine WL_ac (Ac_box rfl rfl) rfl rfl rfl ?_
  rintro _ _ ⟨b4, rfl, rfl⟩
  refine WL_ac (Ac_alloc zr4) rfl rfl rfl ?_
  rintro _ _ ⟨b6, rfl, rfl⟩
  refine WL_end hK1 ?_
  refine WC_seq fun K2 hK2 => ?_
  refine WC_sr fun K3 hK3 => ?_
  refine WL_ac (Ac_call cf70 rfl (hs := rgAwake_ct)) rfl rfl rfl ?_
  rintro _ _ ⟨⟨⟩, rfl, hA⟩
  simp only [List.cons_append, List.nil_append] at hA
  replace hA := hA.symm
  subst hA
  refine WL_rd (Rd_not rfl) rfl rfl rfl ?_
  refine WL_end hK3 ?_
  refine WC_condF rfl ?_
  refine WC_skip ?_
  refine Ps_next hK2 ?_
  refine WC_sr fun K4 hK4 => ?_
  refine WL_rd (Rd_loadW rfl tk120) rfl rfl rfl ?_
  refine WL_rd (Rd_load rfl tk3) rfl rfl rfl ?_
  refine WL_ac (Ac_call cf71 rfl (hs := orderN_ct (x := x) (n := n) (hb := hb))) rfl rfl rfl ?_
  rintro _ _ ⟨⟨⟩, rfl, hA⟩
  simp only [List.cons_append, List.nil_append] at hA
  replace hA := hA.symm
  subst hA
  refine WL_rd (Rd_move rfl) rfl rfl rfl ?_
  refine WL_rd (Rd_ext0 rfl) rfl rfl rfl ?_
  refine WL_rd (Rd_ext1 rfl) rfl rfl rfl ?_
  refine WL_ac (Ac_alloc zr101) rfl rfl rfl ?_
  rintro _ _ ⟨b7, rfl, rfl⟩
  refine WL_ac0 (Ac_store1 rfl rfl sz101) rfl rfl ?_
  rintro _ _ rfl
  refine WL_rd (Rd_assign rfl) rfl rfl rfl ?_
  refine WL_end hK4 ?_
  refine WC_seq fun K5 hK5 => ?_
  refine WC_sr fun K6 hK6 => ?_
  refine WL_rd (Rd_move rfl) rfl rfl rfl ?_
  refine WL_rd (Rd_neqN (i := 2) (j := 0) rfl rfl) rfl rfl rfl ?_
  refine WL_end hK6 ?_
  refine WC_condT rfl ?_
  refine WC_sr fun K7 hK7 => ?_
  refine WL_rd (Rd_move rfl) rfl rfl rfl ?_
  refine WL_rd (Rd_eqlN (i := 2) (j := 2) rfl rfl) rfl rfl rfl ?_
  refine WL_rd (Rd_move rfl) rfl rfl rfl ?_
  refine WL_rd (Rd_load rfl tk101) rfl rfl rfl ?_
  refine WL_rd (Rd_len rfl rfl ud101) rfl rfl rfl ?_
  refine WL_rd (Rd_isT (Rd_eqlN (j := 0) rfl rfl)) rfl rfl rfl ?_
  refine WL_rd (Rd_pickT rfl rfl) rfl rfl rfl ?_
  refine WL_rd (Rd_move rfl) rfl rfl rfl ?_
  refine WL_rd (Rd_load rfl tk3) rfl rfl rfl ?_
  refine WL_rd (Rd_lss rfl rfl) rfl rfl rfl ?_
  refine WL_rd (Rd_move rfl) rfl rfl rfl ?_
  refine WL_bool 40 rfl (fun hg8 => ?_) (fun hg8 => ?_)
  · try simp only [decide_eq_true_eq, decide_eq_false_iff_not, Bool.not_eq_true', Bool.not_eq_false', Bool.not_eq_true, Bool.not_eq_false, Int.not_lt, Int.not_le, Nat.not_lt, Nat.not_le, Decidable.not_not, ne_eq] at hg8
    refine WL_skip rfl rfl rfl ?_
    refine WL_skip rfl rfl rfl ?_
    refine WL_rd (Rd_pickT rfl rfl) rfl rfl rfl ?_
    refine WL_rd (Rd_pickT rfl rfl) rfl rfl rfl ?_
    refine WL_ac0 (Ac_store1 rfl rfl sz4) rfl rfl ?_
    rintro _ _ rfl
    refine WL_end hK7 ?_
    refine WC_ret ?_
    exact hret.go () (Rs1cs rfl rfl tk4)
  · try simp only [decide_eq_true_eq, decide_eq_false_iff_not, Bool.not_eq_true', Bool.not_eq_false', Bool.not_eq_true, Bool.not_eq_false, Int.not_lt, Int.not_le, Nat.not_lt, Nat.not_le, Decidable.not_not, ne_eq] at hg8
    have q0 := hg8
    refine WL_rd (Rd_load rfl tk3) rfl rfl rfl ?_
    refine WL_rd (Rd_isT (Rd_gtr rfl rfl)) rfl rfl rfl ?_
    refine WL_rd (Rd_pickF rfl rfl) rfl rfl rfl ?_
    refine WL_rd (Rd_pickT rfl rfl) rfl rfl rfl ?_
    refine WL_ac0 (Ac_store1 rfl rfl sz4) rfl rfl ?_
    rintro _ _ rfl
    refine WL_end hK7 ?_
    refine WC_ret ?_
    exact hret.go () (Rs1cs rfl rfl tk4)

theorem WholeAll_ct {x : List B8} {n f : Int} (hx : x.length = 16 := by first | with_reducible assumption | omega) : Ct Try.prog 23 [aU .u8 x, .int .i64 n, .int .i64 f] [] (fun _ : Unit => .bool true) (fun _ => []) := by
  by_cases h : 1 ≤ n ∧ n ≤ 32
  · obtain ⟨m, rfl⟩ := Int.eq_ofNat_of_zero_le (show 0 ≤ n by omega)
    exact Whole_ct (h1 := by omega) (h2 := by omega)
  · exact WholeBad_ct (hb := by omega)
end Go.Proofs.Ythkchjcodibaeaa
