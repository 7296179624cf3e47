/-
  Contracts of functions that the claim reaches, or the logic and the plain laws that they rest on, or the row over them. (Conditions: none beyond the statement.)
-/
import Derived.Test.YtcemkpiopijbmaaCqPb
import Derived.Test.YtcemkpiopijbmaaApU
set_option linter.all false
namespace Go.Proofs.Ytcemkpiopijbmaa
open Go.RowKit Go.SL Go.HpM Go.ShM 
set_option maxHeartbeats 1000000
set_option maxRecDepth 20000
set_option linter.all false
theorem cf30 : cfn Try.prog 30 = true := by kernel_rfl
theorem fo81_0 : fo Try.prog 81 0 = some (0, 3) := by kernel_rfl
theorem fo81_1 : fo Try.prog 81 1 = some (1, 3) := by kernel_rfl
theorem fo81_2 : fo Try.prog 81 2 = some (2, 45) := by kernel_rfl
theorem ikd45_5 : ikd Try.prog 45 5 = some .u8 := by kernel_rfl
theorem sz5 : sz Try.prog 5 = some 1 := by kernel_rfl
theorem ud5 : Try.prog.underlying 5 = some (.int .u8) := by kernel_rfl
theorem ud70 : Try.prog.underlying 70 = some (.slice 5) := by kernel_rfl
theorem zr5 : zr Try.prog 5 = some [.int .u8 0] := by kernel_rfl
def eDR (r : Nat × DW) : List Value := [.int .i64 ((r.1 : Nat) : Int), .int .i64 r.2.1, .int .u32 (r.2.2.toNat : Int)]
theorem encDR : Enc eDR 3 := ⟨fun _ => rfl, fun x v hv => by simp only [eDR, List.mem_cons, List.not_mem_nil, or_false] at hv; rcases hv with rfl | rfl | rfl <;> rfl⟩
theorem kS_cm : Cm kS_lt := fun _ _ => rfl
theorem at_r {α : Type} {l : List α} {i : Nat} (h : i < l.length) : ∃ x, l[i]? = some x := ⟨_, List.getElem?_eq_getElem h⟩
def mayB (t : Int) : Bool := decide (0 ≤ t) && decide (t ≤ 1099511627776)
theorem mayB_t {t : Int} : mayB t = true ↔ 0 ≤ t ∧ t ≤ 1099511627776 := by unfold mayB; simp
theorem mayB_f {t : Int} : mayB t = false ↔ t < 0 ∨ 1099511627776 < t := by unfold mayB; simp; omega
theorem lsX_at {L : List (Nat × DW)} (h : 0 < L.length) : L[(leastP dlt L L.length).toNat]? = some (lsX L) := by
  have hr := leastP_rng (lt := dlt) L L.length (Nat.le_refl _)
  obtain ⟨x, hx⟩ := at_r (l := L) (i := (leastP dlt L L.length).toNat) (by omega)
  unfold lsX; rw [hx]; rfl
theorem leP_pos {L : List (Nat × DW)} (h : 0 < L.length) : leastP dlt L L.length = (((leastP dlt L L.length).toNat : Nat) : Int) := by
  have hr := leastP_rng (lt := dlt) L L.length (Nat.le_refl _); omega
theorem leP_0 {L : List (Nat × DW)} : leastP dlt L L.length < 0 ↔ L = [] := by
  have hr := leastP_rng (lt := dlt) L L.length (Nat.le_refl _)
  constructor
  · intro h; exact List.eq_nil_of_length_eq_zero (by omega)
  · intro h; subst h; decide
theorem er_td {L : List (Nat × DW)} {i : Nat} : L.take i ++ L.drop (i + 1) = L.eraseIdx i := (List.eraseIdx_eq_take_drop_succ L i).symm

theorem word_ct {x : BitVec 32}  : Ct Try.prog 30 [.int .u32 ((x.toNat : Nat) : Int)] [] (fun _ : Unit => .string (wordB x)) (fun _ => []) := by
  refine Ct_body (n := 17) Try.func30 rfl rfl rfl fun F w0 Q hret hnorm hp => ?_
  change WC _ _ _ _ _ _ _ (F)
  refine WC_sr fun K1 hK1 => ?_
  refine WL_rd (Rd_assign rfl) rfl rfl rfl ?_
  refine WL_end hK1 ?_
  refine WC_sr fun K2 hK2 => ?_
  refine WL_rd (Rd_move rfl) rfl rfl rfl ?_
  refine WL_rd (Rd_convU rfl ikd45_5 (h' := uk8)) rfl rfl rfl ?_
  refine WL_rd (Rd_move rfl) rfl rfl rfl ?_
  refine WL_rd (Rd_shrU (j := 8) rfl rfl) rfl rfl rfl ?_
  refine WL_rd (Rd_convU rfl ikd45_5 (h' := uk8)) rfl rfl rfl ?_
  refine WL_rd (Rd_move rfl) rfl rfl rfl ?_
  refine WL_rd (Rd_shrU (j := 16) rfl rfl) rfl rfl rfl ?_
  refine WL_rd (Rd_convU rfl ikd45_5 (h' := uk8)) rfl rfl rfl ?_
  refine WL_rd (Rd_move rfl) rfl rfl rfl ?_
  refine WL_rd (Rd_shrU (j := 24) rfl rfl) rfl rfl rfl ?_
  refine WL_rd (Rd_convU rfl ikd45_5 (h' := uk8)) rfl rfl rfl ?_
  refine WL_ac (Ac_bsL (f := eU .u8 (w := 8)) (zs := [.int .u8 0]) (bs := [.int .u8 0, .int .u8 0, .int .u8 0, .int .u8 0]) (wordL x) (encU .u8) ud70 zr5 sz5 rfl (by rw [Array.toList_map, Array.toList_range]; rfl) (by rfl) (by rfl) (by rfl) (by rfl)) rfl rfl rfl ?_
  rintro _ _ ⟨b14, rfl, rfl⟩
  refine WL_fact (fun w h => arr_facts (a := some b14) (cap := 4) (e := 1) (T := 5) (f := eU .u8 (w := 8)) (l := wordL x) (by repeat (first | with_reducible exact Has.here | with_reducible refine Has.there ?_)) h) (fun hf14 => ?_)
  have hS14 : Sv [arr (some b14) 4 1 5 (eU .u8 (w := 8)) (wordL x)] (sl (some b14) 4 4) 1 (eU .u8 (w := 8)) (wordL x) (some ⟨b14, 0, none⟩) 4 := Sv_own' (encU .u8) hf14.1 hf14.2
  refine WL_rd (Rd_convBS rfl ud70 ud9 ud5 (hA := hS14)) rfl rfl rfl ?_
  refine WL_rd (Rd_stradd (p := ⟨#[119]⟩) rfl rfl (by have e : (strB (wordL x)).size = 4 := rfl; rw [e]; decide)) rfl rfl rfl ?_
  refine WL_rd (Rd_assign rfl) rfl rfl rfl ?_
  refine WL_end hK2 ?_
  refine WC_ret ?_
  exact hret.goE () (Rs1 rfl rfl) rfl

theorem alike_ct {y : Nat × DW}  : Ct Try.prog 34 [.agg [.int .i64 (toD y).2.1, .int .i64 (toD y).2.2.1, .string (toD y).2.2.2].toArray, .agg (eDR y).toArray] [] (fun _ : Unit => .bool true) (fun _ => []) := by
  refine Ct_body (n := 25) Try.func34 rfl rfl rfl fun F w0 Q hret hnorm hp => ?_
  change WC _ _ _ _ _ _ _ (F)
  refine WC_sr fun K1 hK1 => ?_
  refine WL_ac (Ac_box (xs := [.int .i64 ((y.1 : Nat) : Int), .int .i64 y.2.1, .string (wordB y.2.2)]) rfl rfl) rfl rfl rfl ?_
  rintro _ _ ⟨b2, rfl, rfl⟩
  refine WL_ac (Ac_box (xs := eDR y) rfl rfl) rfl rfl rfl ?_
  rintro _ _ ⟨b3, rfl, rfl⟩
  refine WL_rd (Rd_assign rfl) rfl rfl rfl ?_
  refine WL_end hK1 ?_
  refine WC_seq fun K2 hK2 => ?_
  refine WC_drawA mix (fun i => ([2, 2, 2, 2, 2, 2, 2, 2, 2, 2, 2, 2, 2, 2, 2, 2, 2, 1, 2, 2, 2] : List Nat).getD i 0) ?_
  refine WJ_takeP 0 rfl (by kernel_rfl) (Rd_fieldAddr rfl fo62_0) rfl rfl rfl (hp _ _) ?_
  refine WJ_tk 1 (Rd_load rfl tk3 (v := .int .i64 ((y.1 : Nat) : Int))) hp ?_ rfl (by kernel_rfl) rfl rfl rfl
  refine WJ_takeP 2 rfl (by kernel_rfl) (Rd_fieldAddr rfl fo81_0) rfl rfl rfl (hp _ _) ?_
  refine WJ_tk 3 (Rd_load rfl tk3 (v := .int .i64 ((y.1 : Nat) : Int))) hp ?_ rfl (by kernel_rfl) rfl rfl rfl
  refine WJ_takeP 4 rfl (by kernel_rfl) (Rd_isT (Rd_eqlN rfl rfl)) rfl rfl rfl (hp _ _) ?_
  refine WJ_takeP 5 rfl (by kernel_rfl) (Rd_move rfl) rfl rfl rfl (hp _ _) ?_
  refine WJ_takeP 6 rfl (by kernel_rfl) (Rd_fieldAddr rfl fo62_1) rfl rfl rfl (hp _ _) ?_
  refine WJ_tk 7 (Rd_load rfl tk3 (v := .int .i64 y.2.1)) hp ?_ rfl (by kernel_rfl) rfl rfl rfl
  refine WJ_takeP 8 rfl (by kernel_rfl) (Rd_fieldAddr rfl fo81_1) rfl rfl rfl (hp _ _) ?_
  refine WJ_tk 9 (Rd_load rfl tk3 (v := .int .i64 y.2.1)) hp ?_ rfl (by kernel_rfl) rfl rfl rfl
  refine WJ_takeP 10 rfl (by kernel_rfl) (Rd_isT (Rd_eql rfl rfl)) rfl rfl rfl (hp _ _) ?_
  refine WJ_takeP 11 rfl (by kernel_rfl) (Rd_pickT rfl rfl) rfl rfl rfl (hp _ _) ?_
  refine WJ_takeP 12 rfl (by kernel_rfl) (Rd_move rfl) rfl rfl rfl (hp _ _) ?_
  refine WJ_takeP 13 rfl (by kernel_rfl) (Rd_fieldAddr rfl fo62_2) rfl rfl rfl (hp _ _) ?_
  refine WJ_tk 14 (Rd_load rfl tk9 (v := .string (wordB y.2.2))) hp ?_ rfl (by kernel_rfl) rfl rfl rfl
  refine WJ_takeP 15 rfl (by kernel_rfl) (Rd_fieldAddr rfl fo81_2) rfl rfl rfl (hp _ _) ?_
  refine WJ_tk 16 (Rd_load rfl tk45 (v := .int .u32 (y.2.2.toNat : Int))) hp ?_ rfl (by kernel_rfl) rfl rfl rfl
  refine WJ_all (rs := [17]) (by kernel_rfl) rfl ?_
  refine WI_one ?_
  refine WI_ac rfl (Ac_call cf30 rfl (hs := word_ct (x := y.2.2))) rfl rfl rfl rfl ?_
  rintro _ _ ⟨⟨⟩, rfl, hA⟩
  simp only [List.cons_append, List.nil_append] at hA
  replace hA := hA.symm
  subst hA
  refine ⟨(fun _ => (by repeat (first | with_reducible exact Sub.refl | with_reducible exact Sub.nil | with_reducible refine Sub.cons (by repeat (first | with_reducible exact Ext.here | with_reducible apply Ext.there)) ?_ | with_reducible refine Sub.tail ?_))), ?_⟩
  refine WJ_takeP 18 rfl (by kernel_rfl) (Rd_isT (Rd_streq rfl rfl)) rfl rfl rfl (hp _ _) ?_
  refine WJ_takeP 19 rfl (by kernel_rfl) (Rd_pickT rfl rfl) rfl rfl rfl (hp _ _) ?_
  refine WJ_takeP 20 rfl (by kernel_rfl) (Rd_assign rfl) rfl rfl rfl (hp _ _) ?_
  refine WJ_done (by kernel_rfl) ?_
  refine Ps_next hK2 ?_
  refine WC_ret ?_
  exact hret.go () (Rs1 rfl rfl)
end Go.Proofs.Ytcemkpiopijbmaa
