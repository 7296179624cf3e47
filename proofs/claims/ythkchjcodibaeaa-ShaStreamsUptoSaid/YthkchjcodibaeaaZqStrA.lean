/-
  Contracts of functions that the claim reaches, or the logic and the plain laws that they rest on, or the row over them. (Conditions: none beyond the statement.)
-/
import Derived.Test.YthkchjcodibaeaaZqD
import Derived.Test.YthkchjcodibaeaaZqC
import Derived.Test.YthkchjcodibaeaaZqPieces
import Derived.Test.YthkchjcodibaeaaShStr
set_option linter.all false
namespace Go.Proofs.Ythkchjcodibaeaa
open Go.RowKit Go.SL Go.ShM
set_option maxHeartbeats 1000000
set_option maxRecDepth 20000
set_option linter.all false
theorem sz68 : sz Try.prog 68 = some 11 := by kernel_rfl
theorem tk68 : tk Try.prog 68 = some (some 11) := by kernel_rfl
theorem zr68 : zr Try.prog 68 = some [.bool false, .int .u32 0, .int .u32 0, .int .u32 0, .int .u32 0, .int .u32 0, .int .u32 0, .int .u32 0, .int .u32 0, .slice none 0 0, .int .i64 0] := by kernel_rfl
theorem reset_ct {b : Nat} {M : List B8} {a : Option Nat} {cap : Nat}  : Ct Try.prog 44 [.pointer (some ⟨b, 0, none⟩)] [cl b 68 (hsh (hM M) (sl a (rM M).length cap) (.int .i64 ((M.length : Nat) : Int))), arr a cap 1 5 (eU .u8) (rM M)] (fun _ : Unit => .int .i64 0) (fun _ => [cl b 68 (hsh (hM ([] : List B8)) (sl none (rM ([] : List B8)).length 0) (.int .i64 ((([] : List B8).length : Nat) : Int))), arr none 0 1 5 (eU .u8) (rM ([] : List B8))]) := by
  refine Ct_body (n := 11) Try.func44 rfl rfl rfl fun F w0 Q hret hnorm hp => ?_
  change WC _ _ _ _ _ _ _ (_ :: _ :: F)
  refine WC_sr fun K1 hK1 => ?_
  refine WL_rd (Rd_assign rfl) rfl rfl rfl ?_
  refine WL_end hK1 ?_
  refine WC_seq fun K2 hK2 => ?_
  refine WC_sr fun K3 hK3 => ?_
  refine WL_rd (Rd_move rfl) rfl rfl rfl ?_
  refine WL_ac (Ac_call cf90 rfl (hs := hok_ct)) rfl rfl rfl ?_
  rintro _ _ ⟨⟨⟩, rfl, hA⟩
  simp only [List.cons_append, List.nil_append] at hA
  replace hA := hA.symm
  subst hA
  refine WL_rd (Rd_not rfl) rfl rfl rfl ?_
  refine WL_end hK3 ?_
  refine WC_condF rfl ?_
  refine WC_skip ?_
  refine Ps_next hK2 ?_
  refine WC_sr fun K4 hK4 => ?_
  refine WL_rd (Rd_move rfl) rfl rfl rfl ?_
  refine WL_ac (Ac_call cf35 rfl (hs := new_ct)) rfl rfl rfl ?_
  rintro _ _ ⟨b7, rfl, hA⟩
  simp only [List.cons_append, List.nil_append] at hA
  replace hA := hA.symm
  subst hA
  refine WL_rd (Rd_nilCheck rfl) rfl rfl rfl ?_
  refine WL_rd (Rd_loadg (vs := hsh (hM ([] : List B8)) (sl none (rM ([] : List B8)).length 0) (.int .i64 ((([] : List B8).length : Nat) : Int))) rfl tk68 (hl := by simp [hsh]) (hi := rfl)) rfl rfl rfl ?_
  refine WL_rd (Rd_nilCheck rfl) rfl rfl rfl ?_
  refine WL_ac0 (Ac_store (ys := hsh (hM ([] : List B8)) (sl none (rM ([] : List B8)).length 0) (.int .i64 ((([] : List B8).length : Nat) : Int))) rfl rfl sz68 (hl := by simp [hsh]) (h1 := by intro u hu; simp [Value.cells, hsh, sl] at hu; rcases hu with rfl | rfl | rfl | rfl | rfl | rfl | rfl | rfl | rfl | rfl | rfl <;> rfl) (hr := rfl)) rfl rfl ?_
  rintro _ _ rfl
  refine WL_end hK4 ?_
  refine WC_sr fun K5 hK5 => ?_
  refine WL_rd (Rd_assign rfl) rfl rfl rfl ?_
  refine WL_end hK5 ?_
  refine WC_ret ?_
  exact hret.go () (Rs1 rfl rfl)

theorem clone_ct {b : Nat} {M : List B8} {a : Option Nat} {cap : Nat}  : Ct Try.prog 45 [.pointer (some ⟨b, 0, none⟩)] [cl b 68 (hsh (hM M) (sl a (rM M).length cap) (.int .i64 ((M.length : Nat) : Int))), arr a cap 1 5 (eU .u8) (rM M)] (fun g : Nat × Option Nat × Nat => .pointer (some ⟨g.1, 0, none⟩)) (fun g => [cl b 68 (hsh (hM M) (sl a (rM M).length cap) (.int .i64 ((M.length : Nat) : Int))), arr a cap 1 5 (eU .u8) (rM M), cl g.1 68 (hsh (hM M) (sl g.2.1 (rM M).length g.2.2) (.int .i64 ((M.length : Nat) : Int))), arr g.2.1 g.2.2 1 5 (eU .u8) (rM M)]) := by
  refine Ct_body (n := 17) Try.func45 rfl rfl rfl fun F w0 Q hret hnorm hp => ?_
  change WC _ _ _ _ _ _ _ (_ :: _ :: F)
  refine WC_sr fun K1 hK1 => ?_
  refine WL_rd (Rd_assign rfl) rfl rfl rfl ?_
  refine WL_end hK1 ?_
  refine WC_seq fun K2 hK2 => ?_
  refine WC_sr fun K3 hK3 => ?_
  refine WL_rd (Rd_move rfl) rfl rfl rfl ?_
  refine WL_ac (Ac_call cf90 rfl (hs := hok_ct)) rfl rfl rfl ?_
  rintro _ _ ⟨⟨⟩, rfl, hA⟩
  simp only [List.cons_append, List.nil_append] at hA
  replace hA := hA.symm
  subst hA
  refine WL_rd (Rd_not rfl) rfl rfl rfl ?_
  refine WL_end hK3 ?_
  refine WC_condF rfl ?_
  refine WC_skip ?_
  refine Ps_next hK2 ?_
  refine WC_sr fun K4 hK4 => ?_
  refine WL_rd (Rd_move rfl) rfl rfl rfl ?_
  refine WL_rd (Rd_nilCheck rfl) rfl rfl rfl ?_
  refine WL_rd (Rd_loadg (vs := hsh (hM M) (sl a (rM M).length cap) (.int .i64 ((M.length : Nat) : Int))) rfl tk68 (hl := by simp [hsh]) (hi := rfl)) rfl rfl rfl ?_
  refine WL_ac (Ac_alloc zr68) rfl rfl rfl ?_
  rintro _ _ ⟨b3, rfl, rfl⟩
  refine WL_ac0 (Ac_store (ys := hsh (hM M) (sl a (rM M).length cap) (.int .i64 ((M.length : Nat) : Int))) rfl rfl sz68 (hl := by simp [hsh]) (h1 := by intro u hu; simp [Value.cells, hsh, sl] at hu; rcases hu with rfl | rfl | rfl | rfl | rfl | rfl | rfl | rfl | rfl | rfl | rfl <;> rfl) (hr := rfl)) rfl rfl ?_
  rintro _ _ rfl
  refine WL_end hK4 ?_
  refine WC_sr fun K5 hK5 => ?_
  refine WL_rd (Rd_move rfl) rfl rfl rfl ?_
  refine WL_rd (Rd_nilCheck rfl) rfl rfl rfl ?_
  refine WL_rd (Rd_fieldAddr rfl fo68_2) rfl rfl rfl ?_
  refine WL_rd (Rd_load rfl tk32 (v := sl a (rM M).length cap)) rfl rfl rfl ?_
  refine WL_ac (Ac_bsL (f := fP) (zs := [.slice none 0 0]) (bs := [.slice none 0 0]) [(⟨rM M, a.map (fun g => ⟨g, 0, none⟩), cap⟩ : Pt)] encP ud27 zr32 sz32 rfl (by rw [Array.toList_map, Array.toList_range]; rfl) (by rfl) (by rfl) (by rfl) (by rfl)) rfl rfl rfl ?_
  rintro _ _ ⟨b14, rfl, rfl⟩
  refine WL_fact (fun w h => arr_facts (a := a) (cap := cap) (e := 1) (T := 5) (f := eU .u8 (w := 8)) (l := rM M) (by repeat (first | with_reducible exact Has.here | with_reducible refine Has.there ?_)) h) (fun hf1 => ?_)
  have hS1 : RdP [arr a cap 1 5 (eU .u8) (rM M)] (⟨rM M, a.map (fun g => ⟨g, 0, none⟩), cap⟩ : Pt) := Sv_own' (encU .u8 (w := 8)) hf1.1 hf1.2
  have hS3 : Sv [arr (some b14) 1 1 32 fP [(⟨rM M, a.map (fun g => ⟨g, 0, none⟩), cap⟩ : Pt)]] (sl (some b14) 1 1) 1 fP [(⟨rM M, a.map (fun g => ⟨g, 0, none⟩), cap⟩ : Pt)] (some ⟨b14, 0, none⟩) 1 := Sv_own' (a := some b14) (cap := 1) (T := 32) encP (l := [(⟨rM M, a.map (fun g => ⟨g, 0, none⟩), cap⟩ : Pt)]) (by simp) (Nat.le_refl 1)
  refine WL_pk0 ?_
  refine WL_pull (arr a cap 1 5 (eU .u8) (rM M)) ?_
  refine WL_pull (arr (some b14) 1 1 32 fP [(⟨rM M, a.map (fun g => ⟨g, 0, none⟩), cap⟩ : Pt)]) ?_
  have hj1 : joinP [(⟨rM M, a.map (fun g => ⟨g, 0, none⟩), cap⟩ : Pt)] = rM M := by simp [joinP]
  have hrl : (rM M).length < 64 := by unfold rM; rw [List.length_drop]; omega
  refine WL_ac (Ac_call cf91 rfl (hs := join_ct (X := sep [arr (some b14) 1 1 32 fP [(⟨rM M, a.map (fun g => ⟨g, 0, none⟩), cap⟩ : Pt)], arr a cap 1 5 (eU .u8) (rM M)]) (ps := [(⟨rM M, a.map (fun g => ⟨g, 0, none⟩), cap⟩ : Pt)]) (hS := hS3.pk (by repeat (first | with_reducible exact Has.here | with_reducible refine Has.there ?_))) (hP := List.forall_mem_cons.2 ⟨hS1.pk (by repeat (first | with_reducible exact Has.here | with_reducible refine Has.there ?_)), by simp⟩) (hn := by rw [hj1]; omega) (hk := by show 1 ≤ 900000000000; omega))) rfl rfl rfl ?_
  rintro _ _ ⟨⟨a15, cap15⟩, rfl, hA⟩
  simp only [List.cons_append, List.nil_append] at hA
  replace hA := hA.symm
  subst hA
  refine WL_unpk [arr (some b14) 1 1 32 fP [(⟨rM M, a.map (fun g => ⟨g, 0, none⟩), cap⟩ : Pt)], arr a cap 1 5 (eU .u8) (rM M)] ?_
  simp only [List.cons_append, List.nil_append]
  rw [hj1]
  refine WL_rd (Rd_fieldAddr rfl fo68_2) rfl rfl rfl ?_
  refine WL_ac0 (Ac_hrest rfl rfl sz32) rfl rfl ?_
  rintro _ _ rfl
  refine WL_end hK5 ?_
  refine WC_sr fun K6 hK6 => ?_
  refine WL_rd (Rd_assign rfl) rfl rfl rfl ?_
  refine WL_end hK6 ?_
  refine WC_ret ?_
  exact hret.go (b3, a15, cap15) (Rs1 rfl rfl)
end Go.Proofs.Ythkchjcodibaeaa
