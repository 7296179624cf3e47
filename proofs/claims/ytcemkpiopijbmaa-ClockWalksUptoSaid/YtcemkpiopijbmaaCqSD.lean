/-
  Contracts of functions that the claim reaches, or the logic and the plain laws that they rest on, or the row over them. (Conditions: none beyond the statement.)
-/
import Derived.Test.YtcemkpiopijbmaaCqHSD
set_option linter.all false
namespace Go.Proofs.Ytcemkpiopijbmaa
open Go.RowKit Go.SL Go.HpM
set_option maxHeartbeats 1000000
set_option maxRecDepth 20000
set_option linter.all false

theorem kS_drop {c hb made : Nat} {now : Int} {rows : List (Nat × (Int × Int × ByteArray))} {t : Int} {i : Nat} {x : Nat × (Int × Int × ByteArray)} (hi : rows[i]? = some x := by assumption) (ht : t = (x.1 : Int)) (hm : made ≤ 900000000 := by omega) : Ct Try.prog 28 [.pointer (some ⟨c, 0, none⟩), .int .i64 t] [cl c 121 [.int .i64 now, .int .i64 ((made : Nat) : Int), .pointer (some ⟨hb, 0, none⟩)], kS_h_hpA (.func (.func 59) #[] ([] : List Value).toArray) hb rows made, emp] (fun _ : Unit => .tuple #[.string x.2.2.2, .int .i64 0]) (fun _ => [cl c 121 [.int .i64 now, .int .i64 ((made : Nat) : Int), .pointer (some ⟨hb, 0, none⟩)], kS_h_hpA (.func (.func 59) #[] ([] : List Value).toArray) hb (takeM (pl kS_lt) () rows i).1 made, emp]) := by
  refine Ct_body (n := 27) Try.func28 rfl rfl rfl fun F w0 Q hret hnorm hp => ?_
  change WC _ _ _ _ _ _ _ (_ :: _ :: _ :: F)
  refine WC_sr fun K1 hK1 => ?_
  refine WL_rd (Rd_assign rfl) rfl rfl rfl ?_
  refine WL_rd (Rd_assign rfl) rfl rfl rfl ?_
  refine WL_end hK1 ?_
  refine WC_sr fun K2 hK2 => ?_
  refine WL_rd (Rd_assign rfl) rfl rfl rfl ?_
  refine WL_end hK2 ?_
  refine WC_seq fun K3 hK3 => ?_
  refine WC_sr fun K4 hK4 => ?_
  refine WL_rd (Rd_move rfl) rfl rfl rfl ?_
  refine WL_ac (Ac_call cf62 rfl (hs := kS_made)) rfl rfl rfl ?_
  rintro _ _ ⟨⟨⟩, rfl, hA⟩
  simp only [List.cons_append, List.nil_append] at hA
  replace hA := hA.symm
  subst hA
  refine WL_rd (Rd_not rfl) rfl rfl rfl ?_
  refine WL_end hK4 ?_
  refine WC_condF rfl ?_
  refine WC_skip ?_
  refine Ps_next hK3 ?_
  refine WC_sr fun K5 hK5 => ?_
  refine WL_rd (Rd_move rfl) rfl rfl rfl ?_
  refine WL_rd (Rd_nilCheck rfl) rfl rfl rfl ?_
  refine WL_rd (Rd_fieldAddr rfl fo121_2) rfl rfl rfl ?_
  refine WL_rd (Rd_load rfl tk116) rfl rfl rfl ?_
  refine WL_rd (Rd_move rfl) rfl rfl rfl ?_
  refine WL_ac (Ac_call cf64 rfl (hs := kS_h_drop_hp kS_hcf kS_hless (s := ()) (i := i) (x := x) (ht := ht))) rfl rfl rfl ?_
  rintro _ _ ⟨⟨⟩, rfl, hA⟩
  simp only [List.cons_append, List.nil_append] at hA
  replace hA := hA.symm
  subst hA
  refine WL_rd (Rd_move rfl) rfl rfl rfl ?_
  refine WL_rd (Rd_ext0 rfl) rfl rfl rfl ?_
  refine WL_rd (Rd_ext1 rfl) rfl rfl rfl ?_
  refine WL_ac (Ac_alloc zr62) rfl rfl rfl ?_
  rintro _ _ ⟨b7, rfl, rfl⟩
  refine WL_ac0 (Ac_store rfl rfl sz62 (h1 := by simp [Value.cells, Value.oneCell', kS_h_itf])) rfl rfl ?_
  rintro _ _ rfl
  refine WL_rd (Rd_assign rfl) rfl rfl rfl ?_
  refine WL_end hK5 ?_
  refine WC_seq fun K6 hK6 => ?_
  refine WC_sr fun K7 hK7 => ?_
  refine WL_rd (Rd_move rfl) rfl rfl rfl ?_
  refine WL_rd (Rd_neqN (i := 0) (j := 0) rfl rfl) rfl rfl rfl ?_
  refine WL_end hK7 ?_
  refine WC_condF rfl ?_
  refine WC_skip ?_
  refine Ps_next hK6 ?_
  refine WC_sr fun K8 hK8 => ?_
  refine WL_rd (Rd_fieldAddr rfl fo62_2) rfl rfl rfl ?_
  refine WL_rd (Rd_load rfl tk9) rfl rfl rfl ?_
  refine WL_rd (Rd_assign rfl) rfl rfl rfl ?_
  refine WL_rd (Rd_assign rfl) rfl rfl rfl ?_
  refine WL_end hK8 ?_
  refine WC_ret ?_
  exact hret.go () (Rs2 rfl rfl rfl)

theorem kS_drop_no {c hb made : Nat} {now : Int} {rows : List (Nat × (Int × Int × ByteArray))} {t : Int} (ht : ∀ r ∈ rows, (r.1 : Int) ≠ t) : Ct Try.prog 28 [.pointer (some ⟨c, 0, none⟩), .int .i64 t] [cl c 121 [.int .i64 now, .int .i64 ((made : Nat) : Int), .pointer (some ⟨hb, 0, none⟩)], kS_h_hpA (.func (.func 59) #[] ([] : List Value).toArray) hb rows made, emp] (fun _ : Unit => .tuple #[.string ⟨#[]⟩, .int .i64 181]) (fun _ => [cl c 121 [.int .i64 now, .int .i64 ((made : Nat) : Int), .pointer (some ⟨hb, 0, none⟩)], kS_h_hpA (.func (.func 59) #[] ([] : List Value).toArray) hb rows made, emp]) := by
  refine Ct_body (n := 27) Try.func28 rfl rfl rfl fun F w0 Q hret hnorm hp => ?_
  change WC _ _ _ _ _ _ _ (_ :: _ :: _ :: F)
  refine WC_sr fun K1 hK1 => ?_
  refine WL_rd (Rd_assign rfl) rfl rfl rfl ?_
  refine WL_rd (Rd_assign rfl) rfl rfl rfl ?_
  refine WL_end hK1 ?_
  refine WC_sr fun K2 hK2 => ?_
  refine WL_rd (Rd_assign rfl) rfl rfl rfl ?_
  refine WL_end hK2 ?_
  refine WC_seq fun K3 hK3 => ?_
  refine WC_sr fun K4 hK4 => ?_
  refine WL_rd (Rd_move rfl) rfl rfl rfl ?_
  refine WL_ac (Ac_call cf62 rfl (hs := kS_made)) rfl rfl rfl ?_
  rintro _ _ ⟨⟨⟩, rfl, hA⟩
  simp only [List.cons_append, List.nil_append] at hA
  replace hA := hA.symm
  subst hA
  refine WL_rd (Rd_not rfl) rfl rfl rfl ?_
  refine WL_end hK4 ?_
  refine WC_condF rfl ?_
  refine WC_skip ?_
  refine Ps_next hK3 ?_
  refine WC_sr fun K5 hK5 => ?_
  refine WL_rd (Rd_move rfl) rfl rfl rfl ?_
  refine WL_rd (Rd_nilCheck rfl) rfl rfl rfl ?_
  refine WL_rd (Rd_fieldAddr rfl fo121_2) rfl rfl rfl ?_
  refine WL_rd (Rd_load rfl tk116) rfl rfl rfl ?_
  refine WL_rd (Rd_move rfl) rfl rfl rfl ?_
  refine WL_ac (Ac_call cf64 rfl (hs := kS_h_drop_no_hp (lf := 59) (caps := []) (ht := ht))) rfl rfl rfl ?_
  rintro _ _ ⟨⟨⟩, rfl, hA⟩
  simp only [List.cons_append, List.nil_append] at hA
  replace hA := hA.symm
  subst hA
  refine WL_rd (Rd_move rfl) rfl rfl rfl ?_
  refine WL_rd (Rd_ext0 rfl) rfl rfl rfl ?_
  refine WL_rd (Rd_ext1 rfl) rfl rfl rfl ?_
  refine WL_ac (Ac_alloc zr62) rfl rfl rfl ?_
  rintro _ _ ⟨b7, rfl, rfl⟩
  refine WL_ac0 (Ac_store rfl rfl sz62 (h1 := by simp [Value.cells, Value.oneCell', kS_h_itf])) rfl rfl ?_
  rintro _ _ rfl
  refine WL_rd (Rd_assign rfl) rfl rfl rfl ?_
  refine WL_end hK5 ?_
  refine WC_seq fun K6 hK6 => ?_
  refine WC_sr fun K7 hK7 => ?_
  refine WL_rd (Rd_move rfl) rfl rfl rfl ?_
  refine WL_rd (Rd_neqN (i := 171) (j := 0) rfl rfl) rfl rfl rfl ?_
  refine WL_end hK7 ?_
  refine WC_condT rfl ?_
  refine WC_sr fun K8 hK8 => ?_
  refine WL_rd (Rd_move rfl) rfl rfl rfl ?_
  refine WL_rd (Rd_assign rfl) rfl rfl rfl ?_
  refine WL_rd (Rd_assign rfl) rfl rfl rfl ?_
  refine WL_end hK8 ?_
  refine WC_ret ?_
  exact hret.go () (Rs2 rfl rfl rfl)
end Go.Proofs.Ytcemkpiopijbmaa
