/-
  Contracts of functions that the claim reaches, or the logic and the plain laws that they rest on, or the row over them. (Conditions: none beyond the statement.)
-/
import Derived.Test.YtcemkpiopijbmaaRows
import Derived.Test.YtcemkpiopijbmaaLibA
import Derived.Test.YtcemkpiopijbmaaHpOrd
set_option linter.all false
namespace Go.Proofs.Ytcemkpiopijbmaa
open Go.RowKit Go.SL Go.HpM
set_option maxHeartbeats 1000000
set_option maxRecDepth 20000
set_option linter.all false
theorem cf73 : cfn Try.prog 73 = true := by kernel_rfl
theorem cf85 : cfn Try.prog 85 = true := by kernel_rfl
theorem cf86 : cfn Try.prog 86 = true := by kernel_rfl
theorem cf87 : cfn Try.prog 87 = true := by kernel_rfl
theorem cf102 : cfn Try.prog 102 = true := by kernel_rfl
theorem cf103 : cfn Try.prog 103 = true := by kernel_rfl
theorem cf104 : cfn Try.prog 104 = true := by kernel_rfl
theorem el159 : el Try.prog 159 = some (4, 40) := by kernel_rfl
theorem fo157_0 : fo Try.prog 157 0 = some (0, 119) := by kernel_rfl
theorem fo157_1 : fo Try.prog 157 1 = some (1, 155) := by kernel_rfl
theorem fo157_2 : fo Try.prog 157 2 = some (2, 141) := by kernel_rfl
theorem fo157_3 : fo Try.prog 157 3 = some (3, 3) := by kernel_rfl
theorem fo159_0 : fo Try.prog 159 0 = some (0, 3) := by kernel_rfl
theorem fo159_1 : fo Try.prog 159 1 = some (1, 62) := by kernel_rfl
theorem mix : Try.prog.follows .mixedOrders = true := by kernel_rfl
theorem pls157 : pls Try.prog 157 = some ([.nilFunc, .slice none 0 0, .map none, .int .i64 0], [(0, 1), (1, 1), (2, 1), (3, 1)]) := by kernel_rfl
theorem pls159 : pls Try.prog 159 = some ([.int .i64 0, .int .i64 0, .int .i64 0, .string ⟨#[]⟩], [(0, 1), (1, 3)]) := by kernel_rfl
theorem pls169 : pls Try.prog 169 = some ([.int .i64 0, .int .i64 0], [(0, 1), (1, 1)]) := by kernel_rfl
theorem sz3 : sz Try.prog 3 = some 1 := by kernel_rfl
theorem sz62 : sz Try.prog 62 = some 3 := by kernel_rfl
theorem sz155 : sz Try.prog 155 = some 1 := by kernel_rfl
theorem sz159 : sz Try.prog 159 = some 4 := by kernel_rfl
theorem tk3 : tk Try.prog 3 = some none := by kernel_rfl
theorem tk62 : tk Try.prog 62 = some (some 3) := by kernel_rfl
theorem tk119 : tk Try.prog 119 = some none := by kernel_rfl
theorem tk141 : tk Try.prog 141 = some none := by kernel_rfl
theorem tk155 : tk Try.prog 155 = some none := by kernel_rfl
theorem tk159 : tk Try.prog 159 = some (some 4) := by kernel_rfl
theorem ud3 : Try.prog.underlying 3 = some (.int .i64) := by kernel_rfl
theorem ud116 : Try.prog.underlying 116 = some (.pointer 157) := by kernel_rfl
theorem ud141 : Try.prog.underlying 141 = some (.map 3 3) := by kernel_rfl
theorem ud155 : Try.prog.underlying 155 = some (.slice 159) := by kernel_rfl
theorem ud169 : Try.prog.underlying 169 = some (.array 2 3) := by kernel_rfl
theorem zr62 : zr Try.prog 62 = some [.int .i64 0, .int .i64 0, .string ⟨#[]⟩] := by kernel_rfl
theorem zr159 : zr Try.prog 159 = some [.int .i64 0, .int .i64 0, .int .i64 0, .string ⟨#[]⟩] := by kernel_rfl
theorem zv3 : ∀ w, (zeroValue 3).run Try.prog w = .ok (.int .i64 0) w := fun w => by kernel_rfl
def kS_h_itf (r : Nat × (Int × Int × ByteArray)) : List Value := [.int .i64 (r.1 : Int), .int .i64 r.2.1, .int .i64 r.2.2.1, .string r.2.2.2]
def kS_h_vx (x : (Int × Int × ByteArray)) : Value := .agg [.int .i64 x.1, .int .i64 x.2.1, .string x.2.2].toArray
theorem kS_h_itf_len (r : Nat × (Int × Int × ByteArray)) : (kS_h_itf r).length = 4 := rfl
theorem kS_h_itf_one (r : Nat × (Int × Int × ByteArray)) : ∀ v ∈ kS_h_itf r, v.oneCell' = true := by intro v hv; simp only [kS_h_itf, List.mem_cons, List.not_mem_nil, or_false] at hv; rcases hv with rfl | rfl | rfl | rfl <;> rfl

theorem kS_h_ok {b : Nat} {f : Fn} {us vs : Array Value} {r m k : Value}  : Ct Try.prog 85 [.pointer (some ⟨b, 0, none⟩)] [cl b 157 [.func f us vs, r, m, k]] (fun _ : Unit => .bool true) (fun _ => [cl b 157 [.func f us vs, r, m, k]]) := by
  refine Ct_body (n := 12) Try.func85 rfl rfl rfl fun F w0 Q hret hnorm hp => ?_
  change WC _ _ _ _ _ _ _ (_ :: F)
  refine WC_sr fun K1 hK1 => ?_
  refine WL_rd (Rd_assign rfl) rfl rfl rfl ?_
  refine WL_end hK1 ?_
  refine WC_sr fun K2 hK2 => ?_
  refine WL_rd (Rd_move rfl) rfl rfl rfl ?_
  refine WL_rd (Rd_pne rfl rfl ud116) rfl rfl rfl ?_
  refine WL_rd (Rd_move rfl) rfl rfl rfl ?_
  refine WL_rd (Rd_move rfl) rfl rfl rfl ?_
  refine WL_rd (Rd_nilCheck rfl) rfl rfl rfl ?_
  refine WL_rd (Rd_fieldAddr rfl fo157_0) rfl rfl rfl ?_
  refine WL_rd (Rd_load rfl tk119) rfl rfl rfl ?_
  refine WL_rd (Rd_fne rfl rfl Try.underlying119) rfl rfl rfl ?_
  refine WL_rd (Rd_pickT rfl rfl) rfl rfl rfl ?_
  refine WL_rd (Rd_assign rfl) rfl rfl rfl ?_
  refine WL_end hK2 ?_
  refine WC_ret ?_
  exact hret.go () (Rs1 rfl rfl)

theorem kS_h_ok_nil   : Ct Try.prog 85 [.pointer none] [] (fun _ : Unit => .bool false) (fun _ => []) := by
  refine Ct_body (n := 12) Try.func85 rfl rfl rfl fun F w0 Q hret hnorm hp => ?_
  change WC _ _ _ _ _ _ _ (F)
  refine WC_sr fun K1 hK1 => ?_
  refine WL_rd (Rd_assign rfl) rfl rfl rfl ?_
  refine WL_end hK1 ?_
  refine WC_sr fun K2 hK2 => ?_
  refine WL_rd (Rd_move rfl) rfl rfl rfl ?_
  refine WL_rd (Rd_pne rfl rfl ud116) rfl rfl rfl ?_
  refine WL_rd (Rd_move rfl) rfl rfl rfl ?_
  refine WL_skip rfl rfl rfl ?_
  refine WL_skip rfl rfl rfl ?_
  refine WL_skip rfl rfl rfl ?_
  refine WL_skip rfl rfl rfl ?_
  refine WL_skip rfl rfl rfl ?_
  refine WL_rd (Rd_pickF rfl rfl) rfl rfl rfl ?_
  refine WL_rd (Rd_assign rfl) rfl rfl rfl ?_
  refine WL_end hK2 ?_
  refine WC_ret ?_
  exact hret.go () (Rs1 rfl rfl)

theorem kS_h_ok_zero {b : Nat} {r m k : Value}  : Ct Try.prog 85 [.pointer (some ⟨b, 0, none⟩)] [cl b 157 [.nilFunc, r, m, k]] (fun _ : Unit => .bool false) (fun _ => [cl b 157 [.nilFunc, r, m, k]]) := by
  refine Ct_body (n := 12) Try.func85 rfl rfl rfl fun F w0 Q hret hnorm hp => ?_
  change WC _ _ _ _ _ _ _ (_ :: F)
  refine WC_sr fun K1 hK1 => ?_
  refine WL_rd (Rd_assign rfl) rfl rfl rfl ?_
  refine WL_end hK1 ?_
  refine WC_sr fun K2 hK2 => ?_
  refine WL_rd (Rd_move rfl) rfl rfl rfl ?_
  refine WL_rd (Rd_pne rfl rfl ud116) rfl rfl rfl ?_
  refine WL_rd (Rd_move rfl) rfl rfl rfl ?_
  refine WL_rd (Rd_move rfl) rfl rfl rfl ?_
  refine WL_rd (Rd_nilCheck rfl) rfl rfl rfl ?_
  refine WL_rd (Rd_fieldAddr rfl fo157_0) rfl rfl rfl ?_
  refine WL_rd (Rd_load rfl tk119) rfl rfl rfl ?_
  refine WL_rd (Rd_fne0 rfl rfl Try.underlying119) rfl rfl rfl ?_
  refine WL_rd (Rd_pickT rfl rfl) rfl rfl rfl ?_
  refine WL_rd (Rd_assign rfl) rfl rfl rfl ?_
  refine WL_end hK2 ?_
  refine WC_ret ?_
  exact hret.go () (Rs1 rfl rfl)

theorem kS_h_len {b : Nat} {f : Fn} {us vs : Array Value} {a : Option Nat} {len cap : Nat} {m k : Value}  : Ct Try.prog 73 [.pointer (some ⟨b, 0, none⟩)] [cl b 157 [.func f us vs, sl a len cap, m, k]] (fun _ : Unit => .int .i64 ((len : Nat) : Int)) (fun _ => [cl b 157 [.func f us vs, sl a len cap, m, k]]) := by
  refine Ct_body (n := 11) Try.func73 rfl rfl rfl fun F w0 Q hret hnorm hp => ?_
  change WC _ _ _ _ _ _ _ (_ :: F)
  refine WC_sr fun K1 hK1 => ?_
  refine WL_rd (Rd_assign rfl) rfl rfl rfl ?_
  refine WL_end hK1 ?_
  refine WC_seq fun K2 hK2 => ?_
  refine WC_sr fun K3 hK3 => ?_
  refine WL_rd (Rd_move rfl) rfl rfl rfl ?_
  refine WL_ac (Ac_call cf85 rfl (hs := kS_h_ok)) rfl rfl rfl ?_
  rintro _ _ ⟨⟨⟩, rfl, hA⟩
  simp only [List.cons_append, List.nil_append] at hA
  replace hA := hA.symm
  subst hA
  refine WL_rd (Rd_not rfl) rfl rfl rfl ?_
  refine WL_end hK3 ?_
  refine WC_condF rfl ?_
  refine WC_skip ?_
  refine Ps_next hK2 ?_
  refine WC_sr fun K4 hK4 => ?_
  refine WL_rd (Rd_move rfl) rfl rfl rfl ?_
  refine WL_rd (Rd_nilCheck rfl) rfl rfl rfl ?_
  refine WL_rd (Rd_fieldAddr rfl fo157_1) rfl rfl rfl ?_
  refine WL_rd (Rd_load rfl tk155) rfl rfl rfl ?_
  refine WL_rd (Rd_len rfl rfl ud155) rfl rfl rfl ?_
  refine WL_rd (Rd_assign rfl) rfl rfl rfl ?_
  refine WL_end hK4 ?_
  refine WC_ret ?_
  exact hret.go () (Rs1 rfl rfl)

theorem kS_h_ahead {σ : Type} {J : σ → Asn} {lt : σ → (Int × Int × ByteArray) → (Int × Int × ByteArray) → Bool × σ} {lf : FuncId} {caps : List Value} (hcf : cfn Try.prog lf = true) (hless : ∀ s x y, Ct Try.prog lf ([.agg [.int .i64 x.1, .int .i64 x.2.1, .string x.2.2].toArray, .agg [.int .i64 y.1, .int .i64 y.2.1, .string y.2.2].toArray] ++ caps) [J s] (fun _ : Unit => .bool (lt s x y).1) (fun _ => [J (lt s x y).2])) {b len cap m made : Nat} {a : Option Nat} {rows : List (Nat × (Int × Int × ByteArray))} {s : σ} {i j : Nat} {x y : Nat × (Int × Int × ByteArray)} (hi : rows[i]? = some x := by assumption) (hj : rows[j]? = some y := by assumption) (hlen : len = rows.length := by first | assumption | omega) (hcap : len ≤ 1000000000 := by omega) : Ct Try.prog 102 [.pointer (some ⟨b, 0, none⟩), .int .i64 ((i : Nat) : Int), .int .i64 ((j : Nat) : Int)] [cl b 157 [(.func (.func lf) #[] caps.toArray), sl a len cap, .map (some m), .int .i64 ((made : Nat) : Int)], arr a cap 4 159 kS_h_itf (rows), J s] (fun _ : Unit => .bool (ahM lt s x y).1) (fun _ => [cl b 157 [(.func (.func lf) #[] caps.toArray), sl a len cap, .map (some m), .int .i64 ((made : Nat) : Int)], arr a cap 4 159 kS_h_itf (rows), J (ahM lt s x y).2]) := by
  refine Ct_body (n := 49) Try.func102 rfl rfl rfl fun F w0 Q hret hnorm hp => ?_
  change WC _ _ _ _ _ _ _ (_ :: _ :: _ :: F)
  have hil := (List.getElem?_eq_some_iff.1 hi).1
  have hjl := (List.getElem?_eq_some_iff.1 hj).1
  refine WC_some (a := a) (by repeat (first | with_reducible exact Has.here | with_reducible refine Has.there ?_)) (by omega) (fun gb hgb _ => ?_)
  subst hgb
  refine WC_sr fun K1 hK1 => ?_
  refine WL_rd (Rd_assign rfl) rfl rfl rfl ?_
  refine WL_end hK1 ?_
  refine WC_seq fun K2 hK2 => ?_
  refine WC_drawA mix (fun i => ([2, 2, 2, 2, 2, 2, 2, 2, 2, 2, 2, 2, 2, 2, 1, 1, 1, 1] : List Nat).getD i 0) ?_
  refine WJ_takeP 0 rfl (by kernel_rfl) (Rd_move rfl) rfl rfl rfl (hp _ _) ?_
  refine WJ_takeP 1 rfl (by kernel_rfl) (Rd_nilCheck rfl) rfl rfl rfl (hp _ _) ?_
  refine WJ_takeP 2 rfl (by kernel_rfl) (Rd_fieldAddr rfl fo157_1) rfl rfl rfl (hp _ _) ?_
  refine WJ_tk 3 (Rd_load rfl tk155) hp ?_ rfl (by kernel_rfl) rfl rfl rfl
  refine WJ_takeP 4 rfl (by kernel_rfl) (Rd_move rfl) rfl rfl rfl (hp _ _) ?_
  refine WJ_takeP 5 rfl (by kernel_rfl) (Rd_index _ rfl rfl ud155 sz159) rfl rfl rfl (hp _ _) ?_
  refine WJ_tk 6 (Rd_loadg_arr rfl tk159) hp ?_ rfl (by kernel_rfl) rfl rfl rfl
  refine WJ_takeP 7 rfl (by kernel_rfl) (Rd_move rfl) rfl rfl rfl (hp _ _) ?_
  refine WJ_takeP 8 rfl (by kernel_rfl) (Rd_nilCheck rfl) rfl rfl rfl (hp _ _) ?_
  refine WJ_takeP 9 rfl (by kernel_rfl) (Rd_fieldAddr rfl fo157_1) rfl rfl rfl (hp _ _) ?_
  refine WJ_tk 10 (Rd_load rfl tk155) hp ?_ rfl (by kernel_rfl) rfl rfl rfl
  refine WJ_takeP 11 rfl (by kernel_rfl) (Rd_move rfl) rfl rfl rfl (hp _ _) ?_
  refine WJ_takeP 12 rfl (by kernel_rfl) (Rd_index _ rfl rfl ud155 sz159) rfl rfl rfl (hp _ _) ?_
  refine WJ_tk 13 (Rd_loadg_arr rfl tk159) hp ?_ rfl (by kernel_rfl) rfl rfl rfl
  refine WJ_all (rs := [14, 15]) (by kernel_rfl) rfl ?_
  refine WI_cons ?_ (WI_cons ?_ (by intro _ h; cases h))
  · skip
    refine WI_ac rfl (Ac_alloc zr159) rfl rfl rfl rfl ?_
    rintro _ _ ⟨b7, rfl, rfl⟩
    refine ⟨(fun _ => (by repeat (first | with_reducible exact Sub.refl | with_reducible exact Sub.nil | with_reducible refine Sub.cons (by repeat (first | with_reducible exact Ext.here | with_reducible apply Ext.there)) ?_ | with_reducible refine Sub.tail ?_))), ?_⟩
    refine WJ_all (rs := [15]) (by kernel_rfl) rfl ?_
    refine WI_one ?_
    refine WI_ac rfl (Ac_alloc zr159) rfl rfl rfl rfl ?_
    rintro _ _ ⟨b8, rfl, rfl⟩
    refine ⟨(fun _ => (by repeat (first | with_reducible exact Sub.refl | with_reducible exact Sub.nil | with_reducible refine Sub.cons (by repeat (first | with_reducible exact Ext.here | with_reducible apply Ext.there)) ?_ | with_reducible refine Sub.tail ?_))), ?_⟩
    refine WJ_all (rs := [16]) (by kernel_rfl) rfl ?_
    refine WI_one ?_
    refine WI_ac0 rfl (Ac_store rfl rfl sz159 (h1 := by simp [Value.cells, Value.oneCell', kS_h_itf])) rfl rfl rfl ?_
    rintro _ _ rfl
    refine ⟨(fun _ => (by repeat (first | with_reducible exact Sub.refl | with_reducible exact Sub.nil | with_reducible refine Sub.cons (by repeat (first | with_reducible exact Ext.here | with_reducible apply Ext.there)) ?_ | with_reducible refine Sub.tail ?_))), ?_⟩
    refine WJ_all (rs := [17]) (by kernel_rfl) rfl ?_
    refine WI_one ?_
    refine WI_ac0 rfl (Ac_store rfl rfl sz159 (h1 := by simp [Value.cells, Value.oneCell', kS_h_itf])) rfl rfl rfl ?_
    rintro _ _ rfl
    refine ⟨(fun _ => (by repeat (first | with_reducible exact Sub.refl | with_reducible exact Sub.nil | with_reducible refine Sub.cons (by repeat (first | with_reducible exact Ext.here | with_reducible apply Ext.there)) ?_ | with_reducible refine Sub.tail ?_))), ?_⟩
    refine WJ_done (by kernel_rfl) ?_
    refine Ps_next hK2 ?_
    refine WC_seq fun K3 hK3 => ?_
    refine WC_seq fun K4 hK4 => ?_
    refine WC_draw mix [cl b 157 [(.func (.func lf) #[] caps.toArray), sl (some gb) len cap, .map (some m), .int .i64 ((made : Nat) : Int)], cl b7 159 (kS_h_itf x), cl b8 159 (kS_h_itf y)] (fun i => ([2, 2, 2, 2, 2, 2, 2, 2, 1] : List Nat).getD i 0) ?_
    refine WJ_takeP 0 rfl (by kernel_rfl) (Rd_move rfl) rfl rfl rfl (hp _ _) ?_
    refine WJ_takeP 1 rfl (by kernel_rfl) (Rd_nilCheck rfl) rfl rfl rfl (hp _ _) ?_
    refine WJ_takeP 2 rfl (by kernel_rfl) (Rd_fieldAddr rfl fo157_0) rfl rfl rfl (hp _ _) ?_
    refine WJ_tk 3 (Rd_load rfl tk119) hp ?_ rfl (by kernel_rfl) rfl rfl rfl
    refine WJ_takeP 4 rfl (by kernel_rfl) (Rd_fieldAddr rfl fo159_1) rfl rfl rfl (hp _ _) ?_
    refine WJ_tk 5 (Rd_loadg rfl tk62) hp ?_ rfl (by kernel_rfl) rfl rfl rfl
    refine WJ_takeP 6 rfl (by kernel_rfl) (Rd_fieldAddr rfl fo159_1) rfl rfl rfl (hp _ _) ?_
    refine WJ_tk 7 (Rd_loadg rfl tk62) hp ?_ rfl (by kernel_rfl) rfl rfl rfl
    refine WJ_all (rs := [8]) (by kernel_rfl) rfl ?_
    refine WI_one ?_
    refine WI_ac rfl (Ac_callv rfl hcf rfl rfl rfl rfl (hs := hless s x.2 y.2)) rfl rfl rfl rfl ?_
    rintro _ _ ⟨⟨⟩, rfl, hA⟩
    simp only [List.cons_append, List.nil_append] at hA
    replace hA := hA.symm
    subst hA
    refine ⟨(fun _ => (by repeat (first | with_reducible exact Sub.refl | with_reducible exact Sub.nil | with_reducible refine Sub.cons (by repeat (first | with_reducible exact Ext.here | with_reducible apply Ext.there)) ?_ | with_reducible refine Sub.tail ?_))), ?_⟩
    refine WJ_done (by kernel_rfl) ?_
    refine Ps_next hK4 ?_
    refine WC_cond rfl (fun hc0 => ?_) (fun hc0 => ?_)
    · try simp only [decide_eq_true_eq, decide_eq_false_iff_not, Bool.not_eq_true', Bool.not_eq_false', Bool.not_eq_true, Bool.not_eq_false, Int.not_lt, Int.not_le, Nat.not_lt, Nat.not_le, Decidable.not_not, ne_eq] at hc0
      rw [show ahM lt s x y = (true, (lt s x.2 y.2).2) from by simp [ahM, hc0]] at hret
      refine WC_sr fun K5 hK5 => ?_
      refine WL_rd (Rd_assign rfl) rfl rfl rfl ?_
      refine WL_end hK5 ?_
      refine WC_ret ?_
      exact hret.go () (Rs1 rfl rfl)
    · try simp only [decide_eq_true_eq, decide_eq_false_iff_not, Bool.not_eq_true', Bool.not_eq_false', Bool.not_eq_true, Bool.not_eq_false, Int.not_lt, Int.not_le, Nat.not_lt, Nat.not_le, Decidable.not_not, ne_eq] at hc0
      rw [show ahM lt s x y = (!(lt (lt s x.2 y.2).2 y.2 x.2).1 && decide (x.1 < y.1), (lt (lt s x.2 y.2).2 y.2 x.2).2) from by simp [ahM, hc0]] at hret
      refine WC_skip ?_
      refine Ps_next hK3 ?_
      refine WC_seq fun K6 hK6 => ?_
      refine WC_draw mix [cl b 157 [(.func (.func lf) #[] caps.toArray), sl (some gb) len cap, .map (some m), .int .i64 ((made : Nat) : Int)], cl b7 159 (kS_h_itf x), cl b8 159 (kS_h_itf y)] (fun i => ([2, 2, 2, 2, 2, 2, 2, 2, 1, 2, 2, 2, 2, 2, 2, 2, 2, 2] : List Nat).getD i 0) ?_
      refine WJ_takeP 0 rfl (by kernel_rfl) (Rd_move rfl) rfl rfl rfl (hp _ _) ?_
      refine WJ_takeP 1 rfl (by kernel_rfl) (Rd_nilCheck rfl) rfl rfl rfl (hp _ _) ?_
      refine WJ_takeP 2 rfl (by kernel_rfl) (Rd_fieldAddr rfl fo157_0) rfl rfl rfl (hp _ _) ?_
      refine WJ_tk 3 (Rd_load rfl tk119) hp ?_ rfl (by kernel_rfl) rfl rfl rfl
      refine WJ_takeP 4 rfl (by kernel_rfl) (Rd_fieldAddr rfl fo159_1) rfl rfl rfl (hp _ _) ?_
      refine WJ_tk 5 (Rd_loadg rfl tk62) hp ?_ rfl (by kernel_rfl) rfl rfl rfl
      refine WJ_takeP 6 rfl (by kernel_rfl) (Rd_fieldAddr rfl fo159_1) rfl rfl rfl (hp _ _) ?_
      refine WJ_tk 7 (Rd_loadg rfl tk62) hp ?_ rfl (by kernel_rfl) rfl rfl rfl
      refine WJ_all (rs := [8]) (by kernel_rfl) rfl ?_
      refine WI_one ?_
      refine WI_ac rfl (Ac_callv rfl hcf rfl rfl rfl rfl (hs := hless (lt s x.2 y.2).2 y.2 x.2)) rfl rfl rfl rfl ?_
      rintro _ _ ⟨⟨⟩, rfl, hA⟩
      simp only [List.cons_append, List.nil_append] at hA
      replace hA := hA.symm
      subst hA
      refine ⟨(fun _ => (by repeat (first | with_reducible exact Sub.refl | with_reducible exact Sub.nil | with_reducible refine Sub.cons (by repeat (first | with_reducible exact Ext.here | with_reducible apply Ext.there)) ?_ | with_reducible refine Sub.tail ?_))), ?_⟩
      refine WJ_takeP 9 rfl (by kernel_rfl) (Rd_not rfl) rfl rfl rfl (hp _ _) ?_
      refine WJ_takeP 10 rfl (by kernel_rfl) (Rd_move rfl) rfl rfl rfl (hp _ _) ?_
      refine WJ_bool 42 rfl (fun hg7 => ?_) (fun hg7 => ?_)
      · try simp only [decide_eq_true_eq, decide_eq_false_iff_not, Bool.not_eq_true', Bool.not_eq_false', Bool.not_eq_true, Bool.not_eq_false, Int.not_lt, Int.not_le, Nat.not_lt, Nat.not_le, Decidable.not_not, ne_eq] at hg7
        rw [hg7, Bool.not_false, Bool.true_and] at hret
        refine WJ_takeP 11 rfl (by kernel_rfl) (Rd_fieldAddr rfl fo159_0) rfl rfl rfl (hp _ _) ?_
        refine WJ_tk 12 (Rd_load rfl tk3) hp ?_ rfl (by kernel_rfl) rfl rfl rfl
        refine WJ_takeP 13 rfl (by kernel_rfl) (Rd_fieldAddr rfl fo159_0) rfl rfl rfl (hp _ _) ?_
        refine WJ_tk 14 (Rd_load rfl tk3) hp ?_ rfl (by kernel_rfl) rfl rfl rfl
        refine WJ_takeP 15 rfl (by kernel_rfl) (Rd_lssN rfl rfl) rfl rfl rfl (hp _ _) ?_
        refine WJ_takeP 16 rfl (by kernel_rfl) (Rd_pickT rfl rfl) rfl rfl rfl (hp _ _) ?_
        refine WJ_takeP 17 rfl (by kernel_rfl) (Rd_assign rfl) rfl rfl rfl (hp _ _) ?_
        refine WJ_done (by kernel_rfl) ?_
        refine Ps_next hK6 ?_
        refine WC_ret ?_
        exact hret.go () (Rs1 rfl rfl)
      · try simp only [decide_eq_true_eq, decide_eq_false_iff_not, Bool.not_eq_true', Bool.not_eq_false', Bool.not_eq_true, Bool.not_eq_false, Int.not_lt, Int.not_le, Nat.not_lt, Nat.not_le, Decidable.not_not, ne_eq] at hg7
        rw [hg7, Bool.not_true, Bool.false_and] at hret
        refine WJ_skip 11 rfl (by kernel_rfl) rfl rfl rfl (hp _ _) ?_
        refine WJ_skip 12 rfl (by kernel_rfl) rfl rfl rfl (hp _ _) ?_
        refine WJ_skip 13 rfl (by kernel_rfl) rfl rfl rfl (hp _ _) ?_
        refine WJ_skip 14 rfl (by kernel_rfl) rfl rfl rfl (hp _ _) ?_
        refine WJ_skip 15 rfl (by kernel_rfl) rfl rfl rfl (hp _ _) ?_
        refine WJ_takeP 16 rfl (by kernel_rfl) (Rd_pickF rfl rfl) rfl rfl rfl (hp _ _) ?_
        refine WJ_takeP 17 rfl (by kernel_rfl) (Rd_assign rfl) rfl rfl rfl (hp _ _) ?_
        refine WJ_done (by kernel_rfl) ?_
        refine Ps_next hK6 ?_
        refine WC_ret ?_
        exact hret.go () (Rs1 rfl rfl)
  · skip
    refine WI_ac rfl (Ac_alloc zr159) rfl rfl rfl rfl ?_
    rintro _ _ ⟨b8, rfl, rfl⟩
    refine ⟨(fun _ => (by repeat (first | with_reducible exact Sub.refl | with_reducible exact Sub.nil | with_reducible refine Sub.cons (by repeat (first | with_reducible exact Ext.here | with_reducible apply Ext.there)) ?_ | with_reducible refine Sub.tail ?_))), ?_⟩
    refine WJ_all (rs := [14]) (by kernel_rfl) rfl ?_
    refine WI_one ?_
    refine WI_ac rfl (Ac_alloc zr159) rfl rfl rfl rfl ?_
    rintro _ _ ⟨b7, rfl, rfl⟩
    refine ⟨(fun _ => (by repeat (first | with_reducible exact Sub.refl | with_reducible exact Sub.nil | with_reducible refine Sub.cons (by repeat (first | with_reducible exact Ext.here | with_reducible apply Ext.there)) ?_ | with_reducible refine Sub.tail ?_))), ?_⟩
    refine WJ_all (rs := [16]) (by kernel_rfl) rfl ?_
    refine WI_one ?_
    refine WI_ac0 rfl (Ac_store rfl rfl sz159 (h1 := by simp [Value.cells, Value.oneCell', kS_h_itf])) rfl rfl rfl ?_
    rintro _ _ rfl
    refine ⟨(fun _ => (by repeat (first | with_reducible exact Sub.refl | with_reducible exact Sub.nil | with_reducible refine Sub.cons (by repeat (first | with_reducible exact Ext.here | with_reducible apply Ext.there)) ?_ | with_reducible refine Sub.tail ?_))), ?_⟩
    refine WJ_all (rs := [17]) (by kernel_rfl) rfl ?_
    refine WI_one ?_
    refine WI_ac0 rfl (Ac_store rfl rfl sz159 (h1 := by simp [Value.cells, Value.oneCell', kS_h_itf])) rfl rfl rfl ?_
    rintro _ _ rfl
    refine ⟨(fun _ => (by repeat (first | with_reducible exact Sub.refl | with_reducible exact Sub.nil | with_reducible refine Sub.cons (by repeat (first | with_reducible exact Ext.here | with_reducible apply Ext.there)) ?_ | with_reducible refine Sub.tail ?_))), ?_⟩
    refine WJ_done (by kernel_rfl) ?_
    refine Ps_next hK2 ?_
    refine WC_seq fun K8 hK8 => ?_
    refine WC_seq fun K9 hK9 => ?_
    refine WC_draw mix [cl b 157 [(.func (.func lf) #[] caps.toArray), sl (some gb) len cap, .map (some m), .int .i64 ((made : Nat) : Int)], cl b7 159 (kS_h_itf x), cl b8 159 (kS_h_itf y)] (fun i => ([2, 2, 2, 2, 2, 2, 2, 2, 1] : List Nat).getD i 0) ?_
    refine WJ_takeP 0 rfl (by kernel_rfl) (Rd_move rfl) rfl rfl rfl (hp _ _) ?_
    refine WJ_takeP 1 rfl (by kernel_rfl) (Rd_nilCheck rfl) rfl rfl rfl (hp _ _) ?_
    refine WJ_takeP 2 rfl (by kernel_rfl) (Rd_fieldAddr rfl fo157_0) rfl rfl rfl (hp _ _) ?_
    refine WJ_tk 3 (Rd_load rfl tk119) hp ?_ rfl (by kernel_rfl) rfl rfl rfl
    refine WJ_takeP 4 rfl (by kernel_rfl) (Rd_fieldAddr rfl fo159_1) rfl rfl rfl (hp _ _) ?_
    refine WJ_tk 5 (Rd_loadg rfl tk62) hp ?_ rfl (by kernel_rfl) rfl rfl rfl
    refine WJ_takeP 6 rfl (by kernel_rfl) (Rd_fieldAddr rfl fo159_1) rfl rfl rfl (hp _ _) ?_
    refine WJ_tk 7 (Rd_loadg rfl tk62) hp ?_ rfl (by kernel_rfl) rfl rfl rfl
    refine WJ_all (rs := [8]) (by kernel_rfl) rfl ?_
    refine WI_one ?_
    refine WI_ac rfl (Ac_callv rfl hcf rfl rfl rfl rfl (hs := hless s x.2 y.2)) rfl rfl rfl rfl ?_
    rintro _ _ ⟨⟨⟩, rfl, hA⟩
    simp only [List.cons_append, List.nil_append] at hA
    replace hA := hA.symm
    subst hA
    refine ⟨(fun _ => (by repeat (first | with_reducible exact Sub.refl | with_reducible exact Sub.nil | with_reducible refine Sub.cons (by repeat (first | with_reducible exact Ext.here | with_reducible apply Ext.there)) ?_ | with_reducible refine Sub.tail ?_))), ?_⟩
    refine WJ_done (by kernel_rfl) ?_
    refine Ps_next hK9 ?_
    refine WC_cond rfl (fun hc0 => ?_) (fun hc0 => ?_)
    · try simp only [decide_eq_true_eq, decide_eq_false_iff_not, Bool.not_eq_true', Bool.not_eq_false', Bool.not_eq_true, Bool.not_eq_false, Int.not_lt, Int.not_le, Nat.not_lt, Nat.not_le, Decidable.not_not, ne_eq] at hc0
      rw [show ahM lt s x y = (true, (lt s x.2 y.2).2) from by simp [ahM, hc0]] at hret
      refine WC_sr fun K10 hK10 => ?_
      refine WL_rd (Rd_assign rfl) rfl rfl rfl ?_
      refine WL_end hK10 ?_
      refine WC_ret ?_
      exact hret.go () (Rs1 rfl rfl)
    · try simp only [decide_eq_true_eq, decide_eq_false_iff_not, Bool.not_eq_true', Bool.not_eq_false', Bool.not_eq_true, Bool.not_eq_false, Int.not_lt, Int.not_le, Nat.not_lt, Nat.not_le, Decidable.not_not, ne_eq] at hc0
      rw [show ahM lt s x y = (!(lt (lt s x.2 y.2).2 y.2 x.2).1 && decide (x.1 < y.1), (lt (lt s x.2 y.2).2 y.2 x.2).2) from by simp [ahM, hc0]] at hret
      refine WC_skip ?_
      refine Ps_next hK8 ?_
      refine WC_seq fun K11 hK11 => ?_
      refine WC_draw mix [cl b 157 [(.func (.func lf) #[] caps.toArray), sl (some gb) len cap, .map (some m), .int .i64 ((made : Nat) : Int)], cl b7 159 (kS_h_itf x), cl b8 159 (kS_h_itf y)] (fun i => ([2, 2, 2, 2, 2, 2, 2, 2, 1, 2, 2, 2, 2, 2, 2, 2, 2, 2] : List Nat).getD i 0) ?_
      refine WJ_takeP 0 rfl (by kernel_rfl) (Rd_move rfl) rfl rfl rfl (hp _ _) ?_
      refine WJ_takeP 1 rfl (by kernel_rfl) (Rd_nilCheck rfl) rfl rfl rfl (hp _ _) ?_
      refine WJ_takeP 2 rfl (by kernel_rfl) (Rd_fieldAddr rfl fo157_0) rfl rfl rfl (hp _ _) ?_
      refine WJ_tk 3 (Rd_load rfl tk119) hp ?_ rfl (by kernel_rfl) rfl rfl rfl
      refine WJ_takeP 4 rfl (by kernel_rfl) (Rd_fieldAddr rfl fo159_1) rfl rfl rfl (hp _ _) ?_
      refine WJ_tk 5 (Rd_loadg rfl tk62) hp ?_ rfl (by kernel_rfl) rfl rfl rfl
      refine WJ_takeP 6 rfl (by kernel_rfl) (Rd_fieldAddr rfl fo159_1) rfl rfl rfl (hp _ _) ?_
      refine WJ_tk 7 (Rd_loadg rfl tk62) hp ?_ rfl (by kernel_rfl) rfl rfl rfl
      refine WJ_all (rs := [8]) (by kernel_rfl) rfl ?_
      refine WI_one ?_
      refine WI_ac rfl (Ac_callv rfl hcf rfl rfl rfl rfl (hs := hless (lt s x.2 y.2).2 y.2 x.2)) rfl rfl rfl rfl ?_
      rintro _ _ ⟨⟨⟩, rfl, hA⟩
      simp only [List.cons_append, List.nil_append] at hA
      replace hA := hA.symm
      subst hA
      refine ⟨(fun _ => (by repeat (first | with_reducible exact Sub.refl | with_reducible exact Sub.nil | with_reducible refine Sub.cons (by repeat (first | with_reducible exact Ext.here | with_reducible apply Ext.there)) ?_ | with_reducible refine Sub.tail ?_))), ?_⟩
      refine WJ_takeP 9 rfl (by kernel_rfl) (Rd_not rfl) rfl rfl rfl (hp _ _) ?_
      refine WJ_takeP 10 rfl (by kernel_rfl) (Rd_move rfl) rfl rfl rfl (hp _ _) ?_
      refine WJ_bool 42 rfl (fun hg12 => ?_) (fun hg12 => ?_)
      · try simp only [decide_eq_true_eq, decide_eq_false_iff_not, Bool.not_eq_true', Bool.not_eq_false', Bool.not_eq_true, Bool.not_eq_false, Int.not_lt, Int.not_le, Nat.not_lt, Nat.not_le, Decidable.not_not, ne_eq] at hg12
        rw [hg12, Bool.not_false, Bool.true_and] at hret
        refine WJ_takeP 11 rfl (by kernel_rfl) (Rd_fieldAddr rfl fo159_0) rfl rfl rfl (hp _ _) ?_
        refine WJ_tk 12 (Rd_load rfl tk3) hp ?_ rfl (by kernel_rfl) rfl rfl rfl
        refine WJ_takeP 13 rfl (by kernel_rfl) (Rd_fieldAddr rfl fo159_0) rfl rfl rfl (hp _ _) ?_
        refine WJ_tk 14 (Rd_load rfl tk3) hp ?_ rfl (by kernel_rfl) rfl rfl rfl
        refine WJ_takeP 15 rfl (by kernel_rfl) (Rd_lssN rfl rfl) rfl rfl rfl (hp _ _) ?_
        refine WJ_takeP 16 rfl (by kernel_rfl) (Rd_pickT rfl rfl) rfl rfl rfl (hp _ _) ?_
        refine WJ_takeP 17 rfl (by kernel_rfl) (Rd_assign rfl) rfl rfl rfl (hp _ _) ?_
        refine WJ_done (by kernel_rfl) ?_
        refine Ps_next hK11 ?_
        refine WC_ret ?_
        exact hret.go () (Rs1 rfl rfl)
      · try simp only [decide_eq_true_eq, decide_eq_false_iff_not, Bool.not_eq_true', Bool.not_eq_false', Bool.not_eq_true, Bool.not_eq_false, Int.not_lt, Int.not_le, Nat.not_lt, Nat.not_le, Decidable.not_not, ne_eq] at hg12
        rw [hg12, Bool.not_true, Bool.false_and] at hret
        refine WJ_skip 11 rfl (by kernel_rfl) rfl rfl rfl (hp _ _) ?_
        refine WJ_skip 12 rfl (by kernel_rfl) rfl rfl rfl (hp _ _) ?_
        refine WJ_skip 13 rfl (by kernel_rfl) rfl rfl rfl (hp _ _) ?_
        refine WJ_skip 14 rfl (by kernel_rfl) rfl rfl rfl (hp _ _) ?_
        refine WJ_skip 15 rfl (by kernel_rfl) rfl rfl rfl (hp _ _) ?_
        refine WJ_takeP 16 rfl (by kernel_rfl) (Rd_pickF rfl rfl) rfl rfl rfl (hp _ _) ?_
        refine WJ_takeP 17 rfl (by kernel_rfl) (Rd_assign rfl) rfl rfl rfl (hp _ _) ?_
        refine WJ_done (by kernel_rfl) ?_
        refine Ps_next hK11 ?_
        refine WC_ret ?_
        exact hret.go () (Rs1 rfl rfl)

theorem kS_h_swap {lv : Value} {b len cap m made : Nat} {a : Option Nat} {rows : List (Nat × (Int × Int × ByteArray))} {i j : Nat} {x y : Nat × (Int × Int × ByteArray)} (hi : rows[i]? = some x := by assumption) (hj : rows[j]? = some y := by assumption) (hT : Tk rows := by assumption) (hlen : len = rows.length := by first | assumption | omega) (hcap : len ≤ 1000000000 := by omega) : Ct Try.prog 103 [.pointer (some ⟨b, 0, none⟩), .int .i64 ((i : Nat) : Int), .int .i64 ((j : Nat) : Int)] [cl b 157 [lv, sl a len cap, .map (some m), .int .i64 ((made : Nat) : Int)], arr a cap 4 159 kS_h_itf (rows), mpI m (atOf (rows))] (fun _ : Unit => .tuple #[]) (fun _ => [cl b 157 [lv, sl a len cap, .map (some m), .int .i64 ((made : Nat) : Int)], arr a cap 4 159 kS_h_itf (swp rows i j), mpI m (atOf (swp rows i j))]) := by
  refine Ct_body (n := 62) Try.func103 rfl rfl rfl fun F w0 Q hret hnorm hp => ?_
  change WC _ _ _ _ _ _ _ (_ :: _ :: _ :: F)
  have hil := (List.getElem?_eq_some_iff.1 hi).1
  have hjl := (List.getElem?_eq_some_iff.1 hj).1
  have hi' : (swp rows i j)[i]? = some y := swp_left hi hj
  have hj' : (swp rows i j)[j]? = some x := by rw [swp_get hi hj, if_pos rfl]
  refine WC_some (a := a) (by repeat (first | with_reducible exact Has.here | with_reducible refine Has.there ?_)) (by omega) (fun gb hgb _ => ?_)
  subst hgb
  refine WC_seq fun K1 hK1 => ?_
  refine WC_drawA mix (fun i => ([2, 2, 2, 2, 2, 2, 2, 2, 2, 2, 2, 2, 2, 2, 2, 2, 2, 2, 2, 2, 2, 2, 2, 2, 2, 0, 2, 0] : List Nat).getD i 0) ?_
  refine WJ_takeP 0 rfl (by kernel_rfl) (Rd_move rfl) rfl rfl rfl (hp _ _) ?_
  refine WJ_takeP 1 rfl (by kernel_rfl) (Rd_nilCheck rfl) rfl rfl rfl (hp _ _) ?_
  refine WJ_takeP 2 rfl (by kernel_rfl) (Rd_fieldAddr rfl fo157_1) rfl rfl rfl (hp _ _) ?_
  refine WJ_tk 3 (Rd_load rfl tk155) hp ?_ rfl (by kernel_rfl) rfl rfl rfl
  refine WJ_takeP 4 rfl (by kernel_rfl) (Rd_move rfl) rfl rfl rfl (hp _ _) ?_
  refine WJ_takeP 5 rfl (by kernel_rfl) (Rd_move rfl) rfl rfl rfl (hp _ _) ?_
  refine WJ_takeP 6 rfl (by kernel_rfl) (Rd_nilCheck rfl) rfl rfl rfl (hp _ _) ?_
  refine WJ_takeP 7 rfl (by kernel_rfl) (Rd_fieldAddr rfl fo157_1) rfl rfl rfl (hp _ _) ?_
  refine WJ_tk 8 (Rd_load rfl tk155) hp ?_ rfl (by kernel_rfl) rfl rfl rfl
  refine WJ_takeP 9 rfl (by kernel_rfl) (Rd_move rfl) rfl rfl rfl (hp _ _) ?_
  refine WJ_takeP 10 rfl (by kernel_rfl) (Rd_move rfl) rfl rfl rfl (hp _ _) ?_
  refine WJ_takeP 11 rfl (by kernel_rfl) (Rd_nilCheck rfl) rfl rfl rfl (hp _ _) ?_
  refine WJ_takeP 12 rfl (by kernel_rfl) (Rd_fieldAddr rfl fo157_1) rfl rfl rfl (hp _ _) ?_
  refine WJ_tk 13 (Rd_load rfl tk155) hp ?_ rfl (by kernel_rfl) rfl rfl rfl
  refine WJ_takeP 14 rfl (by kernel_rfl) (Rd_move rfl) rfl rfl rfl (hp _ _) ?_
  refine WJ_takeP 15 rfl (by kernel_rfl) (Rd_index _ rfl rfl ud155 sz159) rfl rfl rfl (hp _ _) ?_
  refine WJ_tk 16 (Rd_loadg_arr rfl tk159) hp ?_ rfl (by kernel_rfl) rfl rfl rfl
  refine WJ_takeP 17 rfl (by kernel_rfl) (Rd_move rfl) rfl rfl rfl (hp _ _) ?_
  refine WJ_takeP 18 rfl (by kernel_rfl) (Rd_nilCheck rfl) rfl rfl rfl (hp _ _) ?_
  refine WJ_takeP 19 rfl (by kernel_rfl) (Rd_fieldAddr rfl fo157_1) rfl rfl rfl (hp _ _) ?_
  refine WJ_tk 20 (Rd_load rfl tk155) hp ?_ rfl (by kernel_rfl) rfl rfl rfl
  refine WJ_takeP 21 rfl (by kernel_rfl) (Rd_move rfl) rfl rfl rfl (hp _ _) ?_
  refine WJ_takeP 22 rfl (by kernel_rfl) (Rd_index _ rfl rfl ud155 sz159) rfl rfl rfl (hp _ _) ?_
  refine WJ_tk 23 (Rd_loadg_arr rfl tk159) hp ?_ rfl (by kernel_rfl) rfl rfl rfl
  refine WJ_takeP 24 rfl (by kernel_rfl) (Rd_index _ rfl rfl ud155 sz159) rfl rfl rfl (hp _ _) ?_
  refine WJ_all (rs := [25]) (by kernel_rfl) rfl ?_
  refine WI_one ?_
  refine WI_ac0 rfl (Ac_storeg_arr y rfl rfl sz159 (h1 := (kS_h_itf_one _))) rfl rfl rfl ?_
  rintro _ _ rfl
  refine ⟨(fun h => by cases h), ?_⟩
  refine WJ_takeP 26 rfl (by kernel_rfl) (Rd_index _ rfl rfl ud155 sz159) rfl rfl rfl (hp _ _) ?_
  refine WJ_all (rs := [27]) (by kernel_rfl) rfl ?_
  refine WI_one ?_
  refine WI_ac0 rfl (Ac_storeg_arr x rfl rfl sz159 (h1 := (kS_h_itf_one _)) (hl := by simp only [List.length_set]; omega)) rfl rfl rfl ?_
  rintro _ _ rfl
  refine ⟨(fun h => by cases h), ?_⟩
  refine WJ_done (by kernel_rfl) ?_
  refine Ps_next hK1 ?_
  rw [← swp_eq hi hj]
  refine WC_draw mix [cl b 157 [lv, sl (some gb) len cap, .map (some m), .int .i64 ((made : Nat) : Int)], arr (some gb) cap 4 159 kS_h_itf (swp rows i j)] (fun i => ([2, 2, 2, 2, 2, 2, 2, 2, 2, 2, 2, 2, 2, 2, 2, 2, 2, 2, 2, 2, 2, 2, 2, 2, 2, 2, 1, 2, 1, 1, 2, 1] : List Nat).getD i 0) ?_
  refine WJ_takeP 0 rfl (by kernel_rfl) (Rd_move rfl) rfl rfl rfl (hp _ _) ?_
  refine WJ_takeP 1 rfl (by kernel_rfl) (Rd_nilCheck rfl) rfl rfl rfl (hp _ _) ?_
  refine WJ_takeP 2 rfl (by kernel_rfl) (Rd_fieldAddr rfl fo157_2) rfl rfl rfl (hp _ _) ?_
  refine WJ_tk 3 (Rd_load rfl tk141) hp ?_ rfl (by kernel_rfl) rfl rfl rfl
  refine WJ_takeP 4 rfl (by kernel_rfl) (Rd_move rfl) rfl rfl rfl (hp _ _) ?_
  refine WJ_takeP 5 rfl (by kernel_rfl) (Rd_nilCheck rfl) rfl rfl rfl (hp _ _) ?_
  refine WJ_takeP 6 rfl (by kernel_rfl) (Rd_fieldAddr rfl fo157_1) rfl rfl rfl (hp _ _) ?_
  refine WJ_tk 7 (Rd_load rfl tk155) hp ?_ rfl (by kernel_rfl) rfl rfl rfl
  refine WJ_takeP 8 rfl (by kernel_rfl) (Rd_move rfl) rfl rfl rfl (hp _ _) ?_
  refine WJ_takeP 9 rfl (by kernel_rfl) (Rd_index _ rfl rfl ud155 sz159) rfl rfl rfl (hp _ _) ?_
  refine WJ_takeP 10 rfl (by kernel_rfl) (Rd_fieldAddr rfl fo159_0) rfl rfl rfl (hp _ _) ?_
  refine WJ_tk 11 (Rd_load_arr rfl tk3 (j := 0)) hp ?_ rfl (by kernel_rfl) rfl rfl rfl
  refine WJ_takeP 12 rfl (by kernel_rfl) (Rd_move rfl) rfl rfl rfl (hp _ _) ?_
  refine WJ_takeP 13 rfl (by kernel_rfl) (Rd_nilCheck rfl) rfl rfl rfl (hp _ _) ?_
  refine WJ_takeP 14 rfl (by kernel_rfl) (Rd_fieldAddr rfl fo157_2) rfl rfl rfl (hp _ _) ?_
  refine WJ_tk 15 (Rd_load rfl tk141) hp ?_ rfl (by kernel_rfl) rfl rfl rfl
  refine WJ_takeP 16 rfl (by kernel_rfl) (Rd_move rfl) rfl rfl rfl (hp _ _) ?_
  refine WJ_takeP 17 rfl (by kernel_rfl) (Rd_nilCheck rfl) rfl rfl rfl (hp _ _) ?_
  refine WJ_takeP 18 rfl (by kernel_rfl) (Rd_fieldAddr rfl fo157_1) rfl rfl rfl (hp _ _) ?_
  refine WJ_tk 19 (Rd_load rfl tk155) hp ?_ rfl (by kernel_rfl) rfl rfl rfl
  refine WJ_takeP 20 rfl (by kernel_rfl) (Rd_move rfl) rfl rfl rfl (hp _ _) ?_
  refine WJ_takeP 21 rfl (by kernel_rfl) (Rd_index _ rfl rfl ud155 sz159) rfl rfl rfl (hp _ _) ?_
  refine WJ_takeP 22 rfl (by kernel_rfl) (Rd_fieldAddr rfl fo159_0) rfl rfl rfl (hp _ _) ?_
  refine WJ_tk 23 (Rd_load_arr rfl tk3 (j := 0)) hp ?_ rfl (by kernel_rfl) rfl rfl rfl
  refine WJ_takeP 24 rfl (by kernel_rfl) (Rd_move rfl) rfl rfl rfl (hp _ _) ?_
  refine WJ_takeP 25 rfl (by kernel_rfl) (Rd_move rfl) rfl rfl rfl (hp _ _) ?_
  refine WJ_all (rs := [26]) (by kernel_rfl) rfl ?_
  refine WI_one ?_
  refine WI_ac rfl (Ac_mapEntry rfl rfl ud141 ud3 zv3) rfl rfl rfl rfl ?_
  rintro _ _ ⟨s1, rfl, rfl⟩
  refine ⟨(fun _ => (by repeat (first | with_reducible exact Sub.refl | with_reducible exact Sub.nil | with_reducible refine Sub.cons (by repeat (first | with_reducible exact Ext.here | with_reducible apply Ext.there)) ?_ | with_reducible refine Sub.tail ?_))), ?_⟩
  refine WJ_takeP 27 rfl (by kernel_rfl) (Rd_ext1 rfl) rfl rfl rfl (hp _ _) ?_
  refine WJ_all (rs := [28]) (by kernel_rfl) rfl ?_
  refine WI_one ?_
  refine WI_ac0 rfl (Ac_entryStore rfl rfl rfl) rfl rfl rfl ?_
  rintro _ _ rfl
  rw [upd_upd]
  refine ⟨(fun _ => (by repeat (first | with_reducible exact Sub.refl | with_reducible exact Sub.nil | with_reducible refine Sub.cons (by repeat (first | with_reducible exact Ext.here | with_reducible apply Ext.there)) ?_ | with_reducible refine Sub.tail ?_))), ?_⟩
  refine WJ_all (rs := [29]) (by kernel_rfl) rfl ?_
  refine WI_one ?_
  refine WI_ac rfl (Ac_mapEntry rfl rfl ud141 ud3 zv3) rfl rfl rfl rfl ?_
  rintro _ _ ⟨s2, rfl, rfl⟩
  refine ⟨(fun _ => (by repeat (first | with_reducible exact Sub.refl | with_reducible exact Sub.nil | with_reducible refine Sub.cons (by repeat (first | with_reducible exact Ext.here | with_reducible apply Ext.there)) ?_ | with_reducible refine Sub.tail ?_))), ?_⟩
  refine WJ_takeP 30 rfl (by kernel_rfl) (Rd_ext1 rfl) rfl rfl rfl (hp _ _) ?_
  refine WJ_all (rs := [31]) (by kernel_rfl) rfl ?_
  refine WI_one ?_
  refine WI_ac0 rfl (Ac_entryStore rfl rfl rfl) rfl rfl rfl ?_
  rintro _ _ rfl
  rw [upd_upd, atOf_swp hT hi hj]
  refine ⟨(fun _ => (by repeat (first | with_reducible exact Sub.refl | with_reducible exact Sub.nil | with_reducible refine Sub.cons (by repeat (first | with_reducible exact Ext.here | with_reducible apply Ext.there)) ?_ | with_reducible refine Sub.tail ?_))), ?_⟩
  refine WJ_done (by kernel_rfl) ?_
  exact hnorm.go () (Rs0 rfl)

theorem kS_h_up {σ : Type} {J : σ → Asn} {lt : σ → (Int × Int × ByteArray) → (Int × Int × ByteArray) → Bool × σ} {lf : FuncId} {caps : List Value} (hcf : cfn Try.prog lf = true) (hless : ∀ s x y, Ct Try.prog lf ([.agg [.int .i64 x.1, .int .i64 x.2.1, .string x.2.2].toArray, .agg [.int .i64 y.1, .int .i64 y.2.1, .string y.2.2].toArray] ++ caps) [J s] (fun _ : Unit => .bool (lt s x y).1) (fun _ => [J (lt s x y).2])) {b len cap m made : Nat} {a : Option Nat} {rows : List (Nat × (Int × Int × ByteArray))} {s : σ} {i : Nat} (hi : i < len := by omega) (hT : Tk rows := by assumption) (hlen : len = rows.length := by first | assumption | omega) (hcap : len ≤ 1000000000 := by omega) : Ct Try.prog 86 [.pointer (some ⟨b, 0, none⟩), .int .i64 ((i : Nat) : Int)] [cl b 157 [(.func (.func lf) #[] caps.toArray), sl a len cap, .map (some m), .int .i64 ((made : Nat) : Int)], arr a cap 4 159 kS_h_itf (rows), mpI m (atOf (rows)), J s] (fun _ : Unit => .tuple #[]) (fun _ => [cl b 157 [(.func (.func lf) #[] caps.toArray), sl a len cap, .map (some m), .int .i64 ((made : Nat) : Int)], arr a cap 4 159 kS_h_itf ((upM lt s rows i).1), mpI m (atOf ((upM lt s rows i).1)), J (upM lt s rows i).2]) := by
  refine Ct_body (n := 23) Try.func86 rfl rfl rfl fun F w0 Q hret hnorm hp => ?_
  change WC _ _ _ _ _ _ _ (_ :: _ :: _ :: _ :: F)
  refine WC_block ?_
  refine WC_loop (σ := σ × (List (Nat × (Int × Int × ByteArray))) × Nat) (fun ⟨s', rows', i'⟩ => [(0, .pointer (some ⟨b, 0, none⟩)), (1, .int .i64 ((i' : Nat) : Int))]) (fun ⟨s', rows', i'⟩ => cl b 157 [(.func (.func lf) #[] caps.toArray), sl a len cap, .map (some m), .int .i64 ((made : Nat) : Int)] :: arr a cap 4 159 kS_h_itf (rows') :: mpI m (atOf (rows')) :: J s' :: F) (fun ⟨s', rows', i'⟩ => Tk rows' ∧ rows'.length = len ∧ i' < len ∧ upM lt s' rows' i' = upM lt s rows i) (fun ⟨s', rows', i'⟩ => i') ⟨s, rows, i⟩ ?_ ?_ ?_ ?_
  · exact ⟨hT, hlen.symm, hi, rfl⟩
  · exact (Wk.cons (by first | rfl | (simp only [List.length_append, List.length_cons, List.length_nil, List.length_replicate, Nat.zero_add]; rfl) | (simp; done)) (Wk.cons (by first | rfl | (simp only [List.length_append, List.length_cons, List.length_nil, List.length_replicate, Nat.zero_add]; rfl) | (simp; done)) Wk.nil))
  · repeat (first | with_reducible exact Sub.refl | with_reducible exact Sub.nil | with_reducible refine Sub.cons (by repeat (first | with_reducible exact Ext.here | with_reducible apply Ext.there)) ?_ | with_reducible refine Sub.tail ?_)
  · rintro ⟨s', rows', i'⟩ ⟨hT', hl', hi', hu⟩ K1 hK1
    dsimp only at *
    refine WC_seq fun K2 hK2 => ?_
    refine WC_sr fun K3 hK3 => ?_
    refine WL_rd (Rd_move rfl) rfl rfl rfl ?_
    refine WL_rd (Rd_gtrN (j := 0) rfl rfl) rfl rfl rfl ?_
    refine WL_rd (Rd_move rfl) rfl rfl rfl ?_
    refine WL_bool 6 rfl (fun hg4 => ?_) (fun hg4 => ?_)
    · try simp only [decide_eq_true_eq, decide_eq_false_iff_not, Bool.not_eq_true', Bool.not_eq_false', Bool.not_eq_true, Bool.not_eq_false, Int.not_lt, Int.not_le, Nat.not_lt, Nat.not_le, Decidable.not_not, ne_eq] at hg4
      obtain ⟨x, hx⟩ : ∃ x, rows'[i']? = some x := ⟨_, List.getElem?_eq_getElem (by omega)⟩
      obtain ⟨y, hy⟩ : ∃ y, rows'[(i' - 1) / 2]? = some y := ⟨_, List.getElem?_eq_getElem (by omega)⟩
      refine WL_rd (Rd_move rfl) rfl rfl rfl ?_
      refine WL_rd (Rd_move rfl) rfl rfl rfl ?_
      refine WL_rd (Rd_move rfl) rfl rfl rfl ?_
      refine WL_rd (Rd_subN (j := 1) rfl rfl) rfl rfl rfl ?_
      refine WL_rd (Rd_quoN (j := 2) rfl rfl) rfl rfl rfl ?_
      refine WL_ac (Ac_call cf102 rfl (hs := kS_h_ahead hcf hless)) rfl rfl rfl ?_
      rintro _ _ ⟨⟨⟩, rfl, hA⟩
      simp only [List.cons_append, List.nil_append] at hA
      replace hA := hA.symm
      subst hA
      refine WL_rd (Rd_pickT rfl rfl) rfl rfl rfl ?_
      refine WL_end hK3 ?_
      refine WC_cond rfl (fun hc0 => ?_) (fun hc0 => ?_)
      · try simp only [decide_eq_true_eq, decide_eq_false_iff_not, Bool.not_eq_true', Bool.not_eq_false', Bool.not_eq_true, Bool.not_eq_false, Int.not_lt, Int.not_le, Nat.not_lt, Nat.not_le, Decidable.not_not, ne_eq] at hc0
        refine WC_skip ?_
        refine Ps_next hK2 ?_
        refine WC_block ?_
        refine WC_sr fun K5 hK5 => ?_
        refine WL_rd (Rd_move rfl) rfl rfl rfl ?_
        refine WL_rd (Rd_move rfl) rfl rfl rfl ?_
        refine WL_rd (Rd_move rfl) rfl rfl rfl ?_
        refine WL_rd (Rd_subN (j := 1) rfl rfl) rfl rfl rfl ?_
        refine WL_rd (Rd_quoN (j := 2) rfl rfl) rfl rfl rfl ?_
        refine WL_ac (Ac_call cf103 rfl (hs := kS_h_swap)) rfl rfl rfl ?_
        rintro _ _ ⟨⟨⟩, rfl, hA⟩
        simp only [List.cons_append, List.nil_append] at hA
        replace hA := hA.symm
        subst hA
        refine WL_end hK5 ?_
        refine WC_region ?_
        refine WL_rd (Rd_move rfl) rfl rfl rfl ?_
        refine WL_rd (Rd_subN (j := 1) rfl rfl) rfl rfl rfl ?_
        refine WL_rd (Rd_quoN (j := 2) rfl rfl) rfl rfl rfl ?_
        refine WL_rd (Rd_assign rfl) rfl rfl rfl ?_
        refine WL_nil ?_
        refine Ps_wk ((Wk.cons (by first | rfl | (simp only [List.length_append, List.length_cons, List.length_nil, List.length_replicate, Nat.zero_add]; rfl) | (simp; done)) (Wk.cons (by first | rfl | (simp only [List.length_append, List.length_cons, List.length_nil, List.length_replicate, Nat.zero_add]; rfl) | (simp; done)) Wk.nil))) (by first | with_reducible exact Sub.refl | ((try dsimp only); repeat (first | with_reducible exact Sub.refl | with_reducible exact Sub.nil | with_reducible refine Sub.cons (by repeat (first | with_reducible exact Ext.here | with_reducible apply Ext.there)) ?_ | with_reducible refine Sub.tail ?_))) (hK1 ⟨(ahM lt s' x y).2, swp rows' i' ((i' - 1) / 2), (i' - 1) / 2⟩ (⟨Tk_perm (swp_perm _ _) hT', by rw [swp_len]; exact hl', by dsimp only; omega, by rw [← hu, upM_step lt s' (by omega) hx hy, if_pos hc0]⟩) (by try dsimp only; omega))
      · try simp only [decide_eq_true_eq, decide_eq_false_iff_not, Bool.not_eq_true', Bool.not_eq_false', Bool.not_eq_true, Bool.not_eq_false, Int.not_lt, Int.not_le, Nat.not_lt, Nat.not_le, Decidable.not_not, ne_eq] at hc0
        rw [← hu, upM_step lt s' (by omega) hx hy, if_neg (by simp [hc0])] at hnorm
        refine WC_exit ?_
        exact hnorm.go () (Rs0 rfl)
    · try simp only [decide_eq_true_eq, decide_eq_false_iff_not, Bool.not_eq_true', Bool.not_eq_false', Bool.not_eq_true, Bool.not_eq_false, Int.not_lt, Int.not_le, Nat.not_lt, Nat.not_le, Decidable.not_not, ne_eq] at hg4
      have h0 : i' = 0 := by omega
      subst h0
      rw [← hu, upM_zero] at hnorm
      refine WL_skip rfl rfl rfl ?_
      refine WL_skip rfl rfl rfl ?_
      refine WL_skip rfl rfl rfl ?_
      refine WL_skip rfl rfl rfl ?_
      refine WL_skip rfl rfl rfl ?_
      refine WL_skip rfl rfl rfl ?_
      refine WL_rd (Rd_pickF rfl rfl) rfl rfl rfl ?_
      refine WL_end hK3 ?_
      refine WC_condF rfl ?_
      refine WC_exit ?_
      exact hnorm.go () (Rs0 rfl)

theorem kS_h_down {σ : Type} {J : σ → Asn} {lt : σ → (Int × Int × ByteArray) → (Int × Int × ByteArray) → Bool × σ} {lf : FuncId} {caps : List Value} (hcf : cfn Try.prog lf = true) (hless : ∀ s x y, Ct Try.prog lf ([.agg [.int .i64 x.1, .int .i64 x.2.1, .string x.2.2].toArray, .agg [.int .i64 y.1, .int .i64 y.2.1, .string y.2.2].toArray] ++ caps) [J s] (fun _ : Unit => .bool (lt s x y).1) (fun _ => [J (lt s x y).2])) {b len cap m made : Nat} {a : Option Nat} {rows : List (Nat × (Int × Int × ByteArray))} {s : σ} {i : Nat} (hi : i < len := by omega) (hT : Tk rows := by assumption) (hlen : len = rows.length := by first | assumption | omega) (hcap : len ≤ 1000000000 := by omega) : Ct Try.prog 104 [.pointer (some ⟨b, 0, none⟩), .int .i64 ((i : Nat) : Int)] [cl b 157 [(.func (.func lf) #[] caps.toArray), sl a len cap, .map (some m), .int .i64 ((made : Nat) : Int)], arr a cap 4 159 kS_h_itf (rows), mpI m (atOf (rows)), J s] (fun _ : Unit => .tuple #[]) (fun _ => [cl b 157 [(.func (.func lf) #[] caps.toArray), sl a len cap, .map (some m), .int .i64 ((made : Nat) : Int)], arr a cap 4 159 kS_h_itf ((downM lt s rows i).1), mpI m (atOf ((downM lt s rows i).1)), J (downM lt s rows i).2]) := by
  refine Ct_body (n := 41) Try.func104 rfl rfl rfl fun F w0 Q hret hnorm hp => ?_
  change WC _ _ _ _ _ _ _ (_ :: _ :: _ :: _ :: F)
  refine WC_block ?_
  refine WC_loop (σ := σ × (List (Nat × (Int × Int × ByteArray))) × Nat) (fun ⟨s', rows', i'⟩ => [(0, .pointer (some ⟨b, 0, none⟩)), (1, .int .i64 ((i' : Nat) : Int))]) (fun ⟨s', rows', i'⟩ => cl b 157 [(.func (.func lf) #[] caps.toArray), sl a len cap, .map (some m), .int .i64 ((made : Nat) : Int)] :: arr a cap 4 159 kS_h_itf (rows') :: mpI m (atOf (rows')) :: J s' :: F) (fun ⟨s', rows', i'⟩ => Tk rows' ∧ rows'.length = len ∧ i' < len ∧ downM lt s' rows' i' = downM lt s rows i) (fun ⟨s', rows', i'⟩ => len - i') ⟨s, rows, i⟩ ?_ ?_ ?_ ?_
  · exact ⟨hT, hlen.symm, hi, rfl⟩
  · exact (Wk.cons (by first | rfl | (simp only [List.length_append, List.length_cons, List.length_nil, List.length_replicate, Nat.zero_add]; rfl) | (simp; done)) (Wk.cons (by first | rfl | (simp only [List.length_append, List.length_cons, List.length_nil, List.length_replicate, Nat.zero_add]; rfl) | (simp; done)) Wk.nil))
  · repeat (first | with_reducible exact Sub.refl | with_reducible exact Sub.nil | with_reducible refine Sub.cons (by repeat (first | with_reducible exact Ext.here | with_reducible apply Ext.there)) ?_ | with_reducible refine Sub.tail ?_)
  · rintro ⟨s', rows', i'⟩ ⟨hT', hl', hi', hu⟩ K1 hK1
    dsimp only at *
    refine WC_block ?_
    refine WC_sr fun K2 hK2 => ?_
    refine WL_rd (Rd_move rfl) rfl rfl rfl ?_
    refine WL_rd (Rd_assign rfl) rfl rfl rfl ?_
    refine WL_end hK2 ?_
    refine WC_seq fun K3 hK3 => ?_
    refine WC_sr fun K4 hK4 => ?_
    refine WL_rd (Rd_move rfl) rfl rfl rfl ?_
    refine WL_rd (Rd_mulN (i := 2) rfl rfl) rfl rfl rfl ?_
    refine WL_rd (Rd_addN (j := 1) rfl rfl) rfl rfl rfl ?_
    refine WL_rd (Rd_move rfl) rfl rfl rfl ?_
    refine WL_rd (Rd_mulN (i := 2) rfl rfl) rfl rfl rfl ?_
    refine WL_rd (Rd_addN (j := 2) rfl rfl) rfl rfl rfl ?_
    refine WL_rd (Rd_build pls169 rfl) rfl rfl rfl ?_
    refine WL_rd (Rd_move rfl) rfl rfl rfl ?_
    refine WL_end hK4 ?_
    refine WC_block ?_
    refine WC_loop (σ := σ × Nat × Nat) (fun ⟨s2, best, k⟩ => [(0, .pointer (some ⟨b, 0, none⟩)), (1, .int .i64 ((i' : Nat) : Int)), (4, .int .i64 ((best : Nat) : Int)), (14, .agg [.int .i64 ((2 * i' + 1 : Nat) : Int), .int .i64 ((2 * i' + 2 : Nat) : Int)].toArray), (15, .int .i64 ((k : Nat) : Int))]) (fun ⟨s2, best, k⟩ => cl b 157 [(.func (.func lf) #[] caps.toArray), sl a len cap, .map (some m), .int .i64 ((made : Nat) : Int)] :: arr a cap 4 159 kS_h_itf (rows') :: mpI m (atOf (rows')) :: J s2 :: F) (fun ⟨s2, best, k⟩ => k ≤ 2 ∧ best < len ∧ remM lt s2 rows' i' best k = bestM lt s' rows' i') (fun ⟨s2, best, k⟩ => 2 - k) ⟨s', i', 0⟩ ?_ ?_ ?_ ?_
    · exact ⟨by omega, hi', rfl⟩
    · exact (Wk.cons (by first | rfl | (simp only [List.length_append, List.length_cons, List.length_nil, List.length_replicate, Nat.zero_add]; rfl) | (simp; done)) (Wk.cons (by first | rfl | (simp only [List.length_append, List.length_cons, List.length_nil, List.length_replicate, Nat.zero_add]; rfl) | (simp; done)) (Wk.cons (by first | rfl | (simp only [List.length_append, List.length_cons, List.length_nil, List.length_replicate, Nat.zero_add]; rfl) | (simp; done)) (Wk.cons (by first | rfl | (simp only [List.length_append, List.length_cons, List.length_nil, List.length_replicate, Nat.zero_add]; rfl) | (simp; done)) (Wk.cons (by first | rfl | (simp only [List.length_append, List.length_cons, List.length_nil, List.length_replicate, Nat.zero_add]; rfl) | (simp; done)) Wk.nil)))))
    · repeat (first | with_reducible exact Sub.refl | with_reducible exact Sub.nil | with_reducible refine Sub.cons (by repeat (first | with_reducible exact Ext.here | with_reducible apply Ext.there)) ?_ | with_reducible refine Sub.tail ?_)
    · rintro ⟨s2, best, k⟩ ⟨hk2, hbl, hr⟩ K5 hK5
      dsimp only at *
      refine WC_sr fun K6 hK6 => ?_
      refine WL_rd (Rd_lssN (j := 2) rfl rfl) rfl rfl rfl ?_
      refine WL_end hK6 ?_
      refine WC_seq fun K7 hK7 => ?_
      refine WC_cond rfl (fun hc0 => ?_) (fun hc0 => ?_)
      · try simp only [decide_eq_true_eq, decide_eq_false_iff_not, Bool.not_eq_true', Bool.not_eq_false', Bool.not_eq_true, Bool.not_eq_false, Int.not_lt, Int.not_le, Nat.not_lt, Nat.not_le, Decidable.not_not, ne_eq] at hc0
        have hk : k < 2 := by omega
        refine WC_skip ?_
        refine Ps_next hK7 ?_
        refine WC_seq fun K8 hK8 => ?_
        refine WC_block ?_
        refine WC_sr fun K9 hK9 => ?_
        refine WL_rd (Rd_indexAgg (v := .int .i64 ((2 * i' + 1 + k : Nat) : Int)) k rfl rfl ud169 tk3 rfl (by omega) sz3 (by rcases (show k = 0 ∨ k = 1 from by omega) with h | h <;> subst h <;> rfl)) rfl rfl rfl ?_
        refine WL_rd (Rd_assign rfl) rfl rfl rfl ?_
        refine WL_end hK9 ?_
        refine WC_sr fun K10 hK10 => ?_
        refine WL_rd (Rd_move rfl) rfl rfl rfl ?_
        refine WL_rd (Rd_move rfl) rfl rfl rfl ?_
        refine WL_rd (Rd_nilCheck rfl) rfl rfl rfl ?_
        refine WL_rd (Rd_fieldAddr rfl fo157_1) rfl rfl rfl ?_
        refine WL_rd (Rd_load rfl tk155) rfl rfl rfl ?_
        refine WL_rd (Rd_len rfl rfl ud155) rfl rfl rfl ?_
        refine WL_rd (Rd_lssN rfl rfl) rfl rfl rfl ?_
        refine WL_rd (Rd_move rfl) rfl rfl rfl ?_
        refine WL_bool 25 rfl (fun hg11 => ?_) (fun hg11 => ?_)
        · try simp only [decide_eq_true_eq, decide_eq_false_iff_not, Bool.not_eq_true', Bool.not_eq_false', Bool.not_eq_true, Bool.not_eq_false, Int.not_lt, Int.not_le, Nat.not_lt, Nat.not_le, Decidable.not_not, ne_eq] at hg11
          obtain ⟨x, hx⟩ : ∃ x, rows'[2 * i' + 1 + k]? = some x := ⟨_, List.getElem?_eq_getElem (by omega)⟩
          obtain ⟨y, hy⟩ : ∃ y, rows'[best]? = some y := ⟨_, List.getElem?_eq_getElem (by omega)⟩
          refine WL_rd (Rd_move rfl) rfl rfl rfl ?_
          refine WL_rd (Rd_move rfl) rfl rfl rfl ?_
          refine WL_rd (Rd_move rfl) rfl rfl rfl ?_
          refine WL_ac (Ac_call cf102 rfl (hs := kS_h_ahead hcf hless)) rfl rfl rfl ?_
          rintro _ _ ⟨⟨⟩, rfl, hA⟩
          simp only [List.cons_append, List.nil_append] at hA
          replace hA := hA.symm
          subst hA
          refine WL_rd (Rd_pickT rfl rfl) rfl rfl rfl ?_
          refine WL_end hK10 ?_
          refine WC_cond rfl (fun hc1 => ?_) (fun hc1 => ?_)
          · try simp only [decide_eq_true_eq, decide_eq_false_iff_not, Bool.not_eq_true', Bool.not_eq_false', Bool.not_eq_true, Bool.not_eq_false, Int.not_lt, Int.not_le, Nat.not_lt, Nat.not_le, Decidable.not_not, ne_eq] at hc1
            refine WC_region ?_
            refine WL_rd (Rd_move rfl) rfl rfl rfl ?_
            refine WL_rd (Rd_assign rfl) rfl rfl rfl ?_
            refine WL_nil ?_
            refine Ps_next hK8 ?_
            refine WC_region ?_
            refine WL_rd (Rd_addN (j := 1) rfl rfl) rfl rfl rfl ?_
            refine WL_rd (Rd_move rfl) rfl rfl rfl ?_
            refine WL_nil ?_
            first | refine Ps_wk ((Wk.cons (by first | rfl | (simp only [List.length_append, List.length_cons, List.length_nil, List.length_replicate, Nat.zero_add]; rfl) | (simp; done)) (Wk.cons (by first | rfl | (simp only [List.length_append, List.length_cons, List.length_nil, List.length_replicate, Nat.zero_add]; rfl) | (simp; done)) (Wk.cons (by first | rfl | (simp only [List.length_append, List.length_cons, List.length_nil, List.length_replicate, Nat.zero_add]; rfl) | (simp; done)) (Wk.cons (by first | rfl | (simp only [List.length_append, List.length_cons, List.length_nil, List.length_replicate, Nat.zero_add]; rfl) | (simp; done)) (Wk.cons (by first | rfl | (simp only [List.length_append, List.length_cons, List.length_nil, List.length_replicate, Nat.zero_add]; rfl) | (simp; done)) Wk.nil)))))) (by first | with_reducible exact Sub.refl | ((try dsimp only); repeat (first | with_reducible exact Sub.refl | with_reducible exact Sub.nil | with_reducible refine Sub.cons (by repeat (first | with_reducible exact Ext.here | with_reducible apply Ext.there)) ?_ | with_reducible refine Sub.tail ?_))) (hK5 ⟨s2, best, k + 1⟩ (⟨by dsimp only; omega, hbl, by rw [← hr, remM_step lt s2 rows' i' best hk, pickM_no _ _ (by omega)]⟩) (by try dsimp only; omega)) | refine Ps_wk ((Wk.cons (by first | rfl | (simp only [List.length_append, List.length_cons, List.length_nil, List.length_replicate, Nat.zero_add]; rfl) | (simp; done)) (Wk.cons (by first | rfl | (simp only [List.length_append, List.length_cons, List.length_nil, List.length_replicate, Nat.zero_add]; rfl) | (simp; done)) (Wk.cons (by first | rfl | (simp only [List.length_append, List.length_cons, List.length_nil, List.length_replicate, Nat.zero_add]; rfl) | (simp; done)) (Wk.cons (by first | rfl | (simp only [List.length_append, List.length_cons, List.length_nil, List.length_replicate, Nat.zero_add]; rfl) | (simp; done)) (Wk.cons (by first | rfl | (simp only [List.length_append, List.length_cons, List.length_nil, List.length_replicate, Nat.zero_add]; rfl) | (simp; done)) Wk.nil)))))) (by first | with_reducible exact Sub.refl | ((try dsimp only); repeat (first | with_reducible exact Sub.refl | with_reducible exact Sub.nil | with_reducible refine Sub.cons (by repeat (first | with_reducible exact Ext.here | with_reducible apply Ext.there)) ?_ | with_reducible refine Sub.tail ?_))) (hK5 ⟨(ahM lt s2 x y).2, 2 * i' + 1 + k, k + 1⟩ (⟨by dsimp only; omega, by dsimp only; omega, by rw [← hr, remM_step lt s2 rows' i' best hk, pickM_yes _ _ hx hy, if_pos hc1]⟩) (by try dsimp only; omega)) | refine Ps_wk ((Wk.cons (by first | rfl | (simp only [List.length_append, List.length_cons, List.length_nil, List.length_replicate, Nat.zero_add]; rfl) | (simp; done)) (Wk.cons (by first | rfl | (simp only [List.length_append, List.length_cons, List.length_nil, List.length_replicate, Nat.zero_add]; rfl) | (simp; done)) (Wk.cons (by first | rfl | (simp only [List.length_append, List.length_cons, List.length_nil, List.length_replicate, Nat.zero_add]; rfl) | (simp; done)) (Wk.cons (by first | rfl | (simp only [List.length_append, List.length_cons, List.length_nil, List.length_replicate, Nat.zero_add]; rfl) | (simp; done)) (Wk.cons (by first | rfl | (simp only [List.length_append, List.length_cons, List.length_nil, List.length_replicate, Nat.zero_add]; rfl) | (simp; done)) Wk.nil)))))) (by first | with_reducible exact Sub.refl | ((try dsimp only); repeat (first | with_reducible exact Sub.refl | with_reducible exact Sub.nil | with_reducible refine Sub.cons (by repeat (first | with_reducible exact Ext.here | with_reducible apply Ext.there)) ?_ | with_reducible refine Sub.tail ?_))) (hK5 ⟨(ahM lt s2 x y).2, best, k + 1⟩ (⟨by dsimp only; omega, hbl, by rw [← hr, remM_step lt s2 rows' i' best hk, pickM_yes _ _ hx hy, if_neg (by simp [hc1])]⟩) (by try dsimp only; omega))
          · try simp only [decide_eq_true_eq, decide_eq_false_iff_not, Bool.not_eq_true', Bool.not_eq_false', Bool.not_eq_true, Bool.not_eq_false, Int.not_lt, Int.not_le, Nat.not_lt, Nat.not_le, Decidable.not_not, ne_eq] at hc1
            refine WC_skip ?_
            refine Ps_next hK8 ?_
            refine WC_region ?_
            refine WL_rd (Rd_addN (j := 1) rfl rfl) rfl rfl rfl ?_
            refine WL_rd (Rd_move rfl) rfl rfl rfl ?_
            refine WL_nil ?_
            first | refine Ps_wk ((Wk.cons (by first | rfl | (simp only [List.length_append, List.length_cons, List.length_nil, List.length_replicate, Nat.zero_add]; rfl) | (simp; done)) (Wk.cons (by first | rfl | (simp only [List.length_append, List.length_cons, List.length_nil, List.length_replicate, Nat.zero_add]; rfl) | (simp; done)) (Wk.cons (by first | rfl | (simp only [List.length_append, List.length_cons, List.length_nil, List.length_replicate, Nat.zero_add]; rfl) | (simp; done)) (Wk.cons (by first | rfl | (simp only [List.length_append, List.length_cons, List.length_nil, List.length_replicate, Nat.zero_add]; rfl) | (simp; done)) (Wk.cons (by first | rfl | (simp only [List.length_append, List.length_cons, List.length_nil, List.length_replicate, Nat.zero_add]; rfl) | (simp; done)) Wk.nil)))))) (by first | with_reducible exact Sub.refl | ((try dsimp only); repeat (first | with_reducible exact Sub.refl | with_reducible exact Sub.nil | with_reducible refine Sub.cons (by repeat (first | with_reducible exact Ext.here | with_reducible apply Ext.there)) ?_ | with_reducible refine Sub.tail ?_))) (hK5 ⟨s2, best, k + 1⟩ (⟨by dsimp only; omega, hbl, by rw [← hr, remM_step lt s2 rows' i' best hk, pickM_no _ _ (by omega)]⟩) (by try dsimp only; omega)) | refine Ps_wk ((Wk.cons (by first | rfl | (simp only [List.length_append, List.length_cons, List.length_nil, List.length_replicate, Nat.zero_add]; rfl) | (simp; done)) (Wk.cons (by first | rfl | (simp only [List.length_append, List.length_cons, List.length_nil, List.length_replicate, Nat.zero_add]; rfl) | (simp; done)) (Wk.cons (by first | rfl | (simp only [List.length_append, List.length_cons, List.length_nil, List.length_replicate, Nat.zero_add]; rfl) | (simp; done)) (Wk.cons (by first | rfl | (simp only [List.length_append, List.length_cons, List.length_nil, List.length_replicate, Nat.zero_add]; rfl) | (simp; done)) (Wk.cons (by first | rfl | (simp only [List.length_append, List.length_cons, List.length_nil, List.length_replicate, Nat.zero_add]; rfl) | (simp; done)) Wk.nil)))))) (by first | with_reducible exact Sub.refl | ((try dsimp only); repeat (first | with_reducible exact Sub.refl | with_reducible exact Sub.nil | with_reducible refine Sub.cons (by repeat (first | with_reducible exact Ext.here | with_reducible apply Ext.there)) ?_ | with_reducible refine Sub.tail ?_))) (hK5 ⟨(ahM lt s2 x y).2, 2 * i' + 1 + k, k + 1⟩ (⟨by dsimp only; omega, by dsimp only; omega, by rw [← hr, remM_step lt s2 rows' i' best hk, pickM_yes _ _ hx hy, if_pos hc1]⟩) (by try dsimp only; omega)) | refine Ps_wk ((Wk.cons (by first | rfl | (simp only [List.length_append, List.length_cons, List.length_nil, List.length_replicate, Nat.zero_add]; rfl) | (simp; done)) (Wk.cons (by first | rfl | (simp only [List.length_append, List.length_cons, List.length_nil, List.length_replicate, Nat.zero_add]; rfl) | (simp; done)) (Wk.cons (by first | rfl | (simp only [List.length_append, List.length_cons, List.length_nil, List.length_replicate, Nat.zero_add]; rfl) | (simp; done)) (Wk.cons (by first | rfl | (simp only [List.length_append, List.length_cons, List.length_nil, List.length_replicate, Nat.zero_add]; rfl) | (simp; done)) (Wk.cons (by first | rfl | (simp only [List.length_append, List.length_cons, List.length_nil, List.length_replicate, Nat.zero_add]; rfl) | (simp; done)) Wk.nil)))))) (by first | with_reducible exact Sub.refl | ((try dsimp only); repeat (first | with_reducible exact Sub.refl | with_reducible exact Sub.nil | with_reducible refine Sub.cons (by repeat (first | with_reducible exact Ext.here | with_reducible apply Ext.there)) ?_ | with_reducible refine Sub.tail ?_))) (hK5 ⟨(ahM lt s2 x y).2, best, k + 1⟩ (⟨by dsimp only; omega, hbl, by rw [← hr, remM_step lt s2 rows' i' best hk, pickM_yes _ _ hx hy, if_neg (by simp [hc1])]⟩) (by try dsimp only; omega))
        · try simp only [decide_eq_true_eq, decide_eq_false_iff_not, Bool.not_eq_true', Bool.not_eq_false', Bool.not_eq_true, Bool.not_eq_false, Int.not_lt, Int.not_le, Nat.not_lt, Nat.not_le, Decidable.not_not, ne_eq] at hg11
          refine WL_skip rfl rfl rfl ?_
          refine WL_skip rfl rfl rfl ?_
          refine WL_skip rfl rfl rfl ?_
          refine WL_skip rfl rfl rfl ?_
          refine WL_rd (Rd_pickF rfl rfl) rfl rfl rfl ?_
          refine WL_end hK10 ?_
          refine WC_condF rfl ?_
          refine WC_skip ?_
          refine Ps_next hK8 ?_
          refine WC_region ?_
          refine WL_rd (Rd_addN (j := 1) rfl rfl) rfl rfl rfl ?_
          refine WL_rd (Rd_move rfl) rfl rfl rfl ?_
          refine WL_nil ?_
          first | refine Ps_wk ((Wk.cons (by first | rfl | (simp only [List.length_append, List.length_cons, List.length_nil, List.length_replicate, Nat.zero_add]; rfl) | (simp; done)) (Wk.cons (by first | rfl | (simp only [List.length_append, List.length_cons, List.length_nil, List.length_replicate, Nat.zero_add]; rfl) | (simp; done)) (Wk.cons (by first | rfl | (simp only [List.length_append, List.length_cons, List.length_nil, List.length_replicate, Nat.zero_add]; rfl) | (simp; done)) (Wk.cons (by first | rfl | (simp only [List.length_append, List.length_cons, List.length_nil, List.length_replicate, Nat.zero_add]; rfl) | (simp; done)) (Wk.cons (by first | rfl | (simp only [List.length_append, List.length_cons, List.length_nil, List.length_replicate, Nat.zero_add]; rfl) | (simp; done)) Wk.nil)))))) (by first | with_reducible exact Sub.refl | ((try dsimp only); repeat (first | with_reducible exact Sub.refl | with_reducible exact Sub.nil | with_reducible refine Sub.cons (by repeat (first | with_reducible exact Ext.here | with_reducible apply Ext.there)) ?_ | with_reducible refine Sub.tail ?_))) (hK5 ⟨s2, best, k + 1⟩ (⟨by dsimp only; omega, hbl, by rw [← hr, remM_step lt s2 rows' i' best hk, pickM_no _ _ (by omega)]⟩) (by try dsimp only; omega)) | refine Ps_wk ((Wk.cons (by first | rfl | (simp only [List.length_append, List.length_cons, List.length_nil, List.length_replicate, Nat.zero_add]; rfl) | (simp; done)) (Wk.cons (by first | rfl | (simp only [List.length_append, List.length_cons, List.length_nil, List.length_replicate, Nat.zero_add]; rfl) | (simp; done)) (Wk.cons (by first | rfl | (simp only [List.length_append, List.length_cons, List.length_nil, List.length_replicate, Nat.zero_add]; rfl) | (simp; done)) (Wk.cons (by first | rfl | (simp only [List.length_append, List.length_cons, List.length_nil, List.length_replicate, Nat.zero_add]; rfl) | (simp; done)) (Wk.cons (by first | rfl | (simp only [List.length_append, List.length_cons, List.length_nil, List.length_replicate, Nat.zero_add]; rfl) | (simp; done)) Wk.nil)))))) (by first | with_reducible exact Sub.refl | ((try dsimp only); repeat (first | with_reducible exact Sub.refl | with_reducible exact Sub.nil | with_reducible refine Sub.cons (by repeat (first | with_reducible exact Ext.here | with_reducible apply Ext.there)) ?_ | with_reducible refine Sub.tail ?_))) (hK5 ⟨(ahM lt s2 x y).2, 2 * i' + 1 + k, k + 1⟩ (⟨by dsimp only; omega, by dsimp only; omega, by rw [← hr, remM_step lt s2 rows' i' best hk, pickM_yes _ _ hx hy, if_pos hc1]⟩) (by try dsimp only; omega)) | refine Ps_wk ((Wk.cons (by first | rfl | (simp only [List.length_append, List.length_cons, List.length_nil, List.length_replicate, Nat.zero_add]; rfl) | (simp; done)) (Wk.cons (by first | rfl | (simp only [List.length_append, List.length_cons, List.length_nil, List.length_replicate, Nat.zero_add]; rfl) | (simp; done)) (Wk.cons (by first | rfl | (simp only [List.length_append, List.length_cons, List.length_nil, List.length_replicate, Nat.zero_add]; rfl) | (simp; done)) (Wk.cons (by first | rfl | (simp only [List.length_append, List.length_cons, List.length_nil, List.length_replicate, Nat.zero_add]; rfl) | (simp; done)) (Wk.cons (by first | rfl | (simp only [List.length_append, List.length_cons, List.length_nil, List.length_replicate, Nat.zero_add]; rfl) | (simp; done)) Wk.nil)))))) (by first | with_reducible exact Sub.refl | ((try dsimp only); repeat (first | with_reducible exact Sub.refl | with_reducible exact Sub.nil | with_reducible refine Sub.cons (by repeat (first | with_reducible exact Ext.here | with_reducible apply Ext.there)) ?_ | with_reducible refine Sub.tail ?_))) (hK5 ⟨(ahM lt s2 x y).2, best, k + 1⟩ (⟨by dsimp only; omega, hbl, by rw [← hr, remM_step lt s2 rows' i' best hk, pickM_yes _ _ hx hy, if_neg (by simp [hc1])]⟩) (by try dsimp only; omega))
      · try simp only [decide_eq_true_eq, decide_eq_false_iff_not, Bool.not_eq_true', Bool.not_eq_false', Bool.not_eq_true, Bool.not_eq_false, Int.not_lt, Int.not_le, Nat.not_lt, Nat.not_le, Decidable.not_not, ne_eq] at hc0
        have hke : k = 2 := by omega
        subst hke
        have hr' : bestM lt s' rows' i' = (best, s2) := hr.symm
        refine WC_exit ?_
        refine Ps_next hK3 ?_
        refine WC_seq fun K12 hK12 => ?_
        refine WC_sr fun K13 hK13 => ?_
        refine WL_rd (Rd_move rfl) rfl rfl rfl ?_
        refine WL_rd (Rd_move rfl) rfl rfl rfl ?_
        refine WL_rd (Rd_eqlN rfl rfl) rfl rfl rfl ?_
        refine WL_end hK13 ?_
        refine WC_cond rfl (fun hc2 => ?_) (fun hc2 => ?_)
        · try simp only [decide_eq_true_eq, decide_eq_false_iff_not, Bool.not_eq_true', Bool.not_eq_false', Bool.not_eq_true, Bool.not_eq_false, Int.not_lt, Int.not_le, Nat.not_lt, Nat.not_le, Decidable.not_not, ne_eq] at hc2
          have hbi : best = i' := by omega
          rw [← hu, downM_stop (by rw [hr']; exact hbi), hr'] at hret
          refine WC_ret ?_
          exact hret.go () (Rs0 rfl)
        · try simp only [decide_eq_true_eq, decide_eq_false_iff_not, Bool.not_eq_true', Bool.not_eq_false', Bool.not_eq_true, Bool.not_eq_false, Int.not_lt, Int.not_le, Nat.not_lt, Nat.not_le, Decidable.not_not, ne_eq] at hc2
          have hne : (bestM lt s' rows' i').1 ≠ i' := by rw [hr']; dsimp only; omega
          have hbo := bestM_or lt s' rows' i'
          rw [hr'] at hbo
          dsimp only at hbo
          obtain ⟨x, hx⟩ : ∃ x, rows'[i']? = some x := ⟨_, List.getElem?_eq_getElem (by omega)⟩
          obtain ⟨y, hy⟩ : ∃ y, rows'[best]? = some y := ⟨_, List.getElem?_eq_getElem (by omega)⟩
          refine WC_skip ?_
          refine Ps_next hK12 ?_
          refine WC_sr fun K14 hK14 => ?_
          refine WL_rd (Rd_move rfl) rfl rfl rfl ?_
          refine WL_rd (Rd_move rfl) rfl rfl rfl ?_
          refine WL_rd (Rd_move rfl) rfl rfl rfl ?_
          refine WL_ac (Ac_call cf103 rfl (hs := kS_h_swap)) rfl rfl rfl ?_
          rintro _ _ ⟨⟨⟩, rfl, hA⟩
          simp only [List.cons_append, List.nil_append] at hA
          replace hA := hA.symm
          subst hA
          refine WL_end hK14 ?_
          refine WC_region ?_
          refine WL_rd (Rd_move rfl) rfl rfl rfl ?_
          refine WL_rd (Rd_assign rfl) rfl rfl rfl ?_
          refine WL_nil ?_
          refine Ps_wk ((Wk.cons (by first | rfl | (simp only [List.length_append, List.length_cons, List.length_nil, List.length_replicate, Nat.zero_add]; rfl) | (simp; done)) (Wk.cons (by first | rfl | (simp only [List.length_append, List.length_cons, List.length_nil, List.length_replicate, Nat.zero_add]; rfl) | (simp; done)) Wk.nil))) (by first | with_reducible exact Sub.refl | ((try dsimp only); repeat (first | with_reducible exact Sub.refl | with_reducible exact Sub.nil | with_reducible refine Sub.cons (by repeat (first | with_reducible exact Ext.here | with_reducible apply Ext.there)) ?_ | with_reducible refine Sub.tail ?_))) (hK1 ⟨s2, swp rows' i' best, best⟩ (⟨Tk_perm (swp_perm _ _) hT', by rw [swp_len]; exact hl', hbl, by rw [← hu, downM_go hne, hr']⟩) (by try dsimp only; omega))

theorem kS_h_push {σ : Type} {J : σ → Asn} {lt : σ → (Int × Int × ByteArray) → (Int × Int × ByteArray) → Bool × σ} {lf : FuncId} {caps : List Value} (hcf : cfn Try.prog lf = true) (hless : ∀ s x y, Ct Try.prog lf ([.agg [.int .i64 x.1, .int .i64 x.2.1, .string x.2.2].toArray, .agg [.int .i64 y.1, .int .i64 y.2.1, .string y.2.2].toArray] ++ caps) [J s] (fun _ : Unit => .bool (lt s x y).1) (fun _ => [J (lt s x y).2])) {b len cap m made : Nat} {a : Option Nat} {rows : List (Nat × (Int × Int × ByteArray))} {s : σ} {x : (Int × Int × ByteArray)} (hT : Tk rows := by assumption) (hM : ∀ r ∈ rows, r.1 < made := by assumption) (hlen : len = rows.length := by first | assumption | omega) (hcap : len ≤ 900000000 := by omega) (hcm : made ≤ 900000000 := by omega) : Ct Try.prog 61 [.pointer (some ⟨b, 0, none⟩), .agg [.int .i64 x.1, .int .i64 x.2.1, .string x.2.2].toArray] [cl b 157 [(.func (.func lf) #[] caps.toArray), sl a len cap, .map (some m), .int .i64 ((made : Nat) : Int)], arr a cap 4 159 kS_h_itf (rows), mpI m (atOf (rows)), J s] (fun g : Option Nat × Nat => .tuple #[.int .i64 ((made : Nat) : Int), .int .i64 0]) (fun g => [cl b 157 [(.func (.func lf) #[] caps.toArray), sl g.1 (pushM lt s rows made x).1.length g.2, .map (some m), .int .i64 ((made + 1 : Nat) : Int)], arr g.1 g.2 4 159 kS_h_itf ((pushM lt s rows made x).1), mpI m (atOf ((pushM lt s rows made x).1)), J (pushM lt s rows made x).2]) := by
  refine Ct_body (n := 53) Try.func61 rfl rfl rfl fun F w0 Q hret hnorm hp => ?_
  change WC _ _ _ _ _ _ _ (_ :: _ :: _ :: _ :: F)
  have hfr : ∀ r ∈ rows, r.1 ≠ made := fun r hr => by have := hM r hr; omega
  have hll : (rows ++ [(made, x)]).length = rows.length + 1 := by simp
  have hTn : Tk (rows ++ [(made, x)]) := Tk_push hT hfr
  have hpl : (pushM lt s rows made x).1.length = (rows ++ [(made, x)]).length := (upM_perm lt _ _ _).length_eq
  refine WC_sr fun K1 hK1 => ?_
  refine WL_ac (Ac_box rfl rfl) rfl rfl rfl ?_
  rintro _ _ ⟨b3, rfl, rfl⟩
  refine WL_rd (Rd_assign rfl) rfl rfl rfl ?_
  refine WL_rd (Rd_assign rfl) rfl rfl rfl ?_
  refine WL_end hK1 ?_
  refine WC_seq fun K2 hK2 => ?_
  refine WC_sr fun K3 hK3 => ?_
  refine WL_rd (Rd_move rfl) rfl rfl rfl ?_
  refine WL_ac (Ac_call cf85 rfl (hs := kS_h_ok)) rfl rfl rfl ?_
  rintro _ _ ⟨⟨⟩, rfl, hA⟩
  simp only [List.cons_append, List.nil_append] at hA
  replace hA := hA.symm
  subst hA
  refine WL_rd (Rd_not rfl) rfl rfl rfl ?_
  refine WL_end hK3 ?_
  refine WC_condF rfl ?_
  refine WC_skip ?_
  refine Ps_next hK2 ?_
  refine WC_sr fun K4 hK4 => ?_
  refine WL_rd (Rd_move rfl) rfl rfl rfl ?_
  refine WL_rd (Rd_nilCheck rfl) rfl rfl rfl ?_
  refine WL_rd (Rd_fieldAddr rfl fo157_3) rfl rfl rfl ?_
  refine WL_rd (Rd_load rfl tk3) rfl rfl rfl ?_
  refine WL_rd (Rd_assign rfl) rfl rfl rfl ?_
  refine WL_end hK4 ?_
  refine WC_sr fun K5 hK5 => ?_
  refine WL_rd (Rd_move rfl) rfl rfl rfl ?_
  refine WL_rd (Rd_nilCheck rfl) rfl rfl rfl ?_
  refine WL_rd (Rd_fieldAddr rfl fo157_3) rfl rfl rfl ?_
  refine WL_rd (Rd_load rfl tk3) rfl rfl rfl ?_
  refine WL_rd (Rd_addN (j := 1) rfl rfl) rfl rfl rfl ?_
  refine WL_rd (Rd_nilCheck rfl) rfl rfl rfl ?_
  refine WL_rd (Rd_fieldAddr rfl fo157_3) rfl rfl rfl ?_
  refine WL_ac0 (Ac_store1 rfl rfl sz3) rfl rfl ?_
  rintro _ _ rfl
  refine WL_end hK5 ?_
  refine WC_seq fun K6 hK6 => ?_
  refine WC_drawA mix (fun i => ([2, 2, 2, 2, 2, 2, 2, 2, 1, 0, 2, 2, 0] : List Nat).getD i 0) ?_
  refine WJ_takeP 0 rfl (by kernel_rfl) (Rd_move rfl) rfl rfl rfl (hp _ _) ?_
  refine WJ_takeP 1 rfl (by kernel_rfl) (Rd_move rfl) rfl rfl rfl (hp _ _) ?_
  refine WJ_takeP 2 rfl (by kernel_rfl) (Rd_nilCheck rfl) rfl rfl rfl (hp _ _) ?_
  refine WJ_takeP 3 rfl (by kernel_rfl) (Rd_fieldAddr rfl fo157_1) rfl rfl rfl (hp _ _) ?_
  refine WJ_tk 4 (Rd_load rfl tk155) hp ?_ rfl (by kernel_rfl) rfl rfl rfl
  refine WJ_takeP 5 rfl (by kernel_rfl) (Rd_move rfl) rfl rfl rfl (hp _ _) ?_
  refine WJ_all (rs := [6]) (by kernel_rfl) rfl ?_
  refine WI_one ?_
  refine WI_rd rfl (Rd_loadg rfl tk62) rfl rfl rfl (fun h => by cases h) ?_
  refine WJ_takeP 7 rfl (by kernel_rfl) (Rd_build pls159 rfl) rfl rfl rfl (hp _ _) ?_
  refine WJ_all (rs := [8]) (by kernel_rfl) rfl ?_
  refine WI_one ?_
  refine WI_ac rfl (Ac_buildSlice (bs := [.int .i64 0, .int .i64 0, .int .i64 0, .string ⟨#[]⟩]) (xs := kS_h_itf (made, x)) ud155 zr159 sz159 rfl (by rw [Array.toList_map, Array.toList_range]; rfl) (by rfl) (by rfl)) rfl rfl rfl rfl ?_
  rintro _ _ ⟨b29, rfl, rfl⟩
  refine ⟨(fun _ => (by repeat (first | with_reducible exact Sub.refl | with_reducible exact Sub.nil | with_reducible refine Sub.cons (by repeat (first | with_reducible exact Ext.here | with_reducible apply Ext.there)) ?_ | with_reducible refine Sub.tail ?_))), ?_⟩
  refine WJ_all (rs := [9]) (by kernel_rfl) rfl ?_
  refine WI_one ?_
  refine WI_ac rfl (Ac_append (f := kS_h_itf) (l := rows) [(made, x)] rfl rfl ud155 ud155 rfl el159 kS_h_itf_len (Src_cl (m := 1) (by repeat (first | with_reducible exact Has.here | with_reducible refine Has.there ?_)) (by exact Nat.le_of_ble_eq_true rfl) (by rfl)) (by repeat (first | with_reducible exact Ext.here | with_reducible apply Ext.there)) hlen (by intro u hu v hv; exact kS_h_itf_one u v hv) (by simp only [List.length_cons, List.length_nil]; omega) (by simp only [List.length_cons, List.length_nil, Go.maxLen]; omega)) rfl rfl rfl rfl ?_
  rintro _ _ ⟨a', cap', rfl, rfl⟩
  refine ⟨(fun h => by cases h), ?_⟩
  refine WJ_takeP 10 rfl (by kernel_rfl) (Rd_nilCheck rfl) rfl rfl rfl (hp _ _) ?_
  refine WJ_takeP 11 rfl (by kernel_rfl) (Rd_fieldAddr rfl fo157_1) rfl rfl rfl (hp _ _) ?_
  refine WJ_all (rs := [12]) (by kernel_rfl) rfl ?_
  refine WI_one ?_
  refine WI_ac0 rfl (Ac_store1 rfl rfl sz155) rfl rfl rfl ?_
  rintro _ _ rfl
  refine ⟨(fun h => by cases h), ?_⟩
  refine WJ_done (by kernel_rfl) ?_
  refine Ps_next hK6 ?_
  refine WC_seq fun K7 hK7 => ?_
  refine WC_drawA mix (fun i => ([2, 2, 2, 2, 2, 2, 2, 2, 2, 2, 2, 0] : List Nat).getD i 0) ?_
  refine WJ_takeP 0 rfl (by kernel_rfl) (Rd_move rfl) rfl rfl rfl (hp _ _) ?_
  refine WJ_takeP 1 rfl (by kernel_rfl) (Rd_nilCheck rfl) rfl rfl rfl (hp _ _) ?_
  refine WJ_takeP 2 rfl (by kernel_rfl) (Rd_fieldAddr rfl fo157_2) rfl rfl rfl (hp _ _) ?_
  refine WJ_tk 3 (Rd_load rfl tk141) hp ?_ rfl (by kernel_rfl) rfl rfl rfl
  refine WJ_takeP 4 rfl (by kernel_rfl) (Rd_move rfl) rfl rfl rfl (hp _ _) ?_
  refine WJ_takeP 5 rfl (by kernel_rfl) (Rd_move rfl) rfl rfl rfl (hp _ _) ?_
  refine WJ_takeP 6 rfl (by kernel_rfl) (Rd_nilCheck rfl) rfl rfl rfl (hp _ _) ?_
  refine WJ_takeP 7 rfl (by kernel_rfl) (Rd_fieldAddr rfl fo157_1) rfl rfl rfl (hp _ _) ?_
  refine WJ_tk 8 (Rd_load rfl tk155) hp ?_ rfl (by kernel_rfl) rfl rfl rfl
  refine WJ_takeP 9 rfl (by kernel_rfl) (Rd_len rfl rfl ud155) rfl rfl rfl (hp _ _) ?_
  refine WJ_takeP 10 rfl (by kernel_rfl) (Rd_sub' (r := ((rows.length : Nat) : Int)) rfl rfl (wr64 (by rw [hll]; omega) (by rw [hll]; omega) (by rw [hll]; omega))) rfl rfl rfl (hp _ _) ?_
  refine WJ_all (rs := [11]) (by kernel_rfl) rfl ?_
  refine WI_one ?_
  refine WI_ac0 rfl (Ac_mapUpdate rfl rfl rfl ud141 ud3) rfl rfl rfl ?_
  rintro _ _ rfl
  rw [atOf_push hT hfr]
  refine ⟨(fun h => by cases h), ?_⟩
  refine WJ_done (by kernel_rfl) ?_
  refine Ps_next hK7 ?_
  refine WC_sr fun K8 hK8 => ?_
  refine WL_rd (Rd_move rfl) rfl rfl rfl ?_
  refine WL_rd (Rd_move rfl) rfl rfl rfl ?_
  refine WL_rd (Rd_nilCheck rfl) rfl rfl rfl ?_
  refine WL_rd (Rd_fieldAddr rfl fo157_1) rfl rfl rfl ?_
  refine WL_rd (Rd_load rfl tk155) rfl rfl rfl ?_
  refine WL_rd (Rd_len rfl rfl ud155) rfl rfl rfl ?_
  refine WL_rd (Rd_sub' (r := ((rows.length : Nat) : Int)) rfl rfl (wr64 (by rw [hll]; omega) (by rw [hll]; omega) (by rw [hll]; omega))) rfl rfl rfl ?_
  refine WL_ac (Ac_call cf86 rfl (hs := kS_h_up hcf hless)) rfl rfl rfl ?_
  rintro _ _ ⟨⟨⟩, rfl, hA⟩
  simp only [List.cons_append, List.nil_append] at hA
  replace hA := hA.symm
  subst hA
  refine WL_end hK8 ?_
  refine WC_sr fun K9 hK9 => ?_
  refine WL_rd (Rd_move rfl) rfl rfl rfl ?_
  refine WL_rd (Rd_assign rfl) rfl rfl rfl ?_
  refine WL_rd (Rd_assign rfl) rfl rfl rfl ?_
  refine WL_end hK9 ?_
  refine WC_ret ?_
  rw [hpl, show (pushM lt s rows made x) = upM lt s (rows ++ [(made, x)]) rows.length from rfl] at hret
  exact hret.go (a', cap') (Rs2 rfl rfl rfl)

theorem kS_h_take {σ : Type} {J : σ → Asn} {lt : σ → (Int × Int × ByteArray) → (Int × Int × ByteArray) → Bool × σ} {lf : FuncId} {caps : List Value} (hcf : cfn Try.prog lf = true) (hless : ∀ s x y, Ct Try.prog lf ([.agg [.int .i64 x.1, .int .i64 x.2.1, .string x.2.2].toArray, .agg [.int .i64 y.1, .int .i64 y.2.1, .string y.2.2].toArray] ++ caps) [J s] (fun _ : Unit => .bool (lt s x y).1) (fun _ => [J (lt s x y).2])) {b len cap m made : Nat} {a : Option Nat} {rows : List (Nat × (Int × Int × ByteArray))} {s : σ} {i : Nat} {x : Nat × (Int × Int × ByteArray)} (hi : rows[i]? = some x := by assumption) (hT : Tk rows := by assumption) (hlen : len = rows.length := by first | assumption | omega) (hcap : len ≤ 1000000000 := by omega) : Ct Try.prog 87 [.pointer (some ⟨b, 0, none⟩), .int .i64 ((i : Nat) : Int)] [cl b 157 [(.func (.func lf) #[] caps.toArray), sl a len cap, .map (some m), .int .i64 ((made : Nat) : Int)], arr a cap 4 159 kS_h_itf (rows), mpI m (atOf (rows)), J s] (fun _ : Unit => .agg (kS_h_itf x).toArray) (fun _ => [cl b 157 [(.func (.func lf) #[] caps.toArray), sl a (takeM lt s rows i).1.length cap, .map (some m), .int .i64 ((made : Nat) : Int)], arr a cap 4 159 kS_h_itf ((takeM lt s rows i).1), mpI m (atOf ((takeM lt s rows i).1)), J (takeM lt s rows i).2]) := by
  refine Ct_body (n := 55) Try.func87 rfl rfl rfl fun F w0 Q hret hnorm hp => ?_
  change WC _ _ _ _ _ _ _ (_ :: _ :: _ :: _ :: F)
  have hil := (List.getElem?_eq_some_iff.1 hi).1
  obtain ⟨y, hy⟩ : ∃ y, rows[len - 1]? = some y := ⟨_, List.getElem?_eq_getElem (by omega)⟩
  refine WC_some (a := a) (by repeat (first | with_reducible exact Has.here | with_reducible refine Has.there ?_)) (by omega) (fun gb hgb _ => ?_)
  subst hgb
  refine WC_cap (by repeat (first | with_reducible exact Has.here | with_reducible refine Has.there ?_)) (fun hcp => ?_)
  have htl : (takeM lt s rows i).1.length = len - 1 := by rw [takeM_len, hlen]
  rw [htl] at hret
  have hx' : (swp rows i (len - 1))[len - 1]? = some x := by rw [swp_get hi hy, if_pos rfl]
  have hsl : (swp rows i (len - 1)).length = len := by rw [swp_len]; exact hlen.symm
  have hap : (swp rows i (len - 1)) = ((swp rows i (len - 1)).take (len - 1)) ++ [x] := take_last hsl hx' (by omega)
  have hTs : Tk (swp rows i (len - 1)) := Tk_perm (swp_perm _ _) hT
  have hdr : upd (atOf (swp rows i (len - 1))) (x.1 : Int) none = atOf ((swp rows i (len - 1)).take (len - 1)) := by have h := hTs; rw [hap] at h; have := atOf_drop (t := x.1) (x := x.2) h; rw [← hap] at this; exact this
  have hTr : Tk ((swp rows i (len - 1)).take (len - 1)) := by have h := hTs; unfold Tk at h ⊢; exact List.Nodup.sublist ((List.take_sublist _ _).map _) h
  have hrl : ((swp rows i (len - 1)).take (len - 1)).length = len - 1 := by rw [List.length_take, hsl]; omega
  have hrl' : len - 1 = ((swp rows i (len - 1)).take (len - 1)).length := hrl.symm
  have htk : (((swp rows i (len - 1)).take (len - 1)) ++ List.replicate (len - (len - 1)) ((0 : Nat), ((0, 0, ⟨#[]⟩) : (Int × Int × ByteArray)))).take (len - 1) = ((swp rows i (len - 1)).take (len - 1)) := by rw [List.take_append_of_le_length (by omega), List.take_take, Nat.min_self]
  have hTd : Tk (downM lt s ((swp rows i (len - 1)).take (len - 1)) i).1 := Tk_perm (downM_perm lt _ i s _ (Nat.le_refl _)) hTr
  have hld : len - 1 = (downM lt s ((swp rows i (len - 1)).take (len - 1)) i).1.length := by rw [(downM_perm lt _ i s ((swp rows i (len - 1)).take (len - 1)) (Nat.le_refl _)).length_eq]; exact hrl.symm
  refine WC_sr fun K1 hK1 => ?_
  refine WL_ac (Ac_alloc zr159) rfl rfl rfl ?_
  rintro _ _ ⟨b4, rfl, rfl⟩
  refine WL_end hK1 ?_
  refine WC_sr fun K2 hK2 => ?_
  refine WL_rd (Rd_move rfl) rfl rfl rfl ?_
  refine WL_rd (Rd_nilCheck rfl) rfl rfl rfl ?_
  refine WL_rd (Rd_fieldAddr rfl fo157_1) rfl rfl rfl ?_
  refine WL_rd (Rd_load rfl tk155) rfl rfl rfl ?_
  refine WL_rd (Rd_len rfl rfl ud155) rfl rfl rfl ?_
  refine WL_rd (Rd_subN (j := 1) rfl rfl) rfl rfl rfl ?_
  refine WL_rd (Rd_assign rfl) rfl rfl rfl ?_
  refine WL_end hK2 ?_
  refine WC_sr fun K3 hK3 => ?_
  refine WL_rd (Rd_move rfl) rfl rfl rfl ?_
  refine WL_rd (Rd_move rfl) rfl rfl rfl ?_
  refine WL_rd (Rd_move rfl) rfl rfl rfl ?_
  refine WL_ac (Ac_call cf103 rfl (hs := kS_h_swap)) rfl rfl rfl ?_
  rintro _ _ ⟨⟨⟩, rfl, hA⟩
  simp only [List.cons_append, List.nil_append] at hA
  replace hA := hA.symm
  subst hA
  refine WL_end hK3 ?_
  refine WC_sr fun K4 hK4 => ?_
  refine WL_rd (Rd_move rfl) rfl rfl rfl ?_
  refine WL_rd (Rd_nilCheck rfl) rfl rfl rfl ?_
  refine WL_rd (Rd_fieldAddr rfl fo157_1) rfl rfl rfl ?_
  refine WL_rd (Rd_load rfl tk155) rfl rfl rfl ?_
  refine WL_rd (Rd_move rfl) rfl rfl rfl ?_
  refine WL_rd (Rd_index _ rfl rfl ud155 sz159) rfl rfl rfl ?_
  refine WL_rd (Rd_loadg_arr rfl tk159) rfl rfl rfl ?_
  refine WL_ac (Ac_alloc zr159) rfl rfl rfl ?_
  rintro _ _ ⟨b6, rfl, rfl⟩
  refine WL_ac0 (Ac_store rfl rfl sz159 (h1 := by simp [Value.cells, Value.oneCell', kS_h_itf])) rfl rfl ?_
  rintro _ _ rfl
  refine WL_end hK4 ?_
  refine WC_sr fun K5 hK5 => ?_
  refine WL_rd (Rd_move rfl) rfl rfl rfl ?_
  refine WL_rd (Rd_nilCheck rfl) rfl rfl rfl ?_
  refine WL_rd (Rd_fieldAddr rfl fo157_1) rfl rfl rfl ?_
  refine WL_rd (Rd_load rfl tk155) rfl rfl rfl ?_
  refine WL_rd (Rd_move rfl) rfl rfl rfl ?_
  refine WL_rd (Rd_slice_lo (len - 1) rfl rfl ud155 sz159 rfl (by omega) (by omega)) rfl rfl rfl ?_
  refine WL_ac0 (Ac_clear (len - 1) ((0 : Nat), ((0, 0, ⟨#[]⟩) : (Int × Int × ByteArray))) rfl ud155 zr159 rfl rfl (kS_h_itf_one ((0 : Nat), ((0, 0, ⟨#[]⟩) : (Int × Int × ByteArray)))) (by repeat (first | with_reducible exact Ext.here | with_reducible apply Ext.there)) (by omega)) rfl rfl ?_
  rintro _ _ rfl
  refine WL_imp (fun w h => sat_imp (arr_take (len - 1)) h) ?_
  rw [htk]
  refine WL_end hK5 ?_
  refine WC_sr fun K6 hK6 => ?_
  refine WL_rd (Rd_move rfl) rfl rfl rfl ?_
  refine WL_rd (Rd_move rfl) rfl rfl rfl ?_
  refine WL_rd (Rd_nilCheck rfl) rfl rfl rfl ?_
  refine WL_rd (Rd_fieldAddr rfl fo157_1) rfl rfl rfl ?_
  refine WL_rd (Rd_load rfl tk155) rfl rfl rfl ?_
  refine WL_rd (Rd_move rfl) rfl rfl rfl ?_
  refine WL_rd (Rd_slice_hi (len - 1) rfl rfl ud155 sz159) rfl rfl rfl ?_
  refine WL_rd (Rd_nilCheck rfl) rfl rfl rfl ?_
  refine WL_rd (Rd_fieldAddr rfl fo157_1) rfl rfl rfl ?_
  refine WL_ac0 (Ac_store1 rfl rfl sz155) rfl rfl ?_
  rintro _ _ rfl
  refine WL_end hK6 ?_
  refine WC_seq fun K7 hK7 => ?_
  refine WC_drawA mix (fun i => ([2, 2, 2, 2, 2, 2, 0] : List Nat).getD i 0) ?_
  refine WJ_takeP 0 rfl (by kernel_rfl) (Rd_move rfl) rfl rfl rfl (hp _ _) ?_
  refine WJ_takeP 1 rfl (by kernel_rfl) (Rd_nilCheck rfl) rfl rfl rfl (hp _ _) ?_
  refine WJ_takeP 2 rfl (by kernel_rfl) (Rd_fieldAddr rfl fo157_2) rfl rfl rfl (hp _ _) ?_
  refine WJ_tk 3 (Rd_load rfl tk141) hp ?_ rfl (by kernel_rfl) rfl rfl rfl
  refine WJ_takeP 4 rfl (by kernel_rfl) (Rd_fieldAddr rfl fo159_0) rfl rfl rfl (hp _ _) ?_
  refine WJ_tk 5 (Rd_load rfl tk3) hp ?_ rfl (by kernel_rfl) rfl rfl rfl
  refine WJ_all (rs := [6]) (by kernel_rfl) rfl ?_
  refine WI_one ?_
  refine WI_ac0 rfl (Ac_delete rfl rfl ud141 ud3) rfl rfl rfl ?_
  rintro _ _ rfl
  rw [hdr]
  refine ⟨(fun h => by cases h), ?_⟩
  refine WJ_done (by kernel_rfl) ?_
  refine Ps_next hK7 ?_
  refine WC_seq fun K8 hK8 => ?_
  refine WC_sr fun K9 hK9 => ?_
  refine WL_rd (Rd_move rfl) rfl rfl rfl ?_
  refine WL_rd (Rd_move rfl) rfl rfl rfl ?_
  refine WL_rd (Rd_lssN rfl rfl) rfl rfl rfl ?_
  refine WL_end hK9 ?_
  refine WC_cond rfl (fun hc0 => ?_) (fun hc0 => ?_)
  · try simp only [decide_eq_true_eq, decide_eq_false_iff_not, Bool.not_eq_true', Bool.not_eq_false', Bool.not_eq_true, Bool.not_eq_false, Int.not_lt, Int.not_le, Nat.not_lt, Nat.not_le, Decidable.not_not, ne_eq] at hc0
    rw [show takeM lt s rows i = upM lt (downM lt s ((swp rows i (len - 1)).take (len - 1)) i).2 (downM lt s ((swp rows i (len - 1)).take (len - 1)) i).1 i from by unfold takeM; rw [← hlen, if_pos (by omega)]] at hret
    refine WC_sr fun K10 hK10 => ?_
    refine WL_rd (Rd_move rfl) rfl rfl rfl ?_
    refine WL_rd (Rd_move rfl) rfl rfl rfl ?_
    refine WL_ac (Ac_call cf104 rfl (hs := kS_h_down hcf hless)) rfl rfl rfl ?_
    rintro _ _ ⟨⟨⟩, rfl, hA⟩
    simp only [List.cons_append, List.nil_append] at hA
    replace hA := hA.symm
    subst hA
    refine WL_end hK10 ?_
    refine WC_region ?_
    refine WL_rd (Rd_move rfl) rfl rfl rfl ?_
    refine WL_rd (Rd_move rfl) rfl rfl rfl ?_
    refine WL_ac (Ac_call cf86 rfl (hs := kS_h_up hcf hless)) rfl rfl rfl ?_
    rintro _ _ ⟨⟨⟩, rfl, hA⟩
    simp only [List.cons_append, List.nil_append] at hA
    replace hA := hA.symm
    subst hA
    refine WL_nil ?_
    refine Ps_next hK8 ?_
    refine WC_sr fun K11 hK11 => ?_
    refine WL_rd (Rd_loadg rfl tk159) rfl rfl rfl ?_
    refine WL_ac0 (Ac_store rfl rfl sz159 (h1 := by simp [Value.cells, Value.oneCell', kS_h_itf])) rfl rfl ?_
    rintro _ _ rfl
    refine WL_end hK11 ?_
    refine WC_ret ?_
    exact hret.go () (Rs1c rfl rfl tk159)
  · try simp only [decide_eq_true_eq, decide_eq_false_iff_not, Bool.not_eq_true', Bool.not_eq_false', Bool.not_eq_true, Bool.not_eq_false, Int.not_lt, Int.not_le, Nat.not_lt, Nat.not_le, Decidable.not_not, ne_eq] at hc0
    rw [show takeM lt s rows i = (((swp rows i (len - 1)).take (len - 1)), s) from by unfold takeM; rw [← hlen, if_neg (by omega)]] at hret
    refine WC_skip ?_
    refine Ps_next hK8 ?_
    refine WC_sr fun K12 hK12 => ?_
    refine WL_rd (Rd_loadg rfl tk159) rfl rfl rfl ?_
    refine WL_ac0 (Ac_store rfl rfl sz159 (h1 := by simp [Value.cells, Value.oneCell', kS_h_itf])) rfl rfl ?_
    rintro _ _ rfl
    refine WL_end hK12 ?_
    refine WC_ret ?_
    exact hret.go () (Rs1c rfl rfl tk159)

theorem kS_h_pop {σ : Type} {J : σ → Asn} {lt : σ → (Int × Int × ByteArray) → (Int × Int × ByteArray) → Bool × σ} {lf : FuncId} {caps : List Value} (hcf : cfn Try.prog lf = true) (hless : ∀ s x y, Ct Try.prog lf ([.agg [.int .i64 x.1, .int .i64 x.2.1, .string x.2.2].toArray, .agg [.int .i64 y.1, .int .i64 y.2.1, .string y.2.2].toArray] ++ caps) [J s] (fun _ : Unit => .bool (lt s x y).1) (fun _ => [J (lt s x y).2])) {b len cap m made : Nat} {a : Option Nat} {rows : List (Nat × (Int × Int × ByteArray))} {s : σ} {x : Nat × (Int × Int × ByteArray)} (hx0 : rows[0]? = some x := by assumption) (hT : Tk rows := by assumption) (hlen : len = rows.length := by first | assumption | omega) (hcap : len ≤ 1000000000 := by omega) : Ct Try.prog 63 [.pointer (some ⟨b, 0, none⟩)] [cl b 157 [(.func (.func lf) #[] caps.toArray), sl a len cap, .map (some m), .int .i64 ((made : Nat) : Int)], arr a cap 4 159 kS_h_itf (rows), mpI m (atOf (rows)), J s] (fun _ : Unit => .tuple #[.agg [.int .i64 x.2.1, .int .i64 x.2.2.1, .string x.2.2.2].toArray, .bool true]) (fun _ => [cl b 157 [(.func (.func lf) #[] caps.toArray), sl a (takeM lt s rows 0).1.length cap, .map (some m), .int .i64 ((made : Nat) : Int)], arr a cap 4 159 kS_h_itf ((takeM lt s rows 0).1), mpI m (atOf ((takeM lt s rows 0).1)), J (takeM lt s rows 0).2]) := by
  refine Ct_body (n := 12) Try.func63 rfl rfl rfl fun F w0 Q hret hnorm hp => ?_
  change WC _ _ _ _ _ _ _ (_ :: _ :: _ :: _ :: F)
  have hil := (List.getElem?_eq_some_iff.1 hx0).1
  refine WC_sr fun K1 hK1 => ?_
  refine WL_ac (Ac_alloc zr62) rfl rfl rfl ?_
  rintro _ _ ⟨b2, rfl, rfl⟩
  refine WL_rd (Rd_assign rfl) rfl rfl rfl ?_
  refine WL_end hK1 ?_
  refine WC_seq fun K2 hK2 => ?_
  refine WC_sr fun K3 hK3 => ?_
  refine WL_rd (Rd_move rfl) rfl rfl rfl ?_
  refine WL_ac (Ac_call cf73 rfl (hs := kS_h_len)) rfl rfl rfl ?_
  rintro _ _ ⟨⟨⟩, rfl, hA⟩
  simp only [List.cons_append, List.nil_append] at hA
  replace hA := hA.symm
  subst hA
  refine WL_rd (Rd_eqlN (j := 0) rfl rfl) rfl rfl rfl ?_
  refine WL_end hK3 ?_
  refine WC_cond rfl (fun hc0 => ?_) (fun hc0 => ?_)
  · try simp only [decide_eq_true_eq, decide_eq_false_iff_not, Bool.not_eq_true', Bool.not_eq_false', Bool.not_eq_true, Bool.not_eq_false, Int.not_lt, Int.not_le, Nat.not_lt, Nat.not_le, Decidable.not_not, ne_eq] at hc0
    omega
  · try simp only [decide_eq_true_eq, decide_eq_false_iff_not, Bool.not_eq_true', Bool.not_eq_false', Bool.not_eq_true, Bool.not_eq_false, Int.not_lt, Int.not_le, Nat.not_lt, Nat.not_le, Decidable.not_not, ne_eq] at hc0
    refine WC_skip ?_
    refine Ps_next hK2 ?_
    refine WC_sr fun K4 hK4 => ?_
    refine WL_rd (Rd_move rfl) rfl rfl rfl ?_
    refine WL_ac (Ac_call cf87 rfl (hs := kS_h_take hcf hless)) rfl rfl rfl ?_
    rintro _ _ ⟨⟨⟩, rfl, hA⟩
    simp only [List.cons_append, List.nil_append] at hA
    replace hA := hA.symm
    subst hA
    refine WL_rd (Rd_fieldg rfl fo159_1 tk62 rfl) rfl rfl rfl ?_
    refine WL_ac0 (Ac_store rfl rfl sz62 (h1 := by simp [Value.cells, Value.oneCell', kS_h_itf])) rfl rfl ?_
    rintro _ _ rfl
    refine WL_rd (Rd_assign rfl) rfl rfl rfl ?_
    refine WL_end hK4 ?_
    refine WC_ret ?_
    exact hret.go () (Rs2ct rfl rfl rfl tk62)

theorem kS_h_pop0 {b : Nat} {f : Fn} {us vs : Array Value} {a : Option Nat} {cap : Nat} {m k : Value}  : Ct Try.prog 63 [.pointer (some ⟨b, 0, none⟩)] [cl b 157 [.func f us vs, sl a ((0 : Nat)) cap, m, k]] (fun _ : Unit => .tuple #[.agg [.int .i64 0, .int .i64 0, .string ⟨#[]⟩].toArray, .bool false]) (fun _ => [cl b 157 [.func f us vs, sl a ((0 : Nat)) cap, m, k]]) := by
  refine Ct_body (n := 12) Try.func63 rfl rfl rfl fun F w0 Q hret hnorm hp => ?_
  change WC _ _ _ _ _ _ _ (_ :: F)
  refine WC_sr fun K1 hK1 => ?_
  refine WL_ac (Ac_alloc zr62) rfl rfl rfl ?_
  rintro _ _ ⟨b2, rfl, rfl⟩
  refine WL_rd (Rd_assign rfl) rfl rfl rfl ?_
  refine WL_end hK1 ?_
  refine WC_seq fun K2 hK2 => ?_
  refine WC_sr fun K3 hK3 => ?_
  refine WL_rd (Rd_move rfl) rfl rfl rfl ?_
  refine WL_ac (Ac_call cf73 rfl (hs := kS_h_len)) rfl rfl rfl ?_
  rintro _ _ ⟨⟨⟩, rfl, hA⟩
  simp only [List.cons_append, List.nil_append] at hA
  replace hA := hA.symm
  subst hA
  refine WL_rd (Rd_eqlN (j := 0) rfl rfl) rfl rfl rfl ?_
  refine WL_end hK3 ?_
  refine WC_cond rfl (fun hc0 => ?_) (fun hc0 => ?_)
  · try simp only [decide_eq_true_eq, decide_eq_false_iff_not, Bool.not_eq_true', Bool.not_eq_false', Bool.not_eq_true, Bool.not_eq_false, Int.not_lt, Int.not_le, Nat.not_lt, Nat.not_le, Decidable.not_not, ne_eq] at hc0
    refine WC_sr fun K4 hK4 => ?_
    refine WL_ac (Ac_alloc zr62) rfl rfl rfl ?_
    rintro _ _ ⟨b4, rfl, rfl⟩
    refine WL_end hK4 ?_
    refine WC_sr fun K5 hK5 => ?_
    refine WL_rd (Rd_loadg rfl tk62) rfl rfl rfl ?_
    refine WL_ac0 (Ac_store rfl rfl sz62 (h1 := by simp [Value.cells, Value.oneCell', kS_h_itf])) rfl rfl ?_
    rintro _ _ rfl
    refine WL_rd (Rd_assign rfl) rfl rfl rfl ?_
    refine WL_end hK5 ?_
    refine WC_ret ?_
    exact hret.go () (Rs2ct rfl rfl rfl tk62)
  · try simp only [decide_eq_true_eq, decide_eq_false_iff_not, Bool.not_eq_true', Bool.not_eq_false', Bool.not_eq_true, Bool.not_eq_false, Int.not_lt, Int.not_le, Nat.not_lt, Nat.not_le, Decidable.not_not, ne_eq] at hc0
    simp at hc0

theorem kS_h_peek {lf : FuncId} {caps : List Value} {b len cap m made : Nat} {a : Option Nat} {rows : List (Nat × (Int × Int × ByteArray))} {x : Nat × (Int × Int × ByteArray)} (hx0 : rows[0]? = some x := by assumption) (hlen : len = rows.length := by first | assumption | omega) : Ct Try.prog 78 [.pointer (some ⟨b, 0, none⟩)] [cl b 157 [(.func (.func lf) #[] caps.toArray), sl a len cap, .map (some m), .int .i64 ((made : Nat) : Int)], arr a cap 4 159 kS_h_itf (rows)] (fun _ : Unit => .tuple #[.agg [.int .i64 x.2.1, .int .i64 x.2.2.1, .string x.2.2.2].toArray, .bool true]) (fun _ => [cl b 157 [(.func (.func lf) #[] caps.toArray), sl a len cap, .map (some m), .int .i64 ((made : Nat) : Int)], arr a cap 4 159 kS_h_itf (rows)]) := by
  refine Ct_body (n := 16) Try.func78 rfl rfl rfl fun F w0 Q hret hnorm hp => ?_
  change WC _ _ _ _ _ _ _ (_ :: _ :: F)
  have hil := (List.getElem?_eq_some_iff.1 hx0).1
  refine WC_some (a := a) (by repeat (first | with_reducible exact Has.here | with_reducible refine Has.there ?_)) (by omega) (fun gb hgb _ => ?_)
  subst hgb
  refine WC_sr fun K1 hK1 => ?_
  refine WL_ac (Ac_alloc zr62) rfl rfl rfl ?_
  rintro _ _ ⟨b2, rfl, rfl⟩
  refine WL_rd (Rd_assign rfl) rfl rfl rfl ?_
  refine WL_end hK1 ?_
  refine WC_seq fun K2 hK2 => ?_
  refine WC_sr fun K3 hK3 => ?_
  refine WL_rd (Rd_move rfl) rfl rfl rfl ?_
  refine WL_ac (Ac_call cf73 rfl (hs := kS_h_len)) rfl rfl rfl ?_
  rintro _ _ ⟨⟨⟩, rfl, hA⟩
  simp only [List.cons_append, List.nil_append] at hA
  replace hA := hA.symm
  subst hA
  refine WL_rd (Rd_eqlN (j := 0) rfl rfl) rfl rfl rfl ?_
  refine WL_end hK3 ?_
  refine WC_cond rfl (fun hc0 => ?_) (fun hc0 => ?_)
  · try simp only [decide_eq_true_eq, decide_eq_false_iff_not, Bool.not_eq_true', Bool.not_eq_false', Bool.not_eq_true, Bool.not_eq_false, Int.not_lt, Int.not_le, Nat.not_lt, Nat.not_le, Decidable.not_not, ne_eq] at hc0
    omega
  · try simp only [decide_eq_true_eq, decide_eq_false_iff_not, Bool.not_eq_true', Bool.not_eq_false', Bool.not_eq_true, Bool.not_eq_false, Int.not_lt, Int.not_le, Nat.not_lt, Nat.not_le, Decidable.not_not, ne_eq] at hc0
    refine WC_skip ?_
    refine Ps_next hK2 ?_
    refine WC_sr fun K4 hK4 => ?_
    refine WL_rd (Rd_move rfl) rfl rfl rfl ?_
    refine WL_rd (Rd_nilCheck rfl) rfl rfl rfl ?_
    refine WL_rd (Rd_fieldAddr rfl fo157_1) rfl rfl rfl ?_
    refine WL_rd (Rd_load rfl tk155) rfl rfl rfl ?_
    refine WL_rd (Rd_index 0 rfl rfl ud155 sz159) rfl rfl rfl ?_
    refine WL_rd (Rd_fieldAddr rfl fo159_1) rfl rfl rfl ?_
    refine WL_rd (Rd_loadgp_arr rfl tk62 (j := 1)) rfl rfl rfl ?_
    refine WL_ac0 (Ac_store rfl rfl sz62 (h1 := by simp [Value.cells, Value.oneCell', kS_h_itf])) rfl rfl ?_
    rintro _ _ rfl
    refine WL_rd (Rd_assign rfl) rfl rfl rfl ?_
    refine WL_end hK4 ?_
    refine WC_ret ?_
    exact hret.go () (Rs2ct rfl rfl rfl tk62)

theorem kS_h_peek0 {b : Nat} {f : Fn} {us vs : Array Value} {a : Option Nat} {cap : Nat} {m k : Value}  : Ct Try.prog 78 [.pointer (some ⟨b, 0, none⟩)] [cl b 157 [.func f us vs, sl a ((0 : Nat)) cap, m, k]] (fun _ : Unit => .tuple #[.agg [.int .i64 0, .int .i64 0, .string ⟨#[]⟩].toArray, .bool false]) (fun _ => [cl b 157 [.func f us vs, sl a ((0 : Nat)) cap, m, k]]) := by
  refine Ct_body (n := 16) Try.func78 rfl rfl rfl fun F w0 Q hret hnorm hp => ?_
  change WC _ _ _ _ _ _ _ (_ :: F)
  refine WC_sr fun K1 hK1 => ?_
  refine WL_ac (Ac_alloc zr62) rfl rfl rfl ?_
  rintro _ _ ⟨b2, rfl, rfl⟩
  refine WL_rd (Rd_assign rfl) rfl rfl rfl ?_
  refine WL_end hK1 ?_
  refine WC_seq fun K2 hK2 => ?_
  refine WC_sr fun K3 hK3 => ?_
  refine WL_rd (Rd_move rfl) rfl rfl rfl ?_
  refine WL_ac (Ac_call cf73 rfl (hs := kS_h_len)) rfl rfl rfl ?_
  rintro _ _ ⟨⟨⟩, rfl, hA⟩
  simp only [List.cons_append, List.nil_append] at hA
  replace hA := hA.symm
  subst hA
  refine WL_rd (Rd_eqlN (j := 0) rfl rfl) rfl rfl rfl ?_
  refine WL_end hK3 ?_
  refine WC_cond rfl (fun hc0 => ?_) (fun hc0 => ?_)
  · try simp only [decide_eq_true_eq, decide_eq_false_iff_not, Bool.not_eq_true', Bool.not_eq_false', Bool.not_eq_true, Bool.not_eq_false, Int.not_lt, Int.not_le, Nat.not_lt, Nat.not_le, Decidable.not_not, ne_eq] at hc0
    refine WC_sr fun K4 hK4 => ?_
    refine WL_ac (Ac_alloc zr62) rfl rfl rfl ?_
    rintro _ _ ⟨b4, rfl, rfl⟩
    refine WL_end hK4 ?_
    refine WC_sr fun K5 hK5 => ?_
    refine WL_rd (Rd_loadg rfl tk62) rfl rfl rfl ?_
    refine WL_ac0 (Ac_store rfl rfl sz62 (h1 := by simp [Value.cells, Value.oneCell', kS_h_itf])) rfl rfl ?_
    rintro _ _ rfl
    refine WL_rd (Rd_assign rfl) rfl rfl rfl ?_
    refine WL_end hK5 ?_
    refine WC_ret ?_
    exact hret.go () (Rs2ct rfl rfl rfl tk62)
  · try simp only [decide_eq_true_eq, decide_eq_false_iff_not, Bool.not_eq_true', Bool.not_eq_false', Bool.not_eq_true, Bool.not_eq_false, Int.not_lt, Int.not_le, Nat.not_lt, Nat.not_le, Decidable.not_not, ne_eq] at hc0
    simp at hc0

theorem kS_h_new {lf : FuncId} {caps : List Value}  : Ct Try.prog 58 [(.func (.func lf) #[] caps.toArray)] [] (fun g : Nat × Nat => .tuple #[.pointer (some ⟨g.1, 0, none⟩), .int .i64 0]) (fun g => [cl g.1 157 [(.func (.func lf) #[] caps.toArray), sl none 0 0, .map (some g.2), .int .i64 ((0 : Nat) : Int)], arr none 0 4 159 kS_h_itf [], mpI g.2 (atOf ([] : List (Nat × (Int × Int × ByteArray))))]) := by
  refine Ct_body (n := 10) Try.func58 rfl rfl rfl fun F w0 Q hret hnorm hp => ?_
  change WC _ _ _ _ _ _ _ (F)
  refine WC_imp (fun w h => sat_nil (e := 4) (T := 159) (f := kS_h_itf) h) ?_
  refine WC_sr fun K1 hK1 => ?_
  refine WL_rd (Rd_assign rfl) rfl rfl rfl ?_
  refine WL_rd (Rd_assign rfl) rfl rfl rfl ?_
  refine WL_end hK1 ?_
  refine WC_seq fun K2 hK2 => ?_
  refine WC_sr fun K3 hK3 => ?_
  refine WL_rd (Rd_move rfl) rfl rfl rfl ?_
  refine WL_rd (Rd_feq rfl rfl Try.underlying119) rfl rfl rfl ?_
  refine WL_end hK3 ?_
  refine WC_condF rfl ?_
  refine WC_skip ?_
  refine Ps_next hK2 ?_
  refine WC_sr fun K4 hK4 => ?_
  refine WL_rd (Rd_move rfl) rfl rfl rfl ?_
  refine WL_ac (Ac_makeMap) rfl rfl rfl ?_
  rintro _ _ ⟨m7, rfl, rfl⟩
  rw [show (fun _ : Int => (none : Option Value)) = atOf ([] : List (Nat × (Int × Int × ByteArray))) from rfl]
  refine WL_rd (Rd_build pls157 rfl) rfl rfl rfl ?_
  refine WL_ac (Ac_box (xs := [(.func (.func lf) #[] caps.toArray), sl none 0 0, .map (some m7), .int .i64 ((0 : Nat) : Int)]) rfl rfl) rfl rfl rfl ?_
  rintro _ _ ⟨b9, rfl, rfl⟩
  refine WL_rd (Rd_assign rfl) rfl rfl rfl ?_
  refine WL_rd (Rd_assign rfl) rfl rfl rfl ?_
  refine WL_end hK4 ?_
  refine WC_ret ?_
  exact hret.go (b9, m7) (Rs2 rfl rfl rfl)

def kS_h_hpB (lv : Value) (b : Nat) (rows : List (Nat × (Int × Int × ByteArray))) (made : Nat) (x : Option Nat × Nat × Nat) : List Asn := [cl b 157 [lv, sl x.1 rows.length x.2.1, .map (some x.2.2), .int .i64 ((made : Nat) : Int)], arr x.1 x.2.1 4 159 kS_h_itf rows, mpI x.2.2 (atOf rows)]
/-- a heap: by its order, its rows, how many tickets were given -/
def kS_h_hpA (lv : Value) (b : Nat) (rows : List (Nat × (Int × Int × ByteArray))) (made : Nat) : Asn := fun h => ∃ x, Gd rows made ∧ sep (kS_h_hpB lv b rows made x) h
theorem kS_h_hp_open {lv : Value} {b : Nat} {rows : List (Nat × (Int × Int × ByteArray))} {made : Nat} {R : List Asn} {w : World} : sat w (kS_h_hpA lv b rows made :: R) ↔ ∃ x, Gd rows made ∧ sat w (kS_h_hpB lv b rows made x ++ R) := by
  unfold kS_h_hpA; rw [sat_ex]; exact exists_congr fun x => sat_and.trans (and_congr_right fun _ => sat_app)
theorem kS_h_hp_gd {lv : Value} {b : Nat} {rows : List (Nat × (Int × Int × ByteArray))} {made : Nat} {A : List Asn} {w : World} (h : Has A (kS_h_hpA lv b rows made)) (hs : sat w A) : Gd rows made := by
  obtain ⟨R, p⟩ := h
  obtain ⟨_, h, _⟩ := kS_h_hp_open.1 (sat_perm p hs)
  exact h

theorem kS_h_push_hp {σ : Type} {J : σ → Asn} {lt : σ → (Int × Int × ByteArray) → (Int × Int × ByteArray) → Bool × σ} {lf : FuncId} {caps : List Value} (hcf : cfn Try.prog lf = true) (hless : ∀ s x y, Ct Try.prog lf ([.agg [.int .i64 x.1, .int .i64 x.2.1, .string x.2.2].toArray, .agg [.int .i64 y.1, .int .i64 y.2.1, .string y.2.2].toArray] ++ caps) [J s] (fun _ : Unit => .bool (lt s x y).1) (fun _ => [J (lt s x y).2])) {b made : Nat} {rows : List (Nat × (Int × Int × ByteArray))} {s : σ} {x : (Int × Int × ByteArray)} (hm : made ≤ 900000000 := by omega) : Ct Try.prog 61 [.pointer (some ⟨b, 0, none⟩), .agg [.int .i64 x.1, .int .i64 x.2.1, .string x.2.2].toArray] [kS_h_hpA (.func (.func lf) #[] caps.toArray) b rows made, J s] (fun _ : Unit => .tuple #[.int .i64 ((made : Nat) : Int), .int .i64 0]) (fun _ => [kS_h_hpA (.func (.func lf) #[] caps.toArray) b ((pushM lt s rows made x).1) (made + 1), J (pushM lt s rows made x).2]) :=
  Ct_way fun F w hs => by
    obtain ⟨⟨a, cap, m⟩, hG, hs⟩ := kS_h_hp_open.1 hs
    have hGl := hG.len
    refine ⟨_, _, _, _, kS_h_push hcf hless (b := b) (a := a) (cap := cap) (m := m) (s := s) (x := x) (hT := hG.1) (hM := hG.2) (hlen := rfl), hs, fun r w' hw => ⟨(), rfl, kS_h_hp_open.2 ⟨(r.1, r.2, m), hG.push, hw⟩⟩⟩

theorem kS_h_pop_hp {σ : Type} {J : σ → Asn} {lt : σ → (Int × Int × ByteArray) → (Int × Int × ByteArray) → Bool × σ} {lf : FuncId} {caps : List Value} (hcf : cfn Try.prog lf = true) (hless : ∀ s x y, Ct Try.prog lf ([.agg [.int .i64 x.1, .int .i64 x.2.1, .string x.2.2].toArray, .agg [.int .i64 y.1, .int .i64 y.2.1, .string y.2.2].toArray] ++ caps) [J s] (fun _ : Unit => .bool (lt s x y).1) (fun _ => [J (lt s x y).2])) {b made : Nat} {rows : List (Nat × (Int × Int × ByteArray))} {s : σ} {x : Nat × (Int × Int × ByteArray)} (hx0 : rows[0]? = some x := by assumption) (hm : made ≤ 900000000 := by omega) : Ct Try.prog 63 [.pointer (some ⟨b, 0, none⟩)] [kS_h_hpA (.func (.func lf) #[] caps.toArray) b rows made, J s] (fun _ : Unit => .tuple #[.agg [.int .i64 x.2.1, .int .i64 x.2.2.1, .string x.2.2.2].toArray, .bool true]) (fun _ => [kS_h_hpA (.func (.func lf) #[] caps.toArray) b ((takeM lt s rows 0).1) made, J (takeM lt s rows 0).2]) :=
  Ct_way fun F w hs => by
    obtain ⟨⟨a, cap, m⟩, hG, hs⟩ := kS_h_hp_open.1 hs
    have hGl := hG.len
    refine ⟨_, _, _, _, kS_h_pop hcf hless (b := b) (a := a) (cap := cap) (m := m) (s := s) (x := x) (hT := hG.1) (hlen := rfl), hs, fun r w' hw => ⟨(), rfl, kS_h_hp_open.2 ⟨(a, cap, m), hG.take hx0, hw⟩⟩⟩

theorem kS_h_pop0_hp {lf : FuncId} {caps : List Value} {b made : Nat} : Ct Try.prog 63 [.pointer (some ⟨b, 0, none⟩)] [kS_h_hpA (.func (.func lf) #[] caps.toArray) b ([]) made] (fun _ : Unit => .tuple #[.agg [.int .i64 0, .int .i64 0, .string ⟨#[]⟩].toArray, .bool false]) (fun _ => [kS_h_hpA (.func (.func lf) #[] caps.toArray) b ([]) made]) :=
  Ct_way fun F w hs => by
    obtain ⟨⟨a, cap, m⟩, hG, hs⟩ := kS_h_hp_open.1 hs
    have hGl := hG.len
    exact ⟨_, _, _, _, (kS_h_pop0 (b := b) (f := .func lf) (us := #[]) (vs := caps.toArray) (a := a) (cap := cap)).frame [arr a cap 4 159 kS_h_itf [], mpI m (atOf [])], hs, fun r w' hw => ⟨(), rfl, kS_h_hp_open.2 ⟨(a, cap, m), hG, hw⟩⟩⟩

theorem kS_h_peek_hp {lf : FuncId} {caps : List Value} {b made : Nat} {rows : List (Nat × (Int × Int × ByteArray))} {x : Nat × (Int × Int × ByteArray)} (hx0 : rows[0]? = some x := by assumption) : Ct Try.prog 78 [.pointer (some ⟨b, 0, none⟩)] [kS_h_hpA (.func (.func lf) #[] caps.toArray) b rows made] (fun _ : Unit => .tuple #[.agg [.int .i64 x.2.1, .int .i64 x.2.2.1, .string x.2.2.2].toArray, .bool true]) (fun _ => [kS_h_hpA (.func (.func lf) #[] caps.toArray) b rows made]) :=
  Ct_way fun F w hs => by
    obtain ⟨⟨a, cap, m⟩, hG, hs⟩ := kS_h_hp_open.1 hs
    have hGl := hG.len
    exact ⟨_, _, _, _, (kS_h_peek (b := b) (a := a) (cap := cap) (m := m) (lf := lf) (caps := caps) (x := x) (hlen := rfl)).frame [mpI m (atOf rows)], hs, fun r w' hw => ⟨(), rfl, kS_h_hp_open.2 ⟨(a, cap, m), hG, hw⟩⟩⟩

theorem kS_h_peek0_hp {lf : FuncId} {caps : List Value} {b made : Nat} : Ct Try.prog 78 [.pointer (some ⟨b, 0, none⟩)] [kS_h_hpA (.func (.func lf) #[] caps.toArray) b ([]) made] (fun _ : Unit => .tuple #[.agg [.int .i64 0, .int .i64 0, .string ⟨#[]⟩].toArray, .bool false]) (fun _ => [kS_h_hpA (.func (.func lf) #[] caps.toArray) b ([]) made]) :=
  Ct_way fun F w hs => by
    obtain ⟨⟨a, cap, m⟩, hG, hs⟩ := kS_h_hp_open.1 hs
    have hGl := hG.len
    exact ⟨_, _, _, _, (kS_h_peek0 (b := b) (f := .func lf) (us := #[]) (vs := caps.toArray) (a := a) (cap := cap)).frame [arr a cap 4 159 kS_h_itf [], mpI m (atOf [])], hs, fun r w' hw => ⟨(), rfl, kS_h_hp_open.2 ⟨(a, cap, m), hG, hw⟩⟩⟩

theorem kS_h_len_hp {lf : FuncId} {caps : List Value} {b made : Nat} {rows : List (Nat × (Int × Int × ByteArray))} : Ct Try.prog 73 [.pointer (some ⟨b, 0, none⟩)] [kS_h_hpA (.func (.func lf) #[] caps.toArray) b rows made] (fun _ : Unit => .int .i64 ((rows.length : Nat) : Int)) (fun _ => [kS_h_hpA (.func (.func lf) #[] caps.toArray) b rows made]) :=
  Ct_way fun F w hs => by
    obtain ⟨⟨a, cap, m⟩, hG, hs⟩ := kS_h_hp_open.1 hs
    have hGl := hG.len
    exact ⟨_, _, _, _, (kS_h_len (b := b) (f := .func lf) (us := #[]) (vs := caps.toArray) (a := a) (len := rows.length) (cap := cap)).frame [arr a cap 4 159 kS_h_itf rows, mpI m (atOf rows)], hs, fun r w' hw => ⟨(), rfl, kS_h_hp_open.2 ⟨(a, cap, m), hG, hw⟩⟩⟩

theorem kS_h_new_hp {lf : FuncId} {caps : List Value} : Ct Try.prog 58 [(.func (.func lf) #[] caps.toArray)] [] (fun b : Nat => .tuple #[.pointer (some ⟨b, 0, none⟩), .int .i64 0]) (fun b => [kS_h_hpA (.func (.func lf) #[] caps.toArray) b ([] : List (Nat × (Int × Int × ByteArray))) 0]) :=
  Ct_way fun F w hs => ⟨_, _, _, _, kS_h_new, hs, fun r w' hw => ⟨r.1, rfl, kS_h_hp_open.2 ⟨(none, 0, r.2), Gd_nil, hw⟩⟩⟩
end Go.Proofs.Ytcemkpiopijbmaa
