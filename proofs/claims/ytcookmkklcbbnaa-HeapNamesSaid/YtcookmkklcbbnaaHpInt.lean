/-
  Contracts of functions that the claim reaches, or the row over them. (Conditions: none.)
-/
import Derived.Test.YtcookmkklcbbnaaRows
import Derived.Test.YtcookmkklcbbnaaSlMore
import Derived.Test.YtcookmkklcbbnaaHpModel
set_option linter.all false
namespace Go.Proofs.Ytcookmkklcbbnaa
open Go.RowKit Go.SL Go.HpM
set_option maxHeartbeats 400000
set_option maxRecDepth 10000
theorem cf27 : cfn Try.prog 27 = true := by kernel_rfl
theorem cf49 : cfn Try.prog 49 = true := by kernel_rfl
theorem cf50 : cfn Try.prog 50 = true := by kernel_rfl
theorem cf51 : cfn Try.prog 51 = true := by kernel_rfl
theorem cf64 : cfn Try.prog 64 = true := by kernel_rfl
theorem cf65 : cfn Try.prog 65 = true := by kernel_rfl
theorem cf66 : cfn Try.prog 66 = true := by kernel_rfl
theorem el101 : el Try.prog 101 = some (2, 16) := by kernel_rfl
theorem fo85_0 : fo Try.prog 85 0 = some (0, 50) := by kernel_rfl
theorem fo85_1 : fo Try.prog 85 1 = some (1, 82) := by kernel_rfl
theorem fo85_2 : fo Try.prog 85 2 = some (2, 83) := by kernel_rfl
theorem fo85_3 : fo Try.prog 85 3 = some (3, 3) := by kernel_rfl
theorem fo101_0 : fo Try.prog 101 0 = some (0, 3) := by kernel_rfl
theorem fo101_1 : fo Try.prog 101 1 = some (1, 3) := by kernel_rfl
theorem mix : Try.prog.follows .mixedOrders = true := by kernel_rfl
theorem pls85 : pls Try.prog 85 = some ([.nilFunc, .slice none 0 0, .map none, .int .i64 0], [(0, 1), (1, 1), (2, 1), (3, 1)]) := by kernel_rfl
theorem pls101 : pls Try.prog 101 = some ([.int .i64 0, .int .i64 0], [(0, 1), (1, 1)]) := by kernel_rfl
theorem pls110 : pls Try.prog 110 = some ([.int .i64 0, .int .i64 0], [(0, 1), (1, 1)]) := by kernel_rfl
theorem sz3 : sz Try.prog 3 = some 1 := by kernel_rfl
theorem sz82 : sz Try.prog 82 = some 1 := by kernel_rfl
theorem sz101 : sz Try.prog 101 = some 2 := by kernel_rfl
theorem tk3 : tk Try.prog 3 = some none := by kernel_rfl
theorem tk50 : tk Try.prog 50 = some none := by kernel_rfl
theorem tk82 : tk Try.prog 82 = some none := by kernel_rfl
theorem tk83 : tk Try.prog 83 = some none := by kernel_rfl
theorem tk101 : tk Try.prog 101 = some (some 2) := by kernel_rfl
theorem ud3 : Try.prog.underlying 3 = some (.int .i64) := by kernel_rfl
theorem ud55 : Try.prog.underlying 55 = some (.pointer 85) := by kernel_rfl
theorem ud82 : Try.prog.underlying 82 = some (.slice 101) := by kernel_rfl
theorem ud83 : Try.prog.underlying 83 = some (.map 3 3) := by kernel_rfl
theorem ud110 : Try.prog.underlying 110 = some (.array 2 3) := by kernel_rfl
theorem zr101 : zr Try.prog 101 = some [.int .i64 0, .int .i64 0] := by kernel_rfl
theorem zv3 : ∀ w, (zeroValue 3).run Try.prog w = .ok (.int .i64 0) w := fun w => by kernel_rfl
def itf (r : Nat × Int) : List Value := [.int .i64 (r.1 : Int), .int .i64 r.2]
theorem ok_ct (b : Nat) (f : Fn) (us vs : Array Value) (r m k : Value) :
    Ct Try.prog 49 [(.pointer (some ⟨b, 0, none⟩))] [cl b 85 [.func f us vs, r, m, k]] (fun _ : Unit => .bool true) (fun _ => [cl b 85 [.func f us vs, r, m, k]]) := by
  refine Ct_body (n := 12) Try.func49 rfl rfl rfl fun F w0 Q hret hnorm hp => ?_
  change WC _ _ _ _ _ _ (_ :: F)
  refine WC_seq fun K1 hK1 => ?_
  refine WC_region ?_
  refine WL_rd (Rd_assign rfl) rfl rfl rfl ?_
  refine WL_nil ?_
  refine Ps_next hK1 ?_
  refine WC_seq fun K2 hK2 => ?_
  refine WC_region ?_
  refine WL_rd (Rd_move rfl) rfl rfl rfl ?_
  refine WL_rd (Rd_pne rfl rfl ud55) rfl rfl rfl ?_
  refine WL_rd (Rd_move rfl) rfl rfl rfl ?_
  refine WL_rd (Rd_move rfl) rfl rfl rfl ?_
  refine WL_rd (Rd_nilCheck rfl) rfl rfl rfl ?_
  first | refine WL_rd (Rd_fieldAddr rfl fo85_0) rfl rfl rfl ?_ | refine WL_rd (Rd_fieldAddrG rfl fo85_0) rfl rfl rfl ?_
  first | refine WL_rd (Rd_load rfl tk50 (by repeat (first | with_reducible exact Has.here | with_reducible refine Has.there ?_)) (by rfl)) rfl rfl rfl ?_ | refine WL_rd (Rd_load_arr rfl tk50 (by repeat (first | with_reducible exact Has.here | with_reducible refine Has.there ?_)) (by rfl) (by assumption) (by rfl)) rfl rfl rfl ?_
  refine WL_rd (Rd_fne rfl rfl Try.underlying50) rfl rfl rfl ?_
  refine WL_rd (Rd_pickT rfl rfl) rfl rfl rfl ?_
  refine WL_rd (Rd_assign rfl) rfl rfl rfl ?_
  refine WL_nil ?_
  refine Ps_next hK2 ?_
  refine WC_ret ?_
  exact hret () _ _ (Rs1 rfl rfl) Sub.refl

theorem len_ct (b : Nat) (f : Fn) (us vs : Array Value) (a : Option Nat) (len cap : Nat) (m k : Value) :
    Ct Try.prog 27 [(.pointer (some ⟨b, 0, none⟩))] [cl b 85 [.func f us vs, sl a len cap, m, k]] (fun _ : Unit => .int .i64 len) (fun _ => [cl b 85 [.func f us vs, sl a len cap, m, k]]) := by
  refine Ct_body (n := 11) Try.func27 rfl rfl rfl fun F w0 Q hret hnorm hp => ?_
  change WC _ _ _ _ _ _ (_ :: F)
  refine WC_seq fun K1 hK1 => ?_
  refine WC_region ?_
  refine WL_rd (Rd_assign rfl) rfl rfl rfl ?_
  refine WL_nil ?_
  refine Ps_next hK1 ?_
  refine WC_seq fun K2 hK2 => ?_
  refine WC_seq fun K3 hK3 => ?_
  refine WC_region ?_
  refine WL_rd (Rd_move rfl) rfl rfl rfl ?_
  refine WL_ac (Ac_call cf49 rfl (ok_ct ..) (Gv.cons (by repeat (first | with_reducible exact Ext.here | with_reducible apply Ext.there)) Gv.nil)) rfl rfl rfl ?_
  rintro _ _ ⟨⟨⟩, rfl, hA⟩
  simp only [List.cons_append, List.nil_append] at hA
  subst hA
  refine WL_rd (Rd_not rfl) rfl rfl rfl ?_
  refine WL_nil ?_
  refine Ps_next hK3 ?_
  refine WC_condF rfl ?_
  refine WC_skip ?_
  refine Ps_next hK2 ?_
  refine WC_seq fun K4 hK4 => ?_
  refine WC_region ?_
  refine WL_rd (Rd_move rfl) rfl rfl rfl ?_
  refine WL_rd (Rd_nilCheck rfl) rfl rfl rfl ?_
  first | refine WL_rd (Rd_fieldAddr rfl fo85_1) rfl rfl rfl ?_ | refine WL_rd (Rd_fieldAddrG rfl fo85_1) rfl rfl rfl ?_
  first | refine WL_rd (Rd_load rfl tk82 (by repeat (first | with_reducible exact Has.here | with_reducible refine Has.there ?_)) (by rfl)) rfl rfl rfl ?_ | refine WL_rd (Rd_load_arr rfl tk82 (by repeat (first | with_reducible exact Has.here | with_reducible refine Has.there ?_)) (by rfl) (by assumption) (by rfl)) rfl rfl rfl ?_
  refine WL_rd (Rd_len rfl rfl ud82) rfl rfl rfl ?_
  refine WL_rd (Rd_assign rfl) rfl rfl rfl ?_
  refine WL_nil ?_
  refine Ps_next hK4 ?_
  refine WC_ret ?_
  exact hret () _ _ (Rs1 rfl rfl) (by simp only [List.cons_append, List.nil_append]; repeat (first | with_reducible exact Sub.refl | with_reducible exact Sub.nil | with_reducible refine Sub.cons (by repeat (first | with_reducible exact Ext.here | with_reducible apply Ext.there)) ?_ | with_reducible refine Sub.tail ?_))

theorem ahead_ct {σ : Type} {J : σ → Asn} {lt : σ → Int → Int → Bool × σ} {lf : FuncId} {caps : List Value} (hcf : cfn Try.prog lf = true) (hless : ∀ s x y, Ct Try.prog lf ([.int .i64 x, .int .i64 y] ++ caps) [J s] (fun _ : Unit => .bool (lt s x y).1) (fun _ => [J (lt s x y).2]))
    (b len cap m made : Nat) (a : Option Nat) (rows : List (Nat × Int)) (s : σ) (i j : Nat) (x y : Nat × Int) (hi : rows[i]? = some x) (hj : rows[j]? = some y) (hlen : len = rows.length) (hcap : len ≤ 1000000000) :
    Ct Try.prog 64 [(.pointer (some ⟨b, 0, none⟩)), .int .i64 i, .int .i64 j] [cl b 85 [(.func (.func lf) #[] caps.toArray), sl a len cap, .map (some m), .int .i64 (made : Int)], arr a cap 2 101 itf (rows), J s] (fun _ : Unit => .bool (ahM lt s x y).1) (fun _ => [cl b 85 [(.func (.func lf) #[] caps.toArray), sl a len cap, .map (some m), .int .i64 (made : Int)], arr a cap 2 101 itf (rows), J (ahM lt s x y).2]) := by
  refine Ct_body (n := 49) Try.func64 rfl rfl rfl fun F w0 Q hret hnorm hp => ?_
  change WC _ _ _ _ _ _ (_ :: _ :: _ :: F)
  have hil := (List.getElem?_eq_some_iff.1 hi).1
  have hjl := (List.getElem?_eq_some_iff.1 hj).1
  refine WC_some (a := a) (by repeat (first | with_reducible exact Has.here | with_reducible refine Has.there ?_)) (by omega) (fun gb hgb _ => ?_)
  subst hgb
  refine WC_seq fun K1 hK1 => ?_
  refine WC_region ?_
  refine WL_rd (Rd_assign rfl) rfl rfl rfl ?_
  refine WL_nil ?_
  refine Ps_next hK1 ?_
  refine WC_seq fun K2 hK2 => ?_
  refine WC_drawA mix (fun i => ([2, 2, 2, 2, 2, 2, 2, 2, 2, 2, 2, 2, 2, 2, 1, 1, 1, 1] : List Nat).getD i 0) ?_
  refine WJ_takeP 0 rfl (by kernel_rfl) (Rd_move rfl) rfl rfl rfl (hp _ _) ?_
  refine WJ_takeP 1 rfl (by kernel_rfl) (Rd_nilCheck rfl) rfl rfl rfl (hp _ _) ?_
  first | refine WJ_takeP 2 rfl (by kernel_rfl) (Rd_fieldAddr rfl fo85_1) rfl rfl rfl (hp _ _) ?_ | refine WJ_takeP 2 rfl (by kernel_rfl) (Rd_fieldAddrG rfl fo85_1) rfl rfl rfl (hp _ _) ?_
  first | refine WJ_take 3 rfl (by kernel_rfl) (Rd_load rfl tk82 (by repeat (first | with_reducible exact Has.here | with_reducible refine Has.there ?_)) (by rfl)) rfl rfl rfl (hp _ _) (by repeat (first | with_reducible exact Sub.refl | with_reducible exact Sub.nil | with_reducible refine Sub.cons (by repeat (first | with_reducible exact Ext.here | with_reducible apply Ext.there)) ?_ | with_reducible refine Sub.tail ?_)) ?_ | refine WJ_take 3 rfl (by kernel_rfl) (Rd_load_arr rfl tk82 (by repeat (first | with_reducible exact Has.here | with_reducible refine Has.there ?_)) (by rfl) (by assumption) (by rfl)) rfl rfl rfl (hp _ _) (by repeat (first | with_reducible exact Sub.refl | with_reducible exact Sub.nil | with_reducible refine Sub.cons (by repeat (first | with_reducible exact Ext.here | with_reducible apply Ext.there)) ?_ | with_reducible refine Sub.tail ?_)) ?_
  refine WJ_takeP 4 rfl (by kernel_rfl) (Rd_move rfl) rfl rfl rfl (hp _ _) ?_
  refine WJ_takeP 5 rfl (by kernel_rfl) (Rd_index _ rfl rfl ud82 sz101 rfl (by first | omega | (simp only [List.length_set, List.length_append]; omega))) rfl rfl rfl (hp _ _) ?_
  first | refine WJ_take 6 rfl (by kernel_rfl) (Rd_loadg rfl tk101 (by repeat (first | with_reducible exact Has.here | with_reducible refine Has.there ?_)) (Nat.le_of_ble_eq_true rfl) (by rfl)) rfl rfl rfl (hp _ _) (by repeat (first | with_reducible exact Sub.refl | with_reducible exact Sub.nil | with_reducible refine Sub.cons (by repeat (first | with_reducible exact Ext.here | with_reducible apply Ext.there)) ?_ | with_reducible refine Sub.tail ?_)) ?_ | refine WJ_take 6 rfl (by kernel_rfl) (Rd_loadg_arr rfl tk101 (by repeat (first | with_reducible exact Has.here | with_reducible refine Has.there ?_)) (by rfl) (by assumption)) rfl rfl rfl (hp _ _) (by repeat (first | with_reducible exact Sub.refl | with_reducible exact Sub.nil | with_reducible refine Sub.cons (by repeat (first | with_reducible exact Ext.here | with_reducible apply Ext.there)) ?_ | with_reducible refine Sub.tail ?_)) ?_
  refine WJ_takeP 7 rfl (by kernel_rfl) (Rd_move rfl) rfl rfl rfl (hp _ _) ?_
  refine WJ_takeP 8 rfl (by kernel_rfl) (Rd_nilCheck rfl) rfl rfl rfl (hp _ _) ?_
  first | refine WJ_takeP 9 rfl (by kernel_rfl) (Rd_fieldAddr rfl fo85_1) rfl rfl rfl (hp _ _) ?_ | refine WJ_takeP 9 rfl (by kernel_rfl) (Rd_fieldAddrG rfl fo85_1) rfl rfl rfl (hp _ _) ?_
  first | refine WJ_take 10 rfl (by kernel_rfl) (Rd_load rfl tk82 (by repeat (first | with_reducible exact Has.here | with_reducible refine Has.there ?_)) (by rfl)) rfl rfl rfl (hp _ _) (by repeat (first | with_reducible exact Sub.refl | with_reducible exact Sub.nil | with_reducible refine Sub.cons (by repeat (first | with_reducible exact Ext.here | with_reducible apply Ext.there)) ?_ | with_reducible refine Sub.tail ?_)) ?_ | refine WJ_take 10 rfl (by kernel_rfl) (Rd_load_arr rfl tk82 (by repeat (first | with_reducible exact Has.here | with_reducible refine Has.there ?_)) (by rfl) (by assumption) (by rfl)) rfl rfl rfl (hp _ _) (by repeat (first | with_reducible exact Sub.refl | with_reducible exact Sub.nil | with_reducible refine Sub.cons (by repeat (first | with_reducible exact Ext.here | with_reducible apply Ext.there)) ?_ | with_reducible refine Sub.tail ?_)) ?_
  refine WJ_takeP 11 rfl (by kernel_rfl) (Rd_move rfl) rfl rfl rfl (hp _ _) ?_
  refine WJ_takeP 12 rfl (by kernel_rfl) (Rd_index _ rfl rfl ud82 sz101 rfl (by first | omega | (simp only [List.length_set, List.length_append]; omega))) rfl rfl rfl (hp _ _) ?_
  first | refine WJ_take 13 rfl (by kernel_rfl) (Rd_loadg rfl tk101 (by repeat (first | with_reducible exact Has.here | with_reducible refine Has.there ?_)) (Nat.le_of_ble_eq_true rfl) (by rfl)) rfl rfl rfl (hp _ _) (by repeat (first | with_reducible exact Sub.refl | with_reducible exact Sub.nil | with_reducible refine Sub.cons (by repeat (first | with_reducible exact Ext.here | with_reducible apply Ext.there)) ?_ | with_reducible refine Sub.tail ?_)) ?_ | refine WJ_take 13 rfl (by kernel_rfl) (Rd_loadg_arr rfl tk101 (by repeat (first | with_reducible exact Has.here | with_reducible refine Has.there ?_)) (by rfl) (by assumption)) rfl rfl rfl (hp _ _) (by repeat (first | with_reducible exact Sub.refl | with_reducible exact Sub.nil | with_reducible refine Sub.cons (by repeat (first | with_reducible exact Ext.here | with_reducible apply Ext.there)) ?_ | with_reducible refine Sub.tail ?_)) ?_
  refine WJ_all (rs := [14, 15]) (by kernel_rfl) rfl ?_
  refine WI_cons ?_ (WI_cons ?_ (by intro _ h; cases h))
  · skip
    refine WI_ac rfl (Ac_alloc zr101) rfl rfl rfl rfl ?_
    rintro _ _ ⟨b7, rfl, rfl⟩
    refine ⟨(fun _ => (by repeat (first | with_reducible exact Sub.refl | with_reducible exact Sub.nil | with_reducible refine Sub.cons (by repeat (first | with_reducible exact Ext.here | with_reducible apply Ext.there)) ?_ | with_reducible refine Sub.tail ?_))), ?_⟩
    refine WJ_all (rs := [15]) (by kernel_rfl) rfl ?_
    refine WI_one ?_
    refine WI_ac rfl (Ac_alloc zr101) rfl rfl rfl rfl ?_
    rintro _ _ ⟨b8, rfl, rfl⟩
    refine ⟨(fun _ => (by repeat (first | with_reducible exact Sub.refl | with_reducible exact Sub.nil | with_reducible refine Sub.cons (by repeat (first | with_reducible exact Ext.here | with_reducible apply Ext.there)) ?_ | with_reducible refine Sub.tail ?_))), ?_⟩
    refine WJ_all (rs := [16]) (by kernel_rfl) rfl ?_
    refine WI_one ?_
    refine WI_ac0 rfl (Ac_store rfl rfl sz101 (by repeat (first | with_reducible exact Ext.here | with_reducible apply Ext.there)) (by rfl) (Nat.le_of_ble_eq_true rfl) (by simp [Value.cells, Value.oneCell', itf]) (by simp only [List.take_succ_cons, List.take_zero, List.drop_succ_cons, List.drop_zero, List.cons_append, List.nil_append, List.append_nil, List.drop_nil, List.take_nil, List.toList_toArray, Value.cells]; rfl)) rfl rfl rfl ?_
    rintro _ _ rfl
    refine ⟨(fun _ => (by repeat (first | with_reducible exact Sub.refl | with_reducible exact Sub.nil | with_reducible refine Sub.cons (by repeat (first | with_reducible exact Ext.here | with_reducible apply Ext.there)) ?_ | with_reducible refine Sub.tail ?_))), ?_⟩
    refine WJ_all (rs := [17]) (by kernel_rfl) rfl ?_
    refine WI_one ?_
    refine WI_ac0 rfl (Ac_store rfl rfl sz101 (by repeat (first | with_reducible exact Ext.here | with_reducible apply Ext.there)) (by rfl) (Nat.le_of_ble_eq_true rfl) (by simp [Value.cells, Value.oneCell', itf]) (by simp only [List.take_succ_cons, List.take_zero, List.drop_succ_cons, List.drop_zero, List.cons_append, List.nil_append, List.append_nil, List.drop_nil, List.take_nil, List.toList_toArray, Value.cells]; rfl)) rfl rfl rfl ?_
    rintro _ _ rfl
    refine ⟨(fun _ => (by repeat (first | with_reducible exact Sub.refl | with_reducible exact Sub.nil | with_reducible refine Sub.cons (by repeat (first | with_reducible exact Ext.here | with_reducible apply Ext.there)) ?_ | with_reducible refine Sub.tail ?_))), ?_⟩
    refine WJ_done (by kernel_rfl) ?_
    refine Ps_next hK2 ?_
    refine WC_seq fun K3 hK3 => ?_
    refine WC_seq fun K4 hK4 => ?_
    refine WC_draw mix [cl b 85 [(.func (.func lf) #[] caps.toArray), sl (some gb) len cap, .map (some m), .int .i64 (made : Int)], cl b7 101 (itf x), cl b8 101 (itf y)] (fun i => ([2, 2, 2, 2, 2, 2, 2, 2, 1] : List Nat).getD i 0) ?_
    refine WJ_takeP 0 rfl (by kernel_rfl) (Rd_move rfl) rfl rfl rfl (hp _ _) ?_
    refine WJ_takeP 1 rfl (by kernel_rfl) (Rd_nilCheck rfl) rfl rfl rfl (hp _ _) ?_
    first | refine WJ_takeP 2 rfl (by kernel_rfl) (Rd_fieldAddr rfl fo85_0) rfl rfl rfl (hp _ _) ?_ | refine WJ_takeP 2 rfl (by kernel_rfl) (Rd_fieldAddrG rfl fo85_0) rfl rfl rfl (hp _ _) ?_
    first | refine WJ_take 3 rfl (by kernel_rfl) (Rd_load rfl tk50 (by repeat (first | with_reducible exact Has.here | with_reducible refine Has.there ?_)) (by rfl)) rfl rfl rfl (hp _ _) (by repeat (first | with_reducible exact Sub.refl | with_reducible exact Sub.nil | with_reducible refine Sub.cons (by repeat (first | with_reducible exact Ext.here | with_reducible apply Ext.there)) ?_ | with_reducible refine Sub.tail ?_)) ?_ | refine WJ_take 3 rfl (by kernel_rfl) (Rd_load_arr rfl tk50 (by repeat (first | with_reducible exact Has.here | with_reducible refine Has.there ?_)) (by rfl) (by assumption) (by rfl)) rfl rfl rfl (hp _ _) (by repeat (first | with_reducible exact Sub.refl | with_reducible exact Sub.nil | with_reducible refine Sub.cons (by repeat (first | with_reducible exact Ext.here | with_reducible apply Ext.there)) ?_ | with_reducible refine Sub.tail ?_)) ?_
    first | refine WJ_takeP 4 rfl (by kernel_rfl) (Rd_fieldAddr rfl fo101_1) rfl rfl rfl (hp _ _) ?_ | refine WJ_takeP 4 rfl (by kernel_rfl) (Rd_fieldAddrG rfl fo101_1) rfl rfl rfl (hp _ _) ?_
    first | refine WJ_take 5 rfl (by kernel_rfl) (Rd_load rfl tk3 (by repeat (first | with_reducible exact Has.here | with_reducible refine Has.there ?_)) (by rfl)) rfl rfl rfl (hp _ _) (by repeat (first | with_reducible exact Sub.refl | with_reducible exact Sub.nil | with_reducible refine Sub.cons (by repeat (first | with_reducible exact Ext.here | with_reducible apply Ext.there)) ?_ | with_reducible refine Sub.tail ?_)) ?_ | refine WJ_take 5 rfl (by kernel_rfl) (Rd_load_arr rfl tk3 (by repeat (first | with_reducible exact Has.here | with_reducible refine Has.there ?_)) (by rfl) (by assumption) (by rfl)) rfl rfl rfl (hp _ _) (by repeat (first | with_reducible exact Sub.refl | with_reducible exact Sub.nil | with_reducible refine Sub.cons (by repeat (first | with_reducible exact Ext.here | with_reducible apply Ext.there)) ?_ | with_reducible refine Sub.tail ?_)) ?_
    first | refine WJ_takeP 6 rfl (by kernel_rfl) (Rd_fieldAddr rfl fo101_1) rfl rfl rfl (hp _ _) ?_ | refine WJ_takeP 6 rfl (by kernel_rfl) (Rd_fieldAddrG rfl fo101_1) rfl rfl rfl (hp _ _) ?_
    first | refine WJ_take 7 rfl (by kernel_rfl) (Rd_load rfl tk3 (by repeat (first | with_reducible exact Has.here | with_reducible refine Has.there ?_)) (by rfl)) rfl rfl rfl (hp _ _) (by repeat (first | with_reducible exact Sub.refl | with_reducible exact Sub.nil | with_reducible refine Sub.cons (by repeat (first | with_reducible exact Ext.here | with_reducible apply Ext.there)) ?_ | with_reducible refine Sub.tail ?_)) ?_ | refine WJ_take 7 rfl (by kernel_rfl) (Rd_load_arr rfl tk3 (by repeat (first | with_reducible exact Has.here | with_reducible refine Has.there ?_)) (by rfl) (by assumption) (by rfl)) rfl rfl rfl (hp _ _) (by repeat (first | with_reducible exact Sub.refl | with_reducible exact Sub.nil | with_reducible refine Sub.cons (by repeat (first | with_reducible exact Ext.here | with_reducible apply Ext.there)) ?_ | with_reducible refine Sub.tail ?_)) ?_
    refine WJ_all (rs := [8]) (by kernel_rfl) rfl ?_
    refine WI_one ?_
    refine WI_ac rfl (Ac_callv rfl hcf rfl rfl rfl rfl (hless s x.2 y.2) (Gv.cons (by repeat (first | with_reducible exact Ext.here | with_reducible apply Ext.there)) Gv.nil)) rfl rfl rfl rfl ?_
    rintro _ _ ⟨⟨⟩, rfl, hA⟩
    simp only [List.cons_append, List.nil_append] at hA
    subst hA
    refine ⟨(fun _ => (by repeat (first | with_reducible exact Sub.refl | with_reducible exact Sub.nil | with_reducible refine Sub.cons (by repeat (first | with_reducible exact Ext.here | with_reducible apply Ext.there)) ?_ | with_reducible refine Sub.tail ?_))), ?_⟩
    refine WJ_done (by kernel_rfl) ?_
    refine Ps_next hK4 ?_
    refine WC_cond rfl (fun hc31 => ?_) (fun hc31 => ?_)
    · try simp only [decide_eq_true_eq, decide_eq_false_iff_not, Bool.not_eq_true', Bool.not_eq_false', Bool.not_eq_true, Bool.not_eq_false, Int.not_lt, Int.not_le] at hc31
      rw [show ahM lt s x y = (true, (lt s x.2 y.2).2) from by simp [ahM, hc31]] at hret
      refine WC_seq fun K6 hK6 => ?_
      refine WC_region ?_
      refine WL_rd (Rd_assign rfl) rfl rfl rfl ?_
      refine WL_nil ?_
      refine Ps_next hK6 ?_
      refine WC_ret ?_
      exact hret () _ _ (Rs1 rfl rfl) (by simp only [List.cons_append, List.nil_append]; repeat (first | with_reducible exact Sub.refl | with_reducible exact Sub.nil | with_reducible refine Sub.cons (by repeat (first | with_reducible exact Ext.here | with_reducible apply Ext.there)) ?_ | with_reducible refine Sub.tail ?_))
    · try simp only [decide_eq_true_eq, decide_eq_false_iff_not, Bool.not_eq_true', Bool.not_eq_false', Bool.not_eq_true, Bool.not_eq_false, Int.not_lt, Int.not_le] at hc31
      rw [show ahM lt s x y = (!(lt (lt s x.2 y.2).2 y.2 x.2).1 && decide (x.1 < y.1), (lt (lt s x.2 y.2).2 y.2 x.2).2) from by simp [ahM, hc31]] at hret
      refine WC_skip ?_
      refine Ps_next hK3 ?_
      refine WC_seq fun K7 hK7 => ?_
      refine WC_draw mix [cl b 85 [(.func (.func lf) #[] caps.toArray), sl (some gb) len cap, .map (some m), .int .i64 (made : Int)], cl b7 101 (itf x), cl b8 101 (itf y)] (fun i => ([2, 2, 2, 2, 2, 2, 2, 2, 1, 2, 2, 2, 2, 2, 2, 2, 2, 2] : List Nat).getD i 0) ?_
      refine WJ_takeP 0 rfl (by kernel_rfl) (Rd_move rfl) rfl rfl rfl (hp _ _) ?_
      refine WJ_takeP 1 rfl (by kernel_rfl) (Rd_nilCheck rfl) rfl rfl rfl (hp _ _) ?_
      first | refine WJ_takeP 2 rfl (by kernel_rfl) (Rd_fieldAddr rfl fo85_0) rfl rfl rfl (hp _ _) ?_ | refine WJ_takeP 2 rfl (by kernel_rfl) (Rd_fieldAddrG rfl fo85_0) rfl rfl rfl (hp _ _) ?_
      first | refine WJ_take 3 rfl (by kernel_rfl) (Rd_load rfl tk50 (by repeat (first | with_reducible exact Has.here | with_reducible refine Has.there ?_)) (by rfl)) rfl rfl rfl (hp _ _) (by repeat (first | with_reducible exact Sub.refl | with_reducible exact Sub.nil | with_reducible refine Sub.cons (by repeat (first | with_reducible exact Ext.here | with_reducible apply Ext.there)) ?_ | with_reducible refine Sub.tail ?_)) ?_ | refine WJ_take 3 rfl (by kernel_rfl) (Rd_load_arr rfl tk50 (by repeat (first | with_reducible exact Has.here | with_reducible refine Has.there ?_)) (by rfl) (by assumption) (by rfl)) rfl rfl rfl (hp _ _) (by repeat (first | with_reducible exact Sub.refl | with_reducible exact Sub.nil | with_reducible refine Sub.cons (by repeat (first | with_reducible exact Ext.here | with_reducible apply Ext.there)) ?_ | with_reducible refine Sub.tail ?_)) ?_
      first | refine WJ_takeP 4 rfl (by kernel_rfl) (Rd_fieldAddr rfl fo101_1) rfl rfl rfl (hp _ _) ?_ | refine WJ_takeP 4 rfl (by kernel_rfl) (Rd_fieldAddrG rfl fo101_1) rfl rfl rfl (hp _ _) ?_
      first | refine WJ_take 5 rfl (by kernel_rfl) (Rd_load rfl tk3 (by repeat (first | with_reducible exact Has.here | with_reducible refine Has.there ?_)) (by rfl)) rfl rfl rfl (hp _ _) (by repeat (first | with_reducible exact Sub.refl | with_reducible exact Sub.nil | with_reducible refine Sub.cons (by repeat (first | with_reducible exact Ext.here | with_reducible apply Ext.there)) ?_ | with_reducible refine Sub.tail ?_)) ?_ | refine WJ_take 5 rfl (by kernel_rfl) (Rd_load_arr rfl tk3 (by repeat (first | with_reducible exact Has.here | with_reducible refine Has.there ?_)) (by rfl) (by assumption) (by rfl)) rfl rfl rfl (hp _ _) (by repeat (first | with_reducible exact Sub.refl | with_reducible exact Sub.nil | with_reducible refine Sub.cons (by repeat (first | with_reducible exact Ext.here | with_reducible apply Ext.there)) ?_ | with_reducible refine Sub.tail ?_)) ?_
      first | refine WJ_takeP 6 rfl (by kernel_rfl) (Rd_fieldAddr rfl fo101_1) rfl rfl rfl (hp _ _) ?_ | refine WJ_takeP 6 rfl (by kernel_rfl) (Rd_fieldAddrG rfl fo101_1) rfl rfl rfl (hp _ _) ?_
      first | refine WJ_take 7 rfl (by kernel_rfl) (Rd_load rfl tk3 (by repeat (first | with_reducible exact Has.here | with_reducible refine Has.there ?_)) (by rfl)) rfl rfl rfl (hp _ _) (by repeat (first | with_reducible exact Sub.refl | with_reducible exact Sub.nil | with_reducible refine Sub.cons (by repeat (first | with_reducible exact Ext.here | with_reducible apply Ext.there)) ?_ | with_reducible refine Sub.tail ?_)) ?_ | refine WJ_take 7 rfl (by kernel_rfl) (Rd_load_arr rfl tk3 (by repeat (first | with_reducible exact Has.here | with_reducible refine Has.there ?_)) (by rfl) (by assumption) (by rfl)) rfl rfl rfl (hp _ _) (by repeat (first | with_reducible exact Sub.refl | with_reducible exact Sub.nil | with_reducible refine Sub.cons (by repeat (first | with_reducible exact Ext.here | with_reducible apply Ext.there)) ?_ | with_reducible refine Sub.tail ?_)) ?_
      refine WJ_all (rs := [8]) (by kernel_rfl) rfl ?_
      refine WI_one ?_
      refine WI_ac rfl (Ac_callv rfl hcf rfl rfl rfl rfl (hless (lt s x.2 y.2).2 y.2 x.2) (Gv.cons (by repeat (first | with_reducible exact Ext.here | with_reducible apply Ext.there)) Gv.nil)) rfl rfl rfl rfl ?_
      rintro _ _ ⟨⟨⟩, rfl, hA⟩
      simp only [List.cons_append, List.nil_append] at hA
      subst hA
      refine ⟨(fun _ => (by repeat (first | with_reducible exact Sub.refl | with_reducible exact Sub.nil | with_reducible refine Sub.cons (by repeat (first | with_reducible exact Ext.here | with_reducible apply Ext.there)) ?_ | with_reducible refine Sub.tail ?_))), ?_⟩
      refine WJ_takeP 9 rfl (by kernel_rfl) (Rd_not rfl) rfl rfl rfl (hp _ _) ?_
      refine WJ_takeP 10 rfl (by kernel_rfl) (Rd_move rfl) rfl rfl rfl (hp _ _) ?_
      refine WJ_bool 42 rfl (fun hg8 => ?_) (fun hg8 => ?_)
      · try simp only [decide_eq_true_eq, decide_eq_false_iff_not, Bool.not_eq_true', Bool.not_eq_false', Bool.not_eq_true, Bool.not_eq_false, Int.not_lt, Int.not_le] at hg8
        rw [hg8, Bool.not_false, Bool.true_and] at hret
        first | refine WJ_takeP 11 rfl (by kernel_rfl) (Rd_fieldAddr rfl fo101_0) rfl rfl rfl (hp _ _) ?_ | refine WJ_takeP 11 rfl (by kernel_rfl) (Rd_fieldAddrG rfl fo101_0) rfl rfl rfl (hp _ _) ?_
        first | refine WJ_take 12 rfl (by kernel_rfl) (Rd_load rfl tk3 (by repeat (first | with_reducible exact Has.here | with_reducible refine Has.there ?_)) (by rfl)) rfl rfl rfl (hp _ _) (by repeat (first | with_reducible exact Sub.refl | with_reducible exact Sub.nil | with_reducible refine Sub.cons (by repeat (first | with_reducible exact Ext.here | with_reducible apply Ext.there)) ?_ | with_reducible refine Sub.tail ?_)) ?_ | refine WJ_take 12 rfl (by kernel_rfl) (Rd_load_arr rfl tk3 (by repeat (first | with_reducible exact Has.here | with_reducible refine Has.there ?_)) (by rfl) (by assumption) (by rfl)) rfl rfl rfl (hp _ _) (by repeat (first | with_reducible exact Sub.refl | with_reducible exact Sub.nil | with_reducible refine Sub.cons (by repeat (first | with_reducible exact Ext.here | with_reducible apply Ext.there)) ?_ | with_reducible refine Sub.tail ?_)) ?_
        first | refine WJ_takeP 13 rfl (by kernel_rfl) (Rd_fieldAddr rfl fo101_0) rfl rfl rfl (hp _ _) ?_ | refine WJ_takeP 13 rfl (by kernel_rfl) (Rd_fieldAddrG rfl fo101_0) rfl rfl rfl (hp _ _) ?_
        first | refine WJ_take 14 rfl (by kernel_rfl) (Rd_load rfl tk3 (by repeat (first | with_reducible exact Has.here | with_reducible refine Has.there ?_)) (by rfl)) rfl rfl rfl (hp _ _) (by repeat (first | with_reducible exact Sub.refl | with_reducible exact Sub.nil | with_reducible refine Sub.cons (by repeat (first | with_reducible exact Ext.here | with_reducible apply Ext.there)) ?_ | with_reducible refine Sub.tail ?_)) ?_ | refine WJ_take 14 rfl (by kernel_rfl) (Rd_load_arr rfl tk3 (by repeat (first | with_reducible exact Has.here | with_reducible refine Has.there ?_)) (by rfl) (by assumption) (by rfl)) rfl rfl rfl (hp _ _) (by repeat (first | with_reducible exact Sub.refl | with_reducible exact Sub.nil | with_reducible refine Sub.cons (by repeat (first | with_reducible exact Ext.here | with_reducible apply Ext.there)) ?_ | with_reducible refine Sub.tail ?_)) ?_
        refine WJ_takeP 15 rfl (by kernel_rfl) (Rd_lssN rfl rfl) rfl rfl rfl (hp _ _) ?_
        refine WJ_takeP 16 rfl (by kernel_rfl) (Rd_pickT rfl rfl) rfl rfl rfl (hp _ _) ?_
        refine WJ_takeP 17 rfl (by kernel_rfl) (Rd_assign rfl) rfl rfl rfl (hp _ _) ?_
        refine WJ_done (by kernel_rfl) ?_
        refine Ps_next hK7 ?_
        refine WC_ret ?_
        exact hret () _ _ (Rs1 rfl rfl) (by simp only [List.cons_append, List.nil_append]; repeat (first | with_reducible exact Sub.refl | with_reducible exact Sub.nil | with_reducible refine Sub.cons (by repeat (first | with_reducible exact Ext.here | with_reducible apply Ext.there)) ?_ | with_reducible refine Sub.tail ?_))
      · try simp only [decide_eq_true_eq, decide_eq_false_iff_not, Bool.not_eq_true', Bool.not_eq_false', Bool.not_eq_true, Bool.not_eq_false, Int.not_lt, Int.not_le] at hg8
        rw [hg8, Bool.not_true, Bool.false_and] at hret
        refine WJ_skip 11 rfl (by kernel_rfl) rfl rfl rfl (hp _ _) ?_
        refine WJ_skip 12 rfl (by kernel_rfl) rfl rfl rfl (hp _ _) ?_
        refine WJ_skip 13 rfl (by kernel_rfl) rfl rfl rfl (hp _ _) ?_
        refine WJ_skip 14 rfl (by kernel_rfl) rfl rfl rfl (hp _ _) ?_
        refine WJ_skip 15 rfl (by kernel_rfl) rfl rfl rfl (hp _ _) ?_
        refine WJ_takeP 16 rfl (by kernel_rfl) (Rd_pickF rfl rfl) rfl rfl rfl (hp _ _) ?_
        refine WJ_takeP 17 rfl (by kernel_rfl) (Rd_assign rfl) rfl rfl rfl (hp _ _) ?_
        refine WJ_done (by kernel_rfl) ?_
        refine Ps_next hK7 ?_
        refine WC_ret ?_
        exact hret () _ _ (Rs1 rfl rfl) (by simp only [List.cons_append, List.nil_append]; repeat (first | with_reducible exact Sub.refl | with_reducible exact Sub.nil | with_reducible refine Sub.cons (by repeat (first | with_reducible exact Ext.here | with_reducible apply Ext.there)) ?_ | with_reducible refine Sub.tail ?_))
  · skip
    refine WI_ac rfl (Ac_alloc zr101) rfl rfl rfl rfl ?_
    rintro _ _ ⟨b8, rfl, rfl⟩
    refine ⟨(fun _ => (by repeat (first | with_reducible exact Sub.refl | with_reducible exact Sub.nil | with_reducible refine Sub.cons (by repeat (first | with_reducible exact Ext.here | with_reducible apply Ext.there)) ?_ | with_reducible refine Sub.tail ?_))), ?_⟩
    refine WJ_all (rs := [14]) (by kernel_rfl) rfl ?_
    refine WI_one ?_
    refine WI_ac rfl (Ac_alloc zr101) rfl rfl rfl rfl ?_
    rintro _ _ ⟨b7, rfl, rfl⟩
    refine ⟨(fun _ => (by repeat (first | with_reducible exact Sub.refl | with_reducible exact Sub.nil | with_reducible refine Sub.cons (by repeat (first | with_reducible exact Ext.here | with_reducible apply Ext.there)) ?_ | with_reducible refine Sub.tail ?_))), ?_⟩
    refine WJ_all (rs := [16]) (by kernel_rfl) rfl ?_
    refine WI_one ?_
    refine WI_ac0 rfl (Ac_store rfl rfl sz101 (by repeat (first | with_reducible exact Ext.here | with_reducible apply Ext.there)) (by rfl) (Nat.le_of_ble_eq_true rfl) (by simp [Value.cells, Value.oneCell', itf]) (by simp only [List.take_succ_cons, List.take_zero, List.drop_succ_cons, List.drop_zero, List.cons_append, List.nil_append, List.append_nil, List.drop_nil, List.take_nil, List.toList_toArray, Value.cells]; rfl)) rfl rfl rfl ?_
    rintro _ _ rfl
    refine ⟨(fun _ => (by repeat (first | with_reducible exact Sub.refl | with_reducible exact Sub.nil | with_reducible refine Sub.cons (by repeat (first | with_reducible exact Ext.here | with_reducible apply Ext.there)) ?_ | with_reducible refine Sub.tail ?_))), ?_⟩
    refine WJ_all (rs := [17]) (by kernel_rfl) rfl ?_
    refine WI_one ?_
    refine WI_ac0 rfl (Ac_store rfl rfl sz101 (by repeat (first | with_reducible exact Ext.here | with_reducible apply Ext.there)) (by rfl) (Nat.le_of_ble_eq_true rfl) (by simp [Value.cells, Value.oneCell', itf]) (by simp only [List.take_succ_cons, List.take_zero, List.drop_succ_cons, List.drop_zero, List.cons_append, List.nil_append, List.append_nil, List.drop_nil, List.take_nil, List.toList_toArray, Value.cells]; rfl)) rfl rfl rfl ?_
    rintro _ _ rfl
    refine ⟨(fun _ => (by repeat (first | with_reducible exact Sub.refl | with_reducible exact Sub.nil | with_reducible refine Sub.cons (by repeat (first | with_reducible exact Ext.here | with_reducible apply Ext.there)) ?_ | with_reducible refine Sub.tail ?_))), ?_⟩
    refine WJ_done (by kernel_rfl) ?_
    refine Ps_next hK2 ?_
    refine WC_seq fun K9 hK9 => ?_
    refine WC_seq fun K10 hK10 => ?_
    refine WC_draw mix [cl b 85 [(.func (.func lf) #[] caps.toArray), sl (some gb) len cap, .map (some m), .int .i64 (made : Int)], cl b7 101 (itf x), cl b8 101 (itf y)] (fun i => ([2, 2, 2, 2, 2, 2, 2, 2, 1] : List Nat).getD i 0) ?_
    refine WJ_takeP 0 rfl (by kernel_rfl) (Rd_move rfl) rfl rfl rfl (hp _ _) ?_
    refine WJ_takeP 1 rfl (by kernel_rfl) (Rd_nilCheck rfl) rfl rfl rfl (hp _ _) ?_
    first | refine WJ_takeP 2 rfl (by kernel_rfl) (Rd_fieldAddr rfl fo85_0) rfl rfl rfl (hp _ _) ?_ | refine WJ_takeP 2 rfl (by kernel_rfl) (Rd_fieldAddrG rfl fo85_0) rfl rfl rfl (hp _ _) ?_
    first | refine WJ_take 3 rfl (by kernel_rfl) (Rd_load rfl tk50 (by repeat (first | with_reducible exact Has.here | with_reducible refine Has.there ?_)) (by rfl)) rfl rfl rfl (hp _ _) (by repeat (first | with_reducible exact Sub.refl | with_reducible exact Sub.nil | with_reducible refine Sub.cons (by repeat (first | with_reducible exact Ext.here | with_reducible apply Ext.there)) ?_ | with_reducible refine Sub.tail ?_)) ?_ | refine WJ_take 3 rfl (by kernel_rfl) (Rd_load_arr rfl tk50 (by repeat (first | with_reducible exact Has.here | with_reducible refine Has.there ?_)) (by rfl) (by assumption) (by rfl)) rfl rfl rfl (hp _ _) (by repeat (first | with_reducible exact Sub.refl | with_reducible exact Sub.nil | with_reducible refine Sub.cons (by repeat (first | with_reducible exact Ext.here | with_reducible apply Ext.there)) ?_ | with_reducible refine Sub.tail ?_)) ?_
    first | refine WJ_takeP 4 rfl (by kernel_rfl) (Rd_fieldAddr rfl fo101_1) rfl rfl rfl (hp _ _) ?_ | refine WJ_takeP 4 rfl (by kernel_rfl) (Rd_fieldAddrG rfl fo101_1) rfl rfl rfl (hp _ _) ?_
    first | refine WJ_take 5 rfl (by kernel_rfl) (Rd_load rfl tk3 (by repeat (first | with_reducible exact Has.here | with_reducible refine Has.there ?_)) (by rfl)) rfl rfl rfl (hp _ _) (by repeat (first | with_reducible exact Sub.refl | with_reducible exact Sub.nil | with_reducible refine Sub.cons (by repeat (first | with_reducible exact Ext.here | with_reducible apply Ext.there)) ?_ | with_reducible refine Sub.tail ?_)) ?_ | refine WJ_take 5 rfl (by kernel_rfl) (Rd_load_arr rfl tk3 (by repeat (first | with_reducible exact Has.here | with_reducible refine Has.there ?_)) (by rfl) (by assumption) (by rfl)) rfl rfl rfl (hp _ _) (by repeat (first | with_reducible exact Sub.refl | with_reducible exact Sub.nil | with_reducible refine Sub.cons (by repeat (first | with_reducible exact Ext.here | with_reducible apply Ext.there)) ?_ | with_reducible refine Sub.tail ?_)) ?_
    first | refine WJ_takeP 6 rfl (by kernel_rfl) (Rd_fieldAddr rfl fo101_1) rfl rfl rfl (hp _ _) ?_ | refine WJ_takeP 6 rfl (by kernel_rfl) (Rd_fieldAddrG rfl fo101_1) rfl rfl rfl (hp _ _) ?_
    first | refine WJ_take 7 rfl (by kernel_rfl) (Rd_load rfl tk3 (by repeat (first | with_reducible exact Has.here | with_reducible refine Has.there ?_)) (by rfl)) rfl rfl rfl (hp _ _) (by repeat (first | with_reducible exact Sub.refl | with_reducible exact Sub.nil | with_reducible refine Sub.cons (by repeat (first | with_reducible exact Ext.here | with_reducible apply Ext.there)) ?_ | with_reducible refine Sub.tail ?_)) ?_ | refine WJ_take 7 rfl (by kernel_rfl) (Rd_load_arr rfl tk3 (by repeat (first | with_reducible exact Has.here | with_reducible refine Has.there ?_)) (by rfl) (by assumption) (by rfl)) rfl rfl rfl (hp _ _) (by repeat (first | with_reducible exact Sub.refl | with_reducible exact Sub.nil | with_reducible refine Sub.cons (by repeat (first | with_reducible exact Ext.here | with_reducible apply Ext.there)) ?_ | with_reducible refine Sub.tail ?_)) ?_
    refine WJ_all (rs := [8]) (by kernel_rfl) rfl ?_
    refine WI_one ?_
    refine WI_ac rfl (Ac_callv rfl hcf rfl rfl rfl rfl (hless s x.2 y.2) (Gv.cons (by repeat (first | with_reducible exact Ext.here | with_reducible apply Ext.there)) Gv.nil)) rfl rfl rfl rfl ?_
    rintro _ _ ⟨⟨⟩, rfl, hA⟩
    simp only [List.cons_append, List.nil_append] at hA
    subst hA
    refine ⟨(fun _ => (by repeat (first | with_reducible exact Sub.refl | with_reducible exact Sub.nil | with_reducible refine Sub.cons (by repeat (first | with_reducible exact Ext.here | with_reducible apply Ext.there)) ?_ | with_reducible refine Sub.tail ?_))), ?_⟩
    refine WJ_done (by kernel_rfl) ?_
    refine Ps_next hK10 ?_
    refine WC_cond rfl (fun hc31 => ?_) (fun hc31 => ?_)
    · try simp only [decide_eq_true_eq, decide_eq_false_iff_not, Bool.not_eq_true', Bool.not_eq_false', Bool.not_eq_true, Bool.not_eq_false, Int.not_lt, Int.not_le] at hc31
      rw [show ahM lt s x y = (true, (lt s x.2 y.2).2) from by simp [ahM, hc31]] at hret
      refine WC_seq fun K12 hK12 => ?_
      refine WC_region ?_
      refine WL_rd (Rd_assign rfl) rfl rfl rfl ?_
      refine WL_nil ?_
      refine Ps_next hK12 ?_
      refine WC_ret ?_
      exact hret () _ _ (Rs1 rfl rfl) (by simp only [List.cons_append, List.nil_append]; repeat (first | with_reducible exact Sub.refl | with_reducible exact Sub.nil | with_reducible refine Sub.cons (by repeat (first | with_reducible exact Ext.here | with_reducible apply Ext.there)) ?_ | with_reducible refine Sub.tail ?_))
    · try simp only [decide_eq_true_eq, decide_eq_false_iff_not, Bool.not_eq_true', Bool.not_eq_false', Bool.not_eq_true, Bool.not_eq_false, Int.not_lt, Int.not_le] at hc31
      rw [show ahM lt s x y = (!(lt (lt s x.2 y.2).2 y.2 x.2).1 && decide (x.1 < y.1), (lt (lt s x.2 y.2).2 y.2 x.2).2) from by simp [ahM, hc31]] at hret
      refine WC_skip ?_
      refine Ps_next hK9 ?_
      refine WC_seq fun K13 hK13 => ?_
      refine WC_draw mix [cl b 85 [(.func (.func lf) #[] caps.toArray), sl (some gb) len cap, .map (some m), .int .i64 (made : Int)], cl b7 101 (itf x), cl b8 101 (itf y)] (fun i => ([2, 2, 2, 2, 2, 2, 2, 2, 1, 2, 2, 2, 2, 2, 2, 2, 2, 2] : List Nat).getD i 0) ?_
      refine WJ_takeP 0 rfl (by kernel_rfl) (Rd_move rfl) rfl rfl rfl (hp _ _) ?_
      refine WJ_takeP 1 rfl (by kernel_rfl) (Rd_nilCheck rfl) rfl rfl rfl (hp _ _) ?_
      first | refine WJ_takeP 2 rfl (by kernel_rfl) (Rd_fieldAddr rfl fo85_0) rfl rfl rfl (hp _ _) ?_ | refine WJ_takeP 2 rfl (by kernel_rfl) (Rd_fieldAddrG rfl fo85_0) rfl rfl rfl (hp _ _) ?_
      first | refine WJ_take 3 rfl (by kernel_rfl) (Rd_load rfl tk50 (by repeat (first | with_reducible exact Has.here | with_reducible refine Has.there ?_)) (by rfl)) rfl rfl rfl (hp _ _) (by repeat (first | with_reducible exact Sub.refl | with_reducible exact Sub.nil | with_reducible refine Sub.cons (by repeat (first | with_reducible exact Ext.here | with_reducible apply Ext.there)) ?_ | with_reducible refine Sub.tail ?_)) ?_ | refine WJ_take 3 rfl (by kernel_rfl) (Rd_load_arr rfl tk50 (by repeat (first | with_reducible exact Has.here | with_reducible refine Has.there ?_)) (by rfl) (by assumption) (by rfl)) rfl rfl rfl (hp _ _) (by repeat (first | with_reducible exact Sub.refl | with_reducible exact Sub.nil | with_reducible refine Sub.cons (by repeat (first | with_reducible exact Ext.here | with_reducible apply Ext.there)) ?_ | with_reducible refine Sub.tail ?_)) ?_
      first | refine WJ_takeP 4 rfl (by kernel_rfl) (Rd_fieldAddr rfl fo101_1) rfl rfl rfl (hp _ _) ?_ | refine WJ_takeP 4 rfl (by kernel_rfl) (Rd_fieldAddrG rfl fo101_1) rfl rfl rfl (hp _ _) ?_
      first | refine WJ_take 5 rfl (by kernel_rfl) (Rd_load rfl tk3 (by repeat (first | with_reducible exact Has.here | with_reducible refine Has.there ?_)) (by rfl)) rfl rfl rfl (hp _ _) (by repeat (first | with_reducible exact Sub.refl | with_reducible exact Sub.nil | with_reducible refine Sub.cons (by repeat (first | with_reducible exact Ext.here | with_reducible apply Ext.there)) ?_ | with_reducible refine Sub.tail ?_)) ?_ | refine WJ_take 5 rfl (by kernel_rfl) (Rd_load_arr rfl tk3 (by repeat (first | with_reducible exact Has.here | with_reducible refine Has.there ?_)) (by rfl) (by assumption) (by rfl)) rfl rfl rfl (hp _ _) (by repeat (first | with_reducible exact Sub.refl | with_reducible exact Sub.nil | with_reducible refine Sub.cons (by repeat (first | with_reducible exact Ext.here | with_reducible apply Ext.there)) ?_ | with_reducible refine Sub.tail ?_)) ?_
      first | refine WJ_takeP 6 rfl (by kernel_rfl) (Rd_fieldAddr rfl fo101_1) rfl rfl rfl (hp _ _) ?_ | refine WJ_takeP 6 rfl (by kernel_rfl) (Rd_fieldAddrG rfl fo101_1) rfl rfl rfl (hp _ _) ?_
      first | refine WJ_take 7 rfl (by kernel_rfl) (Rd_load rfl tk3 (by repeat (first | with_reducible exact Has.here | with_reducible refine Has.there ?_)) (by rfl)) rfl rfl rfl (hp _ _) (by repeat (first | with_reducible exact Sub.refl | with_reducible exact Sub.nil | with_reducible refine Sub.cons (by repeat (first | with_reducible exact Ext.here | with_reducible apply Ext.there)) ?_ | with_reducible refine Sub.tail ?_)) ?_ | refine WJ_take 7 rfl (by kernel_rfl) (Rd_load_arr rfl tk3 (by repeat (first | with_reducible exact Has.here | with_reducible refine Has.there ?_)) (by rfl) (by assumption) (by rfl)) rfl rfl rfl (hp _ _) (by repeat (first | with_reducible exact Sub.refl | with_reducible exact Sub.nil | with_reducible refine Sub.cons (by repeat (first | with_reducible exact Ext.here | with_reducible apply Ext.there)) ?_ | with_reducible refine Sub.tail ?_)) ?_
      refine WJ_all (rs := [8]) (by kernel_rfl) rfl ?_
      refine WI_one ?_
      refine WI_ac rfl (Ac_callv rfl hcf rfl rfl rfl rfl (hless (lt s x.2 y.2).2 y.2 x.2) (Gv.cons (by repeat (first | with_reducible exact Ext.here | with_reducible apply Ext.there)) Gv.nil)) rfl rfl rfl rfl ?_
      rintro _ _ ⟨⟨⟩, rfl, hA⟩
      simp only [List.cons_append, List.nil_append] at hA
      subst hA
      refine ⟨(fun _ => (by repeat (first | with_reducible exact Sub.refl | with_reducible exact Sub.nil | with_reducible refine Sub.cons (by repeat (first | with_reducible exact Ext.here | with_reducible apply Ext.there)) ?_ | with_reducible refine Sub.tail ?_))), ?_⟩
      refine WJ_takeP 9 rfl (by kernel_rfl) (Rd_not rfl) rfl rfl rfl (hp _ _) ?_
      refine WJ_takeP 10 rfl (by kernel_rfl) (Rd_move rfl) rfl rfl rfl (hp _ _) ?_
      refine WJ_bool 42 rfl (fun hg14 => ?_) (fun hg14 => ?_)
      · try simp only [decide_eq_true_eq, decide_eq_false_iff_not, Bool.not_eq_true', Bool.not_eq_false', Bool.not_eq_true, Bool.not_eq_false, Int.not_lt, Int.not_le] at hg14
        rw [hg14, Bool.not_false, Bool.true_and] at hret
        first | refine WJ_takeP 11 rfl (by kernel_rfl) (Rd_fieldAddr rfl fo101_0) rfl rfl rfl (hp _ _) ?_ | refine WJ_takeP 11 rfl (by kernel_rfl) (Rd_fieldAddrG rfl fo101_0) rfl rfl rfl (hp _ _) ?_
        first | refine WJ_take 12 rfl (by kernel_rfl) (Rd_load rfl tk3 (by repeat (first | with_reducible exact Has.here | with_reducible refine Has.there ?_)) (by rfl)) rfl rfl rfl (hp _ _) (by repeat (first | with_reducible exact Sub.refl | with_reducible exact Sub.nil | with_reducible refine Sub.cons (by repeat (first | with_reducible exact Ext.here | with_reducible apply Ext.there)) ?_ | with_reducible refine Sub.tail ?_)) ?_ | refine WJ_take 12 rfl (by kernel_rfl) (Rd_load_arr rfl tk3 (by repeat (first | with_reducible exact Has.here | with_reducible refine Has.there ?_)) (by rfl) (by assumption) (by rfl)) rfl rfl rfl (hp _ _) (by repeat (first | with_reducible exact Sub.refl | with_reducible exact Sub.nil | with_reducible refine Sub.cons (by repeat (first | with_reducible exact Ext.here | with_reducible apply Ext.there)) ?_ | with_reducible refine Sub.tail ?_)) ?_
        first | refine WJ_takeP 13 rfl (by kernel_rfl) (Rd_fieldAddr rfl fo101_0) rfl rfl rfl (hp _ _) ?_ | refine WJ_takeP 13 rfl (by kernel_rfl) (Rd_fieldAddrG rfl fo101_0) rfl rfl rfl (hp _ _) ?_
        first | refine WJ_take 14 rfl (by kernel_rfl) (Rd_load rfl tk3 (by repeat (first | with_reducible exact Has.here | with_reducible refine Has.there ?_)) (by rfl)) rfl rfl rfl (hp _ _) (by repeat (first | with_reducible exact Sub.refl | with_reducible exact Sub.nil | with_reducible refine Sub.cons (by repeat (first | with_reducible exact Ext.here | with_reducible apply Ext.there)) ?_ | with_reducible refine Sub.tail ?_)) ?_ | refine WJ_take 14 rfl (by kernel_rfl) (Rd_load_arr rfl tk3 (by repeat (first | with_reducible exact Has.here | with_reducible refine Has.there ?_)) (by rfl) (by assumption) (by rfl)) rfl rfl rfl (hp _ _) (by repeat (first | with_reducible exact Sub.refl | with_reducible exact Sub.nil | with_reducible refine Sub.cons (by repeat (first | with_reducible exact Ext.here | with_reducible apply Ext.there)) ?_ | with_reducible refine Sub.tail ?_)) ?_
        refine WJ_takeP 15 rfl (by kernel_rfl) (Rd_lssN rfl rfl) rfl rfl rfl (hp _ _) ?_
        refine WJ_takeP 16 rfl (by kernel_rfl) (Rd_pickT rfl rfl) rfl rfl rfl (hp _ _) ?_
        refine WJ_takeP 17 rfl (by kernel_rfl) (Rd_assign rfl) rfl rfl rfl (hp _ _) ?_
        refine WJ_done (by kernel_rfl) ?_
        refine Ps_next hK13 ?_
        refine WC_ret ?_
        exact hret () _ _ (Rs1 rfl rfl) (by simp only [List.cons_append, List.nil_append]; repeat (first | with_reducible exact Sub.refl | with_reducible exact Sub.nil | with_reducible refine Sub.cons (by repeat (first | with_reducible exact Ext.here | with_reducible apply Ext.there)) ?_ | with_reducible refine Sub.tail ?_))
      · try simp only [decide_eq_true_eq, decide_eq_false_iff_not, Bool.not_eq_true', Bool.not_eq_false', Bool.not_eq_true, Bool.not_eq_false, Int.not_lt, Int.not_le] at hg14
        rw [hg14, Bool.not_true, Bool.false_and] at hret
        refine WJ_skip 11 rfl (by kernel_rfl) rfl rfl rfl (hp _ _) ?_
        refine WJ_skip 12 rfl (by kernel_rfl) rfl rfl rfl (hp _ _) ?_
        refine WJ_skip 13 rfl (by kernel_rfl) rfl rfl rfl (hp _ _) ?_
        refine WJ_skip 14 rfl (by kernel_rfl) rfl rfl rfl (hp _ _) ?_
        refine WJ_skip 15 rfl (by kernel_rfl) rfl rfl rfl (hp _ _) ?_
        refine WJ_takeP 16 rfl (by kernel_rfl) (Rd_pickF rfl rfl) rfl rfl rfl (hp _ _) ?_
        refine WJ_takeP 17 rfl (by kernel_rfl) (Rd_assign rfl) rfl rfl rfl (hp _ _) ?_
        refine WJ_done (by kernel_rfl) ?_
        refine Ps_next hK13 ?_
        refine WC_ret ?_
        exact hret () _ _ (Rs1 rfl rfl) (by simp only [List.cons_append, List.nil_append]; repeat (first | with_reducible exact Sub.refl | with_reducible exact Sub.nil | with_reducible refine Sub.cons (by repeat (first | with_reducible exact Ext.here | with_reducible apply Ext.there)) ?_ | with_reducible refine Sub.tail ?_))

theorem swap_ct (b len cap m made : Nat) (a : Option Nat) (lv : Value) (rows : List (Nat × Int)) (i j : Nat) (x y : Nat × Int) (hi : rows[i]? = some x) (hj : rows[j]? = some y) (hT : Tk rows) (hlen : len = rows.length) (hcap : len ≤ 1000000000) :
    Ct Try.prog 65 [(.pointer (some ⟨b, 0, none⟩)), .int .i64 i, .int .i64 j] [cl b 85 [lv, sl a len cap, .map (some m), .int .i64 (made : Int)], arr a cap 2 101 itf (rows), mpI m (atOf (rows))] (fun _ : Unit => .tuple #[]) (fun _ => [cl b 85 [lv, sl a len cap, .map (some m), .int .i64 (made : Int)], arr a cap 2 101 itf (swp rows i j), mpI m (atOf (swp rows i j))]) := by
  refine Ct_body (n := 62) Try.func65 rfl rfl rfl fun F w0 Q hret hnorm hp => ?_
  change WC _ _ _ _ _ _ (_ :: _ :: _ :: F)
  have hil := (List.getElem?_eq_some_iff.1 hi).1
  have hjl := (List.getElem?_eq_some_iff.1 hj).1
  have hi' : (swp rows i j)[i]? = some y := swp_left hi hj
  have hj' : (swp rows i j)[j]? = some x := by rw [swp_get hi hj, if_pos rfl]
  refine WC_some (a := a) (by repeat (first | with_reducible exact Has.here | with_reducible refine Has.there ?_)) (by omega) (fun gb hgb _ => ?_)
  subst hgb
  refine WC_seq fun K1 hK1 => ?_
  refine WC_drawA mix (fun i => ([2, 2, 2, 2, 2, 2, 2, 2, 2, 2, 2, 2, 2, 2, 2, 2, 2, 2, 2, 2, 2, 2, 2, 2, 2, 0, 2, 0] : List Nat).getD i 0) ?_
  refine WJ_takeP 0 rfl (by kernel_rfl) (Rd_move rfl) rfl rfl rfl (hp _ _) ?_
  refine WJ_takeP 1 rfl (by kernel_rfl) (Rd_nilCheck rfl) rfl rfl rfl (hp _ _) ?_
  first | refine WJ_takeP 2 rfl (by kernel_rfl) (Rd_fieldAddr rfl fo85_1) rfl rfl rfl (hp _ _) ?_ | refine WJ_takeP 2 rfl (by kernel_rfl) (Rd_fieldAddrG rfl fo85_1) rfl rfl rfl (hp _ _) ?_
  first | refine WJ_take 3 rfl (by kernel_rfl) (Rd_load rfl tk82 (by repeat (first | with_reducible exact Has.here | with_reducible refine Has.there ?_)) (by rfl)) rfl rfl rfl (hp _ _) (by repeat (first | with_reducible exact Sub.refl | with_reducible exact Sub.nil | with_reducible refine Sub.cons (by repeat (first | with_reducible exact Ext.here | with_reducible apply Ext.there)) ?_ | with_reducible refine Sub.tail ?_)) ?_ | refine WJ_take 3 rfl (by kernel_rfl) (Rd_load_arr rfl tk82 (by repeat (first | with_reducible exact Has.here | with_reducible refine Has.there ?_)) (by rfl) (by assumption) (by rfl)) rfl rfl rfl (hp _ _) (by repeat (first | with_reducible exact Sub.refl | with_reducible exact Sub.nil | with_reducible refine Sub.cons (by repeat (first | with_reducible exact Ext.here | with_reducible apply Ext.there)) ?_ | with_reducible refine Sub.tail ?_)) ?_
  refine WJ_takeP 4 rfl (by kernel_rfl) (Rd_move rfl) rfl rfl rfl (hp _ _) ?_
  refine WJ_takeP 5 rfl (by kernel_rfl) (Rd_move rfl) rfl rfl rfl (hp _ _) ?_
  refine WJ_takeP 6 rfl (by kernel_rfl) (Rd_nilCheck rfl) rfl rfl rfl (hp _ _) ?_
  first | refine WJ_takeP 7 rfl (by kernel_rfl) (Rd_fieldAddr rfl fo85_1) rfl rfl rfl (hp _ _) ?_ | refine WJ_takeP 7 rfl (by kernel_rfl) (Rd_fieldAddrG rfl fo85_1) rfl rfl rfl (hp _ _) ?_
  first | refine WJ_take 8 rfl (by kernel_rfl) (Rd_load rfl tk82 (by repeat (first | with_reducible exact Has.here | with_reducible refine Has.there ?_)) (by rfl)) rfl rfl rfl (hp _ _) (by repeat (first | with_reducible exact Sub.refl | with_reducible exact Sub.nil | with_reducible refine Sub.cons (by repeat (first | with_reducible exact Ext.here | with_reducible apply Ext.there)) ?_ | with_reducible refine Sub.tail ?_)) ?_ | refine WJ_take 8 rfl (by kernel_rfl) (Rd_load_arr rfl tk82 (by repeat (first | with_reducible exact Has.here | with_reducible refine Has.there ?_)) (by rfl) (by assumption) (by rfl)) rfl rfl rfl (hp _ _) (by repeat (first | with_reducible exact Sub.refl | with_reducible exact Sub.nil | with_reducible refine Sub.cons (by repeat (first | with_reducible exact Ext.here | with_reducible apply Ext.there)) ?_ | with_reducible refine Sub.tail ?_)) ?_
  refine WJ_takeP 9 rfl (by kernel_rfl) (Rd_move rfl) rfl rfl rfl (hp _ _) ?_
  refine WJ_takeP 10 rfl (by kernel_rfl) (Rd_move rfl) rfl rfl rfl (hp _ _) ?_
  refine WJ_takeP 11 rfl (by kernel_rfl) (Rd_nilCheck rfl) rfl rfl rfl (hp _ _) ?_
  first | refine WJ_takeP 12 rfl (by kernel_rfl) (Rd_fieldAddr rfl fo85_1) rfl rfl rfl (hp _ _) ?_ | refine WJ_takeP 12 rfl (by kernel_rfl) (Rd_fieldAddrG rfl fo85_1) rfl rfl rfl (hp _ _) ?_
  first | refine WJ_take 13 rfl (by kernel_rfl) (Rd_load rfl tk82 (by repeat (first | with_reducible exact Has.here | with_reducible refine Has.there ?_)) (by rfl)) rfl rfl rfl (hp _ _) (by repeat (first | with_reducible exact Sub.refl | with_reducible exact Sub.nil | with_reducible refine Sub.cons (by repeat (first | with_reducible exact Ext.here | with_reducible apply Ext.there)) ?_ | with_reducible refine Sub.tail ?_)) ?_ | refine WJ_take 13 rfl (by kernel_rfl) (Rd_load_arr rfl tk82 (by repeat (first | with_reducible exact Has.here | with_reducible refine Has.there ?_)) (by rfl) (by assumption) (by rfl)) rfl rfl rfl (hp _ _) (by repeat (first | with_reducible exact Sub.refl | with_reducible exact Sub.nil | with_reducible refine Sub.cons (by repeat (first | with_reducible exact Ext.here | with_reducible apply Ext.there)) ?_ | with_reducible refine Sub.tail ?_)) ?_
  refine WJ_takeP 14 rfl (by kernel_rfl) (Rd_move rfl) rfl rfl rfl (hp _ _) ?_
  refine WJ_takeP 15 rfl (by kernel_rfl) (Rd_index _ rfl rfl ud82 sz101 rfl (by first | omega | (simp only [List.length_set, List.length_append]; omega))) rfl rfl rfl (hp _ _) ?_
  first | refine WJ_take 16 rfl (by kernel_rfl) (Rd_loadg rfl tk101 (by repeat (first | with_reducible exact Has.here | with_reducible refine Has.there ?_)) (Nat.le_of_ble_eq_true rfl) (by rfl)) rfl rfl rfl (hp _ _) (by repeat (first | with_reducible exact Sub.refl | with_reducible exact Sub.nil | with_reducible refine Sub.cons (by repeat (first | with_reducible exact Ext.here | with_reducible apply Ext.there)) ?_ | with_reducible refine Sub.tail ?_)) ?_ | refine WJ_take 16 rfl (by kernel_rfl) (Rd_loadg_arr rfl tk101 (by repeat (first | with_reducible exact Has.here | with_reducible refine Has.there ?_)) (by rfl) (by assumption)) rfl rfl rfl (hp _ _) (by repeat (first | with_reducible exact Sub.refl | with_reducible exact Sub.nil | with_reducible refine Sub.cons (by repeat (first | with_reducible exact Ext.here | with_reducible apply Ext.there)) ?_ | with_reducible refine Sub.tail ?_)) ?_
  refine WJ_takeP 17 rfl (by kernel_rfl) (Rd_move rfl) rfl rfl rfl (hp _ _) ?_
  refine WJ_takeP 18 rfl (by kernel_rfl) (Rd_nilCheck rfl) rfl rfl rfl (hp _ _) ?_
  first | refine WJ_takeP 19 rfl (by kernel_rfl) (Rd_fieldAddr rfl fo85_1) rfl rfl rfl (hp _ _) ?_ | refine WJ_takeP 19 rfl (by kernel_rfl) (Rd_fieldAddrG rfl fo85_1) rfl rfl rfl (hp _ _) ?_
  first | refine WJ_take 20 rfl (by kernel_rfl) (Rd_load rfl tk82 (by repeat (first | with_reducible exact Has.here | with_reducible refine Has.there ?_)) (by rfl)) rfl rfl rfl (hp _ _) (by repeat (first | with_reducible exact Sub.refl | with_reducible exact Sub.nil | with_reducible refine Sub.cons (by repeat (first | with_reducible exact Ext.here | with_reducible apply Ext.there)) ?_ | with_reducible refine Sub.tail ?_)) ?_ | refine WJ_take 20 rfl (by kernel_rfl) (Rd_load_arr rfl tk82 (by repeat (first | with_reducible exact Has.here | with_reducible refine Has.there ?_)) (by rfl) (by assumption) (by rfl)) rfl rfl rfl (hp _ _) (by repeat (first | with_reducible exact Sub.refl | with_reducible exact Sub.nil | with_reducible refine Sub.cons (by repeat (first | with_reducible exact Ext.here | with_reducible apply Ext.there)) ?_ | with_reducible refine Sub.tail ?_)) ?_
  refine WJ_takeP 21 rfl (by kernel_rfl) (Rd_move rfl) rfl rfl rfl (hp _ _) ?_
  refine WJ_takeP 22 rfl (by kernel_rfl) (Rd_index _ rfl rfl ud82 sz101 rfl (by first | omega | (simp only [List.length_set, List.length_append]; omega))) rfl rfl rfl (hp _ _) ?_
  first | refine WJ_take 23 rfl (by kernel_rfl) (Rd_loadg rfl tk101 (by repeat (first | with_reducible exact Has.here | with_reducible refine Has.there ?_)) (Nat.le_of_ble_eq_true rfl) (by rfl)) rfl rfl rfl (hp _ _) (by repeat (first | with_reducible exact Sub.refl | with_reducible exact Sub.nil | with_reducible refine Sub.cons (by repeat (first | with_reducible exact Ext.here | with_reducible apply Ext.there)) ?_ | with_reducible refine Sub.tail ?_)) ?_ | refine WJ_take 23 rfl (by kernel_rfl) (Rd_loadg_arr rfl tk101 (by repeat (first | with_reducible exact Has.here | with_reducible refine Has.there ?_)) (by rfl) (by assumption)) rfl rfl rfl (hp _ _) (by repeat (first | with_reducible exact Sub.refl | with_reducible exact Sub.nil | with_reducible refine Sub.cons (by repeat (first | with_reducible exact Ext.here | with_reducible apply Ext.there)) ?_ | with_reducible refine Sub.tail ?_)) ?_
  refine WJ_takeP 24 rfl (by kernel_rfl) (Rd_index _ rfl rfl ud82 sz101 rfl (by first | omega | (simp only [List.length_set, List.length_append]; omega))) rfl rfl rfl (hp _ _) ?_
  refine WJ_all (rs := [25]) (by kernel_rfl) rfl ?_
  refine WI_one ?_
  refine WI_ac0 rfl (Ac_storeg_arr y rfl rfl sz101 (by repeat (first | with_reducible exact Ext.here | with_reducible apply Ext.there)) (by rfl) (by omega) (by simp [itf, Value.oneCell']) rfl) rfl rfl rfl ?_
  rintro _ _ rfl
  refine ⟨(fun h => by cases h), ?_⟩
  refine WJ_takeP 26 rfl (by kernel_rfl) (Rd_index _ rfl rfl ud82 sz101 rfl (by first | omega | (simp only [List.length_set, List.length_append]; omega))) rfl rfl rfl (hp _ _) ?_
  refine WJ_all (rs := [27]) (by kernel_rfl) rfl ?_
  refine WI_one ?_
  refine WI_ac0 rfl (Ac_storeg_arr x rfl rfl sz101 (by repeat (first | with_reducible exact Ext.here | with_reducible apply Ext.there)) (by rfl) (by simp only [List.length_set]; omega) (by simp [itf, Value.oneCell']) rfl) rfl rfl rfl ?_
  rintro _ _ rfl
  refine ⟨(fun h => by cases h), ?_⟩
  refine WJ_done (by kernel_rfl) ?_
  refine Ps_next hK1 ?_
  rw [← swp_eq hi hj]
  refine WC_draw mix [cl b 85 [lv, sl (some gb) len cap, .map (some m), .int .i64 (made : Int)], arr (some gb) cap 2 101 itf (swp rows i j)] (fun i => ([2, 2, 2, 2, 2, 2, 2, 2, 2, 2, 2, 2, 2, 2, 2, 2, 2, 2, 2, 2, 2, 2, 2, 2, 2, 2, 1, 2, 1, 1, 2, 1] : List Nat).getD i 0) ?_
  refine WJ_takeP 0 rfl (by kernel_rfl) (Rd_move rfl) rfl rfl rfl (hp _ _) ?_
  refine WJ_takeP 1 rfl (by kernel_rfl) (Rd_nilCheck rfl) rfl rfl rfl (hp _ _) ?_
  first | refine WJ_takeP 2 rfl (by kernel_rfl) (Rd_fieldAddr rfl fo85_2) rfl rfl rfl (hp _ _) ?_ | refine WJ_takeP 2 rfl (by kernel_rfl) (Rd_fieldAddrG rfl fo85_2) rfl rfl rfl (hp _ _) ?_
  first | refine WJ_take 3 rfl (by kernel_rfl) (Rd_load rfl tk83 (by repeat (first | with_reducible exact Has.here | with_reducible refine Has.there ?_)) (by rfl)) rfl rfl rfl (hp _ _) (by repeat (first | with_reducible exact Sub.refl | with_reducible exact Sub.nil | with_reducible refine Sub.cons (by repeat (first | with_reducible exact Ext.here | with_reducible apply Ext.there)) ?_ | with_reducible refine Sub.tail ?_)) ?_ | refine WJ_take 3 rfl (by kernel_rfl) (Rd_load_arr rfl tk83 (by repeat (first | with_reducible exact Has.here | with_reducible refine Has.there ?_)) (by rfl) (by assumption) (by rfl)) rfl rfl rfl (hp _ _) (by repeat (first | with_reducible exact Sub.refl | with_reducible exact Sub.nil | with_reducible refine Sub.cons (by repeat (first | with_reducible exact Ext.here | with_reducible apply Ext.there)) ?_ | with_reducible refine Sub.tail ?_)) ?_
  refine WJ_takeP 4 rfl (by kernel_rfl) (Rd_move rfl) rfl rfl rfl (hp _ _) ?_
  refine WJ_takeP 5 rfl (by kernel_rfl) (Rd_nilCheck rfl) rfl rfl rfl (hp _ _) ?_
  first | refine WJ_takeP 6 rfl (by kernel_rfl) (Rd_fieldAddr rfl fo85_1) rfl rfl rfl (hp _ _) ?_ | refine WJ_takeP 6 rfl (by kernel_rfl) (Rd_fieldAddrG rfl fo85_1) rfl rfl rfl (hp _ _) ?_
  first | refine WJ_take 7 rfl (by kernel_rfl) (Rd_load rfl tk82 (by repeat (first | with_reducible exact Has.here | with_reducible refine Has.there ?_)) (by rfl)) rfl rfl rfl (hp _ _) (by repeat (first | with_reducible exact Sub.refl | with_reducible exact Sub.nil | with_reducible refine Sub.cons (by repeat (first | with_reducible exact Ext.here | with_reducible apply Ext.there)) ?_ | with_reducible refine Sub.tail ?_)) ?_ | refine WJ_take 7 rfl (by kernel_rfl) (Rd_load_arr rfl tk82 (by repeat (first | with_reducible exact Has.here | with_reducible refine Has.there ?_)) (by rfl) (by assumption) (by rfl)) rfl rfl rfl (hp _ _) (by repeat (first | with_reducible exact Sub.refl | with_reducible exact Sub.nil | with_reducible refine Sub.cons (by repeat (first | with_reducible exact Ext.here | with_reducible apply Ext.there)) ?_ | with_reducible refine Sub.tail ?_)) ?_
  refine WJ_takeP 8 rfl (by kernel_rfl) (Rd_move rfl) rfl rfl rfl (hp _ _) ?_
  refine WJ_takeP 9 rfl (by kernel_rfl) (Rd_index _ rfl rfl ud82 sz101 rfl (by first | omega | (simp only [List.length_set, List.length_append]; omega))) rfl rfl rfl (hp _ _) ?_
  first | refine WJ_takeP 10 rfl (by kernel_rfl) (Rd_fieldAddr rfl fo101_0) rfl rfl rfl (hp _ _) ?_ | refine WJ_takeP 10 rfl (by kernel_rfl) (Rd_fieldAddrG rfl fo101_0) rfl rfl rfl (hp _ _) ?_
  first | refine WJ_take 11 rfl (by kernel_rfl) (Rd_load rfl tk3 (by repeat (first | with_reducible exact Has.here | with_reducible refine Has.there ?_)) (by rfl)) rfl rfl rfl (hp _ _) (by repeat (first | with_reducible exact Sub.refl | with_reducible exact Sub.nil | with_reducible refine Sub.cons (by repeat (first | with_reducible exact Ext.here | with_reducible apply Ext.there)) ?_ | with_reducible refine Sub.tail ?_)) ?_ | refine WJ_take 11 rfl (by kernel_rfl) (Rd_load_arr rfl tk3 (by repeat (first | with_reducible exact Has.here | with_reducible refine Has.there ?_)) (by rfl) (by assumption) (by rfl)) rfl rfl rfl (hp _ _) (by repeat (first | with_reducible exact Sub.refl | with_reducible exact Sub.nil | with_reducible refine Sub.cons (by repeat (first | with_reducible exact Ext.here | with_reducible apply Ext.there)) ?_ | with_reducible refine Sub.tail ?_)) ?_
  refine WJ_takeP 12 rfl (by kernel_rfl) (Rd_move rfl) rfl rfl rfl (hp _ _) ?_
  refine WJ_takeP 13 rfl (by kernel_rfl) (Rd_nilCheck rfl) rfl rfl rfl (hp _ _) ?_
  first | refine WJ_takeP 14 rfl (by kernel_rfl) (Rd_fieldAddr rfl fo85_2) rfl rfl rfl (hp _ _) ?_ | refine WJ_takeP 14 rfl (by kernel_rfl) (Rd_fieldAddrG rfl fo85_2) rfl rfl rfl (hp _ _) ?_
  first | refine WJ_take 15 rfl (by kernel_rfl) (Rd_load rfl tk83 (by repeat (first | with_reducible exact Has.here | with_reducible refine Has.there ?_)) (by rfl)) rfl rfl rfl (hp _ _) (by repeat (first | with_reducible exact Sub.refl | with_reducible exact Sub.nil | with_reducible refine Sub.cons (by repeat (first | with_reducible exact Ext.here | with_reducible apply Ext.there)) ?_ | with_reducible refine Sub.tail ?_)) ?_ | refine WJ_take 15 rfl (by kernel_rfl) (Rd_load_arr rfl tk83 (by repeat (first | with_reducible exact Has.here | with_reducible refine Has.there ?_)) (by rfl) (by assumption) (by rfl)) rfl rfl rfl (hp _ _) (by repeat (first | with_reducible exact Sub.refl | with_reducible exact Sub.nil | with_reducible refine Sub.cons (by repeat (first | with_reducible exact Ext.here | with_reducible apply Ext.there)) ?_ | with_reducible refine Sub.tail ?_)) ?_
  refine WJ_takeP 16 rfl (by kernel_rfl) (Rd_move rfl) rfl rfl rfl (hp _ _) ?_
  refine WJ_takeP 17 rfl (by kernel_rfl) (Rd_nilCheck rfl) rfl rfl rfl (hp _ _) ?_
  first | refine WJ_takeP 18 rfl (by kernel_rfl) (Rd_fieldAddr rfl fo85_1) rfl rfl rfl (hp _ _) ?_ | refine WJ_takeP 18 rfl (by kernel_rfl) (Rd_fieldAddrG rfl fo85_1) rfl rfl rfl (hp _ _) ?_
  first | refine WJ_take 19 rfl (by kernel_rfl) (Rd_load rfl tk82 (by repeat (first | with_reducible exact Has.here | with_reducible refine Has.there ?_)) (by rfl)) rfl rfl rfl (hp _ _) (by repeat (first | with_reducible exact Sub.refl | with_reducible exact Sub.nil | with_reducible refine Sub.cons (by repeat (first | with_reducible exact Ext.here | with_reducible apply Ext.there)) ?_ | with_reducible refine Sub.tail ?_)) ?_ | refine WJ_take 19 rfl (by kernel_rfl) (Rd_load_arr rfl tk82 (by repeat (first | with_reducible exact Has.here | with_reducible refine Has.there ?_)) (by rfl) (by assumption) (by rfl)) rfl rfl rfl (hp _ _) (by repeat (first | with_reducible exact Sub.refl | with_reducible exact Sub.nil | with_reducible refine Sub.cons (by repeat (first | with_reducible exact Ext.here | with_reducible apply Ext.there)) ?_ | with_reducible refine Sub.tail ?_)) ?_
  refine WJ_takeP 20 rfl (by kernel_rfl) (Rd_move rfl) rfl rfl rfl (hp _ _) ?_
  refine WJ_takeP 21 rfl (by kernel_rfl) (Rd_index _ rfl rfl ud82 sz101 rfl (by first | omega | (simp only [List.length_set, List.length_append]; omega))) rfl rfl rfl (hp _ _) ?_
  first | refine WJ_takeP 22 rfl (by kernel_rfl) (Rd_fieldAddr rfl fo101_0) rfl rfl rfl (hp _ _) ?_ | refine WJ_takeP 22 rfl (by kernel_rfl) (Rd_fieldAddrG rfl fo101_0) rfl rfl rfl (hp _ _) ?_
  first | refine WJ_take 23 rfl (by kernel_rfl) (Rd_load rfl tk3 (by repeat (first | with_reducible exact Has.here | with_reducible refine Has.there ?_)) (by rfl)) rfl rfl rfl (hp _ _) (by repeat (first | with_reducible exact Sub.refl | with_reducible exact Sub.nil | with_reducible refine Sub.cons (by repeat (first | with_reducible exact Ext.here | with_reducible apply Ext.there)) ?_ | with_reducible refine Sub.tail ?_)) ?_ | refine WJ_take 23 rfl (by kernel_rfl) (Rd_load_arr rfl tk3 (by repeat (first | with_reducible exact Has.here | with_reducible refine Has.there ?_)) (by rfl) (by assumption) (by rfl)) rfl rfl rfl (hp _ _) (by repeat (first | with_reducible exact Sub.refl | with_reducible exact Sub.nil | with_reducible refine Sub.cons (by repeat (first | with_reducible exact Ext.here | with_reducible apply Ext.there)) ?_ | with_reducible refine Sub.tail ?_)) ?_
  refine WJ_takeP 24 rfl (by kernel_rfl) (Rd_move rfl) rfl rfl rfl (hp _ _) ?_
  refine WJ_takeP 25 rfl (by kernel_rfl) (Rd_move rfl) rfl rfl rfl (hp _ _) ?_
  refine WJ_all (rs := [26]) (by kernel_rfl) rfl ?_
  refine WI_one ?_
  refine WI_ac rfl (Ac_mapEntry rfl rfl ud83 ud3 zv3 (by repeat (first | with_reducible exact Ext.here | with_reducible apply Ext.there))) rfl rfl rfl rfl ?_
  rintro _ _ ⟨s1, rfl, rfl⟩
  refine ⟨(fun _ => (by repeat (first | with_reducible exact Sub.refl | with_reducible exact Sub.nil | with_reducible refine Sub.cons (by repeat (first | with_reducible exact Ext.here | with_reducible apply Ext.there)) ?_ | with_reducible refine Sub.tail ?_))), ?_⟩
  refine WJ_takeP 27 rfl (by kernel_rfl) (Rd_extract rfl rfl) rfl rfl rfl (hp _ _) ?_
  refine WJ_all (rs := [28]) (by kernel_rfl) rfl ?_
  refine WI_one ?_
  refine WI_ac0 rfl (Ac_entryStore rfl rfl rfl (by repeat (first | with_reducible exact Ext.here | with_reducible apply Ext.there))) rfl rfl rfl ?_
  rintro _ _ rfl
  rw [upd_upd]
  refine ⟨(fun _ => (by repeat (first | with_reducible exact Sub.refl | with_reducible exact Sub.nil | with_reducible refine Sub.cons (by repeat (first | with_reducible exact Ext.here | with_reducible apply Ext.there)) ?_ | with_reducible refine Sub.tail ?_))), ?_⟩
  refine WJ_all (rs := [29]) (by kernel_rfl) rfl ?_
  refine WI_one ?_
  refine WI_ac rfl (Ac_mapEntry rfl rfl ud83 ud3 zv3 (by repeat (first | with_reducible exact Ext.here | with_reducible apply Ext.there))) rfl rfl rfl rfl ?_
  rintro _ _ ⟨s2, rfl, rfl⟩
  refine ⟨(fun _ => (by repeat (first | with_reducible exact Sub.refl | with_reducible exact Sub.nil | with_reducible refine Sub.cons (by repeat (first | with_reducible exact Ext.here | with_reducible apply Ext.there)) ?_ | with_reducible refine Sub.tail ?_))), ?_⟩
  refine WJ_takeP 30 rfl (by kernel_rfl) (Rd_extract rfl rfl) rfl rfl rfl (hp _ _) ?_
  refine WJ_all (rs := [31]) (by kernel_rfl) rfl ?_
  refine WI_one ?_
  refine WI_ac0 rfl (Ac_entryStore rfl rfl rfl (by repeat (first | with_reducible exact Ext.here | with_reducible apply Ext.there))) rfl rfl rfl ?_
  rintro _ _ rfl
  rw [upd_upd, atOf_swp hT hi hj]
  refine ⟨(fun _ => (by repeat (first | with_reducible exact Sub.refl | with_reducible exact Sub.nil | with_reducible refine Sub.cons (by repeat (first | with_reducible exact Ext.here | with_reducible apply Ext.there)) ?_ | with_reducible refine Sub.tail ?_))), ?_⟩
  refine WJ_done (by kernel_rfl) ?_
  exact hnorm () _ _ (Rs0 rfl) (by simp only [List.cons_append, List.nil_append]; repeat (first | with_reducible exact Sub.refl | with_reducible exact Sub.nil | with_reducible refine Sub.cons (by repeat (first | with_reducible exact Ext.here | with_reducible apply Ext.there)) ?_ | with_reducible refine Sub.tail ?_))

theorem up_ct {σ : Type} {J : σ → Asn} {lt : σ → Int → Int → Bool × σ} {lf : FuncId} {caps : List Value} (hcf : cfn Try.prog lf = true) (hless : ∀ s x y, Ct Try.prog lf ([.int .i64 x, .int .i64 y] ++ caps) [J s] (fun _ : Unit => .bool (lt s x y).1) (fun _ => [J (lt s x y).2]))
    (b len cap m made : Nat) (a : Option Nat) (rows : List (Nat × Int)) (s : σ) (i : Nat) (hi : i < len) (hT : Tk rows) (hlen : len = rows.length) (hcap : len ≤ 1000000000) :
    Ct Try.prog 50 [(.pointer (some ⟨b, 0, none⟩)), .int .i64 i] [cl b 85 [(.func (.func lf) #[] caps.toArray), sl a len cap, .map (some m), .int .i64 (made : Int)], arr a cap 2 101 itf (rows), mpI m (atOf (rows)), J s] (fun _ : Unit => .tuple #[]) (fun _ => [cl b 85 [(.func (.func lf) #[] caps.toArray), sl a len cap, .map (some m), .int .i64 (made : Int)], arr a cap 2 101 itf ((upM lt s rows i).1), mpI m (atOf ((upM lt s rows i).1)), J (upM lt s rows i).2]) := by
  refine Ct_body (n := 23) Try.func50 rfl rfl rfl fun F w0 Q hret hnorm hp => ?_
  change WC _ _ _ _ _ _ (_ :: _ :: _ :: _ :: F)
  refine WC_block ?_
  refine WC_loop (σ := σ × List (Nat × Int) × Nat) (fun ⟨s', rows', i'⟩ => [(0, (.pointer (some ⟨b, 0, none⟩))), (1, .int .i64 (i' : Int))]) (fun ⟨s', rows', i'⟩ => cl b 85 [(.func (.func lf) #[] caps.toArray), sl a len cap, .map (some m), .int .i64 (made : Int)] :: arr a cap 2 101 itf (rows') :: mpI m (atOf (rows')) :: J s' :: F) (fun ⟨s', rows', i'⟩ => Tk rows' ∧ rows'.length = len ∧ i' < len ∧ upM lt s' rows' i' = upM lt s rows i) (fun ⟨s', rows', i'⟩ => i') ⟨s, rows, i⟩ ?_ ?_ ?_ ?_
  · exact ⟨hT, hlen.symm, hi, rfl⟩
  · exact (Wk.cons (by first | rfl | (simp; done) | (simp; omega)) (Wk.cons (by first | rfl | (simp; done) | (simp; omega)) Wk.nil))
  · repeat (first | with_reducible exact Sub.refl | with_reducible exact Sub.nil | with_reducible refine Sub.cons (by repeat (first | with_reducible exact Ext.here | with_reducible apply Ext.there)) ?_)
  · rintro ⟨s', rows', i'⟩ hφ K1 hK1
    dsimp only at *
    obtain ⟨hT', hl', hi', hu⟩ := hφ
    refine WC_seq fun K2 hK2 => ?_
    refine WC_seq fun K3 hK3 => ?_
    refine WC_region ?_
    refine WL_rd (Rd_move rfl) rfl rfl rfl ?_
    refine WL_rd (Rd_gtr rfl rfl) rfl rfl rfl ?_
    refine WL_rd (Rd_move rfl) rfl rfl rfl ?_
    refine WL_bool 6 rfl (fun hg4 => ?_) (fun hg4 => ?_)
    · try simp only [decide_eq_true_eq, decide_eq_false_iff_not, Bool.not_eq_true', Bool.not_eq_false', Bool.not_eq_true, Bool.not_eq_false, Int.not_lt, Int.not_le] at hg4
      obtain ⟨x, hx⟩ : ∃ x, rows'[i']? = some x := ⟨_, List.getElem?_eq_getElem (by omega)⟩
      obtain ⟨y, hy⟩ : ∃ y, rows'[(i' - 1) / 2]? = some y := ⟨_, List.getElem?_eq_getElem (by omega)⟩
      refine WL_rd (Rd_move rfl) rfl rfl rfl ?_
      refine WL_rd (Rd_move rfl) rfl rfl rfl ?_
      refine WL_rd (Rd_move rfl) rfl rfl rfl ?_
      refine WL_rd (Rd_sub' (r := ((i' - 1 : Nat) : Int)) rfl rfl (wr64 (by omega) (by omega) (by omega))) rfl rfl rfl ?_
      refine WL_rd (Rd_quo' (r := (((i' - 1) / 2 : Nat) : Int)) rfl rfl (by decide) (wr64r (tdiv_nat _ 2) (by omega) (by omega))) rfl rfl rfl ?_
      refine WL_ac (Ac_call cf64 rfl (ahead_ct hcf hless b len cap m made a rows' s' i' ((i' - 1) / 2) x y hx hy hl'.symm hcap) (Gv.cons (by repeat (first | with_reducible exact Ext.here | with_reducible apply Ext.there)) (Gv.cons (by repeat (first | with_reducible exact Ext.here | with_reducible apply Ext.there)) (Gv.cons (by repeat (first | with_reducible exact Ext.here | with_reducible apply Ext.there)) Gv.nil)))) rfl rfl rfl ?_
      rintro _ _ ⟨⟨⟩, rfl, hA⟩
      simp only [List.cons_append, List.nil_append] at hA
      subst hA
      refine WL_rd (Rd_pickT rfl rfl) rfl rfl rfl ?_
      refine WL_nil ?_
      refine Ps_next hK3 ?_
      refine WC_cond rfl (fun hc13 => ?_) (fun hc13 => ?_)
      · try simp only [decide_eq_true_eq, decide_eq_false_iff_not, Bool.not_eq_true', Bool.not_eq_false', Bool.not_eq_true, Bool.not_eq_false, Int.not_lt, Int.not_le] at hc13
        refine WC_skip ?_
        refine Ps_next hK2 ?_
        refine WC_block ?_
        refine WC_seq fun K6 hK6 => ?_
        refine WC_region ?_
        refine WL_rd (Rd_move rfl) rfl rfl rfl ?_
        refine WL_rd (Rd_move rfl) rfl rfl rfl ?_
        refine WL_rd (Rd_move rfl) rfl rfl rfl ?_
        refine WL_rd (Rd_sub' (r := ((i' - 1 : Nat) : Int)) rfl rfl (wr64 (by omega) (by omega) (by omega))) rfl rfl rfl ?_
        refine WL_rd (Rd_quo' (r := (((i' - 1) / 2 : Nat) : Int)) rfl rfl (by decide) (wr64r (tdiv_nat _ 2) (by omega) (by omega))) rfl rfl rfl ?_
        refine WL_ac (Ac_call cf65 rfl (swap_ct b len cap m made a _ rows' i' ((i' - 1) / 2) x y hx hy hT' hl'.symm hcap) (Gv.cons (by repeat (first | with_reducible exact Ext.here | with_reducible apply Ext.there)) (Gv.cons (by repeat (first | with_reducible exact Ext.here | with_reducible apply Ext.there)) (Gv.cons (by repeat (first | with_reducible exact Ext.here | with_reducible apply Ext.there)) Gv.nil)))) rfl rfl rfl ?_
        rintro _ _ ⟨⟨⟩, rfl, hA⟩
        simp only [List.cons_append, List.nil_append] at hA
        subst hA
        refine WL_nil ?_
        refine Ps_next hK6 ?_
        refine WC_region ?_
        refine WL_rd (Rd_move rfl) rfl rfl rfl ?_
        refine WL_rd (Rd_sub' (r := ((i' - 1 : Nat) : Int)) rfl rfl (wr64 (by omega) (by omega) (by omega))) rfl rfl rfl ?_
        refine WL_rd (Rd_quo' (r := (((i' - 1) / 2 : Nat) : Int)) rfl rfl (by decide) (wr64r (tdiv_nat _ 2) (by omega) (by omega))) rfl rfl rfl ?_
        refine WL_rd (Rd_assign rfl) rfl rfl rfl ?_
        refine WL_nil ?_
        refine Ps_wk ((Wk.cons (by first | rfl | (simp; done) | (simp; omega)) (Wk.cons (by first | rfl | (simp; done) | (simp; omega)) Wk.nil))) (by first | with_reducible exact Sub.refl | (dsimp only; repeat (first | with_reducible exact Sub.refl | with_reducible exact Sub.nil | with_reducible refine Sub.cons (by repeat (first | with_reducible exact Ext.here | with_reducible apply Ext.there)) ?_ | with_reducible refine Sub.tail ?_))) (hK1 ⟨(ahM lt s' x y).2, swp rows' i' ((i' - 1) / 2), (i' - 1) / 2⟩ (⟨Tk_perm (swp_perm _ _) hT', by rw [swp_len]; exact hl', by dsimp only; omega, by rw [← hu, upM_step lt s' (by omega) hx hy, if_pos hc13]⟩) (by dsimp only; omega))
      · try simp only [decide_eq_true_eq, decide_eq_false_iff_not, Bool.not_eq_true', Bool.not_eq_false', Bool.not_eq_true, Bool.not_eq_false, Int.not_lt, Int.not_le] at hc13
        rw [← hu, upM_step lt s' (by omega) hx hy, if_neg (by simp [hc13])] at hnorm
        refine WC_exit ?_
        exact hnorm () _ _ (Rs0 rfl) (by simp only [List.cons_append, List.nil_append]; repeat (first | with_reducible exact Sub.refl | with_reducible exact Sub.nil | with_reducible refine Sub.cons (by repeat (first | with_reducible exact Ext.here | with_reducible apply Ext.there)) ?_ | with_reducible refine Sub.tail ?_))
    · try simp only [decide_eq_true_eq, decide_eq_false_iff_not, Bool.not_eq_true', Bool.not_eq_false', Bool.not_eq_true, Bool.not_eq_false, Int.not_lt, Int.not_le] at hg4
      have h0 : i' = 0 := by omega
      subst h0
      rw [← hu, upM_zero] at hnorm
      refine WL_skip rfl rfl rfl ?_
      refine WL_skip rfl rfl rfl ?_
      refine WL_skip rfl rfl rfl ?_
      refine WL_skip rfl rfl rfl ?_
      refine WL_skip rfl rfl rfl ?_
      refine WL_skip rfl rfl rfl ?_
      refine WL_rd (Rd_pickF rfl rfl) rfl rfl rfl ?_
      refine WL_nil ?_
      refine Ps_next hK3 ?_
      refine WC_condF rfl ?_
      refine WC_exit ?_
      exact hnorm () _ _ (Rs0 rfl) (by simp only [List.cons_append, List.nil_append]; repeat (first | with_reducible exact Sub.refl | with_reducible exact Sub.nil | with_reducible refine Sub.cons (by repeat (first | with_reducible exact Ext.here | with_reducible apply Ext.there)) ?_ | with_reducible refine Sub.tail ?_))

theorem down_ct {σ : Type} {J : σ → Asn} {lt : σ → Int → Int → Bool × σ} {lf : FuncId} {caps : List Value} (hcf : cfn Try.prog lf = true) (hless : ∀ s x y, Ct Try.prog lf ([.int .i64 x, .int .i64 y] ++ caps) [J s] (fun _ : Unit => .bool (lt s x y).1) (fun _ => [J (lt s x y).2]))
    (b len cap m made : Nat) (a : Option Nat) (rows : List (Nat × Int)) (s : σ) (i : Nat) (hi : i < len) (hT : Tk rows) (hlen : len = rows.length) (hcap : len ≤ 1000000000) :
    Ct Try.prog 66 [(.pointer (some ⟨b, 0, none⟩)), .int .i64 i] [cl b 85 [(.func (.func lf) #[] caps.toArray), sl a len cap, .map (some m), .int .i64 (made : Int)], arr a cap 2 101 itf (rows), mpI m (atOf (rows)), J s] (fun _ : Unit => .tuple #[]) (fun _ => [cl b 85 [(.func (.func lf) #[] caps.toArray), sl a len cap, .map (some m), .int .i64 (made : Int)], arr a cap 2 101 itf ((downM lt s rows i).1), mpI m (atOf ((downM lt s rows i).1)), J (downM lt s rows i).2]) := by
  refine Ct_body (n := 41) Try.func66 rfl rfl rfl fun F w0 Q hret hnorm hp => ?_
  change WC _ _ _ _ _ _ (_ :: _ :: _ :: _ :: F)
  refine WC_block ?_
  refine WC_loop (σ := σ × List (Nat × Int) × Nat) (fun ⟨s', rows', i'⟩ => [(0, (.pointer (some ⟨b, 0, none⟩))), (1, .int .i64 (i' : Int))]) (fun ⟨s', rows', i'⟩ => cl b 85 [(.func (.func lf) #[] caps.toArray), sl a len cap, .map (some m), .int .i64 (made : Int)] :: arr a cap 2 101 itf (rows') :: mpI m (atOf (rows')) :: J s' :: F) (fun ⟨s', rows', i'⟩ => Tk rows' ∧ rows'.length = len ∧ i' < len ∧ downM lt s' rows' i' = downM lt s rows i) (fun ⟨s', rows', i'⟩ => len - i') ⟨s, rows, i⟩ ?_ ?_ ?_ ?_
  · exact ⟨hT, hlen.symm, hi, rfl⟩
  · exact (Wk.cons (by first | rfl | (simp; done) | (simp; omega)) (Wk.cons (by first | rfl | (simp; done) | (simp; omega)) Wk.nil))
  · repeat (first | with_reducible exact Sub.refl | with_reducible exact Sub.nil | with_reducible refine Sub.cons (by repeat (first | with_reducible exact Ext.here | with_reducible apply Ext.there)) ?_)
  · rintro ⟨s', rows', i'⟩ hφ K1 hK1
    dsimp only at *
    obtain ⟨hT', hl', hi', hu⟩ := hφ
    refine WC_block ?_
    refine WC_seq fun K2 hK2 => ?_
    refine WC_region ?_
    refine WL_rd (Rd_move rfl) rfl rfl rfl ?_
    refine WL_rd (Rd_assign rfl) rfl rfl rfl ?_
    refine WL_nil ?_
    refine Ps_next hK2 ?_
    refine WC_seq fun K3 hK3 => ?_
    refine WC_seq fun K4 hK4 => ?_
    refine WC_region ?_
    refine WL_rd (Rd_move rfl) rfl rfl rfl ?_
    first | refine WL_rd (Rd_mul' rfl rfl (wr64 rfl (by omega) (by omega))) rfl rfl rfl ?_ | refine WL_rd (Rd_mul rfl rfl) rfl rfl rfl ?_
    first | refine WL_rd (Rd_add' rfl rfl (wr64 rfl (by omega) (by omega))) rfl rfl rfl ?_ | refine WL_rd (Rd_add rfl rfl) rfl rfl rfl ?_
    refine WL_rd (Rd_move rfl) rfl rfl rfl ?_
    first | refine WL_rd (Rd_mul' rfl rfl (wr64 rfl (by omega) (by omega))) rfl rfl rfl ?_ | refine WL_rd (Rd_mul rfl rfl) rfl rfl rfl ?_
    first | refine WL_rd (Rd_add' rfl rfl (wr64 rfl (by omega) (by omega))) rfl rfl rfl ?_ | refine WL_rd (Rd_add rfl rfl) rfl rfl rfl ?_
    refine WL_rd (Rd_build pls110 rfl (by simp only [fillL, setAt, List.getElem?_cons_zero, List.getElem?_cons_succ, List.length_cons, List.length_nil, Value.cells, List.set_cons_zero, List.set_cons_succ]; rfl)) rfl rfl rfl ?_
    refine WL_rd (Rd_move rfl) rfl rfl rfl ?_
    refine WL_nil ?_
    refine Ps_next hK4 ?_
    refine WC_block ?_
    refine WC_loop (σ := σ × Nat × Nat) (fun ⟨s2, best, k⟩ => [(0, (.pointer (some ⟨b, 0, none⟩))), (1, .int .i64 (i' : Int)), (4, .int .i64 (best : Int)), (14, .agg [.int .i64 (2 * (i' : Int) + 1), .int .i64 (2 * (i' : Int) + 2)].toArray), (15, .int .i64 (k : Int))]) (fun ⟨s2, best, k⟩ => cl b 85 [(.func (.func lf) #[] caps.toArray), sl a len cap, .map (some m), .int .i64 (made : Int)] :: arr a cap 2 101 itf (rows') :: mpI m (atOf (rows')) :: J s2 :: F) (fun ⟨s2, best, k⟩ => k ≤ 2 ∧ best < len ∧ remM lt s2 rows' i' best k = bestM lt s' rows' i') (fun ⟨s2, best, k⟩ => 2 - k) ⟨s', i', 0⟩ ?_ ?_ ?_ ?_
    · exact ⟨by omega, hi', rfl⟩
    · exact (Wk.cons (by first | rfl | (simp; done) | (simp; omega)) (Wk.cons (by first | rfl | (simp; done) | (simp; omega)) (Wk.cons (by first | rfl | (simp; done) | (simp; omega)) (Wk.cons (by first | rfl | (simp; done) | (simp; omega)) (Wk.cons (by first | rfl | (simp; done) | (simp; omega)) Wk.nil)))))
    · repeat (first | with_reducible exact Sub.refl | with_reducible exact Sub.nil | with_reducible refine Sub.cons (by repeat (first | with_reducible exact Ext.here | with_reducible apply Ext.there)) ?_)
    · rintro ⟨s2, best, k⟩ hψ K5 hK5
      dsimp only at *
      obtain ⟨hk2, hbl, hr⟩ := hψ
      refine WC_seq fun K6 hK6 => ?_
      refine WC_region ?_
      refine WL_rd (Rd_lss rfl rfl) rfl rfl rfl ?_
      refine WL_nil ?_
      refine Ps_next hK6 ?_
      refine WC_seq fun K7 hK7 => ?_
      refine WC_cond rfl (fun hc16 => ?_) (fun hc16 => ?_)
      · try simp only [decide_eq_true_eq, decide_eq_false_iff_not, Bool.not_eq_true', Bool.not_eq_false', Bool.not_eq_true, Bool.not_eq_false, Int.not_lt, Int.not_le] at hc16
        have hk : k < 2 := by omega
        refine WC_skip ?_
        refine Ps_next hK7 ?_
        refine WC_seq fun K9 hK9 => ?_
        refine WC_block ?_
        refine WC_seq fun K10 hK10 => ?_
        refine WC_region ?_
        refine WL_rd (Rd_indexAgg (v := .int .i64 ((2 * i' + 1 + k : Nat) : Int)) k rfl rfl ud110 tk3 rfl (by omega) sz3 (by rcases (show k = 0 ∨ k = 1 from by omega) with h | h <;> subst h <;> simp only [List.getElem?_cons_zero, List.getElem?_cons_succ, Option.some.injEq, Value.int.injEq, true_and] <;> omega)) rfl rfl rfl ?_
        refine WL_rd (Rd_assign rfl) rfl rfl rfl ?_
        refine WL_nil ?_
        refine Ps_next hK10 ?_
        refine WC_seq fun K11 hK11 => ?_
        refine WC_region ?_
        refine WL_rd (Rd_move rfl) rfl rfl rfl ?_
        refine WL_rd (Rd_move rfl) rfl rfl rfl ?_
        refine WL_rd (Rd_nilCheck rfl) rfl rfl rfl ?_
        first | refine WL_rd (Rd_fieldAddr rfl fo85_1) rfl rfl rfl ?_ | refine WL_rd (Rd_fieldAddrG rfl fo85_1) rfl rfl rfl ?_
        first | refine WL_rd (Rd_load rfl tk82 (by repeat (first | with_reducible exact Has.here | with_reducible refine Has.there ?_)) (by rfl)) rfl rfl rfl ?_ | refine WL_rd (Rd_load_arr rfl tk82 (by repeat (first | with_reducible exact Has.here | with_reducible refine Has.there ?_)) (by rfl) (by assumption) (by rfl)) rfl rfl rfl ?_
        refine WL_rd (Rd_len rfl rfl ud82) rfl rfl rfl ?_
        refine WL_rd (Rd_lss rfl rfl) rfl rfl rfl ?_
        refine WL_rd (Rd_move rfl) rfl rfl rfl ?_
        refine WL_bool 25 rfl (fun hg12 => ?_) (fun hg12 => ?_)
        · try simp only [decide_eq_true_eq, decide_eq_false_iff_not, Bool.not_eq_true', Bool.not_eq_false', Bool.not_eq_true, Bool.not_eq_false, Int.not_lt, Int.not_le] at hg12
          obtain ⟨x, hx⟩ : ∃ x, rows'[2 * i' + 1 + k]? = some x := ⟨_, List.getElem?_eq_getElem (by omega)⟩
          obtain ⟨y, hy⟩ : ∃ y, rows'[best]? = some y := ⟨_, List.getElem?_eq_getElem (by omega)⟩
          refine WL_rd (Rd_move rfl) rfl rfl rfl ?_
          refine WL_rd (Rd_move rfl) rfl rfl rfl ?_
          refine WL_rd (Rd_move rfl) rfl rfl rfl ?_
          refine WL_ac (Ac_call cf64 rfl (ahead_ct hcf hless b len cap m made a rows' s2 (2 * i' + 1 + k) best x y hx hy hl'.symm hcap) (Gv.cons (by repeat (first | with_reducible exact Ext.here | with_reducible apply Ext.there)) (Gv.cons (by repeat (first | with_reducible exact Ext.here | with_reducible apply Ext.there)) (Gv.cons (by repeat (first | with_reducible exact Ext.here | with_reducible apply Ext.there)) Gv.nil)))) rfl rfl rfl ?_
          rintro _ _ ⟨⟨⟩, rfl, hA⟩
          simp only [List.cons_append, List.nil_append] at hA
          subst hA
          refine WL_rd (Rd_pickT rfl rfl) rfl rfl rfl ?_
          refine WL_nil ?_
          refine Ps_next hK11 ?_
          refine WC_cond rfl (fun hc30 => ?_) (fun hc30 => ?_)
          · try simp only [decide_eq_true_eq, decide_eq_false_iff_not, Bool.not_eq_true', Bool.not_eq_false', Bool.not_eq_true, Bool.not_eq_false, Int.not_lt, Int.not_le] at hc30
            refine WC_region ?_
            refine WL_rd (Rd_move rfl) rfl rfl rfl ?_
            refine WL_rd (Rd_assign rfl) rfl rfl rfl ?_
            refine WL_nil ?_
            refine Ps_next hK9 ?_
            refine WC_region ?_
            first | refine WL_rd (Rd_add' rfl rfl (wr64 rfl (by omega) (by omega))) rfl rfl rfl ?_ | refine WL_rd (Rd_add rfl rfl) rfl rfl rfl ?_
            refine WL_rd (Rd_move rfl) rfl rfl rfl ?_
            refine WL_nil ?_
            first | refine Ps_wk ((Wk.cons (by first | rfl | (simp; done) | (simp; omega)) (Wk.cons (by first | rfl | (simp; done) | (simp; omega)) (Wk.cons (by first | rfl | (simp; done) | (simp; omega)) (Wk.cons (by first | rfl | (simp; done) | (simp; omega)) (Wk.cons (by first | rfl | (simp; done) | (simp; omega)) Wk.nil)))))) (by first | with_reducible exact Sub.refl | (dsimp only; repeat (first | with_reducible exact Sub.refl | with_reducible exact Sub.nil | with_reducible refine Sub.cons (by repeat (first | with_reducible exact Ext.here | with_reducible apply Ext.there)) ?_ | with_reducible refine Sub.tail ?_))) (hK5 ⟨s2, best, k + 1⟩ (⟨by dsimp only; omega, hbl, by rw [← hr, remM_step lt s2 rows' i' best hk, pickM_no _ _ (by omega)]⟩) (by dsimp only; omega)) | refine Ps_wk ((Wk.cons (by first | rfl | (simp; done) | (simp; omega)) (Wk.cons (by first | rfl | (simp; done) | (simp; omega)) (Wk.cons (by first | rfl | (simp; done) | (simp; omega)) (Wk.cons (by first | rfl | (simp; done) | (simp; omega)) (Wk.cons (by first | rfl | (simp; done) | (simp; omega)) Wk.nil)))))) (by first | with_reducible exact Sub.refl | (dsimp only; repeat (first | with_reducible exact Sub.refl | with_reducible exact Sub.nil | with_reducible refine Sub.cons (by repeat (first | with_reducible exact Ext.here | with_reducible apply Ext.there)) ?_ | with_reducible refine Sub.tail ?_))) (hK5 ⟨(ahM lt s2 x y).2, 2 * i' + 1 + k, k + 1⟩ (⟨by dsimp only; omega, by dsimp only; omega, by rw [← hr, remM_step lt s2 rows' i' best hk, pickM_yes _ _ hx hy, if_pos hc30]⟩) (by dsimp only; omega)) | refine Ps_wk ((Wk.cons (by first | rfl | (simp; done) | (simp; omega)) (Wk.cons (by first | rfl | (simp; done) | (simp; omega)) (Wk.cons (by first | rfl | (simp; done) | (simp; omega)) (Wk.cons (by first | rfl | (simp; done) | (simp; omega)) (Wk.cons (by first | rfl | (simp; done) | (simp; omega)) Wk.nil)))))) (by first | with_reducible exact Sub.refl | (dsimp only; repeat (first | with_reducible exact Sub.refl | with_reducible exact Sub.nil | with_reducible refine Sub.cons (by repeat (first | with_reducible exact Ext.here | with_reducible apply Ext.there)) ?_ | with_reducible refine Sub.tail ?_))) (hK5 ⟨(ahM lt s2 x y).2, best, k + 1⟩ (⟨by dsimp only; omega, hbl, by rw [← hr, remM_step lt s2 rows' i' best hk, pickM_yes _ _ hx hy, if_neg (by simp [hc30])]⟩) (by dsimp only; omega))
          · try simp only [decide_eq_true_eq, decide_eq_false_iff_not, Bool.not_eq_true', Bool.not_eq_false', Bool.not_eq_true, Bool.not_eq_false, Int.not_lt, Int.not_le] at hc30
            refine WC_skip ?_
            refine Ps_next hK9 ?_
            refine WC_region ?_
            first | refine WL_rd (Rd_add' rfl rfl (wr64 rfl (by omega) (by omega))) rfl rfl rfl ?_ | refine WL_rd (Rd_add rfl rfl) rfl rfl rfl ?_
            refine WL_rd (Rd_move rfl) rfl rfl rfl ?_
            refine WL_nil ?_
            first | refine Ps_wk ((Wk.cons (by first | rfl | (simp; done) | (simp; omega)) (Wk.cons (by first | rfl | (simp; done) | (simp; omega)) (Wk.cons (by first | rfl | (simp; done) | (simp; omega)) (Wk.cons (by first | rfl | (simp; done) | (simp; omega)) (Wk.cons (by first | rfl | (simp; done) | (simp; omega)) Wk.nil)))))) (by first | with_reducible exact Sub.refl | (dsimp only; repeat (first | with_reducible exact Sub.refl | with_reducible exact Sub.nil | with_reducible refine Sub.cons (by repeat (first | with_reducible exact Ext.here | with_reducible apply Ext.there)) ?_ | with_reducible refine Sub.tail ?_))) (hK5 ⟨s2, best, k + 1⟩ (⟨by dsimp only; omega, hbl, by rw [← hr, remM_step lt s2 rows' i' best hk, pickM_no _ _ (by omega)]⟩) (by dsimp only; omega)) | refine Ps_wk ((Wk.cons (by first | rfl | (simp; done) | (simp; omega)) (Wk.cons (by first | rfl | (simp; done) | (simp; omega)) (Wk.cons (by first | rfl | (simp; done) | (simp; omega)) (Wk.cons (by first | rfl | (simp; done) | (simp; omega)) (Wk.cons (by first | rfl | (simp; done) | (simp; omega)) Wk.nil)))))) (by first | with_reducible exact Sub.refl | (dsimp only; repeat (first | with_reducible exact Sub.refl | with_reducible exact Sub.nil | with_reducible refine Sub.cons (by repeat (first | with_reducible exact Ext.here | with_reducible apply Ext.there)) ?_ | with_reducible refine Sub.tail ?_))) (hK5 ⟨(ahM lt s2 x y).2, 2 * i' + 1 + k, k + 1⟩ (⟨by dsimp only; omega, by dsimp only; omega, by rw [← hr, remM_step lt s2 rows' i' best hk, pickM_yes _ _ hx hy, if_pos hc30]⟩) (by dsimp only; omega)) | refine Ps_wk ((Wk.cons (by first | rfl | (simp; done) | (simp; omega)) (Wk.cons (by first | rfl | (simp; done) | (simp; omega)) (Wk.cons (by first | rfl | (simp; done) | (simp; omega)) (Wk.cons (by first | rfl | (simp; done) | (simp; omega)) (Wk.cons (by first | rfl | (simp; done) | (simp; omega)) Wk.nil)))))) (by first | with_reducible exact Sub.refl | (dsimp only; repeat (first | with_reducible exact Sub.refl | with_reducible exact Sub.nil | with_reducible refine Sub.cons (by repeat (first | with_reducible exact Ext.here | with_reducible apply Ext.there)) ?_ | with_reducible refine Sub.tail ?_))) (hK5 ⟨(ahM lt s2 x y).2, best, k + 1⟩ (⟨by dsimp only; omega, hbl, by rw [← hr, remM_step lt s2 rows' i' best hk, pickM_yes _ _ hx hy, if_neg (by simp [hc30])]⟩) (by dsimp only; omega))
        · try simp only [decide_eq_true_eq, decide_eq_false_iff_not, Bool.not_eq_true', Bool.not_eq_false', Bool.not_eq_true, Bool.not_eq_false, Int.not_lt, Int.not_le] at hg12
          refine WL_skip rfl rfl rfl ?_
          refine WL_skip rfl rfl rfl ?_
          refine WL_skip rfl rfl rfl ?_
          refine WL_skip rfl rfl rfl ?_
          refine WL_rd (Rd_pickF rfl rfl) rfl rfl rfl ?_
          refine WL_nil ?_
          refine Ps_next hK11 ?_
          refine WC_condF rfl ?_
          refine WC_skip ?_
          refine Ps_next hK9 ?_
          refine WC_region ?_
          first | refine WL_rd (Rd_add' rfl rfl (wr64 rfl (by omega) (by omega))) rfl rfl rfl ?_ | refine WL_rd (Rd_add rfl rfl) rfl rfl rfl ?_
          refine WL_rd (Rd_move rfl) rfl rfl rfl ?_
          refine WL_nil ?_
          first | refine Ps_wk ((Wk.cons (by first | rfl | (simp; done) | (simp; omega)) (Wk.cons (by first | rfl | (simp; done) | (simp; omega)) (Wk.cons (by first | rfl | (simp; done) | (simp; omega)) (Wk.cons (by first | rfl | (simp; done) | (simp; omega)) (Wk.cons (by first | rfl | (simp; done) | (simp; omega)) Wk.nil)))))) (by first | with_reducible exact Sub.refl | (dsimp only; repeat (first | with_reducible exact Sub.refl | with_reducible exact Sub.nil | with_reducible refine Sub.cons (by repeat (first | with_reducible exact Ext.here | with_reducible apply Ext.there)) ?_ | with_reducible refine Sub.tail ?_))) (hK5 ⟨s2, best, k + 1⟩ (⟨by dsimp only; omega, hbl, by rw [← hr, remM_step lt s2 rows' i' best hk, pickM_no _ _ (by omega)]⟩) (by dsimp only; omega)) | refine Ps_wk ((Wk.cons (by first | rfl | (simp; done) | (simp; omega)) (Wk.cons (by first | rfl | (simp; done) | (simp; omega)) (Wk.cons (by first | rfl | (simp; done) | (simp; omega)) (Wk.cons (by first | rfl | (simp; done) | (simp; omega)) (Wk.cons (by first | rfl | (simp; done) | (simp; omega)) Wk.nil)))))) (by first | with_reducible exact Sub.refl | (dsimp only; repeat (first | with_reducible exact Sub.refl | with_reducible exact Sub.nil | with_reducible refine Sub.cons (by repeat (first | with_reducible exact Ext.here | with_reducible apply Ext.there)) ?_ | with_reducible refine Sub.tail ?_))) (hK5 ⟨(ahM lt s2 x y).2, 2 * i' + 1 + k, k + 1⟩ (⟨by dsimp only; omega, by dsimp only; omega, by rw [← hr, remM_step lt s2 rows' i' best hk, pickM_yes _ _ hx hy, if_pos hc30]⟩) (by dsimp only; omega)) | refine Ps_wk ((Wk.cons (by first | rfl | (simp; done) | (simp; omega)) (Wk.cons (by first | rfl | (simp; done) | (simp; omega)) (Wk.cons (by first | rfl | (simp; done) | (simp; omega)) (Wk.cons (by first | rfl | (simp; done) | (simp; omega)) (Wk.cons (by first | rfl | (simp; done) | (simp; omega)) Wk.nil)))))) (by first | with_reducible exact Sub.refl | (dsimp only; repeat (first | with_reducible exact Sub.refl | with_reducible exact Sub.nil | with_reducible refine Sub.cons (by repeat (first | with_reducible exact Ext.here | with_reducible apply Ext.there)) ?_ | with_reducible refine Sub.tail ?_))) (hK5 ⟨(ahM lt s2 x y).2, best, k + 1⟩ (⟨by dsimp only; omega, hbl, by rw [← hr, remM_step lt s2 rows' i' best hk, pickM_yes _ _ hx hy, if_neg (by simp [hc30])]⟩) (by dsimp only; omega))
      · try simp only [decide_eq_true_eq, decide_eq_false_iff_not, Bool.not_eq_true', Bool.not_eq_false', Bool.not_eq_true, Bool.not_eq_false, Int.not_lt, Int.not_le] at hc16
        have hke : k = 2 := by omega
        subst hke
        have hr' : bestM lt s' rows' i' = (best, s2) := hr.symm
        refine WC_exit ?_
        refine Ps_next hK3 ?_
        refine WC_seq fun K14 hK14 => ?_
        refine WC_seq fun K15 hK15 => ?_
        refine WC_region ?_
        refine WL_rd (Rd_move rfl) rfl rfl rfl ?_
        refine WL_rd (Rd_move rfl) rfl rfl rfl ?_
        refine WL_rd (Rd_eql rfl rfl) rfl rfl rfl ?_
        refine WL_nil ?_
        refine Ps_next hK15 ?_
        refine WC_cond rfl (fun hc35 => ?_) (fun hc35 => ?_)
        · try simp only [decide_eq_true_eq, decide_eq_false_iff_not, Bool.not_eq_true', Bool.not_eq_false', Bool.not_eq_true, Bool.not_eq_false, Int.not_lt, Int.not_le] at hc35
          have hbi : best = i' := by omega
          rw [← hu, downM_stop (by rw [hr']; exact hbi), hr'] at hret
          refine WC_ret ?_
          exact hret () _ _ (Rs0 rfl) (by simp only [List.cons_append, List.nil_append]; repeat (first | with_reducible exact Sub.refl | with_reducible exact Sub.nil | with_reducible refine Sub.cons (by repeat (first | with_reducible exact Ext.here | with_reducible apply Ext.there)) ?_ | with_reducible refine Sub.tail ?_))
        · try simp only [decide_eq_true_eq, decide_eq_false_iff_not, Bool.not_eq_true', Bool.not_eq_false', Bool.not_eq_true, Bool.not_eq_false, Int.not_lt, Int.not_le] at hc35
          have hne : (bestM lt s' rows' i').1 ≠ i' := by rw [hr']; dsimp only; omega
          have hbo := bestM_or lt s' rows' i'
          rw [hr'] at hbo
          dsimp only at hbo
          obtain ⟨x, hx⟩ : ∃ x, rows'[i']? = some x := ⟨_, List.getElem?_eq_getElem (by omega)⟩
          obtain ⟨y, hy⟩ : ∃ y, rows'[best]? = some y := ⟨_, List.getElem?_eq_getElem (by omega)⟩
          refine WC_skip ?_
          refine Ps_next hK14 ?_
          refine WC_seq fun K17 hK17 => ?_
          refine WC_region ?_
          refine WL_rd (Rd_move rfl) rfl rfl rfl ?_
          refine WL_rd (Rd_move rfl) rfl rfl rfl ?_
          refine WL_rd (Rd_move rfl) rfl rfl rfl ?_
          refine WL_ac (Ac_call cf65 rfl (swap_ct b len cap m made a _ rows' i' best x y hx hy hT' hl'.symm hcap) (Gv.cons (by repeat (first | with_reducible exact Ext.here | with_reducible apply Ext.there)) (Gv.cons (by repeat (first | with_reducible exact Ext.here | with_reducible apply Ext.there)) (Gv.cons (by repeat (first | with_reducible exact Ext.here | with_reducible apply Ext.there)) Gv.nil)))) rfl rfl rfl ?_
          rintro _ _ ⟨⟨⟩, rfl, hA⟩
          simp only [List.cons_append, List.nil_append] at hA
          subst hA
          refine WL_nil ?_
          refine Ps_next hK17 ?_
          refine WC_region ?_
          refine WL_rd (Rd_move rfl) rfl rfl rfl ?_
          refine WL_rd (Rd_assign rfl) rfl rfl rfl ?_
          refine WL_nil ?_
          refine Ps_wk ((Wk.cons (by first | rfl | (simp; done) | (simp; omega)) (Wk.cons (by first | rfl | (simp; done) | (simp; omega)) Wk.nil))) (by first | with_reducible exact Sub.refl | (dsimp only; repeat (first | with_reducible exact Sub.refl | with_reducible exact Sub.nil | with_reducible refine Sub.cons (by repeat (first | with_reducible exact Ext.here | with_reducible apply Ext.there)) ?_ | with_reducible refine Sub.tail ?_))) (hK1 ⟨s2, swp rows' i' best, best⟩ (⟨Tk_perm (swp_perm _ _) hT', by rw [swp_len]; exact hl', hbl, by rw [← hu, downM_go hne, hr']⟩) (by dsimp only; omega))

theorem push_ct {σ : Type} {J : σ → Asn} {lt : σ → Int → Int → Bool × σ} {lf : FuncId} {caps : List Value} (hcf : cfn Try.prog lf = true) (hless : ∀ s x y, Ct Try.prog lf ([.int .i64 x, .int .i64 y] ++ caps) [J s] (fun _ : Unit => .bool (lt s x y).1) (fun _ => [J (lt s x y).2]))
    (b len cap m made : Nat) (a : Option Nat) (rows : List (Nat × Int)) (s : σ) (x : Int) (hT : Tk rows) (hM : ∀ r ∈ rows, r.1 < made) (hlen : len = rows.length) (hcap : made ≤ 1000000 ∧ len ≤ 1000000) :
    Ct Try.prog 25 [(.pointer (some ⟨b, 0, none⟩)), .int .i64 x] [cl b 85 [(.func (.func lf) #[] caps.toArray), sl a len cap, .map (some m), .int .i64 (made : Int)], arr a cap 2 101 itf (rows), mpI m (atOf (rows)), J s] (fun _ : Option Nat × Nat => .tuple #[.int .i64 (made : Int), .int .i64 0]) (fun g => [cl b 85 [(.func (.func lf) #[] caps.toArray), sl g.1 (rows ++ [(made, x)]).length g.2, .map (some m), .int .i64 ((made + 1 : Nat) : Int)], arr g.1 g.2 2 101 itf ((upM lt s (rows ++ [(made, x)]) rows.length).1), mpI m (atOf ((upM lt s (rows ++ [(made, x)]) rows.length).1)), J (upM lt s (rows ++ [(made, x)]) rows.length).2]) := by
  refine Ct_body (n := 53) Try.func25 rfl rfl rfl fun F w0 Q hret hnorm hp => ?_
  change WC _ _ _ _ _ _ (_ :: _ :: _ :: _ :: F)
  have hfr : ∀ r ∈ rows, r.1 ≠ made := fun r hr => by have := hM r hr; omega
  have hll : (rows ++ [(made, x)]).length = rows.length + 1 := by simp
  refine WC_seq fun K1 hK1 => ?_
  refine WC_region ?_
  refine WL_rd (Rd_assign rfl) rfl rfl rfl ?_
  refine WL_rd (Rd_assign rfl) rfl rfl rfl ?_
  refine WL_nil ?_
  refine Ps_next hK1 ?_
  refine WC_seq fun K2 hK2 => ?_
  refine WC_seq fun K3 hK3 => ?_
  refine WC_region ?_
  refine WL_rd (Rd_move rfl) rfl rfl rfl ?_
  refine WL_ac (Ac_call cf49 rfl (ok_ct ..) (Gv.cons (by repeat (first | with_reducible exact Ext.here | with_reducible apply Ext.there)) Gv.nil)) rfl rfl rfl ?_
  rintro _ _ ⟨⟨⟩, rfl, hA⟩
  simp only [List.cons_append, List.nil_append] at hA
  subst hA
  refine WL_rd (Rd_not rfl) rfl rfl rfl ?_
  refine WL_nil ?_
  refine Ps_next hK3 ?_
  refine WC_condF rfl ?_
  refine WC_skip ?_
  refine Ps_next hK2 ?_
  refine WC_seq fun K4 hK4 => ?_
  refine WC_region ?_
  refine WL_rd (Rd_move rfl) rfl rfl rfl ?_
  refine WL_rd (Rd_nilCheck rfl) rfl rfl rfl ?_
  first | refine WL_rd (Rd_fieldAddr rfl fo85_3) rfl rfl rfl ?_ | refine WL_rd (Rd_fieldAddrG rfl fo85_3) rfl rfl rfl ?_
  first | refine WL_rd (Rd_load rfl tk3 (by repeat (first | with_reducible exact Has.here | with_reducible refine Has.there ?_)) (by rfl)) rfl rfl rfl ?_ | refine WL_rd (Rd_load_arr rfl tk3 (by repeat (first | with_reducible exact Has.here | with_reducible refine Has.there ?_)) (by rfl) (by assumption) (by rfl)) rfl rfl rfl ?_
  refine WL_rd (Rd_assign rfl) rfl rfl rfl ?_
  refine WL_nil ?_
  refine Ps_next hK4 ?_
  refine WC_seq fun K5 hK5 => ?_
  refine WC_region ?_
  refine WL_rd (Rd_move rfl) rfl rfl rfl ?_
  refine WL_rd (Rd_nilCheck rfl) rfl rfl rfl ?_
  first | refine WL_rd (Rd_fieldAddr rfl fo85_3) rfl rfl rfl ?_ | refine WL_rd (Rd_fieldAddrG rfl fo85_3) rfl rfl rfl ?_
  first | refine WL_rd (Rd_load rfl tk3 (by repeat (first | with_reducible exact Has.here | with_reducible refine Has.there ?_)) (by rfl)) rfl rfl rfl ?_ | refine WL_rd (Rd_load_arr rfl tk3 (by repeat (first | with_reducible exact Has.here | with_reducible refine Has.there ?_)) (by rfl) (by assumption) (by rfl)) rfl rfl rfl ?_
  refine WL_rd (Rd_add' (r := ((made + 1 : Nat) : Int)) rfl rfl (wr64 (by omega) (by omega) (by omega))) rfl rfl rfl ?_
  refine WL_rd (Rd_nilCheck rfl) rfl rfl rfl ?_
  first | refine WL_rd (Rd_fieldAddr rfl fo85_3) rfl rfl rfl ?_ | refine WL_rd (Rd_fieldAddrG rfl fo85_3) rfl rfl rfl ?_
  refine WL_ac0 (Ac_store1 rfl rfl sz3 (by repeat (first | with_reducible exact Ext.here | with_reducible apply Ext.there)) (by rfl) (by rfl) (by simp only [List.set_cons_zero, List.set_cons_succ]; rfl)) rfl rfl ?_
  rintro _ _ rfl
  refine WL_nil ?_
  refine Ps_next hK5 ?_
  refine WC_seq fun K6 hK6 => ?_
  refine WC_region ?_
  refine WL_rd (Rd_move rfl) rfl rfl rfl ?_
  refine WL_rd (Rd_move rfl) rfl rfl rfl ?_
  refine WL_rd (Rd_nilCheck rfl) rfl rfl rfl ?_
  first | refine WL_rd (Rd_fieldAddr rfl fo85_1) rfl rfl rfl ?_ | refine WL_rd (Rd_fieldAddrG rfl fo85_1) rfl rfl rfl ?_
  first | refine WL_rd (Rd_load rfl tk82 (by repeat (first | with_reducible exact Has.here | with_reducible refine Has.there ?_)) (by rfl)) rfl rfl rfl ?_ | refine WL_rd (Rd_load_arr rfl tk82 (by repeat (first | with_reducible exact Has.here | with_reducible refine Has.there ?_)) (by rfl) (by assumption) (by rfl)) rfl rfl rfl ?_
  refine WL_rd (Rd_move rfl) rfl rfl rfl ?_
  refine WL_rd (Rd_move rfl) rfl rfl rfl ?_
  refine WL_rd (Rd_build pls101 rfl (by simp only [fillL, setAt, List.getElem?_cons_zero, List.getElem?_cons_succ, List.length_cons, List.length_nil, Value.cells, List.set_cons_zero, List.set_cons_succ]; rfl)) rfl rfl rfl ?_
  refine WL_ac (Ac_buildSlice (bs := [.int .i64 0, .int .i64 0]) (xs := [.int .i64 (made : Int), .int .i64 x]) ud82 zr101 sz101 rfl (by rw [Array.toList_map, Array.toList_range]; rfl) (by rfl) (by rfl)) rfl rfl rfl ?_
  rintro _ _ ⟨b29, rfl, rfl⟩
  refine WL_ac (Ac_append (f := itf) (l := rows) [(made, x)] rfl rfl ud82 ud82 rfl el101 (by intro; rfl) (Src_cl (m := 1) (by repeat (first | with_reducible exact Has.here | with_reducible refine Has.there ?_)) (by simp) (by rfl)) (by repeat (first | with_reducible exact Ext.here | with_reducible apply Ext.there)) hlen (by simp [itf, Value.oneCell']) (by simp only [List.length_cons, List.length_nil]; omega) (by simp only [List.length_cons, List.length_nil, Go.maxLen]; omega)) rfl rfl rfl ?_
  rintro _ _ ⟨a', cap', rfl, rfl⟩
  refine WL_rd (Rd_nilCheck rfl) rfl rfl rfl ?_
  first | refine WL_rd (Rd_fieldAddr rfl fo85_1) rfl rfl rfl ?_ | refine WL_rd (Rd_fieldAddrG rfl fo85_1) rfl rfl rfl ?_
  refine WL_ac0 (Ac_store1 rfl rfl sz82 (by repeat (first | with_reducible exact Ext.here | with_reducible apply Ext.there)) (by rfl) (by rfl) (by simp only [List.set_cons_zero, List.set_cons_succ]; rfl)) rfl rfl ?_
  rintro _ _ rfl
  refine WL_nil ?_
  refine Ps_next hK6 ?_
  refine WC_seq fun K7 hK7 => ?_
  refine WC_drawA mix (fun i => ([2, 2, 2, 2, 2, 2, 2, 2, 2, 2, 2, 0] : List Nat).getD i 0) ?_
  refine WJ_takeP 0 rfl (by kernel_rfl) (Rd_move rfl) rfl rfl rfl (hp _ _) ?_
  refine WJ_takeP 1 rfl (by kernel_rfl) (Rd_nilCheck rfl) rfl rfl rfl (hp _ _) ?_
  first | refine WJ_takeP 2 rfl (by kernel_rfl) (Rd_fieldAddr rfl fo85_2) rfl rfl rfl (hp _ _) ?_ | refine WJ_takeP 2 rfl (by kernel_rfl) (Rd_fieldAddrG rfl fo85_2) rfl rfl rfl (hp _ _) ?_
  first | refine WJ_take 3 rfl (by kernel_rfl) (Rd_load rfl tk83 (by repeat (first | with_reducible exact Has.here | with_reducible refine Has.there ?_)) (by rfl)) rfl rfl rfl (hp _ _) (by repeat (first | with_reducible exact Sub.refl | with_reducible exact Sub.nil | with_reducible refine Sub.cons (by repeat (first | with_reducible exact Ext.here | with_reducible apply Ext.there)) ?_ | with_reducible refine Sub.tail ?_)) ?_ | refine WJ_take 3 rfl (by kernel_rfl) (Rd_load_arr rfl tk83 (by repeat (first | with_reducible exact Has.here | with_reducible refine Has.there ?_)) (by rfl) (by assumption) (by rfl)) rfl rfl rfl (hp _ _) (by repeat (first | with_reducible exact Sub.refl | with_reducible exact Sub.nil | with_reducible refine Sub.cons (by repeat (first | with_reducible exact Ext.here | with_reducible apply Ext.there)) ?_ | with_reducible refine Sub.tail ?_)) ?_
  refine WJ_takeP 4 rfl (by kernel_rfl) (Rd_move rfl) rfl rfl rfl (hp _ _) ?_
  refine WJ_takeP 5 rfl (by kernel_rfl) (Rd_move rfl) rfl rfl rfl (hp _ _) ?_
  refine WJ_takeP 6 rfl (by kernel_rfl) (Rd_nilCheck rfl) rfl rfl rfl (hp _ _) ?_
  first | refine WJ_takeP 7 rfl (by kernel_rfl) (Rd_fieldAddr rfl fo85_1) rfl rfl rfl (hp _ _) ?_ | refine WJ_takeP 7 rfl (by kernel_rfl) (Rd_fieldAddrG rfl fo85_1) rfl rfl rfl (hp _ _) ?_
  first | refine WJ_take 8 rfl (by kernel_rfl) (Rd_load rfl tk82 (by repeat (first | with_reducible exact Has.here | with_reducible refine Has.there ?_)) (by rfl)) rfl rfl rfl (hp _ _) (by repeat (first | with_reducible exact Sub.refl | with_reducible exact Sub.nil | with_reducible refine Sub.cons (by repeat (first | with_reducible exact Ext.here | with_reducible apply Ext.there)) ?_ | with_reducible refine Sub.tail ?_)) ?_ | refine WJ_take 8 rfl (by kernel_rfl) (Rd_load_arr rfl tk82 (by repeat (first | with_reducible exact Has.here | with_reducible refine Has.there ?_)) (by rfl) (by assumption) (by rfl)) rfl rfl rfl (hp _ _) (by repeat (first | with_reducible exact Sub.refl | with_reducible exact Sub.nil | with_reducible refine Sub.cons (by repeat (first | with_reducible exact Ext.here | with_reducible apply Ext.there)) ?_ | with_reducible refine Sub.tail ?_)) ?_
  refine WJ_takeP 9 rfl (by kernel_rfl) (Rd_len rfl rfl ud82) rfl rfl rfl (hp _ _) ?_
  refine WJ_takeP 10 rfl (by kernel_rfl) (Rd_sub' (r := (rows.length : Int)) rfl rfl (wr64 (by simp only [List.length_append, List.length_cons, List.length_nil]; omega) (by simp only [List.length_append, List.length_cons, List.length_nil]; omega) (by simp only [List.length_append, List.length_cons, List.length_nil]; omega))) rfl rfl rfl (hp _ _) ?_
  refine WJ_all (rs := [11]) (by kernel_rfl) rfl ?_
  refine WI_one ?_
  refine WI_ac0 rfl (Ac_mapUpdate rfl rfl rfl ud83 ud3 (by repeat (first | with_reducible exact Ext.here | with_reducible apply Ext.there))) rfl rfl rfl ?_
  rintro _ _ rfl
  rw [atOf_push hT hfr]
  refine ⟨(fun h => by cases h), ?_⟩
  refine WJ_done (by kernel_rfl) ?_
  refine Ps_next hK7 ?_
  refine WC_seq fun K8 hK8 => ?_
  refine WC_region ?_
  refine WL_rd (Rd_move rfl) rfl rfl rfl ?_
  refine WL_rd (Rd_move rfl) rfl rfl rfl ?_
  refine WL_rd (Rd_nilCheck rfl) rfl rfl rfl ?_
  first | refine WL_rd (Rd_fieldAddr rfl fo85_1) rfl rfl rfl ?_ | refine WL_rd (Rd_fieldAddrG rfl fo85_1) rfl rfl rfl ?_
  first | refine WL_rd (Rd_load rfl tk82 (by repeat (first | with_reducible exact Has.here | with_reducible refine Has.there ?_)) (by rfl)) rfl rfl rfl ?_ | refine WL_rd (Rd_load_arr rfl tk82 (by repeat (first | with_reducible exact Has.here | with_reducible refine Has.there ?_)) (by rfl) (by assumption) (by rfl)) rfl rfl rfl ?_
  refine WL_rd (Rd_len rfl rfl ud82) rfl rfl rfl ?_
  refine WL_rd (Rd_sub' (r := (rows.length : Int)) rfl rfl (wr64 (by simp only [List.length_append, List.length_cons, List.length_nil]; omega) (by simp only [List.length_append, List.length_cons, List.length_nil]; omega) (by simp only [List.length_append, List.length_cons, List.length_nil]; omega))) rfl rfl rfl ?_
  refine WL_ac (Ac_call cf50 rfl (up_ct hcf hless b (rows ++ [(made, x)]).length cap' m (made + 1) a' (rows ++ [(made, x)]) s rows.length (by omega) (Tk_push hT hfr) rfl (by omega)) (Gv.cons (by repeat (first | with_reducible exact Ext.here | with_reducible apply Ext.there)) (Gv.cons (by repeat (first | with_reducible exact Ext.here | with_reducible apply Ext.there)) (Gv.cons (by repeat (first | with_reducible exact Ext.here | with_reducible apply Ext.there)) (Gv.cons (by repeat (first | with_reducible exact Ext.here | with_reducible apply Ext.there)) Gv.nil))))) rfl rfl rfl ?_
  rintro _ _ ⟨⟨⟩, rfl, hA⟩
  simp only [List.cons_append, List.nil_append] at hA
  subst hA
  refine WL_nil ?_
  refine Ps_next hK8 ?_
  refine WC_seq fun K9 hK9 => ?_
  refine WC_region ?_
  refine WL_rd (Rd_move rfl) rfl rfl rfl ?_
  refine WL_rd (Rd_assign rfl) rfl rfl rfl ?_
  refine WL_rd (Rd_assign rfl) rfl rfl rfl ?_
  refine WL_nil ?_
  refine Ps_next hK9 ?_
  refine WC_ret ?_
  exact hret (a', cap') _ _ (Rs2 rfl rfl rfl) (by simp only [List.cons_append, List.nil_append]; repeat (first | with_reducible exact Sub.refl | with_reducible exact Sub.nil | with_reducible refine Sub.cons (by repeat (first | with_reducible exact Ext.here | with_reducible apply Ext.there)) ?_ | with_reducible refine Sub.tail ?_))

theorem take_ct {σ : Type} {J : σ → Asn} {lt : σ → Int → Int → Bool × σ} {lf : FuncId} {caps : List Value} (hcf : cfn Try.prog lf = true) (hless : ∀ s x y, Ct Try.prog lf ([.int .i64 x, .int .i64 y] ++ caps) [J s] (fun _ : Unit => .bool (lt s x y).1) (fun _ => [J (lt s x y).2]))
    (b len cap m made : Nat) (a : Option Nat) (rows : List (Nat × Int)) (s : σ) (i : Nat) (x : Nat × Int) (hi : rows[i]? = some x) (hT : Tk rows) (hlen : len = rows.length) (hcap : len ≤ 1000000000) :
    Ct Try.prog 51 [(.pointer (some ⟨b, 0, none⟩)), .int .i64 i] [cl b 85 [(.func (.func lf) #[] caps.toArray), sl a len cap, .map (some m), .int .i64 (made : Int)], arr a cap 2 101 itf (rows), mpI m (atOf (rows)), J s] (fun _ : Unit => .agg (itf x).toArray) (fun _ => [cl b 85 [(.func (.func lf) #[] caps.toArray), sl a (len - 1 : Nat) cap, .map (some m), .int .i64 (made : Int)], arr a cap 2 101 itf ((takeM lt s rows i).1), mpI m (atOf ((takeM lt s rows i).1)), J (takeM lt s rows i).2]) := by
  refine Ct_body (n := 55) Try.func51 rfl rfl rfl fun F w0 Q hret hnorm hp => ?_
  change WC _ _ _ _ _ _ (_ :: _ :: _ :: _ :: F)
  have hil := (List.getElem?_eq_some_iff.1 hi).1
  obtain ⟨y, hy⟩ : ∃ y, rows[len - 1]? = some y := ⟨_, List.getElem?_eq_getElem (by omega)⟩
  refine WC_some (a := a) (by repeat (first | with_reducible exact Has.here | with_reducible refine Has.there ?_)) (by omega) (fun gb hgb _ => ?_)
  subst hgb
  refine WC_cap (by repeat (first | with_reducible exact Has.here | with_reducible refine Has.there ?_)) (fun hcp => ?_)
  have hx' : (swp rows i (len - 1))[len - 1]? = some x := by rw [swp_get hi hy, if_pos rfl]
  have hsl : (swp rows i (len - 1)).length = len := by rw [swp_len]; exact hlen.symm
  have hap : (swp rows i (len - 1)) = ((swp rows i (len - 1)).take (len - 1)) ++ [x] := take_last hsl hx' (by omega)
  have hTs : Tk (swp rows i (len - 1)) := Tk_perm (swp_perm _ _) hT
  have hdr : upd (atOf (swp rows i (len - 1))) (x.1 : Int) none = atOf ((swp rows i (len - 1)).take (len - 1)) := by have h := hTs; rw [hap] at h; have := atOf_drop (t := x.1) (x := x.2) h; rw [← hap] at this; exact this
  have hTr : Tk ((swp rows i (len - 1)).take (len - 1)) := by have h := hTs; unfold Tk at h ⊢; exact List.Nodup.sublist ((List.take_sublist _ _).map _) h
  have hrl : ((swp rows i (len - 1)).take (len - 1)).length = len - 1 := by rw [List.length_take, hsl]; omega
  have htk : (((swp rows i (len - 1)).take (len - 1)) ++ List.replicate (len - (len - 1)) ((0 : Nat), (0 : Int))).take (len - 1) = ((swp rows i (len - 1)).take (len - 1)) := by rw [List.take_append_of_le_length (by omega), List.take_take, Nat.min_self]
  refine WC_seq fun K1 hK1 => ?_
  refine WC_region ?_
  refine WL_ac (Ac_alloc zr101) rfl rfl rfl ?_
  rintro _ _ ⟨b4, rfl, rfl⟩
  refine WL_nil ?_
  refine Ps_next hK1 ?_
  refine WC_seq fun K2 hK2 => ?_
  refine WC_region ?_
  refine WL_rd (Rd_move rfl) rfl rfl rfl ?_
  refine WL_rd (Rd_nilCheck rfl) rfl rfl rfl ?_
  first | refine WL_rd (Rd_fieldAddr rfl fo85_1) rfl rfl rfl ?_ | refine WL_rd (Rd_fieldAddrG rfl fo85_1) rfl rfl rfl ?_
  first | refine WL_rd (Rd_load rfl tk82 (by repeat (first | with_reducible exact Has.here | with_reducible refine Has.there ?_)) (by rfl)) rfl rfl rfl ?_ | refine WL_rd (Rd_load_arr rfl tk82 (by repeat (first | with_reducible exact Has.here | with_reducible refine Has.there ?_)) (by rfl) (by assumption) (by rfl)) rfl rfl rfl ?_
  refine WL_rd (Rd_len rfl rfl ud82) rfl rfl rfl ?_
  refine WL_rd (Rd_sub' (r := ((len - 1 : Nat) : Int)) rfl rfl (wr64 (by omega) (by omega) (by omega))) rfl rfl rfl ?_
  refine WL_rd (Rd_assign rfl) rfl rfl rfl ?_
  refine WL_nil ?_
  refine Ps_next hK2 ?_
  refine WC_seq fun K3 hK3 => ?_
  refine WC_region ?_
  refine WL_rd (Rd_move rfl) rfl rfl rfl ?_
  refine WL_rd (Rd_move rfl) rfl rfl rfl ?_
  refine WL_rd (Rd_move rfl) rfl rfl rfl ?_
  refine WL_ac (Ac_call cf65 rfl (swap_ct b len cap m made (some gb) _ rows i (len - 1) x y hi hy hT hlen hcap) (Gv.cons (by repeat (first | with_reducible exact Ext.here | with_reducible apply Ext.there)) (Gv.cons (by repeat (first | with_reducible exact Ext.here | with_reducible apply Ext.there)) (Gv.cons (by repeat (first | with_reducible exact Ext.here | with_reducible apply Ext.there)) Gv.nil)))) rfl rfl rfl ?_
  rintro _ _ ⟨⟨⟩, rfl, hA⟩
  simp only [List.cons_append, List.nil_append] at hA
  subst hA
  refine WL_nil ?_
  refine Ps_next hK3 ?_
  refine WC_seq fun K4 hK4 => ?_
  refine WC_region ?_
  refine WL_rd (Rd_move rfl) rfl rfl rfl ?_
  refine WL_rd (Rd_nilCheck rfl) rfl rfl rfl ?_
  first | refine WL_rd (Rd_fieldAddr rfl fo85_1) rfl rfl rfl ?_ | refine WL_rd (Rd_fieldAddrG rfl fo85_1) rfl rfl rfl ?_
  first | refine WL_rd (Rd_load rfl tk82 (by repeat (first | with_reducible exact Has.here | with_reducible refine Has.there ?_)) (by rfl)) rfl rfl rfl ?_ | refine WL_rd (Rd_load_arr rfl tk82 (by repeat (first | with_reducible exact Has.here | with_reducible refine Has.there ?_)) (by rfl) (by assumption) (by rfl)) rfl rfl rfl ?_
  refine WL_rd (Rd_move rfl) rfl rfl rfl ?_
  refine WL_rd (Rd_index _ rfl rfl ud82 sz101 rfl (by first | omega | (simp only [List.length_set, List.length_append]; omega))) rfl rfl rfl ?_
  first | refine WL_rd (Rd_loadg rfl tk101 (by repeat (first | with_reducible exact Has.here | with_reducible refine Has.there ?_)) (Nat.le_of_ble_eq_true rfl) (by rfl)) rfl rfl rfl ?_ | refine WL_rd (Rd_loadg_arr rfl tk101 (by repeat (first | with_reducible exact Has.here | with_reducible refine Has.there ?_)) (by rfl) (by assumption)) rfl rfl rfl ?_
  refine WL_ac (Ac_alloc zr101) rfl rfl rfl ?_
  rintro _ _ ⟨b6, rfl, rfl⟩
  refine WL_ac0 (Ac_store rfl rfl sz101 (by repeat (first | with_reducible exact Ext.here | with_reducible apply Ext.there)) (by rfl) (Nat.le_of_ble_eq_true rfl) (by simp [Value.cells, Value.oneCell', itf]) (by simp only [List.take_succ_cons, List.take_zero, List.drop_succ_cons, List.drop_zero, List.cons_append, List.nil_append, List.append_nil, List.drop_nil, List.take_nil, List.toList_toArray, Value.cells]; rfl)) rfl rfl ?_
  rintro _ _ rfl
  refine WL_nil ?_
  refine Ps_next hK4 ?_
  refine WC_seq fun K5 hK5 => ?_
  refine WC_region ?_
  refine WL_rd (Rd_move rfl) rfl rfl rfl ?_
  refine WL_rd (Rd_nilCheck rfl) rfl rfl rfl ?_
  first | refine WL_rd (Rd_fieldAddr rfl fo85_1) rfl rfl rfl ?_ | refine WL_rd (Rd_fieldAddrG rfl fo85_1) rfl rfl rfl ?_
  first | refine WL_rd (Rd_load rfl tk82 (by repeat (first | with_reducible exact Has.here | with_reducible refine Has.there ?_)) (by rfl)) rfl rfl rfl ?_ | refine WL_rd (Rd_load_arr rfl tk82 (by repeat (first | with_reducible exact Has.here | with_reducible refine Has.there ?_)) (by rfl) (by assumption) (by rfl)) rfl rfl rfl ?_
  refine WL_rd (Rd_move rfl) rfl rfl rfl ?_
  refine WL_rd (Rd_slice_lo (len - 1) rfl rfl ud82 sz101 rfl (by omega) (by omega)) rfl rfl rfl ?_
  refine WL_ac0 (Ac_clear (len - 1) ((0 : Nat), (0 : Int)) rfl ud82 zr101 rfl rfl (by simp [Value.oneCell']) (by repeat (first | with_reducible exact Ext.here | with_reducible apply Ext.there)) (by omega)) rfl rfl ?_
  rintro _ _ rfl
  refine WL_imp (fun w h => sat_imp (arr_take (len - 1)) h) ?_
  rw [htk]
  refine WL_nil ?_
  refine Ps_next hK5 ?_
  refine WC_seq fun K6 hK6 => ?_
  refine WC_region ?_
  refine WL_rd (Rd_move rfl) rfl rfl rfl ?_
  refine WL_rd (Rd_move rfl) rfl rfl rfl ?_
  refine WL_rd (Rd_nilCheck rfl) rfl rfl rfl ?_
  first | refine WL_rd (Rd_fieldAddr rfl fo85_1) rfl rfl rfl ?_ | refine WL_rd (Rd_fieldAddrG rfl fo85_1) rfl rfl rfl ?_
  first | refine WL_rd (Rd_load rfl tk82 (by repeat (first | with_reducible exact Has.here | with_reducible refine Has.there ?_)) (by rfl)) rfl rfl rfl ?_ | refine WL_rd (Rd_load_arr rfl tk82 (by repeat (first | with_reducible exact Has.here | with_reducible refine Has.there ?_)) (by rfl) (by assumption) (by rfl)) rfl rfl rfl ?_
  refine WL_rd (Rd_move rfl) rfl rfl rfl ?_
  refine WL_rd (Rd_slice_hi (len - 1) rfl rfl ud82 sz101 rfl (by omega)) rfl rfl rfl ?_
  refine WL_rd (Rd_nilCheck rfl) rfl rfl rfl ?_
  first | refine WL_rd (Rd_fieldAddr rfl fo85_1) rfl rfl rfl ?_ | refine WL_rd (Rd_fieldAddrG rfl fo85_1) rfl rfl rfl ?_
  refine WL_ac0 (Ac_store1 rfl rfl sz82 (by repeat (first | with_reducible exact Ext.here | with_reducible apply Ext.there)) (by rfl) (by rfl) (by simp only [List.set_cons_zero, List.set_cons_succ]; rfl)) rfl rfl ?_
  rintro _ _ rfl
  refine WL_nil ?_
  refine Ps_next hK6 ?_
  refine WC_seq fun K7 hK7 => ?_
  refine WC_drawA mix (fun i => ([2, 2, 2, 2, 2, 2, 0] : List Nat).getD i 0) ?_
  refine WJ_takeP 0 rfl (by kernel_rfl) (Rd_move rfl) rfl rfl rfl (hp _ _) ?_
  refine WJ_takeP 1 rfl (by kernel_rfl) (Rd_nilCheck rfl) rfl rfl rfl (hp _ _) ?_
  first | refine WJ_takeP 2 rfl (by kernel_rfl) (Rd_fieldAddr rfl fo85_2) rfl rfl rfl (hp _ _) ?_ | refine WJ_takeP 2 rfl (by kernel_rfl) (Rd_fieldAddrG rfl fo85_2) rfl rfl rfl (hp _ _) ?_
  first | refine WJ_take 3 rfl (by kernel_rfl) (Rd_load rfl tk83 (by repeat (first | with_reducible exact Has.here | with_reducible refine Has.there ?_)) (by rfl)) rfl rfl rfl (hp _ _) (by repeat (first | with_reducible exact Sub.refl | with_reducible exact Sub.nil | with_reducible refine Sub.cons (by repeat (first | with_reducible exact Ext.here | with_reducible apply Ext.there)) ?_ | with_reducible refine Sub.tail ?_)) ?_ | refine WJ_take 3 rfl (by kernel_rfl) (Rd_load_arr rfl tk83 (by repeat (first | with_reducible exact Has.here | with_reducible refine Has.there ?_)) (by rfl) (by assumption) (by rfl)) rfl rfl rfl (hp _ _) (by repeat (first | with_reducible exact Sub.refl | with_reducible exact Sub.nil | with_reducible refine Sub.cons (by repeat (first | with_reducible exact Ext.here | with_reducible apply Ext.there)) ?_ | with_reducible refine Sub.tail ?_)) ?_
  first | refine WJ_takeP 4 rfl (by kernel_rfl) (Rd_fieldAddr rfl fo101_0) rfl rfl rfl (hp _ _) ?_ | refine WJ_takeP 4 rfl (by kernel_rfl) (Rd_fieldAddrG rfl fo101_0) rfl rfl rfl (hp _ _) ?_
  first | refine WJ_take 5 rfl (by kernel_rfl) (Rd_load rfl tk3 (by repeat (first | with_reducible exact Has.here | with_reducible refine Has.there ?_)) (by rfl)) rfl rfl rfl (hp _ _) (by repeat (first | with_reducible exact Sub.refl | with_reducible exact Sub.nil | with_reducible refine Sub.cons (by repeat (first | with_reducible exact Ext.here | with_reducible apply Ext.there)) ?_ | with_reducible refine Sub.tail ?_)) ?_ | refine WJ_take 5 rfl (by kernel_rfl) (Rd_load_arr rfl tk3 (by repeat (first | with_reducible exact Has.here | with_reducible refine Has.there ?_)) (by rfl) (by assumption) (by rfl)) rfl rfl rfl (hp _ _) (by repeat (first | with_reducible exact Sub.refl | with_reducible exact Sub.nil | with_reducible refine Sub.cons (by repeat (first | with_reducible exact Ext.here | with_reducible apply Ext.there)) ?_ | with_reducible refine Sub.tail ?_)) ?_
  refine WJ_all (rs := [6]) (by kernel_rfl) rfl ?_
  refine WI_one ?_
  refine WI_ac0 rfl (Ac_delete rfl rfl ud83 ud3 (by repeat (first | with_reducible exact Ext.here | with_reducible apply Ext.there))) rfl rfl rfl ?_
  rintro _ _ rfl
  rw [hdr]
  refine ⟨(fun h => by cases h), ?_⟩
  refine WJ_done (by kernel_rfl) ?_
  refine Ps_next hK7 ?_
  refine WC_seq fun K8 hK8 => ?_
  refine WC_seq fun K9 hK9 => ?_
  refine WC_region ?_
  refine WL_rd (Rd_move rfl) rfl rfl rfl ?_
  refine WL_rd (Rd_move rfl) rfl rfl rfl ?_
  refine WL_rd (Rd_lss rfl rfl) rfl rfl rfl ?_
  refine WL_nil ?_
  refine Ps_next hK9 ?_
  refine WC_cond rfl (fun hc47 => ?_) (fun hc47 => ?_)
  · try simp only [decide_eq_true_eq, decide_eq_false_iff_not, Bool.not_eq_true', Bool.not_eq_false', Bool.not_eq_true, Bool.not_eq_false, Int.not_lt, Int.not_le] at hc47
    rw [show takeM lt s rows i = upM lt (downM lt s ((swp rows i (len - 1)).take (len - 1)) i).2 (downM lt s ((swp rows i (len - 1)).take (len - 1)) i).1 i from by unfold takeM; rw [← hlen, if_pos (by omega)]] at hret
    refine WC_seq fun K11 hK11 => ?_
    refine WC_region ?_
    refine WL_rd (Rd_move rfl) rfl rfl rfl ?_
    refine WL_rd (Rd_move rfl) rfl rfl rfl ?_
    refine WL_ac (Ac_call cf66 rfl (down_ct hcf hless b (len - 1) cap m made (some gb) ((swp rows i (len - 1)).take (len - 1)) s i (by omega) hTr hrl.symm (by omega)) (Gv.cons (by repeat (first | with_reducible exact Ext.here | with_reducible apply Ext.there)) (Gv.cons (by repeat (first | with_reducible exact Ext.here | with_reducible apply Ext.there)) (Gv.cons (by repeat (first | with_reducible exact Ext.here | with_reducible apply Ext.there)) (Gv.cons (by repeat (first | with_reducible exact Ext.here | with_reducible apply Ext.there)) Gv.nil))))) rfl rfl rfl ?_
    rintro _ _ ⟨⟨⟩, rfl, hA⟩
    simp only [List.cons_append, List.nil_append] at hA
    subst hA
    refine WL_nil ?_
    refine Ps_next hK11 ?_
    refine WC_region ?_
    refine WL_rd (Rd_move rfl) rfl rfl rfl ?_
    refine WL_rd (Rd_move rfl) rfl rfl rfl ?_
    refine WL_ac (Ac_call cf50 rfl (up_ct hcf hless b (len - 1) cap m made (some gb) (downM lt s ((swp rows i (len - 1)).take (len - 1)) i).1 (downM lt s ((swp rows i (len - 1)).take (len - 1)) i).2 i (by omega) (Tk_perm (downM_perm lt _ i s _ (Nat.le_refl _)) hTr) (by rw [(downM_perm lt _ i s ((swp rows i (len - 1)).take (len - 1)) (Nat.le_refl _)).length_eq]; exact hrl.symm) (by omega)) (Gv.cons (by repeat (first | with_reducible exact Ext.here | with_reducible apply Ext.there)) (Gv.cons (by repeat (first | with_reducible exact Ext.here | with_reducible apply Ext.there)) (Gv.cons (by repeat (first | with_reducible exact Ext.here | with_reducible apply Ext.there)) (Gv.cons (by repeat (first | with_reducible exact Ext.here | with_reducible apply Ext.there)) Gv.nil))))) rfl rfl rfl ?_
    rintro _ _ ⟨⟨⟩, rfl, hA⟩
    simp only [List.cons_append, List.nil_append] at hA
    subst hA
    refine WL_nil ?_
    refine Ps_next hK8 ?_
    refine WC_seq fun K12 hK12 => ?_
    refine WC_region ?_
    first | refine WL_rd (Rd_loadg rfl tk101 (by repeat (first | with_reducible exact Has.here | with_reducible refine Has.there ?_)) (Nat.le_of_ble_eq_true rfl) (by rfl)) rfl rfl rfl ?_ | refine WL_rd (Rd_loadg_arr rfl tk101 (by repeat (first | with_reducible exact Has.here | with_reducible refine Has.there ?_)) (by rfl) (by assumption)) rfl rfl rfl ?_
    refine WL_ac0 (Ac_store rfl rfl sz101 (by repeat (first | with_reducible exact Ext.here | with_reducible apply Ext.there)) (by rfl) (Nat.le_of_ble_eq_true rfl) (by simp [Value.cells, Value.oneCell', itf]) (by simp only [List.take_succ_cons, List.take_zero, List.drop_succ_cons, List.drop_zero, List.cons_append, List.nil_append, List.append_nil, List.drop_nil, List.take_nil, List.toList_toArray, Value.cells]; rfl)) rfl rfl ?_
    rintro _ _ rfl
    refine WL_nil ?_
    refine Ps_next hK12 ?_
    refine WC_ret ?_
    exact hret () _ _ (Rs1c rfl rfl tk101 (by repeat (first | with_reducible exact Has.here | with_reducible refine Has.there ?_)) (Nat.le_of_ble_eq_true rfl) (by rfl)) (by simp only [List.cons_append, List.nil_append]; repeat (first | with_reducible exact Sub.refl | with_reducible exact Sub.nil | with_reducible refine Sub.cons (by repeat (first | with_reducible exact Ext.here | with_reducible apply Ext.there)) ?_ | with_reducible refine Sub.tail ?_))
  · try simp only [decide_eq_true_eq, decide_eq_false_iff_not, Bool.not_eq_true', Bool.not_eq_false', Bool.not_eq_true, Bool.not_eq_false, Int.not_lt, Int.not_le] at hc47
    rw [show takeM lt s rows i = (((swp rows i (len - 1)).take (len - 1)), s) from by unfold takeM; rw [← hlen, if_neg (by omega)]] at hret
    refine WC_skip ?_
    refine Ps_next hK8 ?_
    refine WC_seq fun K13 hK13 => ?_
    refine WC_region ?_
    first | refine WL_rd (Rd_loadg rfl tk101 (by repeat (first | with_reducible exact Has.here | with_reducible refine Has.there ?_)) (Nat.le_of_ble_eq_true rfl) (by rfl)) rfl rfl rfl ?_ | refine WL_rd (Rd_loadg_arr rfl tk101 (by repeat (first | with_reducible exact Has.here | with_reducible refine Has.there ?_)) (by rfl) (by assumption)) rfl rfl rfl ?_
    refine WL_ac0 (Ac_store rfl rfl sz101 (by repeat (first | with_reducible exact Ext.here | with_reducible apply Ext.there)) (by rfl) (Nat.le_of_ble_eq_true rfl) (by simp [Value.cells, Value.oneCell', itf]) (by simp only [List.take_succ_cons, List.take_zero, List.drop_succ_cons, List.drop_zero, List.cons_append, List.nil_append, List.append_nil, List.drop_nil, List.take_nil, List.toList_toArray, Value.cells]; rfl)) rfl rfl ?_
    rintro _ _ rfl
    refine WL_nil ?_
    refine Ps_next hK13 ?_
    refine WC_ret ?_
    exact hret () _ _ (Rs1c rfl rfl tk101 (by repeat (first | with_reducible exact Has.here | with_reducible refine Has.there ?_)) (Nat.le_of_ble_eq_true rfl) (by rfl)) (by simp only [List.cons_append, List.nil_append]; repeat (first | with_reducible exact Sub.refl | with_reducible exact Sub.nil | with_reducible refine Sub.cons (by repeat (first | with_reducible exact Ext.here | with_reducible apply Ext.there)) ?_ | with_reducible refine Sub.tail ?_))

theorem pop_ct {σ : Type} {J : σ → Asn} {lt : σ → Int → Int → Bool × σ} {lf : FuncId} {caps : List Value} (hcf : cfn Try.prog lf = true) (hless : ∀ s x y, Ct Try.prog lf ([.int .i64 x, .int .i64 y] ++ caps) [J s] (fun _ : Unit => .bool (lt s x y).1) (fun _ => [J (lt s x y).2]))
    (b len cap m made : Nat) (a : Option Nat) (rows : List (Nat × Int)) (s : σ) (x : Nat × Int) (hi : rows[0]? = some x) (hT : Tk rows) (hlen : len = rows.length) (hcap : len ≤ 1000000000) :
    Ct Try.prog 26 [(.pointer (some ⟨b, 0, none⟩))] [cl b 85 [(.func (.func lf) #[] caps.toArray), sl a len cap, .map (some m), .int .i64 (made : Int)], arr a cap 2 101 itf (rows), mpI m (atOf (rows)), J s] (fun _ : Unit => .tuple #[.int .i64 x.2, .bool true]) (fun _ => [cl b 85 [(.func (.func lf) #[] caps.toArray), sl a (len - 1 : Nat) cap, .map (some m), .int .i64 (made : Int)], arr a cap 2 101 itf ((takeM lt s rows 0).1), mpI m (atOf ((takeM lt s rows 0).1)), J (takeM lt s rows 0).2]) := by
  refine Ct_body (n := 12) Try.func26 rfl rfl rfl fun F w0 Q hret hnorm hp => ?_
  change WC _ _ _ _ _ _ (_ :: _ :: _ :: _ :: F)
  have hil := (List.getElem?_eq_some_iff.1 hi).1
  refine WC_seq fun K1 hK1 => ?_
  refine WC_region ?_
  refine WL_rd (Rd_assign rfl) rfl rfl rfl ?_
  refine WL_rd (Rd_assign rfl) rfl rfl rfl ?_
  refine WL_nil ?_
  refine Ps_next hK1 ?_
  refine WC_seq fun K2 hK2 => ?_
  refine WC_seq fun K3 hK3 => ?_
  refine WC_region ?_
  refine WL_rd (Rd_move rfl) rfl rfl rfl ?_
  refine WL_ac (Ac_call cf27 rfl (len_ct ..) (Gv.cons (by repeat (first | with_reducible exact Ext.here | with_reducible apply Ext.there)) Gv.nil)) rfl rfl rfl ?_
  rintro _ _ ⟨⟨⟩, rfl, hA⟩
  simp only [List.cons_append, List.nil_append] at hA
  subst hA
  refine WL_rd (Rd_eql rfl rfl) rfl rfl rfl ?_
  refine WL_nil ?_
  refine Ps_next hK3 ?_
  refine WC_cond rfl (fun hc7 => ?_) (fun hc7 => ?_)
  · try simp only [decide_eq_true_eq, decide_eq_false_iff_not, Bool.not_eq_true', Bool.not_eq_false', Bool.not_eq_true, Bool.not_eq_false, Int.not_lt, Int.not_le] at hc7
    omega
  · try simp only [decide_eq_true_eq, decide_eq_false_iff_not, Bool.not_eq_true', Bool.not_eq_false', Bool.not_eq_true, Bool.not_eq_false, Int.not_lt, Int.not_le] at hc7
    refine WC_skip ?_
    refine Ps_next hK2 ?_
    refine WC_seq fun K5 hK5 => ?_
    refine WC_region ?_
    refine WL_rd (Rd_move rfl) rfl rfl rfl ?_
    refine WL_ac (Ac_call cf51 rfl (take_ct hcf hless b len cap m made a rows s 0 x hi hT hlen hcap) (Gv.cons (by repeat (first | with_reducible exact Ext.here | with_reducible apply Ext.there)) (Gv.cons (by repeat (first | with_reducible exact Ext.here | with_reducible apply Ext.there)) (Gv.cons (by repeat (first | with_reducible exact Ext.here | with_reducible apply Ext.there)) (Gv.cons (by repeat (first | with_reducible exact Ext.here | with_reducible apply Ext.there)) Gv.nil))))) rfl rfl rfl ?_
    rintro _ _ ⟨⟨⟩, rfl, hA⟩
    simp only [List.cons_append, List.nil_append] at hA
    subst hA
    refine WL_rd (Rd_field rfl fo101_1 tk3 rfl) rfl rfl rfl ?_
    refine WL_rd (Rd_assign rfl) rfl rfl rfl ?_
    refine WL_rd (Rd_assign rfl) rfl rfl rfl ?_
    refine WL_nil ?_
    refine Ps_next hK5 ?_
    refine WC_ret ?_
    exact hret () _ _ (Rs2 rfl rfl rfl) (by simp only [List.cons_append, List.nil_append]; repeat (first | with_reducible exact Sub.refl | with_reducible exact Sub.nil | with_reducible refine Sub.cons (by repeat (first | with_reducible exact Ext.here | with_reducible apply Ext.there)) ?_ | with_reducible refine Sub.tail ?_))

theorem pop0_ct (b : Nat) (f : Fn) (us vs : Array Value) (a : Option Nat) (cap : Nat) (m k : Value) :
    Ct Try.prog 26 [(.pointer (some ⟨b, 0, none⟩))] [cl b 85 [.func f us vs, sl a 0 cap, m, k]] (fun _ : Unit => .tuple #[.int .i64 0, .bool false]) (fun _ => [cl b 85 [.func f us vs, sl a 0 cap, m, k]]) := by
  refine Ct_body (n := 12) Try.func26 rfl rfl rfl fun F w0 Q hret hnorm hp => ?_
  change WC _ _ _ _ _ _ (_ :: F)
  refine WC_seq fun K1 hK1 => ?_
  refine WC_region ?_
  refine WL_rd (Rd_assign rfl) rfl rfl rfl ?_
  refine WL_rd (Rd_assign rfl) rfl rfl rfl ?_
  refine WL_nil ?_
  refine Ps_next hK1 ?_
  refine WC_seq fun K2 hK2 => ?_
  refine WC_seq fun K3 hK3 => ?_
  refine WC_region ?_
  refine WL_rd (Rd_move rfl) rfl rfl rfl ?_
  refine WL_ac (Ac_call cf27 rfl (len_ct ..) (Gv.cons (by repeat (first | with_reducible exact Ext.here | with_reducible apply Ext.there)) Gv.nil)) rfl rfl rfl ?_
  rintro _ _ ⟨⟨⟩, rfl, hA⟩
  simp only [List.cons_append, List.nil_append] at hA
  subst hA
  refine WL_rd (Rd_eql rfl rfl) rfl rfl rfl ?_
  refine WL_nil ?_
  refine Ps_next hK3 ?_
  refine WC_cond rfl (fun hc7 => ?_) (fun hc7 => ?_)
  · try simp only [decide_eq_true_eq, decide_eq_false_iff_not, Bool.not_eq_true', Bool.not_eq_false', Bool.not_eq_true, Bool.not_eq_false, Int.not_lt, Int.not_le] at hc7
    refine WC_seq fun K5 hK5 => ?_
    refine WC_region ?_
    refine WL_rd (Rd_assign rfl) rfl rfl rfl ?_
    refine WL_nil ?_
    refine Ps_next hK5 ?_
    refine WC_seq fun K6 hK6 => ?_
    refine WC_region ?_
    refine WL_rd (Rd_move rfl) rfl rfl rfl ?_
    refine WL_rd (Rd_assign rfl) rfl rfl rfl ?_
    refine WL_rd (Rd_assign rfl) rfl rfl rfl ?_
    refine WL_nil ?_
    refine Ps_next hK6 ?_
    refine WC_ret ?_
    exact hret () _ _ (Rs2 rfl rfl rfl) (by simp only [List.cons_append, List.nil_append]; repeat (first | with_reducible exact Sub.refl | with_reducible exact Sub.nil | with_reducible refine Sub.cons (by repeat (first | with_reducible exact Ext.here | with_reducible apply Ext.there)) ?_ | with_reducible refine Sub.tail ?_))
  · try simp only [decide_eq_true_eq, decide_eq_false_iff_not, Bool.not_eq_true', Bool.not_eq_false', Bool.not_eq_true, Bool.not_eq_false, Int.not_lt, Int.not_le] at hc7
    exact absurd rfl hc7

theorem peek_ct (b len cap m made : Nat) (a : Option Nat) (lf : FuncId) (caps : List Value) (rows : List (Nat × Int)) (x : Nat × Int) (hi : rows[0]? = some x) (hlen : len = rows.length) :
    Ct Try.prog 39 [(.pointer (some ⟨b, 0, none⟩))] [cl b 85 [(.func (.func lf) #[] caps.toArray), sl a len cap, .map (some m), .int .i64 (made : Int)], arr a cap 2 101 itf (rows)] (fun _ : Unit => .tuple #[.int .i64 x.2, .bool true]) (fun _ => [cl b 85 [(.func (.func lf) #[] caps.toArray), sl a len cap, .map (some m), .int .i64 (made : Int)], arr a cap 2 101 itf (rows)]) := by
  refine Ct_body (n := 16) Try.func39 rfl rfl rfl fun F w0 Q hret hnorm hp => ?_
  change WC _ _ _ _ _ _ (_ :: _ :: F)
  have hil := (List.getElem?_eq_some_iff.1 hi).1
  refine WC_some (a := a) (by repeat (first | with_reducible exact Has.here | with_reducible refine Has.there ?_)) (by omega) (fun gb hgb _ => ?_)
  subst hgb
  refine WC_seq fun K1 hK1 => ?_
  refine WC_region ?_
  refine WL_rd (Rd_assign rfl) rfl rfl rfl ?_
  refine WL_rd (Rd_assign rfl) rfl rfl rfl ?_
  refine WL_nil ?_
  refine Ps_next hK1 ?_
  refine WC_seq fun K2 hK2 => ?_
  refine WC_seq fun K3 hK3 => ?_
  refine WC_region ?_
  refine WL_rd (Rd_move rfl) rfl rfl rfl ?_
  refine WL_ac (Ac_call cf27 rfl (len_ct ..) (Gv.cons (by repeat (first | with_reducible exact Ext.here | with_reducible apply Ext.there)) Gv.nil)) rfl rfl rfl ?_
  rintro _ _ ⟨⟨⟩, rfl, hA⟩
  simp only [List.cons_append, List.nil_append] at hA
  subst hA
  refine WL_rd (Rd_eql rfl rfl) rfl rfl rfl ?_
  refine WL_nil ?_
  refine Ps_next hK3 ?_
  refine WC_cond rfl (fun hc7 => ?_) (fun hc7 => ?_)
  · try simp only [decide_eq_true_eq, decide_eq_false_iff_not, Bool.not_eq_true', Bool.not_eq_false', Bool.not_eq_true, Bool.not_eq_false, Int.not_lt, Int.not_le] at hc7
    omega
  · try simp only [decide_eq_true_eq, decide_eq_false_iff_not, Bool.not_eq_true', Bool.not_eq_false', Bool.not_eq_true, Bool.not_eq_false, Int.not_lt, Int.not_le] at hc7
    refine WC_skip ?_
    refine Ps_next hK2 ?_
    refine WC_seq fun K5 hK5 => ?_
    refine WC_region ?_
    refine WL_rd (Rd_move rfl) rfl rfl rfl ?_
    refine WL_rd (Rd_nilCheck rfl) rfl rfl rfl ?_
    first | refine WL_rd (Rd_fieldAddr rfl fo85_1) rfl rfl rfl ?_ | refine WL_rd (Rd_fieldAddrG rfl fo85_1) rfl rfl rfl ?_
    first | refine WL_rd (Rd_load rfl tk82 (by repeat (first | with_reducible exact Has.here | with_reducible refine Has.there ?_)) (by rfl)) rfl rfl rfl ?_ | refine WL_rd (Rd_load_arr rfl tk82 (by repeat (first | with_reducible exact Has.here | with_reducible refine Has.there ?_)) (by rfl) (by assumption) (by rfl)) rfl rfl rfl ?_
    refine WL_rd (Rd_index 0 rfl rfl ud82 sz101 rfl (by omega)) rfl rfl rfl ?_
    first | refine WL_rd (Rd_fieldAddr rfl fo101_1) rfl rfl rfl ?_ | refine WL_rd (Rd_fieldAddrG rfl fo101_1) rfl rfl rfl ?_
    first | refine WL_rd (Rd_load rfl tk3 (by repeat (first | with_reducible exact Has.here | with_reducible refine Has.there ?_)) (by rfl)) rfl rfl rfl ?_ | refine WL_rd (Rd_load_arr rfl tk3 (by repeat (first | with_reducible exact Has.here | with_reducible refine Has.there ?_)) (by rfl) (by assumption) (by rfl)) rfl rfl rfl ?_
    refine WL_rd (Rd_assign rfl) rfl rfl rfl ?_
    refine WL_rd (Rd_assign rfl) rfl rfl rfl ?_
    refine WL_nil ?_
    refine Ps_next hK5 ?_
    refine WC_ret ?_
    exact hret () _ _ (Rs2 rfl rfl rfl) (by simp only [List.cons_append, List.nil_append]; repeat (first | with_reducible exact Sub.refl | with_reducible exact Sub.nil | with_reducible refine Sub.cons (by repeat (first | with_reducible exact Ext.here | with_reducible apply Ext.there)) ?_ | with_reducible refine Sub.tail ?_))

theorem peek0_ct (b : Nat) (f : Fn) (us vs : Array Value) (a : Option Nat) (cap : Nat) (m k : Value) :
    Ct Try.prog 39 [(.pointer (some ⟨b, 0, none⟩))] [cl b 85 [.func f us vs, sl a 0 cap, m, k]] (fun _ : Unit => .tuple #[.int .i64 0, .bool false]) (fun _ => [cl b 85 [.func f us vs, sl a 0 cap, m, k]]) := by
  refine Ct_body (n := 16) Try.func39 rfl rfl rfl fun F w0 Q hret hnorm hp => ?_
  change WC _ _ _ _ _ _ (_ :: F)
  refine WC_seq fun K1 hK1 => ?_
  refine WC_region ?_
  refine WL_rd (Rd_assign rfl) rfl rfl rfl ?_
  refine WL_rd (Rd_assign rfl) rfl rfl rfl ?_
  refine WL_nil ?_
  refine Ps_next hK1 ?_
  refine WC_seq fun K2 hK2 => ?_
  refine WC_seq fun K3 hK3 => ?_
  refine WC_region ?_
  refine WL_rd (Rd_move rfl) rfl rfl rfl ?_
  refine WL_ac (Ac_call cf27 rfl (len_ct ..) (Gv.cons (by repeat (first | with_reducible exact Ext.here | with_reducible apply Ext.there)) Gv.nil)) rfl rfl rfl ?_
  rintro _ _ ⟨⟨⟩, rfl, hA⟩
  simp only [List.cons_append, List.nil_append] at hA
  subst hA
  refine WL_rd (Rd_eql rfl rfl) rfl rfl rfl ?_
  refine WL_nil ?_
  refine Ps_next hK3 ?_
  refine WC_cond rfl (fun hc7 => ?_) (fun hc7 => ?_)
  · try simp only [decide_eq_true_eq, decide_eq_false_iff_not, Bool.not_eq_true', Bool.not_eq_false', Bool.not_eq_true, Bool.not_eq_false, Int.not_lt, Int.not_le] at hc7
    refine WC_seq fun K5 hK5 => ?_
    refine WC_region ?_
    refine WL_rd (Rd_assign rfl) rfl rfl rfl ?_
    refine WL_nil ?_
    refine Ps_next hK5 ?_
    refine WC_seq fun K6 hK6 => ?_
    refine WC_region ?_
    refine WL_rd (Rd_move rfl) rfl rfl rfl ?_
    refine WL_rd (Rd_assign rfl) rfl rfl rfl ?_
    refine WL_rd (Rd_assign rfl) rfl rfl rfl ?_
    refine WL_nil ?_
    refine Ps_next hK6 ?_
    refine WC_ret ?_
    exact hret () _ _ (Rs2 rfl rfl rfl) (by simp only [List.cons_append, List.nil_append]; repeat (first | with_reducible exact Sub.refl | with_reducible exact Sub.nil | with_reducible refine Sub.cons (by repeat (first | with_reducible exact Ext.here | with_reducible apply Ext.there)) ?_ | with_reducible refine Sub.tail ?_))
  · try simp only [decide_eq_true_eq, decide_eq_false_iff_not, Bool.not_eq_true', Bool.not_eq_false', Bool.not_eq_true, Bool.not_eq_false, Int.not_lt, Int.not_le] at hc7
    exact absurd rfl hc7

theorem new_ct (lf : FuncId) (caps : List Value) :
    Ct Try.prog 24 [(.func (.func lf) #[] caps.toArray)] [] (fun g : Nat × Nat => .tuple #[.pointer (some ⟨g.1, 0, none⟩), .int .i64 0]) (fun g => [cl g.1 85 [(.func (.func lf) #[] caps.toArray), sl none 0 0, .map (some g.2), .int .i64 ((0 : Nat) : Int)], arr none 0 2 101 itf [], mpI g.2 (atOf ([] : List (Nat × Int)))]) := by
  refine Ct_body (n := 10) Try.func24 rfl rfl rfl fun F w0 Q hret hnorm hp => ?_
  change WC _ _ _ _ _ _ (F)
  refine WC_imp (fun w h => sat_nil (e := 2) (T := 101) (f := itf) h) ?_
  refine WC_seq fun K1 hK1 => ?_
  refine WC_region ?_
  refine WL_rd (Rd_assign rfl) rfl rfl rfl ?_
  refine WL_rd (Rd_assign rfl) rfl rfl rfl ?_
  refine WL_nil ?_
  refine Ps_next hK1 ?_
  refine WC_seq fun K2 hK2 => ?_
  refine WC_seq fun K3 hK3 => ?_
  refine WC_region ?_
  refine WL_rd (Rd_move rfl) rfl rfl rfl ?_
  refine WL_rd (Rd_feq rfl rfl Try.underlying50) rfl rfl rfl ?_
  refine WL_nil ?_
  refine Ps_next hK3 ?_
  refine WC_condF rfl ?_
  refine WC_skip ?_
  refine Ps_next hK2 ?_
  refine WC_seq fun K4 hK4 => ?_
  refine WC_region ?_
  refine WL_rd (Rd_move rfl) rfl rfl rfl ?_
  refine WL_ac (Ac_makeMap) rfl rfl rfl ?_
  rintro _ _ ⟨m7, rfl, rfl⟩
  rw [show (fun _ : Int => (none : Option Value)) = atOf ([] : List (Nat × Int)) from rfl]
  refine WL_rd (Rd_build pls85 rfl (by simp only [fillL, setAt, List.getElem?_cons_zero, List.getElem?_cons_succ, List.length_cons, List.length_nil, Value.cells, List.set_cons_zero, List.set_cons_succ]; rfl)) rfl rfl rfl ?_
  refine WL_ac (Ac_box (xs := [(.func (.func lf) #[] caps.toArray), sl none 0 0, .map (some m7), .int .i64 ((0 : Nat) : Int)]) rfl rfl) rfl rfl rfl ?_
  rintro _ _ ⟨b9, rfl, rfl⟩
  refine WL_rd (Rd_assign rfl) rfl rfl rfl ?_
  refine WL_rd (Rd_assign rfl) rfl rfl rfl ?_
  refine WL_nil ?_
  refine Ps_next hK4 ?_
  refine WC_ret ?_
  exact hret (b9, m7) _ _ (Rs2 rfl rfl rfl) (by simp only [List.cons_append, List.nil_append]; repeat (first | with_reducible exact Sub.refl | with_reducible exact Sub.nil | with_reducible refine Sub.cons (by repeat (first | with_reducible exact Ext.here | with_reducible apply Ext.there)) ?_ | with_reducible refine Sub.tail ?_))
end Go.Proofs.Ytcookmkklcbbnaa
