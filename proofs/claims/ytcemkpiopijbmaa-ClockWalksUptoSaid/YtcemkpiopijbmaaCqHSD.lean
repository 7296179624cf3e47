/-
  Contracts of functions that the claim reaches, or the logic and the plain laws that they rest on, or the row over them. (Conditions: none beyond the statement.)
-/
import Derived.Test.YtcemkpiopijbmaaCqAwake
import Derived.Test.YtcemkpiopijbmaaLibA
set_option linter.all false
namespace Go.Proofs.Ytcemkpiopijbmaa
open Go.RowKit Go.SL Go.HpM
set_option maxHeartbeats 1000000
set_option maxRecDepth 20000
set_option linter.all false
theorem cf9 : cfn Try.prog 9 = true := by kernel_rfl
theorem cf10 : cfn Try.prog 10 = true := by kernel_rfl
theorem cf11 : cfn Try.prog 11 = true := by kernel_rfl
theorem cf12 : cfn Try.prog 12 = true := by kernel_rfl
theorem cf13 : cfn Try.prog 13 = true := by kernel_rfl
theorem cf14 : cfn Try.prog 14 = true := by kernel_rfl
theorem cf15 : cfn Try.prog 15 = true := by kernel_rfl
theorem cf16 : cfn Try.prog 16 = true := by kernel_rfl
theorem cf17 : cfn Try.prog 17 = true := by kernel_rfl
theorem cf18 : cfn Try.prog 18 = true := by kernel_rfl
theorem cf19 : cfn Try.prog 19 = true := by kernel_rfl
theorem cf20 : cfn Try.prog 20 = true := by kernel_rfl
theorem cf21 : cfn Try.prog 21 = true := by kernel_rfl
theorem cf22 : cfn Try.prog 22 = true := by kernel_rfl
theorem cf26 : cfn Try.prog 26 = true := by kernel_rfl
theorem cf28 : cfn Try.prog 28 = true := by kernel_rfl
theorem cf41 : cfn Try.prog 41 = true := by kernel_rfl
theorem cf44 : cfn Try.prog 44 = true := by kernel_rfl
theorem cf45 : cfn Try.prog 45 = true := by kernel_rfl
theorem cf46 : cfn Try.prog 46 = true := by kernel_rfl
theorem cf47 : cfn Try.prog 47 = true := by kernel_rfl
theorem cf48 : cfn Try.prog 48 = true := by kernel_rfl
theorem cf49 : cfn Try.prog 49 = true := by kernel_rfl
theorem cf50 : cfn Try.prog 50 = true := by kernel_rfl
theorem cf52 : cfn Try.prog 52 = true := by kernel_rfl
theorem cf53 : cfn Try.prog 53 = true := by kernel_rfl
theorem cf54 : cfn Try.prog 54 = true := by kernel_rfl
theorem cf55 : cfn Try.prog 55 = true := by kernel_rfl
theorem cf56 : cfn Try.prog 56 = true := by kernel_rfl
theorem cf57 : cfn Try.prog 57 = true := by kernel_rfl
theorem cf64 : cfn Try.prog 64 = true := by kernel_rfl
theorem cf79 : cfn Try.prog 79 = true := by kernel_rfl
theorem cf80 : cfn Try.prog 80 = true := by kernel_rfl
theorem cf81 : cfn Try.prog 81 = true := by kernel_rfl
theorem cf82 : cfn Try.prog 82 = true := by kernel_rfl
theorem cf83 : cfn Try.prog 83 = true := by kernel_rfl
theorem cf84 : cfn Try.prog 84 = true := by kernel_rfl
theorem cf96 : cfn Try.prog 96 = true := by kernel_rfl
theorem cf97 : cfn Try.prog 97 = true := by kernel_rfl
theorem cf98 : cfn Try.prog 98 = true := by kernel_rfl
theorem cf99 : cfn Try.prog 99 = true := by kernel_rfl
theorem cf100 : cfn Try.prog 100 = true := by kernel_rfl
theorem cf101 : cfn Try.prog 101 = true := by kernel_rfl
theorem el4 : el Try.prog 4 = some (1, 1) := by kernel_rfl
theorem el51 : el Try.prog 51 = some (3, 24) := by kernel_rfl
theorem el146 : el Try.prog 146 = some (5, 40) := by kernel_rfl
theorem el153 : el Try.prog 153 = some (4, 32) := by kernel_rfl
theorem fls51 : fls Try.prog 51 = some [(0, 3), (1, 3), (2, 45)] := by kernel_rfl
theorem fo29_0 : fo Try.prog 29 0 = some (0, 3) := by kernel_rfl
theorem fo29_1 : fo Try.prog 29 1 = some (1, 3) := by kernel_rfl
theorem fo35_0 : fo Try.prog 35 0 = some (0, 3) := by kernel_rfl
theorem fo35_1 : fo Try.prog 35 1 = some (1, 3) := by kernel_rfl
theorem fo35_2 : fo Try.prog 35 2 = some (2, 29) := by kernel_rfl
theorem fo51_1 : fo Try.prog 51 1 = some (1, 3) := by kernel_rfl
theorem fo62_0 : fo Try.prog 62 0 = some (0, 3) := by kernel_rfl
theorem fo62_2 : fo Try.prog 62 2 = some (2, 9) := by kernel_rfl
theorem fo96_0 : fo Try.prog 96 0 = some (0, 3) := by kernel_rfl
theorem fo96_1 : fo Try.prog 96 1 = some (1, 3) := by kernel_rfl
theorem fo96_2 : fo Try.prog 96 2 = some (2, 94) := by kernel_rfl
theorem fo109_0 : fo Try.prog 109 0 = some (0, 3) := by kernel_rfl
theorem fo109_1 : fo Try.prog 109 1 = some (1, 3) := by kernel_rfl
theorem fo109_2 : fo Try.prog 109 2 = some (2, 104) := by kernel_rfl
theorem fo144_0 : fo Try.prog 144 0 = some (0, 107) := by kernel_rfl
theorem fo144_1 : fo Try.prog 144 1 = some (1, 142) := by kernel_rfl
theorem fo144_2 : fo Try.prog 144 2 = some (2, 141) := by kernel_rfl
theorem fo144_3 : fo Try.prog 144 3 = some (3, 3) := by kernel_rfl
theorem fo146_0 : fo Try.prog 146 0 = some (0, 3) := by kernel_rfl
theorem fo146_1 : fo Try.prog 146 1 = some (1, 35) := by kernel_rfl
theorem fo151_0 : fo Try.prog 151 0 = some (0, 114) := by kernel_rfl
theorem fo151_1 : fo Try.prog 151 1 = some (1, 149) := by kernel_rfl
theorem fo151_2 : fo Try.prog 151 2 = some (2, 141) := by kernel_rfl
theorem fo151_3 : fo Try.prog 151 3 = some (3, 3) := by kernel_rfl
theorem fo153_0 : fo Try.prog 153 0 = some (0, 3) := by kernel_rfl
theorem fo153_1 : fo Try.prog 153 1 = some (1, 51) := by kernel_rfl
theorem ikd3_45 : ikd Try.prog 3 45 = some .u32 := by kernel_rfl
theorem ikd22_3 : ikd Try.prog 22 3 = some .i64 := by kernel_rfl
theorem pls29 : pls Try.prog 29 = some ([.int .i64 0, .int .i64 0], [(0, 1), (1, 1)]) := by kernel_rfl
theorem pls35 : pls Try.prog 35 = some ([.int .i64 0, .int .i64 0, .int .i64 0, .int .i64 0], [(0, 1), (1, 1), (2, 2)]) := by kernel_rfl
theorem pls51 : pls Try.prog 51 = some ([.int .i64 0, .int .i64 0, .int .u32 0], [(0, 1), (1, 1), (2, 1)]) := by kernel_rfl
theorem pls96 : pls Try.prog 96 = some ([.int .i64 0, .int .i64 0, .pointer none], [(0, 1), (1, 1), (2, 1)]) := by kernel_rfl
theorem pls109 : pls Try.prog 109 = some ([.int .i64 0, .int .i64 0, .pointer none], [(0, 1), (1, 1), (2, 1)]) := by kernel_rfl
theorem pls144 : pls Try.prog 144 = some ([.nilFunc, .slice none 0 0, .map none, .int .i64 0], [(0, 1), (1, 1), (2, 1), (3, 1)]) := by kernel_rfl
theorem pls146 : pls Try.prog 146 = some ([.int .i64 0, .int .i64 0, .int .i64 0, .int .i64 0, .int .i64 0], [(0, 1), (1, 4)]) := by kernel_rfl
theorem pls151 : pls Try.prog 151 = some ([.nilFunc, .slice none 0 0, .map none, .int .i64 0], [(0, 1), (1, 1), (2, 1), (3, 1)]) := by kernel_rfl
theorem pls153 : pls Try.prog 153 = some ([.int .i64 0, .int .i64 0, .int .i64 0, .int .u32 0], [(0, 1), (1, 3)]) := by kernel_rfl
theorem sz4 : sz Try.prog 4 = some 1 := by kernel_rfl
theorem sz9 : sz Try.prog 9 = some 1 := by kernel_rfl
theorem sz22 : sz Try.prog 22 = some 1 := by kernel_rfl
theorem sz35 : sz Try.prog 35 = some 4 := by kernel_rfl
theorem sz51 : sz Try.prog 51 = some 3 := by kernel_rfl
theorem sz142 : sz Try.prog 142 = some 1 := by kernel_rfl
theorem sz146 : sz Try.prog 146 = some 5 := by kernel_rfl
theorem sz149 : sz Try.prog 149 = some 1 := by kernel_rfl
theorem sz153 : sz Try.prog 153 = some 4 := by kernel_rfl
theorem tk4 : tk Try.prog 4 = some none := by kernel_rfl
theorem tk22 : tk Try.prog 22 = some none := by kernel_rfl
theorem tk29 : tk Try.prog 29 = some (some 2) := by kernel_rfl
theorem tk35 : tk Try.prog 35 = some (some 4) := by kernel_rfl
theorem tk45 : tk Try.prog 45 = some none := by kernel_rfl
theorem tk51 : tk Try.prog 51 = some (some 3) := by kernel_rfl
theorem tk94 : tk Try.prog 94 = some none := by kernel_rfl
theorem tk104 : tk Try.prog 104 = some none := by kernel_rfl
theorem tk107 : tk Try.prog 107 = some none := by kernel_rfl
theorem tk114 : tk Try.prog 114 = some none := by kernel_rfl
theorem tk142 : tk Try.prog 142 = some none := by kernel_rfl
theorem tk146 : tk Try.prog 146 = some (some 5) := by kernel_rfl
theorem tk149 : tk Try.prog 149 = some none := by kernel_rfl
theorem tk153 : tk Try.prog 153 = some (some 4) := by kernel_rfl
theorem ud23 : Try.prog.underlying 23 = some (.slice 22) := by kernel_rfl
theorem ud24 : Try.prog.underlying 24 = some (.pointer 109) := by kernel_rfl
theorem ud36 : Try.prog.underlying 36 = some (.slice 4) := by kernel_rfl
theorem ud42 : Try.prog.underlying 42 = some (.pointer 96) := by kernel_rfl
theorem ud45 : Try.prog.underlying 45 = some (.int .u32) := by kernel_rfl
theorem ud47 : Try.prog.underlying 47 = some (.slice 51) := by kernel_rfl
theorem ud58 : Try.prog.underlying 58 = some (.slice 9) := by kernel_rfl
theorem ud60 : Try.prog.underlying 60 = some (.slice 3) := by kernel_rfl
theorem ud94 : Try.prog.underlying 94 = some (.pointer 151) := by kernel_rfl
theorem ud104 : Try.prog.underlying 104 = some (.pointer 144) := by kernel_rfl
theorem ud142 : Try.prog.underlying 142 = some (.slice 146) := by kernel_rfl
theorem ud149 : Try.prog.underlying 149 = some (.slice 153) := by kernel_rfl
theorem zr3 : zr Try.prog 3 = some [.int .i64 0] := by kernel_rfl
theorem zr4 : zr Try.prog 4 = some [.bool false] := by kernel_rfl
theorem zr9 : zr Try.prog 9 = some [.string ⟨#[]⟩] := by kernel_rfl
theorem zr35 : zr Try.prog 35 = some [.int .i64 0, .int .i64 0, .int .i64 0, .int .i64 0] := by kernel_rfl
theorem zr51 : zr Try.prog 51 = some [.int .i64 0, .int .i64 0, .int .u32 0] := by kernel_rfl
theorem zr146 : zr Try.prog 146 = some [.int .i64 0, .int .i64 0, .int .i64 0, .int .i64 0, .int .i64 0] := by kernel_rfl
theorem zr153 : zr Try.prog 153 = some [.int .i64 0, .int .i64 0, .int .i64 0, .int .u32 0] := by kernel_rfl
theorem kS_h_drop {σ : Type} {J : σ → Asn} {lt : σ → (Int × Int × ByteArray) → (Int × Int × ByteArray) → Bool × σ} {lf : FuncId} {caps : List Value} (hcf : cfn Try.prog lf = true) (hless : ∀ s x y, Ct Try.prog lf ([.agg [.int .i64 x.1, .int .i64 x.2.1, .string x.2.2].toArray, .agg [.int .i64 y.1, .int .i64 y.2.1, .string y.2.2].toArray] ++ caps) [J s] (fun _ : Unit => .bool (lt s x y).1) (fun _ => [J (lt s x y).2])) {b len cap m made : Nat} {a : Option Nat} {rows : List (Nat × (Int × Int × ByteArray))} {s : σ} {t : Int} {i : Nat} {x : Nat × (Int × Int × ByteArray)} (hi : rows[i]? = some x := by assumption) (ht : t = (x.1 : Int)) (hT : Tk rows := by assumption) (hlen : len = rows.length := by first | assumption | omega) (hcap : len ≤ 1000000000 := by omega) : Ct Try.prog 64 [.pointer (some ⟨b, 0, none⟩), .int .i64 t] [cl b 157 [(.func (.func lf) #[] caps.toArray), sl a len cap, .map (some m), .int .i64 ((made : Nat) : Int)], arr a cap 4 159 kS_h_itf (rows), mpI m (atOf (rows)), J s] (fun _ : Unit => .tuple #[.agg [.int .i64 x.2.1, .int .i64 x.2.2.1, .string x.2.2.2].toArray, .int .i64 0]) (fun _ => [cl b 157 [(.func (.func lf) #[] caps.toArray), sl a (takeM lt s rows i).1.length cap, .map (some m), .int .i64 ((made : Nat) : Int)], arr a cap 4 159 kS_h_itf ((takeM lt s rows i).1), mpI m (atOf ((takeM lt s rows i).1)), J (takeM lt s rows i).2]) := by
  refine Ct_body (n := 29) Try.func64 rfl rfl rfl fun F w0 Q hret hnorm hp => ?_
  change WC _ _ _ _ _ _ _ (_ :: _ :: _ :: _ :: F)
  refine WC_sr fun K1 hK1 => ?_
  refine WL_ac (Ac_alloc zr62) rfl rfl rfl ?_
  rintro _ _ ⟨b4, rfl, rfl⟩
  refine WL_rd (Rd_assign rfl) rfl rfl rfl ?_
  refine WL_end hK1 ?_
  refine WC_sr fun K2 hK2 => ?_
  refine WL_ac (Ac_alloc zr62) rfl rfl rfl ?_
  rintro _ _ ⟨b6, rfl, rfl⟩
  refine WL_end hK2 ?_
  refine WC_seq fun K3 hK3 => ?_
  refine WC_sr fun K4 hK4 => ?_
  refine WL_rd (Rd_move rfl) rfl rfl rfl ?_
  refine WL_ac (Ac_call cf85 rfl (hs := kS_h_ok)) rfl rfl rfl ?_
  rintro _ _ ⟨⟨⟩, rfl, hA⟩
  simp only [List.cons_append, List.nil_append] at hA
  replace hA := hA.symm
  subst hA
  refine WL_rd (Rd_not rfl) rfl rfl rfl ?_
  refine WL_end hK4 ?_
  refine WC_condF rfl ?_
  refine WC_skip ?_
  refine Ps_next hK3 ?_
  refine WC_sr fun K5 hK5 => ?_
  refine WL_rd (Rd_move rfl) rfl rfl rfl ?_
  refine WL_rd (Rd_nilCheck rfl) rfl rfl rfl ?_
  refine WL_rd (Rd_fieldAddr rfl fo157_2) rfl rfl rfl ?_
  refine WL_rd (Rd_load rfl tk141) rfl rfl rfl ?_
  refine WL_rd (Rd_move rfl) rfl rfl rfl ?_
  refine WL_rd (Rd_lookup2s rfl rfl ud141 ud3 zv3 (hv := by subst ht; exact atOf_some hT hi)) rfl rfl rfl ?_
  refine WL_rd (Rd_move rfl) rfl rfl rfl ?_
  refine WL_rd (Rd_ext0 rfl) rfl rfl rfl ?_
  refine WL_rd (Rd_ext1 rfl) rfl rfl rfl ?_
  refine WL_rd (Rd_assign rfl) rfl rfl rfl ?_
  refine WL_rd (Rd_assign rfl) rfl rfl rfl ?_
  refine WL_end hK5 ?_
  refine WC_seq fun K6 hK6 => ?_
  refine WC_sr fun K7 hK7 => ?_
  refine WL_rd (Rd_move rfl) rfl rfl rfl ?_
  refine WL_rd (Rd_not rfl) rfl rfl rfl ?_
  refine WL_end hK7 ?_
  refine WC_condF rfl ?_
  refine WC_skip ?_
  refine Ps_next hK6 ?_
  refine WC_sr fun K8 hK8 => ?_
  refine WL_rd (Rd_move rfl) rfl rfl rfl ?_
  refine WL_rd (Rd_move rfl) rfl rfl rfl ?_
  refine WL_ac (Ac_call cf87 rfl (hs := kS_h_take hcf hless (x := x))) rfl rfl rfl ?_
  rintro _ _ ⟨⟨⟩, rfl, hA⟩
  simp only [List.cons_append, List.nil_append] at hA
  replace hA := hA.symm
  subst hA
  refine WL_rd (Rd_fieldg rfl fo159_1 tk62 rfl) rfl rfl rfl ?_
  refine WL_ac0 (Ac_store rfl rfl sz62 (h1 := by simp [Value.cells, Value.oneCell', kS_h_itf])) rfl rfl ?_
  rintro _ _ rfl
  refine WL_rd (Rd_assign rfl) rfl rfl rfl ?_
  refine WL_end hK8 ?_
  refine WC_ret ?_
  exact hret.go () (Rs2ct rfl rfl rfl tk62)

theorem kS_h_drop_no {lf : FuncId} {caps : List Value} {b len cap m made : Nat} {a : Option Nat} {rows : List (Nat × (Int × Int × ByteArray))} {t : Int} (ht : ∀ r ∈ rows, (r.1 : Int) ≠ t) : Ct Try.prog 64 [.pointer (some ⟨b, 0, none⟩), .int .i64 t] [cl b 157 [(.func (.func lf) #[] caps.toArray), sl a len cap, .map (some m), .int .i64 ((made : Nat) : Int)], arr a cap 4 159 kS_h_itf (rows), mpI m (atOf (rows))] (fun _ : Unit => .tuple #[.agg [.int .i64 0, .int .i64 0, .string ⟨#[]⟩].toArray, .int .i64 171]) (fun _ => [cl b 157 [(.func (.func lf) #[] caps.toArray), sl a len cap, .map (some m), .int .i64 ((made : Nat) : Int)], arr a cap 4 159 kS_h_itf (rows), mpI m (atOf (rows))]) := by
  refine Ct_body (n := 29) Try.func64 rfl rfl rfl fun F w0 Q hret hnorm hp => ?_
  change WC _ _ _ _ _ _ _ (_ :: _ :: _ :: F)
  refine WC_sr fun K1 hK1 => ?_
  refine WL_ac (Ac_alloc zr62) rfl rfl rfl ?_
  rintro _ _ ⟨b4, rfl, rfl⟩
  refine WL_rd (Rd_assign rfl) rfl rfl rfl ?_
  refine WL_end hK1 ?_
  refine WC_sr fun K2 hK2 => ?_
  refine WL_ac (Ac_alloc zr62) rfl rfl rfl ?_
  rintro _ _ ⟨b6, rfl, rfl⟩
  refine WL_end hK2 ?_
  refine WC_seq fun K3 hK3 => ?_
  refine WC_sr fun K4 hK4 => ?_
  refine WL_rd (Rd_move rfl) rfl rfl rfl ?_
  refine WL_ac (Ac_call cf85 rfl (hs := kS_h_ok)) rfl rfl rfl ?_
  rintro _ _ ⟨⟨⟩, rfl, hA⟩
  simp only [List.cons_append, List.nil_append] at hA
  replace hA := hA.symm
  subst hA
  refine WL_rd (Rd_not rfl) rfl rfl rfl ?_
  refine WL_end hK4 ?_
  refine WC_condF rfl ?_
  refine WC_skip ?_
  refine Ps_next hK3 ?_
  refine WC_sr fun K5 hK5 => ?_
  refine WL_rd (Rd_move rfl) rfl rfl rfl ?_
  refine WL_rd (Rd_nilCheck rfl) rfl rfl rfl ?_
  refine WL_rd (Rd_fieldAddr rfl fo157_2) rfl rfl rfl ?_
  refine WL_rd (Rd_load rfl tk141) rfl rfl rfl ?_
  refine WL_rd (Rd_move rfl) rfl rfl rfl ?_
  refine WL_rd (Rd_lookup2n rfl rfl ud141 ud3 zv3 (hv := atOf_none ht)) rfl rfl rfl ?_
  refine WL_rd (Rd_move rfl) rfl rfl rfl ?_
  refine WL_rd (Rd_ext0 rfl) rfl rfl rfl ?_
  refine WL_rd (Rd_ext1 rfl) rfl rfl rfl ?_
  refine WL_rd (Rd_assign rfl) rfl rfl rfl ?_
  refine WL_rd (Rd_assign rfl) rfl rfl rfl ?_
  refine WL_end hK5 ?_
  refine WC_seq fun K6 hK6 => ?_
  refine WC_sr fun K7 hK7 => ?_
  refine WL_rd (Rd_move rfl) rfl rfl rfl ?_
  refine WL_rd (Rd_not rfl) rfl rfl rfl ?_
  refine WL_end hK7 ?_
  refine WC_condT rfl ?_
  refine WC_sr fun K8 hK8 => ?_
  refine WL_rd (Rd_loadg rfl tk62) rfl rfl rfl ?_
  refine WL_ac0 (Ac_store rfl rfl sz62 (h1 := by simp [Value.cells, Value.oneCell', kS_h_itf])) rfl rfl ?_
  rintro _ _ rfl
  refine WL_rd (Rd_assign rfl) rfl rfl rfl ?_
  refine WL_end hK8 ?_
  refine WC_ret ?_
  exact hret.go () (Rs2ct rfl rfl rfl tk62)

theorem kS_h_drop_hp {σ : Type} {J : σ → Asn} {lt : σ → (Int × Int × ByteArray) → (Int × Int × ByteArray) → Bool × σ} {lf : FuncId} {caps : List Value} (hcf : cfn Try.prog lf = true) (hless : ∀ s x y, Ct Try.prog lf ([.agg [.int .i64 x.1, .int .i64 x.2.1, .string x.2.2].toArray, .agg [.int .i64 y.1, .int .i64 y.2.1, .string y.2.2].toArray] ++ caps) [J s] (fun _ : Unit => .bool (lt s x y).1) (fun _ => [J (lt s x y).2])) {b made : Nat} {rows : List (Nat × (Int × Int × ByteArray))} {s : σ} {t : Int} {i : Nat} {x : Nat × (Int × Int × ByteArray)} (hi : rows[i]? = some x := by assumption) (ht : t = (x.1 : Int)) (hm : made ≤ 900000000 := by omega) : Ct Try.prog 64 [.pointer (some ⟨b, 0, none⟩), .int .i64 t] [kS_h_hpA (.func (.func lf) #[] caps.toArray) b rows made, J s] (fun _ : Unit => .tuple #[.agg [.int .i64 x.2.1, .int .i64 x.2.2.1, .string x.2.2.2].toArray, .int .i64 0]) (fun _ => [kS_h_hpA (.func (.func lf) #[] caps.toArray) b ((takeM lt s rows i).1) made, J (takeM lt s rows i).2]) :=
  Ct_way fun F w hs => by
    obtain ⟨⟨a, cap, m⟩, hG, hs⟩ := kS_h_hp_open.1 hs
    have hGl := hG.len
    refine ⟨_, _, _, _, kS_h_drop hcf hless (b := b) (a := a) (cap := cap) (m := m) (s := s) (x := x) (i := i) (ht := ht) (hT := hG.1) (hlen := rfl), hs, fun r w' hw => ⟨(), rfl, kS_h_hp_open.2 ⟨(a, cap, m), hG.take hi, hw⟩⟩⟩

theorem kS_h_drop_no_hp {lf : FuncId} {caps : List Value} {b made : Nat} {rows : List (Nat × (Int × Int × ByteArray))} {t : Int} (ht : ∀ r ∈ rows, (r.1 : Int) ≠ t) : Ct Try.prog 64 [.pointer (some ⟨b, 0, none⟩), .int .i64 t] [kS_h_hpA (.func (.func lf) #[] caps.toArray) b rows made] (fun _ : Unit => .tuple #[.agg [.int .i64 0, .int .i64 0, .string ⟨#[]⟩].toArray, .int .i64 171]) (fun _ => [kS_h_hpA (.func (.func lf) #[] caps.toArray) b rows made]) :=
  Ct_way fun F w hs => by
    obtain ⟨⟨a, cap, m⟩, hG, hs⟩ := kS_h_hp_open.1 hs
    have hGl := hG.len
    exact ⟨_, _, _, _, (kS_h_drop_no (b := b) (a := a) (cap := cap) (m := m) (len := rows.length) (made := made) (lf := lf) (caps := caps) (ht := ht)), hs, fun r w' hw => ⟨(), rfl, kS_h_hp_open.2 ⟨(a, cap, m), hG, hw⟩⟩⟩
end Go.Proofs.Ytcemkpiopijbmaa
