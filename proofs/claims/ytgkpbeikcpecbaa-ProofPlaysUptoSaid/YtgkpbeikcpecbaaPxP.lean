/-
  Contracts of functions that the claim reaches, or the logic and the plain laws that they rest on, or the row over them. (Conditions: none beyond the statement.)
-/
import Derived.Test.YtgkpbeikcpecbaaPqTcC
import Derived.Test.YtgkpbeikcpecbaaPfL
set_option linter.all false
namespace Go.Proofs.Ytgkpbeikcpecbaa
open Go.RowKit Go.SL Go.ShM
set_option maxHeartbeats 1000000
set_option maxRecDepth 20000
set_option linter.all false
theorem cf69 : cfn Try.prog 69 = true := by kernel_rfl
theorem cf71 : cfn Try.prog 71 = true := by kernel_rfl
theorem cf76 : cfn Try.prog 76 = true := by kernel_rfl
theorem cf82 : cfn Try.prog 82 = true := by kernel_rfl
theorem cf86 : cfn Try.prog 86 = true := by kernel_rfl
theorem cf148 : cfn Try.prog 148 = true := by kernel_rfl
theorem fo161_0 : fo Try.prog 161 0 = some (0, 3) := by kernel_rfl
theorem fo161_1 : fo Try.prog 161 1 = some (1, 3) := by kernel_rfl
theorem fo161_2 : fo Try.prog 161 2 = some (2, 159) := by kernel_rfl
theorem sz109 : sz Try.prog 109 = some 1 := by kernel_rfl
theorem tk109 : tk Try.prog 109 = some none := by kernel_rfl
theorem tk159 : tk Try.prog 159 = some none := by kernel_rfl
theorem ud121 : Try.prog.underlying 121 = some (.pointer 161) := by kernel_rfl
theorem ud159 : Try.prog.underlying 159 = some (.map 3 42) := by kernel_rfl
theorem zr4 : zr Try.prog 4 = some [.bool false] := by kernel_rfl
theorem zvD42 : ∀ w, (zeroValue 42).run Try.prog w = .ok (dV zD) w := fun w => by kernel_rfl
theorem pLeaves_ct {pb m n w : Nat} {Kn : KM}  : Ct Try.prog 86 [.pointer (some ⟨pb, 0, none⟩)] [cl pb 161 [.int .i64 ((n : Nat) : Int), .int .i64 ((w : Nat) : Int), .map (some m)], mpI m (kv Kn)] (fun _ : Unit => .int .i64 ((n : Nat) : Int)) (fun _ => [cl pb 161 [.int .i64 ((n : Nat) : Int), .int .i64 ((w : Nat) : Int), .map (some m)], mpI m (kv Kn)]) := by
 refine Ct_body (n := 9) Try.func86 rfl rfl rfl fun F w0 Q hret hnorm hp => ?_
 change WC _ _ _ _ _ _ _ (_ :: _ :: F)
 refine WC_sr fun K1 hK1 => ?_
 refine WL_r (Rd_assign rfl) rfl ?_
 refine WL_end hK1 ?_
 refine WC_seq fun K2 hK2 => ?_
 refine WC_sr fun K3 hK3 => ?_
 refine WL_r (Rd_move rfl) rfl ?_
 refine WL_r (Rd_peq rfl rfl ud121) rfl ?_
 refine WL_end hK3 ?_
 refine WC_condF rfl ?_
 refine WC_skip ?_
 refine Ps_next hK2 ?_
 refine WC_sr fun K4 hK4 => ?_
 refine WL_r (Rd_move rfl) rfl ?_
 refine WL_r (Rd_nilCheck rfl) rfl ?_
 refine WL_r (Rd_fieldAddr rfl fo161_0) rfl ?_
 refine WL_r (Rd_load rfl tk3) rfl ?_
 refine WL_r (Rd_assign rfl) rfl ?_
 refine WL_end hK4 ?_
 refine WC_ret ?_
 exact hret.go () (Rs1 rfl rfl)

theorem pWidth_ct {pb m n w : Nat} {Kn : KM}  : Ct Try.prog 75 [.pointer (some ⟨pb, 0, none⟩)] [cl pb 161 [.int .i64 ((n : Nat) : Int), .int .i64 ((w : Nat) : Int), .map (some m)], mpI m (kv Kn)] (fun _ : Unit => .int .i64 ((w : Nat) : Int)) (fun _ => [cl pb 161 [.int .i64 ((n : Nat) : Int), .int .i64 ((w : Nat) : Int), .map (some m)], mpI m (kv Kn)]) := by
 refine Ct_body (n := 9) Try.func75 rfl rfl rfl fun F w0 Q hret hnorm hp => ?_
 change WC _ _ _ _ _ _ _ (_ :: _ :: F)
 refine WC_sr fun K1 hK1 => ?_
 refine WL_r (Rd_assign rfl) rfl ?_
 refine WL_end hK1 ?_
 refine WC_seq fun K2 hK2 => ?_
 refine WC_sr fun K3 hK3 => ?_
 refine WL_r (Rd_move rfl) rfl ?_
 refine WL_r (Rd_peq rfl rfl ud121) rfl ?_
 refine WL_end hK3 ?_
 refine WC_condF rfl ?_
 refine WC_skip ?_
 refine Ps_next hK2 ?_
 refine WC_sr fun K4 hK4 => ?_
 refine WL_r (Rd_move rfl) rfl ?_
 refine WL_r (Rd_nilCheck rfl) rfl ?_
 refine WL_r (Rd_fieldAddr rfl fo161_1) rfl ?_
 refine WL_r (Rd_load rfl tk3) rfl ?_
 refine WL_r (Rd_assign rfl) rfl ?_
 refine WL_end hK4 ?_
 refine WC_ret ?_
 exact hret.go () (Rs1 rfl rfl)

theorem pKnown_ct {pb m n w : Nat} {Kn : KM} {i : Int}  : Ct Try.prog 76 [.pointer (some ⟨pb, 0, none⟩), .int .i64 i] [cl pb 161 [.int .i64 ((n : Nat) : Int), .int .i64 ((w : Nat) : Int), .map (some m)], mpI m (kv Kn)] (fun _ : Unit => .tuple #[aU .u8 ((Kn i).getD zD).1, .bool (Kn i).isSome]) (fun _ => [cl pb 161 [.int .i64 ((n : Nat) : Int), .int .i64 ((w : Nat) : Int), .map (some m)], mpI m (kv Kn)]) := by
 refine Ct_body (n := 22) Try.func76 rfl rfl rfl fun F w0 Q hret hnorm hp => ?_
 change WC _ _ _ _ _ _ _ (_ :: _ :: F)
 have hd := Dg_len ((Kn i).getD zD)
 have hz32 : (List.replicate 32 0#8).length = 32 := rfl
 refine WC_sr fun K1 hK1 => ?_
 refine WL_ac (Ac_allocW (k := .u8) (w := 8) (m := 32) zr42) rfl rfl rfl ?_
 rintro _ _ ⟨b4, rfl, rfl⟩
 refine WL_r (Rd_assign rfl) rfl ?_
 refine WL_end hK1 ?_
 refine WC_seq fun K2 hK2 => ?_
 refine WC_sr fun K3 hK3 => ?_
 refine WL_r (Rd_move rfl) rfl ?_
 refine WL_r (Rd_peq rfl rfl ud121) rfl ?_
 refine WL_end hK3 ?_
 refine WC_condF rfl ?_
 refine WC_skip ?_
 refine Ps_next hK2 ?_
 refine WC_sr fun K4 hK4 => ?_
 refine WL_r (Rd_move rfl) rfl ?_
 refine WL_r (Rd_nilCheck rfl) rfl ?_
 refine WL_r (Rd_fieldAddr rfl fo161_2) rfl ?_
 refine WL_r (Rd_load rfl tk159) rfl ?_
 refine WL_r (Rd_move rfl) rfl ?_
 refine WL_r (Rd_lookD (k := i) rfl rfl ud159 ud3 zvD42) rfl ?_
 refine WL_r (Rd_move rfl) rfl ?_
 refine WL_r (Rd_ext0 rfl) rfl ?_
 refine WL_r (Rd_ext1 rfl) rfl ?_
 refine WL_ac (Ac_allocW (k := .u8) (w := 8) (m := 32) zr42) rfl rfl rfl ?_
 rintro _ _ ⟨b6, rfl, rfl⟩
 refine WL_ac0 (Ac_storeW rfl rfl sz42) rfl rfl ?_
 rintro _ _ rfl
 refine WL_r (Rd_assign rfl) rfl ?_
 refine WL_end hK4 ?_
 refine WC_sr fun K5 hK5 => ?_
 refine WL_r (Rd_loadW (l := ((Kn i).getD zD).1) rfl tk42) rfl ?_
 refine WL_r (Rd_move rfl) rfl ?_
 refine WL_ac0 (Ac_storeW rfl rfl sz42) rfl rfl ?_
 rintro _ _ rfl
 refine WL_r (Rd_assign rfl) rfl ?_
 refine WL_end hK5 ?_
 refine WC_ret ?_
 exact hret.go () (Rs2cW rfl rfl rfl tk42)

theorem pleaf_ct {pb m n w : Nat} {Kn : KM} {i : Int}  : Ct Try.prog 148 [.pointer (some ⟨pb, 0, none⟩), .int .i64 i] [cl pb 161 [.int .i64 ((n : Nat) : Int), .int .i64 ((w : Nat) : Int), .map (some m)], mpI m (kv Kn)] (fun _ : Unit => .bool (lfB n i)) (fun _ => [cl pb 161 [.int .i64 ((n : Nat) : Int), .int .i64 ((w : Nat) : Int), .map (some m)], mpI m (kv Kn)]) := by
 refine Ct_body (n := 13) Try.func148 rfl rfl rfl fun F w0 Q hret hnorm hp => ?_
 change WC _ _ _ _ _ _ _ (_ :: _ :: F)
 refine WC_sr fun K1 hK1 => ?_
 refine WL_r (Rd_assign rfl) rfl ?_
 refine WL_end hK1 ?_
 refine WC_sr fun K2 hK2 => ?_
 refine WL_r (Rd_move rfl) rfl ?_
 refine WL_r (Rd_geq rfl rfl) rfl ?_
 refine WL_r (Rd_move rfl) rfl ?_
 refine WL_bool 7 rfl (fun hg3 => ?_) (fun hg3 => ?_)
 ·try simp only [dz, ne_eq] at hg3
  have q0 := hg3
  refine WL_r (Rd_move rfl) rfl ?_
  refine WL_r (Rd_move rfl) rfl ?_
  refine WL_ac (Ac_call cf86 rfl (hs := pLeaves_ct (pb := pb) (m := m) (n := n) (w := w) (Kn := Kn))) rfl rfl rfl ?_
  rintro _ _ ⟨⟨⟩, rfl, hA⟩
  simp only [List.cons_append, List.nil_append] at hA
  replace hA := hA.symm
  subst hA
  refine WL_r (Rd_lss rfl rfl) rfl ?_
  refine WL_r (Rd_pickT rfl rfl) rfl ?_
  refine WL_r (Rd_assign rfl) rfl ?_
  refine WL_end hK2 ?_
  refine WC_ret ?_
  first | exact hret.goE () (Rs1 rfl rfl) (by unfold lfB; rw [decide_eq_true q0, Bool.true_and]) | exact hret.goE () (Rs1 rfl rfl) (by unfold lfB; rw [decide_eq_false (by omega), Bool.false_and])
 ·try simp only [dz, ne_eq] at hg3
  have q0 := hg3
  refine WL_skip rfl rfl rfl ?_
  refine WL_skip rfl rfl rfl ?_
  refine WL_skip rfl rfl rfl ?_
  refine WL_skip rfl rfl rfl ?_
  refine WL_r (Rd_pickF rfl rfl) rfl ?_
  refine WL_r (Rd_assign rfl) rfl ?_
  refine WL_end hK2 ?_
  refine WC_ret ?_
  first | exact hret.goE () (Rs1 rfl rfl) (by unfold lfB; rw [decide_eq_true q0, Bool.true_and]) | exact hret.goE () (Rs1 rfl rfl) (by unfold lfB; rw [decide_eq_false (by omega), Bool.false_and])

theorem pLeaf_ct {pb m n w : Nat} {Kn : KM} {i : Int} (hn : n ≤ 100000 := by omega) (hw : w ≤ 100000 := by omega) : Ct Try.prog 84 [.pointer (some ⟨pb, 0, none⟩), .int .i64 i] [cl pb 161 [.int .i64 ((n : Nat) : Int), .int .i64 ((w : Nat) : Int), .map (some m)], mpI m (kv Kn)] (fun _ : Unit => .tuple #[aU .u8 ((lfK n w Kn i).getD zD).1, .bool (lfK n w Kn i).isSome]) (fun _ => [cl pb 161 [.int .i64 ((n : Nat) : Int), .int .i64 ((w : Nat) : Int), .map (some m)], mpI m (kv Kn)]) := by
 refine Ct_body (n := 21) Try.func84 rfl rfl rfl fun F w0 Q hret hnorm hp => ?_
 change WC _ _ _ _ _ _ _ (_ :: _ :: F)
 have hz32 : (List.replicate 32 0#8).length = 32 := rfl
 have hd := Dg_len ((Kn ((w : Int) + i)).getD zD)
 refine WC_sr fun K1 hK1 => ?_
 refine WL_ac (Ac_allocW (k := .u8) (w := 8) (m := 32) zr42) rfl rfl rfl ?_
 rintro _ _ ⟨b4, rfl, rfl⟩
 refine WL_r (Rd_assign rfl) rfl ?_
 refine WL_end hK1 ?_
 refine WC_seq fun K2 hK2 => ?_
 refine WC_sr fun K3 hK3 => ?_
 refine WL_r (Rd_move rfl) rfl ?_
 refine WL_r (Rd_move rfl) rfl ?_
 refine WL_ac (Ac_call cf148 rfl (hs := pleaf_ct (pb := pb) (m := m) (n := n) (w := w) (Kn := Kn) (i := i))) rfl rfl rfl ?_
 rintro _ _ ⟨⟨⟩, rfl, hA⟩
 simp only [List.cons_append, List.nil_append] at hA
 replace hA := hA.symm
 subst hA
 refine WL_r (Rd_not rfl) rfl ?_
 refine WL_end hK3 ?_
 refine WC_cond rfl (fun hc0 => ?_) (fun hc0 => ?_)
 ·try simp only [dz, ne_eq] at hc0
  have hl : lfB n i = false := by simpa using hc0
  rw [show lfK n w Kn i = none from by unfold lfK; rw [if_neg (by rw [hl]; decide)]] at hret
  rw [show (Option.getD none zD).1 = (List.replicate 32 0#8) from rfl, show (none : Option Dg).isSome = false from rfl] at hret
  refine WC_sr fun K4 hK4 => ?_
  refine WL_r (Rd_aU (k := .u8) (l := (List.replicate 32 0#8)) (Rd_build pls42 rfl) (by rfl)) rfl ?_
  refine WL_ac0 (Ac_storeW rfl rfl sz42) rfl rfl ?_
  rintro _ _ rfl
  refine WL_r (Rd_assign rfl) rfl ?_
  refine WL_end hK4 ?_
  refine WC_ret ?_
  exact hret.go () (Rs2cW rfl rfl rfl tk42)
 ·try simp only [dz, ne_eq] at hc0
  have hl : lfB n i = true := by simpa using hc0
  have hli := lfB_t.1 hl
  rw [show lfK n w Kn i = Kn ((w : Int) + i) from by unfold lfK; rw [if_pos hl]] at hret
  refine WC_skip ?_
  refine Ps_next hK2 ?_
  refine WC_sr fun K5 hK5 => ?_
  refine WL_r (Rd_move rfl) rfl ?_
  refine WL_r (Rd_move rfl) rfl ?_
  refine WL_r (Rd_nilCheck rfl) rfl ?_
  refine WL_r (Rd_fieldAddr rfl fo161_1) rfl ?_
  refine WL_r (Rd_load rfl tk3) rfl ?_
  refine WL_r (Rd_move rfl) rfl ?_
  refine WL_r (Rd_add' (r := (w : Int) + i) rfl rfl (wr64 rfl (by omega) (by omega))) rfl ?_
  refine WL_ac (Ac_call cf76 rfl (hs := pKnown_ct (pb := pb) (m := m) (n := n) (w := w) (Kn := Kn) (i := (w : Int) + i))) rfl rfl rfl ?_
  rintro _ _ ⟨⟨⟩, rfl, hA⟩
  simp only [List.cons_append, List.nil_append] at hA
  replace hA := hA.symm
  subst hA
  refine WL_r (Rd_ext0 rfl) rfl ?_
  refine WL_r (Rd_ext1 rfl) rfl ?_
  refine WL_ac0 (Ac_storeW rfl rfl sz42) rfl rfl ?_
  rintro _ _ rfl
  refine WL_r (Rd_assign rfl) rfl ?_
  refine WL_end hK5 ?_
  refine WC_ret ?_
  exact hret.go () (Rs2cW rfl rfl rfl tk42)

theorem pAsked_ct {pb m n w : Nat} {Kn : KM} {i : Int} (hn1 : 1 ≤ n) : Ct Try.prog 147 [.pointer (some ⟨pb, 0, none⟩), .int .i64 i] [cl pb 161 [.int .i64 ((n : Nat) : Int), .int .i64 ((w : Nat) : Int), .map (some m)], mpI m (kv Kn)] (fun _ : Unit => .int .i64 (((askF n i) : Nat) : Int)) (fun _ => [cl pb 161 [.int .i64 ((n : Nat) : Int), .int .i64 ((w : Nat) : Int), .map (some m)], mpI m (kv Kn)]) := by
 refine Ct_body (n := 14) Try.func147 rfl rfl rfl fun F w0 Q hret hnorm hp => ?_
 change WC _ _ _ _ _ _ _ (_ :: _ :: F)
 refine WC_sr fun K1 hK1 => ?_
 refine WL_r (Rd_assign rfl) rfl ?_
 refine WL_end hK1 ?_
 refine WC_seq fun K2 hK2 => ?_
 refine WC_block ?_
 refine WC_sr fun K3 hK3 => ?_
 refine WL_r (Rd_move rfl) rfl ?_
 refine WL_ac (Ac_call cf86 rfl (hs := pLeaves_ct (pb := pb) (m := m) (n := n) (w := w) (Kn := Kn))) rfl rfl rfl ?_
 rintro _ _ ⟨⟨⟩, rfl, hA⟩
 simp only [List.cons_append, List.nil_append] at hA
 replace hA := hA.symm
 subst hA
 refine WL_r (Rd_isF (Rd_eqlN (j := 0) rfl rfl)) rfl ?_
 refine WL_r (Rd_assign rfl) rfl ?_
 refine WL_end hK3 ?_
 refine WC_condF rfl ?_
 refine WC_sr fun K4 hK4 => ?_
 refine WL_r (Rd_move rfl) rfl ?_
 refine WL_r (Rd_move rfl) rfl ?_
 refine WL_ac (Ac_call cf148 rfl (hs := pleaf_ct (pb := pb) (m := m) (n := n) (w := w) (Kn := Kn) (i := i))) rfl rfl rfl ?_
 rintro _ _ ⟨⟨⟩, rfl, hA⟩
 simp only [List.cons_append, List.nil_append] at hA
 replace hA := hA.symm
 subst hA
 refine WL_r (Rd_not rfl) rfl ?_
 refine WL_r (Rd_assign rfl) rfl ?_
 refine WL_end hK4 ?_
 refine WC_cond rfl (fun hc1 => ?_) (fun hc1 => ?_)
 ·try simp only [dz, ne_eq] at hc1
  have hl : lfB n i = false := by simpa using hc1
  rw [show askF n i = 111 from by unfold askF; rw [if_neg (by rw [hl]; decide)]] at hret
  refine WC_sr fun K5 hK5 => ?_
  refine WL_r (Rd_assign rfl) rfl ?_
  refine WL_end hK5 ?_
  refine WC_ret ?_
  exact hret.go () (Rs1 rfl rfl)
 ·try simp only [dz, ne_eq] at hc1
  have hl : lfB n i = true := by simpa using hc1
  rw [show askF n i = 0 from by unfold askF; rw [if_pos hl]] at hret
  refine WC_skip ?_
  refine Ps_next hK2 ?_
  refine WC_sr fun K6 hK6 => ?_
  refine WL_r (Rd_assign rfl) rfl ?_
  refine WL_end hK6 ?_
  refine WC_ret ?_
  exact hret.go () (Rs1 rfl rfl)
end Go.Proofs.Ytgkpbeikcpecbaa
namespace Go.Proofs.Ytgkpbeikcpecbaa
open Go.RowKit Go.SL Go.ShM
set_option maxHeartbeats 1000000
set_option maxRecDepth 20000
set_option linter.all false
theorem pls161 : pls Try.prog 161 = some ([.int .i64 0, .int .i64 0, .map none], [(0, 1), (1, 1), (2, 1)]) := by kernel_rfl
theorem pNew_ct {n : Nat} {root : Dg} (h1 : 1 ≤ n) (h2 : n ≤ 512) : Ct Try.prog 72 [.int .i64 ((n : Nat) : Int), aU .u8 root.1] [] (fun g : Nat × Nat => .tuple #[.pointer (some ⟨g.1, 0, none⟩), .int .i64 0]) (fun g => [cl g.1 161 [.int .i64 ((n : Nat) : Int), .int .i64 (((wdM n) : Nat) : Int), .map (some g.2)], mpI g.2 (kv (newK n root))]) := by
 refine Ct_body (n := 89) Try.func72 rfl rfl rfl fun F w0 Q hret hnorm hp => ?_
 change WC _ _ _ _ _ _ _ (F)
 have hwo := wd_ok h1 h2
 have hrl := Dg_len root
 have hwE : wdE n = 0 := hwo.2.2.2.1
 refine WC_sr fun K1 hK1 => ?_
 refine WL_ac (Ac_boxW (k := .u8) rfl) rfl rfl rfl ?_
 rintro _ _ ⟨b3, rfl, rfl⟩
 refine WL_r (Rd_assign rfl) rfl ?_
 refine WL_r (Rd_assign rfl) rfl ?_
 refine WL_end hK1 ?_
 refine WC_sr fun K2 hK2 => ?_
 refine WL_r (Rd_move rfl) rfl ?_
 refine WL_ac (Ac_call cf112 rfl (hs := width_ct (n := ((n : Nat) : Int)))) rfl rfl rfl ?_
 rintro _ _ ⟨⟨⟩, rfl, hA⟩
 simp only [List.cons_append, List.nil_append] at hA
 replace hA := hA.symm
 subst hA
 rw [Int.toNat_natCast, hwE]
 refine WL_r (Rd_move rfl) rfl ?_
 refine WL_r (Rd_ext0 rfl) rfl ?_
 refine WL_r (Rd_ext1 rfl) rfl ?_
 refine WL_r (Rd_assign rfl) rfl ?_
 refine WL_r (Rd_assign rfl) rfl ?_
 refine WL_end hK2 ?_
 refine WC_seq fun K3 hK3 => ?_
 refine WC_sr fun K4 hK4 => ?_
 refine WL_r (Rd_move rfl) rfl ?_
 refine WL_r (Rd_isF (Rd_neqN (j := 0) rfl rfl)) rfl ?_
 refine WL_end hK4 ?_
 refine WC_condF rfl ?_
 refine WC_skip ?_
 refine Ps_next hK3 ?_
 refine WC_sr fun K5 hK5 => ?_
 refine WL_r (Rd_move rfl) rfl ?_
 refine WL_r (Rd_move rfl) rfl ?_
 refine WL_ac (Ac_mkD) rfl rfl rfl ?_
 rintro _ _ ⟨m25, rfl, rfl⟩
 refine WL_r (Rd_build pls161 rfl) rfl ?_
 refine WL_ac (Ac_box (xs := [.int .i64 ((n : Nat) : Int), .int .i64 (((wdM n) : Nat) : Int), .map (some m25)]) rfl rfl) rfl rfl rfl ?_
 rintro _ _ ⟨b27, rfl, rfl⟩
 refine WL_r (Rd_assign rfl) rfl ?_
 refine WL_end hK5 ?_
 refine WC_seq fun K6 hK6 => ?_
 refine WC_sr fun K7 hK7 => ?_
 refine WL_r (Rd_move rfl) rfl ?_
 refine WL_r (Rd_assign rfl) rfl ?_
 refine WL_end hK7 ?_
 refine WC_block ?_
 rw [show kv k0 = kv (padK n (wdM n) 0) from rfl]
 refine WC_loopK (σ := Nat) (fun j => [(9, .int .i64 (((n + j) : Nat) : Int))]) (fun j => [mpI m25 (kv (padK n (wdM n) j))]) (fun j => j ≤ (wdM n) - n) (fun j => (wdM n) - n - j) (0) [3, 4, 5, 6, 8, 10, 11, 12, 13, 14, 44, 45, 46, 47, 48, 49, 50, 51, 52, 53, 54, 55, 56, 57, 58, 59, 60, 61, 62, 63, 64, 65, 66, 67, 68, 69, 70, 71, 72, 73, 74, 75, 76, 77, 78, 79, 80, 81, 82, 83, 84, 85, 86, 87, 88] kpA (by (try dsimp only); repeat (first | with_reducible exact Gv.nil | (with_reducible apply Gv.cons; · (repeat (first | with_reducible exact Ext.here | with_reducible apply Ext.there))))) ?_ ?_ Sub.refl ?_
 ·exact Nat.zero_le _
 ·(try dsimp only); exact (Wk.cons lkA Wk.nil)
 ·rintro j hj K8 hK8
  simp only [List.cons_append, List.nil_append]
  refine WC_seq fun K9 hK9 => ?_
  refine WC_sr fun K10 hK10 => ?_
  refine WL_r (Rd_move rfl) rfl ?_
  refine WL_r (Rd_move rfl) rfl ?_
  refine WL_r (Rd_lssN rfl rfl) rfl ?_
  refine WL_end hK10 ?_
  refine WC_cond rfl (fun hc1 => ?_) (fun hc1 => ?_)
  ·try simp only [dz, ne_eq] at hc1
   refine WC_skip ?_
   refine Ps_next hK9 ?_
   refine WC_seq fun K11 hK11 => ?_
   refine WC_block ?_
   refine WC_drawA mix (fun i => ([2, 2, 2, 2, 2, 2, 2, 2, 2, 1, 0] : List Nat).getD i 0) ?_
   refine WJ_tp 0 rfl (Rd_move rfl) rfl (hp _ _) ?_
   refine WJ_tp 1 rfl (Rd_nilCheck rfl) rfl (hp _ _) ?_
   refine WJ_tp 2 rfl (Rd_fieldAddr rfl fo161_2) rfl (hp _ _) ?_
   refine WJ_tk 3 (Rd_load rfl tk159) hp ?_ rfl (by kernel_rfl) rfl rfl rfl
   refine WJ_tp 4 rfl (Rd_move rfl) rfl (hp _ _) ?_
   refine WJ_tp 5 rfl (Rd_move rfl) rfl (hp _ _) ?_
   refine WJ_tp 6 rfl (Rd_addN rfl rfl) rfl (hp _ _) ?_
   refine WJ_tp 7 rfl (Rd_move rfl) rfl (hp _ _) ?_
   refine WJ_tp 8 rfl (Rd_convNU rfl ikd3_24 (h' := uk32)) rfl (hp _ _) ?_
   refine WJ_all (rs := [9]) (by kernel_rfl) rfl ?_
   refine WI_one ?_
   refine WI_ac rfl (Ac_call cf108 rfl (hs := padT_ct (x := BitVec.ofNat 32 (n + j)))) rfl rfl rfl rfl ?_
   rintro _ _ ⟨⟨⟩, rfl, hA⟩
   simp only [List.cons_append, List.nil_append] at hA
   replace hA := hA.symm
   subst hA
   refine ⟨(fun _ => subA), ?_⟩
   refine WJ_all (rs := [10]) (by kernel_rfl) rfl ?_
   refine WI_one ?_
   refine WI_ac0 rfl (Ac_mapD (padD (n + j)) rfl rfl rfl ud159 ud3) rfl rfl rfl ?_
   rintro _ _ rfl
   refine ⟨(fun h => by cases h), ?_⟩
   rw [show kset (padK n (wdM n) j) ((((wdM n) + (n + j) : Nat)) : Int) (padD (n + j)) = (padK n (wdM n) (j + 1)) from rfl]
   refine WJ_done (by kernel_rfl) ?_
   refine Ps_next hK11 ?_
   refine WC_region ?_
   refine WL_r (Rd_move rfl) rfl ?_
   refine WL_r (Rd_addN (j := 1) rfl rfl) rfl ?_
   refine WL_r (Rd_assign rfl) rfl ?_
   refine WL_nil ?_
   refine Ps_wkA (hK8 (j + 1) (by omega) (by omega))
  ·try simp only [dz, ne_eq] at hc1
   obtain rfl : j = (wdM n) - n := by omega
   refine WC_exit ?_
   refine Ps_next hK6 ?_
   refine WC_seq fun K12 hK12 => ?_
   refine WC_drawA mix (fun i => ([2, 2, 2, 2, 2, 0] : List Nat).getD i 0) ?_
   refine WJ_tp 0 rfl (Rd_move rfl) rfl (hp _ _) ?_
   refine WJ_tp 1 rfl (Rd_nilCheck rfl) rfl (hp _ _) ?_
   refine WJ_tp 2 rfl (Rd_fieldAddr rfl fo161_2) rfl (hp _ _) ?_
   refine WJ_tk 3 (Rd_load rfl tk159) hp ?_ rfl (by kernel_rfl) rfl rfl rfl
   refine WJ_tk 4 (Rd_loadW rfl tk42) hp ?_ rfl (by kernel_rfl) rfl rfl rfl
   refine WJ_all (rs := [5]) (by kernel_rfl) rfl ?_
   refine WI_one ?_
   refine WI_ac0 rfl (Ac_mapD root rfl rfl rfl ud159 ud3) rfl rfl rfl ?_
   rintro _ _ rfl
   refine ⟨(fun h => by cases h), ?_⟩
   refine WJ_done (by kernel_rfl) ?_
   refine Ps_next hK12 ?_
   refine WC_seq fun K13 hK13 => ?_
   refine WC_sr fun K14 hK14 => ?_
   refine WL_r (Rd_move rfl) rfl ?_
   refine WL_r (Rd_subN (j := 1) rfl rfl) rfl ?_
   refine WL_r (Rd_assign rfl) rfl ?_
   refine WL_end hK14 ?_
   refine WC_block ?_
   rw [show kset (padK n (wdM n) ((wdM n) - n)) 1 root = (upK (kset (padK n (wdM n) ((wdM n) - n)) 1 root) (wdM n) 0) from rfl]
   refine WC_loopK (σ := Nat) (fun q => [(10, .int .i64 ((((wdM n) - 1 - q) : Nat) : Int))]) (fun q => [mpI m25 (kv (upK (kset (padK n (wdM n) ((wdM n) - n)) 1 root) (wdM n) q))]) (fun q => q ≤ (wdM n) - 2) (fun q => (wdM n) - q) (0) [4, 5, 8, 88] kpA (by (try dsimp only); repeat (first | with_reducible exact Gv.nil | (with_reducible apply Gv.cons; · (repeat (first | with_reducible exact Ext.here | with_reducible apply Ext.there))))) ?_ ?_ Sub.refl ?_
   ·exact Nat.zero_le _
   ·(try dsimp only); exact (Wk.cons lkA Wk.nil)
   ·rintro q hq K15 hK15
    simp only [List.cons_append, List.nil_append]
    have hdl := Dg_len (((upK (kset (padK n (wdM n) ((wdM n) - n)) 1 root) (wdM n) q) (((2 * ((wdM n) - 1 - q) : Nat)) : Int)).getD zD)
    have hdr := Dg_len (((upK (kset (padK n (wdM n) ((wdM n) - n)) 1 root) (wdM n) q) (((2 * ((wdM n) - 1 - q) + 1 : Nat)) : Int)).getD zD)
    refine WC_seq fun K16 hK16 => ?_
    refine WC_sr fun K17 hK17 => ?_
    refine WL_r (Rd_move rfl) rfl ?_
    refine WL_r (Rd_gtrN (j := 1) rfl rfl) rfl ?_
    refine WL_end hK17 ?_
    refine WC_cond rfl (fun hc2 => ?_) (fun hc2 => ?_)
    ·try simp only [dz, ne_eq] at hc2
     refine WC_skip ?_
     refine Ps_next hK16 ?_
     refine WC_seq fun K18 hK18 => ?_
     refine WC_block ?_
     refine WC_sr fun K19 hK19 => ?_
     refine WL_r (Rd_move rfl) rfl ?_
     refine WL_r (Rd_nilCheck rfl) rfl ?_
     refine WL_r (Rd_fieldAddr rfl fo161_2) rfl ?_
     refine WL_r (Rd_load rfl tk159) rfl ?_
     refine WL_r (Rd_move rfl) rfl ?_
     refine WL_r (Rd_mulN (i := 2) rfl rfl) rfl ?_
     refine WL_r (Rd_lookD (k := (((2 * ((wdM n) - 1 - q) : Nat)) : Int)) rfl rfl ud159 ud3 zvD42) rfl ?_
     refine WL_r (Rd_move rfl) rfl ?_
     refine WL_r (Rd_ext0 rfl) rfl ?_
     refine WL_r (Rd_ext1 rfl) rfl ?_
     refine WL_ac (Ac_allocW (k := .u8) (w := 8) (m := 32) zr42) rfl rfl rfl ?_
     rintro _ _ ⟨b11, rfl, rfl⟩
     refine WL_ac0 (Ac_storeW rfl rfl sz42) rfl rfl ?_
     rintro _ _ rfl
     refine WL_r (Rd_assign rfl) rfl ?_
     refine WL_end hK19 ?_
     refine WC_sr fun K20 hK20 => ?_
     refine WL_r (Rd_move rfl) rfl ?_
     refine WL_r (Rd_nilCheck rfl) rfl ?_
     refine WL_r (Rd_fieldAddr rfl fo161_2) rfl ?_
     refine WL_r (Rd_load rfl tk159) rfl ?_
     refine WL_r (Rd_move rfl) rfl ?_
     refine WL_r (Rd_mulN (i := 2) rfl rfl) rfl ?_
     refine WL_r (Rd_addN (j := 1) rfl rfl) rfl ?_
     refine WL_r (Rd_lookD (k := (((2 * ((wdM n) - 1 - q) + 1 : Nat)) : Int)) rfl rfl ud159 ud3 zvD42) rfl ?_
     refine WL_r (Rd_move rfl) rfl ?_
     refine WL_r (Rd_ext0 rfl) rfl ?_
     refine WL_r (Rd_ext1 rfl) rfl ?_
     refine WL_ac (Ac_allocW (k := .u8) (w := 8) (m := 32) zr42) rfl rfl rfl ?_
     rintro _ _ ⟨b13, rfl, rfl⟩
     refine WL_ac0 (Ac_storeW rfl rfl sz42) rfl rfl ?_
     rintro _ _ rfl
     refine WL_r (Rd_assign rfl) rfl ?_
     refine WL_end hK20 ?_
     refine WC_sr fun K21 hK21 => ?_
     refine WL_r (Rd_move rfl) rfl ?_
     refine WL_r (Rd_move rfl) rfl ?_
     refine WL_bool 77 rfl (fun hg22 => ?_) (fun hg22 => ?_)
     ·try simp only [dz, ne_eq] at hg22
      have q0 := hg22
      refine WL_r (Rd_move rfl) rfl ?_
      refine WL_r (Rd_pickT rfl rfl) rfl ?_
      refine WL_end hK21 ?_
      refine WC_cond rfl (fun hc3 => ?_) (fun hc3 => ?_)
      ·try simp only [dz, ne_eq] at hc3
       refine WC_drawA mix (fun i => ([2, 2, 2, 2, 2, 2, 2, 1, 0] : List Nat).getD i 0) ?_
       refine WJ_tp 0 rfl (Rd_move rfl) rfl (hp _ _) ?_
       refine WJ_tp 1 rfl (Rd_nilCheck rfl) rfl (hp _ _) ?_
       refine WJ_tp 2 rfl (Rd_fieldAddr rfl fo161_2) rfl (hp _ _) ?_
       refine WJ_tk 3 (Rd_load rfl tk159) hp ?_ rfl (by kernel_rfl) rfl rfl rfl
       refine WJ_tp 4 rfl (Rd_move rfl) rfl (hp _ _) ?_
       refine WJ_tk 5 (Rd_loadW (l := (((upK (kset (padK n (wdM n) ((wdM n) - n)) 1 root) (wdM n) q) (((2 * ((wdM n) - 1 - q) : Nat)) : Int)).getD zD).1) rfl tk42) hp ?_ rfl (by kernel_rfl) rfl rfl rfl
       refine WJ_tk 6 (Rd_loadW (l := (((upK (kset (padK n (wdM n) ((wdM n) - n)) 1 root) (wdM n) q) (((2 * ((wdM n) - 1 - q) + 1 : Nat)) : Int)).getD zD).1) rfl tk42) hp ?_ rfl (by kernel_rfl) rfl rfl rfl
       refine WJ_all (rs := [7]) (by kernel_rfl) rfl ?_
       refine WI_one ?_
       refine WI_ac rfl (Ac_call cf113 rfl (hs := node_ct (x := (((upK (kset (padK n (wdM n) ((wdM n) - n)) 1 root) (wdM n) q) (((2 * ((wdM n) - 1 - q) : Nat)) : Int)).getD zD).1) (y := (((upK (kset (padK n (wdM n) ((wdM n) - n)) 1 root) (wdM n) q) (((2 * ((wdM n) - 1 - q) + 1 : Nat)) : Int)).getD zD).1) (hx := Dg_len _) (hy := Dg_len _))) rfl rfl rfl rfl ?_
       rintro _ _ ⟨⟨⟩, rfl, hA⟩
       simp only [List.cons_append, List.nil_append] at hA
       replace hA := hA.symm
       subst hA
       refine ⟨(fun _ => subA), ?_⟩
       refine WJ_all (rs := [8]) (by kernel_rfl) rfl ?_
       refine WI_one ?_
       refine WI_ac0 rfl (Ac_mapD (nodeD (((upK (kset (padK n (wdM n) ((wdM n) - n)) 1 root) (wdM n) q) (((2 * ((wdM n) - 1 - q) : Nat)) : Int)).getD zD) (((upK (kset (padK n (wdM n) ((wdM n) - n)) 1 root) (wdM n) q) (((2 * ((wdM n) - 1 - q) + 1 : Nat)) : Int)).getD zD)) rfl rfl rfl ud159 ud3) rfl rfl rfl ?_
       rintro _ _ rfl
       refine ⟨(fun h => by cases h), ?_⟩
       rw [show kset (upK (kset (padK n (wdM n) ((wdM n) - n)) 1 root) (wdM n) q) (((((wdM n) - 1 - q) : Nat)) : Int) (nodeD (((upK (kset (padK n (wdM n) ((wdM n) - n)) 1 root) (wdM n) q) (((2 * ((wdM n) - 1 - q) : Nat)) : Int)).getD zD) (((upK (kset (padK n (wdM n) ((wdM n) - n)) 1 root) (wdM n) q) (((2 * ((wdM n) - 1 - q) + 1 : Nat)) : Int)).getD zD)) = (upK (kset (padK n (wdM n) ((wdM n) - n)) 1 root) (wdM n) (q + 1)) from (stepK_yes (kis q0) (kis hc3)).symm]
       refine WJ_done (by kernel_rfl) ?_
       refine Ps_next hK18 ?_
       refine WC_region ?_
       refine WL_r (Rd_move rfl) rfl ?_
       refine WL_r (Rd_subN (j := 1) rfl rfl) rfl ?_
       rw [show ((wdM n) - 1 - q) - 1 = (wdM n) - 1 - (q + 1) from rfl]
       refine WL_r (Rd_assign rfl) rfl ?_
       refine WL_nil ?_
       refine Ps_wkA (hK15 (q + 1) (by omega) (by omega))
      ·try simp only [dz, ne_eq] at hc3
       first | (have hst : stepK (upK (kset (padK n (wdM n) ((wdM n) - n)) 1 root) (wdM n) q) ((wdM n) - 1 - q) = (upK (kset (padK n (wdM n) ((wdM n) - n)) 1 root) (wdM n) q) := stepK_no (.inl (by simpa using q0))) | (have hst : stepK (upK (kset (padK n (wdM n) ((wdM n) - n)) 1 root) (wdM n) q) ((wdM n) - 1 - q) = (upK (kset (padK n (wdM n) ((wdM n) - n)) 1 root) (wdM n) q) := stepK_no (.inr (by simpa using hc3)))
       rw [show (upK (kset (padK n (wdM n) ((wdM n) - n)) 1 root) (wdM n) q) = (upK (kset (padK n (wdM n) ((wdM n) - n)) 1 root) (wdM n) (q + 1)) from hst.symm]
       refine WC_skip ?_
       refine Ps_next hK18 ?_
       refine WC_region ?_
       refine WL_r (Rd_move rfl) rfl ?_
       refine WL_r (Rd_subN (j := 1) rfl rfl) rfl ?_
       rw [show ((wdM n) - 1 - q) - 1 = (wdM n) - 1 - (q + 1) from rfl]
       refine WL_r (Rd_assign rfl) rfl ?_
       refine WL_nil ?_
       refine Ps_wkA (hK15 (q + 1) (by omega) (by omega))
     ·try simp only [dz, ne_eq] at hg22
      have q0 := hg22
      refine WL_skip rfl rfl rfl ?_
      refine WL_r (Rd_pickF rfl rfl) rfl ?_
      refine WL_end hK21 ?_
      refine WC_condF rfl ?_
      first | (have hst : stepK (upK (kset (padK n (wdM n) ((wdM n) - n)) 1 root) (wdM n) q) ((wdM n) - 1 - q) = (upK (kset (padK n (wdM n) ((wdM n) - n)) 1 root) (wdM n) q) := stepK_no (.inl (by simpa using q0))) | (have hst : stepK (upK (kset (padK n (wdM n) ((wdM n) - n)) 1 root) (wdM n) q) ((wdM n) - 1 - q) = (upK (kset (padK n (wdM n) ((wdM n) - n)) 1 root) (wdM n) q) := stepK_no (.inr (by simpa using hc3)))
      rw [show (upK (kset (padK n (wdM n) ((wdM n) - n)) 1 root) (wdM n) q) = (upK (kset (padK n (wdM n) ((wdM n) - n)) 1 root) (wdM n) (q + 1)) from hst.symm]
      refine WC_skip ?_
      refine Ps_next hK18 ?_
      refine WC_region ?_
      refine WL_r (Rd_move rfl) rfl ?_
      refine WL_r (Rd_subN (j := 1) rfl rfl) rfl ?_
      rw [show ((wdM n) - 1 - q) - 1 = (wdM n) - 1 - (q + 1) from rfl]
      refine WL_r (Rd_assign rfl) rfl ?_
      refine WL_nil ?_
      refine Ps_wkA (hK15 (q + 1) (by omega) (by omega))
    ·try simp only [dz, ne_eq] at hc2
     obtain rfl : q = (wdM n) - 2 := by omega
     rw [show (upK (kset (padK n (wdM n) ((wdM n) - n)) 1 root) (wdM n) ((wdM n) - 2)) = (newK n root) from rfl]
     refine WC_exit ?_
     refine Ps_next hK13 ?_
     refine WC_sr fun K23 hK23 => ?_
     refine WL_r (Rd_move rfl) rfl ?_
     refine WL_r (Rd_assign rfl) rfl ?_
     refine WL_r (Rd_assign rfl) rfl ?_
     refine WL_end hK23 ?_
     refine WC_ret ?_
     exact hret.go (b27, m25) (Rs2 rfl rfl rfl)

theorem pNew_no {n : Int} {root : Dg} (h1 : n < 1 ∨ 512 < n) : Ct Try.prog 72 [.int .i64 n, aU .u8 root.1] [] (fun _ : Unit => .tuple #[.pointer none, .int .i64 110]) (fun _ => []) := by
 refine Ct_body (n := 89) Try.func72 rfl rfl rfl fun F w0 Q hret hnorm hp => ?_
 change WC _ _ _ _ _ _ _ (F)
 have hrl := Dg_len root
 have hwE : wdE n.toNat = 110 := (wd_no (by omega)).2
 refine WC_sr fun K1 hK1 => ?_
 refine WL_ac (Ac_boxW (k := .u8) rfl) rfl rfl rfl ?_
 rintro _ _ ⟨b3, rfl, rfl⟩
 refine WL_r (Rd_assign rfl) rfl ?_
 refine WL_r (Rd_assign rfl) rfl ?_
 refine WL_end hK1 ?_
 refine WC_sr fun K2 hK2 => ?_
 refine WL_r (Rd_move rfl) rfl ?_
 refine WL_ac (Ac_call cf112 rfl (hs := width_ct (n := n))) rfl rfl rfl ?_
 rintro _ _ ⟨⟨⟩, rfl, hA⟩
 simp only [List.cons_append, List.nil_append] at hA
 replace hA := hA.symm
 subst hA
 rw [hwE]
 refine WL_r (Rd_move rfl) rfl ?_
 refine WL_r (Rd_ext0 rfl) rfl ?_
 refine WL_r (Rd_ext1 rfl) rfl ?_
 refine WL_r (Rd_assign rfl) rfl ?_
 refine WL_r (Rd_assign rfl) rfl ?_
 refine WL_end hK2 ?_
 refine WC_seq fun K3 hK3 => ?_
 refine WC_sr fun K4 hK4 => ?_
 refine WL_r (Rd_move rfl) rfl ?_
 refine WL_r (Rd_isT (Rd_neqN (j := 0) rfl rfl)) rfl ?_
 refine WL_end hK4 ?_
 refine WC_condT rfl ?_
 refine WC_sr fun K5 hK5 => ?_
 refine WL_r (Rd_move rfl) rfl ?_
 refine WL_r (Rd_assign rfl) rfl ?_
 refine WL_r (Rd_assign rfl) rfl ?_
 refine WL_end hK5 ?_
 refine WC_ret ?_
 exact hret.go () (Rs2 rfl rfl rfl)
end Go.Proofs.Ytgkpbeikcpecbaa
namespace Go.Proofs.Ytgkpbeikcpecbaa
open Go.RowKit Go.SL Go.ShM
set_option maxHeartbeats 1000000
set_option maxRecDepth 20000
set_option linter.all false
theorem cf147 : cfn Try.prog 147 = true := by kernel_rfl
theorem tk121 : tk Try.prog 121 = some none := by kernel_rfl
theorem pNeeds_ct {pb m n w : Nat} {Kn : KM} {i0 : Int} (hw : w = wdM n) (h1 : 1 ≤ n) (h2 : n ≤ 512) : Ct Try.prog 83 [.pointer (some ⟨pb, 0, none⟩), .int .i64 i0] [cl pb 161 [.int .i64 ((n : Nat) : Int), .int .i64 ((w : Nat) : Int), .map (some m)], mpI m (kv Kn)] (fun g : Option Nat × Nat => .tuple #[sl g.1 (ndsN n Kn i0).length g.2, .int .i64 (((askF n i0) : Nat) : Int)]) (fun g => [cl pb 161 [.int .i64 ((n : Nat) : Int), .int .i64 ((w : Nat) : Int), .map (some m)], mpI m (kv Kn), arr g.1 g.2 1 3 eN (ndsN n Kn i0)]) := by
 refine Ct_body (n := 54) Try.func83 rfl rfl rfl fun F w0 Q hret hnorm hp => ?_
 change WC _ _ _ _ _ _ _ (_ :: _ :: F)
 subst hw
 have hwo := wd_ok h1 h2
 refine WC_sr fun K1 hK1 => ?_
 refine WL_ac (Ac_box (xs := [.pointer (some ⟨pb, 0, none⟩)]) rfl rfl) rfl rfl rfl ?_
 rintro _ _ ⟨b2, rfl, rfl⟩
 refine WL_r (Rd_assign (v := sl none 0 0) rfl) rfl ?_
 refine WL_r (Rd_assign rfl) rfl ?_
 refine WL_end hK1 ?_
 refine WC_seq fun K2 hK2 => ?_
 refine WC_sr fun K3 hK3 => ?_
 refine WL_r (Rd_load rfl tk121 (v := .pointer (some ⟨pb, 0, none⟩))) rfl ?_
 refine WL_r (Rd_move rfl) rfl ?_
 refine WL_ac (Ac_call cf147 rfl (hs := pAsked_ct (pb := pb) (m := m) (n := n) (w := wdM n) (Kn := Kn) (i := i0) (hn1 := h1))) rfl rfl rfl ?_
 rintro _ _ ⟨⟨⟩, rfl, hA⟩
 simp only [List.cons_append, List.nil_append] at hA
 replace hA := hA.symm
 subst hA
 refine WL_r (Rd_assign rfl) rfl ?_
 refine WL_end hK3 ?_
 refine WC_sr fun K4 hK4 => ?_
 refine WL_r (Rd_move rfl) rfl ?_
 refine WL_r (Rd_neqN (j := 0) rfl rfl) rfl ?_
 refine WL_end hK4 ?_
 refine WC_cond rfl (fun hc0 => ?_) (fun hc0 => ?_)
 ·try simp only [dz, ne_eq] at hc0
  have hlb : lfB n i0 = false := by by_cases q : lfB n i0 = true; exact absurd (askF_0.2 (lfB_t.1 q)) hc0; simpa using q
  rw [show ndsN n Kn i0 = [] from by unfold ndsN; rw [if_neg (by rw [hlb]; decide)]] at hret
  refine WC_imp (fun w h => sat_nil (e := 1) (T := 3) (f := eN) h) ?_
  refine WC_sr fun K5 hK5 => ?_
  refine WL_r (Rd_move rfl) rfl ?_
  refine WL_r (Rd_assign (v := sl none 0 0) rfl) rfl ?_
  refine WL_r (Rd_assign rfl) rfl ?_
  refine WL_end hK5 ?_
  refine WC_ret ?_
  first | exact hret.go (none, 0) (Rs2 rfl rfl rfl) | exact hret.go (a', cap') (Rs2 rfl rfl rfl)
 ·try simp only [dz, ne_eq] at hc0
  have hli := askF_0.1 hc0
  have hlb : lfB n i0 = true := lfB_t.2 hli
  have hnl := nd_le ((n : Nat) : Int) i0
  have hnd : ndM ((n : Nat) : Int) i0 = wdM n + i0.toNat := by rw [(nd_ok (n := ((n : Nat) : Int)) (l := i0) (by rw [Int.toNat_natCast]; exact hwo.2.2.2.1) hli.1 hli.2).2, Int.toNat_natCast]
  rw [hc0, show ndsN n Kn i0 = needF Kn (wdM n + i0.toNat) from by unfold ndsN; rw [if_pos hlb]] at hret
  refine WC_skip ?_
  refine Ps_next hK2 ?_
  refine WC_sr fun K6 hK6 => ?_
  refine WL_ac (Ac_alloc zr101) rfl rfl rfl ?_
  rintro _ _ ⟨b7, rfl, rfl⟩
  refine WL_end hK6 ?_
  refine WC_seq fun K7 hK7 => ?_
  refine WC_sr fun K8 hK8 => ?_
  refine WL_r (Rd_load rfl tk121 (v := .pointer (some ⟨pb, 0, none⟩))) rfl ?_
  refine WL_r (Rd_nilCheck rfl) rfl ?_
  refine WL_r (Rd_fieldAddr rfl fo161_0) rfl ?_
  refine WL_r (Rd_load rfl tk3 (v := .int .i64 ((n : Nat) : Int))) rfl ?_
  refine WL_r (Rd_move rfl) rfl ?_
  refine WL_ac (Ac_call cf126 rfl (hs := up_ct (n := ((n : Nat) : Int)) (l := i0))) rfl rfl rfl ?_
  rintro _ _ ⟨u24, rfl, hA⟩
  simp only [List.cons_append, List.nil_append] at hA
  replace hA := hA.symm
  subst hA
  refine WL_end hK8 ?_
  refine WC_block ?_
  refine WC_imp (fun w h => sat_nil (e := 1) (T := 3) (f := eN) h) ?_
  rw [show cl b7 101 [.slice none 0 0] = cl b7 101 [sl none ([] : List Nat).length 0] from rfl]
  refine WC_rf (f := 184) (caps := [.pointer (some ⟨u24, 0, none⟩)]) rfl cf184 fun lrf_0 Drf_0 rrf_0 hstrf_0 hpdrf_0 hparf_0 hasrf_0 hbdrf_0 hfrrf_0 => ?_
  have hyrf_0 : ∀ (i : Nat), 1 ≤ i → i ≤ 1024 → Yd Try.prog lrf_0 [.int .i64 ((i : Nat) : Int)] [(fun (i : Nat) => exA (fun (⟨ns, a', cap'⟩ : (List Nat) × (Option Nat) × Nat) => ns ++ needF Kn i = needF Kn (wdM n + i0.toNat) ∧ ns.length + i ≤ 2048) (fun (⟨ns, a', cap'⟩ : (List Nat) × (Option Nat) × Nat) => [lp lrf_0 rrf_0, cl b7 101 [sl a' ns.length cap'], arr a' cap' 1 3 eN ns, cl b2 121 [.pointer (some ⟨pb, 0, none⟩)], cl pb 161 [.int .i64 ((n : Nat) : Int), .int .i64 (((wdM n) : Nat) : Int), .map (some m)], mpI m (kv Kn)])) i] (fun b : Bool => .bool b) (fun b => [bif b then (fun (i : Nat) => exA (fun (⟨ns, a', cap'⟩ : (List Nat) × (Option Nat) × Nat) => ns ++ needF Kn i = needF Kn (wdM n + i0.toNat) ∧ ns.length + i ≤ 2048) (fun (⟨ns, a', cap'⟩ : (List Nat) × (Option Nat) × Nat) => [lp lrf_0 rrf_0, cl b7 101 [sl a' ns.length cap'], arr a' cap' 1 3 eN ns, cl b2 121 [.pointer (some ⟨pb, 0, none⟩)], cl pb 161 [.int .i64 ((n : Nat) : Int), .int .i64 (((wdM n) : Nat) : Int), .map (some m)], mpI m (kv Kn)])) (i / 2) else (exA (fun (⟨ns, a', cap'⟩ : (List Nat) × (Option Nat) × Nat) => ns = needF Kn (wdM n + i0.toNat)) (fun (⟨ns, a', cap'⟩ : (List Nat) × (Option Nat) × Nat) => [lp lrf_0 (rcD rrf_0 (.exit 0)), cl b7 101 [sl a' ns.length cap'], arr a' cap' 1 3 eN ns, cl b2 121 [.pointer (some ⟨pb, 0, none⟩)], cl pb 161 [.int .i64 ((n : Nat) : Int), .int .i64 (((wdM n) : Nat) : Int), .map (some m)], mpI m (kv Kn)]))]) := by
   intro i hi1 hi2
   refine Yd_ex ?_
   rintro ⟨ns, a', cap'⟩ ⟨hnn, hns⟩
   refine Yd_of (pre := [cl b7 101 [sl a' ns.length cap'], arr a' cap' 1 3 eN ns, cl b2 121 [.pointer (some ⟨pb, 0, none⟩)], cl pb 161 [.int .i64 ((n : Nat) : Int), .int .i64 (((wdM n) : Nat) : Int), .map (some m)], mpI m (kv Kn)]) hstrf_0 hpdrf_0 hparf_0 hasrf_0 hbdrf_0 hfrrf_0 rfl rfl fun F w0 Q K hp hend hbeg => ?_
   change WC _ _ _ _ _ _ ((25, .int .i64 ((i : Nat) : Int)) :: _) (_ :: _ :: _ :: _ :: _ :: _ :: F)
   dsimp only at *
   have hda := Dg_len ((Kn ((i : Nat) : Int)).getD zD)
   have hdb := Dg_len ((Kn (((i ^^^ 1 : Nat)) : Int)).getD zD)
   refine WC_region ?_
   refine WL_r (Rd_assign rfl) rfl ?_
   refine WL_nil ?_
   refine hbeg (by repeat (first | with_reducible exact Ext.here | with_reducible apply Ext.there)) ?_
   refine WC_block ?_
   refine WC_seq fun K9 hK9 => ?_
   refine WC_sr fun K10 hK10 => ?_
   refine WL_r (Rd_load rfl tk121 (v := .pointer (some ⟨pb, 0, none⟩))) rfl ?_
   refine WL_r (Rd_nilCheck rfl) rfl ?_
   refine WL_r (Rd_fieldAddr rfl fo161_2) rfl ?_
   refine WL_r (Rd_load rfl tk159 (v := .map (some m))) rfl ?_
   refine WL_r (Rd_move rfl) rfl ?_
   refine WL_r (Rd_lookD (k := ((i : Nat) : Int)) rfl rfl ud159 ud3 zvD42) rfl ?_
   refine WL_r (Rd_move rfl) rfl ?_
   refine WL_r (Rd_ext0 rfl) rfl ?_
   refine WL_r (Rd_ext1 rfl) rfl ?_
   refine WL_ac (Ac_allocW (k := .u8) (w := 8) (m := 32) zr42) rfl rfl rfl ?_
   rintro _ _ ⟨b9, rfl, rfl⟩
   refine WL_ac0 (Ac_storeW rfl rfl sz42) rfl rfl ?_
   rintro _ _ rfl
   refine WL_r (Rd_assign rfl) rfl ?_
   refine WL_end hK10 ?_
   refine WC_sr fun K11 hK11 => ?_
   refine WL_r (Rd_move rfl) rfl ?_
   refine WL_end hK11 ?_
   refine WC_cond rfl (fun hc1 => ?_) (fun hc1 => ?_)
   ·try simp only [dz, ne_eq] at hc1
    refine WC_exit ?_
    refine hend.exi 0 false rfl (by repeat (first | with_reducible exact Ext.here | with_reducible apply Ext.there)) ?_
    try simp only [List.cons_append, List.nil_append, cond_true, cond_false]
    exact imp_ex (⟨ns, a', cap'⟩) (by dsimp only; rw [← hnn, needF_stop (by simpa using hc1), List.append_nil]) (by (try dsimp only); (try simp only [List.cons_append, List.nil_append]); repeat (first | with_reducible exact Sub.refl | with_reducible exact Sub.nil | with_reducible refine Sub.cons (by repeat (first | with_reducible exact Ext.here | with_reducible apply Ext.there)) ?_ | with_reducible refine Sub.tail ?_))
   ·try simp only [dz, ne_eq] at hc1
    refine WC_skip ?_
    refine Ps_next hK9 ?_
    refine WC_sr fun K12 hK12 => ?_
    refine WL_r (Rd_load rfl tk121 (v := .pointer (some ⟨pb, 0, none⟩))) rfl ?_
    refine WL_r (Rd_nilCheck rfl) rfl ?_
    refine WL_r (Rd_fieldAddr rfl fo161_2) rfl ?_
    refine WL_r (Rd_load rfl tk159 (v := .map (some m))) rfl ?_
    refine WL_r (Rd_move rfl) rfl ?_
    refine WL_r (Rd_xorN (i := i) (j := 1) (by omega) (by omega) rfl rfl) rfl ?_
    refine WL_r (Rd_lookD (k := (((i ^^^ 1 : Nat)) : Int)) rfl rfl ud159 ud3 zvD42) rfl ?_
    refine WL_r (Rd_move rfl) rfl ?_
    refine WL_r (Rd_ext0 rfl) rfl ?_
    refine WL_r (Rd_ext1 rfl) rfl ?_
    refine WL_ac (Ac_allocW (k := .u8) (w := 8) (m := 32) zr42) rfl rfl rfl ?_
    rintro _ _ ⟨b11, rfl, rfl⟩
    refine WL_ac0 (Ac_storeW rfl rfl sz42) rfl rfl ?_
    rintro _ _ rfl
    refine WL_r (Rd_assign rfl) rfl ?_
    refine WL_end hK12 ?_
    refine WC_sr fun K13 hK13 => ?_
    refine WL_r (Rd_move rfl) rfl ?_
    refine WL_r (Rd_not rfl) rfl ?_
    refine WL_end hK13 ?_
    refine WC_cond rfl (fun hc2 => ?_) (fun hc2 => ?_)
    ·try simp only [dz, ne_eq] at hc2
     refine WC_region ?_
     refine WL_r (Rd_load rfl tk101 (v := sl a' ns.length cap')) rfl ?_
     refine WL_r (Rd_move rfl) rfl ?_
     refine WL_r (Rd_xorN (i := i) (j := 1) (by omega) (by omega) rfl rfl) rfl ?_
     refine WL_ac (Ac_bs1 rfl ud101 zr3 sz3) rfl rfl rfl ?_
     rintro _ _ ⟨b51, rfl, rfl⟩
     refine WL_ac (Ac_append1 (f := eN) encN ((i ^^^ 1 : Nat)) rfl rfl ud101 ud101 el3) rfl rfl rfl ?_
     rintro _ _ ⟨a52, cap52, rfl, rfl⟩
     rw [show ns.length + 1 = (ns ++ [((i ^^^ 1 : Nat))]).length from by simp]
     refine WL_ac0 (Ac_store1 rfl rfl sz101) rfl rfl ?_
     rintro _ _ rfl
     refine WL_nil ?_
     refine hend.nrm true rfl (by repeat (first | with_reducible exact Ext.here | with_reducible apply Ext.there)) ?_
     try simp only [List.cons_append, List.nil_append, cond_true, cond_false]
     exact imp_ex (⟨ns ++ [((i ^^^ 1 : Nat))], a52, cap52⟩) (⟨by dsimp only; rw [List.append_assoc, ← hnn, needF_add (i := i) (by omega) (by simpa using hc1) (by simpa using hc2)]; rfl, by dsimp only; rw [List.length_append, List.length_singleton]; omega⟩) (by (try dsimp only); (try simp only [List.cons_append, List.nil_append]); repeat (first | with_reducible exact Sub.refl | with_reducible exact Sub.nil | with_reducible refine Sub.cons (by repeat (first | with_reducible exact Ext.here | with_reducible apply Ext.there)) ?_ | with_reducible refine Sub.tail ?_))
    ·try simp only [dz, ne_eq] at hc2
     refine WC_skip ?_
     refine hend.nrm true rfl (by repeat (first | with_reducible exact Ext.here | with_reducible apply Ext.there)) ?_
     try simp only [List.cons_append, List.nil_append, cond_true, cond_false]
     exact imp_ex (⟨ns, a', cap'⟩) (⟨by dsimp only; rw [← hnn, needF_has (i := i) (by omega) (by simpa using hc1) (by simpa using hc2)], by dsimp only; omega⟩) (by (try dsimp only); (try simp only [List.cons_append, List.nil_append]); repeat (first | with_reducible exact Sub.refl | with_reducible exact Sub.nil | with_reducible refine Sub.cons (by repeat (first | with_reducible exact Ext.here | with_reducible apply Ext.there)) ?_ | with_reducible refine Sub.tail ?_))
  refine ⟨_, _, _, _, _, up1_ct (X := (fun (i : Nat) => exA (fun (⟨ns, a', cap'⟩ : (List Nat) × (Option Nat) × Nat) => ns ++ needF Kn i = needF Kn (wdM n + i0.toNat) ∧ ns.length + i ≤ 2048) (fun (⟨ns, a', cap'⟩ : (List Nat) × (Option Nat) × Nat) => [lp lrf_0 rrf_0, cl b7 101 [sl a' ns.length cap'], arr a' cap' 1 3 eN ns, cl b2 121 [.pointer (some ⟨pb, 0, none⟩)], cl pb 161 [.int .i64 ((n : Nat) : Int), .int .i64 (((wdM n) : Nat) : Int), .map (some m)], mpI m (kv Kn)]))) (J := (exA (fun (⟨ns, a', cap'⟩ : (List Nat) × (Option Nat) × Nat) => ns = needF Kn (wdM n + i0.toNat)) (fun (⟨ns, a', cap'⟩ : (List Nat) × (Option Nat) × Nat) => [lp lrf_0 (rcD rrf_0 (.exit 0)), cl b7 101 [sl a' ns.length cap'], arr a' cap' 1 3 eN ns, cl b2 121 [.pointer (some ⟨pb, 0, none⟩)], cl pb 161 [.int .i64 ((n : Nat) : Int), .int .i64 (((wdM n) : Nat) : Int), .map (some m)], mpI m (kv Kn)]))) (hy := hyrf_0) (hm := hnl), imp_rf (Y := [_]) (⟨[], none, 0⟩) (⟨by (try dsimp only); rw [hnd]; rfl, by (try dsimp only [List.length_nil]); (try simp only [List.length_nil]); omega⟩) gvA (by (try dsimp only); repeat (first | with_reducible exact Gv.nil | (with_reducible apply Gv.cons; · (repeat (first | with_reducible exact Ext.here | with_reducible apply Ext.there))))), ?_⟩
  ·rintro (_ | _)
   ·skip
    simp only [List.cons_append, List.nil_append, cond_true, cond_false]
    refine RfEnd_ex ?_
    rintro ⟨ns, a', cap'⟩ hnn
    simp only [List.cons_append, List.nil_append]
    subst hnn
    refine RfEnd_jmp ?_
    refine WC_exit ?_
    refine Ps_next hK7 ?_
    refine WC_sr fun K14 hK14 => ?_
    refine WL_r (Rd_load rfl tk101) rfl ?_
    refine WL_r (Rd_assign rfl) rfl ?_
    refine WL_r (Rd_assign rfl) rfl ?_
    refine WL_end hK14 ?_
    refine WC_ret ?_
    first | exact hret.goD (none, 0) (Rs2 rfl rfl rfl) | exact hret.goD (a', cap') (Rs2 rfl rfl rfl)
   ·simp only [List.cons_append, List.nil_append, cond_true, cond_false]
    refine RfEnd_ex ?_
    rintro ⟨ns, a', cap'⟩ ⟨hnn, hns⟩
    simp only [List.cons_append, List.nil_append]
    rw [needF_0, List.append_nil] at hnn
    subst hnn
    refine RfEnd_nrm hstrf_0 hpdrf_0 ?_
    refine Ps_next hK7 ?_
    refine WC_sr fun K15 hK15 => ?_
    refine WL_r (Rd_load rfl tk101) rfl ?_
    refine WL_r (Rd_assign rfl) rfl ?_
    refine WL_r (Rd_assign rfl) rfl ?_
    refine WL_end hK15 ?_
    refine WC_ret ?_
    first | exact hret.goD (none, 0) (Rs2 rfl rfl rfl) | exact hret.goD (a', cap') (Rs2 rfl rfl rfl)
end Go.Proofs.Ytgkpbeikcpecbaa
namespace Go.Proofs.Ytgkpbeikcpecbaa
open Go.RowKit Go.SL Go.ShM
set_option maxHeartbeats 1000000
set_option maxRecDepth 20000
set_option linter.all false
theorem cf145 : cfn Try.prog 145 = true := by kernel_rfl
theorem el133 : el Try.prog 133 = some (33, 40) := by kernel_rfl
theorem pls133 : pls Try.prog 133 = some ([.int .i64 0, .int .u8 0, .int .u8 0, .int .u8 0, .int .u8 0, .int .u8 0, .int .u8 0, .int .u8 0, .int .u8 0, .int .u8 0, .int .u8 0, .int .u8 0, .int .u8 0, .int .u8 0, .int .u8 0, .int .u8 0, .int .u8 0, .int .u8 0, .int .u8 0, .int .u8 0, .int .u8 0, .int .u8 0, .int .u8 0, .int .u8 0, .int .u8 0, .int .u8 0, .int .u8 0, .int .u8 0, .int .u8 0, .int .u8 0, .int .u8 0, .int .u8 0, .int .u8 0], [(0, 1), (1, 32)]) := by kernel_rfl
theorem sz120 : sz Try.prog 120 = some 1 := by kernel_rfl
theorem sz133 : sz Try.prog 133 = some 33 := by kernel_rfl
theorem tk120 : tk Try.prog 120 = some none := by kernel_rfl
theorem ud120 : Try.prog.underlying 120 = some (.slice 133) := by kernel_rfl
theorem zr120 : zr Try.prog 120 = some [.slice none 0 0] := by kernel_rfl
theorem zr133 : zr Try.prog 133 = some [.int .i64 0, .int .u8 0, .int .u8 0, .int .u8 0, .int .u8 0, .int .u8 0, .int .u8 0, .int .u8 0, .int .u8 0, .int .u8 0, .int .u8 0, .int .u8 0, .int .u8 0, .int .u8 0, .int .u8 0, .int .u8 0, .int .u8 0, .int .u8 0, .int .u8 0, .int .u8 0, .int .u8 0, .int .u8 0, .int .u8 0, .int .u8 0, .int .u8 0, .int .u8 0, .int .u8 0, .int .u8 0, .int .u8 0, .int .u8 0, .int .u8 0, .int .u8 0, .int .u8 0] := by kernel_rfl
theorem pChain_ct {pb m n w : Nat} {Kn : KM} {i0 : Int} (hw : w = wdM n) (h1 : 1 ≤ n) (h2 : n ≤ 512) : Ct Try.prog 88 [.pointer (some ⟨pb, 0, none⟩), .int .i64 i0] [cl pb 161 [.int .i64 ((n : Nat) : Int), .int .i64 ((w : Nat) : Int), .map (some m)], mpI m (kv Kn)] (fun g : Option Nat × Nat => .tuple #[sl g.1 (chN n Kn i0).length g.2, .int .i64 (((chE n Kn i0) : Nat) : Int)]) (fun g => [cl pb 161 [.int .i64 ((n : Nat) : Int), .int .i64 ((w : Nat) : Int), .map (some m)], mpI m (kv Kn), arr g.1 g.2 33 133 eND (chN n Kn i0)]) := by
 refine Ct_body (n := 56) Try.func88 rfl rfl rfl fun F w0 Q hret hnorm hp => ?_
 change WC _ _ _ _ _ _ _ (_ :: _ :: F)
 subst hw
 have hwo := wd_ok h1 h2
 have hdk := Dg_len ((Kn ((wdM n : Int) + i0)).getD zD)
 refine WC_sr fun K1 hK1 => ?_
 refine WL_ac (Ac_box (xs := [.pointer (some ⟨pb, 0, none⟩)]) rfl rfl) rfl rfl rfl ?_
 rintro _ _ ⟨b2, rfl, rfl⟩
 refine WL_r (Rd_assign (v := sl none 0 0) rfl) rfl ?_
 refine WL_r (Rd_assign rfl) rfl ?_
 refine WL_end hK1 ?_
 refine WC_seq fun K2 hK2 => ?_
 refine WC_sr fun K3 hK3 => ?_
 refine WL_r (Rd_load rfl tk121 (v := .pointer (some ⟨pb, 0, none⟩))) rfl ?_
 refine WL_r (Rd_move rfl) rfl ?_
 refine WL_ac (Ac_call cf147 rfl (hs := pAsked_ct (pb := pb) (m := m) (n := n) (w := wdM n) (Kn := Kn) (i := i0) (hn1 := h1))) rfl rfl rfl ?_
 rintro _ _ ⟨⟨⟩, rfl, hA⟩
 simp only [List.cons_append, List.nil_append] at hA
 replace hA := hA.symm
 subst hA
 refine WL_r (Rd_assign rfl) rfl ?_
 refine WL_end hK3 ?_
 refine WC_sr fun K4 hK4 => ?_
 refine WL_r (Rd_move rfl) rfl ?_
 refine WL_r (Rd_neqN (j := 0) rfl rfl) rfl ?_
 refine WL_end hK4 ?_
 refine WC_cond rfl (fun hc0 => ?_) (fun hc0 => ?_)
 ·try simp only [dz, ne_eq] at hc0
  have hlb : lfB n i0 = false := by by_cases q : lfB n i0 = true; exact absurd (askF_0.2 (lfB_t.1 q)) hc0; simpa using q
  have hce : chE n Kn i0 = 111 := by unfold chE; rw [if_neg (by rw [hlb]; decide)]
  rw [show chN n Kn i0 = [] from by unfold chN; rw [if_neg (by rw [hce]; decide)], hce] at hret
  have has : askF n i0 = 111 := by unfold askF; rw [if_neg (by rw [hlb]; decide)]
  rw [has]
  refine WC_imp (fun w h => sat_nil (e := 33) (T := 133) (f := eND) h) ?_
  refine WC_sr fun K5 hK5 => ?_
  refine WL_r (Rd_move rfl) rfl ?_
  refine WL_r (Rd_assign (v := sl none 0 0) rfl) rfl ?_
  refine WL_r (Rd_assign rfl) rfl ?_
  refine WL_end hK5 ?_
  refine WC_ret ?_
  first | exact hret.go (none, 0) (Rs2 rfl rfl rfl) | exact hret.go (a', cap') (Rs2 rfl rfl rfl)
 ·try simp only [dz, ne_eq] at hc0
  have hli := askF_0.1 hc0
  have hlb : lfB n i0 = true := lfB_t.2 hli
  have hnl := nd_le ((n : Nat) : Int) i0
  have hnd : ndM ((n : Nat) : Int) i0 = wdM n + i0.toNat := by rw [(nd_ok (n := ((n : Nat) : Int)) (l := i0) (by rw [Int.toNat_natCast]; exact hwo.2.2.2.1) hli.1 hli.2).2, Int.toNat_natCast]
  refine WC_skip ?_
  refine Ps_next hK2 ?_
  refine WC_seq fun K6 hK6 => ?_
  refine WC_seq fun K7 hK7 => ?_
  refine WC_drawA mix (fun i => ([2, 2, 2, 2, 2, 2, 2, 2, 2, 2, 2, 2, 2, 2, 1, 0, 2] : List Nat).getD i 0) ?_
  refine WJ_tk 0 (Rd_load rfl tk121 (v := .pointer (some ⟨pb, 0, none⟩))) hp ?_ rfl (by kernel_rfl) rfl rfl rfl
  refine WJ_tp 1 rfl (Rd_nilCheck rfl) rfl (hp _ _) ?_
  refine WJ_tp 2 rfl (Rd_fieldAddr rfl fo161_2) rfl (hp _ _) ?_
  refine WJ_tk 3 (Rd_load rfl tk159 (v := .map (some m))) hp ?_ rfl (by kernel_rfl) rfl rfl rfl
  refine WJ_tk 4 (Rd_load rfl tk121 (v := .pointer (some ⟨pb, 0, none⟩))) hp ?_ rfl (by kernel_rfl) rfl rfl rfl
  refine WJ_tp 5 rfl (Rd_nilCheck rfl) rfl (hp _ _) ?_
  refine WJ_tp 6 rfl (Rd_fieldAddr rfl fo161_1) rfl (hp _ _) ?_
  refine WJ_tk 7 (Rd_load rfl tk3 (v := .int .i64 (((wdM n) : Nat) : Int))) hp ?_ rfl (by kernel_rfl) rfl rfl rfl
  refine WJ_tp 8 rfl (Rd_move rfl) rfl (hp _ _) ?_
  refine WJ_tp 9 rfl (Rd_add' (r := ((wdM n : Int) + i0)) rfl rfl (wr64 rfl (by omega) (by omega))) rfl (hp _ _) ?_
  refine WJ_tk 10 (Rd_lookD (k := ((wdM n : Int) + i0)) rfl rfl ud159 ud3 zvD42) hp ?_ rfl (by kernel_rfl) rfl rfl rfl
  refine WJ_tp 11 rfl (Rd_move rfl) rfl (hp _ _) ?_
  refine WJ_tp 12 rfl (Rd_ext0 rfl) rfl (hp _ _) ?_
  refine WJ_tp 13 rfl (Rd_ext1 rfl) rfl (hp _ _) ?_
  refine WJ_all (rs := [14]) (by kernel_rfl) rfl ?_
  refine WI_one ?_
  refine WI_ac rfl (Ac_allocW (k := .u8) (w := 8) (m := 32) zr42) rfl rfl rfl rfl ?_
  rintro _ _ ⟨b7, rfl, rfl⟩
  refine ⟨(fun _ => subA), ?_⟩
  refine WJ_all (rs := [15]) (by kernel_rfl) rfl ?_
  refine WI_one ?_
  refine WI_ac0 rfl (Ac_storeW rfl rfl sz42) rfl rfl rfl ?_
  rintro _ _ rfl
  refine ⟨(fun h => by cases h), ?_⟩
  refine WJ_tp 16 rfl (Rd_assign rfl) rfl (hp _ _) ?_
  refine WJ_done (by kernel_rfl) ?_
  refine Ps_next hK7 ?_
  refine WC_sr fun K8 hK8 => ?_
  refine WL_r (Rd_move rfl) rfl ?_
  refine WL_r (Rd_not rfl) rfl ?_
  refine WL_end hK8 ?_
  refine WC_cond rfl (fun hc1 => ?_) (fun hc1 => ?_)
  ·try simp only [dz, ne_eq] at hc1
   have hce : chE n Kn i0 = 124 := by unfold chE; rw [if_pos hlb, if_neg (by rw [Bool.not_eq_true]; simpa using hc1)]
   rw [show chN n Kn i0 = [] from by unfold chN; rw [if_neg (by rw [hce]; decide)], hce] at hret
   refine WC_imp (fun w h => sat_nil (e := 33) (T := 133) (f := eND) h) ?_
   refine WC_sr fun K9 hK9 => ?_
   refine WL_r (Rd_assign (v := sl none 0 0) rfl) rfl ?_
   refine WL_r (Rd_assign rfl) rfl ?_
   refine WL_end hK9 ?_
   refine WC_ret ?_
   first | exact hret.go (none, 0) (Rs2 rfl rfl rfl) | exact hret.go (a', cap') (Rs2 rfl rfl rfl)
  ·try simp only [dz, ne_eq] at hc1
   have hce : chE n Kn i0 = 0 := by unfold chE; rw [if_pos hlb, if_pos (by simpa using hc1)]
   rw [show chN n Kn i0 = chF Kn (wdM n + i0.toNat) from by unfold chN; rw [if_pos hce], hce] at hret
   refine WC_skip ?_
   refine Ps_next hK6 ?_
   refine WC_sr fun K10 hK10 => ?_
   refine WL_ac (Ac_alloc zr120) rfl rfl rfl ?_
   rintro _ _ ⟨b9, rfl, rfl⟩
   refine WL_end hK10 ?_
   refine WC_seq fun K11 hK11 => ?_
   refine WC_sr fun K12 hK12 => ?_
   refine WL_r (Rd_load rfl tk121 (v := .pointer (some ⟨pb, 0, none⟩))) rfl ?_
   refine WL_r (Rd_nilCheck rfl) rfl ?_
   refine WL_r (Rd_fieldAddr rfl fo161_0) rfl ?_
   refine WL_r (Rd_load rfl tk3 (v := .int .i64 ((n : Nat) : Int))) rfl ?_
   refine WL_r (Rd_move rfl) rfl ?_
   refine WL_ac (Ac_call cf126 rfl (hs := up_ct (n := ((n : Nat) : Int)) (l := i0))) rfl rfl rfl ?_
   rintro _ _ ⟨u38, rfl, hA⟩
   simp only [List.cons_append, List.nil_append] at hA
   replace hA := hA.symm
   subst hA
   refine WL_end hK12 ?_
   refine WC_block ?_
   refine WC_imp (fun w h => sat_nil (e := 33) (T := 133) (f := eND) h) ?_
   rw [show cl b9 120 [.slice none 0 0] = cl b9 120 [sl none ([] : List Nd).length 0] from rfl]
   refine WC_rf (f := 184) (caps := [.pointer (some ⟨u38, 0, none⟩)]) rfl cf184 fun lrf_0 Drf_0 rrf_0 hstrf_0 hpdrf_0 hparf_0 hasrf_0 hbdrf_0 hfrrf_0 => ?_
   have hyrf_0 : ∀ (i : Nat), 1 ≤ i → i ≤ 1024 → Yd Try.prog lrf_0 [.int .i64 ((i : Nat) : Int)] [(fun (i : Nat) => exA (fun (⟨ns, a', cap'⟩ : (List Nd) × (Option Nat) × Nat) => ns ++ chF Kn i = chF Kn (wdM n + i0.toNat) ∧ ns.length + i ≤ 2048) (fun (⟨ns, a', cap'⟩ : (List Nd) × (Option Nat) × Nat) => [lp lrf_0 rrf_0, cl b9 120 [sl a' ns.length cap'], arr a' cap' 33 133 eND ns, cl b2 121 [.pointer (some ⟨pb, 0, none⟩)], cl pb 161 [.int .i64 ((n : Nat) : Int), .int .i64 (((wdM n) : Nat) : Int), .map (some m)], mpI m (kv Kn)])) i] (fun b : Bool => .bool b) (fun b => [bif b then (fun (i : Nat) => exA (fun (⟨ns, a', cap'⟩ : (List Nd) × (Option Nat) × Nat) => ns ++ chF Kn i = chF Kn (wdM n + i0.toNat) ∧ ns.length + i ≤ 2048) (fun (⟨ns, a', cap'⟩ : (List Nd) × (Option Nat) × Nat) => [lp lrf_0 rrf_0, cl b9 120 [sl a' ns.length cap'], arr a' cap' 33 133 eND ns, cl b2 121 [.pointer (some ⟨pb, 0, none⟩)], cl pb 161 [.int .i64 ((n : Nat) : Int), .int .i64 (((wdM n) : Nat) : Int), .map (some m)], mpI m (kv Kn)])) (i / 2) else (exA (fun _ : Unit => False) (fun _ => []))]) := by
    intro i hi1 hi2
    refine Yd_ex ?_
    rintro ⟨ns, a', cap'⟩ ⟨hnn, hns⟩
    refine Yd_of (pre := [cl b9 120 [sl a' ns.length cap'], arr a' cap' 33 133 eND ns, cl b2 121 [.pointer (some ⟨pb, 0, none⟩)], cl pb 161 [.int .i64 ((n : Nat) : Int), .int .i64 (((wdM n) : Nat) : Int), .map (some m)], mpI m (kv Kn)]) hstrf_0 hpdrf_0 hparf_0 hasrf_0 hbdrf_0 hfrrf_0 rfl rfl fun F w0 Q K hp hend hbeg => ?_
    change WC _ _ _ _ _ _ ((39, .int .i64 ((i : Nat) : Int)) :: _) (_ :: _ :: _ :: _ :: _ :: _ :: F)
    dsimp only at *
    have hdb := Dg_len ((Kn (((i ^^^ 1 : Nat)) : Int)).getD zD)
    refine WC_region ?_
    refine WL_r (Rd_assign rfl) rfl ?_
    refine WL_nil ?_
    refine hbeg (by repeat (first | with_reducible exact Ext.here | with_reducible apply Ext.there)) ?_
    refine WC_block ?_
    refine WC_sr fun K13 hK13 => ?_
    refine WL_r (Rd_move rfl) rfl ?_
    refine WL_r (Rd_gtrN (j := 1) rfl rfl) rfl ?_
    refine WL_end hK13 ?_
    refine WC_cond rfl (fun hc2 => ?_) (fun hc2 => ?_)
    ·try simp only [dz, ne_eq] at hc2
     refine WC_drawA mix (fun i => ([2, 2, 2, 2, 2, 2, 2, 2, 2, 2, 2, 1, 0, 0] : List Nat).getD i 0) ?_
     refine WJ_tk 0 (Rd_load rfl tk120 (v := sl a' ns.length cap')) hp ?_ rfl (by kernel_rfl) rfl rfl rfl
     refine WJ_tp 1 rfl (Rd_move rfl) rfl (hp _ _) ?_
     refine WJ_tp 2 rfl (Rd_xorN (i := i) (j := 1) (by omega) (by omega) rfl rfl) rfl (hp _ _) ?_
     refine WJ_tp 7 rfl (Rd_move rfl) rfl (hp _ _) ?_
     refine WJ_tp 8 rfl (Rd_xorN (i := i) (j := 1) (by omega) (by omega) rfl rfl) rfl (hp _ _) ?_
     refine WJ_all (rs := [3]) (by kernel_rfl) rfl ?_
     refine WI_one ?_
     refine WI_rd rfl (Rd_load rfl tk121 (v := .pointer (some ⟨pb, 0, none⟩))) rfl rfl rfl (fun h => by cases h) ?_
     refine WJ_tp 4 rfl (Rd_nilCheck rfl) rfl (hp _ _) ?_
     refine WJ_tp 5 rfl (Rd_fieldAddr rfl fo161_2) rfl (hp _ _) ?_
     refine WJ_all (rs := [6]) (by kernel_rfl) rfl ?_
     refine WI_one ?_
     refine WI_rd rfl (Rd_load rfl tk159 (v := .map (some m))) rfl rfl rfl (fun h => by cases h) ?_
     refine WJ_all (rs := [9]) (by kernel_rfl) rfl ?_
     refine WI_one ?_
     refine WI_rd rfl (Rd_lookD1 (k := (((i ^^^ 1 : Nat)) : Int)) rfl rfl ud159 ud3 zvD42) rfl rfl rfl (fun h => by cases h) ?_
     refine WJ_tp 10 rfl (Rd_build pls133 rfl (hf := fillND rfl)) rfl (hp _ _) ?_
     refine WJ_all (rs := [11]) (by kernel_rfl) rfl ?_
     refine WI_one ?_
     refine WI_ac rfl (Ac_bs1 (xs := eND ((((i ^^^ 1 : Nat)) : Int), ((Kn (((i ^^^ 1 : Nat)) : Int)).getD zD))) rfl ud120 zr133 sz133 (hl := encND.len _)) rfl rfl rfl rfl ?_
     rintro _ _ ⟨b53, rfl, rfl⟩
     refine ⟨(fun _ => subA), ?_⟩
     refine WJ_all (rs := [12]) (by kernel_rfl) rfl ?_
     refine WI_one ?_
     refine WI_ac rfl (Ac_append1 (f := eND) encND ((((i ^^^ 1 : Nat)) : Int), ((Kn (((i ^^^ 1 : Nat)) : Int)).getD zD)) rfl rfl ud120 ud120 el133) rfl rfl rfl rfl ?_
     rintro _ _ ⟨a54, cap54, rfl, rfl⟩
     rw [show ns.length + 1 = (ns ++ [((((i ^^^ 1 : Nat)) : Int), ((Kn (((i ^^^ 1 : Nat)) : Int)).getD zD))]).length from by simp]
     refine ⟨(fun h => by cases h), ?_⟩
     refine WJ_all (rs := [13]) (by kernel_rfl) rfl ?_
     refine WI_one ?_
     refine WI_ac0 rfl (Ac_store1 rfl rfl sz120) rfl rfl rfl ?_
     rintro _ _ rfl
     refine ⟨(fun h => by cases h), ?_⟩
     refine WJ_done (by kernel_rfl) ?_
     refine hend.nrm true rfl (by repeat (first | with_reducible exact Ext.here | with_reducible apply Ext.there)) ?_
     try simp only [List.cons_append, List.nil_append, cond_true, cond_false]
     exact imp_ex (⟨ns ++ [((((i ^^^ 1 : Nat)) : Int), ((Kn (((i ^^^ 1 : Nat)) : Int)).getD zD))], a54, cap54⟩) (⟨by dsimp only; rw [List.append_assoc, ← hnn, chF_gt (i := i) (by omega)]; rfl, by dsimp only; rw [List.length_append, List.length_singleton]; omega⟩) (by (try dsimp only); (try simp only [List.cons_append, List.nil_append]); repeat (first | with_reducible exact Sub.refl | with_reducible exact Sub.nil | with_reducible refine Sub.cons (by repeat (first | with_reducible exact Ext.here | with_reducible apply Ext.there)) ?_ | with_reducible refine Sub.tail ?_))
    ·try simp only [dz, ne_eq] at hc2
     refine WC_skip ?_
     refine hend.nrm true rfl (by repeat (first | with_reducible exact Ext.here | with_reducible apply Ext.there)) ?_
     try simp only [List.cons_append, List.nil_append, cond_true, cond_false]
     exact imp_ex (⟨ns, a', cap'⟩) (⟨by dsimp only; rw [← hnn, chF_le (i := i) (by omega), chF_le (i := i / 2) (by omega)], by dsimp only; omega⟩) (by (try dsimp only); (try simp only [List.cons_append, List.nil_append]); repeat (first | with_reducible exact Sub.refl | with_reducible exact Sub.nil | with_reducible refine Sub.cons (by repeat (first | with_reducible exact Ext.here | with_reducible apply Ext.there)) ?_ | with_reducible refine Sub.tail ?_))
   refine ⟨_, _, _, _, _, up1_ct (X := (fun (i : Nat) => exA (fun (⟨ns, a', cap'⟩ : (List Nd) × (Option Nat) × Nat) => ns ++ chF Kn i = chF Kn (wdM n + i0.toNat) ∧ ns.length + i ≤ 2048) (fun (⟨ns, a', cap'⟩ : (List Nd) × (Option Nat) × Nat) => [lp lrf_0 rrf_0, cl b9 120 [sl a' ns.length cap'], arr a' cap' 33 133 eND ns, cl b2 121 [.pointer (some ⟨pb, 0, none⟩)], cl pb 161 [.int .i64 ((n : Nat) : Int), .int .i64 (((wdM n) : Nat) : Int), .map (some m)], mpI m (kv Kn)]))) (J := (exA (fun _ : Unit => False) (fun _ => []))) (hy := hyrf_0) (hm := hnl), imp_rf (Y := [_]) (⟨[], none, 0⟩) (⟨by (try dsimp only); rw [hnd]; rfl, by (try dsimp only [List.length_nil]); (try simp only [List.length_nil]); omega⟩) gvA (by (try dsimp only); repeat (first | with_reducible exact Gv.nil | (with_reducible apply Gv.cons; · (repeat (first | with_reducible exact Ext.here | with_reducible apply Ext.there))))), ?_⟩
   ·rintro (_ | _)
    ·simp only [List.cons_append, List.nil_append, cond_true, cond_false]
     refine RfEnd_ex ?_
     exact fun _ h => h.elim
    ·simp only [List.cons_append, List.nil_append, cond_true, cond_false]
     refine RfEnd_ex ?_
     rintro ⟨ns, a', cap'⟩ ⟨hnn, hns⟩
     simp only [List.cons_append, List.nil_append]
     rw [chF_le (i := 0) (by omega), List.append_nil] at hnn
     subst hnn
     refine RfEnd_nrm hstrf_0 hpdrf_0 ?_
     refine Ps_next hK11 ?_
     refine WC_sr fun K14 hK14 => ?_
     refine WL_r (Rd_load rfl tk120) rfl ?_
     refine WL_r (Rd_assign rfl) rfl ?_
     refine WL_r (Rd_assign rfl) rfl ?_
     refine WL_end hK14 ?_
     refine WC_ret ?_
     first | exact hret.goD (none, 0) (Rs2 rfl rfl rfl) | exact hret.goD (a', cap') (Rs2 rfl rfl rfl)

theorem pWhole_ct {pb m n w : Nat} {Kn : KM} (hs : SupK w Kn) (hn1 : 1 ≤ n) (hw1 : 1 ≤ w) (hw2 : w ≤ 100000 := by omega) : Ct Try.prog 87 [.pointer (some ⟨pb, 0, none⟩)] [cl pb 161 [.int .i64 ((n : Nat) : Int), .int .i64 ((w : Nat) : Int), .map (some m)], mpI m (kv Kn)] (fun _ : Unit => .bool (whB w Kn)) (fun _ => [cl pb 161 [.int .i64 ((n : Nat) : Int), .int .i64 ((w : Nat) : Int), .map (some m)], mpI m (kv Kn)]) := by
 refine Ct_body (n := 20) Try.func87 rfl rfl rfl fun F w0 Q hret hnorm hp => ?_
 change WC _ _ _ _ _ _ _ (_ :: _ :: F)
 refine WC_sr fun K1 hK1 => ?_
 refine WL_r (Rd_assign rfl) rfl ?_
 refine WL_end hK1 ?_
 refine WC_seq fun K2 hK2 => ?_
 refine WC_drawA mix (fun i => ([2, 1, 2, 2, 2, 2, 2, 2, 2, 2, 2, 2, 2, 2, 2, 2, 2, 2] : List Nat).getD i 0) ?_
 refine WJ_tp 0 rfl (Rd_move rfl) rfl (hp _ _) ?_
 refine WJ_all (rs := [1]) (by kernel_rfl) rfl ?_
 refine WI_one ?_
 refine WI_ac rfl (Ac_call cf86 rfl (hs := pLeaves_ct (pb := pb) (m := m) (n := n) (w := w) (Kn := Kn))) rfl rfl rfl rfl ?_
 rintro _ _ ⟨⟨⟩, rfl, hA⟩
 simp only [List.cons_append, List.nil_append] at hA
 replace hA := hA.symm
 subst hA
 refine ⟨(fun _ => subA), ?_⟩
 refine WJ_tp 2 rfl (Rd_isT (Rd_gtrN (j := 0) rfl rfl)) rfl (hp _ _) ?_
 refine WJ_tp 3 rfl (Rd_move rfl) rfl (hp _ _) ?_
 refine WJ_tp 4 rfl (Rd_move rfl) rfl (hp _ _) ?_
 refine WJ_tp 5 rfl (Rd_nilCheck rfl) rfl (hp _ _) ?_
 refine WJ_tp 6 rfl (Rd_fieldAddr rfl fo161_2) rfl (hp _ _) ?_
 refine WJ_tk 7 (Rd_load rfl tk159 (v := .map (some m))) hp ?_ rfl (by kernel_rfl) rfl rfl rfl
 refine WJ_tk 8 (Rd_lenM rfl rfl ud159 (2 * w) (kv_rng hs)) hp ?_ rfl (by kernel_rfl) rfl rfl rfl
 refine WJ_tp 9 rfl (Rd_move rfl) rfl (hp _ _) ?_
 refine WJ_tp 10 rfl (Rd_nilCheck rfl) rfl (hp _ _) ?_
 refine WJ_tp 11 rfl (Rd_fieldAddr rfl fo161_1) rfl (hp _ _) ?_
 refine WJ_tk 12 (Rd_load rfl tk3) hp ?_ rfl (by kernel_rfl) rfl rfl rfl
 refine WJ_tp 13 rfl (Rd_mulN (i := 2) rfl rfl) rfl (hp _ _) ?_
 refine WJ_tp 14 rfl (Rd_subN (j := 1) rfl rfl) rfl (hp _ _) ?_
 refine WJ_tp 15 rfl (Rd_eqlN rfl rfl) rfl (hp _ _) ?_
 refine WJ_tp 16 rfl (Rd_pickT rfl rfl) rfl (hp _ _) ?_
 refine WJ_tp 17 rfl (Rd_assign rfl) rfl (hp _ _) ?_
 refine WJ_done (by kernel_rfl) ?_
 refine Ps_next hK2 ?_
 refine WC_ret ?_
 exact hret.goE () (Rs1 rfl rfl) (by unfold whB; rw [whB_kv])

theorem mClone_ct {m : Nat} {Kn : KM}  : Ct Try.prog 145 [.map (some m)] [mpI m (kv Kn)] (fun g : Nat => .map (some g)) (fun g => [mpI m (kv Kn), mpI g (kv Kn)]) := by
 refine Ct_body (n := 9) Try.func145 rfl rfl rfl fun F w0 Q hret hnorm hp => ?_
 change WC _ _ _ _ _ _ _ (_ :: F)
 refine WC_sr fun K1 hK1 => ?_
 refine WL_r (Rd_assign rfl) rfl ?_
 refine WL_end hK1 ?_
 refine WC_seq fun K2 hK2 => ?_
 refine WC_sr fun K3 hK3 => ?_
 refine WL_r (Rd_move rfl) rfl ?_
 refine WL_r (Rd_meqN rfl rfl ud159) rfl ?_
 refine WL_end hK3 ?_
 refine WC_condF rfl ?_
 refine WC_skip ?_
 refine Ps_next hK2 ?_
 refine WC_sr fun K4 hK4 => ?_
 refine WL_r (Rd_move rfl) rfl ?_
 refine WL_r (Rd_iface rfl ud159) rfl ?_
 refine WL_ac (Ac_cloneM rfl Try.func188 (by kernel_rfl) (by kernel_rfl) (by kernel_rfl) (by kernel_rfl)) rfl rfl rfl ?_
 rintro _ _ ⟨m7, rfl, rfl⟩
 refine WL_ac (Ac_rd (Rd_assertM rfl ud159)) rfl rfl rfl ?_
 rintro _ _ ⟨rfl, rfl⟩
 refine WL_r (Rd_assign rfl) rfl ?_
 refine WL_end hK4 ?_
 refine WC_ret ?_
 exact hret.go m7 (Rs1 rfl rfl)

theorem pClone_ct {pb m n w : Nat} {Kn : KM} (hn1 : 1 ≤ n) : Ct Try.prog 80 [.pointer (some ⟨pb, 0, none⟩)] [cl pb 161 [.int .i64 ((n : Nat) : Int), .int .i64 ((w : Nat) : Int), .map (some m)], mpI m (kv Kn)] (fun g : Nat × Nat => .pointer (some ⟨g.1, 0, none⟩)) (fun g => [cl pb 161 [.int .i64 ((n : Nat) : Int), .int .i64 ((w : Nat) : Int), .map (some m)], mpI m (kv Kn), cl g.1 161 [.int .i64 ((n : Nat) : Int), .int .i64 ((w : Nat) : Int), .map (some g.2)], mpI g.2 (kv Kn)]) := by
 refine Ct_body (n := 21) Try.func80 rfl rfl rfl fun F w0 Q hret hnorm hp => ?_
 change WC _ _ _ _ _ _ _ (_ :: _ :: F)
 refine WC_sr fun K1 hK1 => ?_
 refine WL_r (Rd_assign rfl) rfl ?_
 refine WL_end hK1 ?_
 refine WC_seq fun K2 hK2 => ?_
 refine WC_sr fun K3 hK3 => ?_
 refine WL_r (Rd_move rfl) rfl ?_
 refine WL_ac (Ac_call cf86 rfl (hs := pLeaves_ct (pb := pb) (m := m) (n := n) (w := w) (Kn := Kn))) rfl rfl rfl ?_
 rintro _ _ ⟨⟨⟩, rfl, hA⟩
 simp only [List.cons_append, List.nil_append] at hA
 replace hA := hA.symm
 subst hA
 refine WL_r (Rd_isF (Rd_eqlN (j := 0) rfl rfl)) rfl ?_
 refine WL_end hK3 ?_
 refine WC_condF rfl ?_
 refine WC_skip ?_
 refine Ps_next hK2 ?_
 refine WC_seq fun K4 hK4 => ?_
 refine WC_drawA mix (fun i => ([2, 2, 2, 2, 2, 2, 2, 2, 2, 2, 2, 2, 1, 2, 1, 2] : List Nat).getD i 0) ?_
 refine WJ_tp 0 rfl (Rd_move rfl) rfl (hp _ _) ?_
 refine WJ_tp 1 rfl (Rd_nilCheck rfl) rfl (hp _ _) ?_
 refine WJ_tp 2 rfl (Rd_fieldAddr rfl fo161_0) rfl (hp _ _) ?_
 refine WJ_tk 3 (Rd_load rfl tk3) hp ?_ rfl (by kernel_rfl) rfl rfl rfl
 refine WJ_tp 4 rfl (Rd_move rfl) rfl (hp _ _) ?_
 refine WJ_tp 5 rfl (Rd_nilCheck rfl) rfl (hp _ _) ?_
 refine WJ_tp 6 rfl (Rd_fieldAddr rfl fo161_1) rfl (hp _ _) ?_
 refine WJ_tk 7 (Rd_load rfl tk3) hp ?_ rfl (by kernel_rfl) rfl rfl rfl
 refine WJ_tp 8 rfl (Rd_move rfl) rfl (hp _ _) ?_
 refine WJ_tp 9 rfl (Rd_nilCheck rfl) rfl (hp _ _) ?_
 refine WJ_tp 10 rfl (Rd_fieldAddr rfl fo161_2) rfl (hp _ _) ?_
 refine WJ_tk 11 (Rd_load rfl tk159 (v := .map (some m))) hp ?_ rfl (by kernel_rfl) rfl rfl rfl
 refine WJ_all (rs := [12]) (by kernel_rfl) rfl ?_
 refine WI_one ?_
 refine WI_ac rfl (Ac_call cf145 rfl (hs := mClone_ct (m := m) (Kn := Kn))) rfl rfl rfl rfl ?_
 rintro _ _ ⟨m18, rfl, hA⟩
 simp only [List.cons_append, List.nil_append] at hA
 replace hA := hA.symm
 subst hA
 refine ⟨(fun _ => subA), ?_⟩
 refine WJ_tp 13 rfl (Rd_build pls161 rfl) rfl (hp _ _) ?_
 refine WJ_all (rs := [14]) (by kernel_rfl) rfl ?_
 refine WI_one ?_
 refine WI_ac rfl (Ac_box (xs := [.int .i64 ((n : Nat) : Int), .int .i64 ((w : Nat) : Int), .map (some m18)]) rfl rfl) rfl rfl rfl rfl ?_
 rintro _ _ ⟨b20, rfl, rfl⟩
 refine ⟨(fun _ => subA), ?_⟩
 refine WJ_tp 15 rfl (Rd_assign rfl) rfl (hp _ _) ?_
 refine WJ_done (by kernel_rfl) ?_
 refine Ps_next hK4 ?_
 refine WC_ret ?_
 exact hret.go (b20, m18) (Rs1 rfl rfl)
end Go.Proofs.Ytgkpbeikcpecbaa
namespace Go.Proofs.Ytgkpbeikcpecbaa
open Go.RowKit Go.SL Go.ShM
set_option maxHeartbeats 1000000
set_option maxRecDepth 20000
set_option linter.all false
theorem tk33 : tk Try.prog 33 = some none := by kernel_rfl
theorem lay_ct {pb m n w b2 b5 : Nat} {Kn : KM} {fr : List Nat} {fa : Option Nat} {fc : Nat} {t : Int} {dg : Dg} (ht : 0 ≤ t) (hl : fr.length ≤ 900000000 := by omega) : Ct Try.prog 141 [.int .i64 t, aU .u8 dg.1, .pointer (some ⟨b2, 0, none⟩), .pointer (some ⟨b5, 0, none⟩)] [cl b2 121 [.pointer (some ⟨pb, 0, none⟩)], cl pb 161 [.int .i64 ((n : Nat) : Int), .int .i64 ((w : Nat) : Int), .map (some m)], mpI m (kv Kn), cl b5 101 [sl fa fr.length fc], arr fa fc 1 3 eN fr] (fun g : Option Nat × Nat => .tuple #[]) (fun g => [cl b2 121 [.pointer (some ⟨pb, 0, none⟩)], cl pb 161 [.int .i64 ((n : Nat) : Int), .int .i64 ((w : Nat) : Int), .map (some m)], mpI m (kv (kset Kn t dg)), cl b5 101 [sl g.1 (fr ++ [t.toNat]).length g.2], arr g.1 g.2 1 3 eN (fr ++ [t.toNat])]) := by
 refine Ct_body (n := 16) Try.func141 rfl rfl rfl fun F w0 Q hret hnorm hp => ?_
 change WC _ _ _ _ _ _ _ (_ :: _ :: _ :: _ :: _ :: F)
 have hd := Dg_len dg
 refine WC_sr fun K1 hK1 => ?_
 refine WL_ac (Ac_boxW (k := .u8) rfl) rfl rfl rfl ?_
 rintro _ _ ⟨b5, rfl, rfl⟩
 refine WL_end hK1 ?_
 refine WC_seq fun K2 hK2 => ?_
 refine WC_drawA mix (fun i => ([2, 2, 2, 2, 2, 2, 0] : List Nat).getD i 0) ?_
 refine WJ_tk 0 (Rd_load rfl tk121 (v := .pointer (some ⟨pb, 0, none⟩))) hp ?_ rfl (by kernel_rfl) rfl rfl rfl
 refine WJ_tp 1 rfl (Rd_nilCheck rfl) rfl (hp _ _) ?_
 refine WJ_tp 2 rfl (Rd_fieldAddr rfl fo161_2) rfl (hp _ _) ?_
 refine WJ_tk 3 (Rd_load rfl tk159 (v := .map (some m))) hp ?_ rfl (by kernel_rfl) rfl rfl rfl
 refine WJ_tp 4 rfl (Rd_move rfl) rfl (hp _ _) ?_
 refine WJ_tk 5 (Rd_loadW rfl tk42) hp ?_ rfl (by kernel_rfl) rfl rfl rfl
 refine WJ_all (rs := [6]) (by kernel_rfl) rfl ?_
 refine WI_one ?_
 refine WI_ac0 rfl (Ac_mapD dg rfl rfl rfl ud159 ud3) rfl rfl rfl ?_
 rintro _ _ rfl
 refine ⟨(fun h => by cases h), ?_⟩
 refine WJ_done (by kernel_rfl) ?_
 refine Ps_next hK2 ?_
 refine WC_region ?_
 refine WL_r (Rd_load rfl tk101 (v := sl fa fr.length fc)) rfl ?_
 refine WL_r (Rd_move rfl) rfl ?_
 refine WL_ac (Ac_bs1 (xs := [.int .i64 t]) rfl ud101 zr3 sz3) rfl rfl rfl ?_
 rintro _ _ ⟨b14, rfl, rfl⟩
 refine WL_ac (Ac_append1 (f := eN) encN t.toNat rfl rfl ud101 ud101 el3 (hu := by show _ = [Value.int .i64 ((t.toNat : Nat) : Int)]; rw [Int.toNat_of_nonneg ht])) rfl rfl rfl ?_
 rintro _ _ ⟨a15, cap15, rfl, rfl⟩
 rw [show fr.length + 1 = (fr ++ [t.toNat]).length from by simp]
 refine WL_ac0 (Ac_store1 rfl rfl sz101) rfl rfl ?_
 rintro _ _ rfl
 refine WL_nil ?_
 exact hnorm.go (a15, cap15) (Rs0 rfl)

theorem undo_ctd {pb m n w b2 b5 : Nat} {Kn : KM} {fr : List Nat} {fa : Option Nat} {fc : Nat} {b4 : Nat} {e : Int} (hl : fr.length ≤ 900000000 := by omega) : CtD Try.prog 140 [.pointer (some ⟨b4, 0, none⟩), .pointer (some ⟨b5, 0, none⟩), .pointer (some ⟨b2, 0, none⟩)] [cl b4 33 [.int .i64 e], cl b5 101 [sl fa fr.length fc], arr fa fc 1 3 eN fr, cl b2 121 [.pointer (some ⟨pb, 0, none⟩)], cl pb 161 [.int .i64 ((n : Nat) : Int), .int .i64 ((w : Nat) : Int), .map (some m)], mpI m (kv Kn)] (fun _ : Unit => [cl b4 33 [.int .i64 e], cl b5 101 [sl fa fr.length fc], arr fa fc 1 3 eN fr, cl b2 121 [.pointer (some ⟨pb, 0, none⟩)], cl pb 161 [.int .i64 ((n : Nat) : Int), .int .i64 ((w : Nat) : Int), .map (some m)], mpI m (kv (undo e Kn fr))]) := by
  refine CtD_body (n := 19) Try.func140 rfl rfl rfl fun F w0 Q hret hnorm hp => ?_
  change WC _ _ _ _ _ _ _ (_ :: _ :: _ :: _ :: _ :: _ :: F)
  refine WC_sr fun K1 hK1 => ?_
  refine WL_r (Rd_load rfl tk33 (v := .int .i64 e)) rfl ?_
  refine WL_r (Rd_neq rfl rfl) rfl ?_
  refine WL_end hK1 ?_
  refine WC_cond rfl (fun hc0 => ?_) (fun hc0 => ?_)
  · try simp only [dz, ne_eq] at hc0
    rw [show undo e Kn fr = dels Kn fr from if_neg hc0] at hret hnorm
    refine WC_sr fun K2 hK2 => ?_
    refine WL_r (Rd_load rfl tk101 (v := sl fa fr.length fc)) rfl ?_
    refine WL_r (Rd_len rfl rfl ud101) rfl ?_
    refine WL_r (Rd_move rfl) rfl ?_
    refine WL_end hK2 ?_
    refine WC_block ?_
    rw [show kv Kn = kv (dels Kn (fr.take 0)) from rfl]
    refine WC_loopK (σ := Nat) (fun k => [(9, .int .i64 ((k : Nat) : Int))]) (fun k => [mpI m (kv (dels Kn (fr.take k)))]) (fun k => k ≤ fr.length) (fun k => fr.length - k) (0) [2, 7, 8] kpA (by (try dsimp only); repeat (first | with_reducible exact Gv.nil | (with_reducible apply Gv.cons; · (repeat (first | with_reducible exact Ext.here | with_reducible apply Ext.there))))) ?_ ?_ Sub.refl ?_
    · exact Nat.zero_le _
    · (try dsimp only); exact (Wk.cons lkA Wk.nil)
    · rintro k hk K3 hK3
      simp only [List.cons_append, List.nil_append]
      refine WC_sr fun K4 hK4 => ?_
      refine WL_r (Rd_lssN rfl rfl) rfl ?_
      refine WL_end hK4 ?_
      refine WC_seq fun K5 hK5 => ?_
      refine WC_cond rfl (fun hc1 => ?_) (fun hc1 => ?_)
      · try simp only [dz, ne_eq] at hc1
        obtain ⟨a, ha⟩ : ∃ a, fr[k]? = some a := ⟨_, List.getElem?_eq_getElem (by omega)⟩
        refine WC_some (a := fa) hasA (by omega) (fun gb hgb _ => ?_)
        subst hgb
        refine WC_skip ?_
        refine Ps_next hK5 ?_
        refine WC_seq fun K6 hK6 => ?_
        refine WC_block ?_
        refine WC_sr fun K7 hK7 => ?_
        refine WL_r (Rd_index k rfl rfl ud101 sz3 (hi := by omega)) rfl ?_
        refine WL_r (Rd_load_arr (f := eN) (i := k) (j := 0) rfl tk3 (hl := ha)) rfl ?_
        refine WL_r (Rd_assign rfl) rfl ?_
        refine WL_end hK7 ?_
        refine WC_region ?_
        refine WL_r (Rd_load rfl tk121 (v := .pointer (some ⟨pb, 0, none⟩))) rfl ?_
        refine WL_r (Rd_nilCheck rfl) rfl ?_
        refine WL_r (Rd_fieldAddr rfl fo161_2) rfl ?_
        refine WL_r (Rd_load rfl tk159 (v := .map (some m))) rfl ?_
        refine WL_r (Rd_move rfl) rfl ?_
        refine WL_ac0 (Ac_delD rfl rfl ud159 ud3) rfl rfl ?_
        rintro _ _ rfl
        rw [dels_take ha]
        refine WL_nil ?_
        refine Ps_next hK6 ?_
        refine WC_region ?_
        refine WL_r (Rd_addN (j := 1) rfl rfl) rfl ?_
        refine WL_r (Rd_move rfl) rfl ?_
        refine WL_nil ?_
        refine Ps_wkA (hK3 (k + 1) (by omega) (by omega))
      · try simp only [dz, ne_eq] at hc1
        obtain rfl : k = fr.length := by omega
        rw [List.take_length]
        refine WC_exit ?_
        exact hnorm.go () (Rs0 rfl)
  · try simp only [dz, ne_eq] at hc0
    rw [show undo e Kn fr = Kn from if_pos hc0] at hret hnorm
    refine WC_skip ?_
    exact hnorm.go () (Rs0 rfl)
end Go.Proofs.Ytgkpbeikcpecbaa
namespace Go.Proofs.Ytgkpbeikcpecbaa
open Go.RowKit Go.SL Go.ShM
set_option maxHeartbeats 1000000
set_option maxRecDepth 20000
set_option linter.all false
theorem cf141 : cfn Try.prog 141 = true := by kernel_rfl
theorem ud232 : Try.prog.underlying 232 = some (.map 3 3) := by kernel_rfl
theorem zv3 : ∀ w, (zeroValue 3).run Try.prog w = .ok (.int .i64 0) w := fun w => by kernel_rfl
theorem climb0_ct {pb m n w b2 b5 : Nat} {Kn : KM} {fr : List Nat} {fa : Option Nat} {fc : Nat} {K0 : KM} (hF : Fre w K0 Kn fr) (hw1 : 1 ≤ w) (hw2 : w ≤ 100000 := by omega) : Ct Try.prog 142 [.pointer (some ⟨pb, 0, none⟩), .pointer (some ⟨b5, 0, none⟩), .func (.func 141) #[] #[.pointer (some ⟨b2, 0, none⟩), .pointer (some ⟨b5, 0, none⟩)]] [cl b2 121 [.pointer (some ⟨pb, 0, none⟩)], cl pb 161 [.int .i64 ((n : Nat) : Int), .int .i64 ((w : Nat) : Int), .map (some m)], mpI m (kv Kn), cl b5 101 [sl fa fr.length fc], arr fa fc 1 3 eN fr] (fun g : Option Nat × Nat => .bool (cl2 (w - 1) Kn fr).1) (fun g => [cl b2 121 [.pointer (some ⟨pb, 0, none⟩)], cl pb 161 [.int .i64 ((n : Nat) : Int), .int .i64 ((w : Nat) : Int), .map (some m)], mpI m (kv (cl2 (w - 1) Kn fr).2.1), cl b5 101 [sl g.1 (cl2 (w - 1) Kn fr).2.2.length g.2], arr g.1 g.2 1 3 eN (cl2 (w - 1) Kn fr).2.2]) := by
 refine Ct_body (n := 112) Try.func142 rfl rfl rfl fun F w0 Q hret hnorm hp => ?_
 change WC _ _ _ _ _ _ _ (_ :: _ :: _ :: _ :: _ :: F)
 have hfl := hF.len
 refine WC_sr fun K1 hK1 => ?_
 refine WL_r (Rd_assign rfl) rfl ?_
 refine WL_end hK1 ?_
 refine WC_sr fun K2 hK2 => ?_
 refine WL_ac (Ac_makeMap) rfl rfl rfl ?_
 rintro _ _ ⟨q18, rfl, rfl⟩
 rw [frV_0]
 refine WL_r (Rd_assign rfl) rfl ?_
 refine WL_end hK2 ?_
 refine WC_seq fun K3 hK3 => ?_
 refine WC_sr fun K4 hK4 => ?_
 refine WL_r (Rd_move rfl) rfl ?_
 refine WL_r (Rd_nilCheck rfl) rfl ?_
 refine WL_r (Rd_load rfl tk101 (v := sl fa fr.length fc)) rfl ?_
 refine WL_r (Rd_len rfl rfl ud101) rfl ?_
 refine WL_r (Rd_move rfl) rfl ?_
 refine WL_end hK4 ?_
 refine WC_block ?_
 rw [show mpI q18 (frV []) = mpI q18 (frV (fr.take 0)) from rfl]
 refine WC_loopK (σ := Nat) (fun k => [(23, .int .i64 ((k : Nat) : Int))]) (fun k => [mpI q18 (frV (fr.take k))]) (fun k => k ≤ fr.length) (fun k => fr.length - k) (0) [0, 2, 6, 7, 10, 11, 12, 13, 14, 15, 16, 17, 21, 22, 30, 31, 32, 33, 34, 35, 36, 37, 38, 39, 40, 41, 42, 43, 44, 45, 46, 47, 48, 49, 50, 51, 52, 53, 54, 55, 56, 57, 58, 59, 60, 61, 62, 63, 64, 65, 66, 67, 68, 69, 70, 71, 72, 73, 74, 75, 76, 77, 78, 79, 80, 81, 82, 83, 84, 85, 86, 87, 88, 89, 90, 91, 92, 93, 94, 95, 96, 97, 98, 99, 100, 101, 102, 103, 104, 105, 106, 107, 108, 110, 111] kpA (by (try dsimp only); repeat (first | with_reducible exact Gv.nil | (with_reducible apply Gv.cons; · (repeat (first | with_reducible exact Ext.here | with_reducible apply Ext.there))))) ?_ ?_ Sub.refl ?_
 ·exact Nat.zero_le _
 ·(try dsimp only); exact (Wk.cons lkA Wk.nil)
 ·rintro k hk K5 hK5
  simp only [List.cons_append, List.nil_append]
  refine WC_sr fun K6 hK6 => ?_
  refine WL_r (Rd_lssN rfl rfl) rfl ?_
  refine WL_end hK6 ?_
  refine WC_seq fun K7 hK7 => ?_
  refine WC_cond rfl (fun hc0 => ?_) (fun hc0 => ?_)
  ·try simp only [dz, ne_eq] at hc0
   obtain ⟨a, ha⟩ : ∃ a, fr[k]? = some a := ⟨_, List.getElem?_eq_getElem (by omega)⟩
   refine WC_some (a := fa) hasA (by omega) (fun gb hgb _ => ?_)
   subst hgb
   refine WC_skip ?_
   refine Ps_next hK7 ?_
   refine WC_seq fun K8 hK8 => ?_
   refine WC_block ?_
   refine WC_sr fun K9 hK9 => ?_
   refine WL_r (Rd_index k rfl rfl ud101 sz3 (hi := by omega)) rfl ?_
   refine WL_r (Rd_load_arr (f := eN) (i := k) (j := 0) rfl tk3 (hl := ha)) rfl ?_
   refine WL_r (Rd_assign rfl) rfl ?_
   refine WL_end hK9 ?_
   refine WC_region ?_
   refine WL_r (Rd_move rfl) rfl ?_
   refine WL_r (Rd_move rfl) rfl ?_
   refine WL_ac0 (Ac_mapF rfl rfl rfl ud232 ud3) rfl rfl ?_
   rintro _ _ rfl
   rw [show fr.take k ++ [a] = fr.take (k + 1) from by obtain ⟨hk2, e2⟩ := List.getElem?_eq_some_iff.1 ha; rw [List.take_succ_eq_append_getElem hk2, e2]]
   refine WL_nil ?_
   refine Ps_next hK8 ?_
   refine WC_region ?_
   refine WL_r (Rd_addN (j := 1) rfl rfl) rfl ?_
   refine WL_r (Rd_move rfl) rfl ?_
   refine WL_nil ?_
   refine Ps_wkA (hK5 (k + 1) (by omega) (by omega))
  ·try simp only [dz, ne_eq] at hc0
   obtain rfl : k = fr.length := by omega
   rw [List.take_length]
   refine WC_exit ?_
   refine Ps_next hK3 ?_
   refine WC_seq fun K10 hK10 => ?_
   refine WC_sr fun K11 hK11 => ?_
   refine WL_r (Rd_move rfl) rfl ?_
   refine WL_r (Rd_nilCheck rfl) rfl ?_
   refine WL_r (Rd_fieldAddr rfl fo161_1) rfl ?_
   refine WL_r (Rd_load rfl tk3 (v := .int .i64 ((w : Nat) : Int))) rfl ?_
   refine WL_r (Rd_subN (j := 1) rfl rfl) rfl ?_
   refine WL_r (Rd_assign rfl) rfl ?_
   refine WL_end hK11 ?_
   refine WC_block ?_
   refine WC_loopK (σ := Nat × KM × (List Nat) × (Option Nat) × Nat) (fun ⟨mq, Kc, fc', fa', cc'⟩ => [(10, .int .i64 ((mq : Nat) : Int))]) (fun ⟨mq, Kc, fc', fa', cc'⟩ => [mpI q18 (frV fc'), mpI m (kv Kc), cl b5 101 [sl fa' fc'.length cc'], arr fa' cc' 1 3 eN fc']) (fun ⟨mq, Kc, fc', fa', cc'⟩ => mq ≤ w - 1 ∧ cl2 mq Kc fc' = (cl2 (w - 1) Kn fr) ∧ Fre w K0 Kc fc') (fun ⟨mq, Kc, fc', fa', cc'⟩ => mq) ⟨w - 1, Kn, fr, fa, fc⟩ [0, 2, 7] kpA (by (try dsimp only); repeat (first | with_reducible exact Gv.nil | (with_reducible apply Gv.cons; · (repeat (first | with_reducible exact Ext.here | with_reducible apply Ext.there))))) ?_ ?_ Sub.refl ?_
   ·exact ⟨Nat.le_refl _, rfl, hF⟩
   ·(try dsimp only); exact (Wk.cons lkA Wk.nil)
   ·rintro ⟨mq, Kc, fc', fa', cc'⟩ ⟨hmq, hcl, hFc⟩ K12 hK12
    simp only [List.cons_append, List.nil_append]
    have hfl' := hFc.len
    refine WC_seq fun K13 hK13 => ?_
    refine WC_sr fun K14 hK14 => ?_
    refine WL_r (Rd_move rfl) rfl ?_
    refine WL_r (Rd_geqN (j := 1) rfl rfl) rfl ?_
    refine WL_end hK14 ?_
    refine WC_cond rfl (fun hc1 => ?_) (fun hc1 => ?_)
    ·try simp only [dz, ne_eq] at hc1
     obtain ⟨mm, rfl⟩ : ∃ mm, mq = mm + 1 := ⟨mq - 1, by omega⟩
     have hda := Dg_len ((Kc (((2 * (mm + 1) : Nat)) : Int)).getD zD)
     have hdb := Dg_len ((Kc (((2 * (mm + 1) + 1 : Nat)) : Int)).getD zD)
     have hdc := Dg_len ((Kc (((mm + 1 : Nat)) : Int)).getD zD)
     have hi1 := inF_le fc' (mm + 1)
     have hi2 := inF_le fc' (2 * (mm + 1))
     have hi3 := inF_le fc' (2 * (mm + 1) + 1)
     refine WC_skip ?_
     refine Ps_next hK13 ?_
     refine WC_seq fun K15 hK15 => ?_
     refine WC_block ?_
     refine WC_sr fun K16 hK16 => ?_
     refine WL_r (Rd_move rfl) rfl ?_
     refine WL_r (Rd_nilCheck rfl) rfl ?_
     refine WL_r (Rd_fieldAddr rfl fo161_2) rfl ?_
     refine WL_r (Rd_load rfl tk159 (v := .map (some m))) rfl ?_
     refine WL_r (Rd_move rfl) rfl ?_
     refine WL_r (Rd_mulN (i := 2) rfl rfl) rfl ?_
     refine WL_r (Rd_lookD (k := (((2 * (mm + 1) : Nat)) : Int)) rfl rfl ud159 ud3 zvD42) rfl ?_
     refine WL_r (Rd_move rfl) rfl ?_
     refine WL_r (Rd_ext0 rfl) rfl ?_
     refine WL_r (Rd_ext1 rfl) rfl ?_
     refine WL_ac (Ac_allocW (k := .u8) (w := 8) (m := 32) zr42) rfl rfl rfl ?_
     rintro _ _ ⟨b11, rfl, rfl⟩
     refine WL_ac0 (Ac_storeW rfl rfl sz42) rfl rfl ?_
     rintro _ _ rfl
     refine WL_r (Rd_assign rfl) rfl ?_
     refine WL_end hK16 ?_
     refine WC_sr fun K17 hK17 => ?_
     refine WL_r (Rd_move rfl) rfl ?_
     refine WL_r (Rd_nilCheck rfl) rfl ?_
     refine WL_r (Rd_fieldAddr rfl fo161_2) rfl ?_
     refine WL_r (Rd_load rfl tk159 (v := .map (some m))) rfl ?_
     refine WL_r (Rd_move rfl) rfl ?_
     refine WL_r (Rd_mulN (i := 2) rfl rfl) rfl ?_
     refine WL_r (Rd_addN (j := 1) rfl rfl) rfl ?_
     refine WL_r (Rd_lookD (k := (((2 * (mm + 1) + 1 : Nat)) : Int)) rfl rfl ud159 ud3 zvD42) rfl ?_
     refine WL_r (Rd_move rfl) rfl ?_
     refine WL_r (Rd_ext0 rfl) rfl ?_
     refine WL_r (Rd_ext1 rfl) rfl ?_
     refine WL_ac (Ac_allocW (k := .u8) (w := 8) (m := 32) zr42) rfl rfl rfl ?_
     rintro _ _ ⟨b13, rfl, rfl⟩
     refine WL_ac0 (Ac_storeW rfl rfl sz42) rfl rfl ?_
     rintro _ _ rfl
     refine WL_r (Rd_assign rfl) rfl ?_
     refine WL_end hK17 ?_
     refine WC_sr fun K18 hK18 => ?_
     refine WL_r (Rd_move rfl) rfl ?_
     refine WL_r (Rd_nilCheck rfl) rfl ?_
     refine WL_r (Rd_fieldAddr rfl fo161_2) rfl ?_
     refine WL_r (Rd_load rfl tk159 (v := .map (some m))) rfl ?_
     refine WL_r (Rd_move rfl) rfl ?_
     refine WL_r (Rd_lookD (k := (((mm + 1 : Nat)) : Int)) rfl rfl ud159 ud3 zvD42) rfl ?_
     refine WL_r (Rd_move rfl) rfl ?_
     refine WL_r (Rd_ext0 rfl) rfl ?_
     refine WL_r (Rd_ext1 rfl) rfl ?_
     refine WL_ac (Ac_allocW (k := .u8) (w := 8) (m := 32) zr42) rfl rfl rfl ?_
     rintro _ _ ⟨b15, rfl, rfl⟩
     refine WL_ac0 (Ac_storeW rfl rfl sz42) rfl rfl ?_
     rintro _ _ rfl
     refine WL_r (Rd_assign rfl) rfl ?_
     refine WL_end hK18 ?_
     refine WC_seq fun K19 hK19 => ?_
     refine WC_sr fun K20 hK20 => ?_
     refine WL_r (Rd_move rfl) rfl ?_
     refine WL_r (Rd_not rfl) rfl ?_
     refine WL_r (Rd_move rfl) rfl ?_
     refine WL_bool 71 rfl (fun hg21 => ?_) (fun hg21 => ?_)
     ·try simp only [dz, ne_eq] at hg21
      have q1 := hg21
      refine WL_skip rfl rfl rfl ?_
      refine WL_skip rfl rfl rfl ?_
      refine WL_r (Rd_pickT rfl rfl) rfl ?_
      refine WL_r (Rd_move rfl) rfl ?_
      refine WL_skip rfl rfl rfl ?_
      refine WL_skip rfl rfl rfl ?_
      refine WL_skip rfl rfl rfl ?_
      refine WL_skip rfl rfl rfl ?_
      refine WL_skip rfl rfl rfl ?_
      refine WL_skip rfl rfl rfl ?_
      refine WL_skip rfl rfl rfl ?_
      refine WL_skip rfl rfl rfl ?_
      refine WL_skip rfl rfl rfl ?_
      refine WL_skip rfl rfl rfl ?_
      refine WL_skip rfl rfl rfl ?_
      refine WL_skip rfl rfl rfl ?_
      refine WL_skip rfl rfl rfl ?_
      refine WL_skip rfl rfl rfl ?_
      refine WL_skip rfl rfl rfl ?_
      refine WL_skip rfl rfl rfl ?_
      refine WL_skip rfl rfl rfl ?_
      refine WL_skip rfl rfl rfl ?_
      refine WL_r (Rd_pickT rfl rfl) rfl ?_
      refine WL_end hK20 ?_
      refine WC_condT rfl ?_
      rw [show cl2 (mm + 1) Kc fc' = cl2 mm Kc fc' from by first | exact cl2_nil (.inl q1) | exact cl2_nil (.inr q2) | exact cl2_old q1 q2 q3 hc2] at hcl
      refine WC_exit ?_
      refine Ps_next hK15 ?_
      refine WC_region ?_
      refine WL_r (Rd_move rfl) rfl ?_
      refine WL_r (Rd_subN (j := 1) rfl rfl) rfl ?_
      refine WL_r (Rd_assign rfl) rfl ?_
      refine WL_nil ?_
      refine Ps_wkA (hK12 ⟨mm, Kc, fc', fa', cc'⟩ (⟨by (try dsimp only); omega, hcl, hFc⟩) (by (try dsimp only); omega))
     ·try simp only [dz, ne_eq] at hg21
      have q1 := hg21
      refine WL_r (Rd_move rfl) rfl ?_
      refine WL_r (Rd_not rfl) rfl ?_
      refine WL_r (Rd_pickF rfl rfl) rfl ?_
      refine WL_r (Rd_move rfl) rfl ?_
      refine WL_bool 75 rfl (fun hg22 => ?_) (fun hg22 => ?_)
      ·try simp only [dz, ne_eq] at hg22
       have q2 := hg22
       refine WL_skip rfl rfl rfl ?_
       refine WL_skip rfl rfl rfl ?_
       refine WL_skip rfl rfl rfl ?_
       refine WL_skip rfl rfl rfl ?_
       refine WL_skip rfl rfl rfl ?_
       refine WL_skip rfl rfl rfl ?_
       refine WL_skip rfl rfl rfl ?_
       refine WL_skip rfl rfl rfl ?_
       refine WL_skip rfl rfl rfl ?_
       refine WL_skip rfl rfl rfl ?_
       refine WL_skip rfl rfl rfl ?_
       refine WL_skip rfl rfl rfl ?_
       refine WL_skip rfl rfl rfl ?_
       refine WL_skip rfl rfl rfl ?_
       refine WL_skip rfl rfl rfl ?_
       refine WL_skip rfl rfl rfl ?_
       refine WL_skip rfl rfl rfl ?_
       refine WL_skip rfl rfl rfl ?_
       refine WL_r (Rd_pickT rfl rfl) rfl ?_
       refine WL_end hK20 ?_
       refine WC_condT rfl ?_
       rw [show cl2 (mm + 1) Kc fc' = cl2 mm Kc fc' from by first | exact cl2_nil (.inl q1) | exact cl2_nil (.inr q2) | exact cl2_old q1 q2 q3 hc2] at hcl
       refine WC_exit ?_
       refine Ps_next hK15 ?_
       refine WC_region ?_
       refine WL_r (Rd_move rfl) rfl ?_
       refine WL_r (Rd_subN (j := 1) rfl rfl) rfl ?_
       refine WL_r (Rd_assign rfl) rfl ?_
       refine WL_nil ?_
       refine Ps_wkA (hK12 ⟨mm, Kc, fc', fa', cc'⟩ (⟨by (try dsimp only); omega, hcl, hFc⟩) (by (try dsimp only); omega))
      ·try simp only [dz, ne_eq] at hg22
       have q2 := hg22
       refine WL_r (Rd_move rfl) rfl ?_
       refine WL_r (Rd_move rfl) rfl ?_
       refine WL_bool 77 rfl (fun hg23 => ?_) (fun hg23 => ?_)
       ·try simp only [dz, ne_eq] at hg23
        have q3 := hg23
        refine WL_r (Rd_move rfl) rfl ?_
        refine WL_r (Rd_move rfl) rfl ?_
        refine WL_r (Rd_lookF (a := mm + 1) rfl rfl ud232 ud3 zv3) rfl ?_
        refine WL_r (Rd_move rfl) rfl ?_
        refine WL_r (Rd_move rfl) rfl ?_
        refine WL_r (Rd_mulN (i := 2) rfl rfl) rfl ?_
        refine WL_r (Rd_lookF (a := 2 * (mm + 1)) rfl rfl ud232 ud3 zv3) rfl ?_
        refine WL_r (Rd_addN rfl rfl) rfl ?_
        refine WL_r (Rd_move rfl) rfl ?_
        refine WL_r (Rd_move rfl) rfl ?_
        refine WL_r (Rd_mulN (i := 2) rfl rfl) rfl ?_
        refine WL_r (Rd_addN (j := 1) rfl rfl) rfl ?_
        refine WL_r (Rd_lookF (a := 2 * (mm + 1) + 1) rfl rfl ud232 ud3 zv3) rfl ?_
        refine WL_r (Rd_addN rfl rfl) rfl ?_
        refine WL_r (Rd_eqlN (j := 0) rfl rfl) rfl ?_
        refine WL_r (Rd_pickT rfl rfl) rfl ?_
        refine WL_r (Rd_pickF rfl rfl) rfl ?_
        refine WL_end hK20 ?_
        refine WC_cond rfl (fun hc2 => ?_) (fun hc2 => ?_)
        ·try simp only [dz, ne_eq] at hc2
         rw [show cl2 (mm + 1) Kc fc' = cl2 mm Kc fc' from by first | exact cl2_nil (.inl q1) | exact cl2_nil (.inr q2) | exact cl2_old q1 q2 q3 hc2] at hcl
         refine WC_exit ?_
         refine Ps_next hK15 ?_
         refine WC_region ?_
         refine WL_r (Rd_move rfl) rfl ?_
         refine WL_r (Rd_subN (j := 1) rfl rfl) rfl ?_
         refine WL_r (Rd_assign rfl) rfl ?_
         refine WL_nil ?_
         refine Ps_wkA (hK12 ⟨mm, Kc, fc', fa', cc'⟩ (⟨by (try dsimp only); omega, hcl, hFc⟩) (by (try dsimp only); omega))
        ·try simp only [dz, ne_eq] at hc2
         refine WC_skip ?_
         refine Ps_next hK19 ?_
         refine WC_sr fun K24 hK24 => ?_
         refine WL_r (Rd_loadW (l := ((Kc (((2 * (mm + 1) : Nat)) : Int)).getD zD).1) rfl tk42) rfl ?_
         refine WL_r (Rd_loadW (l := ((Kc (((2 * (mm + 1) + 1 : Nat)) : Int)).getD zD).1) rfl tk42) rfl ?_
         refine WL_ac (Ac_call cf113 rfl (hs := node_ct (x := ((Kc (((2 * (mm + 1) : Nat)) : Int)).getD zD).1) (y := ((Kc (((2 * (mm + 1) + 1 : Nat)) : Int)).getD zD).1) (hx := Dg_len _) (hy := Dg_len _))) rfl rfl rfl ?_
         rintro _ _ ⟨⟨⟩, rfl, hA⟩
         simp only [List.cons_append, List.nil_append] at hA
         replace hA := hA.symm
         subst hA
         rw [show tagD 6#8 [((Kc (((2 * (mm + 1) : Nat)) : Int)).getD zD).1, ((Kc (((2 * (mm + 1) + 1 : Nat)) : Int)).getD zD).1] = (nodeD ((Kc (((2 * (mm + 1) : Nat)) : Int)).getD zD) ((Kc (((2 * (mm + 1) + 1 : Nat)) : Int)).getD zD)).1 from rfl]
         have hdn := Dg_len (nodeD ((Kc (((2 * (mm + 1) : Nat)) : Int)).getD zD) ((Kc (((2 * (mm + 1) + 1 : Nat)) : Int)).getD zD))
         refine WL_ac (Ac_allocW (k := .u8) (w := 8) (m := 32) zr42) rfl rfl rfl ?_
         rintro _ _ ⟨b17, rfl, rfl⟩
         refine WL_ac0 (Ac_storeW rfl rfl sz42) rfl rfl ?_
         rintro _ _ rfl
         refine WL_end hK24 ?_
         refine WC_seq fun K25 hK25 => ?_
         refine WC_sr fun K26 hK26 => ?_
         refine WL_r (Rd_move rfl) rfl ?_
         refine WL_r (Rd_move rfl) rfl ?_
         refine WL_bool 99 rfl (fun hg27 => ?_) (fun hg27 => ?_)
         ·try simp only [dz, ne_eq] at hg27
          have q4 := hg27
          refine WL_r (Rd_loadW (l := (nodeD ((Kc (((2 * (mm + 1) : Nat)) : Int)).getD zD) ((Kc (((2 * (mm + 1) + 1 : Nat)) : Int)).getD zD)).1) rfl tk42) rfl ?_
          refine WL_r (Rd_loadW (l := ((Kc (((mm + 1 : Nat)) : Int)).getD zD).1) rfl tk42) rfl ?_
          refine WL_r (Rd_neW rfl rfl ais42) rfl ?_
          refine WL_r (Rd_pickT rfl rfl) rfl ?_
          refine WL_end hK26 ?_
          refine WC_cond rfl (fun hc3 => ?_) (fun hc3 => ?_)
          ·try simp only [dz, ne_eq] at hc3
           rw [show cl2 (mm + 1) Kc fc' = (false, Kc, fc') from cl2_bad q1 q2 q4 (by first | exact hc2 | omega) (fun e => hc3 (by rw [e]))] at hcl
           rw [← hcl] at hret
           dsimp only at hret
           refine WC_sr fun K28 hK28 => ?_
           refine WL_r (Rd_assign rfl) rfl ?_
           refine WL_end hK28 ?_
           refine WC_ret ?_
           exact hret.go (fa', cc') (Rs1 rfl rfl)
          ·try simp only [dz, ne_eq] at hc3
           refine WC_skip ?_
           refine Ps_next hK25 ?_
           refine WC_sr fun K29 hK29 => ?_
           refine WL_r (Rd_move rfl) rfl ?_
           refine WL_r (Rd_not rfl) rfl ?_
           refine WL_end hK29 ?_
           refine WC_cond rfl (fun hc4 => ?_) (fun hc4 => ?_)
           ·try simp only [dz, ne_eq] at hc4
            rw [show cl2 (mm + 1) Kc fc' = cl2 mm (kset Kc (((mm + 1 : Nat)) : Int) (nodeD ((Kc (((2 * (mm + 1) : Nat)) : Int)).getD zD) ((Kc (((2 * (mm + 1) + 1 : Nat)) : Int)).getD zD))) (fc' ++ [mm + 1]) from cl2_new q1 q2 (by simpa using hc4)] at hcl
            refine WC_sr fun K30 hK30 => ?_
            refine WL_r (Rd_move rfl) rfl ?_
            refine WL_r (Rd_move rfl) rfl ?_
            refine WL_r (Rd_loadW (l := (nodeD ((Kc (((2 * (mm + 1) : Nat)) : Int)).getD zD) ((Kc (((2 * (mm + 1) + 1 : Nat)) : Int)).getD zD)).1) rfl tk42) rfl ?_
            refine WL_ac (Ac_callv rfl cf141 rfl rfl rfl rfl (hs := lay_ct (pb := pb) (m := m) (n := n) (w := w) (b2 := b2) (b5 := b5) (Kn := Kc) (fr := fc') (t := (((mm + 1 : Nat)) : Int)) (dg := (nodeD ((Kc (((2 * (mm + 1) : Nat)) : Int)).getD zD) ((Kc (((2 * (mm + 1) + 1 : Nat)) : Int)).getD zD))) (ht := by omega))) rfl rfl rfl ?_
            rintro _ _ ⟨⟨a109, cap109⟩, rfl, hA⟩
            simp only [List.cons_append, List.nil_append] at hA
            replace hA := hA.symm
            subst hA
            rw [Int.toNat_natCast]
            refine WL_end hK30 ?_
            refine WC_region ?_
            refine WL_r (Rd_move rfl) rfl ?_
            refine WL_r (Rd_move rfl) rfl ?_
            refine WL_ac0 (Ac_mapF rfl rfl rfl ud232 ud3) rfl rfl ?_
            rintro _ _ rfl
            refine WL_nil ?_
            refine Ps_next hK15 ?_
            refine WC_region ?_
            refine WL_r (Rd_move rfl) rfl ?_
            refine WL_r (Rd_subN (j := 1) rfl rfl) rfl ?_
            refine WL_r (Rd_assign rfl) rfl ?_
            refine WL_nil ?_
            refine Ps_wkA (hK12 ⟨mm, kset Kc (((mm + 1 : Nat)) : Int) (nodeD ((Kc (((2 * (mm + 1) : Nat)) : Int)).getD zD) ((Kc (((2 * (mm + 1) + 1 : Nat)) : Int)).getD zD)), fc' ++ [mm + 1], a109, cap109⟩ (⟨by (try dsimp only); omega, hcl, hFc.lay (by omega) (by omega) (knone (by simpa using hc4))⟩) (by (try dsimp only); omega))
           ·try simp only [dz, ne_eq] at hc4
            rw [show cl2 (mm + 1) Kc fc' = cl2 mm Kc fc' from cl2_ok q1 q2 q4 (by first | exact hc2 | omega) (Dg_ext (by simpa using hc3))] at hcl
            refine WC_skip ?_
            refine Ps_next hK15 ?_
            refine WC_region ?_
            refine WL_r (Rd_move rfl) rfl ?_
            refine WL_r (Rd_subN (j := 1) rfl rfl) rfl ?_
            refine WL_r (Rd_assign rfl) rfl ?_
            refine WL_nil ?_
            refine Ps_wkA (hK12 ⟨mm, Kc, fc', fa', cc'⟩ (⟨by (try dsimp only); omega, hcl, hFc⟩) (by (try dsimp only); omega))
         ·try simp only [dz, ne_eq] at hg27
          have q4 := hg27
          rw [q4] at q3; cases q3
       ·try simp only [dz, ne_eq] at hg23
        have q3 := hg23
        refine WL_skip rfl rfl rfl ?_
        refine WL_skip rfl rfl rfl ?_
        refine WL_skip rfl rfl rfl ?_
        refine WL_skip rfl rfl rfl ?_
        refine WL_skip rfl rfl rfl ?_
        refine WL_skip rfl rfl rfl ?_
        refine WL_skip rfl rfl rfl ?_
        refine WL_skip rfl rfl rfl ?_
        refine WL_skip rfl rfl rfl ?_
        refine WL_skip rfl rfl rfl ?_
        refine WL_skip rfl rfl rfl ?_
        refine WL_skip rfl rfl rfl ?_
        refine WL_skip rfl rfl rfl ?_
        refine WL_skip rfl rfl rfl ?_
        refine WL_skip rfl rfl rfl ?_
        refine WL_r (Rd_pickF rfl rfl) rfl ?_
        refine WL_r (Rd_pickF rfl rfl) rfl ?_
        refine WL_end hK20 ?_
        refine WC_condF rfl ?_
        refine WC_skip ?_
        refine Ps_next hK19 ?_
        refine WC_sr fun K31 hK31 => ?_
        refine WL_r (Rd_loadW (l := ((Kc (((2 * (mm + 1) : Nat)) : Int)).getD zD).1) rfl tk42) rfl ?_
        refine WL_r (Rd_loadW (l := ((Kc (((2 * (mm + 1) + 1 : Nat)) : Int)).getD zD).1) rfl tk42) rfl ?_
        refine WL_ac (Ac_call cf113 rfl (hs := node_ct (x := ((Kc (((2 * (mm + 1) : Nat)) : Int)).getD zD).1) (y := ((Kc (((2 * (mm + 1) + 1 : Nat)) : Int)).getD zD).1) (hx := Dg_len _) (hy := Dg_len _))) rfl rfl rfl ?_
        rintro _ _ ⟨⟨⟩, rfl, hA⟩
        simp only [List.cons_append, List.nil_append] at hA
        replace hA := hA.symm
        subst hA
        rw [show tagD 6#8 [((Kc (((2 * (mm + 1) : Nat)) : Int)).getD zD).1, ((Kc (((2 * (mm + 1) + 1 : Nat)) : Int)).getD zD).1] = (nodeD ((Kc (((2 * (mm + 1) : Nat)) : Int)).getD zD) ((Kc (((2 * (mm + 1) + 1 : Nat)) : Int)).getD zD)).1 from rfl]
        have hdn := Dg_len (nodeD ((Kc (((2 * (mm + 1) : Nat)) : Int)).getD zD) ((Kc (((2 * (mm + 1) + 1 : Nat)) : Int)).getD zD))
        refine WL_ac (Ac_allocW (k := .u8) (w := 8) (m := 32) zr42) rfl rfl rfl ?_
        rintro _ _ ⟨b17, rfl, rfl⟩
        refine WL_ac0 (Ac_storeW rfl rfl sz42) rfl rfl ?_
        rintro _ _ rfl
        refine WL_end hK31 ?_
        refine WC_seq fun K32 hK32 => ?_
        refine WC_sr fun K33 hK33 => ?_
        refine WL_r (Rd_move rfl) rfl ?_
        refine WL_r (Rd_move rfl) rfl ?_
        refine WL_bool 99 rfl (fun hg34 => ?_) (fun hg34 => ?_)
        ·try simp only [dz, ne_eq] at hg34
         have q4 := hg34
         rw [q3] at q4; cases q4
        ·try simp only [dz, ne_eq] at hg34
         have q4 := hg34
         refine WL_skip rfl rfl rfl ?_
         refine WL_skip rfl rfl rfl ?_
         refine WL_skip rfl rfl rfl ?_
         refine WL_r (Rd_pickF rfl rfl) rfl ?_
         refine WL_end hK33 ?_
         refine WC_condF rfl ?_
         refine WC_skip ?_
         refine Ps_next hK32 ?_
         refine WC_sr fun K35 hK35 => ?_
         refine WL_r (Rd_move rfl) rfl ?_
         refine WL_r (Rd_not rfl) rfl ?_
         refine WL_end hK35 ?_
         refine WC_cond rfl (fun hc4 => ?_) (fun hc4 => ?_)
         ·try simp only [dz, ne_eq] at hc4
          rw [show cl2 (mm + 1) Kc fc' = cl2 mm (kset Kc (((mm + 1 : Nat)) : Int) (nodeD ((Kc (((2 * (mm + 1) : Nat)) : Int)).getD zD) ((Kc (((2 * (mm + 1) + 1 : Nat)) : Int)).getD zD))) (fc' ++ [mm + 1]) from cl2_new q1 q2 (by simpa using hc4)] at hcl
          refine WC_sr fun K36 hK36 => ?_
          refine WL_r (Rd_move rfl) rfl ?_
          refine WL_r (Rd_move rfl) rfl ?_
          refine WL_r (Rd_loadW (l := (nodeD ((Kc (((2 * (mm + 1) : Nat)) : Int)).getD zD) ((Kc (((2 * (mm + 1) + 1 : Nat)) : Int)).getD zD)).1) rfl tk42) rfl ?_
          refine WL_ac (Ac_callv rfl cf141 rfl rfl rfl rfl (hs := lay_ct (pb := pb) (m := m) (n := n) (w := w) (b2 := b2) (b5 := b5) (Kn := Kc) (fr := fc') (t := (((mm + 1 : Nat)) : Int)) (dg := (nodeD ((Kc (((2 * (mm + 1) : Nat)) : Int)).getD zD) ((Kc (((2 * (mm + 1) + 1 : Nat)) : Int)).getD zD))) (ht := by omega))) rfl rfl rfl ?_
          rintro _ _ ⟨⟨a109, cap109⟩, rfl, hA⟩
          simp only [List.cons_append, List.nil_append] at hA
          replace hA := hA.symm
          subst hA
          rw [Int.toNat_natCast]
          refine WL_end hK36 ?_
          refine WC_region ?_
          refine WL_r (Rd_move rfl) rfl ?_
          refine WL_r (Rd_move rfl) rfl ?_
          refine WL_ac0 (Ac_mapF rfl rfl rfl ud232 ud3) rfl rfl ?_
          rintro _ _ rfl
          refine WL_nil ?_
          refine Ps_next hK15 ?_
          refine WC_region ?_
          refine WL_r (Rd_move rfl) rfl ?_
          refine WL_r (Rd_subN (j := 1) rfl rfl) rfl ?_
          refine WL_r (Rd_assign rfl) rfl ?_
          refine WL_nil ?_
          refine Ps_wkA (hK12 ⟨mm, kset Kc (((mm + 1 : Nat)) : Int) (nodeD ((Kc (((2 * (mm + 1) : Nat)) : Int)).getD zD) ((Kc (((2 * (mm + 1) + 1 : Nat)) : Int)).getD zD)), fc' ++ [mm + 1], a109, cap109⟩ (⟨by (try dsimp only); omega, hcl, hFc.lay (by omega) (by omega) (knone (by simpa using hc4))⟩) (by (try dsimp only); omega))
         ·try simp only [dz, ne_eq] at hc4
          rw [q4] at hc4; simp at hc4
    ·try simp only [dz, ne_eq] at hc1
     obtain rfl : mq = 0 := by omega
     rw [← hcl, show cl2 0 Kc fc' = (true, Kc, fc') from rfl] at hret
     dsimp only at hret
     refine WC_exit ?_
     refine Ps_next hK10 ?_
     refine WC_sr fun K37 hK37 => ?_
     refine WL_r (Rd_assign rfl) rfl ?_
     refine WL_end hK37 ?_
     refine WC_ret ?_
     exact hret.go (fa', cc') (Rs1 rfl rfl)
end Go.Proofs.Ytgkpbeikcpecbaa
namespace Go.Proofs.Ytgkpbeikcpecbaa
open Go.RowKit Go.SL Go.ShM
set_option maxHeartbeats 1000000
set_option maxRecDepth 20000
set_option linter.all false
theorem cf140 : cfn Try.prog 140 = true := by kernel_rfl
theorem cf142 : cfn Try.prog 142 = true := by kernel_rfl
theorem fo133_0 : fo Try.prog 133 0 = some (0, 3) := by kernel_rfl
theorem fo133_1 : fo Try.prog 133 1 = some (1, 42) := by kernel_rfl
theorem sz33 : sz Try.prog 33 = some 1 := by kernel_rfl
theorem tk133 : tk Try.prog 133 = some (some 33) := by kernel_rfl
theorem zr33 : zr Try.prog 33 = some [.int .i64 0] := by kernel_rfl
theorem pPut_ct {pb m n w : Nat} {Kn : KM} {X : Asn} {v : Value} {l : List Nd} {ao : Option Addr} {cap2 : Nat} (hS : Sv [X] v 33 eND l ao cap2 := by assumption) (hs : SupK w Kn) (hn1 : 1 ≤ n) (hw1 : 1 ≤ w) (hw2 : w ≤ 100000 := by omega) (hll : l.length ≤ 900000000 := by omega) : Ct Try.prog 74 [.pointer (some ⟨pb, 0, none⟩), v] [cl pb 161 [.int .i64 ((n : Nat) : Int), .int .i64 ((w : Nat) : Int), .map (some m)], mpI m (kv Kn), X] (fun _ : Unit => .int .i64 ((putS w Kn l).1)) (fun _ => [cl pb 161 [.int .i64 ((n : Nat) : Int), .int .i64 ((w : Nat) : Int), .map (some m)], mpI m (kv (putK w Kn l)), X]) := by
 refine Ct_body (n := 105) Try.func74 rfl rfl rfl fun F w0 Q hret hnorm hp => ?_
 change WC _ _ _ _ _ _ _ (_ :: _ :: _ :: F)
 refine WC_sr fun K1 hK1 => ?_
 refine WL_ac (Ac_box (xs := [.pointer (some ⟨pb, 0, none⟩)]) rfl rfl) rfl rfl rfl ?_
 rintro _ _ ⟨b2, rfl, rfl⟩
 refine WL_ac (Ac_alloc zr33) rfl rfl rfl ?_
 rintro _ _ ⟨b4, rfl, rfl⟩
 refine WL_end hK1 ?_
 refine WC_seq fun K2 hK2 => ?_
 refine WC_sr fun K3 hK3 => ?_
 refine WL_r (Rd_load rfl tk121 (v := .pointer (some ⟨pb, 0, none⟩))) rfl ?_
 refine WL_ac (Ac_call cf86 rfl (hs := pLeaves_ct (pb := pb) (m := m) (n := n) (w := w) (Kn := Kn))) rfl rfl rfl ?_
 rintro _ _ ⟨⟨⟩, rfl, hA⟩
 simp only [List.cons_append, List.nil_append] at hA
 replace hA := hA.symm
 subst hA
 refine WL_r (Rd_isF (Rd_eqlN (j := 0) rfl rfl)) rfl ?_
 refine WL_end hK3 ?_
 refine WC_condF rfl ?_
 refine WC_skip ?_
 refine Ps_next hK2 ?_
 refine WC_sr fun K4 hK4 => ?_
 refine WL_ac (Ac_alloc zr101) rfl rfl rfl ?_
 rintro _ _ ⟨b5, rfl, rfl⟩
 refine WL_end hK4 ?_
 refine WC_sr fun K5 hK5 => ?_
 refine WL_r (Rd_makeFunc rfl rfl) rfl ?_
 refine WL_defer rfl rfl ?_
 refine WL_end hK5 ?_
 refine WC_sr fun K6 hK6 => ?_
 refine WL_r (Rd_makeFunc rfl rfl) rfl ?_
 refine WL_r (Rd_assign rfl) rfl ?_
 refine WL_end hK6 ?_
 refine WC_seq fun K7 hK7 => ?_
 refine WC_sr fun K8 hK8 => ?_
 refine WL_r (Rd_move rfl) rfl ?_
 refine WL_r (Rd_len_sv rfl rfl ud120) rfl ?_
 refine WL_r (Rd_move rfl) rfl ?_
 refine WL_end hK8 ?_
 refine WC_block ?_
 refine WC_imp (fun w h => sat_nil (e := 1) (T := 3) (f := eN) h) ?_
 rw [show cl b5 101 [.slice none 0 0] = cl b5 101 [sl none ([] : List Nat).length 0] from rfl]
 refine WC_loopK (σ := Nat × KM × (List Nat) × (Option Nat) × Nat) (fun ⟨k, Kc, fr, fa, fc⟩ => [(24, .int .i64 ((k : Nat) : Int))]) (fun ⟨k, Kc, fr, fa, fc⟩ => [mpI m (kv Kc), cl b5 101 [sl fa fr.length fc], arr fa fc 1 3 eN fr]) (fun ⟨k, Kc, fr, fa, fc⟩ => k ≤ l.length ∧ put1 w Kc (l.drop k) fr = put1 w Kn l [] ∧ Fre w Kn Kc fr) (fun ⟨k, Kc, fr, fa, fc⟩ => l.length - k) ⟨0, Kn, [], none, 0⟩ [2, 4, 5, 6, 12, 13, 14, 15, 16, 22, 23, 68, 69, 70, 71, 72, 73, 74, 75, 76, 77, 78, 79, 80, 81, 82, 83, 84, 85, 86, 87, 88, 89, 90, 91, 92, 93, 94, 95, 96, 97, 98, 99, 100, 101, 102, 103, 104] kpA (by (try dsimp only); repeat (first | with_reducible exact Gv.nil | (with_reducible apply Gv.cons; · (repeat (first | with_reducible exact Ext.here | with_reducible apply Ext.there))))) ?_ ?_ Sub.refl ?_
 ·exact ⟨Nat.zero_le _, rfl, Fre_0 hs⟩
 ·(try dsimp only); exact (Wk.cons lkA Wk.nil)
 ·rintro ⟨k, Kc, fr, fa, fc⟩ ⟨hk, hpu, hFc⟩ K9 hK9
  simp only [List.cons_append, List.nil_append]
  have hfl := hFc.len
  refine WC_sr fun K10 hK10 => ?_
  refine WL_r (Rd_lssN rfl rfl) rfl ?_
  refine WL_end hK10 ?_
  refine WC_seq fun K11 hK11 => ?_
  refine WC_cond rfl (fun hc1 => ?_) (fun hc1 => ?_)
  ·try simp only [dz, ne_eq] at hc1
   obtain ⟨x, hx⟩ : ∃ x, l[k]? = some x := ⟨_, List.getElem?_eq_getElem (by omega)⟩
   have hdx := drop_nd hx
   have hdk := Dg_len ((Kc x.1).getD zD)
   have hd2 := Dg_len x.2
   refine WC_skip ?_
   refine Ps_next hK11 ?_
   refine WC_seq fun K12 hK12 => ?_
   refine WC_block ?_
   refine WC_sr fun K13 hK13 => ?_
   refine WL_r (Rd_index_sv k rfl rfl ud120 sz133 (hA := hS) (hi := by omega)) rfl ?_
   refine WL_r (Rd_loadg_sv (f := eND) (i := k) rfl tk133 (hA := hS) (hl := hx)) rfl ?_
   refine WL_ac (Ac_alloc zr133) rfl rfl rfl ?_
   rintro _ _ ⟨b8, rfl, rfl⟩
   refine WL_ac0 (Ac_store (ys := eND x) rfl rfl sz133 (hv := by show (eND x).toArray.size = 33; rw [List.size_toArray, encND.len]) (h1 := encND.one x) (hr := by show ([] ++ eND x) ++ [] = eND x; rw [List.append_nil]; rfl)) rfl rfl ?_
   rintro _ _ rfl
   refine WL_end hK13 ?_
   refine WC_seq fun K14 hK14 => ?_
   refine WC_seq fun K15 hK15 => ?_
   refine WC_drawA mix (fun i => ([2, 2, 2, 2, 2, 2, 2, 2, 2, 2, 2, 2, 2, 2] : List Nat).getD i 0) ?_
   refine WJ_tp 0 rfl (Rd_fieldAddr rfl fo133_0) rfl (hp _ _) ?_
   refine WJ_tk 1 (Rd_load rfl tk3 (v := .int .i64 x.1)) hp ?_ rfl (by kernel_rfl) rfl rfl rfl
   refine WJ_tp 2 rfl (Rd_lss rfl rfl) rfl (hp _ _) ?_
   refine WJ_tp 3 rfl (Rd_move rfl) rfl (hp _ _) ?_
   refine WJ_bool 31 rfl (fun hg16 => ?_) (fun hg16 => ?_)
   ·try simp only [dz, ne_eq] at hg16
    have q2 := hg16
    refine WJ_skip 4 rfl (by kernel_rfl) rfl rfl rfl (hp _ _) ?_
    refine WJ_skip 5 rfl (by kernel_rfl) rfl rfl rfl (hp _ _) ?_
    refine WJ_skip 6 rfl (by kernel_rfl) rfl rfl rfl (hp _ _) ?_
    refine WJ_skip 7 rfl (by kernel_rfl) rfl rfl rfl (hp _ _) ?_
    refine WJ_skip 8 rfl (by kernel_rfl) rfl rfl rfl (hp _ _) ?_
    refine WJ_skip 9 rfl (by kernel_rfl) rfl rfl rfl (hp _ _) ?_
    refine WJ_skip 10 rfl (by kernel_rfl) rfl rfl rfl (hp _ _) ?_
    refine WJ_skip 11 rfl (by kernel_rfl) rfl rfl rfl (hp _ _) ?_
    refine WJ_skip 12 rfl (by kernel_rfl) rfl rfl rfl (hp _ _) ?_
    refine WJ_tp 13 rfl (Rd_pickT rfl rfl) rfl (hp _ _) ?_
    refine WJ_done (by kernel_rfl) ?_
    refine Ps_next hK15 ?_
    refine WC_condT rfl ?_
    have hcr : x.1 < 1 ∨ 2 * (w : Int) - 1 < x.1 := by omega
    refine WC_sr fun K17 hK17 => ?_
    refine WL_ac0 (Ac_store1 rfl rfl sz33) rfl rfl ?_
    rintro _ _ rfl
    refine WL_end hK17 ?_
    refine WC_ret ?_
    have hS' : putS w Kn l = (120, _, _) := putS_a (by rw [← hpu, hdx, put1_bad hcr]) (by decide)
    rw [putS_v hS', putK_v hS'] at hret
    refine hret.goC (undo_ctd (pb := pb) (m := m) (n := n) (w := w) (b2 := b2) (b4 := b4) (b5 := b5) (e := 120) (fr := fr) (Kn := Kc) (fa := fa) (fc := fc)) cf140 (fun _ => ⟨(), ?_, ?_⟩)
    ·(simp only [List.cons_append, List.nil_append]; exact Rs1cs rfl rfl tk33)
    ·simp only [List.cons_append, List.nil_append]; repeat (first | with_reducible exact Sub.refl | with_reducible exact Sub.nil | with_reducible refine Sub.cons (by repeat (first | with_reducible exact Ext.here | with_reducible apply Ext.there)) ?_ | with_reducible refine Sub.tail ?_)
   ·try simp only [dz, ne_eq] at hg16
    have q2 := hg16
    refine WJ_tp 4 rfl (Rd_fieldAddr rfl fo133_0) rfl (hp _ _) ?_
    refine WJ_tk 5 (Rd_load rfl tk3 (v := .int .i64 x.1)) hp ?_ rfl (by kernel_rfl) rfl rfl rfl
    refine WJ_tk 6 (Rd_load rfl tk121 (v := .pointer (some ⟨pb, 0, none⟩))) hp ?_ rfl (by kernel_rfl) rfl rfl rfl
    refine WJ_tp 7 rfl (Rd_nilCheck rfl) rfl (hp _ _) ?_
    refine WJ_tp 8 rfl (Rd_fieldAddr rfl fo161_1) rfl (hp _ _) ?_
    refine WJ_tk 9 (Rd_load rfl tk3 (v := .int .i64 ((w : Nat) : Int))) hp ?_ rfl (by kernel_rfl) rfl rfl rfl
    refine WJ_tp 10 rfl (Rd_mulN (i := 2) rfl rfl) rfl (hp _ _) ?_
    refine WJ_tp 11 rfl (Rd_subN (j := 1) rfl rfl) rfl (hp _ _) ?_
    refine WJ_tp 12 rfl (Rd_gtr rfl rfl) rfl (hp _ _) ?_
    refine WJ_tp 13 rfl (Rd_pickF rfl rfl) rfl (hp _ _) ?_
    refine WJ_done (by kernel_rfl) ?_
    refine Ps_next hK15 ?_
    refine WC_cond rfl (fun hc2 => ?_) (fun hc2 => ?_)
    ·try simp only [dz, ne_eq] at hc2
     have hcr : x.1 < 1 ∨ 2 * (w : Int) - 1 < x.1 := by omega
     refine WC_sr fun K18 hK18 => ?_
     refine WL_ac0 (Ac_store1 rfl rfl sz33) rfl rfl ?_
     rintro _ _ rfl
     refine WL_end hK18 ?_
     refine WC_ret ?_
     have hS' : putS w Kn l = (120, _, _) := putS_a (by rw [← hpu, hdx, put1_bad hcr]) (by decide)
     rw [putS_v hS', putK_v hS'] at hret
     refine hret.goC (undo_ctd (pb := pb) (m := m) (n := n) (w := w) (b2 := b2) (b4 := b4) (b5 := b5) (e := 120) (fr := fr) (Kn := Kc) (fa := fa) (fc := fc)) cf140 (fun _ => ⟨(), ?_, ?_⟩)
     ·(simp only [List.cons_append, List.nil_append]; exact Rs1cs rfl rfl tk33)
     ·simp only [List.cons_append, List.nil_append]; repeat (first | with_reducible exact Sub.refl | with_reducible exact Sub.nil | with_reducible refine Sub.cons (by repeat (first | with_reducible exact Ext.here | with_reducible apply Ext.there)) ?_ | with_reducible refine Sub.tail ?_)
    ·try simp only [dz, ne_eq] at hc2
     have hc2 : ¬ (x.1 < 1 ∨ 2 * (w : Int) - 1 < x.1) := by omega
     refine WC_skip ?_
     refine Ps_next hK14 ?_
     refine WC_seq fun K19 hK19 => ?_
     refine WC_drawA mix (fun i => ([2, 2, 2, 2, 2, 2, 2, 2, 2, 2, 1, 0, 2] : List Nat).getD i 0) ?_
     refine WJ_tk 0 (Rd_load rfl tk121 (v := .pointer (some ⟨pb, 0, none⟩))) hp ?_ rfl (by kernel_rfl) rfl rfl rfl
     refine WJ_tp 1 rfl (Rd_nilCheck rfl) rfl (hp _ _) ?_
     refine WJ_tp 2 rfl (Rd_fieldAddr rfl fo161_2) rfl (hp _ _) ?_
     refine WJ_tk 3 (Rd_load rfl tk159 (v := .map (some m))) hp ?_ rfl (by kernel_rfl) rfl rfl rfl
     refine WJ_tp 4 rfl (Rd_fieldAddr rfl fo133_0) rfl (hp _ _) ?_
     refine WJ_tk 5 (Rd_load rfl tk3 (v := .int .i64 x.1)) hp ?_ rfl (by kernel_rfl) rfl rfl rfl
     refine WJ_tk 6 (Rd_lookD (k := x.1) rfl rfl ud159 ud3 zvD42) hp ?_ rfl (by kernel_rfl) rfl rfl rfl
     refine WJ_tp 7 rfl (Rd_move rfl) rfl (hp _ _) ?_
     refine WJ_tp 8 rfl (Rd_ext0 rfl) rfl (hp _ _) ?_
     refine WJ_tp 9 rfl (Rd_ext1 rfl) rfl (hp _ _) ?_
     refine WJ_all (rs := [10]) (by kernel_rfl) rfl ?_
     refine WI_one ?_
     refine WI_ac rfl (Ac_allocW (k := .u8) (w := 8) (m := 32) zr42) rfl rfl rfl rfl ?_
     rintro _ _ ⟨b9, rfl, rfl⟩
     refine ⟨(fun _ => subA), ?_⟩
     refine WJ_all (rs := [11]) (by kernel_rfl) rfl ?_
     refine WI_one ?_
     refine WI_ac0 rfl (Ac_storeW rfl rfl sz42) rfl rfl rfl ?_
     rintro _ _ rfl
     refine ⟨(fun h => by cases h), ?_⟩
     refine WJ_tp 12 rfl (Rd_assign rfl) rfl (hp _ _) ?_
     refine WJ_done (by kernel_rfl) ?_
     refine Ps_next hK19 ?_
     refine WC_seq fun K20 hK20 => ?_
     refine WC_sr fun K21 hK21 => ?_
     refine WL_r (Rd_move rfl) rfl ?_
     refine WL_r (Rd_move rfl) rfl ?_
     refine WL_bool 53 rfl (fun hg22 => ?_) (fun hg22 => ?_)
     ·try simp only [dz, ne_eq] at hg22
      have qis := hg22
      refine WL_r (Rd_loadW (l := ((Kc x.1).getD zD).1) rfl tk42) rfl ?_
      refine WL_r (Rd_fieldAddr rfl fo133_1) rfl ?_
      refine WL_r (Rd_aU (k := .u8) (l := x.2.1) (Rd_loadg (vs := fD x.2) rfl tk42 (hl := by rw [encND.len]; decide) (hi := eND_dg x)) rfl) rfl ?_
      refine WL_r (Rd_neW rfl rfl ais42) rfl ?_
      refine WL_r (Rd_pickT rfl rfl) rfl ?_
      refine WL_end hK21 ?_
      refine WC_cond rfl (fun hc3 => ?_) (fun hc3 => ?_)
      ·try simp only [dz, ne_eq] at hc3
       refine WC_sr fun K23 hK23 => ?_
       refine WL_ac0 (Ac_store1 rfl rfl sz33) rfl rfl ?_
       rintro _ _ rfl
       refine WL_end hK23 ?_
       refine WC_ret ?_
       have hS' : putS w Kn l = (121, _, _) := putS_a (by rw [← hpu, hdx, put1_oth hc2 qis (fun e => hc3 (by rw [e]))]) (by decide)
       rw [putS_v hS', putK_v hS'] at hret
       refine hret.goC (undo_ctd (pb := pb) (m := m) (n := n) (w := w) (b2 := b2) (b4 := b4) (b5 := b5) (e := 121) (fr := fr) (Kn := Kc) (fa := fa) (fc := fc)) cf140 (fun _ => ⟨(), ?_, ?_⟩)
       ·(simp only [List.cons_append, List.nil_append]; exact Rs1cs rfl rfl tk33)
       ·simp only [List.cons_append, List.nil_append]; repeat (first | with_reducible exact Sub.refl | with_reducible exact Sub.nil | with_reducible refine Sub.cons (by repeat (first | with_reducible exact Ext.here | with_reducible apply Ext.there)) ?_ | with_reducible refine Sub.tail ?_)
      ·try simp only [dz, ne_eq] at hc3
       refine WC_skip ?_
       refine Ps_next hK20 ?_
       refine WC_sr fun K24 hK24 => ?_
       refine WL_r (Rd_move rfl) rfl ?_
       refine WL_r (Rd_not rfl) rfl ?_
       refine WL_end hK24 ?_
       refine WC_cond rfl (fun hc4 => ?_) (fun hc4 => ?_)
       ·try simp only [dz, ne_eq] at hc4
        refine WC_region ?_
        refine WL_r (Rd_move rfl) rfl ?_
        refine WL_r (Rd_fieldAddr rfl fo133_0) rfl ?_
        refine WL_r (Rd_load rfl tk3 (v := .int .i64 x.1)) rfl ?_
        refine WL_r (Rd_fieldAddr rfl fo133_1) rfl ?_
        refine WL_r (Rd_aU (k := .u8) (l := x.2.1) (Rd_loadg (vs := fD x.2) rfl tk42 (hl := by rw [encND.len]; decide) (hi := eND_dg x)) rfl) rfl ?_
        refine WL_ac (Ac_callv rfl cf141 rfl rfl rfl rfl (hs := lay_ct (pb := pb) (m := m) (n := n) (w := w) (b2 := b2) (b5 := b5) (Kn := Kc) (fr := fr) (t := x.1) (dg := x.2) (ht := by omega))) rfl rfl rfl ?_
        rintro _ _ ⟨⟨a66, cap66⟩, rfl, hA⟩
        simp only [List.cons_append, List.nil_append] at hA
        replace hA := hA.symm
        subst hA
        refine WL_nil ?_
        refine Ps_next hK12 ?_
        refine WC_region ?_
        refine WL_r (Rd_addN (j := 1) rfl rfl) rfl ?_
        refine WL_r (Rd_move rfl) rfl ?_
        refine WL_nil ?_
        refine Ps_wkA (hK9 ⟨k + 1, kset Kc x.1 x.2, fr ++ [x.1.toNat], a66, cap66⟩ (⟨by (try dsimp only); omega, by (try dsimp only); rw [← hpu, hdx, put1_new hc2 (by simpa using hc4)], by (try dsimp only); have := hFc.lay (a := x.1.toNat) (d := x.2) (by omega) (by omega) (by rw [Int.toNat_of_nonneg (by omega)]; exact knone (by simpa using hc4)); rwa [Int.toNat_of_nonneg (by omega)] at this⟩) (by (try dsimp only); omega))
       ·try simp only [dz, ne_eq] at hc4
        refine WC_skip ?_
        refine Ps_next hK12 ?_
        refine WC_region ?_
        refine WL_r (Rd_addN (j := 1) rfl rfl) rfl ?_
        refine WL_r (Rd_move rfl) rfl ?_
        refine WL_nil ?_
        refine Ps_wkA (hK9 ⟨k + 1, Kc, fr, fa, fc⟩ (⟨by (try dsimp only); omega, by (try dsimp only); rw [← hpu, hdx, put1_old hc2 (by simpa using hc4) (Dg_ext (by first | (simpa using hc3) | (rw [qis] at hc4; simp at hc4)))], hFc⟩) (by (try dsimp only); omega))
     ·try simp only [dz, ne_eq] at hg22
      have qis := hg22
      refine WL_skip rfl rfl rfl ?_
      refine WL_skip rfl rfl rfl ?_
      refine WL_skip rfl rfl rfl ?_
      refine WL_skip rfl rfl rfl ?_
      refine WL_r (Rd_pickF rfl rfl) rfl ?_
      refine WL_end hK21 ?_
      refine WC_condF rfl ?_
      refine WC_skip ?_
      refine Ps_next hK20 ?_
      refine WC_sr fun K25 hK25 => ?_
      refine WL_r (Rd_move rfl) rfl ?_
      refine WL_r (Rd_not rfl) rfl ?_
      refine WL_end hK25 ?_
      refine WC_cond rfl (fun hc4 => ?_) (fun hc4 => ?_)
      ·try simp only [dz, ne_eq] at hc4
       refine WC_region ?_
       refine WL_r (Rd_move rfl) rfl ?_
       refine WL_r (Rd_fieldAddr rfl fo133_0) rfl ?_
       refine WL_r (Rd_load rfl tk3 (v := .int .i64 x.1)) rfl ?_
       refine WL_r (Rd_fieldAddr rfl fo133_1) rfl ?_
       refine WL_r (Rd_aU (k := .u8) (l := x.2.1) (Rd_loadg (vs := fD x.2) rfl tk42 (hl := by rw [encND.len]; decide) (hi := eND_dg x)) rfl) rfl ?_
       refine WL_ac (Ac_callv rfl cf141 rfl rfl rfl rfl (hs := lay_ct (pb := pb) (m := m) (n := n) (w := w) (b2 := b2) (b5 := b5) (Kn := Kc) (fr := fr) (t := x.1) (dg := x.2) (ht := by omega))) rfl rfl rfl ?_
       rintro _ _ ⟨⟨a66, cap66⟩, rfl, hA⟩
       simp only [List.cons_append, List.nil_append] at hA
       replace hA := hA.symm
       subst hA
       refine WL_nil ?_
       refine Ps_next hK12 ?_
       refine WC_region ?_
       refine WL_r (Rd_addN (j := 1) rfl rfl) rfl ?_
       refine WL_r (Rd_move rfl) rfl ?_
       refine WL_nil ?_
       refine Ps_wkA (hK9 ⟨k + 1, kset Kc x.1 x.2, fr ++ [x.1.toNat], a66, cap66⟩ (⟨by (try dsimp only); omega, by (try dsimp only); rw [← hpu, hdx, put1_new hc2 (by simpa using hc4)], by (try dsimp only); have := hFc.lay (a := x.1.toNat) (d := x.2) (by omega) (by omega) (by rw [Int.toNat_of_nonneg (by omega)]; exact knone (by simpa using hc4)); rwa [Int.toNat_of_nonneg (by omega)] at this⟩) (by (try dsimp only); omega))
      ·try simp only [dz, ne_eq] at hc4
       refine WC_skip ?_
       refine Ps_next hK12 ?_
       refine WC_region ?_
       refine WL_r (Rd_addN (j := 1) rfl rfl) rfl ?_
       refine WL_r (Rd_move rfl) rfl ?_
       refine WL_nil ?_
       refine Ps_wkA (hK9 ⟨k + 1, Kc, fr, fa, fc⟩ (⟨by (try dsimp only); omega, by (try dsimp only); rw [← hpu, hdx, put1_old hc2 (by simpa using hc4) (Dg_ext (by first | (simpa using hc3) | (rw [qis] at hc4; simp at hc4)))], hFc⟩) (by (try dsimp only); omega))
  ·try simp only [dz, ne_eq] at hc1
   obtain rfl : k = l.length := by omega
   rw [List.drop_length, put1_nil] at hpu
   refine WC_exit ?_
   refine Ps_next hK7 ?_
   refine WC_seq fun K26 hK26 => ?_
   refine WC_sr fun K27 hK27 => ?_
   refine WL_r (Rd_load rfl tk121 (v := .pointer (some ⟨pb, 0, none⟩))) rfl ?_
   refine WL_r (Rd_move rfl) rfl ?_
   refine WL_ac (Ac_call cf142 rfl (hs := climb0_ct (pb := pb) (m := m) (n := n) (w := w) (b2 := b2) (b5 := b5) (Kn := Kc) (fr := fr) (K0 := Kn) (hF := hFc) (hw1 := hw1))) rfl rfl rfl ?_
   rintro _ _ ⟨⟨a70, cap70⟩, rfl, hA⟩
   simp only [List.cons_append, List.nil_append] at hA
   replace hA := hA.symm
   subst hA
   have hFd := cl2_fre (K0 := Kn) (w - 1) Kc fr (by omega) hFc
   generalize hcl : cl2 (w - 1) Kc fr = cc at hFd ⊢
   obtain ⟨c1, Kd, fd⟩ := cc
   dsimp only at hFd ⊢
   have hfdl := hFd.len
   refine WL_r (Rd_not rfl) rfl ?_
   refine WL_end hK27 ?_
   refine WC_cond rfl (fun hc5 => ?_) (fun hc5 => ?_)
   ·try simp only [dz, ne_eq] at hc5
    refine WC_sr fun K28 hK28 => ?_
    refine WL_ac0 (Ac_store1 rfl rfl sz33) rfl rfl ?_
    rintro _ _ rfl
    refine WL_end hK28 ?_
    refine WC_ret ?_
    obtain rfl : c1 = false := by simpa using hc5
    have hS' : putS w Kn l = (123, _, _) := putS_b hpu.symm hcl
    rw [putS_v hS', putK_v hS'] at hret
    refine hret.goC (undo_ctd (pb := pb) (m := m) (n := n) (w := w) (b2 := b2) (b4 := b4) (b5 := b5) (e := 123) (fr := fd) (Kn := Kd) (fa := a70) (fc := cap70)) cf140 (fun _ => ⟨(), ?_, ?_⟩)
    ·(simp only [List.cons_append, List.nil_append]; exact Rs1cs rfl rfl tk33)
    ·simp only [List.cons_append, List.nil_append]; repeat (first | with_reducible exact Sub.refl | with_reducible exact Sub.nil | with_reducible refine Sub.cons (by repeat (first | with_reducible exact Ext.here | with_reducible apply Ext.there)) ?_ | with_reducible refine Sub.tail ?_)
   ·try simp only [dz, ne_eq] at hc5
    refine WC_skip ?_
    refine Ps_next hK26 ?_
    refine WC_seq fun K29 hK29 => ?_
    refine WC_sr fun K30 hK30 => ?_
    refine WL_r (Rd_load rfl tk101 (v := sl a70 fd.length cap70)) rfl ?_
    refine WL_r (Rd_len rfl rfl ud101) rfl ?_
    refine WL_r (Rd_move rfl) rfl ?_
    refine WL_end hK30 ?_
    refine WC_block ?_
    refine WC_loopK (σ := Nat) (fun j => [(74, .int .i64 ((j : Nat) : Int))]) (fun j => []) (fun j => j ≤ fd.length ∧ (fd.take j).all (okF Kd) = true) (fun j => fd.length - j) (0) [2, 4, 72, 73] kpA (by (try dsimp only); repeat (first | with_reducible exact Gv.nil | (with_reducible apply Gv.cons; · (repeat (first | with_reducible exact Ext.here | with_reducible apply Ext.there))))) ?_ ?_ Sub.refl ?_
    ·exact ⟨Nat.zero_le _, rfl⟩
    ·(try dsimp only); exact (Wk.cons lkA Wk.nil)
    ·rintro j ⟨hj, hall⟩ K31 hK31
     simp only [List.cons_append, List.nil_append]
     refine WC_sr fun K32 hK32 => ?_
     refine WL_r (Rd_lssN rfl rfl) rfl ?_
     refine WL_end hK32 ?_
     refine WC_seq fun K33 hK33 => ?_
     refine WC_cond rfl (fun hc6 => ?_) (fun hc6 => ?_)
     ·try simp only [dz, ne_eq] at hc6
      obtain ⟨a, ha⟩ : ∃ a, fd[j]? = some a := ⟨_, List.getElem?_eq_getElem (by omega)⟩
      have har := hFd.rng (List.mem_of_getElem? ha)
      refine WC_some (a := a70) hasA (by omega) (fun gb hgb _ => ?_)
      subst hgb
      have hdo := Dg_len ((Kd (((a ^^^ 1 : Nat)) : Int)).getD zD)
      have hdp := Dg_len ((Kd (((a / 2 : Nat)) : Int)).getD zD)
      refine WC_skip ?_
      refine Ps_next hK33 ?_
      refine WC_seq fun K34 hK34 => ?_
      refine WC_block ?_
      refine WC_sr fun K35 hK35 => ?_
      refine WL_r (Rd_index j rfl rfl ud101 sz3 (hi := by omega)) rfl ?_
      refine WL_r (Rd_load_arr (f := eN) (i := j) (j := 0) rfl tk3 (hl := ha)) rfl ?_
      refine WL_r (Rd_assign rfl) rfl ?_
      refine WL_end hK35 ?_
      refine WC_sr fun K36 hK36 => ?_
      refine WL_r (Rd_load rfl tk121 (v := .pointer (some ⟨pb, 0, none⟩))) rfl ?_
      refine WL_r (Rd_nilCheck rfl) rfl ?_
      refine WL_r (Rd_fieldAddr rfl fo161_2) rfl ?_
      refine WL_r (Rd_load rfl tk159 (v := .map (some m))) rfl ?_
      refine WL_r (Rd_move rfl) rfl ?_
      refine WL_r (Rd_xorN (i := a) (j := 1) (by omega) (by omega) rfl rfl) rfl ?_
      refine WL_r (Rd_lookD (k := (((a ^^^ 1 : Nat)) : Int)) rfl rfl ud159 ud3 zvD42) rfl ?_
      refine WL_r (Rd_move rfl) rfl ?_
      refine WL_r (Rd_ext0 rfl) rfl ?_
      refine WL_r (Rd_ext1 rfl) rfl ?_
      refine WL_ac (Ac_allocW (k := .u8) (w := 8) (m := 32) zr42) rfl rfl rfl ?_
      rintro _ _ ⟨b13, rfl, rfl⟩
      refine WL_ac0 (Ac_storeW rfl rfl sz42) rfl rfl ?_
      rintro _ _ rfl
      refine WL_r (Rd_assign rfl) rfl ?_
      refine WL_end hK36 ?_
      refine WC_sr fun K37 hK37 => ?_
      refine WL_r (Rd_load rfl tk121 (v := .pointer (some ⟨pb, 0, none⟩))) rfl ?_
      refine WL_r (Rd_nilCheck rfl) rfl ?_
      refine WL_r (Rd_fieldAddr rfl fo161_2) rfl ?_
      refine WL_r (Rd_load rfl tk159 (v := .map (some m))) rfl ?_
      refine WL_r (Rd_move rfl) rfl ?_
      refine WL_r (Rd_quoN (j := 2) rfl rfl) rfl ?_
      refine WL_r (Rd_lookD (k := (((a / 2 : Nat)) : Int)) rfl rfl ud159 ud3 zvD42) rfl ?_
      refine WL_r (Rd_move rfl) rfl ?_
      refine WL_r (Rd_ext0 rfl) rfl ?_
      refine WL_r (Rd_ext1 rfl) rfl ?_
      refine WL_ac (Ac_allocW (k := .u8) (w := 8) (m := 32) zr42) rfl rfl rfl ?_
      rintro _ _ ⟨b15, rfl, rfl⟩
      refine WL_ac0 (Ac_storeW rfl rfl sz42) rfl rfl ?_
      rintro _ _ rfl
      refine WL_r (Rd_assign rfl) rfl ?_
      refine WL_end hK37 ?_
      refine WC_sr fun K38 hK38 => ?_
      refine WL_r (Rd_move rfl) rfl ?_
      refine WL_r (Rd_not rfl) rfl ?_
      refine WL_r (Rd_move rfl) rfl ?_
      refine WL_bool 100 rfl (fun hg39 => ?_) (fun hg39 => ?_)
      ·try simp only [dz, ne_eq] at hg39
       have q5 := hg39
       refine WL_skip rfl rfl rfl ?_
       refine WL_skip rfl rfl rfl ?_
       refine WL_r (Rd_pickT rfl rfl) rfl ?_
       refine WL_end hK38 ?_
       refine WC_condT rfl ?_
       refine WC_sr fun K40 hK40 => ?_
       refine WL_ac0 (Ac_store1 rfl rfl sz33) rfl rfl ?_
       rintro _ _ rfl
       refine WL_end hK40 ?_
       refine WC_ret ?_
       obtain rfl : c1 = true := by simpa using hc5
       have hS' : putS w Kn l = (122, _, _) := putS_c hpu.symm hcl (all_bad ha (by unfold okF; first | (rw [show (Kd (((a ^^^ 1 : Nat)) : Int)).isSome = false from by simpa using q5]; rfl) | (rw [show (Kd (((a / 2 : Nat)) : Int)).isSome = false from by simpa using hc7, Bool.and_false])))
       rw [putS_v hS', putK_v hS'] at hret
       refine hret.goC (undo_ctd (pb := pb) (m := m) (n := n) (w := w) (b2 := b2) (b4 := b4) (b5 := b5) (e := 122) (fr := fd) (Kn := Kd) (fa := some gb) (fc := cap70)) cf140 (fun _ => ⟨(), ?_, ?_⟩)
       ·(simp only [List.cons_append, List.nil_append]; exact Rs1cs rfl rfl tk33)
       ·simp only [List.cons_append, List.nil_append]; repeat (first | with_reducible exact Sub.refl | with_reducible exact Sub.nil | with_reducible refine Sub.cons (by repeat (first | with_reducible exact Ext.here | with_reducible apply Ext.there)) ?_ | with_reducible refine Sub.tail ?_)
      ·try simp only [dz, ne_eq] at hg39
       have q5 := hg39
       refine WL_r (Rd_move rfl) rfl ?_
       refine WL_r (Rd_not rfl) rfl ?_
       refine WL_r (Rd_pickF rfl rfl) rfl ?_
       refine WL_end hK38 ?_
       refine WC_cond rfl (fun hc7 => ?_) (fun hc7 => ?_)
       ·try simp only [dz, ne_eq] at hc7
        refine WC_sr fun K41 hK41 => ?_
        refine WL_ac0 (Ac_store1 rfl rfl sz33) rfl rfl ?_
        rintro _ _ rfl
        refine WL_end hK41 ?_
        refine WC_ret ?_
        obtain rfl : c1 = true := by simpa using hc5
        have hS' : putS w Kn l = (122, _, _) := putS_c hpu.symm hcl (all_bad ha (by unfold okF; first | (rw [show (Kd (((a ^^^ 1 : Nat)) : Int)).isSome = false from by simpa using q5]; rfl) | (rw [show (Kd (((a / 2 : Nat)) : Int)).isSome = false from by simpa using hc7, Bool.and_false])))
        rw [putS_v hS', putK_v hS'] at hret
        refine hret.goC (undo_ctd (pb := pb) (m := m) (n := n) (w := w) (b2 := b2) (b4 := b4) (b5 := b5) (e := 122) (fr := fd) (Kn := Kd) (fa := some gb) (fc := cap70)) cf140 (fun _ => ⟨(), ?_, ?_⟩)
        ·(simp only [List.cons_append, List.nil_append]; exact Rs1cs rfl rfl tk33)
        ·simp only [List.cons_append, List.nil_append]; repeat (first | with_reducible exact Sub.refl | with_reducible exact Sub.nil | with_reducible refine Sub.cons (by repeat (first | with_reducible exact Ext.here | with_reducible apply Ext.there)) ?_ | with_reducible refine Sub.tail ?_)
       ·try simp only [dz, ne_eq] at hc7
        refine WC_skip ?_
        refine Ps_next hK34 ?_
        refine WC_region ?_
        refine WL_r (Rd_addN (j := 1) rfl rfl) rfl ?_
        refine WL_r (Rd_move rfl) rfl ?_
        refine WL_nil ?_
        refine Ps_wkA (hK31 (j + 1) (⟨by omega, all_step hall ha (by unfold okF; rw [show (Kd (((a ^^^ 1 : Nat)) : Int)).isSome = true from by simpa using q5, show (Kd (((a / 2 : Nat)) : Int)).isSome = true from by simpa using hc7]; rfl)⟩) (by omega))
     ·try simp only [dz, ne_eq] at hc6
      obtain rfl : j = fd.length := by omega
      rw [List.take_length] at hall
      refine WC_exit ?_
      refine Ps_next hK29 ?_
      refine WC_sr fun K42 hK42 => ?_
      refine WL_ac0 (Ac_store1 rfl rfl sz33) rfl rfl ?_
      rintro _ _ rfl
      refine WL_end hK42 ?_
      refine WC_ret ?_
      obtain rfl : c1 = true := by simpa using hc5
      have hS' : putS w Kn l = (0, _, _) := putS_d hpu.symm hcl hall
      rw [putS_v hS', putK_v hS'] at hret
      refine hret.goC (undo_ctd (pb := pb) (m := m) (n := n) (w := w) (b2 := b2) (b4 := b4) (b5 := b5) (e := 0) (fr := fd) (Kn := Kd) (fa := a70) (fc := cap70)) cf140 (fun _ => ⟨(), ?_, ?_⟩)
      ·(simp only [List.cons_append, List.nil_append]; exact Rs1cs rfl rfl tk33)
      ·simp only [List.cons_append, List.nil_append]; repeat (first | with_reducible exact Sub.refl | with_reducible exact Sub.nil | with_reducible refine Sub.cons (by repeat (first | with_reducible exact Ext.here | with_reducible apply Ext.there)) ?_ | with_reducible refine Sub.tail ?_)
end Go.Proofs.Ytgkpbeikcpecbaa
