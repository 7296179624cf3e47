/-
  Contracts of functions that the claim reaches, or the logic and the plain laws that they rest on, or the row over them. (Conditions: none beyond the statement.)
-/
import Derived.Test.YtlcafifjhilleaaPqC
set_option linter.all false
namespace Go.Proofs.Ytlcafifjhilleaa
open Go.RowKit Go.SL Go.ShM
set_option maxHeartbeats 1000000
set_option maxRecDepth 20000
set_option linter.all false
theorem joinP_mem {ps : List Pt} {p : Pt} (h : p ∈ ps) : p.l.length ≤ (joinP ps).length := by
  unfold joinP
  induction ps with
  | nil => cases h
  | cons q ps ih =>
    rw [List.flatMap_cons, List.length_append]
    rcases List.mem_cons.1 h with rfl | h
    · omega
    · have := ih h; omega
end Go.Proofs.Ytlcafifjhilleaa
namespace Go.Proofs.Ytlcafifjhilleaa
open Go.RowKit Go.SL Go.ShM
set_option maxHeartbeats 1000000
set_option maxRecDepth 20000
set_option linter.all false
theorem cf78 : cfn Try.prog 78 = true := by kernel_rfl
theorem bigR_ct {x : B64} {n : Nat} (hn : 1 ≤ n := by omega) (hn8 : n ≤ 8 := by omega) : Ct Try.prog 78 [.int .u64 ((x.toNat : Nat) : Int), .int .i64 ((n : Nat) : Int)] [] (fun g : Option Nat × Nat => sl g.1 n g.2) (fun g => [arr g.1 g.2 1 5 (eU .u8) (bigN n x n)]) := by
  refine Ct_body (n := 23) Try.func78 rfl rfl rfl fun F w0 Q hret hnorm hp => ?_
  change WC _ _ _ _ _ _ _ (F)
  refine WC_sr fun K1 hK1 => ?_
  refine WL_rd (Rd_assign (v := sl none 0 0) rfl) rfl rfl rfl ?_
  refine WL_end hK1 ?_
  refine WC_sr fun K2 hK2 => ?_
  refine WL_rd (Rd_assign (v := sl none 0 0) rfl) rfl rfl rfl ?_
  refine WL_nilarr (eU .u8 (w := 8)) 1 5 ?_
  refine WL_end hK2 ?_
  refine WC_seq fun K3 hK3 => ?_
  refine WC_sr fun K4 hK4 => ?_
  refine WL_rd (Rd_move rfl) rfl rfl rfl ?_
  refine WL_rd (Rd_sub' (r := (n : Int) - 1 - ((0 : Nat) : Int)) rfl rfl (wr64 (by omega) (by omega) (by omega))) rfl rfl rfl ?_
  refine WL_rd (Rd_assign rfl) rfl rfl rfl ?_
  refine WL_end hK4 ?_
  refine WC_block ?_
  rw [show ([] : List B8) = bigN n x 0 from rfl]
  refine WC_loopK (σ := Nat × (Option Nat) × Nat) (fun ⟨q, a, c⟩ => [(5, sl a q c), (6, .int .i64 ((n : Int) - 1 - (q : Int)))]) (fun ⟨q, a, c⟩ => [arr a c 1 5 (eU .u8) (bigN n x q)]) (fun ⟨q, a, c⟩ => q ≤ n) (fun ⟨q, a, c⟩ => n - q) ⟨0, none, 0⟩ [0, 4, 22] (by repeat (first | exact Kep.nil | apply Kep.drop rfl | apply Kep.keep rfl)) (by (try dsimp only); repeat (first | with_reducible exact Gv.nil | (with_reducible apply Gv.cons; · (repeat (first | with_reducible exact Ext.here | with_reducible apply Ext.there))))) ?_ ?_ Sub.refl ?_
  · exact Nat.zero_le _
  · (try dsimp only); exact (Wk.cons (by first | rfl | (simp only [List.length_append, List.length_cons, List.length_nil, List.length_replicate, Nat.zero_add]; rfl) | (simp; done)) (Wk.cons (by first | rfl | (simp only [List.length_append, List.length_cons, List.length_nil, List.length_replicate, Nat.zero_add]; rfl) | (simp; done)) Wk.nil))
  · rintro ⟨q, a, c⟩ hq K5 hK5
    simp only [List.cons_append, List.nil_append]
    have hbl := bigN_len n x q
    refine WC_seq fun K6 hK6 => ?_
    refine WC_sr fun K7 hK7 => ?_
    refine WL_rd (Rd_move rfl) rfl rfl rfl ?_
    refine WL_rd (Rd_geq rfl rfl) rfl rfl rfl ?_
    refine WL_end hK7 ?_
    refine WC_cond rfl (fun hc0 => ?_) (fun hc0 => ?_)
    · try simp only [decide_eq_true_eq, decide_eq_false_iff_not, Bool.not_eq_true', Bool.not_eq_false', Bool.not_eq_true, Bool.not_eq_false, Int.not_lt, Int.not_le, Nat.not_lt, Nat.not_le, Decidable.not_not, ne_eq] at hc0
      refine WC_skip ?_
      refine Ps_next hK6 ?_
      refine WC_seq fun K8 hK8 => ?_
      refine WC_block ?_
      refine WC_region ?_
      refine WL_rd (Rd_move rfl) rfl rfl rfl ?_
      refine WL_rd (Rd_move rfl) rfl rfl rfl ?_
      refine WL_rd (Rd_moveE (v := .int .i64 ((n - 1 - q : Nat) : Int)) rfl (by congr 1; omega)) rfl rfl rfl ?_
      refine WL_rd (Rd_mulN (i := 8) rfl rfl) rfl rfl rfl ?_
      refine WL_rd (Rd_conv rfl ikd3_82 (r := ((8 * (n - 1 - q) : Nat) : Int)) (wrap_u64n (by omega))) rfl rfl rfl ?_
      refine WL_rd (Rd_shrU rfl rfl) rfl rfl rfl ?_
      refine WL_rd (Rd_convU rfl ikd58_5 (h' := uk8)) rfl rfl rfl ?_
      refine WL_ac (Ac_bs1 (xs := eU .u8 ((x >>> (8 * (n - 1 - q))).setWidth 8)) rfl ud23 zr5 sz5) rfl rfl rfl ?_
      rintro _ _ ⟨b20, rfl, rfl⟩
      refine WL_ac (Ac_append1 (f := (eU .u8 (w := 8))) (encU .u8) ((x >>> (8 * (n - 1 - q))).setWidth 8) rfl rfl ud23 ud23 el5) rfl rfl rfl ?_
      rintro _ _ ⟨a21, cap21, rfl, rfl⟩
      rw [hbl, bigN_succ]
      refine WL_rd (Rd_assign rfl) rfl rfl rfl ?_
      refine WL_nil ?_
      refine Ps_next hK8 ?_
      refine WC_region ?_
      refine WL_rd (Rd_move rfl) rfl rfl rfl ?_
      refine WL_rd (Rd_sub' (r := (n : Int) - 1 - ((q + 1 : Nat) : Int)) rfl rfl (wr64 (by omega) (by omega) (by omega))) rfl rfl rfl ?_
      refine WL_rd (Rd_assign rfl) rfl rfl rfl ?_
      refine WL_nil ?_
      refine Ps_wk (by (try simp only [List.cons_append, List.nil_append]); repeat (first | with_reducible exact Wk.nil | refine Wk.cons (by first | rfl | (simp only [List.length_append, List.length_cons, List.length_nil, List.length_replicate, Nat.zero_add]; rfl) | (simp; done)) ?_)) (by (try simp only [List.cons_append, List.nil_append]); repeat (first | with_reducible exact Sub.refl | with_reducible exact Sub.nil | with_reducible refine Sub.cons (by repeat (first | with_reducible exact Ext.here | with_reducible apply Ext.there)) ?_ | with_reducible refine Sub.tail ?_)) (hK5 ⟨q + 1, a21, cap21⟩ (by dsimp only; omega) (by dsimp only; omega))
    · try simp only [decide_eq_true_eq, decide_eq_false_iff_not, Bool.not_eq_true', Bool.not_eq_false', Bool.not_eq_true, Bool.not_eq_false, Int.not_lt, Int.not_le, Nat.not_lt, Nat.not_le, Decidable.not_not, ne_eq] at hc0
      obtain rfl : q = n := by omega
      refine WC_exit ?_
      refine Ps_next hK3 ?_
      refine WC_sr fun K9 hK9 => ?_
      refine WL_rd (Rd_move rfl) rfl rfl rfl ?_
      refine WL_rd (Rd_assign rfl) rfl rfl rfl ?_
      refine WL_end hK9 ?_
      refine WC_ret ?_
      exact hret.go (a, c) (Rs1 rfl rfl)

theorem frame_ct {X : Asn} {v : Value} {l : List B8} {ao : Option Addr} {cap2 : Nat} (hS : Sv [X] v 1 (eU .u8 (w := 8)) l ao cap2 := by assumption) (hl : l.length ≤ 900000000000 := by omega) : Ct Try.prog 49 [v] [X] (fun g : Option Nat × Nat => sl g.1 (frm l).length g.2) (fun g => [X, arr g.1 g.2 1 5 (eU .u8) (frm l)]) := by
  refine Ct_body (n := 11) Try.func49 rfl rfl rfl fun F w0 Q hret hnorm hp => ?_
  change WC _ _ _ _ _ _ _ (_ :: F)
  have hfl := frm_len l
  have hb8 := big64_len (BitVec.ofNat 64 l.length)
  refine WC_sr fun K1 hK1 => ?_
  refine WL_rd (Rd_assign (v := sl none 0 0) rfl) rfl rfl rfl ?_
  refine WL_end hK1 ?_
  refine WC_sr fun K2 hK2 => ?_
  refine WL_rd (Rd_move rfl) rfl rfl rfl ?_
  refine WL_rd (Rd_len_sv rfl rfl ud23) rfl rfl rfl ?_
  refine WL_rd (Rd_convNU rfl ikd3_58 (h' := uk64)) rfl rfl rfl ?_
  refine WL_ac (Ac_call cf78 rfl (hs := bigR_ct (x := (BitVec.ofNat 64 l.length)) (n := 8))) rfl rfl rfl ?_
  rintro _ _ ⟨⟨a7, cap7⟩, rfl, hA⟩
  simp only [List.cons_append, List.nil_append] at hA
  replace hA := hA.symm
  subst hA
  rw [bigN_8]
  refine WL_rd (Rd_assign rfl) rfl rfl rfl ?_
  refine WL_end hK2 ?_
  refine WC_sr fun K3 hK3 => ?_
  refine WL_rd (Rd_move rfl) rfl rfl rfl ?_
  refine WL_rd (Rd_move rfl) rfl rfl rfl ?_
  refine WL_ac (Ac_appendS (f := (eU .u8 (w := 8))) (encU .u8) rfl rfl ud23 ud23 el5 (hS := hS)) rfl rfl rfl ?_
  rintro _ _ ⟨a10, cap10, rfl, rfl⟩
  rw [show big64 (BitVec.ofNat 64 l.length) ++ l = frm l from rfl, show (big64 (BitVec.ofNat 64 l.length)).length + l.length = (frm l).length from by omega]
  refine WL_rd (Rd_assign rfl) rfl rfl rfl ?_
  refine WL_end hK3 ?_
  refine WC_ret ?_
  exact hret.go (a10, cap10) (Rs1 rfl rfl)

theorem fitsR_ct {t : B8} {X : Asn} {v : Value} {ps : List Pt} {ao : Option Addr} {cap : Nat} (hS : Sv [X] v 1 fP ps ao cap := by assumption) (hP : ∀ p ∈ ps, RdP [X] p := by assumption) (hk : ps.length ≤ 10000000000 := by omega) (hw : ¬ (wordS t).size = 0 := by assumption) : Ct Try.prog 48 [.int .u8 ((t.toNat : Nat) : Int), v] [X] (fun _ : Unit => .bool (fitM t (lens (ps.map (·.l))))) (fun _ => [X]) := by
  refine Ct_body (n := 111) Try.func48 rfl rfl rfl fun F w0 Q hret hnorm hp => ?_
  change WC _ _ _ _ _ _ _ (_ :: F)
  refine WC_sr fun K1 hK1 => ?_
  refine WL_rd (Rd_assign rfl) rfl rfl rfl ?_
  refine WL_end hK1 ?_
  refine WC_seq fun K2 hK2 => ?_
  refine WC_sr fun K3 hK3 => ?_
  refine WL_rd (Rd_move rfl) rfl rfl rfl ?_
  refine WL_end hK3 ?_
  refine WC_block ?_
  refine WC_sr fun K4 hK4 => ?_
  refine WL_rd (Rd_eqlU (b := 1#8) rfl rfl) rfl rfl rfl ?_
  refine WL_rd (Rd_assign rfl) rfl rfl rfl ?_
  refine WL_end hK4 ?_
  refine WC_cond rfl (fun hc0 => ?_) (fun hc0 => ?_)
  · try simp only [decide_eq_true_eq, decide_eq_false_iff_not, Bool.not_eq_true', Bool.not_eq_false', Bool.not_eq_true, Bool.not_eq_false, Int.not_lt, Int.not_le, Nat.not_lt, Nat.not_le, Decidable.not_not, ne_eq] at hc0
    refine WC_sr fun K5 hK5 => ?_
    refine WL_rd (Rd_move rfl) rfl rfl rfl ?_
    refine WL_rd (Rd_len_sv rfl rfl ud22) rfl rfl rfl ?_
    refine WL_rd (Rd_eqlN (j := 3) rfl rfl) rfl rfl rfl ?_
    refine WL_rd (Rd_move rfl) rfl rfl rfl ?_
    refine WL_bool 11 rfl (fun hg6 => ?_) (fun hg6 => ?_)
    · try simp only [decide_eq_true_eq, decide_eq_false_iff_not, Bool.not_eq_true', Bool.not_eq_false', Bool.not_eq_true, Bool.not_eq_false, Int.not_lt, Int.not_le, Nat.not_lt, Nat.not_le, Decidable.not_not, ne_eq] at hg6
      have q0 := hg6
      obtain ⟨pa, hpa⟩ : ∃ p, ps[0]? = some p := ⟨_, List.getElem?_eq_getElem (by omega)⟩
      have hpaS : Sv [X] pa.v 1 (eU .u8 (w := 8)) pa.l pa.ao pa.cap := hP pa (List.mem_of_getElem? hpa)
      have lpa : (lens (ps.map (·.l))).getD 0 0 = pa.l.length := by rw [List.getD_eq_getElem?_getD, lens_at hpa]; rfl
      obtain ⟨pb, hpb⟩ : ∃ p, ps[1]? = some p := ⟨_, List.getElem?_eq_getElem (by omega)⟩
      have hpbS : Sv [X] pb.v 1 (eU .u8 (w := 8)) pb.l pb.ao pb.cap := hP pb (List.mem_of_getElem? hpb)
      have lpb : (lens (ps.map (·.l))).getD 1 0 = pb.l.length := by rw [List.getD_eq_getElem?_getD, lens_at hpb]; rfl
      obtain ⟨pc, hpc⟩ : ∃ p, ps[2]? = some p := ⟨_, List.getElem?_eq_getElem (by omega)⟩
      have hpcS : Sv [X] pc.v 1 (eU .u8 (w := 8)) pc.l pc.ao pc.cap := hP pc (List.mem_of_getElem? hpc)
      have lpc : (lens (ps.map (·.l))).getD 2 0 = pc.l.length := by rw [List.getD_eq_getElem?_getD, lens_at hpc]; rfl
      refine WL_rd (Rd_move rfl) rfl rfl rfl ?_
      refine WL_rd (Rd_index_sv 0 rfl rfl ud22 sz23 (hA := hS) (hi := by omega)) rfl rfl rfl ?_
      refine WL_rd (Rd_load_sv (i := 0) (j := 0) rfl tk23 (hA := hS) (hl := hpa)) rfl rfl rfl ?_
      refine WL_rd (Rd_len_sv rfl rfl ud23 (hA := hpaS)) rfl rfl rfl ?_
      refine WL_rd (Rd_leqN (j := 64) rfl rfl) rfl rfl rfl ?_
      refine WL_rd (Rd_pickT rfl rfl) rfl rfl rfl ?_
      refine WL_rd (Rd_move rfl) rfl rfl rfl ?_
      refine WL_bool 18 rfl (fun hg7 => ?_) (fun hg7 => ?_)
      · try simp only [decide_eq_true_eq, decide_eq_false_iff_not, Bool.not_eq_true', Bool.not_eq_false', Bool.not_eq_true, Bool.not_eq_false, Int.not_lt, Int.not_le, Nat.not_lt, Nat.not_le, Decidable.not_not, ne_eq] at hg7
        have q1 := hg7
        refine WL_rd (Rd_move rfl) rfl rfl rfl ?_
        refine WL_rd (Rd_index_sv 1 rfl rfl ud22 sz23 (hA := hS) (hi := by omega)) rfl rfl rfl ?_
        refine WL_rd (Rd_load_sv (i := 1) (j := 0) rfl tk23 (hA := hS) (hl := hpb)) rfl rfl rfl ?_
        refine WL_rd (Rd_len_sv rfl rfl ud23 (hA := hpbS)) rfl rfl rfl ?_
        refine WL_rd (Rd_eqlN (j := 6) rfl rfl) rfl rfl rfl ?_
        refine WL_rd (Rd_pickT rfl rfl) rfl rfl rfl ?_
        refine WL_rd (Rd_move rfl) rfl rfl rfl ?_
        refine WL_bool 25 rfl (fun hg8 => ?_) (fun hg8 => ?_)
        · try simp only [decide_eq_true_eq, decide_eq_false_iff_not, Bool.not_eq_true', Bool.not_eq_false', Bool.not_eq_true, Bool.not_eq_false, Int.not_lt, Int.not_le, Nat.not_lt, Nat.not_le, Decidable.not_not, ne_eq] at hg8
          have q2 := hg8
          refine WL_rd (Rd_move rfl) rfl rfl rfl ?_
          refine WL_rd (Rd_index_sv 2 rfl rfl ud22 sz23 (hA := hS) (hi := by omega)) rfl rfl rfl ?_
          refine WL_rd (Rd_load_sv (i := 2) (j := 0) rfl tk23 (hA := hS) (hl := hpc)) rfl rfl rfl ?_
          refine WL_rd (Rd_len_sv rfl rfl ud23 (hA := hpcS)) rfl rfl rfl ?_
          refine WL_rd (Rd_leqN (j := 16777216) rfl rfl) rfl rfl rfl ?_
          refine WL_rd (Rd_pickT rfl rfl) rfl rfl rfl ?_
          refine WL_rd (Rd_assign rfl) rfl rfl rfl ?_
          refine WL_end hK5 ?_
          refine WC_ret ?_
          first | exact hret.goE () (Rs1 rfl rfl) (by rw [fitM_1 hc0, lens_len]; first | (simp [q0]; done) | ((first | rw [lpa, lpb, lpc] | rw [lpa, lpb] | rw [lpa]); congr 1; rw [Bool.eq_iff_iff]; (try simp) <;> omega)) | exact hret.goE () (Rs1 rfl rfl) (by rw [fitM_2 hc1, lens_len]; first | (simp [q0]; done) | ((first | rw [lpa, lpb, lpc] | rw [lpa, lpb] | rw [lpa]); congr 1; rw [Bool.eq_iff_iff]; (try simp) <;> omega)) | exact hret.goE () (Rs1 rfl rfl) (by rw [fitM_o (.inl hc2), lens_len]) | exact hret.goE () (Rs1 rfl rfl) (by rw [fitM_o (.inr (.inl hc3)), lens_len]) | exact hret.goE () (Rs1 rfl rfl) (by rw [fitM_o (.inr (.inr hc4)), lens_len]) | exact hret.goE () (Rs1 rfl rfl) (by rw [fitM_5 hc5, lens_len]; first | (simp [q0]; done) | ((first | rw [lpa, lpb, lpc] | rw [lpa, lpb] | rw [lpa]); congr 1; rw [Bool.eq_iff_iff]; (try simp) <;> omega)) | exact hret.goE () (Rs1 rfl rfl) (by rw [fitM_6 hc6, lens_len]; first | (simp [q0]; done) | ((first | rw [lpa, lpb, lpc] | rw [lpa, lpb] | rw [lpa]); congr 1; rw [Bool.eq_iff_iff]; (try simp) <;> omega)) | exact hret.goE () (Rs1 rfl rfl) (by rw [fitM_7 hc7, lens_len]; first | (simp [q0]; done) | ((first | rw [lpa, lpb, lpc] | rw [lpa, lpb] | rw [lpa]); congr 1; rw [Bool.eq_iff_iff]; (try simp) <;> omega)) | exact hret.goE () (Rs1 rfl rfl) (by rw [fitM_9 (tag_rest hw hc0 hc1 hc2 hc3 hc4 hc5 hc6 hc7), lens_len]; first | (simp [q0]; done) | ((first | rw [lpa, lpb, lpc] | rw [lpa, lpb] | rw [lpa]); congr 1; rw [Bool.eq_iff_iff]; (try simp) <;> omega))
        · try simp only [decide_eq_true_eq, decide_eq_false_iff_not, Bool.not_eq_true', Bool.not_eq_false', Bool.not_eq_true, Bool.not_eq_false, Int.not_lt, Int.not_le, Nat.not_lt, Nat.not_le, Decidable.not_not, ne_eq] at hg8
          have q2 := hg8
          refine WL_skip rfl rfl rfl ?_
          refine WL_skip rfl rfl rfl ?_
          refine WL_skip rfl rfl rfl ?_
          refine WL_skip rfl rfl rfl ?_
          refine WL_skip rfl rfl rfl ?_
          refine WL_rd (Rd_pickF rfl rfl) rfl rfl rfl ?_
          refine WL_rd (Rd_assign rfl) rfl rfl rfl ?_
          refine WL_end hK5 ?_
          refine WC_ret ?_
          first | exact hret.goE () (Rs1 rfl rfl) (by rw [fitM_1 hc0, lens_len]; first | (simp [q0]; done) | ((first | rw [lpa, lpb, lpc] | rw [lpa, lpb] | rw [lpa]); congr 1; rw [Bool.eq_iff_iff]; (try simp) <;> omega)) | exact hret.goE () (Rs1 rfl rfl) (by rw [fitM_2 hc1, lens_len]; first | (simp [q0]; done) | ((first | rw [lpa, lpb, lpc] | rw [lpa, lpb] | rw [lpa]); congr 1; rw [Bool.eq_iff_iff]; (try simp) <;> omega)) | exact hret.goE () (Rs1 rfl rfl) (by rw [fitM_o (.inl hc2), lens_len]) | exact hret.goE () (Rs1 rfl rfl) (by rw [fitM_o (.inr (.inl hc3)), lens_len]) | exact hret.goE () (Rs1 rfl rfl) (by rw [fitM_o (.inr (.inr hc4)), lens_len]) | exact hret.goE () (Rs1 rfl rfl) (by rw [fitM_5 hc5, lens_len]; first | (simp [q0]; done) | ((first | rw [lpa, lpb, lpc] | rw [lpa, lpb] | rw [lpa]); congr 1; rw [Bool.eq_iff_iff]; (try simp) <;> omega)) | exact hret.goE () (Rs1 rfl rfl) (by rw [fitM_6 hc6, lens_len]; first | (simp [q0]; done) | ((first | rw [lpa, lpb, lpc] | rw [lpa, lpb] | rw [lpa]); congr 1; rw [Bool.eq_iff_iff]; (try simp) <;> omega)) | exact hret.goE () (Rs1 rfl rfl) (by rw [fitM_7 hc7, lens_len]; first | (simp [q0]; done) | ((first | rw [lpa, lpb, lpc] | rw [lpa, lpb] | rw [lpa]); congr 1; rw [Bool.eq_iff_iff]; (try simp) <;> omega)) | exact hret.goE () (Rs1 rfl rfl) (by rw [fitM_9 (tag_rest hw hc0 hc1 hc2 hc3 hc4 hc5 hc6 hc7), lens_len]; first | (simp [q0]; done) | ((first | rw [lpa, lpb, lpc] | rw [lpa, lpb] | rw [lpa]); congr 1; rw [Bool.eq_iff_iff]; (try simp) <;> omega))
      · try simp only [decide_eq_true_eq, decide_eq_false_iff_not, Bool.not_eq_true', Bool.not_eq_false', Bool.not_eq_true, Bool.not_eq_false, Int.not_lt, Int.not_le, Nat.not_lt, Nat.not_le, Decidable.not_not, ne_eq] at hg7
        have q1 := hg7
        refine WL_skip rfl rfl rfl ?_
        refine WL_skip rfl rfl rfl ?_
        refine WL_skip rfl rfl rfl ?_
        refine WL_skip rfl rfl rfl ?_
        refine WL_skip rfl rfl rfl ?_
        refine WL_rd (Rd_pickF rfl rfl) rfl rfl rfl ?_
        refine WL_rd (Rd_move rfl) rfl rfl rfl ?_
        refine WL_skip rfl rfl rfl ?_
        refine WL_skip rfl rfl rfl ?_
        refine WL_skip rfl rfl rfl ?_
        refine WL_skip rfl rfl rfl ?_
        refine WL_skip rfl rfl rfl ?_
        refine WL_rd (Rd_pickF rfl rfl) rfl rfl rfl ?_
        refine WL_rd (Rd_assign rfl) rfl rfl rfl ?_
        refine WL_end hK5 ?_
        refine WC_ret ?_
        first | exact hret.goE () (Rs1 rfl rfl) (by rw [fitM_1 hc0, lens_len]; first | (simp [q0]; done) | ((first | rw [lpa, lpb, lpc] | rw [lpa, lpb] | rw [lpa]); congr 1; rw [Bool.eq_iff_iff]; (try simp) <;> omega)) | exact hret.goE () (Rs1 rfl rfl) (by rw [fitM_2 hc1, lens_len]; first | (simp [q0]; done) | ((first | rw [lpa, lpb, lpc] | rw [lpa, lpb] | rw [lpa]); congr 1; rw [Bool.eq_iff_iff]; (try simp) <;> omega)) | exact hret.goE () (Rs1 rfl rfl) (by rw [fitM_o (.inl hc2), lens_len]) | exact hret.goE () (Rs1 rfl rfl) (by rw [fitM_o (.inr (.inl hc3)), lens_len]) | exact hret.goE () (Rs1 rfl rfl) (by rw [fitM_o (.inr (.inr hc4)), lens_len]) | exact hret.goE () (Rs1 rfl rfl) (by rw [fitM_5 hc5, lens_len]; first | (simp [q0]; done) | ((first | rw [lpa, lpb, lpc] | rw [lpa, lpb] | rw [lpa]); congr 1; rw [Bool.eq_iff_iff]; (try simp) <;> omega)) | exact hret.goE () (Rs1 rfl rfl) (by rw [fitM_6 hc6, lens_len]; first | (simp [q0]; done) | ((first | rw [lpa, lpb, lpc] | rw [lpa, lpb] | rw [lpa]); congr 1; rw [Bool.eq_iff_iff]; (try simp) <;> omega)) | exact hret.goE () (Rs1 rfl rfl) (by rw [fitM_7 hc7, lens_len]; first | (simp [q0]; done) | ((first | rw [lpa, lpb, lpc] | rw [lpa, lpb] | rw [lpa]); congr 1; rw [Bool.eq_iff_iff]; (try simp) <;> omega)) | exact hret.goE () (Rs1 rfl rfl) (by rw [fitM_9 (tag_rest hw hc0 hc1 hc2 hc3 hc4 hc5 hc6 hc7), lens_len]; first | (simp [q0]; done) | ((first | rw [lpa, lpb, lpc] | rw [lpa, lpb] | rw [lpa]); congr 1; rw [Bool.eq_iff_iff]; (try simp) <;> omega))
    · try simp only [decide_eq_true_eq, decide_eq_false_iff_not, Bool.not_eq_true', Bool.not_eq_false', Bool.not_eq_true, Bool.not_eq_false, Int.not_lt, Int.not_le, Nat.not_lt, Nat.not_le, Decidable.not_not, ne_eq] at hg6
      have q0 := hg6
      refine WL_skip rfl rfl rfl ?_
      refine WL_skip rfl rfl rfl ?_
      refine WL_skip rfl rfl rfl ?_
      refine WL_skip rfl rfl rfl ?_
      refine WL_skip rfl rfl rfl ?_
      refine WL_rd (Rd_pickF rfl rfl) rfl rfl rfl ?_
      refine WL_rd (Rd_move rfl) rfl rfl rfl ?_
      refine WL_skip rfl rfl rfl ?_
      refine WL_skip rfl rfl rfl ?_
      refine WL_skip rfl rfl rfl ?_
      refine WL_skip rfl rfl rfl ?_
      refine WL_skip rfl rfl rfl ?_
      refine WL_rd (Rd_pickF rfl rfl) rfl rfl rfl ?_
      refine WL_rd (Rd_move rfl) rfl rfl rfl ?_
      refine WL_skip rfl rfl rfl ?_
      refine WL_skip rfl rfl rfl ?_
      refine WL_skip rfl rfl rfl ?_
      refine WL_skip rfl rfl rfl ?_
      refine WL_skip rfl rfl rfl ?_
      refine WL_rd (Rd_pickF rfl rfl) rfl rfl rfl ?_
      refine WL_rd (Rd_assign rfl) rfl rfl rfl ?_
      refine WL_end hK5 ?_
      refine WC_ret ?_
      first | exact hret.goE () (Rs1 rfl rfl) (by rw [fitM_1 hc0, lens_len]; first | (simp [q0]; done) | ((first | rw [lpa, lpb, lpc] | rw [lpa, lpb] | rw [lpa]); congr 1; rw [Bool.eq_iff_iff]; (try simp) <;> omega)) | exact hret.goE () (Rs1 rfl rfl) (by rw [fitM_2 hc1, lens_len]; first | (simp [q0]; done) | ((first | rw [lpa, lpb, lpc] | rw [lpa, lpb] | rw [lpa]); congr 1; rw [Bool.eq_iff_iff]; (try simp) <;> omega)) | exact hret.goE () (Rs1 rfl rfl) (by rw [fitM_o (.inl hc2), lens_len]) | exact hret.goE () (Rs1 rfl rfl) (by rw [fitM_o (.inr (.inl hc3)), lens_len]) | exact hret.goE () (Rs1 rfl rfl) (by rw [fitM_o (.inr (.inr hc4)), lens_len]) | exact hret.goE () (Rs1 rfl rfl) (by rw [fitM_5 hc5, lens_len]; first | (simp [q0]; done) | ((first | rw [lpa, lpb, lpc] | rw [lpa, lpb] | rw [lpa]); congr 1; rw [Bool.eq_iff_iff]; (try simp) <;> omega)) | exact hret.goE () (Rs1 rfl rfl) (by rw [fitM_6 hc6, lens_len]; first | (simp [q0]; done) | ((first | rw [lpa, lpb, lpc] | rw [lpa, lpb] | rw [lpa]); congr 1; rw [Bool.eq_iff_iff]; (try simp) <;> omega)) | exact hret.goE () (Rs1 rfl rfl) (by rw [fitM_7 hc7, lens_len]; first | (simp [q0]; done) | ((first | rw [lpa, lpb, lpc] | rw [lpa, lpb] | rw [lpa]); congr 1; rw [Bool.eq_iff_iff]; (try simp) <;> omega)) | exact hret.goE () (Rs1 rfl rfl) (by rw [fitM_9 (tag_rest hw hc0 hc1 hc2 hc3 hc4 hc5 hc6 hc7), lens_len]; first | (simp [q0]; done) | ((first | rw [lpa, lpb, lpc] | rw [lpa, lpb] | rw [lpa]); congr 1; rw [Bool.eq_iff_iff]; (try simp) <;> omega))
  · try simp only [decide_eq_true_eq, decide_eq_false_iff_not, Bool.not_eq_true', Bool.not_eq_false', Bool.not_eq_true, Bool.not_eq_false, Int.not_lt, Int.not_le, Nat.not_lt, Nat.not_le, Decidable.not_not, ne_eq] at hc0
    refine WC_sr fun K9 hK9 => ?_
    refine WL_rd (Rd_eqlU (b := 2#8) rfl rfl) rfl rfl rfl ?_
    refine WL_rd (Rd_assign rfl) rfl rfl rfl ?_
    refine WL_end hK9 ?_
    refine WC_cond rfl (fun hc1 => ?_) (fun hc1 => ?_)
    · try simp only [decide_eq_true_eq, decide_eq_false_iff_not, Bool.not_eq_true', Bool.not_eq_false', Bool.not_eq_true, Bool.not_eq_false, Int.not_lt, Int.not_le, Nat.not_lt, Nat.not_le, Decidable.not_not, ne_eq] at hc1
      refine WC_sr fun K10 hK10 => ?_
      refine WL_rd (Rd_move rfl) rfl rfl rfl ?_
      refine WL_rd (Rd_len_sv rfl rfl ud22) rfl rfl rfl ?_
      refine WL_rd (Rd_eqlN (j := 1) rfl rfl) rfl rfl rfl ?_
      refine WL_rd (Rd_move rfl) rfl rfl rfl ?_
      refine WL_bool 37 rfl (fun hg11 => ?_) (fun hg11 => ?_)
      · try simp only [decide_eq_true_eq, decide_eq_false_iff_not, Bool.not_eq_true', Bool.not_eq_false', Bool.not_eq_true, Bool.not_eq_false, Int.not_lt, Int.not_le, Nat.not_lt, Nat.not_le, Decidable.not_not, ne_eq] at hg11
        have q0 := hg11
        obtain ⟨pa, hpa⟩ : ∃ p, ps[0]? = some p := ⟨_, List.getElem?_eq_getElem (by omega)⟩
        have hpaS : Sv [X] pa.v 1 (eU .u8 (w := 8)) pa.l pa.ao pa.cap := hP pa (List.mem_of_getElem? hpa)
        have lpa : (lens (ps.map (·.l))).getD 0 0 = pa.l.length := by rw [List.getD_eq_getElem?_getD, lens_at hpa]; rfl
        refine WL_rd (Rd_move rfl) rfl rfl rfl ?_
        refine WL_rd (Rd_index_sv 0 rfl rfl ud22 sz23 (hA := hS) (hi := by omega)) rfl rfl rfl ?_
        refine WL_rd (Rd_load_sv (i := 0) (j := 0) rfl tk23 (hA := hS) (hl := hpa)) rfl rfl rfl ?_
        refine WL_rd (Rd_len_sv rfl rfl ud23 (hA := hpaS)) rfl rfl rfl ?_
        refine WL_rd (Rd_eqlN (j := 16) rfl rfl) rfl rfl rfl ?_
        refine WL_rd (Rd_pickT rfl rfl) rfl rfl rfl ?_
        refine WL_rd (Rd_assign rfl) rfl rfl rfl ?_
        refine WL_end hK10 ?_
        refine WC_ret ?_
        first | exact hret.goE () (Rs1 rfl rfl) (by rw [fitM_1 hc0, lens_len]; first | (simp [q0]; done) | ((first | rw [lpa, lpb, lpc] | rw [lpa, lpb] | rw [lpa]); congr 1; rw [Bool.eq_iff_iff]; (try simp) <;> omega)) | exact hret.goE () (Rs1 rfl rfl) (by rw [fitM_2 hc1, lens_len]; first | (simp [q0]; done) | ((first | rw [lpa, lpb, lpc] | rw [lpa, lpb] | rw [lpa]); congr 1; rw [Bool.eq_iff_iff]; (try simp) <;> omega)) | exact hret.goE () (Rs1 rfl rfl) (by rw [fitM_o (.inl hc2), lens_len]) | exact hret.goE () (Rs1 rfl rfl) (by rw [fitM_o (.inr (.inl hc3)), lens_len]) | exact hret.goE () (Rs1 rfl rfl) (by rw [fitM_o (.inr (.inr hc4)), lens_len]) | exact hret.goE () (Rs1 rfl rfl) (by rw [fitM_5 hc5, lens_len]; first | (simp [q0]; done) | ((first | rw [lpa, lpb, lpc] | rw [lpa, lpb] | rw [lpa]); congr 1; rw [Bool.eq_iff_iff]; (try simp) <;> omega)) | exact hret.goE () (Rs1 rfl rfl) (by rw [fitM_6 hc6, lens_len]; first | (simp [q0]; done) | ((first | rw [lpa, lpb, lpc] | rw [lpa, lpb] | rw [lpa]); congr 1; rw [Bool.eq_iff_iff]; (try simp) <;> omega)) | exact hret.goE () (Rs1 rfl rfl) (by rw [fitM_7 hc7, lens_len]; first | (simp [q0]; done) | ((first | rw [lpa, lpb, lpc] | rw [lpa, lpb] | rw [lpa]); congr 1; rw [Bool.eq_iff_iff]; (try simp) <;> omega)) | exact hret.goE () (Rs1 rfl rfl) (by rw [fitM_9 (tag_rest hw hc0 hc1 hc2 hc3 hc4 hc5 hc6 hc7), lens_len]; first | (simp [q0]; done) | ((first | rw [lpa, lpb, lpc] | rw [lpa, lpb] | rw [lpa]); congr 1; rw [Bool.eq_iff_iff]; (try simp) <;> omega))
      · try simp only [decide_eq_true_eq, decide_eq_false_iff_not, Bool.not_eq_true', Bool.not_eq_false', Bool.not_eq_true, Bool.not_eq_false, Int.not_lt, Int.not_le, Nat.not_lt, Nat.not_le, Decidable.not_not, ne_eq] at hg11
        have q0 := hg11
        refine WL_skip rfl rfl rfl ?_
        refine WL_skip rfl rfl rfl ?_
        refine WL_skip rfl rfl rfl ?_
        refine WL_skip rfl rfl rfl ?_
        refine WL_skip rfl rfl rfl ?_
        refine WL_rd (Rd_pickF rfl rfl) rfl rfl rfl ?_
        refine WL_rd (Rd_assign rfl) rfl rfl rfl ?_
        refine WL_end hK10 ?_
        refine WC_ret ?_
        first | exact hret.goE () (Rs1 rfl rfl) (by rw [fitM_1 hc0, lens_len]; first | (simp [q0]; done) | ((first | rw [lpa, lpb, lpc] | rw [lpa, lpb] | rw [lpa]); congr 1; rw [Bool.eq_iff_iff]; (try simp) <;> omega)) | exact hret.goE () (Rs1 rfl rfl) (by rw [fitM_2 hc1, lens_len]; first | (simp [q0]; done) | ((first | rw [lpa, lpb, lpc] | rw [lpa, lpb] | rw [lpa]); congr 1; rw [Bool.eq_iff_iff]; (try simp) <;> omega)) | exact hret.goE () (Rs1 rfl rfl) (by rw [fitM_o (.inl hc2), lens_len]) | exact hret.goE () (Rs1 rfl rfl) (by rw [fitM_o (.inr (.inl hc3)), lens_len]) | exact hret.goE () (Rs1 rfl rfl) (by rw [fitM_o (.inr (.inr hc4)), lens_len]) | exact hret.goE () (Rs1 rfl rfl) (by rw [fitM_5 hc5, lens_len]; first | (simp [q0]; done) | ((first | rw [lpa, lpb, lpc] | rw [lpa, lpb] | rw [lpa]); congr 1; rw [Bool.eq_iff_iff]; (try simp) <;> omega)) | exact hret.goE () (Rs1 rfl rfl) (by rw [fitM_6 hc6, lens_len]; first | (simp [q0]; done) | ((first | rw [lpa, lpb, lpc] | rw [lpa, lpb] | rw [lpa]); congr 1; rw [Bool.eq_iff_iff]; (try simp) <;> omega)) | exact hret.goE () (Rs1 rfl rfl) (by rw [fitM_7 hc7, lens_len]; first | (simp [q0]; done) | ((first | rw [lpa, lpb, lpc] | rw [lpa, lpb] | rw [lpa]); congr 1; rw [Bool.eq_iff_iff]; (try simp) <;> omega)) | exact hret.goE () (Rs1 rfl rfl) (by rw [fitM_9 (tag_rest hw hc0 hc1 hc2 hc3 hc4 hc5 hc6 hc7), lens_len]; first | (simp [q0]; done) | ((first | rw [lpa, lpb, lpc] | rw [lpa, lpb] | rw [lpa]); congr 1; rw [Bool.eq_iff_iff]; (try simp) <;> omega))
    · try simp only [decide_eq_true_eq, decide_eq_false_iff_not, Bool.not_eq_true', Bool.not_eq_false', Bool.not_eq_true, Bool.not_eq_false, Int.not_lt, Int.not_le, Nat.not_lt, Nat.not_le, Decidable.not_not, ne_eq] at hc1
      refine WC_seq fun K12 hK12 => ?_
      refine WC_sr fun K13 hK13 => ?_
      refine WL_rd (Rd_eqlU (b := 3#8) rfl rfl) rfl rfl rfl ?_
      refine WL_rd (Rd_assign rfl) rfl rfl rfl ?_
      refine WL_end hK13 ?_
      refine WC_cond rfl (fun hc2 => ?_) (fun hc2 => ?_)
      · try simp only [decide_eq_true_eq, decide_eq_false_iff_not, Bool.not_eq_true', Bool.not_eq_false', Bool.not_eq_true, Bool.not_eq_false, Int.not_lt, Int.not_le, Nat.not_lt, Nat.not_le, Decidable.not_not, ne_eq] at hc2
        rw [decide_eq_true hc2]
        refine WC_skip ?_
        refine Ps_next hK12 ?_
        refine WC_condT rfl ?_
        refine WC_sr fun K14 hK14 => ?_
        refine WL_rd (Rd_move rfl) rfl rfl rfl ?_
        refine WL_rd (Rd_len_sv rfl rfl ud22) rfl rfl rfl ?_
        refine WL_rd (Rd_eqlN (j := 1) rfl rfl) rfl rfl rfl ?_
        refine WL_rd (Rd_assign rfl) rfl rfl rfl ?_
        refine WL_end hK14 ?_
        refine WC_ret ?_
        first | exact hret.goE () (Rs1 rfl rfl) (by rw [fitM_1 hc0, lens_len]; first | (simp [q0]; done) | ((first | rw [lpa, lpb, lpc] | rw [lpa, lpb] | rw [lpa]); congr 1; rw [Bool.eq_iff_iff]; (try simp) <;> omega)) | exact hret.goE () (Rs1 rfl rfl) (by rw [fitM_2 hc1, lens_len]; first | (simp [q0]; done) | ((first | rw [lpa, lpb, lpc] | rw [lpa, lpb] | rw [lpa]); congr 1; rw [Bool.eq_iff_iff]; (try simp) <;> omega)) | exact hret.goE () (Rs1 rfl rfl) (by rw [fitM_o (.inl hc2), lens_len]) | exact hret.goE () (Rs1 rfl rfl) (by rw [fitM_o (.inr (.inl hc3)), lens_len]) | exact hret.goE () (Rs1 rfl rfl) (by rw [fitM_o (.inr (.inr hc4)), lens_len]) | exact hret.goE () (Rs1 rfl rfl) (by rw [fitM_5 hc5, lens_len]; first | (simp [q0]; done) | ((first | rw [lpa, lpb, lpc] | rw [lpa, lpb] | rw [lpa]); congr 1; rw [Bool.eq_iff_iff]; (try simp) <;> omega)) | exact hret.goE () (Rs1 rfl rfl) (by rw [fitM_6 hc6, lens_len]; first | (simp [q0]; done) | ((first | rw [lpa, lpb, lpc] | rw [lpa, lpb] | rw [lpa]); congr 1; rw [Bool.eq_iff_iff]; (try simp) <;> omega)) | exact hret.goE () (Rs1 rfl rfl) (by rw [fitM_7 hc7, lens_len]; first | (simp [q0]; done) | ((first | rw [lpa, lpb, lpc] | rw [lpa, lpb] | rw [lpa]); congr 1; rw [Bool.eq_iff_iff]; (try simp) <;> omega)) | exact hret.goE () (Rs1 rfl rfl) (by rw [fitM_9 (tag_rest hw hc0 hc1 hc2 hc3 hc4 hc5 hc6 hc7), lens_len]; first | (simp [q0]; done) | ((first | rw [lpa, lpb, lpc] | rw [lpa, lpb] | rw [lpa]); congr 1; rw [Bool.eq_iff_iff]; (try simp) <;> omega))
      · try simp only [decide_eq_true_eq, decide_eq_false_iff_not, Bool.not_eq_true', Bool.not_eq_false', Bool.not_eq_true, Bool.not_eq_false, Int.not_lt, Int.not_le, Nat.not_lt, Nat.not_le, Decidable.not_not, ne_eq] at hc2
        refine WC_sr fun K15 hK15 => ?_
        refine WL_rd (Rd_eqlU (b := 4#8) rfl rfl) rfl rfl rfl ?_
        refine WL_rd (Rd_assign rfl) rfl rfl rfl ?_
        refine WL_end hK15 ?_
        refine WC_cond rfl (fun hc3 => ?_) (fun hc3 => ?_)
        · try simp only [decide_eq_true_eq, decide_eq_false_iff_not, Bool.not_eq_true', Bool.not_eq_false', Bool.not_eq_true, Bool.not_eq_false, Int.not_lt, Int.not_le, Nat.not_lt, Nat.not_le, Decidable.not_not, ne_eq] at hc3
          rw [decide_eq_true hc3]
          refine WC_skip ?_
          refine Ps_next hK12 ?_
          refine WC_condT rfl ?_
          refine WC_sr fun K16 hK16 => ?_
          refine WL_rd (Rd_move rfl) rfl rfl rfl ?_
          refine WL_rd (Rd_len_sv rfl rfl ud22) rfl rfl rfl ?_
          refine WL_rd (Rd_eqlN (j := 1) rfl rfl) rfl rfl rfl ?_
          refine WL_rd (Rd_assign rfl) rfl rfl rfl ?_
          refine WL_end hK16 ?_
          refine WC_ret ?_
          first | exact hret.goE () (Rs1 rfl rfl) (by rw [fitM_1 hc0, lens_len]; first | (simp [q0]; done) | ((first | rw [lpa, lpb, lpc] | rw [lpa, lpb] | rw [lpa]); congr 1; rw [Bool.eq_iff_iff]; (try simp) <;> omega)) | exact hret.goE () (Rs1 rfl rfl) (by rw [fitM_2 hc1, lens_len]; first | (simp [q0]; done) | ((first | rw [lpa, lpb, lpc] | rw [lpa, lpb] | rw [lpa]); congr 1; rw [Bool.eq_iff_iff]; (try simp) <;> omega)) | exact hret.goE () (Rs1 rfl rfl) (by rw [fitM_o (.inl hc2), lens_len]) | exact hret.goE () (Rs1 rfl rfl) (by rw [fitM_o (.inr (.inl hc3)), lens_len]) | exact hret.goE () (Rs1 rfl rfl) (by rw [fitM_o (.inr (.inr hc4)), lens_len]) | exact hret.goE () (Rs1 rfl rfl) (by rw [fitM_5 hc5, lens_len]; first | (simp [q0]; done) | ((first | rw [lpa, lpb, lpc] | rw [lpa, lpb] | rw [lpa]); congr 1; rw [Bool.eq_iff_iff]; (try simp) <;> omega)) | exact hret.goE () (Rs1 rfl rfl) (by rw [fitM_6 hc6, lens_len]; first | (simp [q0]; done) | ((first | rw [lpa, lpb, lpc] | rw [lpa, lpb] | rw [lpa]); congr 1; rw [Bool.eq_iff_iff]; (try simp) <;> omega)) | exact hret.goE () (Rs1 rfl rfl) (by rw [fitM_7 hc7, lens_len]; first | (simp [q0]; done) | ((first | rw [lpa, lpb, lpc] | rw [lpa, lpb] | rw [lpa]); congr 1; rw [Bool.eq_iff_iff]; (try simp) <;> omega)) | exact hret.goE () (Rs1 rfl rfl) (by rw [fitM_9 (tag_rest hw hc0 hc1 hc2 hc3 hc4 hc5 hc6 hc7), lens_len]; first | (simp [q0]; done) | ((first | rw [lpa, lpb, lpc] | rw [lpa, lpb] | rw [lpa]); congr 1; rw [Bool.eq_iff_iff]; (try simp) <;> omega))
        · try simp only [decide_eq_true_eq, decide_eq_false_iff_not, Bool.not_eq_true', Bool.not_eq_false', Bool.not_eq_true, Bool.not_eq_false, Int.not_lt, Int.not_le, Nat.not_lt, Nat.not_le, Decidable.not_not, ne_eq] at hc3
          refine WC_region ?_
          refine WL_rd (Rd_eqlU (b := 8#8) rfl rfl) rfl rfl rfl ?_
          refine WL_rd (Rd_assign rfl) rfl rfl rfl ?_
          refine WL_nil ?_
          refine Ps_next hK12 ?_
          refine WC_cond rfl (fun hc4 => ?_) (fun hc4 => ?_)
          · try simp only [decide_eq_true_eq, decide_eq_false_iff_not, Bool.not_eq_true', Bool.not_eq_false', Bool.not_eq_true, Bool.not_eq_false, Int.not_lt, Int.not_le, Nat.not_lt, Nat.not_le, Decidable.not_not, ne_eq] at hc4
            refine WC_sr fun K17 hK17 => ?_
            refine WL_rd (Rd_move rfl) rfl rfl rfl ?_
            refine WL_rd (Rd_len_sv rfl rfl ud22) rfl rfl rfl ?_
            refine WL_rd (Rd_eqlN (j := 1) rfl rfl) rfl rfl rfl ?_
            refine WL_rd (Rd_assign rfl) rfl rfl rfl ?_
            refine WL_end hK17 ?_
            refine WC_ret ?_
            first | exact hret.goE () (Rs1 rfl rfl) (by rw [fitM_1 hc0, lens_len]; first | (simp [q0]; done) | ((first | rw [lpa, lpb, lpc] | rw [lpa, lpb] | rw [lpa]); congr 1; rw [Bool.eq_iff_iff]; (try simp) <;> omega)) | exact hret.goE () (Rs1 rfl rfl) (by rw [fitM_2 hc1, lens_len]; first | (simp [q0]; done) | ((first | rw [lpa, lpb, lpc] | rw [lpa, lpb] | rw [lpa]); congr 1; rw [Bool.eq_iff_iff]; (try simp) <;> omega)) | exact hret.goE () (Rs1 rfl rfl) (by rw [fitM_o (.inl hc2), lens_len]) | exact hret.goE () (Rs1 rfl rfl) (by rw [fitM_o (.inr (.inl hc3)), lens_len]) | exact hret.goE () (Rs1 rfl rfl) (by rw [fitM_o (.inr (.inr hc4)), lens_len]) | exact hret.goE () (Rs1 rfl rfl) (by rw [fitM_5 hc5, lens_len]; first | (simp [q0]; done) | ((first | rw [lpa, lpb, lpc] | rw [lpa, lpb] | rw [lpa]); congr 1; rw [Bool.eq_iff_iff]; (try simp) <;> omega)) | exact hret.goE () (Rs1 rfl rfl) (by rw [fitM_6 hc6, lens_len]; first | (simp [q0]; done) | ((first | rw [lpa, lpb, lpc] | rw [lpa, lpb] | rw [lpa]); congr 1; rw [Bool.eq_iff_iff]; (try simp) <;> omega)) | exact hret.goE () (Rs1 rfl rfl) (by rw [fitM_7 hc7, lens_len]; first | (simp [q0]; done) | ((first | rw [lpa, lpb, lpc] | rw [lpa, lpb] | rw [lpa]); congr 1; rw [Bool.eq_iff_iff]; (try simp) <;> omega)) | exact hret.goE () (Rs1 rfl rfl) (by rw [fitM_9 (tag_rest hw hc0 hc1 hc2 hc3 hc4 hc5 hc6 hc7), lens_len]; first | (simp [q0]; done) | ((first | rw [lpa, lpb, lpc] | rw [lpa, lpb] | rw [lpa]); congr 1; rw [Bool.eq_iff_iff]; (try simp) <;> omega))
          · try simp only [decide_eq_true_eq, decide_eq_false_iff_not, Bool.not_eq_true', Bool.not_eq_false', Bool.not_eq_true, Bool.not_eq_false, Int.not_lt, Int.not_le, Nat.not_lt, Nat.not_le, Decidable.not_not, ne_eq] at hc4
            refine WC_sr fun K18 hK18 => ?_
            refine WL_rd (Rd_eqlU (b := 5#8) rfl rfl) rfl rfl rfl ?_
            refine WL_rd (Rd_assign rfl) rfl rfl rfl ?_
            refine WL_end hK18 ?_
            refine WC_cond rfl (fun hc5 => ?_) (fun hc5 => ?_)
            · try simp only [decide_eq_true_eq, decide_eq_false_iff_not, Bool.not_eq_true', Bool.not_eq_false', Bool.not_eq_true, Bool.not_eq_false, Int.not_lt, Int.not_le, Nat.not_lt, Nat.not_le, Decidable.not_not, ne_eq] at hc5
              refine WC_sr fun K19 hK19 => ?_
              refine WL_rd (Rd_move rfl) rfl rfl rfl ?_
              refine WL_rd (Rd_len_sv rfl rfl ud22) rfl rfl rfl ?_
              refine WL_rd (Rd_eqlN (j := 1) rfl rfl) rfl rfl rfl ?_
              refine WL_rd (Rd_move rfl) rfl rfl rfl ?_
              refine WL_bool 56 rfl (fun hg20 => ?_) (fun hg20 => ?_)
              · try simp only [decide_eq_true_eq, decide_eq_false_iff_not, Bool.not_eq_true', Bool.not_eq_false', Bool.not_eq_true, Bool.not_eq_false, Int.not_lt, Int.not_le, Nat.not_lt, Nat.not_le, Decidable.not_not, ne_eq] at hg20
                have q0 := hg20
                obtain ⟨pa, hpa⟩ : ∃ p, ps[0]? = some p := ⟨_, List.getElem?_eq_getElem (by omega)⟩
                have hpaS : Sv [X] pa.v 1 (eU .u8 (w := 8)) pa.l pa.ao pa.cap := hP pa (List.mem_of_getElem? hpa)
                have lpa : (lens (ps.map (·.l))).getD 0 0 = pa.l.length := by rw [List.getD_eq_getElem?_getD, lens_at hpa]; rfl
                refine WL_rd (Rd_move rfl) rfl rfl rfl ?_
                refine WL_rd (Rd_index_sv 0 rfl rfl ud22 sz23 (hA := hS) (hi := by omega)) rfl rfl rfl ?_
                refine WL_rd (Rd_load_sv (i := 0) (j := 0) rfl tk23 (hA := hS) (hl := hpa)) rfl rfl rfl ?_
                refine WL_rd (Rd_len_sv rfl rfl ud23 (hA := hpaS)) rfl rfl rfl ?_
                refine WL_rd (Rd_eqlN (j := 32) rfl rfl) rfl rfl rfl ?_
                refine WL_rd (Rd_pickT rfl rfl) rfl rfl rfl ?_
                refine WL_rd (Rd_assign rfl) rfl rfl rfl ?_
                refine WL_end hK19 ?_
                refine WC_ret ?_
                first | exact hret.goE () (Rs1 rfl rfl) (by rw [fitM_1 hc0, lens_len]; first | (simp [q0]; done) | ((first | rw [lpa, lpb, lpc] | rw [lpa, lpb] | rw [lpa]); congr 1; rw [Bool.eq_iff_iff]; (try simp) <;> omega)) | exact hret.goE () (Rs1 rfl rfl) (by rw [fitM_2 hc1, lens_len]; first | (simp [q0]; done) | ((first | rw [lpa, lpb, lpc] | rw [lpa, lpb] | rw [lpa]); congr 1; rw [Bool.eq_iff_iff]; (try simp) <;> omega)) | exact hret.goE () (Rs1 rfl rfl) (by rw [fitM_o (.inl hc2), lens_len]) | exact hret.goE () (Rs1 rfl rfl) (by rw [fitM_o (.inr (.inl hc3)), lens_len]) | exact hret.goE () (Rs1 rfl rfl) (by rw [fitM_o (.inr (.inr hc4)), lens_len]) | exact hret.goE () (Rs1 rfl rfl) (by rw [fitM_5 hc5, lens_len]; first | (simp [q0]; done) | ((first | rw [lpa, lpb, lpc] | rw [lpa, lpb] | rw [lpa]); congr 1; rw [Bool.eq_iff_iff]; (try simp) <;> omega)) | exact hret.goE () (Rs1 rfl rfl) (by rw [fitM_6 hc6, lens_len]; first | (simp [q0]; done) | ((first | rw [lpa, lpb, lpc] | rw [lpa, lpb] | rw [lpa]); congr 1; rw [Bool.eq_iff_iff]; (try simp) <;> omega)) | exact hret.goE () (Rs1 rfl rfl) (by rw [fitM_7 hc7, lens_len]; first | (simp [q0]; done) | ((first | rw [lpa, lpb, lpc] | rw [lpa, lpb] | rw [lpa]); congr 1; rw [Bool.eq_iff_iff]; (try simp) <;> omega)) | exact hret.goE () (Rs1 rfl rfl) (by rw [fitM_9 (tag_rest hw hc0 hc1 hc2 hc3 hc4 hc5 hc6 hc7), lens_len]; first | (simp [q0]; done) | ((first | rw [lpa, lpb, lpc] | rw [lpa, lpb] | rw [lpa]); congr 1; rw [Bool.eq_iff_iff]; (try simp) <;> omega))
              · try simp only [decide_eq_true_eq, decide_eq_false_iff_not, Bool.not_eq_true', Bool.not_eq_false', Bool.not_eq_true, Bool.not_eq_false, Int.not_lt, Int.not_le, Nat.not_lt, Nat.not_le, Decidable.not_not, ne_eq] at hg20
                have q0 := hg20
                refine WL_skip rfl rfl rfl ?_
                refine WL_skip rfl rfl rfl ?_
                refine WL_skip rfl rfl rfl ?_
                refine WL_skip rfl rfl rfl ?_
                refine WL_skip rfl rfl rfl ?_
                refine WL_rd (Rd_pickF rfl rfl) rfl rfl rfl ?_
                refine WL_rd (Rd_assign rfl) rfl rfl rfl ?_
                refine WL_end hK19 ?_
                refine WC_ret ?_
                first | exact hret.goE () (Rs1 rfl rfl) (by rw [fitM_1 hc0, lens_len]; first | (simp [q0]; done) | ((first | rw [lpa, lpb, lpc] | rw [lpa, lpb] | rw [lpa]); congr 1; rw [Bool.eq_iff_iff]; (try simp) <;> omega)) | exact hret.goE () (Rs1 rfl rfl) (by rw [fitM_2 hc1, lens_len]; first | (simp [q0]; done) | ((first | rw [lpa, lpb, lpc] | rw [lpa, lpb] | rw [lpa]); congr 1; rw [Bool.eq_iff_iff]; (try simp) <;> omega)) | exact hret.goE () (Rs1 rfl rfl) (by rw [fitM_o (.inl hc2), lens_len]) | exact hret.goE () (Rs1 rfl rfl) (by rw [fitM_o (.inr (.inl hc3)), lens_len]) | exact hret.goE () (Rs1 rfl rfl) (by rw [fitM_o (.inr (.inr hc4)), lens_len]) | exact hret.goE () (Rs1 rfl rfl) (by rw [fitM_5 hc5, lens_len]; first | (simp [q0]; done) | ((first | rw [lpa, lpb, lpc] | rw [lpa, lpb] | rw [lpa]); congr 1; rw [Bool.eq_iff_iff]; (try simp) <;> omega)) | exact hret.goE () (Rs1 rfl rfl) (by rw [fitM_6 hc6, lens_len]; first | (simp [q0]; done) | ((first | rw [lpa, lpb, lpc] | rw [lpa, lpb] | rw [lpa]); congr 1; rw [Bool.eq_iff_iff]; (try simp) <;> omega)) | exact hret.goE () (Rs1 rfl rfl) (by rw [fitM_7 hc7, lens_len]; first | (simp [q0]; done) | ((first | rw [lpa, lpb, lpc] | rw [lpa, lpb] | rw [lpa]); congr 1; rw [Bool.eq_iff_iff]; (try simp) <;> omega)) | exact hret.goE () (Rs1 rfl rfl) (by rw [fitM_9 (tag_rest hw hc0 hc1 hc2 hc3 hc4 hc5 hc6 hc7), lens_len]; first | (simp [q0]; done) | ((first | rw [lpa, lpb, lpc] | rw [lpa, lpb] | rw [lpa]); congr 1; rw [Bool.eq_iff_iff]; (try simp) <;> omega))
            · try simp only [decide_eq_true_eq, decide_eq_false_iff_not, Bool.not_eq_true', Bool.not_eq_false', Bool.not_eq_true, Bool.not_eq_false, Int.not_lt, Int.not_le, Nat.not_lt, Nat.not_le, Decidable.not_not, ne_eq] at hc5
              refine WC_sr fun K21 hK21 => ?_
              refine WL_rd (Rd_eqlU (b := 6#8) rfl rfl) rfl rfl rfl ?_
              refine WL_rd (Rd_assign rfl) rfl rfl rfl ?_
              refine WL_end hK21 ?_
              refine WC_cond rfl (fun hc6 => ?_) (fun hc6 => ?_)
              · try simp only [decide_eq_true_eq, decide_eq_false_iff_not, Bool.not_eq_true', Bool.not_eq_false', Bool.not_eq_true, Bool.not_eq_false, Int.not_lt, Int.not_le, Nat.not_lt, Nat.not_le, Decidable.not_not, ne_eq] at hc6
                refine WC_sr fun K22 hK22 => ?_
                refine WL_rd (Rd_move rfl) rfl rfl rfl ?_
                refine WL_rd (Rd_len_sv rfl rfl ud22) rfl rfl rfl ?_
                refine WL_rd (Rd_eqlN (j := 2) rfl rfl) rfl rfl rfl ?_
                refine WL_rd (Rd_move rfl) rfl rfl rfl ?_
                refine WL_bool 68 rfl (fun hg23 => ?_) (fun hg23 => ?_)
                · try simp only [decide_eq_true_eq, decide_eq_false_iff_not, Bool.not_eq_true', Bool.not_eq_false', Bool.not_eq_true, Bool.not_eq_false, Int.not_lt, Int.not_le, Nat.not_lt, Nat.not_le, Decidable.not_not, ne_eq] at hg23
                  have q0 := hg23
                  obtain ⟨pa, hpa⟩ : ∃ p, ps[0]? = some p := ⟨_, List.getElem?_eq_getElem (by omega)⟩
                  have hpaS : Sv [X] pa.v 1 (eU .u8 (w := 8)) pa.l pa.ao pa.cap := hP pa (List.mem_of_getElem? hpa)
                  have lpa : (lens (ps.map (·.l))).getD 0 0 = pa.l.length := by rw [List.getD_eq_getElem?_getD, lens_at hpa]; rfl
                  obtain ⟨pb, hpb⟩ : ∃ p, ps[1]? = some p := ⟨_, List.getElem?_eq_getElem (by omega)⟩
                  have hpbS : Sv [X] pb.v 1 (eU .u8 (w := 8)) pb.l pb.ao pb.cap := hP pb (List.mem_of_getElem? hpb)
                  have lpb : (lens (ps.map (·.l))).getD 1 0 = pb.l.length := by rw [List.getD_eq_getElem?_getD, lens_at hpb]; rfl
                  refine WL_rd (Rd_move rfl) rfl rfl rfl ?_
                  refine WL_rd (Rd_index_sv 0 rfl rfl ud22 sz23 (hA := hS) (hi := by omega)) rfl rfl rfl ?_
                  refine WL_rd (Rd_load_sv (i := 0) (j := 0) rfl tk23 (hA := hS) (hl := hpa)) rfl rfl rfl ?_
                  refine WL_rd (Rd_len_sv rfl rfl ud23 (hA := hpaS)) rfl rfl rfl ?_
                  refine WL_rd (Rd_eqlN (j := 32) rfl rfl) rfl rfl rfl ?_
                  refine WL_rd (Rd_pickT rfl rfl) rfl rfl rfl ?_
                  refine WL_rd (Rd_move rfl) rfl rfl rfl ?_
                  refine WL_bool 75 rfl (fun hg24 => ?_) (fun hg24 => ?_)
                  · try simp only [decide_eq_true_eq, decide_eq_false_iff_not, Bool.not_eq_true', Bool.not_eq_false', Bool.not_eq_true, Bool.not_eq_false, Int.not_lt, Int.not_le, Nat.not_lt, Nat.not_le, Decidable.not_not, ne_eq] at hg24
                    have q1 := hg24
                    refine WL_rd (Rd_move rfl) rfl rfl rfl ?_
                    refine WL_rd (Rd_index_sv 1 rfl rfl ud22 sz23 (hA := hS) (hi := by omega)) rfl rfl rfl ?_
                    refine WL_rd (Rd_load_sv (i := 1) (j := 0) rfl tk23 (hA := hS) (hl := hpb)) rfl rfl rfl ?_
                    refine WL_rd (Rd_len_sv rfl rfl ud23 (hA := hpbS)) rfl rfl rfl ?_
                    refine WL_rd (Rd_eqlN (j := 32) rfl rfl) rfl rfl rfl ?_
                    refine WL_rd (Rd_pickT rfl rfl) rfl rfl rfl ?_
                    refine WL_rd (Rd_assign rfl) rfl rfl rfl ?_
                    refine WL_end hK22 ?_
                    refine WC_ret ?_
                    first | exact hret.goE () (Rs1 rfl rfl) (by rw [fitM_1 hc0, lens_len]; first | (simp [q0]; done) | ((first | rw [lpa, lpb, lpc] | rw [lpa, lpb] | rw [lpa]); congr 1; rw [Bool.eq_iff_iff]; (try simp) <;> omega)) | exact hret.goE () (Rs1 rfl rfl) (by rw [fitM_2 hc1, lens_len]; first | (simp [q0]; done) | ((first | rw [lpa, lpb, lpc] | rw [lpa, lpb] | rw [lpa]); congr 1; rw [Bool.eq_iff_iff]; (try simp) <;> omega)) | exact hret.goE () (Rs1 rfl rfl) (by rw [fitM_o (.inl hc2), lens_len]) | exact hret.goE () (Rs1 rfl rfl) (by rw [fitM_o (.inr (.inl hc3)), lens_len]) | exact hret.goE () (Rs1 rfl rfl) (by rw [fitM_o (.inr (.inr hc4)), lens_len]) | exact hret.goE () (Rs1 rfl rfl) (by rw [fitM_5 hc5, lens_len]; first | (simp [q0]; done) | ((first | rw [lpa, lpb, lpc] | rw [lpa, lpb] | rw [lpa]); congr 1; rw [Bool.eq_iff_iff]; (try simp) <;> omega)) | exact hret.goE () (Rs1 rfl rfl) (by rw [fitM_6 hc6, lens_len]; first | (simp [q0]; done) | ((first | rw [lpa, lpb, lpc] | rw [lpa, lpb] | rw [lpa]); congr 1; rw [Bool.eq_iff_iff]; (try simp) <;> omega)) | exact hret.goE () (Rs1 rfl rfl) (by rw [fitM_7 hc7, lens_len]; first | (simp [q0]; done) | ((first | rw [lpa, lpb, lpc] | rw [lpa, lpb] | rw [lpa]); congr 1; rw [Bool.eq_iff_iff]; (try simp) <;> omega)) | exact hret.goE () (Rs1 rfl rfl) (by rw [fitM_9 (tag_rest hw hc0 hc1 hc2 hc3 hc4 hc5 hc6 hc7), lens_len]; first | (simp [q0]; done) | ((first | rw [lpa, lpb, lpc] | rw [lpa, lpb] | rw [lpa]); congr 1; rw [Bool.eq_iff_iff]; (try simp) <;> omega))
                  · try simp only [decide_eq_true_eq, decide_eq_false_iff_not, Bool.not_eq_true', Bool.not_eq_false', Bool.not_eq_true, Bool.not_eq_false, Int.not_lt, Int.not_le, Nat.not_lt, Nat.not_le, Decidable.not_not, ne_eq] at hg24
                    have q1 := hg24
                    refine WL_skip rfl rfl rfl ?_
                    refine WL_skip rfl rfl rfl ?_
                    refine WL_skip rfl rfl rfl ?_
                    refine WL_skip rfl rfl rfl ?_
                    refine WL_skip rfl rfl rfl ?_
                    refine WL_rd (Rd_pickF rfl rfl) rfl rfl rfl ?_
                    refine WL_rd (Rd_assign rfl) rfl rfl rfl ?_
                    refine WL_end hK22 ?_
                    refine WC_ret ?_
                    first | exact hret.goE () (Rs1 rfl rfl) (by rw [fitM_1 hc0, lens_len]; first | (simp [q0]; done) | ((first | rw [lpa, lpb, lpc] | rw [lpa, lpb] | rw [lpa]); congr 1; rw [Bool.eq_iff_iff]; (try simp) <;> omega)) | exact hret.goE () (Rs1 rfl rfl) (by rw [fitM_2 hc1, lens_len]; first | (simp [q0]; done) | ((first | rw [lpa, lpb, lpc] | rw [lpa, lpb] | rw [lpa]); congr 1; rw [Bool.eq_iff_iff]; (try simp) <;> omega)) | exact hret.goE () (Rs1 rfl rfl) (by rw [fitM_o (.inl hc2), lens_len]) | exact hret.goE () (Rs1 rfl rfl) (by rw [fitM_o (.inr (.inl hc3)), lens_len]) | exact hret.goE () (Rs1 rfl rfl) (by rw [fitM_o (.inr (.inr hc4)), lens_len]) | exact hret.goE () (Rs1 rfl rfl) (by rw [fitM_5 hc5, lens_len]; first | (simp [q0]; done) | ((first | rw [lpa, lpb, lpc] | rw [lpa, lpb] | rw [lpa]); congr 1; rw [Bool.eq_iff_iff]; (try simp) <;> omega)) | exact hret.goE () (Rs1 rfl rfl) (by rw [fitM_6 hc6, lens_len]; first | (simp [q0]; done) | ((first | rw [lpa, lpb, lpc] | rw [lpa, lpb] | rw [lpa]); congr 1; rw [Bool.eq_iff_iff]; (try simp) <;> omega)) | exact hret.goE () (Rs1 rfl rfl) (by rw [fitM_7 hc7, lens_len]; first | (simp [q0]; done) | ((first | rw [lpa, lpb, lpc] | rw [lpa, lpb] | rw [lpa]); congr 1; rw [Bool.eq_iff_iff]; (try simp) <;> omega)) | exact hret.goE () (Rs1 rfl rfl) (by rw [fitM_9 (tag_rest hw hc0 hc1 hc2 hc3 hc4 hc5 hc6 hc7), lens_len]; first | (simp [q0]; done) | ((first | rw [lpa, lpb, lpc] | rw [lpa, lpb] | rw [lpa]); congr 1; rw [Bool.eq_iff_iff]; (try simp) <;> omega))
                · try simp only [decide_eq_true_eq, decide_eq_false_iff_not, Bool.not_eq_true', Bool.not_eq_false', Bool.not_eq_true, Bool.not_eq_false, Int.not_lt, Int.not_le, Nat.not_lt, Nat.not_le, Decidable.not_not, ne_eq] at hg23
                  have q0 := hg23
                  refine WL_skip rfl rfl rfl ?_
                  refine WL_skip rfl rfl rfl ?_
                  refine WL_skip rfl rfl rfl ?_
                  refine WL_skip rfl rfl rfl ?_
                  refine WL_skip rfl rfl rfl ?_
                  refine WL_rd (Rd_pickF rfl rfl) rfl rfl rfl ?_
                  refine WL_rd (Rd_move rfl) rfl rfl rfl ?_
                  refine WL_skip rfl rfl rfl ?_
                  refine WL_skip rfl rfl rfl ?_
                  refine WL_skip rfl rfl rfl ?_
                  refine WL_skip rfl rfl rfl ?_
                  refine WL_skip rfl rfl rfl ?_
                  refine WL_rd (Rd_pickF rfl rfl) rfl rfl rfl ?_
                  refine WL_rd (Rd_assign rfl) rfl rfl rfl ?_
                  refine WL_end hK22 ?_
                  refine WC_ret ?_
                  first | exact hret.goE () (Rs1 rfl rfl) (by rw [fitM_1 hc0, lens_len]; first | (simp [q0]; done) | ((first | rw [lpa, lpb, lpc] | rw [lpa, lpb] | rw [lpa]); congr 1; rw [Bool.eq_iff_iff]; (try simp) <;> omega)) | exact hret.goE () (Rs1 rfl rfl) (by rw [fitM_2 hc1, lens_len]; first | (simp [q0]; done) | ((first | rw [lpa, lpb, lpc] | rw [lpa, lpb] | rw [lpa]); congr 1; rw [Bool.eq_iff_iff]; (try simp) <;> omega)) | exact hret.goE () (Rs1 rfl rfl) (by rw [fitM_o (.inl hc2), lens_len]) | exact hret.goE () (Rs1 rfl rfl) (by rw [fitM_o (.inr (.inl hc3)), lens_len]) | exact hret.goE () (Rs1 rfl rfl) (by rw [fitM_o (.inr (.inr hc4)), lens_len]) | exact hret.goE () (Rs1 rfl rfl) (by rw [fitM_5 hc5, lens_len]; first | (simp [q0]; done) | ((first | rw [lpa, lpb, lpc] | rw [lpa, lpb] | rw [lpa]); congr 1; rw [Bool.eq_iff_iff]; (try simp) <;> omega)) | exact hret.goE () (Rs1 rfl rfl) (by rw [fitM_6 hc6, lens_len]; first | (simp [q0]; done) | ((first | rw [lpa, lpb, lpc] | rw [lpa, lpb] | rw [lpa]); congr 1; rw [Bool.eq_iff_iff]; (try simp) <;> omega)) | exact hret.goE () (Rs1 rfl rfl) (by rw [fitM_7 hc7, lens_len]; first | (simp [q0]; done) | ((first | rw [lpa, lpb, lpc] | rw [lpa, lpb] | rw [lpa]); congr 1; rw [Bool.eq_iff_iff]; (try simp) <;> omega)) | exact hret.goE () (Rs1 rfl rfl) (by rw [fitM_9 (tag_rest hw hc0 hc1 hc2 hc3 hc4 hc5 hc6 hc7), lens_len]; first | (simp [q0]; done) | ((first | rw [lpa, lpb, lpc] | rw [lpa, lpb] | rw [lpa]); congr 1; rw [Bool.eq_iff_iff]; (try simp) <;> omega))
              · try simp only [decide_eq_true_eq, decide_eq_false_iff_not, Bool.not_eq_true', Bool.not_eq_false', Bool.not_eq_true, Bool.not_eq_false, Int.not_lt, Int.not_le, Nat.not_lt, Nat.not_le, Decidable.not_not, ne_eq] at hc6
                refine WC_sr fun K25 hK25 => ?_
                refine WL_rd (Rd_eqlU (b := 7#8) rfl rfl) rfl rfl rfl ?_
                refine WL_rd (Rd_assign rfl) rfl rfl rfl ?_
                refine WL_end hK25 ?_
                refine WC_cond rfl (fun hc7 => ?_) (fun hc7 => ?_)
                · try simp only [decide_eq_true_eq, decide_eq_false_iff_not, Bool.not_eq_true', Bool.not_eq_false', Bool.not_eq_true, Bool.not_eq_false, Int.not_lt, Int.not_le, Nat.not_lt, Nat.not_le, Decidable.not_not, ne_eq] at hc7
                  refine WC_sr fun K26 hK26 => ?_
                  refine WL_rd (Rd_move rfl) rfl rfl rfl ?_
                  refine WL_rd (Rd_len_sv rfl rfl ud22) rfl rfl rfl ?_
                  refine WL_rd (Rd_eqlN (j := 1) rfl rfl) rfl rfl rfl ?_
                  refine WL_rd (Rd_move rfl) rfl rfl rfl ?_
                  refine WL_bool 87 rfl (fun hg27 => ?_) (fun hg27 => ?_)
                  · try simp only [decide_eq_true_eq, decide_eq_false_iff_not, Bool.not_eq_true', Bool.not_eq_false', Bool.not_eq_true, Bool.not_eq_false, Int.not_lt, Int.not_le, Nat.not_lt, Nat.not_le, Decidable.not_not, ne_eq] at hg27
                    have q0 := hg27
                    obtain ⟨pa, hpa⟩ : ∃ p, ps[0]? = some p := ⟨_, List.getElem?_eq_getElem (by omega)⟩
                    have hpaS : Sv [X] pa.v 1 (eU .u8 (w := 8)) pa.l pa.ao pa.cap := hP pa (List.mem_of_getElem? hpa)
                    have lpa : (lens (ps.map (·.l))).getD 0 0 = pa.l.length := by rw [List.getD_eq_getElem?_getD, lens_at hpa]; rfl
                    refine WL_rd (Rd_move rfl) rfl rfl rfl ?_
                    refine WL_rd (Rd_index_sv 0 rfl rfl ud22 sz23 (hA := hS) (hi := by omega)) rfl rfl rfl ?_
                    refine WL_rd (Rd_load_sv (i := 0) (j := 0) rfl tk23 (hA := hS) (hl := hpa)) rfl rfl rfl ?_
                    refine WL_rd (Rd_len_sv rfl rfl ud23 (hA := hpaS)) rfl rfl rfl ?_
                    refine WL_rd (Rd_eqlN (j := 4) rfl rfl) rfl rfl rfl ?_
                    refine WL_rd (Rd_pickT rfl rfl) rfl rfl rfl ?_
                    refine WL_rd (Rd_assign rfl) rfl rfl rfl ?_
                    refine WL_end hK26 ?_
                    refine WC_ret ?_
                    first | exact hret.goE () (Rs1 rfl rfl) (by rw [fitM_1 hc0, lens_len]; first | (simp [q0]; done) | ((first | rw [lpa, lpb, lpc] | rw [lpa, lpb] | rw [lpa]); congr 1; rw [Bool.eq_iff_iff]; (try simp) <;> omega)) | exact hret.goE () (Rs1 rfl rfl) (by rw [fitM_2 hc1, lens_len]; first | (simp [q0]; done) | ((first | rw [lpa, lpb, lpc] | rw [lpa, lpb] | rw [lpa]); congr 1; rw [Bool.eq_iff_iff]; (try simp) <;> omega)) | exact hret.goE () (Rs1 rfl rfl) (by rw [fitM_o (.inl hc2), lens_len]) | exact hret.goE () (Rs1 rfl rfl) (by rw [fitM_o (.inr (.inl hc3)), lens_len]) | exact hret.goE () (Rs1 rfl rfl) (by rw [fitM_o (.inr (.inr hc4)), lens_len]) | exact hret.goE () (Rs1 rfl rfl) (by rw [fitM_5 hc5, lens_len]; first | (simp [q0]; done) | ((first | rw [lpa, lpb, lpc] | rw [lpa, lpb] | rw [lpa]); congr 1; rw [Bool.eq_iff_iff]; (try simp) <;> omega)) | exact hret.goE () (Rs1 rfl rfl) (by rw [fitM_6 hc6, lens_len]; first | (simp [q0]; done) | ((first | rw [lpa, lpb, lpc] | rw [lpa, lpb] | rw [lpa]); congr 1; rw [Bool.eq_iff_iff]; (try simp) <;> omega)) | exact hret.goE () (Rs1 rfl rfl) (by rw [fitM_7 hc7, lens_len]; first | (simp [q0]; done) | ((first | rw [lpa, lpb, lpc] | rw [lpa, lpb] | rw [lpa]); congr 1; rw [Bool.eq_iff_iff]; (try simp) <;> omega)) | exact hret.goE () (Rs1 rfl rfl) (by rw [fitM_9 (tag_rest hw hc0 hc1 hc2 hc3 hc4 hc5 hc6 hc7), lens_len]; first | (simp [q0]; done) | ((first | rw [lpa, lpb, lpc] | rw [lpa, lpb] | rw [lpa]); congr 1; rw [Bool.eq_iff_iff]; (try simp) <;> omega))
                  · try simp only [decide_eq_true_eq, decide_eq_false_iff_not, Bool.not_eq_true', Bool.not_eq_false', Bool.not_eq_true, Bool.not_eq_false, Int.not_lt, Int.not_le, Nat.not_lt, Nat.not_le, Decidable.not_not, ne_eq] at hg27
                    have q0 := hg27
                    refine WL_skip rfl rfl rfl ?_
                    refine WL_skip rfl rfl rfl ?_
                    refine WL_skip rfl rfl rfl ?_
                    refine WL_skip rfl rfl rfl ?_
                    refine WL_skip rfl rfl rfl ?_
                    refine WL_rd (Rd_pickF rfl rfl) rfl rfl rfl ?_
                    refine WL_rd (Rd_assign rfl) rfl rfl rfl ?_
                    refine WL_end hK26 ?_
                    refine WC_ret ?_
                    first | exact hret.goE () (Rs1 rfl rfl) (by rw [fitM_1 hc0, lens_len]; first | (simp [q0]; done) | ((first | rw [lpa, lpb, lpc] | rw [lpa, lpb] | rw [lpa]); congr 1; rw [Bool.eq_iff_iff]; (try simp) <;> omega)) | exact hret.goE () (Rs1 rfl rfl) (by rw [fitM_2 hc1, lens_len]; first | (simp [q0]; done) | ((first | rw [lpa, lpb, lpc] | rw [lpa, lpb] | rw [lpa]); congr 1; rw [Bool.eq_iff_iff]; (try simp) <;> omega)) | exact hret.goE () (Rs1 rfl rfl) (by rw [fitM_o (.inl hc2), lens_len]) | exact hret.goE () (Rs1 rfl rfl) (by rw [fitM_o (.inr (.inl hc3)), lens_len]) | exact hret.goE () (Rs1 rfl rfl) (by rw [fitM_o (.inr (.inr hc4)), lens_len]) | exact hret.goE () (Rs1 rfl rfl) (by rw [fitM_5 hc5, lens_len]; first | (simp [q0]; done) | ((first | rw [lpa, lpb, lpc] | rw [lpa, lpb] | rw [lpa]); congr 1; rw [Bool.eq_iff_iff]; (try simp) <;> omega)) | exact hret.goE () (Rs1 rfl rfl) (by rw [fitM_6 hc6, lens_len]; first | (simp [q0]; done) | ((first | rw [lpa, lpb, lpc] | rw [lpa, lpb] | rw [lpa]); congr 1; rw [Bool.eq_iff_iff]; (try simp) <;> omega)) | exact hret.goE () (Rs1 rfl rfl) (by rw [fitM_7 hc7, lens_len]; first | (simp [q0]; done) | ((first | rw [lpa, lpb, lpc] | rw [lpa, lpb] | rw [lpa]); congr 1; rw [Bool.eq_iff_iff]; (try simp) <;> omega)) | exact hret.goE () (Rs1 rfl rfl) (by rw [fitM_9 (tag_rest hw hc0 hc1 hc2 hc3 hc4 hc5 hc6 hc7), lens_len]; first | (simp [q0]; done) | ((first | rw [lpa, lpb, lpc] | rw [lpa, lpb] | rw [lpa]); congr 1; rw [Bool.eq_iff_iff]; (try simp) <;> omega))
                · try simp only [decide_eq_true_eq, decide_eq_false_iff_not, Bool.not_eq_true', Bool.not_eq_false', Bool.not_eq_true, Bool.not_eq_false, Int.not_lt, Int.not_le, Nat.not_lt, Nat.not_le, Decidable.not_not, ne_eq] at hc7
                  refine WC_skip ?_
                  refine Ps_next hK2 ?_
                  refine WC_sr fun K28 hK28 => ?_
                  refine WL_rd (Rd_move rfl) rfl rfl rfl ?_
                  refine WL_rd (Rd_len_sv rfl rfl ud22) rfl rfl rfl ?_
                  refine WL_rd (Rd_eqlN (j := 2) rfl rfl) rfl rfl rfl ?_
                  refine WL_rd (Rd_move rfl) rfl rfl rfl ?_
                  refine WL_bool 97 rfl (fun hg29 => ?_) (fun hg29 => ?_)
                  · try simp only [decide_eq_true_eq, decide_eq_false_iff_not, Bool.not_eq_true', Bool.not_eq_false', Bool.not_eq_true, Bool.not_eq_false, Int.not_lt, Int.not_le, Nat.not_lt, Nat.not_le, Decidable.not_not, ne_eq] at hg29
                    have q0 := hg29
                    obtain ⟨pa, hpa⟩ : ∃ p, ps[0]? = some p := ⟨_, List.getElem?_eq_getElem (by omega)⟩
                    have hpaS : Sv [X] pa.v 1 (eU .u8 (w := 8)) pa.l pa.ao pa.cap := hP pa (List.mem_of_getElem? hpa)
                    have lpa : (lens (ps.map (·.l))).getD 0 0 = pa.l.length := by rw [List.getD_eq_getElem?_getD, lens_at hpa]; rfl
                    obtain ⟨pb, hpb⟩ : ∃ p, ps[1]? = some p := ⟨_, List.getElem?_eq_getElem (by omega)⟩
                    have hpbS : Sv [X] pb.v 1 (eU .u8 (w := 8)) pb.l pb.ao pb.cap := hP pb (List.mem_of_getElem? hpb)
                    have lpb : (lens (ps.map (·.l))).getD 1 0 = pb.l.length := by rw [List.getD_eq_getElem?_getD, lens_at hpb]; rfl
                    refine WL_rd (Rd_move rfl) rfl rfl rfl ?_
                    refine WL_rd (Rd_index_sv 0 rfl rfl ud22 sz23 (hA := hS) (hi := by omega)) rfl rfl rfl ?_
                    refine WL_rd (Rd_load_sv (i := 0) (j := 0) rfl tk23 (hA := hS) (hl := hpa)) rfl rfl rfl ?_
                    refine WL_rd (Rd_len_sv rfl rfl ud23 (hA := hpaS)) rfl rfl rfl ?_
                    refine WL_rd (Rd_eqlN (j := 16) rfl rfl) rfl rfl rfl ?_
                    refine WL_rd (Rd_pickT rfl rfl) rfl rfl rfl ?_
                    refine WL_rd (Rd_move rfl) rfl rfl rfl ?_
                    refine WL_bool 104 rfl (fun hg30 => ?_) (fun hg30 => ?_)
                    · try simp only [decide_eq_true_eq, decide_eq_false_iff_not, Bool.not_eq_true', Bool.not_eq_false', Bool.not_eq_true, Bool.not_eq_false, Int.not_lt, Int.not_le, Nat.not_lt, Nat.not_le, Decidable.not_not, ne_eq] at hg30
                      have q1 := hg30
                      refine WL_rd (Rd_move rfl) rfl rfl rfl ?_
                      refine WL_rd (Rd_index_sv 1 rfl rfl ud22 sz23 (hA := hS) (hi := by omega)) rfl rfl rfl ?_
                      refine WL_rd (Rd_load_sv (i := 1) (j := 0) rfl tk23 (hA := hS) (hl := hpb)) rfl rfl rfl ?_
                      refine WL_rd (Rd_len_sv rfl rfl ud23 (hA := hpbS)) rfl rfl rfl ?_
                      refine WL_rd (Rd_eqlN (j := 4) rfl rfl) rfl rfl rfl ?_
                      refine WL_rd (Rd_pickT rfl rfl) rfl rfl rfl ?_
                      refine WL_rd (Rd_assign rfl) rfl rfl rfl ?_
                      refine WL_end hK28 ?_
                      refine WC_ret ?_
                      first | exact hret.goE () (Rs1 rfl rfl) (by rw [fitM_1 hc0, lens_len]; first | (simp [q0]; done) | ((first | rw [lpa, lpb, lpc] | rw [lpa, lpb] | rw [lpa]); congr 1; rw [Bool.eq_iff_iff]; (try simp) <;> omega)) | exact hret.goE () (Rs1 rfl rfl) (by rw [fitM_2 hc1, lens_len]; first | (simp [q0]; done) | ((first | rw [lpa, lpb, lpc] | rw [lpa, lpb] | rw [lpa]); congr 1; rw [Bool.eq_iff_iff]; (try simp) <;> omega)) | exact hret.goE () (Rs1 rfl rfl) (by rw [fitM_o (.inl hc2), lens_len]) | exact hret.goE () (Rs1 rfl rfl) (by rw [fitM_o (.inr (.inl hc3)), lens_len]) | exact hret.goE () (Rs1 rfl rfl) (by rw [fitM_o (.inr (.inr hc4)), lens_len]) | exact hret.goE () (Rs1 rfl rfl) (by rw [fitM_5 hc5, lens_len]; first | (simp [q0]; done) | ((first | rw [lpa, lpb, lpc] | rw [lpa, lpb] | rw [lpa]); congr 1; rw [Bool.eq_iff_iff]; (try simp) <;> omega)) | exact hret.goE () (Rs1 rfl rfl) (by rw [fitM_6 hc6, lens_len]; first | (simp [q0]; done) | ((first | rw [lpa, lpb, lpc] | rw [lpa, lpb] | rw [lpa]); congr 1; rw [Bool.eq_iff_iff]; (try simp) <;> omega)) | exact hret.goE () (Rs1 rfl rfl) (by rw [fitM_7 hc7, lens_len]; first | (simp [q0]; done) | ((first | rw [lpa, lpb, lpc] | rw [lpa, lpb] | rw [lpa]); congr 1; rw [Bool.eq_iff_iff]; (try simp) <;> omega)) | exact hret.goE () (Rs1 rfl rfl) (by rw [fitM_9 (tag_rest hw hc0 hc1 hc2 hc3 hc4 hc5 hc6 hc7), lens_len]; first | (simp [q0]; done) | ((first | rw [lpa, lpb, lpc] | rw [lpa, lpb] | rw [lpa]); congr 1; rw [Bool.eq_iff_iff]; (try simp) <;> omega))
                    · try simp only [decide_eq_true_eq, decide_eq_false_iff_not, Bool.not_eq_true', Bool.not_eq_false', Bool.not_eq_true, Bool.not_eq_false, Int.not_lt, Int.not_le, Nat.not_lt, Nat.not_le, Decidable.not_not, ne_eq] at hg30
                      have q1 := hg30
                      refine WL_skip rfl rfl rfl ?_
                      refine WL_skip rfl rfl rfl ?_
                      refine WL_skip rfl rfl rfl ?_
                      refine WL_skip rfl rfl rfl ?_
                      refine WL_skip rfl rfl rfl ?_
                      refine WL_rd (Rd_pickF rfl rfl) rfl rfl rfl ?_
                      refine WL_rd (Rd_assign rfl) rfl rfl rfl ?_
                      refine WL_end hK28 ?_
                      refine WC_ret ?_
                      first | exact hret.goE () (Rs1 rfl rfl) (by rw [fitM_1 hc0, lens_len]; first | (simp [q0]; done) | ((first | rw [lpa, lpb, lpc] | rw [lpa, lpb] | rw [lpa]); congr 1; rw [Bool.eq_iff_iff]; (try simp) <;> omega)) | exact hret.goE () (Rs1 rfl rfl) (by rw [fitM_2 hc1, lens_len]; first | (simp [q0]; done) | ((first | rw [lpa, lpb, lpc] | rw [lpa, lpb] | rw [lpa]); congr 1; rw [Bool.eq_iff_iff]; (try simp) <;> omega)) | exact hret.goE () (Rs1 rfl rfl) (by rw [fitM_o (.inl hc2), lens_len]) | exact hret.goE () (Rs1 rfl rfl) (by rw [fitM_o (.inr (.inl hc3)), lens_len]) | exact hret.goE () (Rs1 rfl rfl) (by rw [fitM_o (.inr (.inr hc4)), lens_len]) | exact hret.goE () (Rs1 rfl rfl) (by rw [fitM_5 hc5, lens_len]; first | (simp [q0]; done) | ((first | rw [lpa, lpb, lpc] | rw [lpa, lpb] | rw [lpa]); congr 1; rw [Bool.eq_iff_iff]; (try simp) <;> omega)) | exact hret.goE () (Rs1 rfl rfl) (by rw [fitM_6 hc6, lens_len]; first | (simp [q0]; done) | ((first | rw [lpa, lpb, lpc] | rw [lpa, lpb] | rw [lpa]); congr 1; rw [Bool.eq_iff_iff]; (try simp) <;> omega)) | exact hret.goE () (Rs1 rfl rfl) (by rw [fitM_7 hc7, lens_len]; first | (simp [q0]; done) | ((first | rw [lpa, lpb, lpc] | rw [lpa, lpb] | rw [lpa]); congr 1; rw [Bool.eq_iff_iff]; (try simp) <;> omega)) | exact hret.goE () (Rs1 rfl rfl) (by rw [fitM_9 (tag_rest hw hc0 hc1 hc2 hc3 hc4 hc5 hc6 hc7), lens_len]; first | (simp [q0]; done) | ((first | rw [lpa, lpb, lpc] | rw [lpa, lpb] | rw [lpa]); congr 1; rw [Bool.eq_iff_iff]; (try simp) <;> omega))
                  · try simp only [decide_eq_true_eq, decide_eq_false_iff_not, Bool.not_eq_true', Bool.not_eq_false', Bool.not_eq_true, Bool.not_eq_false, Int.not_lt, Int.not_le, Nat.not_lt, Nat.not_le, Decidable.not_not, ne_eq] at hg29
                    have q0 := hg29
                    refine WL_skip rfl rfl rfl ?_
                    refine WL_skip rfl rfl rfl ?_
                    refine WL_skip rfl rfl rfl ?_
                    refine WL_skip rfl rfl rfl ?_
                    refine WL_skip rfl rfl rfl ?_
                    refine WL_rd (Rd_pickF rfl rfl) rfl rfl rfl ?_
                    refine WL_rd (Rd_move rfl) rfl rfl rfl ?_
                    refine WL_skip rfl rfl rfl ?_
                    refine WL_skip rfl rfl rfl ?_
                    refine WL_skip rfl rfl rfl ?_
                    refine WL_skip rfl rfl rfl ?_
                    refine WL_skip rfl rfl rfl ?_
                    refine WL_rd (Rd_pickF rfl rfl) rfl rfl rfl ?_
                    refine WL_rd (Rd_assign rfl) rfl rfl rfl ?_
                    refine WL_end hK28 ?_
                    refine WC_ret ?_
                    first | exact hret.goE () (Rs1 rfl rfl) (by rw [fitM_1 hc0, lens_len]; first | (simp [q0]; done) | ((first | rw [lpa, lpb, lpc] | rw [lpa, lpb] | rw [lpa]); congr 1; rw [Bool.eq_iff_iff]; (try simp) <;> omega)) | exact hret.goE () (Rs1 rfl rfl) (by rw [fitM_2 hc1, lens_len]; first | (simp [q0]; done) | ((first | rw [lpa, lpb, lpc] | rw [lpa, lpb] | rw [lpa]); congr 1; rw [Bool.eq_iff_iff]; (try simp) <;> omega)) | exact hret.goE () (Rs1 rfl rfl) (by rw [fitM_o (.inl hc2), lens_len]) | exact hret.goE () (Rs1 rfl rfl) (by rw [fitM_o (.inr (.inl hc3)), lens_len]) | exact hret.goE () (Rs1 rfl rfl) (by rw [fitM_o (.inr (.inr hc4)), lens_len]) | exact hret.goE () (Rs1 rfl rfl) (by rw [fitM_5 hc5, lens_len]; first | (simp [q0]; done) | ((first | rw [lpa, lpb, lpc] | rw [lpa, lpb] | rw [lpa]); congr 1; rw [Bool.eq_iff_iff]; (try simp) <;> omega)) | exact hret.goE () (Rs1 rfl rfl) (by rw [fitM_6 hc6, lens_len]; first | (simp [q0]; done) | ((first | rw [lpa, lpb, lpc] | rw [lpa, lpb] | rw [lpa]); congr 1; rw [Bool.eq_iff_iff]; (try simp) <;> omega)) | exact hret.goE () (Rs1 rfl rfl) (by rw [fitM_7 hc7, lens_len]; first | (simp [q0]; done) | ((first | rw [lpa, lpb, lpc] | rw [lpa, lpb] | rw [lpa]); congr 1; rw [Bool.eq_iff_iff]; (try simp) <;> omega)) | exact hret.goE () (Rs1 rfl rfl) (by rw [fitM_9 (tag_rest hw hc0 hc1 hc2 hc3 hc4 hc5 hc6 hc7), lens_len]; first | (simp [q0]; done) | ((first | rw [lpa, lpb, lpc] | rw [lpa, lpb] | rw [lpa]); congr 1; rw [Bool.eq_iff_iff]; (try simp) <;> omega))
end Go.Proofs.Ytlcafifjhilleaa
namespace Go.Proofs.Ytlcafifjhilleaa
open Go.RowKit Go.SL Go.ShM
set_option maxHeartbeats 1000000
set_option maxRecDepth 20000
set_option linter.all false
theorem cf25 : cfn Try.prog 25 = true := by kernel_rfl
theorem cf34 : cfn Try.prog 34 = true := by kernel_rfl
theorem cf48 : cfn Try.prog 48 = true := by kernel_rfl
theorem cf49 : cfn Try.prog 49 = true := by kernel_rfl
theorem cf84 : cfn Try.prog 84 = true := by kernel_rfl
theorem frW_take {w : List B8} {ps : List Pt} {i : Nat} {p : Pt} (h : ps[i]? = some p) : frM (w :: (ps.take i).map (·.l)) ++ frm p.l = frM (w :: (ps.take (i + 1)).map (·.l)) := by
  rw [List.take_add_one, h, List.map_append, frM_snoc]; rfl
theorem frW_len {w : List B8} {ps : List Pt} {i : Nat} (h : i ≤ ps.length) : (frM (w :: (ps.take i).map (·.l))).length = (joinP (ps.take i)).length + 8 * i + w.length + 8 := by
  rw [frM_cons, List.length_append, frm_len, frP_len h]; omega

theorem bytesR_ct {t : B8} {X : Asn} {v : Value} {ps : List Pt} {ao : Option Addr} {cap : Nat} (hS : Sv [X] v 1 fP ps ao cap := by assumption) (hP : ∀ p ∈ ps, RdP [X] p := by assumption) (hn : (joinP ps).length ≤ 400000000000 := by omega) (hk : ps.length ≤ 1000000000 := by omega) : Ct Try.prog 25 [.int .u8 ((t.toNat : Nat) : Int), v] [X] (fun g : Option Nat × Nat => .tuple #[sl g.1 (tagB t (ps.map (·.l))).length g.2, .int .i64 ((tagE t (ps.map (·.l)) : Nat) : Int)]) (fun g => [X, arr g.1 g.2 1 5 (eU .u8) (tagB t (ps.map (·.l)))]) := by
  refine Ct_body (n := 33) Try.func25 rfl rfl rfl fun F w0 Q hret hnorm hp => ?_
  change WC _ _ _ _ _ _ _ (_ :: F)
  have hwl := bsS_le t
  refine WC_sr fun K1 hK1 => ?_
  refine WL_rd (Rd_assign (v := sl none 0 0) rfl) rfl rfl rfl ?_
  refine WL_rd (Rd_assign rfl) rfl rfl rfl ?_
  refine WL_end hK1 ?_
  refine WC_seq fun K2 hK2 => ?_
  refine WC_sr fun K3 hK3 => ?_
  refine WL_rd (Rd_move rfl) rfl rfl rfl ?_
  refine WL_ac (Ac_call cf34 rfl (hs := wordR_ct)) rfl rfl rfl ?_
  rintro _ _ ⟨⟨⟩, rfl, hA⟩
  simp only [List.cons_append, List.nil_append] at hA
  replace hA := hA.symm
  subst hA
  refine WL_rd (Rd_isEq (word_eq0 t) (Rd_streq rfl rfl)) rfl rfl rfl ?_
  refine WL_end hK3 ?_
  refine WC_cond rfl (fun hc0 => ?_) (fun hc0 => ?_)
  · try simp only [decide_eq_true_eq, decide_eq_false_iff_not, Bool.not_eq_true', Bool.not_eq_false', Bool.not_eq_true, Bool.not_eq_false, Int.not_lt, Int.not_le, Nat.not_lt, Nat.not_le, Decidable.not_not, ne_eq] at hc0
    obtain ⟨e50a, e50b⟩ := tag50 (ls := ps.map (·.l)) hc0
    rw [e50a] at hret
    refine WC_imp (fun w h => sat_nil (e := 1) (T := 5) (f := eU .u8 (w := 8)) h) ?_
    refine WC_sr fun K4 hK4 => ?_
    refine WL_rd (Rd_assign (v := sl none 0 0) rfl) rfl rfl rfl ?_
    refine WL_rd (Rd_assign rfl) rfl rfl rfl ?_
    refine WL_end hK4 ?_
    refine WC_ret ?_
    first | exact hret.goE (none, 0) (Rs2 rfl rfl rfl) (by rw [e50b]; rfl) | exact hret.goE (none, 0) (Rs2 rfl rfl rfl) (by rw [e51b]; rfl) | exact hret.goE (a, c) (Rs2 rfl rfl rfl) (by rw [e0b]; rfl)
  · try simp only [decide_eq_true_eq, decide_eq_false_iff_not, Bool.not_eq_true', Bool.not_eq_false', Bool.not_eq_true, Bool.not_eq_false, Int.not_lt, Int.not_le, Nat.not_lt, Nat.not_le, Decidable.not_not, ne_eq] at hc0
    refine WC_skip ?_
    refine Ps_next hK2 ?_
    refine WC_seq fun K5 hK5 => ?_
    refine WC_sr fun K6 hK6 => ?_
    refine WL_rd (Rd_move rfl) rfl rfl rfl ?_
    refine WL_rd (Rd_move rfl) rfl rfl rfl ?_
    refine WL_ac (Ac_call cf48 rfl (hs := fitsR_ct (X := X) (t := t) (ps := ps) (hS := hS) (hP := hP))) rfl rfl rfl ?_
    rintro _ _ ⟨⟨⟩, rfl, hA⟩
    simp only [List.cons_append, List.nil_append] at hA
    replace hA := hA.symm
    subst hA
    refine WL_rd (Rd_not rfl) rfl rfl rfl ?_
    refine WL_end hK6 ?_
    refine WC_cond rfl (fun hc1 => ?_) (fun hc1 => ?_)
    · try simp only [decide_eq_true_eq, decide_eq_false_iff_not, Bool.not_eq_true', Bool.not_eq_false', Bool.not_eq_true, Bool.not_eq_false, Int.not_lt, Int.not_le, Nat.not_lt, Nat.not_le, Decidable.not_not, ne_eq] at hc1
      obtain ⟨e51a, e51b⟩ := tag51 (ls := ps.map (·.l)) hc0 hc1
      rw [e51a] at hret
      refine WC_imp (fun w h => sat_nil (e := 1) (T := 5) (f := eU .u8 (w := 8)) h) ?_
      refine WC_sr fun K7 hK7 => ?_
      refine WL_rd (Rd_assign (v := sl none 0 0) rfl) rfl rfl rfl ?_
      refine WL_rd (Rd_assign rfl) rfl rfl rfl ?_
      refine WL_end hK7 ?_
      refine WC_ret ?_
      first | exact hret.goE (none, 0) (Rs2 rfl rfl rfl) (by rw [e50b]; rfl) | exact hret.goE (none, 0) (Rs2 rfl rfl rfl) (by rw [e51b]; rfl) | exact hret.goE (a, c) (Rs2 rfl rfl rfl) (by rw [e0b]; rfl)
    · try simp only [decide_eq_true_eq, decide_eq_false_iff_not, Bool.not_eq_true', Bool.not_eq_false', Bool.not_eq_true, Bool.not_eq_false, Int.not_lt, Int.not_le, Nat.not_lt, Nat.not_le, Decidable.not_not, ne_eq] at hc1
      obtain ⟨e0a, e0b⟩ := tag0 (ls := ps.map (·.l)) hc0 hc1
      rw [e0a] at hret
      have hfq := frP_all (ps := ps)
      refine WC_skip ?_
      refine Ps_next hK5 ?_
      refine WC_sr fun K8 hK8 => ?_
      refine WL_rd (Rd_move rfl) rfl rfl rfl ?_
      refine WL_ac (Ac_call cf34 rfl (hs := wordR_ct)) rfl rfl rfl ?_
      rintro _ _ ⟨⟨⟩, rfl, hA⟩
      simp only [List.cons_append, List.nil_append] at hA
      replace hA := hA.symm
      subst hA
      refine WL_ac (Ac_convSB rfl ud9 ud23 ud5 (by omega) (by have := wordS_size t; omega)) rfl rfl rfl ?_
      rintro _ _ ⟨b17, cap17, rfl, rfl⟩
      refine WL_fact (fun w h => frA_cap (b := b17) (cap := cap17) (e := 1) (T := 5) (f := eU .u8 (w := 8)) (l := (bsS (wordS t))) (by repeat (first | with_reducible exact Has.here | with_reducible refine Has.there ?_)) h) (fun hcw => ?_)
      have hW : Sv [frA b17 cap17 1 5 (eU .u8 (w := 8)) (bsS (wordS t))] (sl (some b17) (bsS (wordS t)).length cap17) 1 (eU .u8 (w := 8)) (bsS (wordS t)) (some ⟨b17, 0, none⟩) cap17 := Sv_fr (encU .u8 (w := 8)) hcw
      refine WL_ac (Ac_call cf49 rfl (hs := frame_ct (X := frA b17 cap17 1 5 (eU .u8 (w := 8)) (bsS (wordS t))) (l := (bsS (wordS t))) (hS := hW))) rfl rfl rfl ?_
      rintro _ _ ⟨⟨a18, cap18⟩, rfl, hA⟩
      simp only [List.cons_append, List.nil_append] at hA
      replace hA := hA.symm
      subst hA
      refine WL_rd (Rd_assign rfl) rfl rfl rfl ?_
      refine WL_end hK8 ?_
      refine WC_seq fun K9 hK9 => ?_
      refine WC_sr fun K10 hK10 => ?_
      refine WL_rd (Rd_assign rfl) rfl rfl rfl ?_
      refine WL_end hK10 ?_
      refine WC_block ?_
      rw [show frm (bsS (wordS t)) = (frM ((bsS (wordS t)) :: (ps.take 0).map (·.l))) from by rw [frM_cons]; simp [frM]]
      refine WC_loopK (σ := Nat × (Option Nat) × Nat) (fun ⟨i', a, c⟩ => [(6, sl a (frM ((bsS (wordS t)) :: (ps.take i').map (·.l))).length c), (7, .int .i64 ((i' : Nat) : Int))]) (fun ⟨i', a, c⟩ => [arr a c 1 5 (eU .u8) (frM ((bsS (wordS t)) :: (ps.take i').map (·.l)))]) (fun ⟨i', a, c⟩ => i' ≤ ps.length) (fun ⟨i', a, c⟩ => ps.length - i') ⟨0, a18, cap18⟩ [1, 4, 5, 32] (by repeat (first | exact Kep.nil | apply Kep.drop rfl | apply Kep.keep rfl)) (by (try dsimp only); repeat (first | with_reducible exact Gv.nil | (with_reducible apply Gv.cons; · (repeat (first | with_reducible exact Ext.here | with_reducible apply Ext.there))))) ?_ ?_ Sub.refl ?_
      · exact Nat.zero_le _
      · (try dsimp only); exact (Wk.cons (by first | rfl | (simp only [List.length_append, List.length_cons, List.length_nil, List.length_replicate, Nat.zero_add]; rfl) | (simp; done)) (Wk.cons (by first | rfl | (simp only [List.length_append, List.length_cons, List.length_nil, List.length_replicate, Nat.zero_add]; rfl) | (simp; done)) Wk.nil))
      · rintro ⟨i', a, c⟩ hi K11 hK11
        simp only [List.cons_append, List.nil_append]
        refine WC_seq fun K12 hK12 => ?_
        refine WC_sr fun K13 hK13 => ?_
        refine WL_rd (Rd_move rfl) rfl rfl rfl ?_
        refine WL_rd (Rd_move rfl) rfl rfl rfl ?_
        refine WL_rd (Rd_len_sv rfl rfl ud22) rfl rfl rfl ?_
        refine WL_rd (Rd_lssN rfl rfl) rfl rfl rfl ?_
        refine WL_end hK13 ?_
        refine WC_cond rfl (fun hc2 => ?_) (fun hc2 => ?_)
        · try simp only [decide_eq_true_eq, decide_eq_false_iff_not, Bool.not_eq_true', Bool.not_eq_false', Bool.not_eq_true, Bool.not_eq_false, Int.not_lt, Int.not_le, Nat.not_lt, Nat.not_le, Decidable.not_not, ne_eq] at hc2
          obtain ⟨pt, hpt⟩ : ∃ p, ps[i']? = some p := ⟨_, List.getElem?_eq_getElem (by omega)⟩
          have hptS : Sv [X] pt.v 1 (eU .u8 (w := 8)) pt.l pt.ao pt.cap := hP pt (List.mem_of_getElem? hpt)
          have hpl := joinP_len hpt
          have hle := joinP_le ps (i' + 1)
          have hfl1 := frW_len (w := (bsS (wordS t))) (ps := ps) (show i' ≤ ps.length from by omega)
          have hfl2 := frW_len (w := (bsS (wordS t))) (ps := ps) (show i' + 1 ≤ ps.length from by omega)
          have hfp := frm_len pt.l
          have hft := frW_take (w := (bsS (wordS t))) hpt
          have hfe : (frM ((bsS (wordS t)) :: (ps.take i').map (·.l))).length + (frm pt.l).length = (frM ((bsS (wordS t)) :: (ps.take (i' + 1)).map (·.l))).length := by rw [← hft]; exact List.length_append.symm
          refine WC_skip ?_
          refine Ps_next hK12 ?_
          refine WC_seq fun K14 hK14 => ?_
          refine WC_block ?_
          refine WC_region ?_
          refine WL_rd (Rd_move rfl) rfl rfl rfl ?_
          refine WL_rd (Rd_move rfl) rfl rfl rfl ?_
          refine WL_rd (Rd_move rfl) rfl rfl rfl ?_
          refine WL_rd (Rd_index_sv i' rfl rfl ud22 sz23 (hA := hS) (hi := by omega)) rfl rfl rfl ?_
          refine WL_rd (Rd_load_sv (i := i') (j := 0) rfl tk23 (hA := hS) (hl := hpt)) rfl rfl rfl ?_
          refine WL_ac (Ac_call cf49 rfl (hs := frame_ct (X := X) (l := pt.l) (hS := hptS))) rfl rfl rfl ?_
          rintro _ _ ⟨⟨a30, cap30⟩, rfl, hA⟩
          simp only [List.cons_append, List.nil_append] at hA
          replace hA := hA.symm
          subst hA
          refine WL_fact (fun w h => arr_facts (a := a30) (cap := cap30) (e := 1) (T := 5) (f := eU .u8 (w := 8)) (l := (frm pt.l)) (by repeat (first | with_reducible exact Has.here | with_reducible refine Has.there ?_)) h) (fun hSff => ?_)
          have hSf : Sv [arr a30 cap30 1 5 (eU .u8) (frm pt.l)] (sl a30 (frm pt.l).length cap30) 1 (eU .u8 (w := 8)) (frm pt.l) (a30.map fun g => ⟨g, 0, none⟩) cap30 := Sv_own' (encU .u8 (w := 8)) hSff.1 hSff.2
          refine WL_ac (Ac_appendS (f := (eU .u8 (w := 8))) (encU .u8) rfl rfl ud23 ud23 el5 (hS := hSf)) rfl rfl rfl ?_
          rintro _ _ ⟨a31, cap31, rfl, rfl⟩
          rw [hft, hfe]
          refine WL_rd (Rd_assign rfl) rfl rfl rfl ?_
          refine WL_nil ?_
          refine Ps_next hK14 ?_
          refine WC_region ?_
          refine WL_rd (Rd_move rfl) rfl rfl rfl ?_
          refine WL_rd (Rd_addN (j := 1) rfl rfl) rfl rfl rfl ?_
          refine WL_rd (Rd_assign rfl) rfl rfl rfl ?_
          refine WL_nil ?_
          refine Ps_wk (by (try simp only [List.cons_append, List.nil_append]); repeat (first | with_reducible exact Wk.nil | refine Wk.cons (by first | rfl | (simp only [List.length_append, List.length_cons, List.length_nil, List.length_replicate, Nat.zero_add]; rfl) | (simp; done)) ?_)) (by (try simp only [List.cons_append, List.nil_append]); repeat (first | with_reducible exact Sub.refl | with_reducible exact Sub.nil | with_reducible refine Sub.cons (by repeat (first | with_reducible exact Ext.here | with_reducible apply Ext.there)) ?_ | with_reducible refine Sub.tail ?_)) (hK11 ⟨i' + 1, a31, cap31⟩ (by dsimp only; omega) (by dsimp only; omega))
        · try simp only [decide_eq_true_eq, decide_eq_false_iff_not, Bool.not_eq_true', Bool.not_eq_false', Bool.not_eq_true, Bool.not_eq_false, Int.not_lt, Int.not_le, Nat.not_lt, Nat.not_le, Decidable.not_not, ne_eq] at hc2
          obtain rfl : i' = ps.length := by omega
          rw [List.take_length]
          refine WC_exit ?_
          refine Ps_next hK9 ?_
          refine WC_sr fun K15 hK15 => ?_
          refine WL_rd (Rd_move rfl) rfl rfl rfl ?_
          refine WL_rd (Rd_assign rfl) rfl rfl rfl ?_
          refine WL_rd (Rd_assign rfl) rfl rfl rfl ?_
          refine WL_end hK15 ?_
          refine WC_ret ?_
          first | exact hret.goE (none, 0) (Rs2 rfl rfl rfl) (by rw [e50b]; rfl) | exact hret.goE (none, 0) (Rs2 rfl rfl rfl) (by rw [e51b]; rfl) | exact hret.goE (a, c) (Rs2 rfl rfl rfl) (by rw [e0b]; rfl)

theorem digestR_ct {t : B8} {X : Asn} {v : Value} {ps : List Pt} {ao : Option Addr} {cap : Nat} (hS : Sv [X] v 1 fP ps ao cap := by assumption) (hP : ∀ p ∈ ps, RdP [X] p := by assumption) (hn : (joinP ps).length ≤ 400000000000 := by omega) (hk : ps.length ≤ 1000000000 := by omega) (hok : tagE t (ps.map (·.l)) = 0 := by assumption) : Ct Try.prog 84 [.int .u8 ((t.toNat : Nat) : Int), v] [X] (fun _ : Unit => aU .u8 (tagD t (ps.map (·.l)))) (fun _ => [X]) := by
  refine Ct_body (n := 15) Try.func84 rfl rfl rfl fun F w0 Q hret hnorm hp => ?_
  change WC _ _ _ _ _ _ _ (_ :: F)
  have htl := tagB_len t (ps.map (·.l))
  rw [← joinP_flat, List.length_map] at htl
  have hdl := dgM_len (tagB t (ps.map (·.l)))
  have htd := tagD_len t (ps.map (·.l))
  have hz32 : (List.replicate 32 0#8).length = 32 := rfl
  rw [tagD_ok hok] at hret
  refine WC_sr fun K1 hK1 => ?_
  refine WL_ac (Ac_allocW (k := .u8) (w := 8) (m := 32) zr43) rfl rfl rfl ?_
  rintro _ _ ⟨b4, rfl, rfl⟩
  refine WL_end hK1 ?_
  refine WC_sr fun K2 hK2 => ?_
  refine WL_rd (Rd_move rfl) rfl rfl rfl ?_
  refine WL_rd (Rd_move rfl) rfl rfl rfl ?_
  refine WL_ac (Ac_call cf25 rfl (hs := bytesR_ct (X := X) (t := t) (ps := ps) (hS := hS) (hP := hP))) rfl rfl rfl ?_
  rintro _ _ ⟨⟨a10, cap10⟩, rfl, hA⟩
  simp only [List.cons_append, List.nil_append] at hA
  replace hA := hA.symm
  subst hA
  refine WL_rd (Rd_move rfl) rfl rfl rfl ?_
  refine WL_rd (Rd_ext0 rfl) rfl rfl rfl ?_
  refine WL_rd (Rd_ext1 rfl) rfl rfl rfl ?_
  refine WL_rd (Rd_assign rfl) rfl rfl rfl ?_
  refine WL_rd (Rd_assign rfl) rfl rfl rfl ?_
  refine WL_end hK2 ?_
  refine WC_sr fun K3 hK3 => ?_
  refine WL_rd (Rd_move rfl) rfl rfl rfl ?_
  refine WL_fact (fun w h => arr_facts (a := a10) (cap := cap10) (e := 1) (T := 5) (f := eU .u8 (w := 8)) (l := (tagB t (ps.map (·.l)))) (by repeat (first | with_reducible exact Has.here | with_reducible refine Has.there ?_)) h) (fun hSwf => ?_)
  have hSw : Sv [arr a10 cap10 1 5 (eU .u8) (tagB t (ps.map (·.l)))] (sl a10 (tagB t (ps.map (·.l))).length cap10) 1 (eU .u8 (w := 8)) (tagB t (ps.map (·.l))) (a10.map fun g => ⟨g, 0, none⟩) cap10 := Sv_own' (encU .u8 (w := 8)) hSwf.1 hSwf.2
  refine WL_ac (Ac_call cf14 rfl (hs := sumR_ct (X := arr a10 cap10 1 5 (eU .u8) (tagB t (ps.map (·.l)))) (l := (tagB t (ps.map (·.l)))) (hS := hSw))) rfl rfl rfl ?_
  rintro _ _ ⟨⟨⟩, rfl, hA⟩
  simp only [List.cons_append, List.nil_append] at hA
  replace hA := hA.symm
  subst hA
  refine WL_ac0 (Ac_storeW rfl rfl sz43) rfl rfl ?_
  rintro _ _ rfl
  refine WL_end hK3 ?_
  refine WC_ret ?_
  exact hret.go () (Rs1W rfl rfl tk43)

theorem root_ct {d : List B8} (hd : d.length = 32 := by first | with_reducible assumption | omega) : Ct Try.prog 62 [aU .u8 d] [] (fun _ : Unit => aU .u8 (tagD 5#8 [d])) (fun _ => []) := by
  refine Ct_body (n := 6) Try.func62 rfl rfl rfl fun F w0 Q hret hnorm hp => ?_
  change WC _ _ _ _ _ _ _ (F)
  have htd := tagD_len 5#8 [d]
  have hok : tagE 5#8 [d] = 0 := by unfold tagE; rw [if_neg (by decide), if_pos (by rw [fitM_5 rfl]; simp [lens, *])]
  refine WC_sr fun K1 hK1 => ?_
  refine WL_ac (Ac_boxW (k := .u8) rfl) rfl rfl rfl ?_
  rintro _ _ ⟨b1, rfl, rfl⟩
  refine WL_ac (Ac_allocW (k := .u8) (w := 8) (m := 32) zr43) rfl rfl rfl ?_
  rintro _ _ ⟨b2, rfl, rfl⟩
  refine WL_end hK1 ?_
  refine WC_sr fun K2 hK2 => ?_
  refine WL_rd (Rd_valE (v := sl (some b1) d.length d.length) (Rd_sliceA0 rfl ud43 sz5) (by rw [hd])) rfl rfl rfl ?_
  refine WL_ac (Ac_bsL (f := fP) (zs := [.slice none 0 0]) (bs := [.slice none 0 0]) [(⟨d, some ⟨b1, 0, none⟩, d.length⟩ : Pt)] encP ud22 zr23 sz23 rfl (by rw [Array.toList_map, Array.toList_range]; rfl) (by rfl) (by rfl) (by rfl) (by rfl)) rfl rfl rfl ?_
  rintro _ _ ⟨b4, rfl, rfl⟩
  have hp0 : RdP [arr (some b1) d.length 1 43 (eU .u8 (w := 8)) d] (⟨d, some ⟨b1, 0, none⟩, d.length⟩ : Pt) := by have h := Sv_own' (a := some b1) (cap := d.length) (T := 43) (encU .u8 (w := 8)) (l := d) (by simp) (Nat.le_refl _); exact h
  have hL : Sv [arr (some b4) 1 1 23 fP [(⟨d, some ⟨b1, 0, none⟩, d.length⟩ : Pt)]] (sl (some b4) 1 1) 1 fP [(⟨d, some ⟨b1, 0, none⟩, d.length⟩ : Pt)] (some ⟨b4, 0, none⟩) 1 := Sv_own' (a := some b4) (cap := 1) (T := 23) encP (l := [(⟨d, some ⟨b1, 0, none⟩, d.length⟩ : Pt)]) (by simp) (Nat.le_refl 1)
  have hmp : ([(⟨d, some ⟨b1, 0, none⟩, d.length⟩ : Pt)].map (·.l)) = [d] := rfl
  have hjl : (joinP [(⟨d, some ⟨b1, 0, none⟩, d.length⟩ : Pt)]).length = d.length := by simp [joinP]
  refine WL_ac (Ac_call cf37 rfl (hs := Ct.un0 (Xs := [arr (some b4) 1 1 23 fP [(⟨d, some ⟨b1, 0, none⟩, d.length⟩ : Pt)], arr (some b1) d.length 1 43 (eU .u8 (w := 8)) d]) (made_ct (t := 5#8) (X := sep [arr (some b4) 1 1 23 fP [(⟨d, some ⟨b1, 0, none⟩, d.length⟩ : Pt)], arr (some b1) d.length 1 43 (eU .u8 (w := 8)) d]) (ps := [(⟨d, some ⟨b1, 0, none⟩, d.length⟩ : Pt)]) (hS := hL.pk (by repeat (first | with_reducible exact Has.here | with_reducible refine Has.there ?_))) (hP := List.forall_mem_cons.2 ⟨hp0.pk (by repeat (first | with_reducible exact Has.here | with_reducible refine Has.there ?_)), by simp⟩) (hn := by rw [hjl]; omega) (hk := by show 1 ≤ _; omega)))) rfl rfl rfl ?_
  rintro _ _ ⟨⟨⟩, rfl, hA⟩
  simp only [List.cons_append, List.nil_append] at hA
  replace hA := hA.symm
  subst hA
  rw [hmp]
  refine WL_ac0 (Ac_storeW rfl rfl sz43) rfl rfl ?_
  rintro _ _ rfl
  refine WL_end hK2 ?_
  refine WC_ret ?_
  exact hret.go () (Rs1W rfl rfl tk43)

theorem node_ct {x y : List B8} (hx : x.length = 32 := by first | with_reducible assumption | omega) (hy : y.length = 32 := by first | with_reducible assumption | omega) : Ct Try.prog 64 [aU .u8 x, aU .u8 y] [] (fun _ : Unit => aU .u8 (tagD 6#8 [x, y])) (fun _ => []) := by
  refine Ct_body (n := 9) Try.func64 rfl rfl rfl fun F w0 Q hret hnorm hp => ?_
  change WC _ _ _ _ _ _ _ (F)
  have htd := tagD_len 6#8 [x, y]
  have hok : tagE 6#8 [x, y] = 0 := by unfold tagE; rw [if_neg (by decide), if_pos (by rw [fitM_6 rfl]; simp [lens, *])]
  refine WC_sr fun K1 hK1 => ?_
  refine WL_ac (Ac_boxW (k := .u8) rfl) rfl rfl rfl ?_
  rintro _ _ ⟨b2, rfl, rfl⟩
  refine WL_ac (Ac_boxW (k := .u8) rfl) rfl rfl rfl ?_
  rintro _ _ ⟨b3, rfl, rfl⟩
  refine WL_ac (Ac_allocW (k := .u8) (w := 8) (m := 32) zr43) rfl rfl rfl ?_
  rintro _ _ ⟨b4, rfl, rfl⟩
  refine WL_end hK1 ?_
  refine WC_seq fun K2 hK2 => ?_
  refine WC_drawA mix (fun i => ([2, 2, 1, 1, 0] : List Nat).getD i 0) ?_
  refine WJ_takeP 0 rfl (by kernel_rfl) (Rd_valE (v := sl (some b2) x.length x.length) (Rd_sliceA0 rfl ud43 sz5) (by rw [hx])) rfl rfl rfl (hp _ _) ?_
  refine WJ_takeP 1 rfl (by kernel_rfl) (Rd_valE (v := sl (some b3) y.length y.length) (Rd_sliceA0 rfl ud43 sz5) (by rw [hy])) rfl rfl rfl (hp _ _) ?_
  refine WJ_all (rs := [2]) (by kernel_rfl) rfl ?_
  refine WI_one ?_
  refine WI_ac rfl (Ac_bsL (f := fP) (zs := [.slice none 0 0]) (bs := [.slice none 0 0, .slice none 0 0]) [(⟨x, some ⟨b2, 0, none⟩, x.length⟩ : Pt), (⟨y, some ⟨b3, 0, none⟩, y.length⟩ : Pt)] encP ud22 zr23 sz23 rfl (by rw [Array.toList_map, Array.toList_range]; rfl) (by rfl) (by rfl) (by rfl) (by rfl)) rfl rfl rfl rfl ?_
  rintro _ _ ⟨b7, rfl, rfl⟩
  refine ⟨(fun _ => (by repeat (first | with_reducible exact Sub.refl | with_reducible exact Sub.nil | with_reducible refine Sub.cons (by repeat (first | with_reducible exact Ext.here | with_reducible apply Ext.there)) ?_ | with_reducible refine Sub.tail ?_))), ?_⟩
  refine WJ_all (rs := [3]) (by kernel_rfl) rfl ?_
  refine WI_one ?_
  have hp0 : RdP [arr (some b2) x.length 1 43 (eU .u8 (w := 8)) x] (⟨x, some ⟨b2, 0, none⟩, x.length⟩ : Pt) := by have h := Sv_own' (a := some b2) (cap := x.length) (T := 43) (encU .u8 (w := 8)) (l := x) (by simp) (Nat.le_refl _); exact h
  have hp1 : RdP [arr (some b3) y.length 1 43 (eU .u8 (w := 8)) y] (⟨y, some ⟨b3, 0, none⟩, y.length⟩ : Pt) := by have h := Sv_own' (a := some b3) (cap := y.length) (T := 43) (encU .u8 (w := 8)) (l := y) (by simp) (Nat.le_refl _); exact h
  have hL : Sv [arr (some b7) 2 1 23 fP [(⟨x, some ⟨b2, 0, none⟩, x.length⟩ : Pt), (⟨y, some ⟨b3, 0, none⟩, y.length⟩ : Pt)]] (sl (some b7) 2 2) 1 fP [(⟨x, some ⟨b2, 0, none⟩, x.length⟩ : Pt), (⟨y, some ⟨b3, 0, none⟩, y.length⟩ : Pt)] (some ⟨b7, 0, none⟩) 2 := Sv_own' (a := some b7) (cap := 2) (T := 23) encP (l := [(⟨x, some ⟨b2, 0, none⟩, x.length⟩ : Pt), (⟨y, some ⟨b3, 0, none⟩, y.length⟩ : Pt)]) (by simp) (Nat.le_refl 2)
  have hmp : ([(⟨x, some ⟨b2, 0, none⟩, x.length⟩ : Pt), (⟨y, some ⟨b3, 0, none⟩, y.length⟩ : Pt)].map (·.l)) = [x, y] := rfl
  have hjl : (joinP [(⟨x, some ⟨b2, 0, none⟩, x.length⟩ : Pt), (⟨y, some ⟨b3, 0, none⟩, y.length⟩ : Pt)]).length = x.length + y.length := by simp [joinP]
  refine WI_ac rfl (Ac_call cf37 rfl (hs := Ct.un0 (Xs := [arr (some b7) 2 1 23 fP [(⟨x, some ⟨b2, 0, none⟩, x.length⟩ : Pt), (⟨y, some ⟨b3, 0, none⟩, y.length⟩ : Pt)], arr (some b2) x.length 1 43 (eU .u8 (w := 8)) x, arr (some b3) y.length 1 43 (eU .u8 (w := 8)) y]) (made_ct (t := 6#8) (X := sep [arr (some b7) 2 1 23 fP [(⟨x, some ⟨b2, 0, none⟩, x.length⟩ : Pt), (⟨y, some ⟨b3, 0, none⟩, y.length⟩ : Pt)], arr (some b2) x.length 1 43 (eU .u8 (w := 8)) x, arr (some b3) y.length 1 43 (eU .u8 (w := 8)) y]) (ps := [(⟨x, some ⟨b2, 0, none⟩, x.length⟩ : Pt), (⟨y, some ⟨b3, 0, none⟩, y.length⟩ : Pt)]) (hS := hL.pk (by repeat (first | with_reducible exact Has.here | with_reducible refine Has.there ?_))) (hP := List.forall_mem_cons.2 ⟨hp0.pk (by repeat (first | with_reducible exact Has.here | with_reducible refine Has.there ?_)), List.forall_mem_cons.2 ⟨hp1.pk (by repeat (first | with_reducible exact Has.here | with_reducible refine Has.there ?_)), by simp⟩⟩) (hn := by rw [hjl]; omega) (hk := by show 2 ≤ _; omega)))) rfl rfl rfl rfl ?_
  rintro _ _ ⟨⟨⟩, rfl, hA⟩
  simp only [List.cons_append, List.nil_append] at hA
  replace hA := hA.symm
  subst hA
  rw [hmp]
  refine ⟨(fun _ => (by repeat (first | with_reducible exact Sub.refl | with_reducible exact Sub.nil | with_reducible refine Sub.cons (by repeat (first | with_reducible exact Ext.here | with_reducible apply Ext.there)) ?_ | with_reducible refine Sub.tail ?_))), ?_⟩
  refine WJ_all (rs := [4]) (by kernel_rfl) rfl ?_
  refine WI_one ?_
  refine WI_ac0 rfl (Ac_storeW rfl rfl sz43) rfl rfl rfl ?_
  rintro _ _ rfl
  refine ⟨(fun h => by cases h), ?_⟩
  refine WJ_done (by kernel_rfl) ?_
  refine Ps_next hK2 ?_
  refine WC_ret ?_
  exact hret.go () (Rs1W rfl rfl tk43)

theorem rootR_ct {d : List B8} (hd : d.length = 32 := by first | with_reducible assumption | omega) : Ct Try.prog 63 [aU .u8 d] [] (fun _ : Unit => aU .u8 (tagD 5#8 [d])) (fun _ => []) := by
  refine Ct_body (n := 6) Try.func63 rfl rfl rfl fun F w0 Q hret hnorm hp => ?_
  change WC _ _ _ _ _ _ _ (F)
  have htd := tagD_len 5#8 [d]
  have hok : tagE 5#8 [d] = 0 := by unfold tagE; rw [if_neg (by decide), if_pos (by rw [fitM_5 rfl]; simp [lens, *])]
  refine WC_sr fun K1 hK1 => ?_
  refine WL_ac (Ac_boxW (k := .u8) rfl) rfl rfl rfl ?_
  rintro _ _ ⟨b1, rfl, rfl⟩
  refine WL_ac (Ac_allocW (k := .u8) (w := 8) (m := 32) zr43) rfl rfl rfl ?_
  rintro _ _ ⟨b2, rfl, rfl⟩
  refine WL_end hK1 ?_
  refine WC_sr fun K2 hK2 => ?_
  refine WL_rd (Rd_valE (v := sl (some b1) d.length d.length) (Rd_sliceA0 rfl ud43 sz5) (by rw [hd])) rfl rfl rfl ?_
  refine WL_ac (Ac_bsL (f := fP) (zs := [.slice none 0 0]) (bs := [.slice none 0 0]) [(⟨d, some ⟨b1, 0, none⟩, d.length⟩ : Pt)] encP ud22 zr23 sz23 rfl (by rw [Array.toList_map, Array.toList_range]; rfl) (by rfl) (by rfl) (by rfl) (by rfl)) rfl rfl rfl ?_
  rintro _ _ ⟨b4, rfl, rfl⟩
  have hp0 : RdP [arr (some b1) d.length 1 43 (eU .u8 (w := 8)) d] (⟨d, some ⟨b1, 0, none⟩, d.length⟩ : Pt) := by have h := Sv_own' (a := some b1) (cap := d.length) (T := 43) (encU .u8 (w := 8)) (l := d) (by simp) (Nat.le_refl _); exact h
  have hL : Sv [arr (some b4) 1 1 23 fP [(⟨d, some ⟨b1, 0, none⟩, d.length⟩ : Pt)]] (sl (some b4) 1 1) 1 fP [(⟨d, some ⟨b1, 0, none⟩, d.length⟩ : Pt)] (some ⟨b4, 0, none⟩) 1 := Sv_own' (a := some b4) (cap := 1) (T := 23) encP (l := [(⟨d, some ⟨b1, 0, none⟩, d.length⟩ : Pt)]) (by simp) (Nat.le_refl 1)
  have hmp : ([(⟨d, some ⟨b1, 0, none⟩, d.length⟩ : Pt)].map (·.l)) = [d] := rfl
  have hjl : (joinP [(⟨d, some ⟨b1, 0, none⟩, d.length⟩ : Pt)]).length = d.length := by simp [joinP]
  refine WL_ac (Ac_call cf84 rfl (hs := Ct.un0 (Xs := [arr (some b4) 1 1 23 fP [(⟨d, some ⟨b1, 0, none⟩, d.length⟩ : Pt)], arr (some b1) d.length 1 43 (eU .u8 (w := 8)) d]) (digestR_ct (t := 5#8) (X := sep [arr (some b4) 1 1 23 fP [(⟨d, some ⟨b1, 0, none⟩, d.length⟩ : Pt)], arr (some b1) d.length 1 43 (eU .u8 (w := 8)) d]) (ps := [(⟨d, some ⟨b1, 0, none⟩, d.length⟩ : Pt)]) (hS := hL.pk (by repeat (first | with_reducible exact Has.here | with_reducible refine Has.there ?_))) (hP := List.forall_mem_cons.2 ⟨hp0.pk (by repeat (first | with_reducible exact Has.here | with_reducible refine Has.there ?_)), by simp⟩) (hn := by rw [hjl]; omega) (hk := by show 1 ≤ _; omega) (hok := hok)))) rfl rfl rfl ?_
  rintro _ _ ⟨⟨⟩, rfl, hA⟩
  simp only [List.cons_append, List.nil_append] at hA
  replace hA := hA.symm
  subst hA
  rw [hmp]
  refine WL_ac0 (Ac_storeW rfl rfl sz43) rfl rfl ?_
  rintro _ _ rfl
  refine WL_end hK2 ?_
  refine WC_ret ?_
  exact hret.go () (Rs1W rfl rfl tk43)

theorem nodeR_ct {x y : List B8} (hx : x.length = 32 := by first | with_reducible assumption | omega) (hy : y.length = 32 := by first | with_reducible assumption | omega) : Ct Try.prog 65 [aU .u8 x, aU .u8 y] [] (fun _ : Unit => aU .u8 (tagD 6#8 [x, y])) (fun _ => []) := by
  refine Ct_body (n := 9) Try.func65 rfl rfl rfl fun F w0 Q hret hnorm hp => ?_
  change WC _ _ _ _ _ _ _ (F)
  have htd := tagD_len 6#8 [x, y]
  have hok : tagE 6#8 [x, y] = 0 := by unfold tagE; rw [if_neg (by decide), if_pos (by rw [fitM_6 rfl]; simp [lens, *])]
  refine WC_sr fun K1 hK1 => ?_
  refine WL_ac (Ac_boxW (k := .u8) rfl) rfl rfl rfl ?_
  rintro _ _ ⟨b2, rfl, rfl⟩
  refine WL_ac (Ac_boxW (k := .u8) rfl) rfl rfl rfl ?_
  rintro _ _ ⟨b3, rfl, rfl⟩
  refine WL_ac (Ac_allocW (k := .u8) (w := 8) (m := 32) zr43) rfl rfl rfl ?_
  rintro _ _ ⟨b4, rfl, rfl⟩
  refine WL_end hK1 ?_
  refine WC_seq fun K2 hK2 => ?_
  refine WC_drawA mix (fun i => ([2, 2, 1, 1, 0] : List Nat).getD i 0) ?_
  refine WJ_takeP 0 rfl (by kernel_rfl) (Rd_valE (v := sl (some b2) x.length x.length) (Rd_sliceA0 rfl ud43 sz5) (by rw [hx])) rfl rfl rfl (hp _ _) ?_
  refine WJ_takeP 1 rfl (by kernel_rfl) (Rd_valE (v := sl (some b3) y.length y.length) (Rd_sliceA0 rfl ud43 sz5) (by rw [hy])) rfl rfl rfl (hp _ _) ?_
  refine WJ_all (rs := [2]) (by kernel_rfl) rfl ?_
  refine WI_one ?_
  refine WI_ac rfl (Ac_bsL (f := fP) (zs := [.slice none 0 0]) (bs := [.slice none 0 0, .slice none 0 0]) [(⟨x, some ⟨b2, 0, none⟩, x.length⟩ : Pt), (⟨y, some ⟨b3, 0, none⟩, y.length⟩ : Pt)] encP ud22 zr23 sz23 rfl (by rw [Array.toList_map, Array.toList_range]; rfl) (by rfl) (by rfl) (by rfl) (by rfl)) rfl rfl rfl rfl ?_
  rintro _ _ ⟨b7, rfl, rfl⟩
  refine ⟨(fun _ => (by repeat (first | with_reducible exact Sub.refl | with_reducible exact Sub.nil | with_reducible refine Sub.cons (by repeat (first | with_reducible exact Ext.here | with_reducible apply Ext.there)) ?_ | with_reducible refine Sub.tail ?_))), ?_⟩
  refine WJ_all (rs := [3]) (by kernel_rfl) rfl ?_
  refine WI_one ?_
  have hp0 : RdP [arr (some b2) x.length 1 43 (eU .u8 (w := 8)) x] (⟨x, some ⟨b2, 0, none⟩, x.length⟩ : Pt) := by have h := Sv_own' (a := some b2) (cap := x.length) (T := 43) (encU .u8 (w := 8)) (l := x) (by simp) (Nat.le_refl _); exact h
  have hp1 : RdP [arr (some b3) y.length 1 43 (eU .u8 (w := 8)) y] (⟨y, some ⟨b3, 0, none⟩, y.length⟩ : Pt) := by have h := Sv_own' (a := some b3) (cap := y.length) (T := 43) (encU .u8 (w := 8)) (l := y) (by simp) (Nat.le_refl _); exact h
  have hL : Sv [arr (some b7) 2 1 23 fP [(⟨x, some ⟨b2, 0, none⟩, x.length⟩ : Pt), (⟨y, some ⟨b3, 0, none⟩, y.length⟩ : Pt)]] (sl (some b7) 2 2) 1 fP [(⟨x, some ⟨b2, 0, none⟩, x.length⟩ : Pt), (⟨y, some ⟨b3, 0, none⟩, y.length⟩ : Pt)] (some ⟨b7, 0, none⟩) 2 := Sv_own' (a := some b7) (cap := 2) (T := 23) encP (l := [(⟨x, some ⟨b2, 0, none⟩, x.length⟩ : Pt), (⟨y, some ⟨b3, 0, none⟩, y.length⟩ : Pt)]) (by simp) (Nat.le_refl 2)
  have hmp : ([(⟨x, some ⟨b2, 0, none⟩, x.length⟩ : Pt), (⟨y, some ⟨b3, 0, none⟩, y.length⟩ : Pt)].map (·.l)) = [x, y] := rfl
  have hjl : (joinP [(⟨x, some ⟨b2, 0, none⟩, x.length⟩ : Pt), (⟨y, some ⟨b3, 0, none⟩, y.length⟩ : Pt)]).length = x.length + y.length := by simp [joinP]
  refine WI_ac rfl (Ac_call cf84 rfl (hs := Ct.un0 (Xs := [arr (some b7) 2 1 23 fP [(⟨x, some ⟨b2, 0, none⟩, x.length⟩ : Pt), (⟨y, some ⟨b3, 0, none⟩, y.length⟩ : Pt)], arr (some b2) x.length 1 43 (eU .u8 (w := 8)) x, arr (some b3) y.length 1 43 (eU .u8 (w := 8)) y]) (digestR_ct (t := 6#8) (X := sep [arr (some b7) 2 1 23 fP [(⟨x, some ⟨b2, 0, none⟩, x.length⟩ : Pt), (⟨y, some ⟨b3, 0, none⟩, y.length⟩ : Pt)], arr (some b2) x.length 1 43 (eU .u8 (w := 8)) x, arr (some b3) y.length 1 43 (eU .u8 (w := 8)) y]) (ps := [(⟨x, some ⟨b2, 0, none⟩, x.length⟩ : Pt), (⟨y, some ⟨b3, 0, none⟩, y.length⟩ : Pt)]) (hS := hL.pk (by repeat (first | with_reducible exact Has.here | with_reducible refine Has.there ?_))) (hP := List.forall_mem_cons.2 ⟨hp0.pk (by repeat (first | with_reducible exact Has.here | with_reducible refine Has.there ?_)), List.forall_mem_cons.2 ⟨hp1.pk (by repeat (first | with_reducible exact Has.here | with_reducible refine Has.there ?_)), by simp⟩⟩) (hn := by rw [hjl]; omega) (hk := by show 2 ≤ _; omega) (hok := hok)))) rfl rfl rfl rfl ?_
  rintro _ _ ⟨⟨⟩, rfl, hA⟩
  simp only [List.cons_append, List.nil_append] at hA
  replace hA := hA.symm
  subst hA
  rw [hmp]
  refine ⟨(fun _ => (by repeat (first | with_reducible exact Sub.refl | with_reducible exact Sub.nil | with_reducible refine Sub.cons (by repeat (first | with_reducible exact Ext.here | with_reducible apply Ext.there)) ?_ | with_reducible refine Sub.tail ?_))), ?_⟩
  refine WJ_all (rs := [4]) (by kernel_rfl) rfl ?_
  refine WI_one ?_
  refine WI_ac0 rfl (Ac_storeW rfl rfl sz43) rfl rfl rfl ?_
  rintro _ _ rfl
  refine ⟨(fun h => by cases h), ?_⟩
  refine WJ_done (by kernel_rfl) ?_
  refine Ps_next hK2 ?_
  refine WC_ret ?_
  exact hret.go () (Rs1W rfl rfl tk43)
end Go.Proofs.Ytlcafifjhilleaa
