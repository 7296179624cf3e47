/-
  Contracts of functions that the claim reaches, or the logic and the plain laws that they rest on, or the row over them. (Conditions: none beyond the statement.)
-/
import Derived.Test.YtlcafifjhilleaaPqRdC
import Derived.Test.YtlcafifjhilleaaPqApB
import Derived.Test.YtlcafifjhilleaaApL
set_option linter.all false
namespace Go.Proofs.Ytlcafifjhilleaa
open Go.RowKit Go.SL Go.ShM
set_option maxHeartbeats 1000000
set_option maxRecDepth 20000
set_option linter.all false
theorem cf11 : cfn Try.prog 11 = true := by kernel_rfl
theorem el22 : el Try.prog 22 = some (1, 24) := by kernel_rfl
theorem apartLL_ct {X : Asn} {v : Value} {rs : List RL} {ao : Option Addr} {cap : Nat} (hS : Sv [X] v 1 eRL rs ao cap := by assumption) (hR : ∀ r ∈ rs, (r.a = none → r.ps = []) ∧ r.ps.length ≤ r.cap := by assumption) (hB : ∀ r ∈ rs, BOk r.ps := by assumption) (hn : (allP rs).length ≤ 100000000 := by omega) (hrl : rs.length ≤ 100000000 := by omega) : Ct Try.prog 12 [v] [X, star (FPB 5) (allP rs), star (FRL 23) rs] (fun _ : Unit => .bool true) (fun _ => [X]) := by
  refine Ct_body (n := 167) Try.func12 rfl rfl rfl fun F w0 Q hret hnorm hp => ?_
  change WC _ _ _ _ _ _ _ (_ :: _ :: _ :: F)
  refine WC_sr fun K1 hK1 => ?_
  refine WL_rd (Rd_assign rfl) rfl rfl rfl ?_
  refine WL_end hK1 ?_
  refine WC_sr fun K2 hK2 => ?_
  refine WL_rd (Rd_assign (v := sl none 0 0) rfl) rfl rfl rfl ?_
  refine WL_nilarr ePB 1 23 ?_
  refine WL_end hK2 ?_
  refine WC_seq fun K3 hK3 => ?_
  refine WC_sr fun K4 hK4 => ?_
  refine WL_rd (Rd_assign rfl) rfl rfl rfl ?_
  refine WL_end hK4 ?_
  refine WC_block ?_
  rw [show arr none 0 1 23 ePB ([] : List PB) = arr none 0 1 23 ePB (allP (rs.take 0)) from rfl]
  refine WC_loopK (σ := Nat × (Option Nat) × Nat) (fun ⟨k, aa, ac⟩ => [(3, sl aa (allP (rs.take k)).length ac), (4, .int .i64 ((k : Nat) : Int))]) (fun ⟨k, aa, ac⟩ => [arr aa ac 1 23 ePB (allP (rs.take k))]) (fun ⟨k, aa, ac⟩ => k ≤ rs.length) (fun ⟨k, aa, ac⟩ => rs.length - k) ⟨0, none, 0⟩ [0, 2, 6, 7, 8, 9, 10, 11, 12, 13, 14, 40, 41, 42, 43, 44, 45, 46, 47, 48, 49, 50, 51, 52, 53, 54, 55, 56, 57, 58, 59, 60, 61, 62, 63, 64, 65, 66, 67, 68, 69, 70, 71, 72, 73, 74, 75, 76, 77, 78, 79, 80, 81, 82, 83, 84, 85, 86, 87, 88, 89, 90, 91, 92, 93, 94, 95, 96, 97, 98, 99, 100, 101, 102, 103, 104, 105, 106, 107, 108, 109, 110, 111, 112, 113, 114, 115, 116, 117, 118, 119, 120, 121, 122, 123, 124, 125, 126, 127, 128, 129, 130, 131, 132, 133, 134, 135, 136, 137, 138, 139, 140, 141, 142, 143, 144, 145, 146, 147, 148, 149, 150, 151, 152, 153, 154, 155, 156, 157, 158, 159, 160, 161, 162, 163, 164, 165, 166] (by repeat (first | exact Kep.nil | apply Kep.drop rfl | apply Kep.keep rfl)) (by (try dsimp only); repeat (first | with_reducible exact Gv.nil | (with_reducible apply Gv.cons; · (repeat (first | with_reducible exact Ext.here | with_reducible apply Ext.there))))) ?_ ?_ Sub.refl ?_
  · exact Nat.zero_le _
  · (try dsimp only); exact (Wk.cons (by first | rfl | (simp only [List.length_append, List.length_cons, List.length_nil, List.length_replicate, Nat.zero_add]; rfl) | (simp; done)) (Wk.cons (by first | rfl | (simp only [List.length_append, List.length_cons, List.length_nil, List.length_replicate, Nat.zero_add]; rfl) | (simp; done)) Wk.nil))
  · rintro ⟨k, aa, ac⟩ hk K5 hK5
    simp only [List.cons_append, List.nil_append]
    refine WC_seq fun K6 hK6 => ?_
    refine WC_sr fun K7 hK7 => ?_
    refine WL_rd (Rd_move rfl) rfl rfl rfl ?_
    refine WL_rd (Rd_move rfl) rfl rfl rfl ?_
    refine WL_rd (Rd_len_sv rfl rfl ud35) rfl rfl rfl ?_
    refine WL_rd (Rd_lssN rfl rfl) rfl rfl rfl ?_
    refine WL_end hK7 ?_
    refine WC_cond rfl (fun hc0 => ?_) (fun hc0 => ?_)
    · try simp only [decide_eq_true_eq, decide_eq_false_iff_not, Bool.not_eq_true', Bool.not_eq_false', Bool.not_eq_true, Bool.not_eq_false, Int.not_lt, Int.not_le, Nat.not_lt, Nat.not_le, Decidable.not_not, ne_eq] at hc0
      obtain ⟨⟨ra, rc, rps⟩, hrk⟩ : ∃ r, rs[k]? = some r := ⟨_, List.getElem?_eq_getElem (by omega)⟩
      obtain ⟨hra, hrc⟩ := hR _ (List.mem_of_getElem? hrk)
      have hal := allP_le hrk
      dsimp only at hra hrc hal
      have hrS := Sv.star (F := (FRL 23)) k hrk (Sv_RL (T := 23) (r := ⟨ra, rc, rps⟩) hra hrc)
      dsimp only at hrS
      refine WC_skip ?_
      refine Ps_next hK6 ?_
      refine WC_seq fun K8 hK8 => ?_
      refine WC_block ?_
      refine WC_sr fun K9 hK9 => ?_
      refine WL_rd (Rd_assign rfl) rfl rfl rfl ?_
      refine WL_end hK9 ?_
      refine WC_block ?_
      rw [show arr aa ac 1 23 ePB (allP (rs.take k)) = arr aa ac 1 23 ePB (allP (rs.take k) ++ rps.take 0) from by rw [List.take_zero, List.append_nil]]
      refine WC_loopK (σ := Nat × (Option Nat) × Nat) (fun ⟨i', aa, ac⟩ => [(3, sl aa ((allP (rs.take k)).length + i') ac), (5, .int .i64 ((i' : Nat) : Int))]) (fun ⟨i', aa, ac⟩ => [arr aa ac 1 23 ePB (allP (rs.take k) ++ rps.take i')]) (fun ⟨i', aa, ac⟩ => i' ≤ rps.length) (fun ⟨i', aa, ac⟩ => rps.length - i') ⟨0, aa, ac⟩ [0, 2, 4, 6, 7, 8, 9, 10, 11, 12, 13, 14, 15, 16, 17, 18, 19, 20, 40, 41, 42, 43, 44, 45, 46, 47, 48, 49, 50, 51, 52, 53, 54, 55, 56, 57, 58, 59, 60, 61, 62, 63, 64, 65, 66, 67, 68, 69, 70, 71, 72, 73, 74, 75, 76, 77, 78, 79, 80, 81, 82, 83, 84, 85, 86, 87, 88, 89, 90, 91, 92, 93, 94, 95, 96, 97, 98, 99, 100, 101, 102, 103, 104, 105, 106, 107, 108, 109, 110, 111, 112, 113, 114, 115, 116, 117, 118, 119, 120, 121, 122, 123, 124, 125, 126, 127, 128, 129, 130, 131, 132, 133, 134, 135, 136, 137, 138, 139, 140, 141, 142, 143, 144, 145, 146, 147, 148, 149, 150, 151, 152, 153, 154, 155, 156, 157, 158, 159, 160, 161, 162, 163, 164, 165, 166] (by repeat (first | exact Kep.nil | apply Kep.drop rfl | apply Kep.keep rfl)) (by (try dsimp only); repeat (first | with_reducible exact Gv.nil | (with_reducible apply Gv.cons; · (repeat (first | with_reducible exact Ext.here | with_reducible apply Ext.there))))) ?_ ?_ Sub.refl ?_
      · exact Nat.zero_le _
      · (try dsimp only); exact (Wk.cons (by first | rfl | (simp only [List.length_append, List.length_cons, List.length_nil, List.length_replicate, Nat.zero_add]; rfl) | (simp; done)) (Wk.cons (by first | rfl | (simp only [List.length_append, List.length_cons, List.length_nil, List.length_replicate, Nat.zero_add]; rfl) | (simp; done)) Wk.nil))
      · rintro ⟨i', aa, ac⟩ hi K10 hK10
        simp only [List.cons_append, List.nil_append]
        have hpl0 : (allP (rs.take k) ++ rps.take i').length = (allP (rs.take k)).length + i' := by rw [List.length_append, List.length_take, Nat.min_eq_left hi]
        refine WC_seq fun K11 hK11 => ?_
        refine WC_sr fun K12 hK12 => ?_
        refine WL_rd (Rd_move rfl) rfl rfl rfl ?_
        refine WL_rd (Rd_move rfl) rfl rfl rfl ?_
        refine WL_rd (Rd_move rfl) rfl rfl rfl ?_
        refine WL_rd (Rd_index_sv k rfl rfl ud35 sz22 (hA := hS) (hi := by omega)) rfl rfl rfl ?_
        refine WL_rd (Rd_load_sv (i := k) (j := 0) (u := sl ra rps.length rc) rfl tk22 (hA := hS) (hl := hrk)) rfl rfl rfl ?_
        refine WL_rd (Rd_len rfl rfl ud22) rfl rfl rfl ?_
        refine WL_rd (Rd_lssN rfl rfl) rfl rfl rfl ?_
        refine WL_end hK12 ?_
        refine WC_cond rfl (fun hc1 => ?_) (fun hc1 => ?_)
        · try simp only [decide_eq_true_eq, decide_eq_false_iff_not, Bool.not_eq_true', Bool.not_eq_false', Bool.not_eq_true, Bool.not_eq_false, Int.not_lt, Int.not_le, Nat.not_lt, Nat.not_le, Decidable.not_not, ne_eq] at hc1
          obtain ⟨p, hpk⟩ : ∃ p, rps[i']? = some p := ⟨_, List.getElem?_eq_getElem (by omega)⟩
          have htk : rps.take (i' + 1) = rps.take i' ++ [p] := by rw [List.take_succ_eq_append_getElem (by omega), (List.getElem?_eq_some_iff.1 hpk).2]
          refine WC_skip ?_
          refine Ps_next hK11 ?_
          refine WC_seq fun K13 hK13 => ?_
          refine WC_block ?_
          refine WC_region ?_
          refine WL_rd (Rd_move rfl) rfl rfl rfl ?_
          refine WL_rd (Rd_move rfl) rfl rfl rfl ?_
          refine WL_rd (Rd_move rfl) rfl rfl rfl ?_
          refine WL_rd (Rd_index_sv k rfl rfl ud35 sz22 (hA := hS) (hi := by omega)) rfl rfl rfl ?_
          refine WL_rd (Rd_load_sv (i := k) (j := 0) (u := sl ra rps.length rc) rfl tk22 (hA := hS) (hl := hrk)) rfl rfl rfl ?_
          refine WL_rd (Rd_move rfl) rfl rfl rfl ?_
          refine WL_rd (Rd_index_sv i' rfl rfl ud22 sz23 (hA := hrS) (hi := by omega)) rfl rfl rfl ?_
          refine WL_rd (Rd_load_sv (i := i') (j := 0) (u := sl p.a p.l.length p.cap) rfl tk23 (hA := hrS) (hl := hpk)) rfl rfl rfl ?_
          refine WL_ac (Ac_bs1 (xs := [sl p.a p.l.length p.cap]) rfl ud22 zr23 sz23) rfl rfl rfl ?_
          rintro _ _ ⟨b38, rfl, rfl⟩
          refine WL_ac (Ac_append1 (f := ePB) encPB p rfl rfl ud22 ud22 el23 (hlen := hpl0.symm)) rfl rfl rfl ?_
          rintro _ _ ⟨a39, cap39, rfl, rfl⟩
          rw [List.append_assoc, ← htk, hpl0, Nat.add_assoc]
          refine WL_rd (Rd_assign rfl) rfl rfl rfl ?_
          refine WL_nil ?_
          refine Ps_next hK13 ?_
          refine WC_region ?_
          refine WL_rd (Rd_move rfl) rfl rfl rfl ?_
          refine WL_rd (Rd_addN (j := 1) rfl rfl) rfl rfl rfl ?_
          refine WL_rd (Rd_assign rfl) rfl rfl rfl ?_
          refine WL_nil ?_
          refine Ps_wk (by (try simp only [List.cons_append, List.nil_append]); repeat (first | with_reducible exact Wk.nil | refine Wk.cons (by first | rfl | (simp only [List.length_append, List.length_cons, List.length_nil, List.length_replicate, Nat.zero_add]; rfl) | (simp; done)) ?_)) (by (try simp only [List.cons_append, List.nil_append]); repeat (first | with_reducible exact Sub.refl | with_reducible exact Sub.nil | with_reducible refine Sub.cons (by repeat (first | with_reducible exact Ext.here | with_reducible apply Ext.there)) ?_ | with_reducible refine Sub.tail ?_)) (hK10 ⟨i' + 1, a39, cap39⟩ (by (try dsimp only); omega) (by (try dsimp only); omega))
        · try simp only [decide_eq_true_eq, decide_eq_false_iff_not, Bool.not_eq_true', Bool.not_eq_false', Bool.not_eq_true, Bool.not_eq_false, Int.not_lt, Int.not_le, Nat.not_lt, Nat.not_le, Decidable.not_not, ne_eq] at hc1
          have hi0 : i' = rps.length := by omega
          subst hi0
          rw [List.take_length, ← allP_take (r := ⟨ra, rc, rps⟩) hrk, show (allP (rs.take k)).length + rps.length = (allP (rs.take (k + 1))).length from by rw [allP_take hrk, List.length_append]]
          refine WC_exit ?_
          refine Ps_next hK8 ?_
          refine WC_region ?_
          refine WL_rd (Rd_move rfl) rfl rfl rfl ?_
          refine WL_rd (Rd_addN (j := 1) rfl rfl) rfl rfl rfl ?_
          refine WL_rd (Rd_assign rfl) rfl rfl rfl ?_
          refine WL_nil ?_
          refine Ps_wk (by (try simp only [List.cons_append, List.nil_append]); repeat (first | with_reducible exact Wk.nil | refine Wk.cons (by first | rfl | (simp only [List.length_append, List.length_cons, List.length_nil, List.length_replicate, Nat.zero_add]; rfl) | (simp; done)) ?_)) (by (try simp only [List.cons_append, List.nil_append]); repeat (first | with_reducible exact Sub.refl | with_reducible exact Sub.nil | with_reducible refine Sub.cons (by repeat (first | with_reducible exact Ext.here | with_reducible apply Ext.there)) ?_ | with_reducible refine Sub.tail ?_)) (hK5 ⟨k + 1, aa, ac⟩ (by (try dsimp only); omega) (by (try dsimp only); omega))
    · try simp only [decide_eq_true_eq, decide_eq_false_iff_not, Bool.not_eq_true', Bool.not_eq_false', Bool.not_eq_true, Bool.not_eq_false, Int.not_lt, Int.not_le, Nat.not_lt, Nat.not_le, Decidable.not_not, ne_eq] at hc0
      obtain rfl : k = rs.length := by omega
      rw [List.take_length]
      refine WC_exit ?_
      refine Ps_next hK3 ?_
      refine WC_seq fun K14 hK14 => ?_
      refine WC_sr fun K15 hK15 => ?_
      refine WL_rd (Rd_move rfl) rfl rfl rfl ?_
      refine WL_fact (fun w h => arr_facts (a := aa) (cap := ac) (e := 1) (T := 23) (f := ePB) (l := allP rs) (by repeat (first | with_reducible exact Has.here | with_reducible refine Has.there ?_)) h) (fun haf => ?_)
      have hSa : Sv [arr aa ac 1 23 ePB (allP rs)] (sl aa (allP rs).length ac) 1 ePB (allP rs) (aa.map fun g => ⟨g, 0, none⟩) ac := Sv_own' encPB haf.1 haf.2
      refine WL_ac (Ac_call cf11 rfl (hs := apartB_ct (X := arr aa ac 1 23 ePB (allP rs)) (ps := allP rs) (hS := hSa) (hb := BOk_b (allP_bok hB)))) rfl rfl rfl ?_
      rintro _ _ ⟨⟨⟩, rfl, hA⟩
      simp only [List.cons_append, List.nil_append] at hA
      replace hA := hA.symm
      subst hA
      refine WL_rd (Rd_not rfl) rfl rfl rfl ?_
      refine WL_end hK15 ?_
      refine WC_condF rfl ?_
      refine WC_skip ?_
      refine Ps_next hK14 ?_
      refine WC_seq fun K16 hK16 => ?_
      refine WC_sr fun K17 hK17 => ?_
      refine WL_rd (Rd_assign rfl) rfl rfl rfl ?_
      refine WL_end hK17 ?_
      refine WC_block ?_
      refine WC_star0 (FPB 5) ?_
      refine WC_loopK (σ := Nat × (List RL) × (List PB)) (fun ⟨k, rs', ms⟩ => [(6, .int .i64 ((k : Nat) : Int))]) (fun ⟨k, rs', ms⟩ => [star (FRL 23) rs', star (FPB 5) ms]) (fun ⟨k, rs', ms⟩ => k ≤ rs.length ∧ ROk rs ms k rs' ∧ MOk ms) (fun ⟨k, rs', ms⟩ => rs.length - k) ⟨0, rs, []⟩ [0, 2, 8, 9, 10, 11, 12, 13, 14, 72, 73, 74, 75, 76, 77, 78, 79, 80, 81, 82, 83, 84, 85, 86, 87, 88, 89, 90, 91, 92, 93, 94, 95, 96, 97, 98, 99, 100, 101, 102, 103, 104, 105, 106, 107, 108, 109, 110, 111, 112, 113, 114, 115, 116, 117, 118, 119, 120, 121, 122, 123, 124, 125, 126, 127, 128, 129, 130, 131, 132, 133, 134, 135, 136, 137, 138, 139, 140, 141, 142, 143, 144, 145, 146, 147, 148, 149, 150, 151, 152, 153, 154, 155, 156, 157, 158, 159, 160, 161, 162, 163, 164, 165, 166] (by repeat (first | exact Kep.nil | apply Kep.drop rfl | apply Kep.keep rfl)) (by (try dsimp only); repeat (first | with_reducible exact Gv.nil | (with_reducible apply Gv.cons; · (repeat (first | with_reducible exact Ext.here | with_reducible apply Ext.there))))) ?_ ?_ Sub.refl ?_
      · exact ⟨Nat.zero_le _, ROk_0, MOk_nil⟩
      · (try dsimp only); exact (Wk.cons (by first | rfl | (simp only [List.length_append, List.length_cons, List.length_nil, List.length_replicate, Nat.zero_add]; rfl) | (simp; done)) Wk.nil)
      · rintro ⟨k, rs', ms⟩ ⟨hk, hro, hmo⟩ K18 hK18
        simp only [List.cons_append, List.nil_append]
        refine WC_seq fun K19 hK19 => ?_
        refine WC_sr fun K20 hK20 => ?_
        refine WL_rd (Rd_move rfl) rfl rfl rfl ?_
        refine WL_rd (Rd_move rfl) rfl rfl rfl ?_
        refine WL_rd (Rd_len_sv rfl rfl ud35) rfl rfl rfl ?_
        refine WL_rd (Rd_lssN rfl rfl) rfl rfl rfl ?_
        refine WL_end hK20 ?_
        refine WC_cond rfl (fun hc3 => ?_) (fun hc3 => ?_)
        · try simp only [decide_eq_true_eq, decide_eq_false_iff_not, Bool.not_eq_true', Bool.not_eq_false', Bool.not_eq_true, Bool.not_eq_false, Int.not_lt, Int.not_le, Nat.not_lt, Nat.not_le, Decidable.not_not, ne_eq] at hc3
          obtain ⟨⟨ra, rc, rps⟩, hrk⟩ : ∃ r, rs[k]? = some r := ⟨_, List.getElem?_eq_getElem (by omega)⟩
          obtain ⟨hra, hrc⟩ := hR _ (List.mem_of_getElem? hrk)
          have hal := allP_le hrk
          dsimp only at hra hrc hal
          obtain ⟨qs0, hqk, hq0, _⟩ := ROk_get hro hrk
          refine WC_open (FRL 23) rs' k (x := ⟨ra, rc, qs0⟩) hqk ?_
          rw [show (FRL 23) ⟨ra, rc, qs0⟩ = arr ra rc 1 23 ePB qs0 from rfl]
          refine WC_skip ?_
          refine Ps_next hK19 ?_
          refine WC_seq fun K21 hK21 => ?_
          refine WC_block ?_
          refine WC_sr fun K22 hK22 => ?_
          refine WL_rd (Rd_assign rfl) rfl rfl rfl ?_
          refine WL_end hK22 ?_
          refine WC_block ?_
          refine WC_loopK (σ := Nat × (List PB) × (List PB)) (fun ⟨i', qs, ms⟩ => [(7, .int .i64 ((i' : Nat) : Int))]) (fun ⟨i', qs, ms⟩ => [arr ra rc 1 23 ePB qs, star (FPB 5) ms]) (fun ⟨i', qs, ms⟩ => i' ≤ rps.length ∧ qs.length = rps.length ∧ MkU ms k i' qs ∧ ROk rs ms k rs' ∧ MOk ms) (fun ⟨i', qs, ms⟩ => rps.length - i') ⟨0, qs0, ms⟩ [0, 2, 6, 8, 9, 10, 11, 12, 13, 14, 43, 44, 45, 46, 47, 48, 72, 73, 74, 75, 76, 77, 78, 79, 80, 81, 82, 83, 84, 85, 86, 87, 88, 89, 90, 91, 92, 93, 94, 95, 96, 97, 98, 99, 100, 101, 102, 103, 104, 105, 106, 107, 108, 109, 110, 111, 112, 113, 114, 115, 116, 117, 118, 119, 120, 121, 122, 123, 124, 125, 126, 127, 128, 129, 130, 131, 132, 133, 134, 135, 136, 137, 138, 139, 140, 141, 142, 143, 144, 145, 146, 147, 148, 149, 150, 151, 152, 153, 154, 155, 156, 157, 158, 159, 160, 161, 162, 163, 164, 165, 166] (by repeat (first | exact Kep.nil | apply Kep.drop rfl | apply Kep.keep rfl)) (by (try dsimp only); repeat (first | with_reducible exact Gv.nil | (with_reducible apply Gv.cons; · (repeat (first | with_reducible exact Ext.here | with_reducible apply Ext.there))))) ?_ ?_ Sub.refl ?_
          · exact ⟨Nat.zero_le _, hq0, MkU_0, hro, hmo⟩
          · (try dsimp only); exact (Wk.cons (by first | rfl | (simp only [List.length_append, List.length_cons, List.length_nil, List.length_replicate, Nat.zero_add]; rfl) | (simp; done)) Wk.nil)
          · rintro ⟨i', qs, ms⟩ ⟨hi, hql, hmu, hro, hmo⟩ K23 hK23
            simp only [List.cons_append, List.nil_append]
            refine WC_seq fun K24 hK24 => ?_
            refine WC_sr fun K25 hK25 => ?_
            refine WL_rd (Rd_move rfl) rfl rfl rfl ?_
            refine WL_rd (Rd_move rfl) rfl rfl rfl ?_
            refine WL_rd (Rd_move rfl) rfl rfl rfl ?_
            refine WL_rd (Rd_index_sv k rfl rfl ud35 sz22 (hA := hS) (hi := by omega)) rfl rfl rfl ?_
            refine WL_rd (Rd_load_sv (i := k) (j := 0) (u := sl ra rps.length rc) rfl tk22 (hA := hS) (hl := hrk)) rfl rfl rfl ?_
            refine WL_rd (Rd_len rfl rfl ud22) rfl rfl rfl ?_
            refine WL_rd (Rd_lssN rfl rfl) rfl rfl rfl ?_
            refine WL_end hK25 ?_
            refine WC_cond rfl (fun hc4 => ?_) (fun hc4 => ?_)
            · try simp only [decide_eq_true_eq, decide_eq_false_iff_not, Bool.not_eq_true', Bool.not_eq_false', Bool.not_eq_true, Bool.not_eq_false, Int.not_lt, Int.not_le, Nat.not_lt, Nat.not_le, Decidable.not_not, ne_eq] at hc4
              refine WC_some (a := ra) (by repeat (first | with_reducible exact Has.here | with_reducible refine Has.there ?_)) (by omega) (fun gb hgb hcp => ?_)
              subst hgb
              refine WC_skip ?_
              refine Ps_next hK24 ?_
              refine WC_seq fun K26 hK26 => ?_
              refine WC_block ?_
              refine WC_region ?_
              refine WL_rd (Rd_move rfl) rfl rfl rfl ?_
              refine WL_rd (Rd_move rfl) rfl rfl rfl ?_
              refine WL_rd (Rd_index_sv k rfl rfl ud35 sz22 (hA := hS) (hi := by omega)) rfl rfl rfl ?_
              refine WL_rd (Rd_load_sv (i := k) (j := 0) (u := sl (some gb) rps.length rc) rfl tk22 (hA := hS) (hl := hrk)) rfl rfl rfl ?_
              refine WL_rd (Rd_move rfl) rfl rfl rfl ?_
              refine WL_rd (Rd_move rfl) rfl rfl rfl ?_
              refine WL_rd (Rd_convNU rfl ikd3_5 (h' := uk8)) rfl rfl rfl ?_
              refine WL_rd (Rd_move rfl) rfl rfl rfl ?_
              refine WL_rd (Rd_convNU rfl ikd3_5 (h' := uk8)) rfl rfl rfl ?_
              refine WL_rd (Rd_move rfl) rfl rfl rfl ?_
              refine WL_rd (Rd_quoN (j := 256) rfl rfl) rfl rfl rfl ?_
              refine WL_rd (Rd_convNU rfl ikd3_5 (h' := uk8)) rfl rfl rfl ?_
              refine WL_ac (Ac_bsL (f := (eU .u8 (w := 8))) (zs := [.int .u8 0]) (bs := [.int .u8 0, .int .u8 0, .int .u8 0]) (mk3 k i') (encU .u8) ud23 zr5 sz5 rfl (by rw [Array.toList_map, Array.toList_range]; rfl) (by rfl) (by rfl) (by rfl) (by rfl)) rfl rfl rfl ?_
              rintro _ _ ⟨b70, rfl, rfl⟩
              rw [show arr (some b70) 3 1 5 (eU .u8 (w := 8)) (mk3 k i') = (FPB 5) (mP b70 k i') from rfl]
              refine WL_snoc (FPB 5) ms (mP b70 k i') ?_
              refine WL_rd (Rd_index i' rfl rfl ud22 sz23 (hi := by omega)) rfl rfl rfl ?_
              refine WL_ac0 (Ac_store_arr (f := ePB) (mP b70 k i') rfl rfl sz23 (j := 0) (i := i') (hl := List.getElem?_eq_getElem (by omega))) rfl rfl ?_
              rintro _ _ rfl
              refine WL_nil ?_
              refine Ps_next hK26 ?_
              refine WC_region ?_
              refine WL_rd (Rd_move rfl) rfl rfl rfl ?_
              refine WL_rd (Rd_addN (j := 1) rfl rfl) rfl rfl rfl ?_
              refine WL_rd (Rd_assign rfl) rfl rfl rfl ?_
              refine WL_nil ?_
              refine Ps_wk (by (try simp only [List.cons_append, List.nil_append]); repeat (first | with_reducible exact Wk.nil | refine Wk.cons (by first | rfl | (simp only [List.length_append, List.length_cons, List.length_nil, List.length_replicate, Nat.zero_add]; rfl) | (simp; done)) ?_)) (by (try simp only [List.cons_append, List.nil_append]); repeat (first | with_reducible exact Sub.refl | with_reducible exact Sub.nil | with_reducible refine Sub.cons (by repeat (first | with_reducible exact Ext.here | with_reducible apply Ext.there)) ?_ | with_reducible refine Sub.tail ?_)) (hK23 ⟨i' + 1, qs.set i' (mP b70 k i'), ms ++ [(mP b70 k i')]⟩ (⟨by (try dsimp only); omega, by (try dsimp only); rw [List.length_set]; exact hql, MkU_set hmu (by omega), ROk_mono _ hro, MOk_snoc hmo _ _ _⟩) (by (try dsimp only); omega))
            · try simp only [decide_eq_true_eq, decide_eq_false_iff_not, Bool.not_eq_true', Bool.not_eq_false', Bool.not_eq_true, Bool.not_eq_false, Int.not_lt, Int.not_le, Nat.not_lt, Nat.not_le, Decidable.not_not, ne_eq] at hc4
              have hi0 : i' = qs.length := by omega
              rw [show arr ra rc 1 23 ePB qs = (FRL 23) ⟨ra, rc, qs⟩ from rfl]
              refine WC_shut (FRL 23) rs' k ⟨ra, rc, qs⟩ (by rw [hro.1]; omega) ?_
              refine WC_exit ?_
              refine Ps_next hK21 ?_
              refine WC_region ?_
              refine WL_rd (Rd_move rfl) rfl rfl rfl ?_
              refine WL_rd (Rd_addN (j := 1) rfl rfl) rfl rfl rfl ?_
              refine WL_rd (Rd_assign rfl) rfl rfl rfl ?_
              refine WL_nil ?_
              refine Ps_wk (by (try simp only [List.cons_append, List.nil_append]); repeat (first | with_reducible exact Wk.nil | refine Wk.cons (by first | rfl | (simp only [List.length_append, List.length_cons, List.length_nil, List.length_replicate, Nat.zero_add]; rfl) | (simp; done)) ?_)) (by (try simp only [List.cons_append, List.nil_append]); repeat (first | with_reducible exact Sub.refl | with_reducible exact Sub.nil | with_reducible refine Sub.cons (by repeat (first | with_reducible exact Ext.here | with_reducible apply Ext.there)) ?_ | with_reducible refine Sub.tail ?_)) (hK18 ⟨k + 1, rs'.set k ⟨ra, rc, qs⟩, ms⟩ (⟨by (try dsimp only); omega, ROk_set hro hrk hql (by rw [← hi0]; exact hmu), hmo⟩) (by (try dsimp only); omega))
        · try simp only [decide_eq_true_eq, decide_eq_false_iff_not, Bool.not_eq_true', Bool.not_eq_false', Bool.not_eq_true, Bool.not_eq_false, Int.not_lt, Int.not_le, Nat.not_lt, Nat.not_le, Decidable.not_not, ne_eq] at hc3
          obtain rfl : k = rs.length := by omega
          refine WC_exit ?_
          refine Ps_next hK16 ?_
          refine WC_sr fun K27 hK27 => ?_
          refine WL_rd (Rd_assign (v := sl none 0 0) rfl) rfl rfl rfl ?_
          refine WL_nilarr eGQ 1 22 ?_
          refine WL_end hK27 ?_
          refine WC_seq fun K28 hK28 => ?_
          refine WC_sr fun K29 hK29 => ?_
          refine WL_rd (Rd_assign rfl) rfl rfl rfl ?_
          refine WL_end hK29 ?_
          refine WC_block ?_
          refine WC_star0 (FGQ 23) ?_
          rw [show star (FRL 23) rs' = star (FRL 23) (rs'.drop 0) from rfl]
          refine WC_loopK (σ := Nat × (List GQ) × (Option Nat) × Nat × (List PB)) (fun ⟨k, qs, go, gc, ms⟩ => [(8, sl go qs.length gc), (9, .int .i64 ((k : Nat) : Int))]) (fun ⟨k, qs, go, gc, ms⟩ => [star (FGQ 23) qs, star (FRL 23) (rs'.drop k), star (FPB 5) ms, arr go gc 1 22 eGQ qs]) (fun ⟨k, qs, go, gc, ms⟩ => k ≤ rs.length ∧ qs.length = k ∧ QOkL rs ms qs ∧ ROk rs ms rs.length rs' ∧ MOk ms) (fun ⟨k, qs, go, gc, ms⟩ => rs.length - k) ⟨0, [], none, 0, ms⟩ [0, 2, 12, 13, 14, 113, 114, 115, 116, 117, 118, 119, 120, 121, 122, 123, 124, 125, 126, 127, 128, 129, 130, 131, 132, 133, 134, 135, 136, 137, 138, 139, 140, 141, 142, 143, 144, 145, 146, 147, 148, 149, 150, 151, 152, 153, 154, 155, 156, 157, 158, 159, 160, 161, 162, 163, 164, 165, 166] (by repeat (first | exact Kep.nil | apply Kep.drop rfl | apply Kep.keep rfl)) (by (try dsimp only); repeat (first | with_reducible exact Gv.nil | (with_reducible apply Gv.cons; · (repeat (first | with_reducible exact Ext.here | with_reducible apply Ext.there))))) ?_ ?_ Sub.refl ?_
          · exact ⟨Nat.zero_le _, rfl, QOkL_nil, hro, hmo⟩
          · (try dsimp only); exact (Wk.cons (by first | rfl | (simp only [List.length_append, List.length_cons, List.length_nil, List.length_replicate, Nat.zero_add]; rfl) | (simp; done)) (Wk.cons (by first | rfl | (simp only [List.length_append, List.length_cons, List.length_nil, List.length_replicate, Nat.zero_add]; rfl) | (simp; done)) Wk.nil))
          · rintro ⟨k, qs, go, gc, ms⟩ ⟨hk, hql, hQ, hro, hmo⟩ K30 hK30
            simp only [List.cons_append, List.nil_append]
            refine WC_seq fun K31 hK31 => ?_
            refine WC_sr fun K32 hK32 => ?_
            refine WL_rd (Rd_move rfl) rfl rfl rfl ?_
            refine WL_rd (Rd_move rfl) rfl rfl rfl ?_
            refine WL_rd (Rd_len_sv rfl rfl ud35) rfl rfl rfl ?_
            refine WL_rd (Rd_lssN rfl rfl) rfl rfl rfl ?_
            refine WL_end hK32 ?_
            refine WC_cond rfl (fun hc5 => ?_) (fun hc5 => ?_)
            · try simp only [decide_eq_true_eq, decide_eq_false_iff_not, Bool.not_eq_true', Bool.not_eq_false', Bool.not_eq_true, Bool.not_eq_false, Int.not_lt, Int.not_le, Nat.not_lt, Nat.not_le, Decidable.not_not, ne_eq] at hc5
              obtain ⟨⟨ra, rc, rps⟩, hrk⟩ : ∃ r, rs[k]? = some r := ⟨_, List.getElem?_eq_getElem (by omega)⟩
              obtain ⟨hra, hrc⟩ := hR _ (List.mem_of_getElem? hrk)
              have hal := allP_le hrk
              dsimp only at hra hrc hal
              obtain ⟨qs0, hqk, hq0, hmu0⟩ := ROk_get hro hrk
              refine WC_drop (FRL 23) rs' k (x := ⟨ra, rc, qs0⟩) hqk ?_
              rw [show (FRL 23) ⟨ra, rc, qs0⟩ = arr ra rc 1 23 ePB qs0 from rfl]
              refine WC_fact (fun w h => arr_facts (a := ra) (cap := rc) (e := 1) (T := 23) (f := ePB) (l := qs0) (by repeat (first | with_reducible exact Has.here | with_reducible refine Has.there ?_)) h) (fun hpf => ?_)
              have hq3 := hpf.1
              have hq4 := hpf.2
              refine WC_imp (fun w h => apk_start h) ?_
              refine WC_skip ?_
              refine Ps_next hK31 ?_
              refine WC_seq fun K33 hK33 => ?_
              refine WC_block ?_
              refine WC_sr fun K34 hK34 => ?_
              refine WL_rd (Rd_move rfl) rfl rfl rfl ?_
              refine WL_rd (Rd_move rfl) rfl rfl rfl ?_
              refine WL_rd (Rd_index_sv k rfl rfl ud35 sz22 (hA := hS) (hi := by omega)) rfl rfl rfl ?_
              refine WL_rd (Rd_load_sv (i := k) (j := 0) (u := sl ra rps.length rc) rfl tk22 (hA := hS) (hl := hrk)) rfl rfl rfl ?_
              refine WL_rd (Rd_assign rfl) rfl rfl rfl ?_
              refine WL_end hK34 ?_
              refine WC_seq fun K35 hK35 => ?_
              refine WC_sr fun K36 hK36 => ?_
              refine WL_rd (Rd_assign rfl) rfl rfl rfl ?_
              refine WL_end hK36 ?_
              refine WC_block ?_
              refine WC_loopK (σ := Nat × (Option Nat) × Nat × (List PB) × (List PB)) (fun ⟨i', a', c', ps', ms⟩ => [(10, sl a' (rps.length + i') c'), (11, .int .i64 ((i' : Nat) : Int))]) (fun ⟨i', a', c', ps', ms⟩ => [apk ra rc a' c' 1 23 ePB qs0 ps', star (FPB 5) ms]) (fun ⟨i', a', c', ps', ms⟩ => i' ≤ 70 ∧ ps'.length = rps.length + i' ∧ qs0 <+: ps' ∧ MkU ms k (rps.length + i') ps' ∧ QOkL rs ms qs ∧ ROk rs ms rs.length rs' ∧ MOk ms) (fun ⟨i', a', c', ps', ms⟩ => 70 - i') ⟨0, ra, rc, qs0, ms⟩ [0, 2, 8, 9, 12, 13, 14, 72, 73, 74, 75, 76, 77, 78, 79, 80, 81, 109, 110, 111, 112, 113, 114, 115, 116, 117, 118, 119, 120, 121, 122, 123, 124, 125, 126, 127, 128, 129, 130, 131, 132, 133, 134, 135, 136, 137, 138, 139, 140, 141, 142, 143, 144, 145, 146, 147, 148, 149, 150, 151, 152, 153, 154, 155, 156, 157, 158, 159, 160, 161, 162, 163, 164, 165, 166] (by repeat (first | exact Kep.nil | apply Kep.drop rfl | apply Kep.keep rfl)) (by (try dsimp only); repeat (first | with_reducible exact Gv.nil | (with_reducible apply Gv.cons; · (repeat (first | with_reducible exact Ext.here | with_reducible apply Ext.there))))) ?_ ?_ Sub.refl ?_
              · exact ⟨Nat.zero_le _, hq0, List.prefix_refl _, by rw [← hq0]; exact hmu0 (by omega), hQ, hro, hmo⟩
              · (try dsimp only); exact (Wk.cons (by first | rfl | (simp only [List.length_append, List.length_cons, List.length_nil, List.length_replicate, Nat.zero_add]; rfl) | (simp; done)) (Wk.cons (by first | rfl | (simp only [List.length_append, List.length_cons, List.length_nil, List.length_replicate, Nat.zero_add]; rfl) | (simp; done)) Wk.nil))
              · rintro ⟨i', a', c', ps', ms⟩ ⟨hi, hpl', hpp, hmu, hQ, hro, hmo⟩ K37 hK37
                simp only [List.cons_append, List.nil_append]
                refine WC_seq fun K38 hK38 => ?_
                refine WC_sr fun K39 hK39 => ?_
                refine WL_rd (Rd_move rfl) rfl rfl rfl ?_
                refine WL_rd (Rd_lssN (j := 70) rfl rfl) rfl rfl rfl ?_
                refine WL_end hK39 ?_
                refine WC_cond rfl (fun hc6 => ?_) (fun hc6 => ?_)
                · try simp only [decide_eq_true_eq, decide_eq_false_iff_not, Bool.not_eq_true', Bool.not_eq_false', Bool.not_eq_true, Bool.not_eq_false, Int.not_lt, Int.not_le, Nat.not_lt, Nat.not_le, Decidable.not_not, ne_eq] at hc6
                  refine WC_skip ?_
                  refine Ps_next hK38 ?_
                  refine WC_seq fun K40 hK40 => ?_
                  refine WC_block ?_
                  refine WC_drawA mix (fun i => ([2, 2, 2, 2, 2, 2, 2, 2, 2, 2, 2, 2, 2, 2, 2, 2, 2, 2, 2, 2, 1, 1, 0, 2] : List Nat).getD i 0) ?_
                  refine WJ_takeP 0 rfl (by kernel_rfl) (Rd_move rfl) rfl rfl rfl (hp _ _) ?_
                  refine WJ_takeP 1 rfl (by kernel_rfl) (Rd_move rfl) rfl rfl rfl (hp _ _) ?_
                  refine WJ_takeP 2 rfl (by kernel_rfl) (Rd_convNU rfl ikd3_5 (h' := uk8)) rfl rfl rfl (hp _ _) ?_
                  refine WJ_takeP 3 rfl (by kernel_rfl) (Rd_move rfl) rfl rfl rfl (hp _ _) ?_
                  refine WJ_takeP 4 rfl (by kernel_rfl) (Rd_move rfl) rfl rfl rfl (hp _ _) ?_
                  refine WJ_takeP 5 rfl (by kernel_rfl) (Rd_index_sv k rfl rfl ud35 sz22 (hA := hS) (hi := by omega)) rfl rfl rfl (hp _ _) ?_
                  refine WJ_takeP 8 rfl (by kernel_rfl) (Rd_move rfl) rfl rfl rfl (hp _ _) ?_
                  refine WJ_takeP 11 rfl (by kernel_rfl) (Rd_move rfl) rfl rfl rfl (hp _ _) ?_
                  refine WJ_takeP 12 rfl (by kernel_rfl) (Rd_move rfl) rfl rfl rfl (hp _ _) ?_
                  refine WJ_takeP 13 rfl (by kernel_rfl) (Rd_index_sv k rfl rfl ud35 sz22 (hA := hS) (hi := by omega)) rfl rfl rfl (hp _ _) ?_
                  refine WJ_takeP 16 rfl (by kernel_rfl) (Rd_move rfl) rfl rfl rfl (hp _ _) ?_
                  refine WJ_all (rs := [6, 14]) (by kernel_rfl) rfl ?_
                  refine WI_cons ?_ (WI_cons ?_ (by intro _ h; cases h))
                  · skip
                    refine WI_rd rfl (Rd_load_sv (i := k) (j := 0) (u := sl ra rps.length rc) rfl tk22 (hA := hS) (hl := hrk)) rfl rfl rfl (fun h => by cases h) ?_
                    refine WJ_takeP 7 rfl (by kernel_rfl) (Rd_len rfl rfl ud22) rfl rfl rfl (hp _ _) ?_
                    refine WJ_takeP 9 rfl (by kernel_rfl) (Rd_addN rfl rfl) rfl rfl rfl (hp _ _) ?_
                    refine WJ_takeP 10 rfl (by kernel_rfl) (Rd_convNU rfl ikd3_5 (h' := uk8)) rfl rfl rfl (hp _ _) ?_
                    refine WJ_all (rs := [14]) (by kernel_rfl) rfl ?_
                    refine WI_one ?_
                    refine WI_rd rfl (Rd_load_sv (i := k) (j := 0) (u := sl ra rps.length rc) rfl tk22 (hA := hS) (hl := hrk)) rfl rfl rfl (fun h => by cases h) ?_
                    refine WJ_takeP 15 rfl (by kernel_rfl) (Rd_len rfl rfl ud22) rfl rfl rfl (hp _ _) ?_
                    refine WJ_takeP 17 rfl (by kernel_rfl) (Rd_addN rfl rfl) rfl rfl rfl (hp _ _) ?_
                    refine WJ_takeP 18 rfl (by kernel_rfl) (Rd_quoN (j := 256) rfl rfl) rfl rfl rfl (hp _ _) ?_
                    refine WJ_takeP 19 rfl (by kernel_rfl) (Rd_convNU rfl ikd3_5 (h' := uk8)) rfl rfl rfl (hp _ _) ?_
                    refine WJ_all (rs := [20]) (by kernel_rfl) rfl ?_
                    refine WI_one ?_
                    refine WI_ac rfl (Ac_bsL (f := (eU .u8 (w := 8))) (zs := [.int .u8 0]) (bs := [.int .u8 0, .int .u8 0, .int .u8 0]) (mk3 k (rps.length + i')) (encU .u8) ud23 zr5 sz5 rfl (by rw [Array.toList_map, Array.toList_range]; rfl) (by rfl) (by rfl) (by rfl) (by rfl)) rfl rfl rfl rfl ?_
                    rintro _ _ ⟨b106, rfl, rfl⟩
                    refine ⟨(fun _ => (by repeat (first | with_reducible exact Sub.refl | with_reducible exact Sub.nil | with_reducible refine Sub.cons (by repeat (first | with_reducible exact Ext.here | with_reducible apply Ext.there)) ?_ | with_reducible refine Sub.tail ?_))), ?_⟩
                    rw [show arr (some b106) 3 1 5 (eU .u8 (w := 8)) (mk3 k (rps.length + i')) = (FPB 5) (mP b106 k (rps.length + i')) from rfl]
                    refine WJ_all (rs := [21]) (by kernel_rfl) rfl ?_
                    refine WI_one ?_
                    refine WI_ac rfl (Ac_bs1 (xs := [sl (some b106) 3 3]) rfl ud22 zr23 sz23) rfl rfl rfl rfl ?_
                    rintro _ _ ⟨b107, rfl, rfl⟩
                    refine ⟨(fun _ => (by repeat (first | with_reducible exact Sub.refl | with_reducible exact Sub.nil | with_reducible refine Sub.cons (by repeat (first | with_reducible exact Ext.here | with_reducible apply Ext.there)) ?_ | with_reducible refine Sub.tail ?_))), ?_⟩
                    refine WJ_all (rs := [22]) (by kernel_rfl) rfl ?_
                    refine WI_one ?_
                    refine WI_ac rfl (Ac_apk1 (l := qs0) (l' := ps') (f := ePB) encPB (mP b106 k (rps.length + i')) rfl rfl ud22 ud22 el23 hpp (hlen := hpl'.symm)) rfl rfl rfl rfl ?_
                    rintro _ _ ⟨a108, cap108, rfl, rfl⟩
                    rw [hpl', Nat.add_assoc]
                    refine ⟨(fun h => by cases h), ?_⟩
                    refine WJ_takeP 23 rfl (by kernel_rfl) (Rd_assign rfl) rfl rfl rfl (hp _ _) ?_
                    refine WJ_done (by kernel_rfl) ?_
                    refine Ps_next hK40 ?_
                    refine WC_region ?_
                    refine WL_snoc (FPB 5) ms (mP b106 k (rps.length + i')) ?_
                    refine WL_rd (Rd_move rfl) rfl rfl rfl ?_
                    refine WL_rd (Rd_addN (j := 1) rfl rfl) rfl rfl rfl ?_
                    refine WL_rd (Rd_assign rfl) rfl rfl rfl ?_
                    refine WL_nil ?_
                    refine Ps_wk (by (try simp only [List.cons_append, List.nil_append]); repeat (first | with_reducible exact Wk.nil | refine Wk.cons (by first | rfl | (simp only [List.length_append, List.length_cons, List.length_nil, List.length_replicate, Nat.zero_add]; rfl) | (simp; done)) ?_)) (by (try simp only [List.cons_append, List.nil_append]); repeat (first | with_reducible exact Sub.refl | with_reducible exact Sub.nil | with_reducible refine Sub.cons (by repeat (first | with_reducible exact Ext.here | with_reducible apply Ext.there)) ?_ | with_reducible refine Sub.tail ?_)) (hK37 ⟨i' + 1, a108, cap108, ps' ++ [(mP b106 k (rps.length + i'))], ms ++ [(mP b106 k (rps.length + i'))]⟩ (⟨by (try dsimp only); omega, by (try dsimp only); rw [List.length_append, List.length_singleton]; omega, hpp.trans (List.prefix_append _ _), MkU_snoc hmu hpl', QOkL_mono _ hQ, ROk_mono _ hro, MOk_snoc hmo _ _ _⟩) (by (try dsimp only); omega))
                  · skip
                    refine WI_rd rfl (Rd_load_sv (i := k) (j := 0) (u := sl ra rps.length rc) rfl tk22 (hA := hS) (hl := hrk)) rfl rfl rfl (fun h => by cases h) ?_
                    refine WJ_takeP 15 rfl (by kernel_rfl) (Rd_len rfl rfl ud22) rfl rfl rfl (hp _ _) ?_
                    refine WJ_takeP 17 rfl (by kernel_rfl) (Rd_addN rfl rfl) rfl rfl rfl (hp _ _) ?_
                    refine WJ_takeP 18 rfl (by kernel_rfl) (Rd_quoN (j := 256) rfl rfl) rfl rfl rfl (hp _ _) ?_
                    refine WJ_takeP 19 rfl (by kernel_rfl) (Rd_convNU rfl ikd3_5 (h' := uk8)) rfl rfl rfl (hp _ _) ?_
                    refine WJ_all (rs := [6]) (by kernel_rfl) rfl ?_
                    refine WI_one ?_
                    refine WI_rd rfl (Rd_load_sv (i := k) (j := 0) (u := sl ra rps.length rc) rfl tk22 (hA := hS) (hl := hrk)) rfl rfl rfl (fun h => by cases h) ?_
                    refine WJ_takeP 7 rfl (by kernel_rfl) (Rd_len rfl rfl ud22) rfl rfl rfl (hp _ _) ?_
                    refine WJ_takeP 9 rfl (by kernel_rfl) (Rd_addN rfl rfl) rfl rfl rfl (hp _ _) ?_
                    refine WJ_takeP 10 rfl (by kernel_rfl) (Rd_convNU rfl ikd3_5 (h' := uk8)) rfl rfl rfl (hp _ _) ?_
                    refine WJ_all (rs := [20]) (by kernel_rfl) rfl ?_
                    refine WI_one ?_
                    refine WI_ac rfl (Ac_bsL (f := (eU .u8 (w := 8))) (zs := [.int .u8 0]) (bs := [.int .u8 0, .int .u8 0, .int .u8 0]) (mk3 k (rps.length + i')) (encU .u8) ud23 zr5 sz5 rfl (by rw [Array.toList_map, Array.toList_range]; rfl) (by rfl) (by rfl) (by rfl) (by rfl)) rfl rfl rfl rfl ?_
                    rintro _ _ ⟨b106, rfl, rfl⟩
                    refine ⟨(fun _ => (by repeat (first | with_reducible exact Sub.refl | with_reducible exact Sub.nil | with_reducible refine Sub.cons (by repeat (first | with_reducible exact Ext.here | with_reducible apply Ext.there)) ?_ | with_reducible refine Sub.tail ?_))), ?_⟩
                    rw [show arr (some b106) 3 1 5 (eU .u8 (w := 8)) (mk3 k (rps.length + i')) = (FPB 5) (mP b106 k (rps.length + i')) from rfl]
                    refine WJ_all (rs := [21]) (by kernel_rfl) rfl ?_
                    refine WI_one ?_
                    refine WI_ac rfl (Ac_bs1 (xs := [sl (some b106) 3 3]) rfl ud22 zr23 sz23) rfl rfl rfl rfl ?_
                    rintro _ _ ⟨b107, rfl, rfl⟩
                    refine ⟨(fun _ => (by repeat (first | with_reducible exact Sub.refl | with_reducible exact Sub.nil | with_reducible refine Sub.cons (by repeat (first | with_reducible exact Ext.here | with_reducible apply Ext.there)) ?_ | with_reducible refine Sub.tail ?_))), ?_⟩
                    refine WJ_all (rs := [22]) (by kernel_rfl) rfl ?_
                    refine WI_one ?_
                    refine WI_ac rfl (Ac_apk1 (l := qs0) (l' := ps') (f := ePB) encPB (mP b106 k (rps.length + i')) rfl rfl ud22 ud22 el23 hpp (hlen := hpl'.symm)) rfl rfl rfl rfl ?_
                    rintro _ _ ⟨a108, cap108, rfl, rfl⟩
                    rw [hpl', Nat.add_assoc]
                    refine ⟨(fun h => by cases h), ?_⟩
                    refine WJ_takeP 23 rfl (by kernel_rfl) (Rd_assign rfl) rfl rfl rfl (hp _ _) ?_
                    refine WJ_done (by kernel_rfl) ?_
                    refine Ps_next hK40 ?_
                    refine WC_region ?_
                    refine WL_snoc (FPB 5) ms (mP b106 k (rps.length + i')) ?_
                    refine WL_rd (Rd_move rfl) rfl rfl rfl ?_
                    refine WL_rd (Rd_addN (j := 1) rfl rfl) rfl rfl rfl ?_
                    refine WL_rd (Rd_assign rfl) rfl rfl rfl ?_
                    refine WL_nil ?_
                    refine Ps_wk (by (try simp only [List.cons_append, List.nil_append]); repeat (first | with_reducible exact Wk.nil | refine Wk.cons (by first | rfl | (simp only [List.length_append, List.length_cons, List.length_nil, List.length_replicate, Nat.zero_add]; rfl) | (simp; done)) ?_)) (by (try simp only [List.cons_append, List.nil_append]); repeat (first | with_reducible exact Sub.refl | with_reducible exact Sub.nil | with_reducible refine Sub.cons (by repeat (first | with_reducible exact Ext.here | with_reducible apply Ext.there)) ?_ | with_reducible refine Sub.tail ?_)) (hK37 ⟨i' + 1, a108, cap108, ps' ++ [(mP b106 k (rps.length + i'))], ms ++ [(mP b106 k (rps.length + i'))]⟩ (⟨by (try dsimp only); omega, by (try dsimp only); rw [List.length_append, List.length_singleton]; omega, hpp.trans (List.prefix_append _ _), MkU_snoc hmu hpl', QOkL_mono _ hQ, ROk_mono _ hro, MOk_snoc hmo _ _ _⟩) (by (try dsimp only); omega))
                · try simp only [decide_eq_true_eq, decide_eq_false_iff_not, Bool.not_eq_true', Bool.not_eq_false', Bool.not_eq_true, Bool.not_eq_false, Int.not_lt, Int.not_le, Nat.not_lt, Nat.not_le, Decidable.not_not, ne_eq] at hc6
                  obtain rfl : i' = 70 := by omega
                  refine WC_fact (fun w h => apk_factsN (a := ra) (cap := rc) (a' := a') (cap' := c') (e := 1) (T := 23) (f := ePB) (l := qs0) (l' := ps') h) (fun hqf => ?_)
                  have hq1 : a' ≠ none := fun e => by have := congrArg List.length (hqf.1 e); rw [hpl'] at this; simp at this
                  have hq2 : ps'.length ≤ c' := hqf.2
                  rw [← hpl']
                  rw [show apk ra rc a' c' 1 23 ePB qs0 ps' = (FGQ 23) ⟨ra, rc, a', c', qs0, ps'⟩ from rfl]
                  refine WC_snoc (FGQ 23) qs ⟨ra, rc, a', c', qs0, ps'⟩ ?_
                  refine WC_exit ?_
                  refine Ps_next hK35 ?_
                  refine WC_region ?_
                  refine WL_rd (Rd_move rfl) rfl rfl rfl ?_
                  refine WL_rd (Rd_move rfl) rfl rfl rfl ?_
                  refine WL_ac (Ac_bs1 (xs := [sl a' ps'.length c']) rfl ud35 zr22 sz22) rfl rfl rfl ?_
                  rintro _ _ ⟨b111, rfl, rfl⟩
                  refine WL_ac (Ac_append1 (f := eGQ) encGQ (⟨ra, rc, a', c', qs0, ps'⟩ : GQ) rfl rfl ud35 ud35 el22) rfl rfl rfl ?_
                  rintro _ _ ⟨a112, cap112, rfl, rfl⟩
                  refine WL_rd (Rd_assign rfl) rfl rfl rfl ?_
                  refine WL_nil ?_
                  refine Ps_next hK33 ?_
                  refine WC_region ?_
                  refine WL_rd (Rd_move rfl) rfl rfl rfl ?_
                  refine WL_rd (Rd_addN (j := 1) rfl rfl) rfl rfl rfl ?_
                  refine WL_rd (Rd_assign rfl) rfl rfl rfl ?_
                  refine WL_nil ?_
                  refine Ps_wk (by (try simp only [List.cons_append, List.nil_append]); repeat (first | with_reducible exact Wk.nil | refine Wk.cons (by first | rfl | (simp only [List.length_append, List.length_cons, List.length_nil, List.length_replicate, Nat.zero_add]; rfl) | (simp; done)) ?_)) (by (try simp only [List.cons_append, List.nil_append]); repeat (first | with_reducible exact Sub.refl | with_reducible exact Sub.nil | with_reducible refine Sub.cons (by repeat (first | with_reducible exact Ext.here | with_reducible apply Ext.there)) ?_ | with_reducible refine Sub.tail ?_)) (hK30 ⟨k + 1, qs ++ [(⟨ra, rc, a', c', qs0, ps'⟩ : GQ)], a112, cap112, ms⟩ (⟨by (try dsimp only); omega, by (try dsimp only); rw [List.length_append, List.length_singleton]; omega, QOkL_snoc hQ hql hrk hq1 (by (try dsimp only); omega) hq2 hq3 hq4 hpp (by rw [hpl']; exact hmu) rfl rfl hq0, hro, hmo⟩) (by (try dsimp only); omega))
            · try simp only [decide_eq_true_eq, decide_eq_false_iff_not, Bool.not_eq_true', Bool.not_eq_false', Bool.not_eq_true, Bool.not_eq_false, Int.not_lt, Int.not_le, Nat.not_lt, Nat.not_le, Decidable.not_not, ne_eq] at hc5
              obtain rfl : k = rs.length := by omega
              refine WC_exit ?_
              refine Ps_next hK28 ?_
              refine WC_seq fun K41 hK41 => ?_
              refine WC_sr fun K42 hK42 => ?_
              refine WL_rd (Rd_assign rfl) rfl rfl rfl ?_
              refine WL_end hK42 ?_
              refine WC_block ?_
              refine WC_loopK (σ := Nat) (fun k2 => [(12, .int .i64 ((k2 : Nat) : Int))]) (fun k2 => []) (fun k2 => k2 ≤ rs.length) (fun k2 => rs.length - k2) (0) [0, 8] (by repeat (first | exact Kep.nil | apply Kep.drop rfl | apply Kep.keep rfl)) (by (try dsimp only); repeat (first | with_reducible exact Gv.nil | (with_reducible apply Gv.cons; · (repeat (first | with_reducible exact Ext.here | with_reducible apply Ext.there))))) ?_ ?_ Sub.refl ?_
              · exact Nat.zero_le _
              · (try dsimp only); exact (Wk.cons (by first | rfl | (simp only [List.length_append, List.length_cons, List.length_nil, List.length_replicate, Nat.zero_add]; rfl) | (simp; done)) Wk.nil)
              · rintro k2 hk2 K43 hK43
                simp only [List.cons_append, List.nil_append]
                refine WC_seq fun K44 hK44 => ?_
                refine WC_sr fun K45 hK45 => ?_
                refine WL_rd (Rd_move rfl) rfl rfl rfl ?_
                refine WL_rd (Rd_move rfl) rfl rfl rfl ?_
                refine WL_rd (Rd_len_sv rfl rfl ud35) rfl rfl rfl ?_
                refine WL_rd (Rd_lssN rfl rfl) rfl rfl rfl ?_
                refine WL_end hK45 ?_
                refine WC_cond rfl (fun hc7 => ?_) (fun hc7 => ?_)
                · try simp only [decide_eq_true_eq, decide_eq_false_iff_not, Bool.not_eq_true', Bool.not_eq_false', Bool.not_eq_true, Bool.not_eq_false, Int.not_lt, Int.not_le, Nat.not_lt, Nat.not_le, Decidable.not_not, ne_eq] at hc7
                  refine WC_some (a := go) (by repeat (first | with_reducible exact Has.here | with_reducible refine Has.there ?_)) (by omega) (fun gb hgb hcg => ?_)
                  subst hgb
                  obtain ⟨q, hq⟩ : ∃ q, qs[k2]? = some q := ⟨_, List.getElem?_eq_getElem (by omega)⟩
                  obtain ⟨hqa, hqn, hqc, hqe, hqd, hqp, hqm, ⟨ra, rc, rps⟩, hrk, hea, hec, hel⟩ := hQ k2 q hq
                  dsimp only at hea hec hel
                  have hal := allP_le hrk
                  dsimp only at hal
                  have hsn := Sv.star (F := (FGQ 23)) k2 hq (Sv_GQn (T := 23) hqa hqc)
                  have hse := Sv.star (F := (FGQ 23)) k2 hq (Sv_GQe (T := 23) hqe hqd hqp)
                  rw [hea, hec, hel] at hse
                  refine WC_skip ?_
                  refine Ps_next hK44 ?_
                  refine WC_seq fun K46 hK46 => ?_
                  refine WC_block ?_
                  refine WC_sr fun K47 hK47 => ?_
                  refine WL_rd (Rd_assign rfl) rfl rfl rfl ?_
                  refine WL_end hK47 ?_
                  refine WC_block ?_
                  refine WC_loopK (σ := Nat) (fun i2 => [(13, .int .i64 ((i2 : Nat) : Int))]) (fun i2 => []) (fun i2 => i2 ≤ q.ps'.length) (fun i2 => q.ps'.length - i2) (0) [0, 8, 12, 113, 114, 115, 116, 117, 118] (by repeat (first | exact Kep.nil | apply Kep.drop rfl | apply Kep.keep rfl)) (by (try dsimp only); repeat (first | with_reducible exact Gv.nil | (with_reducible apply Gv.cons; · (repeat (first | with_reducible exact Ext.here | with_reducible apply Ext.there))))) ?_ ?_ Sub.refl ?_
                  · exact Nat.zero_le _
                  · (try dsimp only); exact (Wk.cons (by first | rfl | (simp only [List.length_append, List.length_cons, List.length_nil, List.length_replicate, Nat.zero_add]; rfl) | (simp; done)) Wk.nil)
                  · rintro i2 hi2 K48 hK48
                    simp only [List.cons_append, List.nil_append]
                    refine WC_seq fun K49 hK49 => ?_
                    refine WC_sr fun K50 hK50 => ?_
                    refine WL_rd (Rd_move rfl) rfl rfl rfl ?_
                    refine WL_rd (Rd_move rfl) rfl rfl rfl ?_
                    refine WL_rd (Rd_move rfl) rfl rfl rfl ?_
                    refine WL_rd (Rd_index k2 rfl rfl ud35 sz22 (hi := by omega)) rfl rfl rfl ?_
                    refine WL_rd (Rd_load_arr (f := eGQ) (i := k2) (j := 0) rfl tk22 (hl := hq)) rfl rfl rfl ?_
                    refine WL_rd (Rd_len rfl rfl ud22) rfl rfl rfl ?_
                    refine WL_rd (Rd_lssN rfl rfl) rfl rfl rfl ?_
                    refine WL_end hK50 ?_
                    refine WC_cond rfl (fun hc8 => ?_) (fun hc8 => ?_)
                    · try simp only [decide_eq_true_eq, decide_eq_false_iff_not, Bool.not_eq_true', Bool.not_eq_false', Bool.not_eq_true, Bool.not_eq_false, Int.not_lt, Int.not_le, Nat.not_lt, Nat.not_le, Decidable.not_not, ne_eq] at hc8
                      obtain ⟨p, hpk⟩ : ∃ p, q.ps'[i2]? = some p := ⟨_, List.getElem?_eq_getElem (by omega)⟩
                      obtain ⟨hpms, hpl⟩ := hqm i2 p (by omega) hpk
                      have hpm := Sv_mark (T := 5) hmo hpms
                      have hp3 : p.l.length = 3 := by rw [hpl]; rfl
                      have hpe : i2 < rps.length → q.ps[i2]? = some p := fun h => by have e := List.getElem?_append_left (l₁ := q.ps) (l₂ := hqp.choose) (i := i2) (by omega); rw [hqp.choose_spec] at e; rw [← e]; exact hpk
                      refine WC_skip ?_
                      refine Ps_next hK49 ?_
                      refine WC_seq fun K51 hK51 => ?_
                      refine WC_block ?_
                      refine WC_sr fun K52 hK52 => ?_
                      refine WL_rd (Rd_move rfl) rfl rfl rfl ?_
                      refine WL_rd (Rd_convNU rfl ikd3_5 (h' := uk8)) rfl rfl rfl ?_
                      refine WL_rd (Rd_move rfl) rfl rfl rfl ?_
                      refine WL_rd (Rd_convNU rfl ikd3_5 (h' := uk8)) rfl rfl rfl ?_
                      refine WL_rd (Rd_move rfl) rfl rfl rfl ?_
                      refine WL_rd (Rd_quoN (j := 256) rfl rfl) rfl rfl rfl ?_
                      refine WL_rd (Rd_convNU rfl ikd3_5 (h' := uk8)) rfl rfl rfl ?_
                      refine WL_ac (Ac_bsL (f := (eU .u8 (w := 8))) (zs := [.int .u8 0]) (bs := [.int .u8 0, .int .u8 0, .int .u8 0]) (mk3 k2 i2) (encU .u8) ud23 zr5 sz5 rfl (by rw [Array.toList_map, Array.toList_range]; rfl) (by rfl) (by rfl) (by rfl) (by rfl)) rfl rfl rfl ?_
                      rintro _ _ ⟨b135, rfl, rfl⟩
                      have hm3 : Sv [arr (some b135) 3 1 5 (eU .u8 (w := 8)) (mk3 k2 i2)] (sl (some b135) 3 3) 1 (eU .u8 (w := 8)) (mk3 k2 i2) (some ⟨b135, 0, none⟩) 3 := Sv_own' (a := some b135) (cap := 3) (T := 5) (encU .u8 (w := 8)) (l := mk3 k2 i2) (by simp) (Nat.le_refl 3)
                      refine WL_rd (Rd_assign rfl) rfl rfl rfl ?_
                      refine WL_end hK52 ?_
                      refine WC_sr fun K53 hK53 => ?_
                      refine WL_rd (Rd_move rfl) rfl rfl rfl ?_
                      refine WL_rd (Rd_move rfl) rfl rfl rfl ?_
                      refine WL_rd (Rd_index k2 rfl rfl ud35 sz22 (hi := by omega)) rfl rfl rfl ?_
                      refine WL_rd (Rd_load_arr (f := eGQ) (i := k2) (j := 0) rfl tk22 (hl := hq)) rfl rfl rfl ?_
                      refine WL_rd (Rd_move rfl) rfl rfl rfl ?_
                      refine WL_rd (Rd_index_sv i2 rfl rfl ud22 sz23 (hA := hsn) (hi := by omega)) rfl rfl rfl ?_
                      refine WL_rd (Rd_load_sv (i := i2) (j := 0) (u := sl p.a p.l.length p.cap) rfl tk23 (hA := hsn) (hl := hpk)) rfl rfl rfl ?_
                      refine WL_rd (Rd_move rfl) rfl rfl rfl ?_
                      refine WL_ac (Ac_call cf9 rfl (hs := Ct.un0 (Xs := [star (FPB 5) ms, arr (some b135) 3 1 5 (eU .u8 (w := 8)) (mk3 k2 i2)]) (same_ct (X := sep [star (FPB 5) ms, arr (some b135) 3 1 5 (eU .u8 (w := 8)) (mk3 k2 i2)]) (l := p.l) (l' := mk3 k2 i2) (hS := hpm.pk (by repeat (first | with_reducible exact Has.here | with_reducible refine Has.there ?_))) (hS' := hm3.pk (by repeat (first | with_reducible exact Has.here | with_reducible refine Has.there ?_)))))) rfl rfl rfl ?_
                      rintro _ _ ⟨⟨⟩, rfl, hA⟩
                      simp only [List.cons_append, List.nil_append] at hA
                      replace hA := hA.symm
                      subst hA
                      rw [decide_eq_true hpl]
                      refine WL_rd (Rd_not rfl) rfl rfl rfl ?_
                      refine WL_rd (Rd_move rfl) rfl rfl rfl ?_
                      refine WL_rd (Rd_move rfl) rfl rfl rfl ?_
                      refine WL_rd (Rd_move rfl) rfl rfl rfl ?_
                      refine WL_rd (Rd_move rfl) rfl rfl rfl ?_
                      refine WL_rd (Rd_index_sv k2 rfl rfl ud35 sz22 (hA := hS) (hi := by omega)) rfl rfl rfl ?_
                      refine WL_rd (Rd_load_sv (i := k2) (j := 0) (u := sl ra rps.length rc) rfl tk22 (hA := hS) (hl := hrk)) rfl rfl rfl ?_
                      refine WL_rd (Rd_len rfl rfl ud22) rfl rfl rfl ?_
                      refine WL_rd (Rd_lssN rfl rfl) rfl rfl rfl ?_
                      refine WL_rd (Rd_move rfl) rfl rfl rfl ?_
                      refine WL_bool 154 rfl (fun hg54 => ?_) (fun hg54 => ?_)
                      · try simp only [decide_eq_true_eq, decide_eq_false_iff_not, Bool.not_eq_true', Bool.not_eq_false', Bool.not_eq_true, Bool.not_eq_false, Int.not_lt, Int.not_le, Nat.not_lt, Nat.not_le, Decidable.not_not, ne_eq] at hg54
                        have hlt9 := hg54
                        refine WL_rd (Rd_move rfl) rfl rfl rfl ?_
                        refine WL_rd (Rd_move rfl) rfl rfl rfl ?_
                        refine WL_rd (Rd_index_sv k2 rfl rfl ud35 sz22 (hA := hS) (hi := by omega)) rfl rfl rfl ?_
                        refine WL_rd (Rd_load_sv (i := k2) (j := 0) (u := sl ra rps.length rc) rfl tk22 (hA := hS) (hl := hrk)) rfl rfl rfl ?_
                        refine WL_rd (Rd_move rfl) rfl rfl rfl ?_
                        refine WL_rd (Rd_index_sv i2 rfl rfl ud22 sz23 (hA := hse) (hi := by omega)) rfl rfl rfl ?_
                        refine WL_rd (Rd_load_sv (i := i2) (j := 0) (u := sl p.a p.l.length p.cap) rfl tk23 (hA := hse) (hl := hpe (by omega))) rfl rfl rfl ?_
                        refine WL_rd (Rd_move rfl) rfl rfl rfl ?_
                        refine WL_ac (Ac_call cf9 rfl (hs := Ct.un0 (Xs := [star (FPB 5) ms, arr (some b135) 3 1 5 (eU .u8 (w := 8)) (mk3 k2 i2)]) (same_ct (X := sep [star (FPB 5) ms, arr (some b135) 3 1 5 (eU .u8 (w := 8)) (mk3 k2 i2)]) (l := p.l) (l' := mk3 k2 i2) (hS := hpm.pk (by repeat (first | with_reducible exact Has.here | with_reducible refine Has.there ?_))) (hS' := hm3.pk (by repeat (first | with_reducible exact Has.here | with_reducible refine Has.there ?_)))))) rfl rfl rfl ?_
                        rintro _ _ ⟨⟨⟩, rfl, hA⟩
                        simp only [List.cons_append, List.nil_append] at hA
                        replace hA := hA.symm
                        subst hA
                        rw [decide_eq_true hpl]
                        refine WL_rd (Rd_not rfl) rfl rfl rfl ?_
                        refine WL_rd (Rd_pickT rfl rfl) rfl rfl rfl ?_
                        refine WL_rd (Rd_pickF rfl rfl) rfl rfl rfl ?_
                        refine WL_end hK53 ?_
                        refine WC_condF rfl ?_
                        refine WC_skip ?_
                        refine Ps_next hK51 ?_
                        refine WC_region ?_
                        refine WL_rd (Rd_move rfl) rfl rfl rfl ?_
                        refine WL_rd (Rd_addN (j := 1) rfl rfl) rfl rfl rfl ?_
                        refine WL_rd (Rd_assign rfl) rfl rfl rfl ?_
                        refine WL_nil ?_
                        refine Ps_wk (by (try simp only [List.cons_append, List.nil_append]); repeat (first | with_reducible exact Wk.nil | refine Wk.cons (by first | rfl | (simp only [List.length_append, List.length_cons, List.length_nil, List.length_replicate, Nat.zero_add]; rfl) | (simp; done)) ?_)) (by (try simp only [List.cons_append, List.nil_append]); repeat (first | with_reducible exact Sub.refl | with_reducible exact Sub.nil | with_reducible refine Sub.cons (by repeat (first | with_reducible exact Ext.here | with_reducible apply Ext.there)) ?_ | with_reducible refine Sub.tail ?_)) (hK48 (i2 + 1) (by omega) (by omega))
                      · try simp only [decide_eq_true_eq, decide_eq_false_iff_not, Bool.not_eq_true', Bool.not_eq_false', Bool.not_eq_true, Bool.not_eq_false, Int.not_lt, Int.not_le, Nat.not_lt, Nat.not_le, Decidable.not_not, ne_eq] at hg54
                        refine WL_skip rfl rfl rfl ?_
                        refine WL_skip rfl rfl rfl ?_
                        refine WL_skip rfl rfl rfl ?_
                        refine WL_skip rfl rfl rfl ?_
                        refine WL_skip rfl rfl rfl ?_
                        refine WL_skip rfl rfl rfl ?_
                        refine WL_skip rfl rfl rfl ?_
                        refine WL_skip rfl rfl rfl ?_
                        refine WL_skip rfl rfl rfl ?_
                        refine WL_skip rfl rfl rfl ?_
                        refine WL_rd (Rd_pickF rfl rfl) rfl rfl rfl ?_
                        refine WL_rd (Rd_pickF rfl rfl) rfl rfl rfl ?_
                        refine WL_end hK53 ?_
                        refine WC_condF rfl ?_
                        refine WC_skip ?_
                        refine Ps_next hK51 ?_
                        refine WC_region ?_
                        refine WL_rd (Rd_move rfl) rfl rfl rfl ?_
                        refine WL_rd (Rd_addN (j := 1) rfl rfl) rfl rfl rfl ?_
                        refine WL_rd (Rd_assign rfl) rfl rfl rfl ?_
                        refine WL_nil ?_
                        refine Ps_wk (by (try simp only [List.cons_append, List.nil_append]); repeat (first | with_reducible exact Wk.nil | refine Wk.cons (by first | rfl | (simp only [List.length_append, List.length_cons, List.length_nil, List.length_replicate, Nat.zero_add]; rfl) | (simp; done)) ?_)) (by (try simp only [List.cons_append, List.nil_append]); repeat (first | with_reducible exact Sub.refl | with_reducible exact Sub.nil | with_reducible refine Sub.cons (by repeat (first | with_reducible exact Ext.here | with_reducible apply Ext.there)) ?_ | with_reducible refine Sub.tail ?_)) (hK48 (i2 + 1) (by omega) (by omega))
                    · try simp only [decide_eq_true_eq, decide_eq_false_iff_not, Bool.not_eq_true', Bool.not_eq_false', Bool.not_eq_true, Bool.not_eq_false, Int.not_lt, Int.not_le, Nat.not_lt, Nat.not_le, Decidable.not_not, ne_eq] at hc8
                      refine WC_exit ?_
                      refine Ps_next hK46 ?_
                      refine WC_region ?_
                      refine WL_rd (Rd_move rfl) rfl rfl rfl ?_
                      refine WL_rd (Rd_addN (j := 1) rfl rfl) rfl rfl rfl ?_
                      refine WL_rd (Rd_assign rfl) rfl rfl rfl ?_
                      refine WL_nil ?_
                      refine Ps_wk (by (try simp only [List.cons_append, List.nil_append]); repeat (first | with_reducible exact Wk.nil | refine Wk.cons (by first | rfl | (simp only [List.length_append, List.length_cons, List.length_nil, List.length_replicate, Nat.zero_add]; rfl) | (simp; done)) ?_)) (by (try simp only [List.cons_append, List.nil_append]); repeat (first | with_reducible exact Sub.refl | with_reducible exact Sub.nil | with_reducible refine Sub.cons (by repeat (first | with_reducible exact Ext.here | with_reducible apply Ext.there)) ?_ | with_reducible refine Sub.tail ?_)) (hK43 (k2 + 1) (by omega) (by omega))
                · try simp only [decide_eq_true_eq, decide_eq_false_iff_not, Bool.not_eq_true', Bool.not_eq_false', Bool.not_eq_true, Bool.not_eq_false, Int.not_lt, Int.not_le, Nat.not_lt, Nat.not_le, Decidable.not_not, ne_eq] at hc7
                  refine WC_exit ?_
                  refine Ps_next hK41 ?_
                  refine WC_sr fun K55 hK55 => ?_
                  refine WL_rd (Rd_assign rfl) rfl rfl rfl ?_
                  refine WL_end hK55 ?_
                  refine WC_ret ?_
                  exact hret.go () (Rs1 rfl rfl)
end Go.Proofs.Ytlcafifjhilleaa
