/-
  Contracts of functions that the claim reaches, or the logic and the plain laws that they rest on, or the row over them. (Conditions: none beyond the statement.)
-/
import Derived.Test.YtgkpbeikcpecbaaPxL
set_option linter.all false
namespace Go.Proofs.Ytgkpbeikcpecbaa
open Go.RowKit Go.SL Go.ShM
set_option maxHeartbeats 1000000
set_option maxRecDepth 20000
set_option linter.all false

theorem climbs_ct {n : Nat} {i : Nat} {d root : Dg} {X : Asn} {v : Value} {ns : List Nd} {ao : Option Addr} {cap2 : Nat} (hS : Sv [X] v 33 eND ns ao cap2 := by assumption) (he : clE (n : Int) (i : Int) ((ns).map Prod.snd) = 0) (hr : clD (n : Int) (i : Int) d ((ns).map Prod.snd) = root) (hn2 : n ≤ 100000 := by omega) (hi2 : i ≤ 100000 := by omega) (hll : ns.length ≤ 100000 := by omega) : Ct Try.prog 91 [.int .i64 ((n : Nat) : Int), .int .i64 ((i : Nat) : Int), aU .u8 d.1, aU .u8 root.1, v] [X] (fun _ : Unit => .bool true) (fun _ => [X]) := by
  refine Ct_body (n := 43) Try.func91 rfl rfl rfl fun F w0 Q hret hnorm hp => ?_
  change WC _ _ _ _ _ _ _ (_ :: F)
  have hdl := Dg_len d
  have hrl := Dg_len root
  have hml : ((ns).map Prod.snd).length = ns.length := List.length_map ..
  subst hr
  refine WC_sr fun K1 hK1 => ?_
  refine WL_ac (Ac_boxW (k := .u8) rfl) rfl rfl rfl ?_
  rintro _ _ ⟨b7, rfl, rfl⟩
  refine WL_ac (Ac_boxW (k := .u8) rfl) rfl rfl rfl ?_
  rintro _ _ ⟨b8, rfl, rfl⟩
  refine WL_rd (Rd_assign rfl) rfl rfl rfl ?_
  refine WL_end hK1 ?_
  refine WC_sr fun K2 hK2 => ?_
  refine WL_rd (Rd_assign (v := sl none 0 0) rfl) rfl rfl rfl ?_
  refine WL_nilarr fD 32 42 ?_
  refine WL_end hK2 ?_
  refine WC_seq fun K3 hK3 => ?_
  refine WC_sr fun K4 hK4 => ?_
  refine WL_rd (Rd_move rfl) rfl rfl rfl ?_
  refine WL_rd (Rd_len_sv rfl rfl ud120) rfl rfl rfl ?_
  refine WL_rd (Rd_move rfl) rfl rfl rfl ?_
  refine WL_end hK4 ?_
  refine WC_block ?_
  rw [show ([] : List Dg) = ((ns.take 0).map Prod.snd) from rfl]
  refine WC_loopK (σ := Nat × (Option Nat) × Nat) (fun ⟨k, a, c⟩ => [(11, sl a ((ns.take k).map Prod.snd).length c), (18, .int .i64 ((k : Nat) : Int))]) (fun ⟨k, a, c⟩ => [arr a c 32 42 fD ((ns.take k).map Prod.snd)]) (fun ⟨k, a, c⟩ => k ≤ ns.length) (fun ⟨k, a, c⟩ => ns.length - k) ⟨0, none, 0⟩ [0, 1, 7, 8, 10, 14, 15, 16, 17, 28, 29, 30, 31, 32, 33, 34, 35, 36, 37, 38, 39, 40, 41, 42] (by repeat (first | exact Kep.nil | apply Kep.drop rfl | apply Kep.keep rfl)) (by (try dsimp only); repeat (first | with_reducible exact Gv.nil | (with_reducible apply Gv.cons; · (repeat (first | with_reducible exact Ext.here | with_reducible apply Ext.there))))) ?_ ?_ Sub.refl ?_
  · exact Nat.zero_le _
  · (try dsimp only); exact (Wk.cons (by first | rfl | (simp only [List.length_append, List.length_cons, List.length_nil, List.length_replicate, Nat.zero_add]; rfl) | (simp; done)) (Wk.cons (by first | rfl | (simp only [List.length_append, List.length_cons, List.length_nil, List.length_replicate, Nat.zero_add]; rfl) | (simp; done)) Wk.nil))
  · rintro ⟨k, a, c⟩ hk K5 hK5
    simp only [List.cons_append, List.nil_append]
    have htl : ((ns.take k).map Prod.snd).length ≤ ns.length := by simp; omega
    refine WC_sr fun K6 hK6 => ?_
    refine WL_rd (Rd_lssN rfl rfl) rfl rfl rfl ?_
    refine WL_end hK6 ?_
    refine WC_seq fun K7 hK7 => ?_
    refine WC_cond rfl (fun hc0 => ?_) (fun hc0 => ?_)
    · try simp only [decide_eq_true_eq, decide_eq_false_iff_not, Bool.not_eq_true', Bool.not_eq_false', Bool.not_eq_true, Bool.not_eq_false, Int.not_lt, Int.not_le, Nat.not_lt, Nat.not_le, Decidable.not_not, ne_eq] at hc0
      obtain ⟨x, hx⟩ : ∃ x, ns[k]? = some x := ⟨_, List.getElem?_eq_getElem (by omega)⟩
      have hxl := Dg_len x.2
      refine WC_skip ?_
      refine Ps_next hK7 ?_
      refine WC_seq fun K8 hK8 => ?_
      refine WC_block ?_
      refine WC_sr fun K9 hK9 => ?_
      refine WL_rd (Rd_index_sv k rfl rfl ud120 sz133 (hA := hS) (hi := by omega)) rfl rfl rfl ?_
      refine WL_rd (Rd_loadg_sv (f := eND) (i := k) rfl tk133 (hA := hS) (hl := hx)) rfl rfl rfl ?_
      refine WL_ac (Ac_alloc zr133) rfl rfl rfl ?_
      rintro _ _ ⟨b13, rfl, rfl⟩
      refine WL_ac0 (Ac_store (ys := eND x) rfl rfl sz133 (hv := by show (eND x).toArray.size = 33; rw [List.size_toArray, encND.len]) (h1 := encND.one x) (hr := by show ([] ++ eND x) ++ [] = eND x; rw [List.append_nil]; rfl)) rfl rfl ?_
      rintro _ _ rfl
      refine WL_end hK9 ?_
      refine WC_region ?_
      refine WL_rd (Rd_move rfl) rfl rfl rfl ?_
      refine WL_rd (Rd_fieldAddr rfl fo133_1) rfl rfl rfl ?_
      refine WL_rd (Rd_aU (k := .u8) (l := x.2.1) (Rd_loadg (vs := fD x.2) rfl tk42 (hl := by rw [encND.len]; decide) (hi := eND_dg x)) rfl) rfl rfl rfl ?_
      refine WL_ac (Ac_bs1 (xs := fD x.2) rfl ud76 zr42 sz42 (hl := encD.len _)) rfl rfl rfl ?_
      rintro _ _ ⟨b25, rfl, rfl⟩
      refine WL_ac (Ac_append1 (f := fD) encD x.2 rfl rfl ud76 ud76 el42) rfl rfl rfl ?_
      rintro _ _ ⟨a26, cap26, rfl, rfl⟩
      rw [show ((ns.take k).map Prod.snd) ++ [x.2] = ((ns.take (k + 1)).map Prod.snd) from by obtain ⟨hk2, e2⟩ := List.getElem?_eq_some_iff.1 hx; rw [List.take_succ_eq_append_getElem hk2, e2, List.map_append]; rfl, show ((ns.take k).map Prod.snd).length + 1 = ((ns.take (k + 1)).map Prod.snd).length from by simp; omega]
      refine WL_rd (Rd_assign rfl) rfl rfl rfl ?_
      refine WL_nil ?_
      refine Ps_next hK8 ?_
      refine WC_region ?_
      refine WL_rd (Rd_addN (j := 1) rfl rfl) rfl rfl rfl ?_
      refine WL_rd (Rd_move rfl) rfl rfl rfl ?_
      refine WL_nil ?_
      refine Ps_wk (by (try simp only [List.cons_append, List.nil_append]); repeat (first | with_reducible exact Wk.nil | refine Wk.cons (by first | rfl | (simp only [List.length_append, List.length_cons, List.length_nil, List.length_replicate, Nat.zero_add]; rfl) | (simp; done)) ?_)) (by (try simp only [List.cons_append, List.nil_append]); first | ((repeat (first | with_reducible exact Sub.refl | with_reducible apply Sub.cons Ext.here | with_reducible apply Sub.tail)); done) | (repeat (first | with_reducible exact Sub.refl | with_reducible exact Sub.nil | (with_reducible apply Sub.cons; · (repeat (first | with_reducible exact Ext.here | with_reducible apply Ext.there))) | with_reducible apply Sub.tail))) (hK5 ⟨k + 1, a26, cap26⟩ (by (try dsimp only); omega) (by (try dsimp only); omega))
    · try simp only [decide_eq_true_eq, decide_eq_false_iff_not, Bool.not_eq_true', Bool.not_eq_false', Bool.not_eq_true, Bool.not_eq_false, Int.not_lt, Int.not_le, Nat.not_lt, Nat.not_le, Decidable.not_not, ne_eq] at hc0
      obtain rfl : k = ns.length := by omega
      rw [List.take_length]
      refine WC_exit ?_
      refine Ps_next hK3 ?_
      refine WC_sr fun K10 hK10 => ?_
      refine WL_rd (Rd_move rfl) rfl rfl rfl ?_
      refine WL_rd (Rd_move rfl) rfl rfl rfl ?_
      refine WL_rd (Rd_loadW rfl tk42) rfl rfl rfl ?_
      refine WL_rd (Rd_move rfl) rfl rfl rfl ?_
      refine WL_fact (fun w h => arr_facts (a := a) (cap := c) (e := 32) (T := 42) (f := fD) (l := ((ns).map Prod.snd)) (by repeat (first | with_reducible exact Has.here | with_reducible refine Has.there ?_)) h) (fun hSlf => ?_)
      have hSl : Sv [arr a c 32 42 fD ((ns).map Prod.snd)] (sl a ((ns).map Prod.snd).length c) 32 fD ((ns).map Prod.snd) (a.map fun g => ⟨g, 0, none⟩) c := Sv_own' encD hSlf.1 hSlf.2
      refine WL_ac (Ac_call cf131 rfl (hs := rClimb_ct (n := (n : Int)) (l := (i : Int)) (d := d) (cs := ((ns).map Prod.snd)) (hS := hSl))) rfl rfl rfl ?_
      rintro _ _ ⟨⟨⟩, rfl, hA⟩
      simp only [List.cons_append, List.nil_append] at hA
      replace hA := hA.symm
      subst hA
      rw [he]
      have hcl := Dg_len (clD (n : Int) (i : Int) d ((ns).map Prod.snd))
      refine WL_rd (Rd_move rfl) rfl rfl rfl ?_
      refine WL_rd (Rd_ext0 rfl) rfl rfl rfl ?_
      refine WL_rd (Rd_ext1 rfl) rfl rfl rfl ?_
      refine WL_ac (Ac_allocW (k := .u8) (w := 8) (m := 32) zr42) rfl rfl rfl ?_
      rintro _ _ ⟨b14, rfl, rfl⟩
      refine WL_ac0 (Ac_storeW rfl rfl sz42) rfl rfl ?_
      rintro _ _ rfl
      refine WL_rd (Rd_assign rfl) rfl rfl rfl ?_
      refine WL_end hK10 ?_
      refine WC_sr fun K11 hK11 => ?_
      refine WL_rd (Rd_move rfl) rfl rfl rfl ?_
      refine WL_rd (Rd_isT (Rd_eqlN (j := 0) rfl rfl)) rfl rfl rfl ?_
      refine WL_rd (Rd_move rfl) rfl rfl rfl ?_
      refine WL_rd (Rd_loadW rfl tk42) rfl rfl rfl ?_
      refine WL_rd (Rd_loadW rfl tk42) rfl rfl rfl ?_
      refine WL_rd (Rd_isT (Rd_eqW rfl rfl ais42)) rfl rfl rfl ?_
      refine WL_rd (Rd_pickT rfl rfl) rfl rfl rfl ?_
      refine WL_rd (Rd_assign rfl) rfl rfl rfl ?_
      refine WL_end hK11 ?_
      refine WC_ret ?_
      exact hret.go () (Rs1 rfl rfl) (hs := by simp only [List.cons_append, List.nil_append]; first | ((repeat (first | with_reducible exact Sub.refl | with_reducible apply Sub.cons Ext.here | with_reducible apply Sub.tail)); done) | (repeat (first | with_reducible exact Sub.refl | with_reducible exact Sub.nil | (with_reducible apply Sub.cons; · (repeat (first | with_reducible exact Ext.here | with_reducible apply Ext.there))) | with_reducible apply Sub.tail)))
end Go.Proofs.Ytgkpbeikcpecbaa
