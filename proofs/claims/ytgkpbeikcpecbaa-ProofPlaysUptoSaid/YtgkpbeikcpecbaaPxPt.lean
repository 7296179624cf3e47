/-
  Contracts of functions that the claim reaches, or the logic and the plain laws that they rest on, or the row over them. (Conditions: none beyond the statement.)
-/
import Derived.Test.YtgkpbeikcpecbaaPxPs
import Derived.Test.YtgkpbeikcpecbaaPfZ
set_option linter.all false
namespace Go.Proofs.Ytgkpbeikcpecbaa
open Go.RowKit Go.SL Go.ShM
set_option maxHeartbeats 1000000
set_option maxRecDepth 20000
set_option linter.all false

theorem Rd_neg' {P : Program} {n : Nat} {L : List (Nat × Value)} {A : List Asn} {d : Option Nat} {ty : TypeId} {pos : String} {af : Array Edge} {g : Option (Nat × Bool)} {t : TypeId} {x : Operand} {k : IntKind} {i r : Int} (h : ev L x = some (.int k i)) (hr : k.wrap (0 - i) = r) : Rd P n ⟨d, .unOp .neg t x, ty, pos, af, g⟩ L A (.int k r) := hr ▸ Rd_neg h

theorem still_ct {kb n : Nat} {rs : List PR} {s : BKp} (h4 : rs.length = 4) (hB : BP s n := by assumption) (hnn : n ≤ 10000000 := by omega) : Ct Try.prog 93 [.pointer (some ⟨kb, 0, none⟩)] [cl kb 154 (PLc rs s), star (FP 3) s.is, arr s.ia s.ic 1 101 ePI s.is, star (FPN 133) s.ls, arr s.la s.lc 1 120 ePN s.ls, star (FPN 133) s.ts, arr s.ta s.tc 1 120 ePN s.ts] (fun _ : Unit => .bool true) (fun _ => [cl kb 154 (PLc rs s)]) := by
 refine Ct_body (n := 180) Try.func93 rfl rfl rfl fun F w0 Q hret hnorm hp => ?_
 change WC _ _ _ _ _ _ _ (_ :: _ :: _ :: _ :: _ :: _ :: _ :: F)
 have hlT := hB.len
 have hlL := hB.lL
 have hlI := hB.lI
 refine WC_fact (fun w h => arr_facts (a := s.la) (cap := s.lc) (e := 1) (T := 120) (f := ePN) (l := s.ls) hasA h) (fun hSlf => ?_)
 have hSl : Sv [arr s.la s.lc 1 120 ePN s.ls] (sl s.la s.ls.length s.lc) 1 ePN s.ls (s.la.map fun g => ⟨g, 0, none⟩) s.lc := Sv_own' encPN hSlf.1 hSlf.2
 refine WC_fact (fun w h => arr_facts (a := s.ta) (cap := s.tc) (e := 1) (T := 120) (f := ePN) (l := s.ts) hasA h) (fun hStf => ?_)
 have hSt : Sv [arr s.ta s.tc 1 120 ePN s.ts] (sl s.ta s.ts.length s.tc) 1 ePN s.ts (s.ta.map fun g => ⟨g, 0, none⟩) s.tc := Sv_own' encPN hStf.1 hStf.2
 refine WC_fact (fun w h => arr_facts (a := s.ia) (cap := s.ic) (e := 1) (T := 101) (f := ePI) (l := s.is) hasA h) (fun hSif => ?_)
 have hSi : Sv [arr s.ia s.ic 1 101 ePI s.is] (sl s.ia s.is.length s.ic) 1 ePI s.is (s.ia.map fun g => ⟨g, 0, none⟩) s.ic := Sv_own' encPI hSif.1 hSif.2
 refine WC_sr fun K1 hK1 => ?_
 refine WL_r (Rd_assign rfl) rfl ?_
 refine WL_end hK1 ?_
 refine WC_seq fun K2 hK2 => ?_
 refine WC_sr fun K3 hK3 => ?_
 refine WL_r (Rd_assign rfl) rfl ?_
 refine WL_end hK3 ?_
 refine WC_block ?_
 refine WC_loopK (σ := Nat) (fun j => [(3, .int .i64 ((j : Nat) : Int))]) (fun j => []) (fun j => j ≤ s.ls.length) (fun j => s.ls.length - j) (0) [0, 4, 5, 6, 7, 8, 9, 10, 11, 12, 38, 39, 40, 41, 42, 43, 44, 45, 46, 47, 48, 49, 50, 51, 52, 53, 54, 55, 56, 57, 58, 59, 60, 61, 62, 63, 64, 65, 66, 67, 68, 69, 70, 71, 72, 73, 74, 75, 76, 77, 78, 79, 80, 81, 82, 83, 84, 85, 86, 87, 88, 89, 90, 91, 92, 93, 94, 95, 96, 97, 98, 99, 100, 101, 102, 103, 104, 105, 106, 107, 108, 109, 110, 111, 112, 113, 114, 115, 116, 117, 118, 119, 120, 121, 122, 123, 124, 125, 126, 127, 128, 129, 130, 131, 132, 133, 134, 135, 136, 137, 138, 139, 140, 141, 142, 143, 144, 145, 146, 147, 148, 149, 150, 151, 152, 153, 154, 155, 156, 157, 158, 159, 160, 161, 162, 163, 164, 165, 166, 167, 168, 169, 170, 171, 172, 173, 174, 175, 176, 177, 178, 179] kpA (by (try dsimp only); repeat (first | with_reducible exact Gv.nil | (with_reducible apply Gv.cons; · (repeat (first | with_reducible exact Ext.here | with_reducible apply Ext.there))))) ?_ ?_ Sub.refl ?_
 ·exact Nat.zero_le _
 ·(try dsimp only); exact (Wk.cons lkA Wk.nil)
 ·rintro j hj K4 hK4
  simp only [List.cons_append, List.nil_append]
  refine WC_seq fun K5 hK5 => ?_
  refine WC_sr fun K6 hK6 => ?_
  refine WL_r (Rd_move rfl) rfl ?_
  refine WL_r (Rd_move rfl) rfl ?_
  refine WL_r (Rd_nilCheck rfl) rfl ?_
  refine WL_r (Rd_fieldAddr rfl fo154_3) rfl ?_
  refine WL_r (Rd_load rfl tk145 (v := sl s.la s.ls.length s.lc) (hi := PLc_t h4 1)) rfl ?_
  refine WL_r (Rd_len rfl rfl ud145) rfl ?_
  refine WL_r (Rd_lssN rfl rfl) rfl ?_
  refine WL_end hK6 ?_
  refine WC_cond rfl (fun hc0 => ?_) (fun hc0 => ?_)
  ·try simp only [dz, ne_eq] at hc0
   obtain ⟨p, hpj⟩ : ∃ p, s.ls[j]? = some p := ⟨_, List.getElem?_eq_getElem (by omega)⟩
   obtain ⟨p2, hp2⟩ : ∃ p, s.ts[j]? = some p := ⟨_, List.getElem?_eq_getElem (by omega)⟩
   have hpb := (hB.lp p (List.mem_of_getElem? hpj)).2.2
   have hpb2 := (hB.tp p2 (List.mem_of_getElem? hp2)).2.2
   refine WC_skip ?_
   refine Ps_next hK5 ?_
   refine WC_seq fun K7 hK7 => ?_
   refine WC_block ?_
   refine WC_seq fun K8 hK8 => ?_
   refine WC_drawA mix (fun i => ([2, 2, 2, 2, 2, 2, 2, 2, 2, 2, 2, 2, 2, 2, 1, 2] : List Nat).getD i 0) ?_
   refine WJ_tp 0 rfl (Rd_move rfl) rfl (hp _ _) ?_
   refine WJ_tp 1 rfl (Rd_nilCheck rfl) rfl (hp _ _) ?_
   refine WJ_tp 2 rfl (Rd_fieldAddr rfl fo154_3) rfl (hp _ _) ?_
   refine WJ_tk 3 (Rd_load rfl tk145 (v := sl s.la s.ls.length s.lc) (hi := PLc_t h4 1)) hp ?_ rfl (by kernel_rfl) rfl rfl rfl
   refine WJ_tp 4 rfl (Rd_move rfl) rfl (hp _ _) ?_
   refine WJ_tp 5 rfl (Rd_index_sv j rfl rfl ud145 sz120 (hA := hSl) (hi := by omega)) rfl (hp _ _) ?_
   refine WJ_tk 6 (Rd_load_sv (f := ePN) (i := j) (j := 0) (u := sl p.a p.l.length p.cap) rfl tk120 (hA := hSl) (hl := hpj)) hp ?_ rfl (by kernel_rfl) rfl rfl rfl
   refine WJ_tp 7 rfl (Rd_move rfl) rfl (hp _ _) ?_
   refine WJ_tp 8 rfl (Rd_nilCheck rfl) rfl (hp _ _) ?_
   refine WJ_tp 9 rfl (Rd_fieldAddr rfl fo154_4) rfl (hp _ _) ?_
   refine WJ_tk 10 (Rd_load rfl tk145 (v := sl s.ta s.ts.length s.tc) (hi := PLc_t h4 2)) hp ?_ rfl (by kernel_rfl) rfl rfl rfl
   refine WJ_tp 11 rfl (Rd_move rfl) rfl (hp _ _) ?_
   refine WJ_tp 12 rfl (Rd_index_sv j rfl rfl ud145 sz120 (hA := hSt) (hi := by omega)) rfl (hp _ _) ?_
   refine WJ_tk 13 (Rd_load_sv (f := ePN) (i := j) (j := 0) (u := sl p2.a p2.l.length p2.cap) rfl tk120 (hA := hSt) (hl := hp2)) hp ?_ rfl (by kernel_rfl) rfl rfl rfl
   refine WJ_all (rs := [14]) (by kernel_rfl) rfl ?_
   refine WI_one ?_
   refine WI_ac rfl (Ac_call cf154 rfl (hs := Ct.un0 (Xs := [star (FPN 133) s.ls, star (FPN 133) s.ts]) (sameN_ct (X := sep [star (FPN 133) s.ls, star (FPN 133) s.ts]) (la := p.l) (lb := p2.l) (hS := (Rd_ptN hB.lp hpj).pk hasA) (hS' := (Rd_ptN hB.tp hp2).pk hasA)))) rfl rfl rfl rfl ?_
   rintro _ _ ⟨⟨⟩, rfl, hA⟩
   simp only [List.cons_append, List.nil_append] at hA
   replace hA := hA.symm
   subst hA
   rw [decide_eq_true (hB.at hpj hp2)]
   refine ⟨(fun _ => subA), ?_⟩
   refine WJ_tp 15 rfl (Rd_not rfl) rfl (hp _ _) ?_
   refine WJ_done (by kernel_rfl) ?_
   refine Ps_next hK8 ?_
   refine WC_condF rfl ?_
   refine WC_skip ?_
   refine Ps_next hK7 ?_
   refine WC_region ?_
   refine WL_r (Rd_move rfl) rfl ?_
   refine WL_r (Rd_addN (j := 1) rfl rfl) rfl ?_
   refine WL_r (Rd_assign rfl) rfl ?_
   refine WL_nil ?_
   refine Ps_wkB (hK4 (j + 1) (by omega) (by omega))
  ·try simp only [dz, ne_eq] at hc0
   refine WC_exit ?_
   refine Ps_next hK2 ?_
   refine WC_sr fun K9 hK9 => ?_
   refine WL_r (Rd_assign (v := sl none 0 0) rfl) rfl ?_
   refine WL_nilarr eQI 1 120 ?_
   refine WL_end hK9 ?_
   refine WC_seq fun K10 hK10 => ?_
   refine WC_sr fun K11 hK11 => ?_
   refine WL_r (Rd_assign rfl) rfl ?_
   refine WL_end hK11 ?_
   refine WC_block ?_
   rw [show star (FPN 133) s.ls = star (FPN 133) (mkdN s.ls 0) from by rw [mkdN_0]]
   refine WC_loopK (σ := Nat) (fun k => [(5, .int .i64 ((k : Nat) : Int))]) (fun k => [star (FPN 133) (mkdN s.ls k)]) (fun k => k ≤ s.ls.length) (fun k => s.ls.length - k) (0) [0, 2, 4, 7, 8, 9, 10, 11, 12, 75, 76, 77, 78, 79, 80, 81, 82, 83, 84, 85, 86, 87, 88, 89, 90, 91, 92, 93, 94, 95, 96, 97, 98, 99, 100, 101, 102, 103, 104, 105, 106, 107, 108, 109, 110, 111, 112, 113, 114, 115, 116, 117, 118, 119, 120, 121, 122, 123, 124, 125, 126, 127, 128, 129, 130, 131, 132, 133, 134, 135, 136, 137, 138, 139, 140, 141, 142, 143, 144, 145, 146, 147, 148, 149, 150, 151, 152, 153, 154, 155, 156, 157, 158, 159, 160, 161, 162, 163, 164, 165, 166, 167, 168, 169, 170, 171, 172, 173, 174, 175, 176, 177, 178, 179] kpA (by (try dsimp only); repeat (first | with_reducible exact Gv.nil | (with_reducible apply Gv.cons; · (repeat (first | with_reducible exact Ext.here | with_reducible apply Ext.there))))) ?_ ?_ Sub.refl ?_
   ·exact Nat.zero_le _
   ·(try dsimp only); exact (Wk.cons lkA Wk.nil)
   ·rintro k hk K12 hK12
    simp only [List.cons_append, List.nil_append]
    refine WC_seq fun K13 hK13 => ?_
    refine WC_sr fun K14 hK14 => ?_
    refine WL_r (Rd_move rfl) rfl ?_
    refine WL_r (Rd_move rfl) rfl ?_
    refine WL_r (Rd_nilCheck rfl) rfl ?_
    refine WL_r (Rd_fieldAddr rfl fo154_3) rfl ?_
    refine WL_r (Rd_load rfl tk145 (v := sl s.la s.ls.length s.lc) (hi := PLc_t h4 1)) rfl ?_
    refine WL_r (Rd_len rfl rfl ud145) rfl ?_
    refine WL_r (Rd_lssN rfl rfl) rfl ?_
    refine WL_end hK14 ?_
    refine WC_cond rfl (fun hc2 => ?_) (fun hc2 => ?_)
    ·try simp only [dz, ne_eq] at hc2
     obtain ⟨⟨pa, pc, pl⟩, hpk⟩ : ∃ p, s.ls[k]? = some p := ⟨_, List.getElem?_eq_getElem (by omega)⟩
     have hpb := (hB.lp _ (List.mem_of_getElem? hpk)).2.2
     dsimp only at hpb
     refine WC_open (FPN 133) (mkdN s.ls k) k (x := ⟨pa, pc, pl⟩) (by rw [mkdN_at hpk, if_neg (by omega)]) ?_
     rw [show (FPN 133) ⟨pa, pc, pl⟩ = arr pa pc 33 133 eND pl from rfl]
     refine WC_skip ?_
     refine Ps_next hK13 ?_
     refine WC_seq fun K15 hK15 => ?_
     refine WC_block ?_
     refine WC_sr fun K16 hK16 => ?_
     refine WL_r (Rd_assign rfl) rfl ?_
     refine WL_end hK16 ?_
     refine WC_block ?_
     rw [show arr pa pc 33 133 eND pl = arr pa pc 33 133 eND (ovl (nM (k + 1)) pl 0) from by rw [ovl_0]]
     refine WC_loopK (σ := Nat) (fun i' => [(6, .int .i64 ((i' : Nat) : Int))]) (fun i' => [arr pa pc 33 133 eND (ovl (nM (k + 1)) pl i')]) (fun i' => i' ≤ pl.length) (fun i' => pl.length - i') (0) [0, 2, 4, 5, 7, 8, 9, 10, 11, 12, 38, 39, 40, 41, 42, 43, 44, 45, 46, 75, 76, 77, 78, 79, 80, 81, 82, 83, 84, 85, 86, 87, 88, 89, 90, 91, 92, 93, 94, 95, 96, 97, 98, 99, 100, 101, 102, 103, 104, 105, 106, 107, 108, 109, 110, 111, 112, 113, 114, 115, 116, 117, 118, 119, 120, 121, 122, 123, 124, 125, 126, 127, 128, 129, 130, 131, 132, 133, 134, 135, 136, 137, 138, 139, 140, 141, 142, 143, 144, 145, 146, 147, 148, 149, 150, 151, 152, 153, 154, 155, 156, 157, 158, 159, 160, 161, 162, 163, 164, 165, 166, 167, 168, 169, 170, 171, 172, 173, 174, 175, 176, 177, 178, 179] kpA (by (try dsimp only); repeat (first | with_reducible exact Gv.nil | (with_reducible apply Gv.cons; · (repeat (first | with_reducible exact Ext.here | with_reducible apply Ext.there))))) ?_ ?_ Sub.refl ?_
     ·exact Nat.zero_le _
     ·(try dsimp only); exact (Wk.cons lkA Wk.nil)
     ·rintro i' hi K17 hK17
      simp only [List.cons_append, List.nil_append]
      have hol := ovl_len (nM (k + 1)) hi
      have hbd := Dg_len (bD i')
      refine WC_seq fun K18 hK18 => ?_
      refine WC_sr fun K19 hK19 => ?_
      refine WL_r (Rd_move rfl) rfl ?_
      refine WL_r (Rd_move rfl) rfl ?_
      refine WL_r (Rd_nilCheck rfl) rfl ?_
      refine WL_r (Rd_fieldAddr rfl fo154_3) rfl ?_
      refine WL_r (Rd_load rfl tk145 (v := sl s.la s.ls.length s.lc) (hi := PLc_t h4 1)) rfl ?_
      refine WL_r (Rd_move rfl) rfl ?_
      refine WL_r (Rd_index_sv k rfl rfl ud145 sz120 (hA := hSl) (hi := by omega)) rfl ?_
      refine WL_r (Rd_load_sv (f := ePN) (i := k) (j := 0) (u := sl pa pl.length pc) rfl tk120 (hA := hSl) (hl := hpk)) rfl ?_
      refine WL_r (Rd_len rfl rfl ud120) rfl ?_
      refine WL_r (Rd_lssN rfl rfl) rfl ?_
      refine WL_end hK19 ?_
      refine WC_cond rfl (fun hc3 => ?_) (fun hc3 => ?_)
      ·try simp only [dz, ne_eq] at hc3
       refine WC_some (a := pa) hasA (by omega) (fun gb hgb hcp => ?_)
       subst hgb
       refine WC_skip ?_
       refine Ps_next hK18 ?_
       refine WC_seq fun K20 hK20 => ?_
       refine WC_block ?_
       refine WC_region ?_
       refine WL_r (Rd_move rfl) rfl ?_
       refine WL_r (Rd_nilCheck rfl) rfl ?_
       refine WL_r (Rd_fieldAddr rfl fo154_3) rfl ?_
       refine WL_r (Rd_load rfl tk145 (v := sl s.la s.ls.length s.lc) (hi := PLc_t h4 1)) rfl ?_
       refine WL_r (Rd_move rfl) rfl ?_
       refine WL_r (Rd_index_sv k rfl rfl ud145 sz120 (hA := hSl) (hi := by omega)) rfl ?_
       refine WL_r (Rd_load_sv (f := ePN) (i := k) (j := 0) (u := sl (some gb) pl.length pc) rfl tk120 (hA := hSl) (hl := hpk)) rfl ?_
       refine WL_r (Rd_move rfl) rfl ?_
       refine WL_r (Rd_move rfl) rfl ?_
       refine WL_r (Rd_neg' (r := -((k : Nat) : Int)) rfl (wr64 (by omega) (by omega) (by omega))) rfl ?_
       refine WL_r (Rd_sub' (r := -((k + 1 : Nat) : Int) - 1) rfl rfl (wr64 (by omega) (by omega) (by omega))) rfl ?_
       refine WL_r (Rd_move rfl) rfl ?_
       refine WL_r (Rd_convNU rfl ikd3_5 (h' := uk8)) rfl ?_
       refine WL_r (Rd_aU (k := .u8) (l := (bD (i')).1) (Rd_build pls42 rfl) (by rfl)) rfl ?_
       refine WL_r (Rd_build pls133 rfl (hf := fillND (i := -((k + 1 : Nat) : Int) - 1) (d := bD (i')) rfl)) rfl ?_
       refine WL_r (Rd_index i' rfl rfl ud120 sz133 (hi := by omega)) rfl ?_
       refine WL_ac0 (Ac_storeg_arr (nM (k + 1) i') rfl rfl sz133 (i := i') (hl := by rw [hol]; omega) (h1 := encND.one _)) rfl rfl ?_
       rintro _ _ rfl
       rw [ovl_set (nM (k + 1)) (by omega)]
       refine WL_nil ?_
       refine Ps_next hK20 ?_
       refine WC_region ?_
       refine WL_r (Rd_move rfl) rfl ?_
       refine WL_r (Rd_addN (j := 1) rfl rfl) rfl ?_
       refine WL_r (Rd_assign rfl) rfl ?_
       refine WL_nil ?_
       refine Ps_wkB (hK17 (i' + 1) (by omega) (by omega))
      ·try simp only [dz, ne_eq] at hc3
       obtain rfl : i' = pl.length := by omega
       rw [ovl_all]
       rw [show arr pa pc 33 133 eND (mks (nM (k + 1)) 0 pl.length) = (FPN 133) (mkPN k ⟨pa, pc, pl⟩) from rfl]
       refine WC_shut (FPN 133) (mkdN s.ls k) k (mkPN k ⟨pa, pc, pl⟩) (by rw [mkdN_len]; omega) ?_
       rw [mkdN_set hpk]
       refine WC_exit ?_
       refine Ps_next hK15 ?_
       refine WC_region ?_
       refine WL_r (Rd_move rfl) rfl ?_
       refine WL_r (Rd_addN (j := 1) rfl rfl) rfl ?_
       refine WL_r (Rd_assign rfl) rfl ?_
       refine WL_nil ?_
       refine Ps_wkB (hK12 (k + 1) (by omega) (by omega))
    ·try simp only [dz, ne_eq] at hc2
     obtain rfl : k = s.ls.length := by omega
     rw [show star (FPN 133) (mkdN s.ls s.ls.length) = star (FPN 133) ((mkdN s.ls s.ls.length).drop 0) from rfl]
     refine WC_exit ?_
     refine Ps_next hK10 ?_
     refine WC_seq fun K21 hK21 => ?_
     refine WC_sr fun K22 hK22 => ?_
     refine WL_r (Rd_assign rfl) rfl ?_
     refine WL_end hK22 ?_
     refine WC_block ?_
     refine WC_star0 (FQN 133) ?_
     refine WC_loopK (σ := Nat × (List QI) × (Option Nat) × Nat) (fun ⟨k, qs, go, gc⟩ => [(4, sl go qs.length gc), (7, .int .i64 ((k : Nat) : Int))]) (fun ⟨k, qs, go, gc⟩ => [star (FQN 133) qs, star (FPN 133) ((mkdN s.ls s.ls.length).drop k), arr go gc 1 120 eQI qs]) (fun ⟨k, qs, go, gc⟩ => k ≤ s.ls.length ∧ qs.length = k ∧ QOkN s.ls qs) (fun ⟨k, qs, go, gc⟩ => s.ls.length - k) ⟨0, [], none, 0⟩ [0, 2, 10, 11, 12, 118, 119, 120, 121, 122, 123, 124, 125, 126, 127, 128, 129, 130, 131, 132, 133, 134, 135, 136, 137, 138, 139, 140, 141, 142, 143, 144, 145, 146, 147, 148, 149, 150, 151, 152, 153, 154, 155, 156, 157, 158, 159, 160, 161, 162, 163, 164, 165, 166, 167, 168, 169, 170, 171, 172, 173, 174, 175, 176, 177, 178, 179] kpA (by (try dsimp only); repeat (first | with_reducible exact Gv.nil | (with_reducible apply Gv.cons; · (repeat (first | with_reducible exact Ext.here | with_reducible apply Ext.there))))) ?_ ?_ Sub.refl ?_
     ·exact ⟨Nat.zero_le _, rfl, QOkN_nil⟩
     ·(try dsimp only); exact (Wk.cons lkA (Wk.cons lkA Wk.nil))
     ·rintro ⟨k, qs, go, gc⟩ ⟨hk, hql, hQ⟩ K23 hK23
      simp only [List.cons_append, List.nil_append]
      refine WC_seq fun K24 hK24 => ?_
      refine WC_sr fun K25 hK25 => ?_
      refine WL_r (Rd_move rfl) rfl ?_
      refine WL_r (Rd_move rfl) rfl ?_
      refine WL_r (Rd_nilCheck rfl) rfl ?_
      refine WL_r (Rd_fieldAddr rfl fo154_3) rfl ?_
      refine WL_r (Rd_load rfl tk145 (v := sl s.la s.ls.length s.lc) (hi := PLc_t h4 1)) rfl ?_
      refine WL_r (Rd_len rfl rfl ud145) rfl ?_
      refine WL_r (Rd_lssN rfl rfl) rfl ?_
      refine WL_end hK25 ?_
      refine WC_cond rfl (fun hc4 => ?_) (fun hc4 => ?_)
      ·try simp only [dz, ne_eq] at hc4
       obtain ⟨⟨pa, pc, pl⟩, hpk⟩ : ∃ p, s.ls[k]? = some p := ⟨_, List.getElem?_eq_getElem (by omega)⟩
       have hpb := (hB.lp _ (List.mem_of_getElem? hpk)).2.2
       dsimp only at hpb
       refine WC_drop (FPN 133) (mkdN s.ls s.ls.length) k (x := mkPN k ⟨pa, pc, pl⟩) (mkdN_all hpk) ?_
       rw [show (FPN 133) (mkPN k ⟨pa, pc, pl⟩) = arr pa pc 33 133 eND (mks (nM (k + 1)) 0 pl.length) from rfl]
       refine WC_fact (fun w h => arr_facts (a := pa) (cap := pc) (e := 33) (T := 133) (f := eND) (l := mks (nM (k + 1)) 0 pl.length) hasA h) (fun hpf => ?_)
       rw [mks_len] at hpf
       refine WC_imp (fun w h => apk_start h) ?_
       refine WC_skip ?_
       refine Ps_next hK24 ?_
       refine WC_seq fun K26 hK26 => ?_
       refine WC_block ?_
       refine WC_sr fun K27 hK27 => ?_
       refine WL_r (Rd_move rfl) rfl ?_
       refine WL_r (Rd_nilCheck rfl) rfl ?_
       refine WL_r (Rd_fieldAddr rfl fo154_3) rfl ?_
       refine WL_r (Rd_load rfl tk145 (v := sl s.la s.ls.length s.lc) (hi := PLc_t h4 1)) rfl ?_
       refine WL_r (Rd_move rfl) rfl ?_
       refine WL_r (Rd_index_sv k rfl rfl ud145 sz120 (hA := hSl) (hi := by omega)) rfl ?_
       refine WL_r (Rd_load_sv (f := ePN) (i := k) (j := 0) (u := sl pa pl.length pc) rfl tk120 (hA := hSl) (hl := hpk)) rfl ?_
       refine WL_r (Rd_assign rfl) rfl ?_
       refine WL_end hK27 ?_
       refine WC_seq fun K28 hK28 => ?_
       refine WC_sr fun K29 hK29 => ?_
       refine WL_r (Rd_assign rfl) rfl ?_
       refine WL_end hK29 ?_
       refine WC_block ?_
       rw [show apk pa pc pa pc 33 133 eND (mks (nM (k + 1)) 0 pl.length) (mks (nM (k + 1)) 0 pl.length) = apk pa pc pa pc 33 133 eND (mks (nM (k + 1)) 0 pl.length) (mks (nM (k + 1)) 0 (pl.length + 0)) from rfl]
       refine WC_loopK (σ := Nat × (Option Nat) × Nat) (fun ⟨i', a', c'⟩ => [(8, sl a' (pl.length + i') c'), (9, .int .i64 ((i' : Nat) : Int))]) (fun ⟨i', a', c'⟩ => [apk pa pc a' c' 33 133 eND (mks (nM (k + 1)) 0 pl.length) (mks (nM (k + 1)) 0 (pl.length + i'))]) (fun ⟨i', a', c'⟩ => i' ≤ 70) (fun ⟨i', a', c'⟩ => 70 - i') ⟨0, pa, pc⟩ [0, 2, 4, 7, 10, 11, 12, 75, 76, 77, 78, 79, 80, 81, 82, 83, 84, 85, 86, 87, 88, 89, 90, 114, 115, 116, 117, 118, 119, 120, 121, 122, 123, 124, 125, 126, 127, 128, 129, 130, 131, 132, 133, 134, 135, 136, 137, 138, 139, 140, 141, 142, 143, 144, 145, 146, 147, 148, 149, 150, 151, 152, 153, 154, 155, 156, 157, 158, 159, 160, 161, 162, 163, 164, 165, 166, 167, 168, 169, 170, 171, 172, 173, 174, 175, 176, 177, 178, 179] kpA (by (try dsimp only); repeat (first | with_reducible exact Gv.nil | (with_reducible apply Gv.cons; · (repeat (first | with_reducible exact Ext.here | with_reducible apply Ext.there))))) ?_ ?_ Sub.refl ?_
       ·exact Nat.zero_le _
       ·(try dsimp only); exact (Wk.cons lkA (Wk.cons lkA Wk.nil))
       ·rintro ⟨i', a', c'⟩ hi K30 hK30
        simp only [List.cons_append, List.nil_append]
        have hml := mks_len (nM (k + 1)) 0 (pl.length + i')
        have hbd := Dg_len (bD (pl.length + i'))
        refine WC_seq fun K31 hK31 => ?_
        refine WC_sr fun K32 hK32 => ?_
        refine WL_r (Rd_move rfl) rfl ?_
        refine WL_r (Rd_lssN (j := 70) rfl rfl) rfl ?_
        refine WL_end hK32 ?_
        refine WC_cond rfl (fun hc5 => ?_) (fun hc5 => ?_)
        ·try simp only [dz, ne_eq] at hc5
         refine WC_skip ?_
         refine Ps_next hK31 ?_
         refine WC_seq fun K33 hK33 => ?_
         refine WC_block ?_
         refine WC_region ?_
         refine WL_r (Rd_move rfl) rfl ?_
         refine WL_r (Rd_move rfl) rfl ?_
         refine WL_r (Rd_neg' (r := -((k : Nat) : Int)) rfl (wr64 (by omega) (by omega) (by omega))) rfl ?_
         refine WL_r (Rd_sub' (r := -((k + 1 : Nat) : Int) - 1) rfl rfl (wr64 (by omega) (by omega) (by omega))) rfl ?_
         refine WL_r (Rd_move rfl) rfl ?_
         refine WL_r (Rd_nilCheck rfl) rfl ?_
         refine WL_r (Rd_fieldAddr rfl fo154_3) rfl ?_
         refine WL_r (Rd_load rfl tk145 (v := sl s.la s.ls.length s.lc) (hi := PLc_t h4 1)) rfl ?_
         refine WL_r (Rd_move rfl) rfl ?_
         refine WL_r (Rd_index_sv k rfl rfl ud145 sz120 (hA := hSl) (hi := by omega)) rfl ?_
         refine WL_r (Rd_load_sv (f := ePN) (i := k) (j := 0) (u := sl pa pl.length pc) rfl tk120 (hA := hSl) (hl := hpk)) rfl ?_
         refine WL_r (Rd_len rfl rfl ud120) rfl ?_
         refine WL_r (Rd_move rfl) rfl ?_
         refine WL_r (Rd_addN rfl rfl) rfl ?_
         refine WL_r (Rd_convNU rfl ikd3_5 (h' := uk8)) rfl ?_
         refine WL_r (Rd_aU (k := .u8) (l := (bD (pl.length + i')).1) (Rd_build pls42 rfl) (by rfl)) rfl ?_
         refine WL_r (Rd_build pls133 rfl (hf := fillND (i := -((k + 1 : Nat) : Int) - 1) (d := bD (pl.length + i')) rfl)) rfl ?_
         refine WL_ac (Ac_bs1 (xs := eND (nM (k + 1) (pl.length + i'))) rfl ud120 zr133 sz133 (hl := encND.len _)) rfl rfl rfl ?_
         rintro _ _ ⟨b112, rfl, rfl⟩
         refine WL_ac (Ac_apk1 (l := mks (nM (k + 1)) 0 pl.length) (l' := mks (nM (k + 1)) 0 (pl.length + i')) encND (nM (k + 1) (pl.length + i')) rfl rfl ud120 ud120 el133 (mks_pre _ _ _) (hlen := by rw [mks_len])) rfl rfl rfl ?_
         rintro _ _ ⟨a113, cap113, rfl, rfl⟩
         rw [mks_len, mks_one, Nat.add_assoc]
         refine WL_r (Rd_assign rfl) rfl ?_
         refine WL_nil ?_
         refine Ps_next hK33 ?_
         refine WC_region ?_
         refine WL_r (Rd_move rfl) rfl ?_
         refine WL_r (Rd_addN (j := 1) rfl rfl) rfl ?_
         refine WL_r (Rd_assign rfl) rfl ?_
         refine WL_nil ?_
         refine Ps_wkB (hK30 ⟨i' + 1, a113, cap113⟩ (by dsimp only; omega) (by dsimp only; omega))
        ·try simp only [dz, ne_eq] at hc5
         obtain rfl : i' = 70 := by omega
         refine WC_fact (fun w h => apk_factsN (a := pa) (cap := pc) (a' := a') (cap' := c') (e := 33) (T := 133) (f := eND) (l := mks (nM (k + 1)) 0 pl.length) (l' := mks (nM (k + 1)) 0 (pl.length + 70)) h) (fun hqf => ?_)
         rw [mks_len] at hqf
         have hq1 : a' ≠ none := fun e => by have := congrArg List.length (hqf.1 e); rw [mks_len] at this; simp at this
         have hq2 : pl.length + 70 ≤ c' := hqf.2
         have hq3 : pa = none → pl.length = 0 := fun e => by have := congrArg List.length (hpf.1 e); rw [mks_len] at this; exact this
         have hq4 : pl.length ≤ pc := hpf.2
         rw [show apk pa pc a' c' 33 133 eND (mks (nM (k + 1)) 0 pl.length) (mks (nM (k + 1)) 0 (pl.length + 70)) = (FQN 133) ⟨pa, pc, a', c', pl.length, k⟩ from rfl]
         refine WC_snoc (FQN 133) qs ⟨pa, pc, a', c', pl.length, k⟩ ?_
         refine WC_exit ?_
         refine Ps_next hK28 ?_
         refine WC_region ?_
         refine WL_r (Rd_move rfl) rfl ?_
         refine WL_r (Rd_move rfl) rfl ?_
         refine WL_ac (Ac_bs1 (xs := [sl a' (pl.length + 70) c']) rfl ud145 zr120 sz120) rfl rfl rfl ?_
         rintro _ _ ⟨b116, rfl, rfl⟩
         refine WL_ac (Ac_append1 (f := eQI) encQI ⟨pa, pc, a', c', pl.length, k⟩ rfl rfl ud145 ud145 el120) rfl rfl rfl ?_
         rintro _ _ ⟨a117, cap117, rfl, rfl⟩
         refine WL_r (Rd_assign rfl) rfl ?_
         refine WL_nil ?_
         refine Ps_next hK26 ?_
         refine WC_region ?_
         refine WL_r (Rd_move rfl) rfl ?_
         refine WL_r (Rd_addN (j := 1) rfl rfl) rfl ?_
         refine WL_r (Rd_assign rfl) rfl ?_
         refine WL_nil ?_
         refine Ps_wkB (hK23 ⟨k + 1, qs ++ [⟨pa, pc, a', c', pl.length, k⟩], a117, cap117⟩ (⟨by (try dsimp only); omega, by (try dsimp only); rw [List.length_append, List.length_singleton]; omega, QOkN_snoc hQ (p := ⟨pa, pc, pl⟩) (by rw [hql]; exact hpk) (by (try dsimp only); omega) hq1 hq2 hq3 hq4 rfl rfl rfl⟩) (by (try dsimp only); omega))
      ·try simp only [dz, ne_eq] at hc4
       obtain rfl : k = s.ls.length := by omega
       refine WC_exit ?_
       refine Ps_next hK21 ?_
       refine WC_seq fun K34 hK34 => ?_
       refine WC_sr fun K35 hK35 => ?_
       refine WL_r (Rd_assign rfl) rfl ?_
       refine WL_end hK35 ?_
       refine WC_block ?_
       refine WC_loopK (σ := Nat) (fun k2 => [(10, .int .i64 ((k2 : Nat) : Int))]) (fun k2 => []) (fun k2 => k2 ≤ s.ls.length) (fun k2 => s.ls.length - k2) (0) [0, 4, 175, 176, 177, 178, 179] kpA (by (try dsimp only); repeat (first | with_reducible exact Gv.nil | (with_reducible apply Gv.cons; · (repeat (first | with_reducible exact Ext.here | with_reducible apply Ext.there))))) ?_ ?_ Sub.refl ?_
       ·exact Nat.zero_le _
       ·(try dsimp only); exact (Wk.cons lkA Wk.nil)
       ·rintro k2 hk2 K36 hK36
        simp only [List.cons_append, List.nil_append]
        refine WC_seq fun K37 hK37 => ?_
        refine WC_sr fun K38 hK38 => ?_
        refine WL_r (Rd_move rfl) rfl ?_
        refine WL_r (Rd_move rfl) rfl ?_
        refine WL_r (Rd_len rfl rfl ud145) rfl ?_
        refine WL_r (Rd_lssN rfl rfl) rfl ?_
        refine WL_end hK38 ?_
        refine WC_cond rfl (fun hc6 => ?_) (fun hc6 => ?_)
        ·try simp only [dz, ne_eq] at hc6
         refine WC_some (a := go) hasA (by omega) (fun gb hgb hcg => ?_)
         subst hgb
         obtain ⟨q, hq⟩ : ∃ q, qs[k2]? = some q := ⟨_, List.getElem?_eq_getElem (by omega)⟩
         obtain ⟨hqj, hqa, hqc, hqn, hqm, ⟨qa, qcp, ql⟩, hpk, hea, hec, hel⟩ := hQ k2 q hq
         dsimp only at hea hec hel
         have hpb := (hB.lp _ (List.mem_of_getElem? hpk)).2.2
         dsimp only at hpb
         have hsn := Sv.star (F := (FQN 133)) k2 hq (Sv_FQNn (T := 133) hqa hqc)
         have hse := Sv.star (F := (FQN 133)) k2 hq (Sv_FQNe (T := 133) hqn hqm)
         rw [hqj] at hsn hse
         have hse' := hse
         rw [hea, hec, hel] at hse'
         refine WC_skip ?_
         refine Ps_next hK37 ?_
         refine WC_seq fun K39 hK39 => ?_
         refine WC_block ?_
         refine WC_sr fun K40 hK40 => ?_
         refine WL_r (Rd_assign rfl) rfl ?_
         refine WL_end hK40 ?_
         refine WC_block ?_
         refine WC_loopK (σ := Nat) (fun i2 => [(11, .int .i64 ((i2 : Nat) : Int))]) (fun i2 => []) (fun i2 => i2 ≤ q.n + 70) (fun i2 => q.n + 70 - i2) (0) [0, 4, 10, 118, 119, 120, 121, 122, 123, 175, 176, 177, 178, 179] kpA (by (try dsimp only); repeat (first | with_reducible exact Gv.nil | (with_reducible apply Gv.cons; · (repeat (first | with_reducible exact Ext.here | with_reducible apply Ext.there))))) ?_ ?_ Sub.refl ?_
         ·exact Nat.zero_le _
         ·(try dsimp only); exact (Wk.cons lkA Wk.nil)
         ·rintro i2 hi2 K41 hK41
          simp only [List.cons_append, List.nil_append]
          have hbd := Dg_len (bD i2)
          refine WC_seq fun K42 hK42 => ?_
          refine WC_sr fun K43 hK43 => ?_
          refine WL_r (Rd_move rfl) rfl ?_
          refine WL_r (Rd_move rfl) rfl ?_
          refine WL_r (Rd_move rfl) rfl ?_
          refine WL_r (Rd_index k2 rfl rfl ud145 sz120 (hi := by omega)) rfl ?_
          refine WL_r (Rd_load_arr (f := eQI) (i := k2) (j := 0) rfl tk120 (hl := hq)) rfl ?_
          refine WL_r (Rd_len rfl rfl ud120) rfl ?_
          refine WL_r (Rd_lssN rfl rfl) rfl ?_
          refine WL_end hK43 ?_
          refine WC_cond rfl (fun hc7 => ?_) (fun hc7 => ?_)
          ·try simp only [dz, ne_eq] at hc7
           refine WC_skip ?_
           refine Ps_next hK42 ?_
           refine WC_seq fun K44 hK44 => ?_
           refine WC_block ?_
           refine WC_sr fun K45 hK45 => ?_
           refine WL_r (Rd_move rfl) rfl ?_
           refine WL_r (Rd_neg' (r := -((k2 : Nat) : Int)) rfl (wr64 (by omega) (by omega) (by omega))) rfl ?_
           refine WL_r (Rd_sub' (r := -((k2 + 1 : Nat) : Int) - 1) rfl rfl (wr64 (by omega) (by omega) (by omega))) rfl ?_
           refine WL_r (Rd_move rfl) rfl ?_
           refine WL_r (Rd_convNU rfl ikd3_5 (h' := uk8)) rfl ?_
           refine WL_r (Rd_aU (k := .u8) (l := (bD (i2)).1) (Rd_build pls42 rfl) (by rfl)) rfl ?_
           refine WL_r (Rd_build pls133 rfl (hf := fillND (i := -((k2 + 1 : Nat) : Int) - 1) (d := bD (i2)) rfl)) rfl ?_
           refine WL_ac (Ac_alloc zr133) rfl rfl rfl ?_
           rintro _ _ ⟨b12, rfl, rfl⟩
           refine WL_ac0 (Ac_store (ys := eND (nM (k2 + 1) i2)) rfl rfl sz133 (hv := by show (eND (nM (k2 + 1) i2)).toArray.size = 33; rw [List.size_toArray, encND.len]) (h1 := encND.one (nM (k2 + 1) i2)) (hr := by show ([] ++ eND (nM (k2 + 1) i2)) ++ [] = eND (nM (k2 + 1) i2); rw [List.append_nil]; rfl)) rfl rfl ?_
           rintro _ _ rfl
           refine WL_end hK45 ?_
           refine WC_seq fun K46 hK46 => ?_
           refine WC_drawA mix (fun i => ([2, 2, 2, 2, 2, 2, 2, 2, 2, 2, 2, 2, 2, 2, 2, 2, 2, 2, 2, 2, 2, 2, 2, 2, 2, 2, 2, 2, 2, 2, 2, 2, 2, 2, 2] : List Nat).getD i 0) ?_
           refine WJ_tp 0 rfl (Rd_move rfl) rfl (hp _ _) ?_
           refine WJ_tp 1 rfl (Rd_move rfl) rfl (hp _ _) ?_
           refine WJ_tp 2 rfl (Rd_index k2 rfl rfl ud145 sz120 (hi := by omega)) rfl (hp _ _) ?_
           refine WJ_tk 3 (Rd_load_arr (f := eQI) (i := k2) (j := 0) rfl tk120 (hl := hq)) hp ?_ rfl (by kernel_rfl) rfl rfl rfl
           refine WJ_tp 4 rfl (Rd_move rfl) rfl (hp _ _) ?_
           refine WJ_tp 5 rfl (Rd_index_sv i2 rfl rfl ud120 sz133 (hA := hsn) (hi := by rw [mks_len]; omega)) rfl (hp _ _) ?_
           refine WJ_tk 6 (Rd_loadg_sv (f := eND) (i := i2) rfl tk133 (hA := hsn) (hl := mks_at (by omega))) hp ?_ rfl (by kernel_rfl) rfl rfl rfl
           refine WJ_tk 7 (Rd_loadg (vs := eND (nM (k2 + 1) i2)) rfl tk133 (hl := by rw [encND.len]; decide) (hi := by rw [List.drop_zero, List.take_of_length_le (by rw [encND.len]; decide)])) hp ?_ rfl (by kernel_rfl) rfl rfl rfl
           refine WJ_tp 8 rfl (Rd_isF (Rd_neNd (a := (nM (k2 + 1) (0 + i2))) (b := (nM (k2 + 1) i2)) rfl rfl fls133 tk3 ud3 tk42 ais42) (by rw [Nat.zero_add]; simp)) rfl (hp _ _) ?_
           refine WJ_tp 9 rfl (Rd_move rfl) rfl (hp _ _) ?_
           refine WJ_tp 10 rfl (Rd_move rfl) rfl (hp _ _) ?_
           refine WJ_tp 11 rfl (Rd_move rfl) rfl (hp _ _) ?_
           refine WJ_tp 12 rfl (Rd_nilCheck rfl) rfl (hp _ _) ?_
           refine WJ_tp 13 rfl (Rd_fieldAddr rfl fo154_3) rfl (hp _ _) ?_
           refine WJ_tk 14 (Rd_load rfl tk145 (v := sl s.la s.ls.length s.lc) (hi := PLc_t h4 1)) hp ?_ rfl (by kernel_rfl) rfl rfl rfl
           refine WJ_tp 15 rfl (Rd_move rfl) rfl (hp _ _) ?_
           refine WJ_tp 16 rfl (Rd_index_sv k2 rfl rfl ud145 sz120 (hA := hSl) (hi := by omega)) rfl (hp _ _) ?_
           refine WJ_tk 17 (Rd_load_sv (f := ePN) (i := k2) (j := 0) (u := sl qa ql.length qcp) rfl tk120 (hA := hSl) (hl := hpk)) hp ?_ rfl (by kernel_rfl) rfl rfl rfl
           refine WJ_tp 18 rfl (Rd_len rfl rfl ud120) rfl (hp _ _) ?_
           refine WJ_tp 19 rfl (Rd_lssN rfl rfl) rfl (hp _ _) ?_
           refine WJ_tp 20 rfl (Rd_move rfl) rfl (hp _ _) ?_
           refine WJ_bool 160 rfl (fun hg47 => ?_) (fun hg47 => ?_)
           ·try simp only [dz, ne_eq] at hg47
            have hil := hg47
            refine WJ_tp 21 rfl (Rd_move rfl) rfl (hp _ _) ?_
            refine WJ_tp 22 rfl (Rd_nilCheck rfl) rfl (hp _ _) ?_
            refine WJ_tp 23 rfl (Rd_fieldAddr rfl fo154_3) rfl (hp _ _) ?_
            refine WJ_tk 24 (Rd_load rfl tk145 (v := sl s.la s.ls.length s.lc) (hi := PLc_t h4 1)) hp ?_ rfl (by kernel_rfl) rfl rfl rfl
            refine WJ_tp 25 rfl (Rd_move rfl) rfl (hp _ _) ?_
            refine WJ_tp 26 rfl (Rd_index_sv k2 rfl rfl ud145 sz120 (hA := hSl) (hi := by omega)) rfl (hp _ _) ?_
            refine WJ_tk 27 (Rd_load_sv (f := ePN) (i := k2) (j := 0) (u := sl qa ql.length qcp) rfl tk120 (hA := hSl) (hl := hpk)) hp ?_ rfl (by kernel_rfl) rfl rfl rfl
            refine WJ_tp 28 rfl (Rd_move rfl) rfl (hp _ _) ?_
            refine WJ_tp 29 rfl (Rd_index_sv i2 rfl rfl ud120 sz133 (hA := hse') (hi := by rw [mks_len]; omega)) rfl (hp _ _) ?_
            refine WJ_tk 30 (Rd_loadg_sv (f := eND) (i := i2) rfl tk133 (hA := hse') (hl := mks_at (by omega))) hp ?_ rfl (by kernel_rfl) rfl rfl rfl
            refine WJ_tk 31 (Rd_loadg (vs := eND (nM (k2 + 1) i2)) rfl tk133 (hl := by rw [encND.len]; decide) (hi := by rw [List.drop_zero, List.take_of_length_le (by rw [encND.len]; decide)])) hp ?_ rfl (by kernel_rfl) rfl rfl rfl
            refine WJ_tp 32 rfl (Rd_isF (Rd_neNd (a := (nM (k2 + 1) (0 + i2))) (b := (nM (k2 + 1) i2)) rfl rfl fls133 tk3 ud3 tk42 ais42) (by rw [Nat.zero_add]; simp)) rfl (hp _ _) ?_
            refine WJ_tp 33 rfl (Rd_pickT rfl rfl) rfl (hp _ _) ?_
            refine WJ_tp 34 rfl (Rd_pickF rfl rfl) rfl (hp _ _) ?_
            refine WJ_done (by kernel_rfl) ?_
            refine Ps_next hK46 ?_
            refine WC_condF rfl ?_
            refine WC_skip ?_
            refine Ps_next hK44 ?_
            refine WC_region ?_
            refine WL_r (Rd_move rfl) rfl ?_
            refine WL_r (Rd_addN (j := 1) rfl rfl) rfl ?_
            refine WL_r (Rd_assign rfl) rfl ?_
            refine WL_nil ?_
            refine Ps_wkB (hK41 (i2 + 1) (by omega) (by omega))
           ·try simp only [dz, ne_eq] at hg47
            refine WJ_skip 21 rfl (by kernel_rfl) rfl rfl rfl (hp _ _) ?_
            refine WJ_skip 22 rfl (by kernel_rfl) rfl rfl rfl (hp _ _) ?_
            refine WJ_skip 23 rfl (by kernel_rfl) rfl rfl rfl (hp _ _) ?_
            refine WJ_skip 24 rfl (by kernel_rfl) rfl rfl rfl (hp _ _) ?_
            refine WJ_skip 25 rfl (by kernel_rfl) rfl rfl rfl (hp _ _) ?_
            refine WJ_skip 26 rfl (by kernel_rfl) rfl rfl rfl (hp _ _) ?_
            refine WJ_skip 27 rfl (by kernel_rfl) rfl rfl rfl (hp _ _) ?_
            refine WJ_skip 28 rfl (by kernel_rfl) rfl rfl rfl (hp _ _) ?_
            refine WJ_skip 29 rfl (by kernel_rfl) rfl rfl rfl (hp _ _) ?_
            refine WJ_skip 30 rfl (by kernel_rfl) rfl rfl rfl (hp _ _) ?_
            refine WJ_skip 31 rfl (by kernel_rfl) rfl rfl rfl (hp _ _) ?_
            refine WJ_skip 32 rfl (by kernel_rfl) rfl rfl rfl (hp _ _) ?_
            refine WJ_tp 33 rfl (Rd_pickF rfl rfl) rfl (hp _ _) ?_
            refine WJ_tp 34 rfl (Rd_pickF rfl rfl) rfl (hp _ _) ?_
            refine WJ_done (by kernel_rfl) ?_
            refine Ps_next hK46 ?_
            refine WC_condF rfl ?_
            refine WC_skip ?_
            refine Ps_next hK44 ?_
            refine WC_region ?_
            refine WL_r (Rd_move rfl) rfl ?_
            refine WL_r (Rd_addN (j := 1) rfl rfl) rfl ?_
            refine WL_r (Rd_assign rfl) rfl ?_
            refine WL_nil ?_
            refine Ps_wkB (hK41 (i2 + 1) (by omega) (by omega))
          ·try simp only [dz, ne_eq] at hc7
           refine WC_exit ?_
           refine Ps_next hK39 ?_
           refine WC_region ?_
           refine WL_r (Rd_move rfl) rfl ?_
           refine WL_r (Rd_addN (j := 1) rfl rfl) rfl ?_
           refine WL_r (Rd_assign rfl) rfl ?_
           refine WL_nil ?_
           refine Ps_wkB (hK36 (k2 + 1) (by omega) (by omega))
        ·try simp only [dz, ne_eq] at hc6
         refine WC_exit ?_
         refine Ps_next hK34 ?_
         refine WC_sr fun K48 hK48 => ?_
         refine WL_r (Rd_move rfl) rfl ?_
         refine WL_r (Rd_nilCheck rfl) rfl ?_
         refine WL_r (Rd_fieldAddr rfl fo154_2) rfl ?_
         refine WL_r (Rd_load rfl tk109 (v := sl s.ia s.is.length s.ic) (hi := PLc_t h4 0)) rfl ?_
         refine WL_ac (Ac_call cf71 rfl (hs := apartI_ct (X := arr s.ia s.ic 1 101 ePI s.is) (ps := s.is) (hS := hSi) (hn := by omega) (hb := fun p h => by have := (hB.ip p h).2.2; omega))) rfl rfl rfl ?_
         rintro _ _ ⟨⟨⟩, rfl, hA⟩
         simp only [List.cons_append, List.nil_append] at hA
         replace hA := hA.symm
         subst hA
         refine WL_r (Rd_assign rfl) rfl ?_
         refine WL_end hK48 ?_
         refine WC_ret ?_
         exact hret.gf () (Rs1 rfl rfl)
end Go.Proofs.Ytgkpbeikcpecbaa
