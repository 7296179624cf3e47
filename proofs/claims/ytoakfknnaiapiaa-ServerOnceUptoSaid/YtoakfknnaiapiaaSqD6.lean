/-
  Contracts of functions that the claim reaches, or the logic and the plain laws that they rest on, or the row over them. (Conditions: none beyond the statement.)
-/
import Derived.Test.YtoakfknnaiapiaaSqD5
import Derived.Test.YtoakfknnaiapiaaSvOnce
set_option linter.all false
namespace Go.Proofs.Ytoakfknnaiapiaa
open Go.RowKit Go.SL Go.ShM Go.SvM
set_option maxHeartbeats 1000000
set_option maxRecDepth 20000
set_option linter.all false

def kvO : Option KV → List Value
  | some k => eKV k
  | none => [.int .u8 0, .int .u8 0, .int .u8 0, .int .u8 0, .int .u8 0, .int .u8 0, .int .u8 0, .int .u8 0, .int .u8 0, .int .u8 0, .int .u8 0, .int .u8 0, .int .u8 0, .int .u8 0, .int .u8 0, .int .u8 0, .int .i64 0, .slice none 0 0, .slice none 0 0]
theorem kvO_len : ∀ o, (kvO o).length = 19
  | some k => encKV.len k
  | none => rfl
theorem kvO_one : ∀ o, ∀ v ∈ kvO o, v.oneCell' = true
  | some k => encKV.one k
  | none => by
    intro v hv
    simp only [kvO, List.mem_cons, List.not_mem_nil, or_false] at hv
    rcases hv with rfl | rfl | rfl | rfl | rfl | rfl | rfl | rfl | rfl | rfl | rfl | rfl | rfl | rfl | rfl | rfl | rfl | rfl | rfl <;> rfl
theorem kept_ct {X : Asn} {v : Value} {kvs : List KV} {ao : Option Addr} {cap : Nat} {room tick : Int} {ix : Ix} {n : Int} (hS : Sv [X] v 19 eKV kvs ao cap) (hn : kvs.length ≤ 100000000) : Ct Try.prog 19 [.agg [.int .i64 room, .int .i64 tick, v].toArray, aU .u8 ix.l, .int .i64 n] [X] (fun g : {o : Option KV // findV ix n kvs = o} => .tuple #[.agg (kvO g.1).toArray, .bool g.1.isSome]) (fun _ => [X]) := by
  cases hf : findV ix n kvs with
  | some k => exact (kept_yes hS hn hf).reg fun _ F w h => ⟨⟨some k, rfl⟩, rfl, h⟩
  | none => exact (kept_no hS hn hf).reg fun _ F w h => ⟨⟨none, rfl⟩, rfl, h⟩
theorem runB_hit {l : List Ls} {t : Int} {i : Nat} {y : Ls} (h : l[i]? = some y) (h1 : t ≤ y.2) : runB l t = true := List.any_eq_true.2 ⟨y, List.mem_of_getElem? h, by simpa using h1⟩
theorem runB_step {l : List Ls} {t : Int} {i : Nat} {y : Ls} (h : l[i]? = some y) (h0 : runB (l.take i) t = false) (h1 : ¬ t ≤ y.2) : runB (l.take (i + 1)) t = false := by
  rw [take_snocG h]
  unfold runB at *
  rw [List.any_append, h0]
  simpa using h1

theorem runsL_ct {X : Asn} {k : KV} {t : Int} (hS : Sv [X] k.ls.v 2 eLs k.ls.l k.ls.ao k.ls.cap) (hl : k.ls.l.length ≤ 900000000000) : Ct Try.prog 21 [.agg (eKV k).toArray, .int .i64 t] [X] (fun _ : Unit => .bool (runB k.ls.l t)) (fun _ => [X]) := by
 refine Ct_body (n := 21) Try.func21 rfl rfl rfl fun F w0 Q hret hnorm hp => ?_
 change WC _ _ _ _ _ _ _ (_ :: F)
 refine WC_sr fun K1 hK1 => ?_
 refine WL_ac (Ac_box (xs := eKV k) rfl rfl) rfl rfl rfl ?_
 rintro _ _ ⟨b2, rfl, rfl⟩
 refine WL_r (Rd_assign rfl) rfl ?_
 refine WL_end hK1 ?_
 refine WC_seq fun K2 hK2 => ?_
 refine WC_sr fun K3 hK3 => ?_
 refine WL_r (Rd_assign rfl) rfl ?_
 refine WL_end hK3 ?_
 refine WC_block ?_
 refine WC_loopK (σ := Nat) (fun i => [(5, .int .i64 ((i : Nat) : Int))]) (fun i => []) (fun i => i ≤ k.ls.l.length ∧ runB (k.ls.l.take i) t = false) (fun i => k.ls.l.length - i) (0) [1, 2] kpA (by (try dsimp only); repeat (first | with_reducible exact Gv.nil | (with_reducible apply Gv.cons; · (repeat (first | with_reducible exact Ext.here | with_reducible apply Ext.there))))) ?_ ?_ Sub.refl ?_
 ·exact ⟨Nat.zero_le _, rfl⟩
 ·(try dsimp only); exact (Wk.cons lkA Wk.nil)
 ·rintro i ⟨hi, hno⟩ K4 hK4
  simp only [List.cons_append, List.nil_append]
  refine WC_seq fun K5 hK5 => ?_
  refine WC_sr fun K6 hK6 => ?_
  refine WL_r (Rd_move rfl) rfl ?_
  refine WL_r (Rd_fieldAddr rfl fo65_3) rfl ?_
  refine WL_r (Rd_load rfl tk63 (v := k.ls.v) (hi := eKV_ls k)) rfl ?_
  refine WL_r (Rd_len_sv rfl rfl ud63 (hA := hS)) rfl ?_
  refine WL_r (Rd_lssN rfl rfl) rfl ?_
  refine WL_end hK6 ?_
  refine WC_cond rfl (fun hc0 => ?_) (fun hc0 => ?_)
  ·try simp only [dz, ne_eq] at hc0
   obtain ⟨y, hy⟩ : ∃ y, k.ls.l[i]? = some y := ⟨_, List.getElem?_eq_getElem (by omega)⟩
   refine WC_skip ?_
   refine Ps_next hK5 ?_
   refine WC_seq fun K7 hK7 => ?_
   refine WC_block ?_
   refine WC_sr fun K8 hK8 => ?_
   refine WL_r (Rd_fieldAddr rfl fo65_3) rfl ?_
   refine WL_r (Rd_load rfl tk63 (v := k.ls.v) (hi := eKV_ls k)) rfl ?_
   refine WL_r (Rd_move rfl) rfl ?_
   refine WL_r (Rd_index_sv i rfl rfl ud63 sz27 (hA := hS) (hi := by omega)) rfl ?_
   refine WL_r (Rd_fieldAddr rfl fo27_1) rfl ?_
   refine WL_r (Rd_load_sv (i := i) (j := 1) (y := y) rfl tk3 (hA := hS) (hl := hy) (hv := rfl)) rfl ?_
   refine WL_r (Rd_move rfl) rfl ?_
   refine WL_r (Rd_geq rfl rfl) rfl ?_
   refine WL_end hK8 ?_
   refine WC_cond rfl (fun hc1 => ?_) (fun hc1 => ?_)
   ·try simp only [dz, ne_eq] at hc1
    refine WC_sr fun K9 hK9 => ?_
    refine WL_r (Rd_assign rfl) rfl ?_
    refine WL_end hK9 ?_
    refine WC_ret ?_
    exact hret.goE () (Rs1 rfl rfl) (by rw [runB_hit hy (by omega)])
   ·try simp only [dz, ne_eq] at hc1
    refine WC_skip ?_
    refine Ps_next hK7 ?_
    refine WC_region ?_
    refine WL_r (Rd_move rfl) rfl ?_
    refine WL_r (Rd_addN (j := 1) rfl rfl) rfl ?_
    refine WL_r (Rd_assign rfl) rfl ?_
    refine WL_nil ?_
    refine Ps_wkA (hK4 (i + 1) (⟨by omega, runB_step hy hno (by omega)⟩) (by omega))
  ·try simp only [dz, ne_eq] at hc0
   obtain rfl : i = k.ls.l.length := by omega
   rw [List.take_length] at hno
   refine WC_exit ?_
   refine Ps_next hK2 ?_
   refine WC_sr fun K10 hK10 => ?_
   refine WL_r (Rd_assign rfl) rfl ?_
   refine WL_end hK10 ?_
   refine WC_ret ?_
   exact hret.goE () (Rs1 rfl rfl) (by rw [hno])

theorem runsT_ct {X : Asn} {k : KV} {t : Int} (hS : Sv [X] k.ls.v 2 eLs k.ls.l k.ls.ao k.ls.cap) (hl : k.ls.l.length ≤ 900000000000) (hr : runB k.ls.l t = true) : Ct Try.prog 21 [.agg (eKV k).toArray, .int .i64 t] [X] (fun _ : Unit => .bool true) (fun _ => [X]) := by
  have h := runsL_ct (t := t) hS hl
  rw [hr] at h; exact h
theorem sameG2_ct {room : Int} {s s2 : Sv1} (g : StG s2.l) (g' : StG s.l) (e : s2 = s) (hn : s2.l.length ≤ 100000000) (hw : Wf room s2) : Ct Try.prog 14 [.agg [.int .i64 room, .int .i64 s2.tick, g.v].toArray, .agg [.int .i64 room, .int .i64 s.tick, g'.v].toArray] [g.X, g'.X] (fun _ : Unit => .bool true) (fun _ => [g.X, g'.X]) := by
  subst e
  exact sameG_ct g g' hn hw
theorem findV_K {ix : Ix} {n : Int} : ∀ kvs : List KV, (findV ix n kvs).map KV.kp = findK (ix, n) (kvs.map KV.kp)
  | [] => rfl
  | k :: r => by
    have ih := findV_K (ix := ix) (n := n) r
    unfold findV findK at *
    rw [List.map_cons]
    by_cases h : k.ix = ix ∧ k.num = n
    · rw [List.find?_cons_of_pos (by unfold isKV; simpa using h), List.find?_cons_of_pos (by show decide ((k.ix, k.num) = (ix, n)) = true; rw [h.1, h.2]; simp)]; rfl
    · rw [List.find?_cons_of_neg (by unfold isKV; simpa using h), List.find?_cons_of_neg (by show ¬ decide ((k.ix, k.num) = (ix, n)) = true; intro q; simp only [decide_eq_true_eq, Prod.mk.injEq] at q; exact h q), ih]
theorem once_b {s s2 : Sv1} {r : Rq} {kvs kvs2 : List KV} {x y : KV} (h : OnK s s2 r) (e1 : kvs.map KV.kp = s.l) (e2 : kvs2.map KV.kp = s2.l) (hx : x ∈ kvs) (hf : findV x.ix x.num kvs2 = some y) (hb : x.b.l ≠ y.b.l) : runB x.ls.l s2.tick = false ∧ r.kind = 2#8 := by
  refine h.b x.kp y.kp (by rw [← e1]; exact List.mem_map.2 ⟨x, hx, rfl⟩) ?_ hb
  have := findV_K (ix := x.ix) (n := x.num) kvs2
  rw [hf, e2] at this
  exact this.symm
theorem once_gone {s s2 : Sv1} {r : Rq} {kvs kvs2 : List KV} {x : KV} (h : OnK s s2 r) (e1 : kvs.map KV.kp = s.l) (e2 : kvs2.map KV.kp = s2.l) (hx : x ∈ kvs) (hf : findV x.ix x.num kvs2 = none) (hr : runB x.ls.l s2.tick = true) : r.kind = 5#8 ∧ r.ix = x.ix := by
  refine h.gone x.kp (by rw [← e1]; exact List.mem_map.2 ⟨x, hx, rfl⟩) ?_ hr
  have := findV_K (ix := x.ix) (n := x.num) kvs2
  rw [hf, e2] at this
  exact this.symm
theorem once_come {s s2 : Sv1} {r : Rq} {kvs kvs2 : List KV} {x : KV} {f : Option KV} (h : OnK s s2 r) (e1 : kvs.map KV.kp = s.l) (e2 : kvs2.map KV.kp = s2.l) (hx : x ∈ kvs2) (hf : findV x.ix x.num kvs = f) (hn : f.isSome = false) : r.kind = 2#8 := by
  refine h.come x.kp (by rw [← e2]; exact List.mem_map.2 ⟨x, hx, rfl⟩) ?_
  have := findV_K (ix := x.ix) (n := x.num) kvs
  rw [hf, e1] at this
  cases f with
  | none => exact this.symm
  | some k => cases hn
theorem findV_mem {ix : Ix} {n : Int} {kvs : List KV} {y : KV} (h : findV ix n kvs = some y) : y ∈ kvs := List.mem_of_find?_eq_some h
end Go.Proofs.Ytoakfknnaiapiaa
