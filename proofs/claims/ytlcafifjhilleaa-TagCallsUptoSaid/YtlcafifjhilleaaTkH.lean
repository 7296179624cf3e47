/-
  Contracts of functions that the claim reaches, or the logic and the plain laws that they rest on, or the row over them. (Conditions: none beyond the statement.)
-/
import Derived.Test.YtlcafifjhilleaaTkG
import Derived.Test.YtlcafifjhilleaaTgOp
set_option linter.all false
namespace Go.Proofs.Ytlcafifjhilleaa
open Go.RowKit Go.SL Go.ShM
set_option maxHeartbeats 1000000
set_option maxRecDepth 20000
set_option linter.all false

def kE (s f : List B8) (k n seg : Int) : Int := if 64 < s.length ∨ k < 1 ∨ n < k ∨ 255 < n ∨ seg < 1 ∨ 65790 < seg then 3 else if 16777216 < f.length then 4 else 0
def kD (s f : List B8) (k n seg : Int) : List B8 := if kE s f k n seg = 0 then keyM s f k n seg else (List.replicate 16 0#8)
theorem kD_len (s f : List B8) (k n seg : Int) : (kD s f k n seg).length = 16 := by
  unfold kD
  split
  · exact keyM_len _ _ _ _ _
  · rfl
theorem keyA_ct {X : Asn} {v v2 : Value} {s f : List B8} {ao ao2 : Option Addr} {cap cap2 : Nat} {k n seg : Int} (hS : Sv [X] v 1 (eU .u8 (w := 8)) s ao cap := by assumption) (hF : Sv [X] v2 1 (eU .u8 (w := 8)) f ao2 cap2 := by assumption) (hls : s.length ≤ 900000000000 := by omega) (hlf : f.length ≤ 900000000000 := by omega) : Ct Try.prog 52 [v, .int .i64 k, .int .i64 n, .int .i64 seg, v2] [X] (fun _ : Unit => .tuple #[aU .u8 (kD s f k n seg), .int .i64 (kE s f k n seg)]) (fun _ => [X]) := by
  by_cases hb : 64 < s.length ∨ k < 1 ∨ n < k ∨ 255 < n ∨ seg < 1 ∨ 65790 < seg
  · have e : kE s f k n seg = 3 := if_pos hb
    have d : kD s f k n seg = (List.replicate 16 0#8) := by unfold kD; rw [e]; rfl
    rw [e, d]
    exact key_no (hbad := hb)
  · by_cases hf : 16777216 < f.length
    · have e : kE s f k n seg = 4 := by unfold kE; rw [if_neg hb, if_pos hf]
      have d : kD s f k n seg = (List.replicate 16 0#8) := by unfold kD; rw [e]; rfl
      rw [e, d]
      exact key_big (hs := by omega) (hk := by omega) (hkn := by omega) (hn := by omega) (hg1 := by omega) (hg2 := by omega) (hbig := hf)
    · have e : kE s f k n seg = 0 := by unfold kE; rw [if_neg hb, if_neg hf]
      have d : kD s f k n seg = keyM s f k n seg := by unfold kD; rw [e]; rfl
      rw [e, d]
      exact key_ct (hs := by omega) (hk := by omega) (hkn := by omega) (hn := by omega) (hg1 := by omega) (hg2 := by omega) (hfl := by omega)

theorem keyRA_ct {X : Asn} {v v2 : Value} {s f : List B8} {ao ao2 : Option Addr} {cap cap2 : Nat} {k n seg : Int} (hS : Sv [X] v 1 (eU .u8 (w := 8)) s ao cap := by assumption) (hF : Sv [X] v2 1 (eU .u8 (w := 8)) f ao2 cap2 := by assumption) (hls : s.length ≤ 900000000000 := by omega) (hlf : f.length ≤ 900000000000 := by omega) : Ct Try.prog 53 [v, .int .i64 k, .int .i64 n, .int .i64 seg, v2] [X] (fun _ : Unit => .tuple #[aU .u8 (kD s f k n seg), .int .i64 (kE s f k n seg)]) (fun _ => [X]) := by
  by_cases hb : 64 < s.length ∨ k < 1 ∨ n < k ∨ 255 < n ∨ seg < 1 ∨ 65790 < seg
  · have e : kE s f k n seg = 3 := if_pos hb
    have d : kD s f k n seg = (List.replicate 16 0#8) := by unfold kD; rw [e]; rfl
    rw [e, d]
    exact keyR_no (hbad := hb)
  · by_cases hf : 16777216 < f.length
    · have e : kE s f k n seg = 4 := by unfold kE; rw [if_neg hb, if_pos hf]
      have d : kD s f k n seg = (List.replicate 16 0#8) := by unfold kD; rw [e]; rfl
      rw [e, d]
      exact keyR_big (hs := by omega) (hk := by omega) (hkn := by omega) (hn := by omega) (hg1 := by omega) (hg2 := by omega) (hbig := hf)
    · have e : kE s f k n seg = 0 := by unfold kE; rw [if_neg hb, if_neg hf]
      have d : kD s f k n seg = keyM s f k n seg := by unfold kD; rw [e]; rfl
      rw [e, d]
      exact keyR_ct (hs := by omega) (hk := by omega) (hkn := by omega) (hn := by omega) (hg1 := by omega) (hg2 := by omega) (hfl := by omega)
end Go.Proofs.Ytlcafifjhilleaa
