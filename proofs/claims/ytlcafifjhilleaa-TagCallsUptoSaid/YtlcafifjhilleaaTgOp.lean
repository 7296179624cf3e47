/-
  Contracts of functions that the claim reaches, or the logic and the plain laws that they rest on, or the row over them. (Conditions: none beyond the statement.)
-/
import Derived.Test.YtlcafifjhilleaaShOp
set_option linter.all false
/-
  A script of calls of the tags' functions, in plain words, and as it is handed in. (Conditions: none; no program in sight.)
-/
set_option maxRecDepth 20000
namespace Go.ShM
open Go.SL Go.RowKit Go.ChangeShapes Go.WideShapes
/-- one call -/
structure KQ where
  call : Int
  tag : B8
  p : PPt
  d : Pt
  k : Int
  n : Int
  seg : Int
  key : List B8
  a : List B8
  b : List B8
  num : B32
  hk : key.length = 16
  ha : a.length = 32
  hb : b.length = 32
def eKQ (q : KQ) : List Value := [.int .i64 q.call, .int .u8 (q.tag.toNat : Int), q.p.v, q.d.v, .int .i64 q.k, .int .i64 q.n, .int .i64 q.seg] ++ (q.key.flatMap (eU .u8) ++ (q.a.flatMap (eU .u8) ++ (q.b.flatMap (eU .u8) ++ [.int .u32 (q.num.toNat : Int)])))
theorem eKQ_len (q : KQ) : (eKQ q).length = 88 := by
  unfold eKQ
  simp only [List.length_append, flatU_len, q.hk, q.ha, q.hb, List.length_cons, List.length_nil]
theorem eKQ_d7 (q : KQ) : (eKQ q).drop 7 = q.key.flatMap (eU .u8) ++ (q.a.flatMap (eU .u8) ++ (q.b.flatMap (eU .u8) ++ [.int .u32 (q.num.toNat : Int)])) := by
  unfold eKQ
  exact List.drop_left' rfl
theorem eKQ_key (q : KQ) : ((eKQ q).drop 7).take 16 = q.key.flatMap (eU .u8) := by
  rw [eKQ_d7]
  exact List.take_left' (by rw [flatU_len, q.hk])
theorem eKQ_d23 (q : KQ) : (eKQ q).drop 23 = q.a.flatMap (eU .u8) ++ (q.b.flatMap (eU .u8) ++ [.int .u32 (q.num.toNat : Int)]) := by
  rw [show 23 = 7 + 16 from rfl, ← List.drop_drop, eKQ_d7]
  exact List.drop_left' (by rw [flatU_len, q.hk])
theorem eKQ_a (q : KQ) : ((eKQ q).drop 23).take 32 = q.a.flatMap (eU .u8) := by
  rw [eKQ_d23]; exact List.take_left' (by rw [flatU_len, q.ha])
theorem eKQ_d55 (q : KQ) : (eKQ q).drop 55 = q.b.flatMap (eU .u8) ++ [.int .u32 (q.num.toNat : Int)] := by
  rw [show 55 = 23 + 32 from rfl, ← List.drop_drop, eKQ_d23]
  exact List.drop_left' (by rw [flatU_len, q.ha])
theorem eKQ_b (q : KQ) : ((eKQ q).drop 55).take 32 = q.b.flatMap (eU .u8) := by
  rw [eKQ_d55]; exact List.take_left' (by rw [flatU_len, q.hb])
theorem eKQ_num (q : KQ) : (eKQ q)[87]? = some (.int .u32 (q.num.toNat : Int)) := by
  have h := List.getElem?_drop (xs := eKQ q) (i := 55) (j := 32)
  rw [eKQ_d55, List.getElem?_append_right (by rw [flatU_len, q.hb]; exact Nat.le_refl _), flatU_len, q.hb] at h
  exact h.symm
theorem eKQ_call (q : KQ) : (eKQ q)[0]? = some (.int .i64 q.call) := rfl
theorem eKQ_tag (q : KQ) : (eKQ q)[1]? = some (.int .u8 (q.tag.toNat : Int)) := rfl
theorem eKQ_p (q : KQ) : (eKQ q)[2]? = some q.p.v := rfl
theorem eKQ_d (q : KQ) : (eKQ q)[3]? = some q.d.v := rfl
theorem eKQ_k (q : KQ) : (eKQ q)[4]? = some (.int .i64 q.k) := rfl
theorem eKQ_n (q : KQ) : (eKQ q)[5]? = some (.int .i64 q.n) := rfl
theorem eKQ_seg (q : KQ) : (eKQ q)[6]? = some (.int .i64 q.seg) := rfl
/-- what is known of one that was handed in -/
def OKk (W : World) (N : Nat) (q : KQ) : Prop := Sv [old W] q.p.v 1 fP q.p.l q.p.ao q.p.cap ∧ (∀ p ∈ q.p.l, RdP [old W] p) ∧ (joinP q.p.l).length ≤ N ∧ q.p.l.length ≤ N ∧ RdP [old W] q.d ∧ q.d.l.length ≤ N
end Go.ShM
