/-
  Contracts of functions that the claim reaches, or the logic and the plain laws that they rest on, or the row over them. (Conditions: none beyond the statement.)
-/
import Derived.Test.YtlcafifjhilleaaLibC
import Derived.Laws.BytesString
set_option linter.all false
/-
  What is read off: x[:n:n], a text out of bytes. (Conditions: none; generic over the program.)
-/
namespace Go.SL
open Go.RowKit
theorem Sv.sub3 {α : Type} {A : List Asn} {v : Value} {e : Nat} {f : α → List Value} {l : List α} {ao : Option Addr} {cap : Nat} (h : Sv A v e f l ao cap) {n : Nat} (hn : n ≤ l.length) : Sv A (.slice (sao ao 0 e n) n n) e f (l.take n) (sao ao 0 e n) n := by
  refine ⟨?_, fun hl => ?_, fun x hx => h.len x (List.mem_of_mem_take hx), by simp; omega, fun w hs i x hx j u hu => ?_⟩
  · congr 1; simp; omega
  · have hlt : 0 < n := Nat.pos_of_ne_zero (fun e => hl (by rw [e]; rfl))
    obtain ⟨b, o, rfl⟩ := h.adr (by intro e; subst e; simp at hn; omega)
    refine ⟨b, o + 0 * e, ?_⟩
    unfold sao; rw [if_neg (by omega)]
    simp only [Option.map_some, add_off]
  · have hi' := (List.getElem?_eq_some_iff.1 hx).1
    simp only [List.length_take] at hi'
    obtain ⟨b, o, rfl⟩ := h.adr (by intro e; subst e; simp at hi')
    rw [List.getElem?_take, if_pos (by omega)] at hx
    have := h.cell w hs _ x hx j u hu
    rw [show sao (some ⟨b, o, none⟩) 0 e n = some ⟨b, o + 0 * e, none⟩ from by unfold sao; rw [if_neg (by omega)]; simp only [Option.map_some, add_off]]
    simp only [svb, svo, Option.getD_some] at this ⊢
    rw [← this]; congr 2; omega
theorem sv_nilB {α : Type} {A : List Asn} {v : Value} {e : Nat} {f : α → List Value} {l : List α} {ao : Option Addr} {cap : Nat} (h : Sv A v e f l ao cap) (hn : ao.isNone = true) : l = [] := by
  rcases Nat.eq_zero_or_pos l.length with q | q
  · exact List.eq_nil_of_length_eq_zero q
  · have := h.ptr q
    rw [this] at hn; cases hn
open Go.SL Go.RowKit
section
variable {P : Program} {n : Nat} {L : List (Nat × Value)} {A : List Asn} {d : Option Tmp} {ty : TypeId} {pos : String} {af : Array Edge} {g : Option (Nat × Bool)}
theorem Rd_slice3 {α : Type} {t et : TypeId} {x y z : Operand} {k1 k2 : IntKind} {v : Value} {e : Nat} {f : α → List Value} {l : List α} {ao : Option Addr} {cap : Nat} {B : List Asn} (m : Nat) (hx : ev L x = some v) (hy : ev L y = some (.int k1 (m : Int))) (hw : ev L z = some (.int k2 (m : Int)))
    (hu : P.underlying t = some (.slice et)) (hz : sz P et = some e) (hA : Sv B v e f l ao cap := by assumption) (h2 : m ≤ l.length := by omega) : Rd P n ⟨d, .slice t x none (some y) (some z), ty, pos, af, g⟩ L A (.slice (sao ao 0 e m) m m) := fun a w hf hs => by
  rw [hA.val] at hx
  have h3 : m ≤ cap := Nat.le_trans h2 hA.le
  simp [execOp, hf.eval hx, hf.eval hy, hf.eval hw, Instr.sliceAt, Instr.slice, run_und hu, Instr.sliceBounds, Instr.sliceBound, asIntOf, h3, run_size hz, sao]
/-- a text of letters -/
def strB (l : List (BitVec 8)) : ByteArray := ⟨(l.map UInt8.ofBitVec).toArray⟩
theorem strB_bsS (s : ByteArray) : strB (bsS s) = s := by
  unfold strB bsS
  rw [List.map_map]
  have : (UInt8.ofBitVec ∘ UInt8.toBitVec) = id := by funext x; rfl
  rw [this, List.map_id, Array.toArray_toList]
theorem bsS_strB (l : List (BitVec 8)) : bsS (strB l) = l := by
  unfold strB bsS
  simp only [List.map_map]
  have : (UInt8.toBitVec ∘ UInt8.ofBitVec) = id := by funext x; rfl
  rw [this, List.map_id]
theorem str_beqT {a b : ByteArray} (h : (a.toList == b.toList) = true) : a = b := by
  have h2 : a.toList = b.toList := by simpa using h
  rw [ByteArray.toList_eq, ByteArray.toList_eq] at h2
  rw [← strB_bsS a, ← strB_bsS b]
  unfold bsS
  rw [h2]
theorem str_beqF {a : ByteArray} {l : List (BitVec 8)} (h : (a.toList == (strB l).toList) = false) : bsS a ≠ l := fun e => by
  rw [← e, strB_bsS] at h
  simp at h
theorem fold_str : ∀ (l : List (BitVec 8)) (s : ByteArray), (l.map fun b => ((b.toNat : Nat) : Int)).foldl (fun r n => r.push (UInt8.ofNat n.toNat)) s = ⟨s.data ++ (l.map UInt8.ofBitVec).toArray⟩
  | [], s => by simp
  | b :: l, s => by
    rw [List.map_cons, List.foldl_cons, fold_str l]
    have e : UInt8.ofNat b.toNat = UInt8.ofBitVec b := by
      apply UInt8.toNat_inj.1
      simp [UInt8.toNat_ofNat']
    simp only [Int.toNat_natCast, e]
    congr 1
    simp [ByteArray.push]
theorem Rd_convBS {t t' et : TypeId} {x : Operand} {v : Value} {l : List (BitVec 8)} {ao : Option Addr} {cap : Nat} {B : List Asn} (hx : ev L x = some v) (ht : P.underlying t = some (.slice et)) (ht' : P.underlying t' = some .string) (he : P.underlying et = some (.int .u8)) (hA : Sv B v 1 (eU .u8 (w := 8)) l ao cap := by assumption) (hB : Sub A B := by repeat (first | with_reducible exact Sub.refl | with_reducible exact Sub.nil | with_reducible refine Sub.cons (by repeat (first | with_reducible exact Ext.here | with_reducible apply Ext.there)) ?_ | with_reducible refine Sub.tail ?_)) :
    Rd P n ⟨d, .convert t t' x, ty, pos, af, g⟩ L A (.string (strB l)) := fun a w hf hs => by
  have hS := hA.mono hB
  obtain ⟨h1, h2, h3⟩ := Src_sv (P := P) hS
  have hc := h3 w hs
  rw [hS.val] at hx hc
  simp only [execOp, hf.eval hx, Sem.run_bind, Sem.run_pure, Result.andThen_ok]
  rw [run_convert_bytes_string w t t' et ao l.length cap ht he ht']
  cases ao with
  | none =>
    have hl : l = [] := by
      rcases Classical.em (l = []) with q | q
      · exact q
      · obtain ⟨_, _, e⟩ := hS.adr q; cases e
    subst hl
    rfl
  | some ad =>
    have e : l.flatMap (eU .u8 (w := 8)) = (l.map fun b => ((b.toNat : Nat) : Int)).map (Value.int .u8) := by
      rw [List.map_map]
      clear hS hc h1 h2 h3 hx hA
      induction l with
      | nil => rfl
      | cons b l ih => rw [List.flatMap_cons, ih]; rfl
    simp only [Builtin.firstCells, Nat.mul_one] at hc
    rw [e] at hc
    rw [run_bytesToString w ad l.length cap _ hc, fold_str]
    unfold strB
    simp [ByteArray.empty, ByteArray.emptyWithCapacity]
    rfl
theorem Rs4 {fn : Func} {t u s r : Nat} {v x y z : Value} (hr : fn.results = #[.tmp t, .tmp u, .tmp s, .tmp r]) (h : look L t = some v) (h' : look L u = some x) (h'' : look L s = some y) (h3 : look L r = some z) : Rs P fn n L A (.tuple #[v, x, y, z]) := fun a w hf _ => by
  simp [results, hr]; exact ⟨by simpa [Array.getD_eq_getD_getElem?] using getD_of_look hf h, by simpa [Array.getD_eq_getD_getElem?] using getD_of_look hf h', by simpa [Array.getD_eq_getD_getElem?] using getD_of_look hf h'', by simpa [Array.getD_eq_getD_getElem?] using getD_of_look hf h3⟩
end
end Go.SL
