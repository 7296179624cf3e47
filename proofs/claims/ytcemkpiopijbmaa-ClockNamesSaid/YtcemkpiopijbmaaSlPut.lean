/-
  Appending one thing, or what may be read; writing into a slice; encodings of things as cells. (Conditions: none; generic over the program.)
-/
import Derived.Test.YtcemkpiopijbmaaSlNat
import Derived.Test.YtcemkpiopijbmaaSlArg
set_option linter.all false
namespace Go.SL
open Go.RowKit
/-- an encoding: so many cells, each one cell -/
structure Enc {α : Type} (f : α → List Value) (e : Nat) : Prop where
  len : ∀ x, (f x).length = e
  one : ∀ x, ∀ v ∈ f x, v.oneCell' = true
theorem enc_int (k : IntKind) : Enc (eInt k) 1 := ⟨fun _ => rfl, fun x v hv => by simp only [eInt, List.mem_cons, List.not_mem_nil, or_false] at hv; subst hv; rfl⟩
theorem enc_str : Enc eStr 1 := ⟨fun _ => rfl, fun x v hv => by simp only [eStr, List.mem_cons, List.not_mem_nil, or_false] at hv; subst hv; rfl⟩
theorem enc_bool : Enc eBool 1 := ⟨fun _ => rfl, fun x v hv => by simp only [eBool, List.mem_cons, List.not_mem_nil, or_false] at hv; subst hv; rfl⟩
theorem setAt_all : ∀ (xs zs : List Value) (off : Nat), xs.length + off = zs.length → setAt off xs zs = zs.take off ++ xs
  | [], zs, off, h => by simp at h; simp [setAt, h]
  | x :: xs, zs, off, h => by
    unfold setAt
    simp at h
    rw [setAt_all xs (zs.set off x) (off + 1) (by simp; omega)]
    have hlt : off < zs.length := by omega
    rw [List.set_eq_take_append_cons_drop, if_pos hlt, List.take_append, List.length_take]
    have e1 : min off zs.length = off := by omega
    rw [e1, List.take_take]
    have e2 : min (off + 1) off = off := by omega
    have e3 : off + 1 - off = 1 := by omega
    rw [e2, e3]; simp
section
variable {P : Program} {n : Nat} {L : List (Nat × Value)} {A : List Asn} {d : Option Tmp} {ty : TypeId} {pos' : String} {af : Array Edge} {g : Option (Nat × Bool)}
/-- []T{v} -/
theorem Ac_bs1 {t et : TypeId} {k : Nat} {x : Operand} {v : Value} {xs zs : List Value} (hx : ev L x = some v) (hu : P.underlying t = some (.slice et)) (hz : zr P et = some zs) (hk : sz P et = some k) (hv : v.cells = xs.toArray := by rfl) (hl : xs.length = k := by rfl) (hzl : zs.length = k := by rfl)
    (hs : Nat.ble k 16777216 = true := by rfl) : Ac P n ⟨d, .buildSlice t 1 #[(0, x)], ty, pos', af, g⟩ L A (fun r A' => ∃ b, r = .slice (some ⟨b, 0, none⟩) 1 1 ∧ A' = cl b et xs :: A) := by
  have hsz : v.cells.size = k := by rw [hv]; simpa using hl
  refine Ac_buildSlice (parts := [(0, v)]) (bs := zs) (xs := xs) hu hz hk ?_ ?_ ?_ (by simpa using hs)
  · simp [evp, hx]
  · apply List.ext_getElem?
    intro i
    simp only [Array.toList_map, Array.toList_range, List.getElem?_map, Nat.one_mul]
    by_cases hi : i < k
    · rw [List.getElem?_range hi, Option.map_some]
      have hlt : i % zs.toArray.size < zs.toArray.size := Nat.mod_lt _ (by simp; omega)
      rw [getElem!_pos zs.toArray _ hlt]
      have : i % zs.toArray.size = i := Nat.mod_eq_of_lt (by simp; omega)
      simp only [this]
      simp [hzl, hi]
    · rw [List.getElem?_eq_none (by simp; omega), List.getElem?_eq_none (by omega)]; rfl
  · unfold fillL
    simp only [List.range_succ, List.range_zero, List.nil_append, List.map_cons, List.map_nil, List.getElem?_cons_zero, Nat.zero_mul, Nat.zero_add]
    rw [show Nat.beq v.cells.size k = true from by rw [hsz]; exact Nat.beq_refl k, show Nat.ble k zs.length = true from by rw [hzl]; exact Nat.ble_eq_true_of_le (Nat.le_refl k)]
    simp only [Bool.and_self, cond_true]
    unfold fillL
    rw [setAt_all _ _ _ (by rw [hv]; simp [hl, hzl])]
    rw [hv]; simp
/-- append(x, v) -/
theorem Ac_append1 {α : Type} {t t' et : TypeId} {e by_ : Nat} {x y : Operand} {a : Option Nat} {cap len b : Nat} {f : α → List Value} {l : List α} {xs : List Value} {R : List Asn} (hE1 : Enc f e) (u : α) (hx : ev L x = some (sl a len cap)) (hy : ev L y = some (.slice (some ⟨b, 0, none⟩) 1 1)) (ht : P.underlying t = some (.slice et)) (ht' : P.underlying t' = some (.slice et))
    (hel : el P et = some (e, by_)) (hA : Has A (cl b et xs) := by repeat (first | with_reducible exact Has.here | with_reducible refine Has.there ?_)) (hE : Ext A (arr a cap e et f l) R := by repeat (first | with_reducible exact Ext.here | with_reducible apply Ext.there)) (hu : xs = f u := by rfl)
    (hlen : len = l.length := by first | rfl | assumption | omega) (hb : l.length < 1000000000000 := by omega) (hby : Nat.ble by_ 128 = true := by rfl) :
    Ac P n ⟨d, .call ⟨.builtin .append, #[x, y], #[t, t']⟩, ty, pos', af, g⟩ L A (fun r A' => ∃ a' cap', r = sl a' (l.length + 1) cap' ∧ A' = arr a' cap' e et f (l ++ [u]) :: R) := by
  have hby' := Nat.le_of_ble_eq_true hby
  have hsrc : Src P A e [u].length (.slice (some ⟨b, 0, none⟩) 1 1) ([u].flatMap f) := by
    have hxe : xs.length = e := by rw [hu]; exact hE1.len u
    exact Src_cl (m := 1) hA (by omega) (by simp only [List.drop_zero, Nat.one_mul]; rw [List.take_of_length_le (by omega), hu]; simp)
  have hmul : (l.length + 1) * by_ ≤ 140737488355328 := Nat.le_trans (Nat.mul_le_mul (show l.length + 1 ≤ 1000000000000 by omega) hby') (by decide)
  have h := Ac_append (P := P) (n := n) (L := L) (A := A) (d := d) (ty := ty) (pos' := pos') (af := af) (g := g) (f := f) (l := l) [u] hx hy ht ht' rfl hel hE1.len hsrc hE hlen (fun w hw v hv => hE1.one w v hv) (by simpa using hmul) (by simp [maxLen]; omega)
  simpa only [List.length_append, List.length_cons, List.length_nil, Nat.zero_add] using h
/-- append(x, y...) of what may be read -/
theorem Ac_appendS {α : Type} {t t' et : TypeId} {e by_ : Nat} {x y : Operand} {a : Option Nat} {cap len : Nat} {f : α → List Value} {l l2 : List α} {v : Value} {ao : Option Addr} {cap2 : Nat} {B R : List Asn} (hE1 : Enc f e) (hx : ev L x = some (sl a len cap)) (hy : ev L y = some v) (ht : P.underlying t = some (.slice et)) (ht' : P.underlying t' = some (.slice et))
    (hel : el P et = some (e, by_)) (hS : Sv B v e f l2 ao cap2 := by assumption) (hB : Sub A B := by repeat (first | with_reducible exact Sub.refl | with_reducible exact Sub.nil | with_reducible refine Sub.cons (by repeat (first | with_reducible exact Ext.here | with_reducible apply Ext.there)) ?_ | with_reducible refine Sub.tail ?_))
    (hE : Ext A (arr a cap e et f l) R := by repeat (first | with_reducible exact Ext.here | with_reducible apply Ext.there)) (hlen : len = l.length := by first | rfl | assumption | omega) (hb : l.length + l2.length < 1000000000000 := by omega) (hby : Nat.ble by_ 128 = true := by rfl) :
    Ac P n ⟨d, .call ⟨.builtin .append, #[x, y], #[t, t']⟩, ty, pos', af, g⟩ L A (fun r A' => ∃ a' cap', r = sl a' (l.length + l2.length) cap' ∧ A' = arr a' cap' e et f (l ++ l2) :: R) := by
  have hby' := Nat.le_of_ble_eq_true hby
  have hmul : (l.length + l2.length) * by_ ≤ 140737488355328 := Nat.le_trans (Nat.mul_le_mul (show l.length + l2.length ≤ 1000000000000 by omega) hby') (by decide)
  have h := Ac_append (P := P) (n := n) (L := L) (A := A) (d := d) (ty := ty) (pos' := pos') (af := af) (g := g) (f := f) (l := l) l2 hx hy ht ht' rfl hel hE1.len (Src_sv (hS.mono hB)) hE hlen (fun w hw v hv => hE1.one w v hv) hmul (by simp [maxLen]; omega)
  simpa only [List.length_append] using h
end
/-- a nil slice owns nothing -/
theorem WL_nilarr {P : Program} {ops : Array Oper} {Q : Exit → Act → World → Prop} {w0 : World} {n : Nat} {rest : List Oper} {L : List (Nat × Value)} {A : List Asn} {α : Type} (f : α → List Value) (e : Nat) (T : TypeId) (k : WL P ops Q w0 n rest L (arr none 0 e T f ([] : List α) :: A)) : WL P ops Q w0 n rest L A :=
  WL_imp (fun _ h => sat_nil h) k
/-- the first of a slice of one's own, as what may be read -/
theorem Sv_own {α : Type} {a : Option Nat} {cap e k : Nat} {T : TypeId} {f : α → List Value} {l : List α} (hE1 : Enc f e) (hn : a = none → l = []) (hk : k ≤ l.length) (hc : l.length ≤ cap) : Sv [arr a cap e T f l] (sl a k cap) e f (l.take k) (a.map fun g => ⟨g, 0, none⟩) cap := by
  have h := Sv_arr (A := [arr a cap e T f l]) Has.here hE1.len hn hc
  have h2 := h.sub (lo := 0) (hi := k) (Nat.zero_le _) hk
  have e1 : sao (a.map fun g => (⟨g, 0, none⟩ : Addr)) 0 e cap = a.map fun g => ⟨g, 0, none⟩ := by
    unfold sao; split
    · rfl
    · cases a <;> simp [Addr.add]
  rw [e1] at h2
  simpa [sl] using h2
theorem Sv_own' {α : Type} {a : Option Nat} {cap e : Nat} {T : TypeId} {f : α → List Value} {l : List α} (hE1 : Enc f e) (hn : a = none → l = []) (hc : l.length ≤ cap) : Sv [arr a cap e T f l] (sl a l.length cap) e f l (a.map fun g => ⟨g, 0, none⟩) cap := Sv_arr Has.here hE1.len hn hc
/-- what is known of a slice of one's own -/
theorem arr_facts {α : Type} {a : Option Nat} {cap e : Nat} {T : TypeId} {f : α → List Value} {l : List α} {A : List Asn} {w : World} (h : Has A (arr a cap e T f l)) (hs : sat w A) : (a = none → l = []) ∧ l.length ≤ cap := by
  refine ⟨fun ha => ?_, arr_cap h hs⟩
  subst ha; exact (arr_none h hs).2
end Go.SL
