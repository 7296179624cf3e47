/-
  Contracts of functions that the claim reaches, or the logic and the plain laws that they rest on, or the row over them. (Conditions: none beyond the statement.)
-/
import Derived.Test.YtilmiikfjcdllaaLibA
import Derived.Test.YtilmiikfjcdllaaLibB
set_option linter.all false
/-
  What the program's digest computes, and what the document's does, in plain words. (Conditions: none; no program in sight.)
-/
set_option maxRecDepth 20000
namespace Go.ShM
open Go.SL
abbrev B8 := BitVec 8
abbrev B32 := BitVec 32
def rotM (x : B32) (k : Int) : B32 := (x <<< (BitVec.ofInt 64 k &&& 31#64).toNat) ||| (x >>> (32#64 - (BitVec.ofInt 64 k &&& 31#64)).toNat)
def z64 : List B32 := List.replicate 64 0#32
def schS (bs : List B8) (i : Nat) (ws : List B32) : List B32 :=
  if i < 16 then ws.set i (((((bs.getD (4 * i) 0#8).setWidth 32 <<< 24) ||| ((bs.getD (4 * i + 1) 0#8).setWidth 32 <<< 16)) ||| ((bs.getD (4 * i + 2) 0#8).setWidth 32 <<< 8)) ||| (bs.getD (4 * i + 3) 0#8).setWidth 32)
  else ws.set i ((((((rotM (ws.getD (i - 2) 0#32) (-17)) ^^^ (rotM (ws.getD (i - 2) 0#32) (-19))) ^^^ ((ws.getD (i - 2) 0#32) >>> 10)) + ws.getD (i - 7) 0#32) + (((rotM (ws.getD (i - 15) 0#32) (-7)) ^^^ (rotM (ws.getD (i - 15) 0#32) (-18))) ^^^ ((ws.getD (i - 15) 0#32) >>> 3))) + ws.getD (i - 16) 0#32)
def schI (bs : List B8) (i : Nat) : List B32 := it (schS bs) i z64
def schM (bs : List B8) : List B32 := schI bs 64
def uM (x : List B32) (w : B32) : B32 := ((x.getD 7 0#32 + ((rotM (x.getD 4 0#32) (-6) ^^^ rotM (x.getD 4 0#32) (-11)) ^^^ rotM (x.getD 4 0#32) (-25))) + ((x.getD 4 0#32 &&& x.getD 5 0#32) ^^^ (~~~ (x.getD 4 0#32) &&& x.getD 6 0#32))) + w
def vM (x : List B32) : B32 := ((rotM (x.getD 0 0#32) (-2) ^^^ rotM (x.getD 0 0#32) (-13)) ^^^ rotM (x.getD 0 0#32) (-22)) + (((x.getD 0 0#32 &&& x.getD 1 0#32) ^^^ (x.getD 0 0#32 &&& x.getD 2 0#32)) ^^^ (x.getD 1 0#32 &&& x.getD 2 0#32))
def roundM (x : List B32) (w : B32) : List B32 := [uM x w + vM x, x.getD 0 0#32, x.getD 1 0#32, x.getD 2 0#32, x.getD 3 0#32 + uM x w, x.getD 4 0#32, x.getD 5 0#32, x.getD 6 0#32]
def kM : List B32 := [1116352408#32, 1899447441#32, 3049323471#32, 3921009573#32, 961987163#32, 1508970993#32, 2453635748#32, 2870763221#32, 3624381080#32, 310598401#32, 607225278#32, 1426881987#32, 1925078388#32, 2162078206#32, 2614888103#32, 3248222580#32, 3835390401#32, 4022224774#32, 264347078#32, 604807628#32, 770255983#32, 1249150122#32, 1555081692#32, 1996064986#32, 2554220882#32, 2821834349#32, 2952996808#32, 3210313671#32, 3336571891#32, 3584528711#32, 113926993#32, 338241895#32, 666307205#32, 773529912#32, 1294757372#32, 1396182291#32, 1695183700#32, 1986661051#32, 2177026350#32, 2456956037#32, 2730485921#32, 2820302411#32, 3259730800#32, 3345764771#32, 3516065817#32, 3600352804#32, 4094571909#32, 275423344#32, 430227734#32, 506948616#32, 659060556#32, 883997877#32, 958139571#32, 1322822218#32, 1537002063#32, 1747873779#32, 1955562222#32, 2024104815#32, 2227730452#32, 2361852424#32, 2428436474#32, 2756734187#32, 3204031479#32, 3329325298#32]
def iniM : List B32 := [1779033703#32, 3144134277#32, 1013904242#32, 2773480762#32, 1359893119#32, 2600822924#32, 528734635#32, 1541459225#32]
def rndI (hs ws : List B32) (i : Nat) : List B32 := it (fun t x => roundM x (kM.getD t 0#32 + ws.getD t 0#32)) i hs
def addI (hs xs : List B32) (i : Nat) : List B32 := it (fun t h => h.set t (h.getD t 0#32 + xs.getD t 0#32)) i hs
def mixM (hs : List B32) (bs : List B8) : List B32 := addI hs (rndI hs (schM bs) 64) 8
end Go.ShM
set_option maxRecDepth 20000
namespace Go.ShM
open Go.SL
end Go.ShM
namespace Go.ShM
open Go.SL
end Go.ShM
namespace Go.ShM
open Go.SL
end Go.ShM
/-
  The digest of a message, in plain words: whole blocks mixed in, what is left, what is put behind. (Conditions: none; no program in sight.)
-/
set_option maxRecDepth 20000
namespace Go.ShM
open Go.SL
def blk (M : List B8) (i : Nat) : List B8 := (M.drop (64 * i)).take 64
def blkI (M : List B8) (k : Nat) : List B32 := it (fun i h => mixM h (blk M i)) k iniM
def hM (M : List B8) : List B32 := blkI M (M.length / 64)
def rM (M : List B8) : List B8 := M.drop (64 * (M.length / 64))
end Go.ShM
/-
  A hash in memory: a mark, eight words, what is left, how many bytes. (Conditions: none; generic over the program.)
-/
set_option maxRecDepth 20000
namespace Go.ShM
open Go.SL Go.RowKit
theorem eight {hs : List B32} (h : hs.length = 8) : hs = [hs.getD 0 0#32, hs.getD 1 0#32, hs.getD 2 0#32, hs.getD 3 0#32, hs.getD 4 0#32, hs.getD 5 0#32, hs.getD 6 0#32, hs.getD 7 0#32] := by
  match hs, h with
  | [a, b, c, d, e, f, g, i], _ => rfl
section
variable {P : Program} {n : Nat} {L : List (Nat × Value)} {A : List Asn} {d : Option Tmp} {ty : TypeId} {pos' : String} {af : Array Edge} {g : Option (Nat × Bool)} {t : TypeId} {x y : Operand}
end
end Go.ShM
/-
  Lists of bytes in a list: what stands there, and what they are one behind the other. (Conditions: none; no program in sight.)
-/
set_option maxRecDepth 20000
namespace Go.ShM
open Go.SL Go.RowKit
structure Pt where
  l : List B8
  ao : Option Addr
  cap : Nat
def Pt.v (p : Pt) : Value := .slice p.ao p.l.length p.cap
def fP (p : Pt) : List Value := [p.v]
end Go.ShM
/-
  What is put behind a message, read as a number; a digest's bytes, one by one; a list copied place by place. (Conditions: none; no program in sight.)
-/
set_option maxRecDepth 20000
namespace Go.ShM
open Go.SL Go.RowKit
end Go.ShM
/-
  The digest in a form that the kernel can reckon: each word is brought to a number before the next step. (Conditions: none; no program in sight.)
-/
set_option maxRecDepth 20000
namespace Go.ShM
open Go.SL
end Go.ShM
/-
  What is handed in: bytes as words of eight bits; a list of lists of bytes, each of which can be read, and how many bytes they are together. (Conditions: none; generic over the program.)
-/
namespace Go.SL
open Go.RowKit Go.ChangeShapes Go.WideShapes Go.ShM
section
variable {H : Type} {enc : TypeId × Value → H} {P : Program} {W : World} {base : Nat} {sp : Nat → Bool} {hd : Bool}
structure MeasS {H : Type} (m : DataW H → Nat) : Prop extends Meas m where
  sum : ∀ ds rs, (ds.map m).sum ≤ m (.slice ds rs)
end
end Go.SL
