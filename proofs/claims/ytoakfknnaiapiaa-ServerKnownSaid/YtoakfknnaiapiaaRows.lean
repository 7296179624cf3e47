/-
  No cell of these rows narrows 'for every input' (looked for: loops, veiled, ifaces, maps, wideKeys, modest, calm, conditions, laid).
  DERIVED. THE GIVEN ROWS OF THIS SEAT. 5 by the template 'for every input the law returns true; each argument reads behind the call as it read before'; 0 by the template 'total and deterministic' (their statements: YtoakfknnaiapiaaTotals.lean).
  GIVEN WITH THE SEED: the statements are not yours to turn. If you find one false, say at which input.
  Laid BY PROGRAM, IN A SANDBOX (cutbox-rows.mjs): the forced cells as the released guide's own fill.sh prints them over the translation 52381b703a4f0ee4… (all of the seat's roots in one cut). By AI agents, Wed Nov 11 2026. No macro, syntax, notation, axiom, sorry.
-/
import Derived.Test.YtoakfknnaiapiaaChecked
import GoSem.Claim
import GoSem.ClaimJoined
import GoSem.ClaimMapViews
import Derived.JoinedTies
import Derived.KernelRfl
namespace Go.Proofs.Ytoakfknnaiapiaa
/- THE CELL 'sum', in the pinned program and in every row, IS THE sha256 OF THE DUMP (.gsa) THAT YtoakfknnaiapiaaProg.lean LOADS. Nothing in Lean hashes anything: it is a label: what it is worth is what the hold of that sum in a sandbox is worth. -/
noncomputable def Try.pinned : Pinned := { name := "ytoakfknnaiapiaa", sum := "52381b703a4f0ee45f687ce9b7c5e112003f21d333f23330a7eb3ce7ca246bd8", checked := Try.checked }
namespace Rows
def none {H : Type} : Left H := { results := [], args := [] }

/-- 'strongroomlaw19.ServerNone': WHATEVER THE INPUT: true; the input reads as it did. -/
def serverNoneSpec : ChangeSpec := { name := "serverNone", fn := fun _ => fun
  | [d] => { results := [.lit (.bool true)], args := [d] }
  | _ => none }
def serverNoneRow : OpenClaim := { program := "ytoakfknnaiapiaa", sum := "52381b703a4f0ee45f687ce9b7c5e112003f21d333f23330a7eb3ce7ca246bd8", func := "strongroom/strongroomlaw19.ServerNone", spec := "serverNone", inPlace := ["internal/bytealg.Compare"], unfollowed := true, recurses := true, plainKeys := false, apart := false }
def ServerNoneSaid : Prop := serverNoneRow.holds Try.pinned (OpenSpec.ofChange serverNoneSpec)

/-- ITS FALSE NEIGHBOUR: 'it returns false'. Refute it at one input. -/
def serverNoneWrong : ChangeSpec := { name := "serverNone", fn := fun _ => fun
  | [d] => { results := [.lit (.bool false)], args := [d] }
  | _ => none }
def ServerNoneWrongFalsely : Prop := serverNoneRow.holds Try.pinned (OpenSpec.ofChange serverNoneWrong)

/-- 'strongroomlaw19.ServerOnce': WHATEVER THE INPUT: true; the input reads as it did. -/
def serverOnceSpec : ChangeSpec := { name := "serverOnce", fn := fun _ => fun
  | [d1, d2] => { results := [.lit (.bool true)], args := [d1, d2] }
  | _ => none }
def serverOnceRow : OpenClaim := { program := "ytoakfknnaiapiaa", sum := "52381b703a4f0ee45f687ce9b7c5e112003f21d333f23330a7eb3ce7ca246bd8", func := "strongroom/strongroomlaw19.ServerOnce", spec := "serverOnce", inPlace := ["internal/bytealg.Compare"], unfollowed := true, recurses := true, plainKeys := false, apart := false }
def ServerOnceSaid : Prop := serverOnceRow.holds Try.pinned (OpenSpec.ofChange serverOnceSpec)

/-- ITS FALSE NEIGHBOUR: 'it returns false'. Refute it at one input. -/
def serverOnceWrong : ChangeSpec := { name := "serverOnce", fn := fun _ => fun
  | [d1, d2] => { results := [.lit (.bool false)], args := [d1, d2] }
  | _ => none }
def ServerOnceWrongFalsely : Prop := serverOnceRow.holds Try.pinned (OpenSpec.ofChange serverOnceWrong)

/-- 'strongroomlaw19.ServerAgain': WHATEVER THE INPUT: true; the input reads as it did. -/
def serverAgainSpec : ChangeSpec := { name := "serverAgain", fn := fun _ => fun
  | [d1, d2, d3] => { results := [.lit (.bool true)], args := [d1, d2, d3] }
  | _ => none }
def serverAgainRow : OpenClaim := { program := "ytoakfknnaiapiaa", sum := "52381b703a4f0ee45f687ce9b7c5e112003f21d333f23330a7eb3ce7ca246bd8", func := "strongroom/strongroomlaw19.ServerAgain", spec := "serverAgain", inPlace := ["internal/bytealg.Compare"], unfollowed := true, recurses := true, plainKeys := false, apart := false }
def ServerAgainSaid : Prop := serverAgainRow.holds Try.pinned (OpenSpec.ofChange serverAgainSpec)

/-- ITS FALSE NEIGHBOUR: 'it returns false'. Refute it at one input. -/
def serverAgainWrong : ChangeSpec := { name := "serverAgain", fn := fun _ => fun
  | [d1, d2, d3] => { results := [.lit (.bool false)], args := [d1, d2, d3] }
  | _ => none }
def ServerAgainWrongFalsely : Prop := serverAgainRow.holds Try.pinned (OpenSpec.ofChange serverAgainWrong)

/-- 'strongroomlaw19.ServerTicks': WHATEVER THE INPUT: true; the input reads as it did. -/
def serverTicksSpec : ChangeSpec := { name := "serverTicks", fn := fun _ => fun
  | [d1, d2, d3] => { results := [.lit (.bool true)], args := [d1, d2, d3] }
  | _ => none }
def serverTicksRow : OpenClaim := { program := "ytoakfknnaiapiaa", sum := "52381b703a4f0ee45f687ce9b7c5e112003f21d333f23330a7eb3ce7ca246bd8", func := "strongroom/strongroomlaw19.ServerTicks", spec := "serverTicks", inPlace := ["internal/bytealg.Compare"], unfollowed := true, recurses := true, plainKeys := false, apart := false }
def ServerTicksSaid : Prop := serverTicksRow.holds Try.pinned (OpenSpec.ofChange serverTicksSpec)

/-- ITS FALSE NEIGHBOUR: 'it returns false'. Refute it at one input. -/
def serverTicksWrong : ChangeSpec := { name := "serverTicks", fn := fun _ => fun
  | [d1, d2, d3] => { results := [.lit (.bool false)], args := [d1, d2, d3] }
  | _ => none }
def ServerTicksWrongFalsely : Prop := serverTicksRow.holds Try.pinned (OpenSpec.ofChange serverTicksWrong)

/-- 'strongroomlaw19.ServerKnown': WHATEVER THE INPUT: true; the input reads as it did. -/
def serverKnownSpec : ChangeSpec := { name := "serverKnown", fn := fun _ => fun
  | [] => { results := [.lit (.bool true)], args := [] }
  | _ => none }
def serverKnownRow : OpenClaim := { program := "ytoakfknnaiapiaa", sum := "52381b703a4f0ee45f687ce9b7c5e112003f21d333f23330a7eb3ce7ca246bd8", func := "strongroom/strongroomlaw19.ServerKnown", spec := "serverKnown", inPlace := ["internal/bytealg.Compare"], unfollowed := true, recurses := true, plainKeys := false, apart := false }
def ServerKnownSaid : Prop := serverKnownRow.holds Try.pinned (OpenSpec.ofChange serverKnownSpec)

/-- ITS FALSE NEIGHBOUR: 'it returns false'. Refute it at one input. -/
def serverKnownWrong : ChangeSpec := { name := "serverKnown", fn := fun _ => fun
  | [] => { results := [.lit (.bool false)], args := [] }
  | _ => none }
def ServerKnownWrongFalsely : Prop := serverKnownRow.holds Try.pinned (OpenSpec.ofChange serverKnownWrong)

/- THE SECOND FORM. 'bulk': how many values and letters a reading holds, each counted each time it is reached (what is shared counts as often as it is met; a slice's spare places count too). A statement '..UptoSaid' is the law's where the arguments, and the package variables that the reading takes, are together of bulk at most 1048576: NARROWER than '..Said'. Prove '..Said' where nothing that the law and all that it calls make is longer than what came in: it says more and counts as full. Else prove '..UptoSaid'. A law counts once. -/
mutual
def uptoBulk {H : Type} : DataW H → Nat
  | .lit (.string bytes) => bytes.length + 1
  | .lit _ => 1
  | .nil => 1
  | .ptr d => uptoBulk d + 1
  | .slice elems spare => uptoBulkAll elems + uptoBulkAll spare + 1
  | .agg parts => uptoBulkAll parts + 1
  | .iface _ d => uptoBulk d + 1
  | .map entries => uptoBulkEntries entries + 1
  | .held _ => 1
def uptoBulkAll {H : Type} : List (DataW H) → Nat
  | [] => 0
  | d :: r => uptoBulk d + uptoBulkAll r
def uptoBulkEntries {H : Type} : List (Lit × DataW H) → Nat
  | [] => 0
  | x :: r => uptoBulkEntry x + uptoBulkEntries r
def uptoBulkEntry {H : Type} : Lit × DataW H → Nat
  | (.string bytes, d) => bytes.length + uptoBulk d + 1
  | (_, d) => uptoBulk d + 1
 end
def uptoSmall : (H : Type) → List (DataW H) → Bool := fun _ ds => decide (uptoBulkAll ds ≤ 1048576)
def OpenSpec.upto (s : _root_.Go.ChangeSpec) : _root_.Go.OpenSpec := { _root_.Go.OpenSpec.ofChange s with cond := some uptoSmall }

/-- 'strongroomlaw19.ServerNone', WHERE WHAT IT READS IS OF BULK AT MOST 1048576: true; the input reads as it did. -/
def serverNoneUptoRow : OpenClaim := { program := "ytoakfknnaiapiaa", sum := "52381b703a4f0ee45f687ce9b7c5e112003f21d333f23330a7eb3ce7ca246bd8", func := "strongroom/strongroomlaw19.ServerNone", spec := "serverNone", inPlace := ["internal/bytealg.Compare"], unfollowed := true, recurses := true, plainKeys := false, apart := false, narrowed := true }
def ServerNoneUptoSaid : Prop := serverNoneUptoRow.holds Try.pinned (OpenSpec.upto serverNoneSpec)

/-- 'strongroomlaw19.ServerOnce', WHERE WHAT IT READS IS OF BULK AT MOST 1048576: true; the input reads as it did. -/
def serverOnceUptoRow : OpenClaim := { program := "ytoakfknnaiapiaa", sum := "52381b703a4f0ee45f687ce9b7c5e112003f21d333f23330a7eb3ce7ca246bd8", func := "strongroom/strongroomlaw19.ServerOnce", spec := "serverOnce", inPlace := ["internal/bytealg.Compare"], unfollowed := true, recurses := true, plainKeys := false, apart := false, narrowed := true }
def ServerOnceUptoSaid : Prop := serverOnceUptoRow.holds Try.pinned (OpenSpec.upto serverOnceSpec)

/-- 'strongroomlaw19.ServerAgain', WHERE WHAT IT READS IS OF BULK AT MOST 1048576: true; the input reads as it did. -/
def serverAgainUptoRow : OpenClaim := { program := "ytoakfknnaiapiaa", sum := "52381b703a4f0ee45f687ce9b7c5e112003f21d333f23330a7eb3ce7ca246bd8", func := "strongroom/strongroomlaw19.ServerAgain", spec := "serverAgain", inPlace := ["internal/bytealg.Compare"], unfollowed := true, recurses := true, plainKeys := false, apart := false, narrowed := true }
def ServerAgainUptoSaid : Prop := serverAgainUptoRow.holds Try.pinned (OpenSpec.upto serverAgainSpec)

/-- 'strongroomlaw19.ServerTicks', WHERE WHAT IT READS IS OF BULK AT MOST 1048576: true; the input reads as it did. -/
def serverTicksUptoRow : OpenClaim := { program := "ytoakfknnaiapiaa", sum := "52381b703a4f0ee45f687ce9b7c5e112003f21d333f23330a7eb3ce7ca246bd8", func := "strongroom/strongroomlaw19.ServerTicks", spec := "serverTicks", inPlace := ["internal/bytealg.Compare"], unfollowed := true, recurses := true, plainKeys := false, apart := false, narrowed := true }
def ServerTicksUptoSaid : Prop := serverTicksUptoRow.holds Try.pinned (OpenSpec.upto serverTicksSpec)

/-- 'strongroomlaw19.ServerKnown', WHERE WHAT IT READS IS OF BULK AT MOST 1048576: true; the input reads as it did. -/
def serverKnownUptoRow : OpenClaim := { program := "ytoakfknnaiapiaa", sum := "52381b703a4f0ee45f687ce9b7c5e112003f21d333f23330a7eb3ce7ca246bd8", func := "strongroom/strongroomlaw19.ServerKnown", spec := "serverKnown", inPlace := ["internal/bytealg.Compare"], unfollowed := true, recurses := true, plainKeys := false, apart := false, narrowed := true }
def ServerKnownUptoSaid : Prop := serverKnownUptoRow.holds Try.pinned (OpenSpec.upto serverKnownSpec)

end Rows
end Go.Proofs.Ytoakfknnaiapiaa
