/-
  No cell of these rows narrows 'for every input' (looked for: loops, veiled, ifaces, maps, wideKeys, modest, calm, conditions, laid).
  DERIVED. THE GIVEN ROWS OF THIS SEAT. 6 by the template 'for every input the law returns true; each argument reads behind the call as it read before'; 0 by the template 'total and deterministic' (their statements: YtcemkpiopijbmaaTotals.lean).
  GIVEN WITH THE SEED: the statements are not yours to turn. If you find one false, say at which input.
  Laid BY PROGRAM, IN A SANDBOX (cutbox-rows.mjs): the forced cells as the released guide's own fill.sh prints them over the translation 5e364c0306c4d1ba… (all of the seat's roots in one cut). By AI agents, Wed Nov 11 2026. No macro, syntax, notation, axiom, sorry.
-/
import Derived.Test.YtcemkpiopijbmaaChecked
import GoSem.Claim
import GoSem.ClaimJoined
import GoSem.ClaimMapViews
import Derived.JoinedTies
import Derived.KernelRfl
namespace Go.Proofs.Ytcemkpiopijbmaa
/- THE CELL 'sum', in the pinned program and in every row, IS THE sha256 OF THE DUMP (.gsa) THAT YtcemkpiopijbmaaProg.lean LOADS. Nothing in Lean hashes anything: it is a label: what it is worth is what the hold of that sum in a sandbox is worth. -/
noncomputable def Try.pinned : Pinned := { name := "ytcemkpiopijbmaa", sum := "5e364c0306c4d1ba0bd595eba602ad28cf90eb642ae2b45d9751cf0197fd2af8", checked := Try.checked }
namespace Rows
def none {H : Type} : Left H := { results := [], args := [] }

/-- 'strongroomlaw18.ClockOnce': WHATEVER THE INPUT: true; the input reads as it did. -/
def clockOnceSpec : ChangeSpec := { name := "clockOnce", fn := fun _ => fun
  | [d1, d2] => { results := [.lit (.bool true)], args := [d1, d2] }
  | _ => none }
def clockOnceRow : OpenClaim := { program := "ytcemkpiopijbmaa", sum := "5e364c0306c4d1ba0bd595eba602ad28cf90eb642ae2b45d9751cf0197fd2af8", func := "strongroom/strongroomlaw18.ClockOnce", spec := "clockOnce", unfollowed := true, recurses := true, apart := false }
def ClockOnceSaid : Prop := clockOnceRow.holds Try.pinned (OpenSpec.ofChange clockOnceSpec)

/-- ITS FALSE NEIGHBOUR: 'it returns false'. Refute it at one input. -/
def clockOnceWrong : ChangeSpec := { name := "clockOnce", fn := fun _ => fun
  | [d1, d2] => { results := [.lit (.bool false)], args := [d1, d2] }
  | _ => none }
def ClockOnceWrongFalsely : Prop := clockOnceRow.holds Try.pinned (OpenSpec.ofChange clockOnceWrong)

/-- 'strongroomlaw18.ClockLeaps': WHATEVER THE INPUT: true; the input reads as it did. -/
def clockLeapsSpec : ChangeSpec := { name := "clockLeaps", fn := fun _ => fun
  | [d1, d2] => { results := [.lit (.bool true)], args := [d1, d2] }
  | _ => none }
def clockLeapsRow : OpenClaim := { program := "ytcemkpiopijbmaa", sum := "5e364c0306c4d1ba0bd595eba602ad28cf90eb642ae2b45d9751cf0197fd2af8", func := "strongroom/strongroomlaw18.ClockLeaps", spec := "clockLeaps", unfollowed := true, recurses := true, apart := false }
def ClockLeapsSaid : Prop := clockLeapsRow.holds Try.pinned (OpenSpec.ofChange clockLeapsSpec)

/-- ITS FALSE NEIGHBOUR: 'it returns false'. Refute it at one input. -/
def clockLeapsWrong : ChangeSpec := { name := "clockLeaps", fn := fun _ => fun
  | [d1, d2] => { results := [.lit (.bool false)], args := [d1, d2] }
  | _ => none }
def ClockLeapsWrongFalsely : Prop := clockLeapsRow.holds Try.pinned (OpenSpec.ofChange clockLeapsWrong)

/-- 'strongroomlaw18.ClockNames': WHATEVER THE INPUT: true; the input reads as it did. -/
def clockNamesSpec : ChangeSpec := { name := "clockNames", fn := fun _ => fun
  | [] => { results := [.lit (.bool true)], args := [] }
  | _ => none }
def clockNamesRow : OpenClaim := { program := "ytcemkpiopijbmaa", sum := "5e364c0306c4d1ba0bd595eba602ad28cf90eb642ae2b45d9751cf0197fd2af8", func := "strongroom/strongroomlaw18.ClockNames", spec := "clockNames", unfollowed := true, recurses := true, apart := false }
def ClockNamesSaid : Prop := clockNamesRow.holds Try.pinned (OpenSpec.ofChange clockNamesSpec)

/-- ITS FALSE NEIGHBOUR: 'it returns false'. Refute it at one input. -/
def clockNamesWrong : ChangeSpec := { name := "clockNames", fn := fun _ => fun
  | [] => { results := [.lit (.bool false)], args := [] }
  | _ => none }
def ClockNamesWrongFalsely : Prop := clockNamesRow.holds Try.pinned (OpenSpec.ofChange clockNamesWrong)

/-- 'strongroomlaw18.ClockWalks': WHATEVER THE INPUT: true; the input reads as it did. -/
def clockWalksSpec : ChangeSpec := { name := "clockWalks", fn := fun _ => fun
  | [d1, d2, d3] => { results := [.lit (.bool true)], args := [d1, d2, d3] }
  | _ => none }
def clockWalksRow : OpenClaim := { program := "ytcemkpiopijbmaa", sum := "5e364c0306c4d1ba0bd595eba602ad28cf90eb642ae2b45d9751cf0197fd2af8", func := "strongroom/strongroomlaw18.ClockWalks", spec := "clockWalks", unfollowed := true, recurses := true, apart := false }
def ClockWalksSaid : Prop := clockWalksRow.holds Try.pinned (OpenSpec.ofChange clockWalksSpec)

/-- ITS FALSE NEIGHBOUR: 'it returns false'. Refute it at one input. -/
def clockWalksWrong : ChangeSpec := { name := "clockWalks", fn := fun _ => fun
  | [d1, d2, d3] => { results := [.lit (.bool false)], args := [d1, d2, d3] }
  | _ => none }
def ClockWalksWrongFalsely : Prop := clockWalksRow.holds Try.pinned (OpenSpec.ofChange clockWalksWrong)

/-- 'strongroomlaw18.ClockPlays': WHATEVER THE INPUT: true; the input reads as it did. -/
def clockPlaysSpec : ChangeSpec := { name := "clockPlays", fn := fun _ => fun
  | [d1, d2, d3] => { results := [.lit (.bool true)], args := [d1, d2, d3] }
  | _ => none }
def clockPlaysRow : OpenClaim := { program := "ytcemkpiopijbmaa", sum := "5e364c0306c4d1ba0bd595eba602ad28cf90eb642ae2b45d9751cf0197fd2af8", func := "strongroom/strongroomlaw18.ClockPlays", spec := "clockPlays", unfollowed := true, recurses := true, apart := false }
def ClockPlaysSaid : Prop := clockPlaysRow.holds Try.pinned (OpenSpec.ofChange clockPlaysSpec)

/-- ITS FALSE NEIGHBOUR: 'it returns false'. Refute it at one input. -/
def clockPlaysWrong : ChangeSpec := { name := "clockPlays", fn := fun _ => fun
  | [d1, d2, d3] => { results := [.lit (.bool false)], args := [d1, d2, d3] }
  | _ => none }
def ClockPlaysWrongFalsely : Prop := clockPlaysRow.holds Try.pinned (OpenSpec.ofChange clockPlaysWrong)

/-- 'strongroomlaw18.ClockNil': WHATEVER THE INPUT: true; the input reads as it did. -/
def clockNilSpec : ChangeSpec := { name := "clockNil", fn := fun _ => fun
  | [d1, d2] => { results := [.lit (.bool true)], args := [d1, d2] }
  | _ => none }
def clockNilRow : OpenClaim := { program := "ytcemkpiopijbmaa", sum := "5e364c0306c4d1ba0bd595eba602ad28cf90eb642ae2b45d9751cf0197fd2af8", func := "strongroom/strongroomlaw18.ClockNil", spec := "clockNil", unfollowed := true, recurses := true, apart := false }
def ClockNilSaid : Prop := clockNilRow.holds Try.pinned (OpenSpec.ofChange clockNilSpec)

/-- ITS FALSE NEIGHBOUR: 'it returns false'. Refute it at one input. -/
def clockNilWrong : ChangeSpec := { name := "clockNil", fn := fun _ => fun
  | [d1, d2] => { results := [.lit (.bool false)], args := [d1, d2] }
  | _ => none }
def ClockNilWrongFalsely : Prop := clockNilRow.holds Try.pinned (OpenSpec.ofChange clockNilWrong)

/- THE SECOND FORM. 'bulk': how many values and letters a reading holds, each counted each time it is reached (what is shared counts as often as it is met; a slice's spare places count too). A statement '..UptoSaid' is the law's where the arguments, and the package variables that the reading takes, are together of bulk at most 1048576: NARROWER than '..Said'. Prove '..Said' where nothing that the law and all that it calls make is longer than what came in: it says more and counts as full. Else prove '..UptoSaid'. A law counts once. -/
mutual
def uptoBulk {H : Type} : DataW H → Nat
  | .lit (.string bytes) => bytes.length + 1
  | .lit _ => 1
  | .nil => 1
  | .ptr d => uptoBulk d + 1
  | .slice elems spare => uptoBulkAll elems + uptoBulkAll spare + 1
  | .agg parts => uptoBulkAll parts + 1
  | .iface _ d => uptoBulk d + 1
  | .map entries => uptoBulkEntries entries + 1
  | .held _ => 1
def uptoBulkAll {H : Type} : List (DataW H) → Nat
  | [] => 0
  | d :: r => uptoBulk d + uptoBulkAll r
def uptoBulkEntries {H : Type} : List (Lit × DataW H) → Nat
  | [] => 0
  | x :: r => uptoBulkEntry x + uptoBulkEntries r
def uptoBulkEntry {H : Type} : Lit × DataW H → Nat
  | (.string bytes, d) => bytes.length + uptoBulk d + 1
  | (_, d) => uptoBulk d + 1
 end
def uptoSmall : (H : Type) → List (DataW H) → Bool := fun _ ds => decide (uptoBulkAll ds ≤ 1048576)
def OpenSpec.upto (s : _root_.Go.ChangeSpec) : _root_.Go.OpenSpec := { _root_.Go.OpenSpec.ofChange s with cond := some uptoSmall }

/-- 'strongroomlaw18.ClockOnce', WHERE WHAT IT READS IS OF BULK AT MOST 1048576: true; the input reads as it did. -/
def clockOnceUptoRow : OpenClaim := { program := "ytcemkpiopijbmaa", sum := "5e364c0306c4d1ba0bd595eba602ad28cf90eb642ae2b45d9751cf0197fd2af8", func := "strongroom/strongroomlaw18.ClockOnce", spec := "clockOnce", unfollowed := true, recurses := true, apart := false, narrowed := true }
def ClockOnceUptoSaid : Prop := clockOnceUptoRow.holds Try.pinned (OpenSpec.upto clockOnceSpec)

/-- 'strongroomlaw18.ClockLeaps', WHERE WHAT IT READS IS OF BULK AT MOST 1048576: true; the input reads as it did. -/
def clockLeapsUptoRow : OpenClaim := { program := "ytcemkpiopijbmaa", sum := "5e364c0306c4d1ba0bd595eba602ad28cf90eb642ae2b45d9751cf0197fd2af8", func := "strongroom/strongroomlaw18.ClockLeaps", spec := "clockLeaps", unfollowed := true, recurses := true, apart := false, narrowed := true }
def ClockLeapsUptoSaid : Prop := clockLeapsUptoRow.holds Try.pinned (OpenSpec.upto clockLeapsSpec)

/-- 'strongroomlaw18.ClockNames', WHERE WHAT IT READS IS OF BULK AT MOST 1048576: true; the input reads as it did. -/
def clockNamesUptoRow : OpenClaim := { program := "ytcemkpiopijbmaa", sum := "5e364c0306c4d1ba0bd595eba602ad28cf90eb642ae2b45d9751cf0197fd2af8", func := "strongroom/strongroomlaw18.ClockNames", spec := "clockNames", unfollowed := true, recurses := true, apart := false, narrowed := true }
def ClockNamesUptoSaid : Prop := clockNamesUptoRow.holds Try.pinned (OpenSpec.upto clockNamesSpec)

/-- 'strongroomlaw18.ClockWalks', WHERE WHAT IT READS IS OF BULK AT MOST 1048576: true; the input reads as it did. -/
def clockWalksUptoRow : OpenClaim := { program := "ytcemkpiopijbmaa", sum := "5e364c0306c4d1ba0bd595eba602ad28cf90eb642ae2b45d9751cf0197fd2af8", func := "strongroom/strongroomlaw18.ClockWalks", spec := "clockWalks", unfollowed := true, recurses := true, apart := false, narrowed := true }
def ClockWalksUptoSaid : Prop := clockWalksUptoRow.holds Try.pinned (OpenSpec.upto clockWalksSpec)

/-- 'strongroomlaw18.ClockPlays', WHERE WHAT IT READS IS OF BULK AT MOST 1048576: true; the input reads as it did. -/
def clockPlaysUptoRow : OpenClaim := { program := "ytcemkpiopijbmaa", sum := "5e364c0306c4d1ba0bd595eba602ad28cf90eb642ae2b45d9751cf0197fd2af8", func := "strongroom/strongroomlaw18.ClockPlays", spec := "clockPlays", unfollowed := true, recurses := true, apart := false, narrowed := true }
def ClockPlaysUptoSaid : Prop := clockPlaysUptoRow.holds Try.pinned (OpenSpec.upto clockPlaysSpec)

/-- 'strongroomlaw18.ClockNil', WHERE WHAT IT READS IS OF BULK AT MOST 1048576: true; the input reads as it did. -/
def clockNilUptoRow : OpenClaim := { program := "ytcemkpiopijbmaa", sum := "5e364c0306c4d1ba0bd595eba602ad28cf90eb642ae2b45d9751cf0197fd2af8", func := "strongroom/strongroomlaw18.ClockNil", spec := "clockNil", unfollowed := true, recurses := true, apart := false, narrowed := true }
def ClockNilUptoSaid : Prop := clockNilUptoRow.holds Try.pinned (OpenSpec.upto clockNilSpec)

end Rows
end Go.Proofs.Ytcemkpiopijbmaa
