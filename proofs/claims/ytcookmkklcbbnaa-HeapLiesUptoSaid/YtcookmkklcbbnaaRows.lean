/-
  No cell of these rows narrows 'for every input' (looked for: loops, veiled, ifaces, maps, wideKeys, modest, calm, conditions, laid).
  DERIVED. THE GIVEN ROWS OF THIS SEAT. 7 by the template 'for every input the law returns true; each argument reads behind the call as it read before'; 0 by the template 'total and deterministic' (their statements: YtcookmkklcbbnaaTotals.lean).
  GIVEN WITH THE SEED: the statements are not yours to turn. If you find one false, say at which input.
  Laid BY PROGRAM, IN A SANDBOX (cutbox-rows.mjs): the forced cells as the released guide's own fill.sh prints them over the translation dfa57db6616ad887… (all of the seat's roots in one cut). By AI agents, Wed Nov 11 2026. No macro, syntax, notation, axiom, sorry.
-/
import Derived.Test.YtcookmkklcbbnaaChecked
import GoSem.Claim
import GoSem.ClaimJoined
import GoSem.ClaimMapViews
import Derived.JoinedTies
import Derived.KernelRfl
namespace Go.Proofs.Ytcookmkklcbbnaa
/- THE CELL 'sum', in the pinned program and in every row, IS THE sha256 OF THE DUMP (.gsa) THAT YtcookmkklcbbnaaProg.lean LOADS. Nothing in Lean hashes anything: it is a label: what it is worth is what the hold of that sum in a sandbox is worth. -/
noncomputable def Try.pinned : Pinned := { name := "ytcookmkklcbbnaa", sum := "dfa57db6616ad887f23d8c99f43ab8ccd2667d5078d75be81c693077c628a662", checked := Try.checked }
namespace Rows
def none {H : Type} : Left H := { results := [], args := [] }

/-- 'strongroomlaw19.ServerMays': WHATEVER THE INPUT: true; the input reads as it did. -/
def serverMaysSpec : ChangeSpec := { name := "serverMays", fn := fun _ => fun
  | [d] => { results := [.lit (.bool true)], args := [d] }
  | _ => none }
def serverMaysRow : OpenClaim := { program := "ytcookmkklcbbnaa", sum := "dfa57db6616ad887f23d8c99f43ab8ccd2667d5078d75be81c693077c628a662", func := "strongroom/strongroomlaw19.ServerMays", spec := "serverMays", apart := false }
def ServerMaysSaid : Prop := serverMaysRow.holds Try.pinned (OpenSpec.ofChange serverMaysSpec)

/-- ITS FALSE NEIGHBOUR: 'it returns false'. Refute it at one input. -/
def serverMaysWrong : ChangeSpec := { name := "serverMays", fn := fun _ => fun
  | [d] => { results := [.lit (.bool false)], args := [d] }
  | _ => none }
def ServerMaysWrongFalsely : Prop := serverMaysRow.holds Try.pinned (OpenSpec.ofChange serverMaysWrong)

/-- 'strongroomlaw17.HeapPairs': WHATEVER THE INPUT: true; the input reads as it did. -/
def heapPairsSpec : ChangeSpec := { name := "heapPairs", fn := fun _ => fun
  | [d] => { results := [.lit (.bool true)], args := [d] }
  | _ => none }
def heapPairsRow : OpenClaim := { program := "ytcookmkklcbbnaa", sum := "dfa57db6616ad887f23d8c99f43ab8ccd2667d5078d75be81c693077c628a662", func := "strongroom/strongroomlaw17.HeapPairs", spec := "heapPairs", unfollowed := true, recurses := true, apart := false }
def HeapPairsSaid : Prop := heapPairsRow.holds Try.pinned (OpenSpec.ofChange heapPairsSpec)

/-- ITS FALSE NEIGHBOUR: 'it returns false'. Refute it at one input. -/
def heapPairsWrong : ChangeSpec := { name := "heapPairs", fn := fun _ => fun
  | [d] => { results := [.lit (.bool false)], args := [d] }
  | _ => none }
def HeapPairsWrongFalsely : Prop := heapPairsRow.holds Try.pinned (OpenSpec.ofChange heapPairsWrong)

/-- 'strongroomlaw17.HeapNames': WHATEVER THE INPUT: true; the input reads as it did. -/
def heapNamesSpec : ChangeSpec := { name := "heapNames", fn := fun _ => fun
  | [] => { results := [.lit (.bool true)], args := [] }
  | _ => none }
def heapNamesRow : OpenClaim := { program := "ytcookmkklcbbnaa", sum := "dfa57db6616ad887f23d8c99f43ab8ccd2667d5078d75be81c693077c628a662", func := "strongroom/strongroomlaw17.HeapNames", spec := "heapNames", unfollowed := true, recurses := true, apart := false }
def HeapNamesSaid : Prop := heapNamesRow.holds Try.pinned (OpenSpec.ofChange heapNamesSpec)

/-- ITS FALSE NEIGHBOUR: 'it returns false'. Refute it at one input. -/
def heapNamesWrong : ChangeSpec := { name := "heapNames", fn := fun _ => fun
  | [] => { results := [.lit (.bool false)], args := [] }
  | _ => none }
def HeapNamesWrongFalsely : Prop := heapNamesRow.holds Try.pinned (OpenSpec.ofChange heapNamesWrong)

/-- 'strongroomlaw17.HeapSorts': WHATEVER THE INPUT: true; the input reads as it did. -/
def heapSortsSpec : ChangeSpec := { name := "heapSorts", fn := fun _ => fun
  | [d1, d2] => { results := [.lit (.bool true)], args := [d1, d2] }
  | _ => none }
def heapSortsRow : OpenClaim := { program := "ytcookmkklcbbnaa", sum := "dfa57db6616ad887f23d8c99f43ab8ccd2667d5078d75be81c693077c628a662", func := "strongroom/strongroomlaw17.HeapSorts", spec := "heapSorts", unfollowed := true, recurses := true, apart := false }
def HeapSortsSaid : Prop := heapSortsRow.holds Try.pinned (OpenSpec.ofChange heapSortsSpec)

/-- ITS FALSE NEIGHBOUR: 'it returns false'. Refute it at one input. -/
def heapSortsWrong : ChangeSpec := { name := "heapSorts", fn := fun _ => fun
  | [d1, d2] => { results := [.lit (.bool false)], args := [d1, d2] }
  | _ => none }
def HeapSortsWrongFalsely : Prop := heapSortsRow.holds Try.pinned (OpenSpec.ofChange heapSortsWrong)

/-- 'strongroomlaw17.HeapLies': WHATEVER THE INPUT: true; the input reads as it did. -/
def heapLiesSpec : ChangeSpec := { name := "heapLies", fn := fun _ => fun
  | [d1, d2, d3] => { results := [.lit (.bool true)], args := [d1, d2, d3] }
  | _ => none }
def heapLiesRow : OpenClaim := { program := "ytcookmkklcbbnaa", sum := "dfa57db6616ad887f23d8c99f43ab8ccd2667d5078d75be81c693077c628a662", func := "strongroom/strongroomlaw17.HeapLies", spec := "heapLies", unfollowed := true, recurses := true, apart := false }
def HeapLiesSaid : Prop := heapLiesRow.holds Try.pinned (OpenSpec.ofChange heapLiesSpec)

/-- ITS FALSE NEIGHBOUR: 'it returns false'. Refute it at one input. -/
def heapLiesWrong : ChangeSpec := { name := "heapLies", fn := fun _ => fun
  | [d1, d2, d3] => { results := [.lit (.bool false)], args := [d1, d2, d3] }
  | _ => none }
def HeapLiesWrongFalsely : Prop := heapLiesRow.holds Try.pinned (OpenSpec.ofChange heapLiesWrong)

/-- 'strongroomlaw17.HeapCalls': WHATEVER THE INPUT: true; the input reads as it did. -/
def heapCallsSpec : ChangeSpec := { name := "heapCalls", fn := fun _ => fun
  | [d1, d2, d3] => { results := [.lit (.bool true)], args := [d1, d2, d3] }
  | _ => none }
def heapCallsRow : OpenClaim := { program := "ytcookmkklcbbnaa", sum := "dfa57db6616ad887f23d8c99f43ab8ccd2667d5078d75be81c693077c628a662", func := "strongroom/strongroomlaw17.HeapCalls", spec := "heapCalls", unfollowed := true, recurses := true, apart := false }
def HeapCallsSaid : Prop := heapCallsRow.holds Try.pinned (OpenSpec.ofChange heapCallsSpec)

/-- ITS FALSE NEIGHBOUR: 'it returns false'. Refute it at one input. -/
def heapCallsWrong : ChangeSpec := { name := "heapCalls", fn := fun _ => fun
  | [d1, d2, d3] => { results := [.lit (.bool false)], args := [d1, d2, d3] }
  | _ => none }
def HeapCallsWrongFalsely : Prop := heapCallsRow.holds Try.pinned (OpenSpec.ofChange heapCallsWrong)

/-- 'strongroomlaw17.HeapNone': WHATEVER THE INPUT: true; the input reads as it did. -/
def heapNoneSpec : ChangeSpec := { name := "heapNone", fn := fun _ => fun
  | [d1, d2] => { results := [.lit (.bool true)], args := [d1, d2] }
  | _ => none }
def heapNoneRow : OpenClaim := { program := "ytcookmkklcbbnaa", sum := "dfa57db6616ad887f23d8c99f43ab8ccd2667d5078d75be81c693077c628a662", func := "strongroom/strongroomlaw17.HeapNone", spec := "heapNone", unfollowed := true, recurses := true, apart := false }
def HeapNoneSaid : Prop := heapNoneRow.holds Try.pinned (OpenSpec.ofChange heapNoneSpec)

/-- ITS FALSE NEIGHBOUR: 'it returns false'. Refute it at one input. -/
def heapNoneWrong : ChangeSpec := { name := "heapNone", fn := fun _ => fun
  | [d1, d2] => { results := [.lit (.bool false)], args := [d1, d2] }
  | _ => none }
def HeapNoneWrongFalsely : Prop := heapNoneRow.holds Try.pinned (OpenSpec.ofChange heapNoneWrong)

/- THE SECOND FORM. 'bulk': how many values and letters a reading holds, each counted each time it is reached (what is shared counts as often as it is met; a slice's spare places count too). A statement '..UptoSaid' is the law's where the arguments, and the package variables that the reading takes, are together of bulk at most 1048576: NARROWER than '..Said'. Prove '..Said' where nothing that the law and all that it calls make is longer than what came in: it says more and counts as full. Else prove '..UptoSaid'. A law counts once. -/
mutual
def uptoBulk {H : Type} : DataW H → Nat
  | .lit (.string bytes) => bytes.length + 1
  | .lit _ => 1
  | .nil => 1
  | .ptr d => uptoBulk d + 1
  | .slice elems spare => uptoBulkAll elems + uptoBulkAll spare + 1
  | .agg parts => uptoBulkAll parts + 1
  | .iface _ d => uptoBulk d + 1
  | .map entries => uptoBulkEntries entries + 1
  | .held _ => 1
def uptoBulkAll {H : Type} : List (DataW H) → Nat
  | [] => 0
  | d :: r => uptoBulk d + uptoBulkAll r
def uptoBulkEntries {H : Type} : List (Lit × DataW H) → Nat
  | [] => 0
  | x :: r => uptoBulkEntry x + uptoBulkEntries r
def uptoBulkEntry {H : Type} : Lit × DataW H → Nat
  | (.string bytes, d) => bytes.length + uptoBulk d + 1
  | (_, d) => uptoBulk d + 1
 end
def uptoSmall : (H : Type) → List (DataW H) → Bool := fun _ ds => decide (uptoBulkAll ds ≤ 1048576)
def OpenSpec.upto (s : _root_.Go.ChangeSpec) : _root_.Go.OpenSpec := { _root_.Go.OpenSpec.ofChange s with cond := some uptoSmall }

/-- 'strongroomlaw19.ServerMays', WHERE WHAT IT READS IS OF BULK AT MOST 1048576: true; the input reads as it did. -/
def serverMaysUptoRow : OpenClaim := { program := "ytcookmkklcbbnaa", sum := "dfa57db6616ad887f23d8c99f43ab8ccd2667d5078d75be81c693077c628a662", func := "strongroom/strongroomlaw19.ServerMays", spec := "serverMays", apart := false, narrowed := true }
def ServerMaysUptoSaid : Prop := serverMaysUptoRow.holds Try.pinned (OpenSpec.upto serverMaysSpec)

/-- 'strongroomlaw17.HeapPairs', WHERE WHAT IT READS IS OF BULK AT MOST 1048576: true; the input reads as it did. -/
def heapPairsUptoRow : OpenClaim := { program := "ytcookmkklcbbnaa", sum := "dfa57db6616ad887f23d8c99f43ab8ccd2667d5078d75be81c693077c628a662", func := "strongroom/strongroomlaw17.HeapPairs", spec := "heapPairs", unfollowed := true, recurses := true, apart := false, narrowed := true }
def HeapPairsUptoSaid : Prop := heapPairsUptoRow.holds Try.pinned (OpenSpec.upto heapPairsSpec)

/-- 'strongroomlaw17.HeapNames', WHERE WHAT IT READS IS OF BULK AT MOST 1048576: true; the input reads as it did. -/
def heapNamesUptoRow : OpenClaim := { program := "ytcookmkklcbbnaa", sum := "dfa57db6616ad887f23d8c99f43ab8ccd2667d5078d75be81c693077c628a662", func := "strongroom/strongroomlaw17.HeapNames", spec := "heapNames", unfollowed := true, recurses := true, apart := false, narrowed := true }
def HeapNamesUptoSaid : Prop := heapNamesUptoRow.holds Try.pinned (OpenSpec.upto heapNamesSpec)

/-- 'strongroomlaw17.HeapSorts', WHERE WHAT IT READS IS OF BULK AT MOST 1048576: true; the input reads as it did. -/
def heapSortsUptoRow : OpenClaim := { program := "ytcookmkklcbbnaa", sum := "dfa57db6616ad887f23d8c99f43ab8ccd2667d5078d75be81c693077c628a662", func := "strongroom/strongroomlaw17.HeapSorts", spec := "heapSorts", unfollowed := true, recurses := true, apart := false, narrowed := true }
def HeapSortsUptoSaid : Prop := heapSortsUptoRow.holds Try.pinned (OpenSpec.upto heapSortsSpec)

/-- 'strongroomlaw17.HeapLies', WHERE WHAT IT READS IS OF BULK AT MOST 1048576: true; the input reads as it did. -/
def heapLiesUptoRow : OpenClaim := { program := "ytcookmkklcbbnaa", sum := "dfa57db6616ad887f23d8c99f43ab8ccd2667d5078d75be81c693077c628a662", func := "strongroom/strongroomlaw17.HeapLies", spec := "heapLies", unfollowed := true, recurses := true, apart := false, narrowed := true }
def HeapLiesUptoSaid : Prop := heapLiesUptoRow.holds Try.pinned (OpenSpec.upto heapLiesSpec)

/-- 'strongroomlaw17.HeapCalls', WHERE WHAT IT READS IS OF BULK AT MOST 1048576: true; the input reads as it did. -/
def heapCallsUptoRow : OpenClaim := { program := "ytcookmkklcbbnaa", sum := "dfa57db6616ad887f23d8c99f43ab8ccd2667d5078d75be81c693077c628a662", func := "strongroom/strongroomlaw17.HeapCalls", spec := "heapCalls", unfollowed := true, recurses := true, apart := false, narrowed := true }
def HeapCallsUptoSaid : Prop := heapCallsUptoRow.holds Try.pinned (OpenSpec.upto heapCallsSpec)

/-- 'strongroomlaw17.HeapNone', WHERE WHAT IT READS IS OF BULK AT MOST 1048576: true; the input reads as it did. -/
def heapNoneUptoRow : OpenClaim := { program := "ytcookmkklcbbnaa", sum := "dfa57db6616ad887f23d8c99f43ab8ccd2667d5078d75be81c693077c628a662", func := "strongroom/strongroomlaw17.HeapNone", spec := "heapNone", unfollowed := true, recurses := true, apart := false, narrowed := true }
def HeapNoneUptoSaid : Prop := heapNoneUptoRow.holds Try.pinned (OpenSpec.upto heapNoneSpec)

end Rows
end Go.Proofs.Ytcookmkklcbbnaa
