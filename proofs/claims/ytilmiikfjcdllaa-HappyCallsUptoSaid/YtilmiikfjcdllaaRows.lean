/-
  No cell of these rows narrows 'for every input' (looked for: loops, veiled, ifaces, maps, wideKeys, modest, calm, conditions, laid).
  DERIVED. THE GIVEN ROWS OF THIS SEAT. 5 by the template 'for every input the law returns true; each argument reads behind the call as it read before'; 0 by the template 'total and deterministic' (their statements: YtilmiikfjcdllaaTotals.lean).
  GIVEN WITH THE SEED: the statements are not yours to turn. If you find one false, say at which input.
  Laid BY PROGRAM, IN A SANDBOX (cutbox-rows.mjs): the forced cells as the released guide's own fill.sh prints them over the translation 885028f784c9f866… (all of the seat's roots in one cut). By AI agents, Wed Nov 11 2026. No macro, syntax, notation, axiom, sorry.
-/
import Derived.Test.YtilmiikfjcdllaaChecked
import GoSem.Claim
import GoSem.ClaimJoined
import GoSem.ClaimMapViews
import Derived.JoinedTies
import Derived.KernelRfl
namespace Go.Proofs.Ytilmiikfjcdllaa
/- THE CELL 'sum', in the pinned program and in every row, IS THE sha256 OF THE DUMP (.gsa) THAT YtilmiikfjcdllaaProg.lean LOADS. Nothing in Lean hashes anything: it is a label: what it is worth is what the hold of that sum in a sandbox is worth. -/
noncomputable def Try.pinned : Pinned := { name := "ytilmiikfjcdllaa", sum := "885028f784c9f866ba4ec9376df9d93e83dca554f66876933c63a18783540164", checked := Try.checked }
namespace Rows
def none {H : Type} : Left H := { results := [], args := [] }

/-- 'strongroomlaw23.HappyGrows': WHATEVER THE INPUT: true; the input reads as it did. -/
def happyGrowsSpec : ChangeSpec := { name := "happyGrows", fn := fun _ => fun
  | [d1, d2] => { results := [.lit (.bool true)], args := [d1, d2] }
  | _ => none }
def happyGrowsRow : OpenClaim := { program := "ytilmiikfjcdllaa", sum := "885028f784c9f866ba4ec9376df9d93e83dca554f66876933c63a18783540164", func := "strongroom/strongroomlaw23.HappyGrows", spec := "happyGrows", unfollowed := true, recurses := true, plainKeys := false, apart := false }
def HappyGrowsSaid : Prop := happyGrowsRow.holds Try.pinned (OpenSpec.ofChange happyGrowsSpec)

/-- ITS FALSE NEIGHBOUR: 'it returns false'. Refute it at one input. -/
def happyGrowsWrong : ChangeSpec := { name := "happyGrows", fn := fun _ => fun
  | [d1, d2] => { results := [.lit (.bool false)], args := [d1, d2] }
  | _ => none }
def HappyGrowsWrongFalsely : Prop := happyGrowsRow.holds Try.pinned (OpenSpec.ofChange happyGrowsWrong)

/-- 'strongroomlaw23.HappyNames': WHATEVER THE INPUT: true; the input reads as it did. -/
def happyNamesSpec : ChangeSpec := { name := "happyNames", fn := fun _ => fun
  | [] => { results := [.lit (.bool true)], args := [] }
  | _ => none }
def happyNamesRow : OpenClaim := { program := "ytilmiikfjcdllaa", sum := "885028f784c9f866ba4ec9376df9d93e83dca554f66876933c63a18783540164", func := "strongroom/strongroomlaw23.HappyNames", spec := "happyNames", unfollowed := true, recurses := true, plainKeys := false, apart := false }
def HappyNamesSaid : Prop := happyNamesRow.holds Try.pinned (OpenSpec.ofChange happyNamesSpec)

/-- ITS FALSE NEIGHBOUR: 'it returns false'. Refute it at one input. -/
def happyNamesWrong : ChangeSpec := { name := "happyNames", fn := fun _ => fun
  | [] => { results := [.lit (.bool false)], args := [] }
  | _ => none }
def HappyNamesWrongFalsely : Prop := happyNamesRow.holds Try.pinned (OpenSpec.ofChange happyNamesWrong)

/-- 'strongroomlaw23.HappyLasts': WHATEVER THE INPUT: true; the input reads as it did. -/
def happyLastsSpec : ChangeSpec := { name := "happyLasts", fn := fun _ => fun
  | [d1, d2, d3] => { results := [.lit (.bool true)], args := [d1, d2, d3] }
  | _ => none }
def happyLastsRow : OpenClaim := { program := "ytilmiikfjcdllaa", sum := "885028f784c9f866ba4ec9376df9d93e83dca554f66876933c63a18783540164", func := "strongroom/strongroomlaw23.HappyLasts", spec := "happyLasts", unfollowed := true, recurses := true, plainKeys := false, apart := false }
def HappyLastsSaid : Prop := happyLastsRow.holds Try.pinned (OpenSpec.ofChange happyLastsSpec)

/-- ITS FALSE NEIGHBOUR: 'it returns false'. Refute it at one input. -/
def happyLastsWrong : ChangeSpec := { name := "happyLasts", fn := fun _ => fun
  | [d1, d2, d3] => { results := [.lit (.bool false)], args := [d1, d2, d3] }
  | _ => none }
def HappyLastsWrongFalsely : Prop := happyLastsRow.holds Try.pinned (OpenSpec.ofChange happyLastsWrong)

/-- 'strongroomlaw23.HappyMatches': WHATEVER THE INPUT: true; the input reads as it did. -/
def happyMatchesSpec : ChangeSpec := { name := "happyMatches", fn := fun _ => fun
  | [d] => { results := [.lit (.bool true)], args := [d] }
  | _ => none }
def happyMatchesRow : OpenClaim := { program := "ytilmiikfjcdllaa", sum := "885028f784c9f866ba4ec9376df9d93e83dca554f66876933c63a18783540164", func := "strongroom/strongroomlaw23.HappyMatches", spec := "happyMatches", unfollowed := true, recurses := true, plainKeys := false, apart := false }
def HappyMatchesSaid : Prop := happyMatchesRow.holds Try.pinned (OpenSpec.ofChange happyMatchesSpec)

/-- ITS FALSE NEIGHBOUR: 'it returns false'. Refute it at one input. -/
def happyMatchesWrong : ChangeSpec := { name := "happyMatches", fn := fun _ => fun
  | [d] => { results := [.lit (.bool false)], args := [d] }
  | _ => none }
def HappyMatchesWrongFalsely : Prop := happyMatchesRow.holds Try.pinned (OpenSpec.ofChange happyMatchesWrong)

/-- 'strongroomlaw23.HappyCalls': WHATEVER THE INPUT: true; the input reads as it did. -/
def happyCallsSpec : ChangeSpec := { name := "happyCalls", fn := fun _ => fun
  | [d] => { results := [.lit (.bool true)], args := [d] }
  | _ => none }
def happyCallsRow : OpenClaim := { program := "ytilmiikfjcdllaa", sum := "885028f784c9f866ba4ec9376df9d93e83dca554f66876933c63a18783540164", func := "strongroom/strongroomlaw23.HappyCalls", spec := "happyCalls", unfollowed := true, recurses := true, plainKeys := false, apart := false }
def HappyCallsSaid : Prop := happyCallsRow.holds Try.pinned (OpenSpec.ofChange happyCallsSpec)

/-- ITS FALSE NEIGHBOUR: 'it returns false'. Refute it at one input. -/
def happyCallsWrong : ChangeSpec := { name := "happyCalls", fn := fun _ => fun
  | [d] => { results := [.lit (.bool false)], args := [d] }
  | _ => none }
def HappyCallsWrongFalsely : Prop := happyCallsRow.holds Try.pinned (OpenSpec.ofChange happyCallsWrong)

/- THE SECOND FORM. 'bulk': how many values and letters a reading holds, each counted each time it is reached (what is shared counts as often as it is met; a slice's spare places count too). A statement '..UptoSaid' is the law's where the arguments, and the package variables that the reading takes, are together of bulk at most 1048576: NARROWER than '..Said'. Prove '..Said' where nothing that the law and all that it calls make is longer than what came in: it says more and counts as full. Else prove '..UptoSaid'. A law counts once. -/
mutual
def uptoBulk {H : Type} : DataW H → Nat
  | .lit (.string bytes) => bytes.length + 1
  | .lit _ => 1
  | .nil => 1
  | .ptr d => uptoBulk d + 1
  | .slice elems spare => uptoBulkAll elems + uptoBulkAll spare + 1
  | .agg parts => uptoBulkAll parts + 1
  | .iface _ d => uptoBulk d + 1
  | .map entries => uptoBulkEntries entries + 1
  | .held _ => 1
def uptoBulkAll {H : Type} : List (DataW H) → Nat
  | [] => 0
  | d :: r => uptoBulk d + uptoBulkAll r
def uptoBulkEntries {H : Type} : List (Lit × DataW H) → Nat
  | [] => 0
  | x :: r => uptoBulkEntry x + uptoBulkEntries r
def uptoBulkEntry {H : Type} : Lit × DataW H → Nat
  | (.string bytes, d) => bytes.length + uptoBulk d + 1
  | (_, d) => uptoBulk d + 1
 end
def uptoSmall : (H : Type) → List (DataW H) → Bool := fun _ ds => decide (uptoBulkAll ds ≤ 1048576)
def OpenSpec.upto (s : _root_.Go.ChangeSpec) : _root_.Go.OpenSpec := { _root_.Go.OpenSpec.ofChange s with cond := some uptoSmall }

/-- 'strongroomlaw23.HappyGrows', WHERE WHAT IT READS IS OF BULK AT MOST 1048576: true; the input reads as it did. -/
def happyGrowsUptoRow : OpenClaim := { program := "ytilmiikfjcdllaa", sum := "885028f784c9f866ba4ec9376df9d93e83dca554f66876933c63a18783540164", func := "strongroom/strongroomlaw23.HappyGrows", spec := "happyGrows", unfollowed := true, recurses := true, plainKeys := false, apart := false, narrowed := true }
def HappyGrowsUptoSaid : Prop := happyGrowsUptoRow.holds Try.pinned (OpenSpec.upto happyGrowsSpec)

/-- 'strongroomlaw23.HappyNames', WHERE WHAT IT READS IS OF BULK AT MOST 1048576: true; the input reads as it did. -/
def happyNamesUptoRow : OpenClaim := { program := "ytilmiikfjcdllaa", sum := "885028f784c9f866ba4ec9376df9d93e83dca554f66876933c63a18783540164", func := "strongroom/strongroomlaw23.HappyNames", spec := "happyNames", unfollowed := true, recurses := true, plainKeys := false, apart := false, narrowed := true }
def HappyNamesUptoSaid : Prop := happyNamesUptoRow.holds Try.pinned (OpenSpec.upto happyNamesSpec)

/-- 'strongroomlaw23.HappyLasts', WHERE WHAT IT READS IS OF BULK AT MOST 1048576: true; the input reads as it did. -/
def happyLastsUptoRow : OpenClaim := { program := "ytilmiikfjcdllaa", sum := "885028f784c9f866ba4ec9376df9d93e83dca554f66876933c63a18783540164", func := "strongroom/strongroomlaw23.HappyLasts", spec := "happyLasts", unfollowed := true, recurses := true, plainKeys := false, apart := false, narrowed := true }
def HappyLastsUptoSaid : Prop := happyLastsUptoRow.holds Try.pinned (OpenSpec.upto happyLastsSpec)

/-- 'strongroomlaw23.HappyMatches', WHERE WHAT IT READS IS OF BULK AT MOST 1048576: true; the input reads as it did. -/
def happyMatchesUptoRow : OpenClaim := { program := "ytilmiikfjcdllaa", sum := "885028f784c9f866ba4ec9376df9d93e83dca554f66876933c63a18783540164", func := "strongroom/strongroomlaw23.HappyMatches", spec := "happyMatches", unfollowed := true, recurses := true, plainKeys := false, apart := false, narrowed := true }
def HappyMatchesUptoSaid : Prop := happyMatchesUptoRow.holds Try.pinned (OpenSpec.upto happyMatchesSpec)

/-- 'strongroomlaw23.HappyCalls', WHERE WHAT IT READS IS OF BULK AT MOST 1048576: true; the input reads as it did. -/
def happyCallsUptoRow : OpenClaim := { program := "ytilmiikfjcdllaa", sum := "885028f784c9f866ba4ec9376df9d93e83dca554f66876933c63a18783540164", func := "strongroom/strongroomlaw23.HappyCalls", spec := "happyCalls", unfollowed := true, recurses := true, plainKeys := false, apart := false, narrowed := true }
def HappyCallsUptoSaid : Prop := happyCallsUptoRow.holds Try.pinned (OpenSpec.upto happyCallsSpec)

end Rows
end Go.Proofs.Ytilmiikfjcdllaa
