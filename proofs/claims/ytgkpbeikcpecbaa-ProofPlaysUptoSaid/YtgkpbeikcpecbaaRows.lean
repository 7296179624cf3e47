/-
  No cell of these rows narrows 'for every input' (looked for: loops, veiled, ifaces, maps, wideKeys, modest, calm, conditions, laid).
  DERIVED. THE GIVEN ROWS OF THIS SEAT. 23 by the template 'for every input the law returns true; each argument reads behind the call as it read before'; 0 by the template 'total and deterministic' (their statements: YtgkpbeikcpecbaaTotals.lean).
  GIVEN WITH THE SEED: the statements are not yours to turn. If you find one false, say at which input.
  Laid BY PROGRAM, IN A SANDBOX (cutbox-rows.mjs): the forced cells as the released guide's own fill.sh prints them over the translation 36d216630e22eb16… (all of the seat's roots in one cut). By AI agents, Wed Nov 11 2026. No macro, syntax, notation, axiom, sorry.
-/
import Derived.Test.YtgkpbeikcpecbaaChecked
import GoSem.Claim
import GoSem.ClaimJoined
import GoSem.ClaimMapViews
import Derived.JoinedTies
import Derived.KernelRfl
namespace Go.Proofs.Ytgkpbeikcpecbaa
/- THE CELL 'sum', in the pinned program and in every row, IS THE sha256 OF THE DUMP (.gsa) THAT YtgkpbeikcpecbaaProg.lean LOADS. Nothing in Lean hashes anything: it is a label: what it is worth is what the hold of that sum in a sandbox is worth. -/
noncomputable def Try.pinned : Pinned := { name := "ytgkpbeikcpecbaa", sum := "36d216630e22eb1672f000581ff043c045e4b919b7f39753a272688d4b7b8d97", checked := Try.checked }
namespace Rows
def none {H : Type} : Left H := { results := [], args := [] }

/-- 'strongroomlaw02.ShaCalls': WHATEVER THE INPUT: true; the input reads as it did. -/
def shaCallsSpec : ChangeSpec := { name := "shaCalls", fn := fun _ => fun
  | [d] => { results := [.lit (.bool true)], args := [d] }
  | _ => none }
def shaCallsRow : OpenClaim := { program := "ytgkpbeikcpecbaa", sum := "36d216630e22eb1672f000581ff043c045e4b919b7f39753a272688d4b7b8d97", func := "strongroom/strongroomlaw02.ShaCalls", spec := "shaCalls", apart := false }
def ShaCallsSaid : Prop := shaCallsRow.holds Try.pinned (OpenSpec.ofChange shaCallsSpec)

/-- ITS FALSE NEIGHBOUR: 'it returns false'. Refute it at one input. -/
def shaCallsWrong : ChangeSpec := { name := "shaCalls", fn := fun _ => fun
  | [d] => { results := [.lit (.bool false)], args := [d] }
  | _ => none }
def ShaCallsWrongFalsely : Prop := shaCallsRow.holds Try.pinned (OpenSpec.ofChange shaCallsWrong)

/-- 'strongroomlaw02.ShaPads': WHATEVER THE INPUT: true; the input reads as it did. -/
def shaPadsSpec : ChangeSpec := { name := "shaPads", fn := fun _ => fun
  | [d] => { results := [.lit (.bool true)], args := [d] }
  | _ => none }
def shaPadsRow : OpenClaim := { program := "ytgkpbeikcpecbaa", sum := "36d216630e22eb1672f000581ff043c045e4b919b7f39753a272688d4b7b8d97", func := "strongroom/strongroomlaw02.ShaPads", spec := "shaPads", apart := false }
def ShaPadsSaid : Prop := shaPadsRow.holds Try.pinned (OpenSpec.ofChange shaPadsSpec)

/-- ITS FALSE NEIGHBOUR: 'it returns false'. Refute it at one input. -/
def shaPadsWrong : ChangeSpec := { name := "shaPads", fn := fun _ => fun
  | [d] => { results := [.lit (.bool false)], args := [d] }
  | _ => none }
def ShaPadsWrongFalsely : Prop := shaPadsRow.holds Try.pinned (OpenSpec.ofChange shaPadsWrong)

/-- 'strongroomlaw02.ShaMixes': WHATEVER THE INPUT: true; the input reads as it did. -/
def shaMixesSpec : ChangeSpec := { name := "shaMixes", fn := fun _ => fun
  | [d] => { results := [.lit (.bool true)], args := [d] }
  | _ => none }
def shaMixesRow : OpenClaim := { program := "ytgkpbeikcpecbaa", sum := "36d216630e22eb1672f000581ff043c045e4b919b7f39753a272688d4b7b8d97", func := "strongroom/strongroomlaw02.ShaMixes", spec := "shaMixes", apart := false }
def ShaMixesSaid : Prop := shaMixesRow.holds Try.pinned (OpenSpec.ofChange shaMixesSpec)

/-- ITS FALSE NEIGHBOUR: 'it returns false'. Refute it at one input. -/
def shaMixesWrong : ChangeSpec := { name := "shaMixes", fn := fun _ => fun
  | [d] => { results := [.lit (.bool false)], args := [d] }
  | _ => none }
def ShaMixesWrongFalsely : Prop := shaMixesRow.holds Try.pinned (OpenSpec.ofChange shaMixesWrong)

/-- 'strongroomlaw02.ShaNames': WHATEVER THE INPUT: true; the input reads as it did. -/
def shaNamesSpec : ChangeSpec := { name := "shaNames", fn := fun _ => fun
  | [] => { results := [.lit (.bool true)], args := [] }
  | _ => none }
def shaNamesRow : OpenClaim := { program := "ytgkpbeikcpecbaa", sum := "36d216630e22eb1672f000581ff043c045e4b919b7f39753a272688d4b7b8d97", func := "strongroom/strongroomlaw02.ShaNames", spec := "shaNames", apart := false }
def ShaNamesSaid : Prop := shaNamesRow.holds Try.pinned (OpenSpec.ofChange shaNamesSpec)

/-- ITS FALSE NEIGHBOUR: 'it returns false'. Refute it at one input. -/
def shaNamesWrong : ChangeSpec := { name := "shaNames", fn := fun _ => fun
  | [] => { results := [.lit (.bool false)], args := [] }
  | _ => none }
def ShaNamesWrongFalsely : Prop := shaNamesRow.holds Try.pinned (OpenSpec.ofChange shaNamesWrong)

/-- 'strongroomlaw02.ShaPieces': WHATEVER THE INPUT: true; the input reads as it did. -/
def shaPiecesSpec : ChangeSpec := { name := "shaPieces", fn := fun _ => fun
  | [d1, d2] => { results := [.lit (.bool true)], args := [d1, d2] }
  | _ => none }
def shaPiecesRow : OpenClaim := { program := "ytgkpbeikcpecbaa", sum := "36d216630e22eb1672f000581ff043c045e4b919b7f39753a272688d4b7b8d97", func := "strongroom/strongroomlaw02.ShaPieces", spec := "shaPieces", apart := false }
def ShaPiecesSaid : Prop := shaPiecesRow.holds Try.pinned (OpenSpec.ofChange shaPiecesSpec)

/-- ITS FALSE NEIGHBOUR: 'it returns false'. Refute it at one input. -/
def shaPiecesWrong : ChangeSpec := { name := "shaPieces", fn := fun _ => fun
  | [d1, d2] => { results := [.lit (.bool false)], args := [d1, d2] }
  | _ => none }
def ShaPiecesWrongFalsely : Prop := shaPiecesRow.holds Try.pinned (OpenSpec.ofChange shaPiecesWrong)

/-- 'strongroomlaw02.ShaStreams': WHATEVER THE INPUT: true; the input reads as it did. -/
def shaStreamsSpec : ChangeSpec := { name := "shaStreams", fn := fun _ => fun
  | [d] => { results := [.lit (.bool true)], args := [d] }
  | _ => none }
def shaStreamsRow : OpenClaim := { program := "ytgkpbeikcpecbaa", sum := "36d216630e22eb1672f000581ff043c045e4b919b7f39753a272688d4b7b8d97", func := "strongroom/strongroomlaw02.ShaStreams", spec := "shaStreams", apart := false }
def ShaStreamsSaid : Prop := shaStreamsRow.holds Try.pinned (OpenSpec.ofChange shaStreamsSpec)

/-- ITS FALSE NEIGHBOUR: 'it returns false'. Refute it at one input. -/
def shaStreamsWrong : ChangeSpec := { name := "shaStreams", fn := fun _ => fun
  | [d] => { results := [.lit (.bool false)], args := [d] }
  | _ => none }
def ShaStreamsWrongFalsely : Prop := shaStreamsRow.holds Try.pinned (OpenSpec.ofChange shaStreamsWrong)

/-- 'strongroomlaw02.ShaNone': WHATEVER THE INPUT: true; the input reads as it did. -/
def shaNoneSpec : ChangeSpec := { name := "shaNone", fn := fun _ => fun
  | [d] => { results := [.lit (.bool true)], args := [d] }
  | _ => none }
def shaNoneRow : OpenClaim := { program := "ytgkpbeikcpecbaa", sum := "36d216630e22eb1672f000581ff043c045e4b919b7f39753a272688d4b7b8d97", func := "strongroom/strongroomlaw02.ShaNone", spec := "shaNone", apart := false }
def ShaNoneSaid : Prop := shaNoneRow.holds Try.pinned (OpenSpec.ofChange shaNoneSpec)

/-- ITS FALSE NEIGHBOUR: 'it returns false'. Refute it at one input. -/
def shaNoneWrong : ChangeSpec := { name := "shaNone", fn := fun _ => fun
  | [d] => { results := [.lit (.bool false)], args := [d] }
  | _ => none }
def ShaNoneWrongFalsely : Prop := shaNoneRow.holds Try.pinned (OpenSpec.ofChange shaNoneWrong)

/-- 'strongroomlaw05.TagApart': WHATEVER THE INPUT: true; the input reads as it did. -/
def tagApartSpec : ChangeSpec := { name := "tagApart", fn := fun _ => fun
  | [d1, d2, d3, d4] => { results := [.lit (.bool true)], args := [d1, d2, d3, d4] }
  | _ => none }
def tagApartRow : OpenClaim := { program := "ytgkpbeikcpecbaa", sum := "36d216630e22eb1672f000581ff043c045e4b919b7f39753a272688d4b7b8d97", func := "strongroom/strongroomlaw05.TagApart", spec := "tagApart", unfollowed := true, recurses := true, apart := false }
def TagApartSaid : Prop := tagApartRow.holds Try.pinned (OpenSpec.ofChange tagApartSpec)

/-- ITS FALSE NEIGHBOUR: 'it returns false'. Refute it at one input. -/
def tagApartWrong : ChangeSpec := { name := "tagApart", fn := fun _ => fun
  | [d1, d2, d3, d4] => { results := [.lit (.bool false)], args := [d1, d2, d3, d4] }
  | _ => none }
def TagApartWrongFalsely : Prop := tagApartRow.holds Try.pinned (OpenSpec.ofChange tagApartWrong)

/-- 'strongroomlaw05.TagNames': WHATEVER THE INPUT: true; the input reads as it did. -/
def tagNamesSpec : ChangeSpec := { name := "tagNames", fn := fun _ => fun
  | [] => { results := [.lit (.bool true)], args := [] }
  | _ => none }
def tagNamesRow : OpenClaim := { program := "ytgkpbeikcpecbaa", sum := "36d216630e22eb1672f000581ff043c045e4b919b7f39753a272688d4b7b8d97", func := "strongroom/strongroomlaw05.TagNames", spec := "tagNames", unfollowed := true, recurses := true, apart := false }
def TagNamesSaid : Prop := tagNamesRow.holds Try.pinned (OpenSpec.ofChange tagNamesSpec)

/-- ITS FALSE NEIGHBOUR: 'it returns false'. Refute it at one input. -/
def tagNamesWrong : ChangeSpec := { name := "tagNames", fn := fun _ => fun
  | [] => { results := [.lit (.bool false)], args := [] }
  | _ => none }
def TagNamesWrongFalsely : Prop := tagNamesRow.holds Try.pinned (OpenSpec.ofChange tagNamesWrong)

/-- 'strongroomlaw11.TreeNames': WHATEVER THE INPUT: true; the input reads as it did. -/
def treeNamesSpec : ChangeSpec := { name := "treeNames", fn := fun _ => fun
  | [] => { results := [.lit (.bool true)], args := [] }
  | _ => none }
def treeNamesRow : OpenClaim := { program := "ytgkpbeikcpecbaa", sum := "36d216630e22eb1672f000581ff043c045e4b919b7f39753a272688d4b7b8d97", func := "strongroom/strongroomlaw11.TreeNames", spec := "treeNames", unfollowed := true, recurses := true, apart := false }
def TreeNamesSaid : Prop := treeNamesRow.holds Try.pinned (OpenSpec.ofChange treeNamesSpec)

/-- ITS FALSE NEIGHBOUR: 'it returns false'. Refute it at one input. -/
def treeNamesWrong : ChangeSpec := { name := "treeNames", fn := fun _ => fun
  | [] => { results := [.lit (.bool false)], args := [] }
  | _ => none }
def TreeNamesWrongFalsely : Prop := treeNamesRow.holds Try.pinned (OpenSpec.ofChange treeNamesWrong)

/-- 'strongroomlaw11.TreeDiffers': WHATEVER THE INPUT: true; the input reads as it did. -/
def treeDiffersSpec : ChangeSpec := { name := "treeDiffers", fn := fun _ => fun
  | [d1, d2] => { results := [.lit (.bool true)], args := [d1, d2] }
  | _ => none }
def treeDiffersRow : OpenClaim := { program := "ytgkpbeikcpecbaa", sum := "36d216630e22eb1672f000581ff043c045e4b919b7f39753a272688d4b7b8d97", func := "strongroom/strongroomlaw11.TreeDiffers", spec := "treeDiffers", unfollowed := true, recurses := true, apart := false }
def TreeDiffersSaid : Prop := treeDiffersRow.holds Try.pinned (OpenSpec.ofChange treeDiffersSpec)

/-- ITS FALSE NEIGHBOUR: 'it returns false'. Refute it at one input. -/
def treeDiffersWrong : ChangeSpec := { name := "treeDiffers", fn := fun _ => fun
  | [d1, d2] => { results := [.lit (.bool false)], args := [d1, d2] }
  | _ => none }
def TreeDiffersWrongFalsely : Prop := treeDiffersRow.holds Try.pinned (OpenSpec.ofChange treeDiffersWrong)

/-- 'strongroomlaw11.TreeOne': WHATEVER THE INPUT: true; the input reads as it did. -/
def treeOneSpec : ChangeSpec := { name := "treeOne", fn := fun _ => fun
  | [d1, d2, d3, d4, d5, d6] => { results := [.lit (.bool true)], args := [d1, d2, d3, d4, d5, d6] }
  | _ => none }
def treeOneRow : OpenClaim := { program := "ytgkpbeikcpecbaa", sum := "36d216630e22eb1672f000581ff043c045e4b919b7f39753a272688d4b7b8d97", func := "strongroom/strongroomlaw11.TreeOne", spec := "treeOne", unfollowed := true, recurses := true, apart := false }
def TreeOneSaid : Prop := treeOneRow.holds Try.pinned (OpenSpec.ofChange treeOneSpec)

/-- ITS FALSE NEIGHBOUR: 'it returns false'. Refute it at one input. -/
def treeOneWrong : ChangeSpec := { name := "treeOne", fn := fun _ => fun
  | [d1, d2, d3, d4, d5, d6] => { results := [.lit (.bool false)], args := [d1, d2, d3, d4, d5, d6] }
  | _ => none }
def TreeOneWrongFalsely : Prop := treeOneRow.holds Try.pinned (OpenSpec.ofChange treeOneWrong)

/-- 'strongroomlaw05.TagBack': WHATEVER THE INPUT: true; the input reads as it did. -/
def tagBackSpec : ChangeSpec := { name := "tagBack", fn := fun _ => fun
  | [d1, d2, d3] => { results := [.lit (.bool true)], args := [d1, d2, d3] }
  | _ => none }
def tagBackRow : OpenClaim := { program := "ytgkpbeikcpecbaa", sum := "36d216630e22eb1672f000581ff043c045e4b919b7f39753a272688d4b7b8d97", func := "strongroom/strongroomlaw05.TagBack", spec := "tagBack", unfollowed := true, recurses := true, apart := false }
def TagBackSaid : Prop := tagBackRow.holds Try.pinned (OpenSpec.ofChange tagBackSpec)

/-- ITS FALSE NEIGHBOUR: 'it returns false'. Refute it at one input. -/
def tagBackWrong : ChangeSpec := { name := "tagBack", fn := fun _ => fun
  | [d1, d2, d3] => { results := [.lit (.bool false)], args := [d1, d2, d3] }
  | _ => none }
def TagBackWrongFalsely : Prop := tagBackRow.holds Try.pinned (OpenSpec.ofChange tagBackWrong)

/-- 'strongroomlaw05.TagCalls': WHATEVER THE INPUT: true; the input reads as it did. -/
def tagCallsSpec : ChangeSpec := { name := "tagCalls", fn := fun _ => fun
  | [d] => { results := [.lit (.bool true)], args := [d] }
  | _ => none }
def tagCallsRow : OpenClaim := { program := "ytgkpbeikcpecbaa", sum := "36d216630e22eb1672f000581ff043c045e4b919b7f39753a272688d4b7b8d97", func := "strongroom/strongroomlaw05.TagCalls", spec := "tagCalls", unfollowed := true, recurses := true, apart := false }
def TagCallsSaid : Prop := tagCallsRow.holds Try.pinned (OpenSpec.ofChange tagCallsSpec)

/-- ITS FALSE NEIGHBOUR: 'it returns false'. Refute it at one input. -/
def tagCallsWrong : ChangeSpec := { name := "tagCalls", fn := fun _ => fun
  | [d] => { results := [.lit (.bool false)], args := [d] }
  | _ => none }
def TagCallsWrongFalsely : Prop := tagCallsRow.holds Try.pinned (OpenSpec.ofChange tagCallsWrong)

/-- 'strongroomlaw11.TreeClimbs': WHATEVER THE INPUT: true; the input reads as it did. -/
def treeClimbsSpec : ChangeSpec := { name := "treeClimbs", fn := fun _ => fun
  | [d1, d2] => { results := [.lit (.bool true)], args := [d1, d2] }
  | _ => none }
def treeClimbsRow : OpenClaim := { program := "ytgkpbeikcpecbaa", sum := "36d216630e22eb1672f000581ff043c045e4b919b7f39753a272688d4b7b8d97", func := "strongroom/strongroomlaw11.TreeClimbs", spec := "treeClimbs", unfollowed := true, recurses := true, apart := false }
def TreeClimbsSaid : Prop := treeClimbsRow.holds Try.pinned (OpenSpec.ofChange treeClimbsSpec)

/-- ITS FALSE NEIGHBOUR: 'it returns false'. Refute it at one input. -/
def treeClimbsWrong : ChangeSpec := { name := "treeClimbs", fn := fun _ => fun
  | [d1, d2] => { results := [.lit (.bool false)], args := [d1, d2] }
  | _ => none }
def TreeClimbsWrongFalsely : Prop := treeClimbsRow.holds Try.pinned (OpenSpec.ofChange treeClimbsWrong)

/-- 'strongroomlaw11.TreeCalls': WHATEVER THE INPUT: true; the input reads as it did. -/
def treeCallsSpec : ChangeSpec := { name := "treeCalls", fn := fun _ => fun
  | [d] => { results := [.lit (.bool true)], args := [d] }
  | _ => none }
def treeCallsRow : OpenClaim := { program := "ytgkpbeikcpecbaa", sum := "36d216630e22eb1672f000581ff043c045e4b919b7f39753a272688d4b7b8d97", func := "strongroom/strongroomlaw11.TreeCalls", spec := "treeCalls", unfollowed := true, recurses := true, apart := false }
def TreeCallsSaid : Prop := treeCallsRow.holds Try.pinned (OpenSpec.ofChange treeCallsSpec)

/-- ITS FALSE NEIGHBOUR: 'it returns false'. Refute it at one input. -/
def treeCallsWrong : ChangeSpec := { name := "treeCalls", fn := fun _ => fun
  | [d] => { results := [.lit (.bool false)], args := [d] }
  | _ => none }
def TreeCallsWrongFalsely : Prop := treeCallsRow.holds Try.pinned (OpenSpec.ofChange treeCallsWrong)

/-- 'strongroomlaw12.ProofClash': WHATEVER THE INPUT: true; the input reads as it did. -/
def proofClashSpec : ChangeSpec := { name := "proofClash", fn := fun _ => fun
  | [d1, d2, d3, d4] => { results := [.lit (.bool true)], args := [d1, d2, d3, d4] }
  | _ => none }
def proofClashRow : OpenClaim := { program := "ytgkpbeikcpecbaa", sum := "36d216630e22eb1672f000581ff043c045e4b919b7f39753a272688d4b7b8d97", func := "strongroom/strongroomlaw12.ProofClash", spec := "proofClash", unfollowed := true, recurses := true, apart := false }
def ProofClashSaid : Prop := proofClashRow.holds Try.pinned (OpenSpec.ofChange proofClashSpec)

/-- ITS FALSE NEIGHBOUR: 'it returns false'. Refute it at one input. -/
def proofClashWrong : ChangeSpec := { name := "proofClash", fn := fun _ => fun
  | [d1, d2, d3, d4] => { results := [.lit (.bool false)], args := [d1, d2, d3, d4] }
  | _ => none }
def ProofClashWrongFalsely : Prop := proofClashRow.holds Try.pinned (OpenSpec.ofChange proofClashWrong)

/-- 'strongroomlaw12.ProofPuts': WHATEVER THE INPUT: true; the input reads as it did. -/
def proofPutsSpec : ChangeSpec := { name := "proofPuts", fn := fun _ => fun
  | [d1, d2, d3, d4] => { results := [.lit (.bool true)], args := [d1, d2, d3, d4] }
  | _ => none }
def proofPutsRow : OpenClaim := { program := "ytgkpbeikcpecbaa", sum := "36d216630e22eb1672f000581ff043c045e4b919b7f39753a272688d4b7b8d97", func := "strongroom/strongroomlaw12.ProofPuts", spec := "proofPuts", inPlace := ["maps.clone"], unfollowed := true, recurses := true, apart := false }
def ProofPutsSaid : Prop := proofPutsRow.holds Try.pinned (OpenSpec.ofChange proofPutsSpec)

/-- ITS FALSE NEIGHBOUR: 'it returns false'. Refute it at one input. -/
def proofPutsWrong : ChangeSpec := { name := "proofPuts", fn := fun _ => fun
  | [d1, d2, d3, d4] => { results := [.lit (.bool false)], args := [d1, d2, d3, d4] }
  | _ => none }
def ProofPutsWrongFalsely : Prop := proofPutsRow.holds Try.pinned (OpenSpec.ofChange proofPutsWrong)

/-- 'strongroomlaw12.ProofServes': WHATEVER THE INPUT: true; the input reads as it did. -/
def proofServesSpec : ChangeSpec := { name := "proofServes", fn := fun _ => fun
  | [d1, d2, d3] => { results := [.lit (.bool true)], args := [d1, d2, d3] }
  | _ => none }
def proofServesRow : OpenClaim := { program := "ytgkpbeikcpecbaa", sum := "36d216630e22eb1672f000581ff043c045e4b919b7f39753a272688d4b7b8d97", func := "strongroom/strongroomlaw12.ProofServes", spec := "proofServes", inPlace := ["maps.clone"], unfollowed := true, recurses := true, apart := false }
def ProofServesSaid : Prop := proofServesRow.holds Try.pinned (OpenSpec.ofChange proofServesSpec)

/-- ITS FALSE NEIGHBOUR: 'it returns false'. Refute it at one input. -/
def proofServesWrong : ChangeSpec := { name := "proofServes", fn := fun _ => fun
  | [d1, d2, d3] => { results := [.lit (.bool false)], args := [d1, d2, d3] }
  | _ => none }
def ProofServesWrongFalsely : Prop := proofServesRow.holds Try.pinned (OpenSpec.ofChange proofServesWrong)

/-- 'strongroomlaw12.ProofNames': WHATEVER THE INPUT: true; the input reads as it did. -/
def proofNamesSpec : ChangeSpec := { name := "proofNames", fn := fun _ => fun
  | [] => { results := [.lit (.bool true)], args := [] }
  | _ => none }
def proofNamesRow : OpenClaim := { program := "ytgkpbeikcpecbaa", sum := "36d216630e22eb1672f000581ff043c045e4b919b7f39753a272688d4b7b8d97", func := "strongroom/strongroomlaw12.ProofNames", spec := "proofNames", unfollowed := true, recurses := true, apart := false }
def ProofNamesSaid : Prop := proofNamesRow.holds Try.pinned (OpenSpec.ofChange proofNamesSpec)

/-- ITS FALSE NEIGHBOUR: 'it returns false'. Refute it at one input. -/
def proofNamesWrong : ChangeSpec := { name := "proofNames", fn := fun _ => fun
  | [] => { results := [.lit (.bool false)], args := [] }
  | _ => none }
def ProofNamesWrongFalsely : Prop := proofNamesRow.holds Try.pinned (OpenSpec.ofChange proofNamesWrong)

/-- 'strongroomlaw12.ProofSound': WHATEVER THE INPUT: true; the input reads as it did. -/
def proofSoundSpec : ChangeSpec := { name := "proofSound", fn := fun _ => fun
  | [d1, d2, d3] => { results := [.lit (.bool true)], args := [d1, d2, d3] }
  | _ => none }
def proofSoundRow : OpenClaim := { program := "ytgkpbeikcpecbaa", sum := "36d216630e22eb1672f000581ff043c045e4b919b7f39753a272688d4b7b8d97", func := "strongroom/strongroomlaw12.ProofSound", spec := "proofSound", inPlace := ["maps.clone"], unfollowed := true, recurses := true, apart := false }
def ProofSoundSaid : Prop := proofSoundRow.holds Try.pinned (OpenSpec.ofChange proofSoundSpec)

/-- ITS FALSE NEIGHBOUR: 'it returns false'. Refute it at one input. -/
def proofSoundWrong : ChangeSpec := { name := "proofSound", fn := fun _ => fun
  | [d1, d2, d3] => { results := [.lit (.bool false)], args := [d1, d2, d3] }
  | _ => none }
def ProofSoundWrongFalsely : Prop := proofSoundRow.holds Try.pinned (OpenSpec.ofChange proofSoundWrong)

/-- 'strongroomlaw12.ProofPlays': WHATEVER THE INPUT: true; the input reads as it did. -/
def proofPlaysSpec : ChangeSpec := { name := "proofPlays", fn := fun _ => fun
  | [d1, d2, d3, d4, d5] => { results := [.lit (.bool true)], args := [d1, d2, d3, d4, d5] }
  | _ => none }
def proofPlaysRow : OpenClaim := { program := "ytgkpbeikcpecbaa", sum := "36d216630e22eb1672f000581ff043c045e4b919b7f39753a272688d4b7b8d97", func := "strongroom/strongroomlaw12.ProofPlays", spec := "proofPlays", inPlace := ["maps.clone"], unfollowed := true, recurses := true, apart := false }
def ProofPlaysSaid : Prop := proofPlaysRow.holds Try.pinned (OpenSpec.ofChange proofPlaysSpec)

/-- ITS FALSE NEIGHBOUR: 'it returns false'. Refute it at one input. -/
def proofPlaysWrong : ChangeSpec := { name := "proofPlays", fn := fun _ => fun
  | [d1, d2, d3, d4, d5] => { results := [.lit (.bool false)], args := [d1, d2, d3, d4, d5] }
  | _ => none }
def ProofPlaysWrongFalsely : Prop := proofPlaysRow.holds Try.pinned (OpenSpec.ofChange proofPlaysWrong)

/-- 'strongroomlaw12.ProofNil': WHATEVER THE INPUT: true; the input reads as it did. -/
def proofNilSpec : ChangeSpec := { name := "proofNil", fn := fun _ => fun
  | [d1, d2] => { results := [.lit (.bool true)], args := [d1, d2] }
  | _ => none }
def proofNilRow : OpenClaim := { program := "ytgkpbeikcpecbaa", sum := "36d216630e22eb1672f000581ff043c045e4b919b7f39753a272688d4b7b8d97", func := "strongroom/strongroomlaw12.ProofNil", spec := "proofNil", inPlace := ["maps.clone"], unfollowed := true, recurses := true, apart := false }
def ProofNilSaid : Prop := proofNilRow.holds Try.pinned (OpenSpec.ofChange proofNilSpec)

/-- ITS FALSE NEIGHBOUR: 'it returns false'. Refute it at one input. -/
def proofNilWrong : ChangeSpec := { name := "proofNil", fn := fun _ => fun
  | [d1, d2] => { results := [.lit (.bool false)], args := [d1, d2] }
  | _ => none }
def ProofNilWrongFalsely : Prop := proofNilRow.holds Try.pinned (OpenSpec.ofChange proofNilWrong)

/- THE SECOND FORM. 'bulk': how many values and letters a reading holds, each counted each time it is reached (what is shared counts as often as it is met; a slice's spare places count too). A statement '..UptoSaid' is the law's where the arguments, and the package variables that the reading takes, are together of bulk at most 1048576: NARROWER than '..Said'. Prove '..Said' where nothing that the law and all that it calls make is longer than what came in: it says more and counts as full. Else prove '..UptoSaid'. A law counts once. -/
mutual
def uptoBulk {H : Type} : DataW H → Nat
  | .lit (.string bytes) => bytes.length + 1
  | .lit _ => 1
  | .nil => 1
  | .ptr d => uptoBulk d + 1
  | .slice elems spare => uptoBulkAll elems + uptoBulkAll spare + 1
  | .agg parts => uptoBulkAll parts + 1
  | .iface _ d => uptoBulk d + 1
  | .map entries => uptoBulkEntries entries + 1
  | .held _ => 1
def uptoBulkAll {H : Type} : List (DataW H) → Nat
  | [] => 0
  | d :: r => uptoBulk d + uptoBulkAll r
def uptoBulkEntries {H : Type} : List (Lit × DataW H) → Nat
  | [] => 0
  | x :: r => uptoBulkEntry x + uptoBulkEntries r
def uptoBulkEntry {H : Type} : Lit × DataW H → Nat
  | (.string bytes, d) => bytes.length + uptoBulk d + 1
  | (_, d) => uptoBulk d + 1
 end
def uptoSmall : (H : Type) → List (DataW H) → Bool := fun _ ds => decide (uptoBulkAll ds ≤ 1048576)
def OpenSpec.upto (s : _root_.Go.ChangeSpec) : _root_.Go.OpenSpec := { _root_.Go.OpenSpec.ofChange s with cond := some uptoSmall }

/-- 'strongroomlaw02.ShaCalls', WHERE WHAT IT READS IS OF BULK AT MOST 1048576: true; the input reads as it did. -/
def shaCallsUptoRow : OpenClaim := { program := "ytgkpbeikcpecbaa", sum := "36d216630e22eb1672f000581ff043c045e4b919b7f39753a272688d4b7b8d97", func := "strongroom/strongroomlaw02.ShaCalls", spec := "shaCalls", apart := false, narrowed := true }
def ShaCallsUptoSaid : Prop := shaCallsUptoRow.holds Try.pinned (OpenSpec.upto shaCallsSpec)

/-- 'strongroomlaw02.ShaPads', WHERE WHAT IT READS IS OF BULK AT MOST 1048576: true; the input reads as it did. -/
def shaPadsUptoRow : OpenClaim := { program := "ytgkpbeikcpecbaa", sum := "36d216630e22eb1672f000581ff043c045e4b919b7f39753a272688d4b7b8d97", func := "strongroom/strongroomlaw02.ShaPads", spec := "shaPads", apart := false, narrowed := true }
def ShaPadsUptoSaid : Prop := shaPadsUptoRow.holds Try.pinned (OpenSpec.upto shaPadsSpec)

/-- 'strongroomlaw02.ShaMixes', WHERE WHAT IT READS IS OF BULK AT MOST 1048576: true; the input reads as it did. -/
def shaMixesUptoRow : OpenClaim := { program := "ytgkpbeikcpecbaa", sum := "36d216630e22eb1672f000581ff043c045e4b919b7f39753a272688d4b7b8d97", func := "strongroom/strongroomlaw02.ShaMixes", spec := "shaMixes", apart := false, narrowed := true }
def ShaMixesUptoSaid : Prop := shaMixesUptoRow.holds Try.pinned (OpenSpec.upto shaMixesSpec)

/-- 'strongroomlaw02.ShaNames', WHERE WHAT IT READS IS OF BULK AT MOST 1048576: true; the input reads as it did. -/
def shaNamesUptoRow : OpenClaim := { program := "ytgkpbeikcpecbaa", sum := "36d216630e22eb1672f000581ff043c045e4b919b7f39753a272688d4b7b8d97", func := "strongroom/strongroomlaw02.ShaNames", spec := "shaNames", apart := false, narrowed := true }
def ShaNamesUptoSaid : Prop := shaNamesUptoRow.holds Try.pinned (OpenSpec.upto shaNamesSpec)

/-- 'strongroomlaw02.ShaPieces', WHERE WHAT IT READS IS OF BULK AT MOST 1048576: true; the input reads as it did. -/
def shaPiecesUptoRow : OpenClaim := { program := "ytgkpbeikcpecbaa", sum := "36d216630e22eb1672f000581ff043c045e4b919b7f39753a272688d4b7b8d97", func := "strongroom/strongroomlaw02.ShaPieces", spec := "shaPieces", apart := false, narrowed := true }
def ShaPiecesUptoSaid : Prop := shaPiecesUptoRow.holds Try.pinned (OpenSpec.upto shaPiecesSpec)

/-- 'strongroomlaw02.ShaStreams', WHERE WHAT IT READS IS OF BULK AT MOST 1048576: true; the input reads as it did. -/
def shaStreamsUptoRow : OpenClaim := { program := "ytgkpbeikcpecbaa", sum := "36d216630e22eb1672f000581ff043c045e4b919b7f39753a272688d4b7b8d97", func := "strongroom/strongroomlaw02.ShaStreams", spec := "shaStreams", apart := false, narrowed := true }
def ShaStreamsUptoSaid : Prop := shaStreamsUptoRow.holds Try.pinned (OpenSpec.upto shaStreamsSpec)

/-- 'strongroomlaw02.ShaNone', WHERE WHAT IT READS IS OF BULK AT MOST 1048576: true; the input reads as it did. -/
def shaNoneUptoRow : OpenClaim := { program := "ytgkpbeikcpecbaa", sum := "36d216630e22eb1672f000581ff043c045e4b919b7f39753a272688d4b7b8d97", func := "strongroom/strongroomlaw02.ShaNone", spec := "shaNone", apart := false, narrowed := true }
def ShaNoneUptoSaid : Prop := shaNoneUptoRow.holds Try.pinned (OpenSpec.upto shaNoneSpec)

/-- 'strongroomlaw05.TagApart', WHERE WHAT IT READS IS OF BULK AT MOST 1048576: true; the input reads as it did. -/
def tagApartUptoRow : OpenClaim := { program := "ytgkpbeikcpecbaa", sum := "36d216630e22eb1672f000581ff043c045e4b919b7f39753a272688d4b7b8d97", func := "strongroom/strongroomlaw05.TagApart", spec := "tagApart", unfollowed := true, recurses := true, apart := false, narrowed := true }
def TagApartUptoSaid : Prop := tagApartUptoRow.holds Try.pinned (OpenSpec.upto tagApartSpec)

/-- 'strongroomlaw05.TagNames', WHERE WHAT IT READS IS OF BULK AT MOST 1048576: true; the input reads as it did. -/
def tagNamesUptoRow : OpenClaim := { program := "ytgkpbeikcpecbaa", sum := "36d216630e22eb1672f000581ff043c045e4b919b7f39753a272688d4b7b8d97", func := "strongroom/strongroomlaw05.TagNames", spec := "tagNames", unfollowed := true, recurses := true, apart := false, narrowed := true }
def TagNamesUptoSaid : Prop := tagNamesUptoRow.holds Try.pinned (OpenSpec.upto tagNamesSpec)

/-- 'strongroomlaw11.TreeNames', WHERE WHAT IT READS IS OF BULK AT MOST 1048576: true; the input reads as it did. -/
def treeNamesUptoRow : OpenClaim := { program := "ytgkpbeikcpecbaa", sum := "36d216630e22eb1672f000581ff043c045e4b919b7f39753a272688d4b7b8d97", func := "strongroom/strongroomlaw11.TreeNames", spec := "treeNames", unfollowed := true, recurses := true, apart := false, narrowed := true }
def TreeNamesUptoSaid : Prop := treeNamesUptoRow.holds Try.pinned (OpenSpec.upto treeNamesSpec)

/-- 'strongroomlaw11.TreeDiffers', WHERE WHAT IT READS IS OF BULK AT MOST 1048576: true; the input reads as it did. -/
def treeDiffersUptoRow : OpenClaim := { program := "ytgkpbeikcpecbaa", sum := "36d216630e22eb1672f000581ff043c045e4b919b7f39753a272688d4b7b8d97", func := "strongroom/strongroomlaw11.TreeDiffers", spec := "treeDiffers", unfollowed := true, recurses := true, apart := false, narrowed := true }
def TreeDiffersUptoSaid : Prop := treeDiffersUptoRow.holds Try.pinned (OpenSpec.upto treeDiffersSpec)

/-- 'strongroomlaw11.TreeOne', WHERE WHAT IT READS IS OF BULK AT MOST 1048576: true; the input reads as it did. -/
def treeOneUptoRow : OpenClaim := { program := "ytgkpbeikcpecbaa", sum := "36d216630e22eb1672f000581ff043c045e4b919b7f39753a272688d4b7b8d97", func := "strongroom/strongroomlaw11.TreeOne", spec := "treeOne", unfollowed := true, recurses := true, apart := false, narrowed := true }
def TreeOneUptoSaid : Prop := treeOneUptoRow.holds Try.pinned (OpenSpec.upto treeOneSpec)

/-- 'strongroomlaw05.TagBack', WHERE WHAT IT READS IS OF BULK AT MOST 1048576: true; the input reads as it did. -/
def tagBackUptoRow : OpenClaim := { program := "ytgkpbeikcpecbaa", sum := "36d216630e22eb1672f000581ff043c045e4b919b7f39753a272688d4b7b8d97", func := "strongroom/strongroomlaw05.TagBack", spec := "tagBack", unfollowed := true, recurses := true, apart := false, narrowed := true }
def TagBackUptoSaid : Prop := tagBackUptoRow.holds Try.pinned (OpenSpec.upto tagBackSpec)

/-- 'strongroomlaw05.TagCalls', WHERE WHAT IT READS IS OF BULK AT MOST 1048576: true; the input reads as it did. -/
def tagCallsUptoRow : OpenClaim := { program := "ytgkpbeikcpecbaa", sum := "36d216630e22eb1672f000581ff043c045e4b919b7f39753a272688d4b7b8d97", func := "strongroom/strongroomlaw05.TagCalls", spec := "tagCalls", unfollowed := true, recurses := true, apart := false, narrowed := true }
def TagCallsUptoSaid : Prop := tagCallsUptoRow.holds Try.pinned (OpenSpec.upto tagCallsSpec)

/-- 'strongroomlaw11.TreeClimbs', WHERE WHAT IT READS IS OF BULK AT MOST 1048576: true; the input reads as it did. -/
def treeClimbsUptoRow : OpenClaim := { program := "ytgkpbeikcpecbaa", sum := "36d216630e22eb1672f000581ff043c045e4b919b7f39753a272688d4b7b8d97", func := "strongroom/strongroomlaw11.TreeClimbs", spec := "treeClimbs", unfollowed := true, recurses := true, apart := false, narrowed := true }
def TreeClimbsUptoSaid : Prop := treeClimbsUptoRow.holds Try.pinned (OpenSpec.upto treeClimbsSpec)

/-- 'strongroomlaw11.TreeCalls', WHERE WHAT IT READS IS OF BULK AT MOST 1048576: true; the input reads as it did. -/
def treeCallsUptoRow : OpenClaim := { program := "ytgkpbeikcpecbaa", sum := "36d216630e22eb1672f000581ff043c045e4b919b7f39753a272688d4b7b8d97", func := "strongroom/strongroomlaw11.TreeCalls", spec := "treeCalls", unfollowed := true, recurses := true, apart := false, narrowed := true }
def TreeCallsUptoSaid : Prop := treeCallsUptoRow.holds Try.pinned (OpenSpec.upto treeCallsSpec)

/-- 'strongroomlaw12.ProofClash', WHERE WHAT IT READS IS OF BULK AT MOST 1048576: true; the input reads as it did. -/
def proofClashUptoRow : OpenClaim := { program := "ytgkpbeikcpecbaa", sum := "36d216630e22eb1672f000581ff043c045e4b919b7f39753a272688d4b7b8d97", func := "strongroom/strongroomlaw12.ProofClash", spec := "proofClash", unfollowed := true, recurses := true, apart := false, narrowed := true }
def ProofClashUptoSaid : Prop := proofClashUptoRow.holds Try.pinned (OpenSpec.upto proofClashSpec)

/-- 'strongroomlaw12.ProofPuts', WHERE WHAT IT READS IS OF BULK AT MOST 1048576: true; the input reads as it did. -/
def proofPutsUptoRow : OpenClaim := { program := "ytgkpbeikcpecbaa", sum := "36d216630e22eb1672f000581ff043c045e4b919b7f39753a272688d4b7b8d97", func := "strongroom/strongroomlaw12.ProofPuts", spec := "proofPuts", inPlace := ["maps.clone"], unfollowed := true, recurses := true, apart := false, narrowed := true }
def ProofPutsUptoSaid : Prop := proofPutsUptoRow.holds Try.pinned (OpenSpec.upto proofPutsSpec)

/-- 'strongroomlaw12.ProofServes', WHERE WHAT IT READS IS OF BULK AT MOST 1048576: true; the input reads as it did. -/
def proofServesUptoRow : OpenClaim := { program := "ytgkpbeikcpecbaa", sum := "36d216630e22eb1672f000581ff043c045e4b919b7f39753a272688d4b7b8d97", func := "strongroom/strongroomlaw12.ProofServes", spec := "proofServes", inPlace := ["maps.clone"], unfollowed := true, recurses := true, apart := false, narrowed := true }
def ProofServesUptoSaid : Prop := proofServesUptoRow.holds Try.pinned (OpenSpec.upto proofServesSpec)

/-- 'strongroomlaw12.ProofNames', WHERE WHAT IT READS IS OF BULK AT MOST 1048576: true; the input reads as it did. -/
def proofNamesUptoRow : OpenClaim := { program := "ytgkpbeikcpecbaa", sum := "36d216630e22eb1672f000581ff043c045e4b919b7f39753a272688d4b7b8d97", func := "strongroom/strongroomlaw12.ProofNames", spec := "proofNames", unfollowed := true, recurses := true, apart := false, narrowed := true }
def ProofNamesUptoSaid : Prop := proofNamesUptoRow.holds Try.pinned (OpenSpec.upto proofNamesSpec)

/-- 'strongroomlaw12.ProofSound', WHERE WHAT IT READS IS OF BULK AT MOST 1048576: true; the input reads as it did. -/
def proofSoundUptoRow : OpenClaim := { program := "ytgkpbeikcpecbaa", sum := "36d216630e22eb1672f000581ff043c045e4b919b7f39753a272688d4b7b8d97", func := "strongroom/strongroomlaw12.ProofSound", spec := "proofSound", inPlace := ["maps.clone"], unfollowed := true, recurses := true, apart := false, narrowed := true }
def ProofSoundUptoSaid : Prop := proofSoundUptoRow.holds Try.pinned (OpenSpec.upto proofSoundSpec)

/-- 'strongroomlaw12.ProofPlays', WHERE WHAT IT READS IS OF BULK AT MOST 1048576: true; the input reads as it did. -/
def proofPlaysUptoRow : OpenClaim := { program := "ytgkpbeikcpecbaa", sum := "36d216630e22eb1672f000581ff043c045e4b919b7f39753a272688d4b7b8d97", func := "strongroom/strongroomlaw12.ProofPlays", spec := "proofPlays", inPlace := ["maps.clone"], unfollowed := true, recurses := true, apart := false, narrowed := true }
def ProofPlaysUptoSaid : Prop := proofPlaysUptoRow.holds Try.pinned (OpenSpec.upto proofPlaysSpec)

/-- 'strongroomlaw12.ProofNil', WHERE WHAT IT READS IS OF BULK AT MOST 1048576: true; the input reads as it did. -/
def proofNilUptoRow : OpenClaim := { program := "ytgkpbeikcpecbaa", sum := "36d216630e22eb1672f000581ff043c045e4b919b7f39753a272688d4b7b8d97", func := "strongroom/strongroomlaw12.ProofNil", spec := "proofNil", inPlace := ["maps.clone"], unfollowed := true, recurses := true, apart := false, narrowed := true }
def ProofNilUptoSaid : Prop := proofNilUptoRow.holds Try.pinned (OpenSpec.upto proofNilSpec)

end Rows
end Go.Proofs.Ytgkpbeikcpecbaa
