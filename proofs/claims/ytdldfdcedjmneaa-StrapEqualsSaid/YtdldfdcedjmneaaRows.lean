/-
  No cell of these rows narrows 'for every input' (looked for: loops, veiled, ifaces, maps, wideKeys, modest, calm, conditions, laid).
  DERIVED. THE GIVEN ROWS OF THIS SEAT. 13 by the template 'for every input the law returns true; each argument reads behind the call as it read before'; 0 by the template 'total and deterministic' (their statements: YtdldfdcedjmneaaTotals.lean).
  GIVEN WITH THE SEED: the statements are not yours to turn. If you find one false, say at which input.
  Laid BY PROGRAM, IN A SANDBOX (cutbox-rows.mjs): the forced cells as the released guide's own fill.sh prints them over the translation c9f1e9c75b4857b6… (all of the seat's roots in one cut). By AI agents, Wed Nov 11 2026. No macro, syntax, notation, axiom, sorry.
-/
import Derived.Test.YtdldfdcedjmneaaChecked
import GoSem.Claim
import GoSem.ClaimJoined
import GoSem.ClaimMapViews
import Derived.JoinedTies
import Derived.KernelRfl
namespace Go.Proofs.Ytdldfdcedjmneaa
/- THE CELL 'sum', in the pinned program and in every row, IS THE sha256 OF THE DUMP (.gsa) THAT YtdldfdcedjmneaaProg.lean LOADS. Nothing in Lean hashes anything: it is a label: what it is worth is what the hold of that sum in a sandbox is worth. -/
noncomputable def Try.pinned : Pinned := { name := "ytdldfdcedjmneaa", sum := "c9f1e9c75b4857b65b0895cbbdb15690c7b6dea6fa47433d6356c033620c3084", checked := Try.checked }
namespace Rows
def none {H : Type} : Left H := { results := [], args := [] }

/-- 'gamplaw05.StrapNormals': WHATEVER THE INPUT: true; the input reads as it did. -/
def strapNormalsSpec : ChangeSpec := { name := "strapNormals", fn := fun _ => fun
  | [d1, d2] => { results := [.lit (.bool true)], args := [d1, d2] }
  | _ => none }
def strapNormalsRow : OpenClaim := { program := "ytdldfdcedjmneaa", sum := "c9f1e9c75b4857b65b0895cbbdb15690c7b6dea6fa47433d6356c033620c3084", func := "gamp/gamplaw05.StrapNormals", spec := "strapNormals", unfollowed := true, recurses := true, apart := false }
def StrapNormalsSaid : Prop := strapNormalsRow.holds Try.pinned (OpenSpec.ofChange strapNormalsSpec)

/-- ITS FALSE NEIGHBOUR: 'it returns false'. Refute it at one input. -/
def strapNormalsWrong : ChangeSpec := { name := "strapNormals", fn := fun _ => fun
  | [d1, d2] => { results := [.lit (.bool false)], args := [d1, d2] }
  | _ => none }
def StrapNormalsWrongFalsely : Prop := strapNormalsRow.holds Try.pinned (OpenSpec.ofChange strapNormalsWrong)

/-- 'gamplaw05.StrapEquals': WHATEVER THE INPUT: true; the input reads as it did. -/
def strapEqualsSpec : ChangeSpec := { name := "strapEquals", fn := fun _ => fun
  | [d1, d2, d3] => { results := [.lit (.bool true)], args := [d1, d2, d3] }
  | _ => none }
def strapEqualsRow : OpenClaim := { program := "ytdldfdcedjmneaa", sum := "c9f1e9c75b4857b65b0895cbbdb15690c7b6dea6fa47433d6356c033620c3084", func := "gamp/gamplaw05.StrapEquals", spec := "strapEquals", unfollowed := true, recurses := true, apart := false }
def StrapEqualsSaid : Prop := strapEqualsRow.holds Try.pinned (OpenSpec.ofChange strapEqualsSpec)

/-- ITS FALSE NEIGHBOUR: 'it returns false'. Refute it at one input. -/
def strapEqualsWrong : ChangeSpec := { name := "strapEquals", fn := fun _ => fun
  | [d1, d2, d3] => { results := [.lit (.bool false)], args := [d1, d2, d3] }
  | _ => none }
def StrapEqualsWrongFalsely : Prop := strapEqualsRow.holds Try.pinned (OpenSpec.ofChange strapEqualsWrong)

/-- 'gamplaw05.StrapSteps': WHATEVER THE INPUT: true; the input reads as it did. -/
def strapStepsSpec : ChangeSpec := { name := "strapSteps", fn := fun _ => fun
  | [d1, d2] => { results := [.lit (.bool true)], args := [d1, d2] }
  | _ => none }
def strapStepsRow : OpenClaim := { program := "ytdldfdcedjmneaa", sum := "c9f1e9c75b4857b65b0895cbbdb15690c7b6dea6fa47433d6356c033620c3084", func := "gamp/gamplaw05.StrapSteps", spec := "strapSteps", unfollowed := true, recurses := true, apart := false }
def StrapStepsSaid : Prop := strapStepsRow.holds Try.pinned (OpenSpec.ofChange strapStepsSpec)

/-- ITS FALSE NEIGHBOUR: 'it returns false'. Refute it at one input. -/
def strapStepsWrong : ChangeSpec := { name := "strapSteps", fn := fun _ => fun
  | [d1, d2] => { results := [.lit (.bool false)], args := [d1, d2] }
  | _ => none }
def StrapStepsWrongFalsely : Prop := strapStepsRow.holds Try.pinned (OpenSpec.ofChange strapStepsWrong)

/-- 'gamplaw05.StrapCentre': WHATEVER THE INPUT: true; the input reads as it did. -/
def strapCentreSpec : ChangeSpec := { name := "strapCentre", fn := fun _ => fun
  | [d1, d2] => { results := [.lit (.bool true)], args := [d1, d2] }
  | _ => none }
def strapCentreRow : OpenClaim := { program := "ytdldfdcedjmneaa", sum := "c9f1e9c75b4857b65b0895cbbdb15690c7b6dea6fa47433d6356c033620c3084", func := "gamp/gamplaw05.StrapCentre", spec := "strapCentre", unfollowed := true, recurses := true, apart := false }
def StrapCentreSaid : Prop := strapCentreRow.holds Try.pinned (OpenSpec.ofChange strapCentreSpec)

/-- ITS FALSE NEIGHBOUR: 'it returns false'. Refute it at one input. -/
def strapCentreWrong : ChangeSpec := { name := "strapCentre", fn := fun _ => fun
  | [d1, d2] => { results := [.lit (.bool false)], args := [d1, d2] }
  | _ => none }
def StrapCentreWrongFalsely : Prop := strapCentreRow.holds Try.pinned (OpenSpec.ofChange strapCentreWrong)

/-- 'gamplaw05.StrapLength': WHATEVER THE INPUT: true; the input reads as it did. -/
def strapLengthSpec : ChangeSpec := { name := "strapLength", fn := fun _ => fun
  | [d1, d2] => { results := [.lit (.bool true)], args := [d1, d2] }
  | _ => none }
def strapLengthRow : OpenClaim := { program := "ytdldfdcedjmneaa", sum := "c9f1e9c75b4857b65b0895cbbdb15690c7b6dea6fa47433d6356c033620c3084", func := "gamp/gamplaw05.StrapLength", spec := "strapLength", unfollowed := true, recurses := true, apart := false }
def StrapLengthSaid : Prop := strapLengthRow.holds Try.pinned (OpenSpec.ofChange strapLengthSpec)

/-- ITS FALSE NEIGHBOUR: 'it returns false'. Refute it at one input. -/
def strapLengthWrong : ChangeSpec := { name := "strapLength", fn := fun _ => fun
  | [d1, d2] => { results := [.lit (.bool false)], args := [d1, d2] }
  | _ => none }
def StrapLengthWrongFalsely : Prop := strapLengthRow.holds Try.pinned (OpenSpec.ofChange strapLengthWrong)

/-- 'gamplaw05.StrapLetters': WHATEVER THE INPUT: true; the input reads as it did. -/
def strapLettersSpec : ChangeSpec := { name := "strapLetters", fn := fun _ => fun
  | [d1, d2, d3] => { results := [.lit (.bool true)], args := [d1, d2, d3] }
  | _ => none }
def strapLettersRow : OpenClaim := { program := "ytdldfdcedjmneaa", sum := "c9f1e9c75b4857b65b0895cbbdb15690c7b6dea6fa47433d6356c033620c3084", func := "gamp/gamplaw05.StrapLetters", spec := "strapLetters", unfollowed := true, recurses := true, apart := false }
def StrapLettersSaid : Prop := strapLettersRow.holds Try.pinned (OpenSpec.ofChange strapLettersSpec)

/-- ITS FALSE NEIGHBOUR: 'it returns false'. Refute it at one input. -/
def strapLettersWrong : ChangeSpec := { name := "strapLetters", fn := fun _ => fun
  | [d1, d2, d3] => { results := [.lit (.bool false)], args := [d1, d2, d3] }
  | _ => none }
def StrapLettersWrongFalsely : Prop := strapLettersRow.holds Try.pinned (OpenSpec.ofChange strapLettersWrong)

/-- 'gamplaw05.StrapBuraus': WHATEVER THE INPUT: true; the input reads as it did. -/
def strapBurausSpec : ChangeSpec := { name := "strapBuraus", fn := fun _ => fun
  | [d1, d2] => { results := [.lit (.bool true)], args := [d1, d2] }
  | _ => none }
def strapBurausRow : OpenClaim := { program := "ytdldfdcedjmneaa", sum := "c9f1e9c75b4857b65b0895cbbdb15690c7b6dea6fa47433d6356c033620c3084", func := "gamp/gamplaw05.StrapBuraus", spec := "strapBuraus", unfollowed := true, recurses := true, apart := false }
def StrapBurausSaid : Prop := strapBurausRow.holds Try.pinned (OpenSpec.ofChange strapBurausSpec)

/-- ITS FALSE NEIGHBOUR: 'it returns false'. Refute it at one input. -/
def strapBurausWrong : ChangeSpec := { name := "strapBuraus", fn := fun _ => fun
  | [d1, d2] => { results := [.lit (.bool false)], args := [d1, d2] }
  | _ => none }
def StrapBurausWrongFalsely : Prop := strapBurausRow.holds Try.pinned (OpenSpec.ofChange strapBurausWrong)

/-- 'gamplaw05.StrapProducts': WHATEVER THE INPUT: true; the input reads as it did. -/
def strapProductsSpec : ChangeSpec := { name := "strapProducts", fn := fun _ => fun
  | [d1, d2, d3] => { results := [.lit (.bool true)], args := [d1, d2, d3] }
  | _ => none }
def strapProductsRow : OpenClaim := { program := "ytdldfdcedjmneaa", sum := "c9f1e9c75b4857b65b0895cbbdb15690c7b6dea6fa47433d6356c033620c3084", func := "gamp/gamplaw05.StrapProducts", spec := "strapProducts", unfollowed := true, recurses := true, apart := false }
def StrapProductsSaid : Prop := strapProductsRow.holds Try.pinned (OpenSpec.ofChange strapProductsSpec)

/-- ITS FALSE NEIGHBOUR: 'it returns false'. Refute it at one input. -/
def strapProductsWrong : ChangeSpec := { name := "strapProducts", fn := fun _ => fun
  | [d1, d2, d3] => { results := [.lit (.bool false)], args := [d1, d2, d3] }
  | _ => none }
def StrapProductsWrongFalsely : Prop := strapProductsRow.holds Try.pinned (OpenSpec.ofChange strapProductsWrong)

/-- 'gamplaw05.StrapMarkov': WHATEVER THE INPUT: true; the input reads as it did. -/
def strapMarkovSpec : ChangeSpec := { name := "strapMarkov", fn := fun _ => fun
  | [d1, d2] => { results := [.lit (.bool true)], args := [d1, d2] }
  | _ => none }
def strapMarkovRow : OpenClaim := { program := "ytdldfdcedjmneaa", sum := "c9f1e9c75b4857b65b0895cbbdb15690c7b6dea6fa47433d6356c033620c3084", func := "gamp/gamplaw05.StrapMarkov", spec := "strapMarkov", unfollowed := true, recurses := true, apart := false }
def StrapMarkovSaid : Prop := strapMarkovRow.holds Try.pinned (OpenSpec.ofChange strapMarkovSpec)

/-- ITS FALSE NEIGHBOUR: 'it returns false'. Refute it at one input. -/
def strapMarkovWrong : ChangeSpec := { name := "strapMarkov", fn := fun _ => fun
  | [d1, d2] => { results := [.lit (.bool false)], args := [d1, d2] }
  | _ => none }
def StrapMarkovWrongFalsely : Prop := strapMarkovRow.holds Try.pinned (OpenSpec.ofChange strapMarkovWrong)

/-- 'gamplaw05.StrapKnots': WHATEVER THE INPUT: true; the input reads as it did. -/
def strapKnotsSpec : ChangeSpec := { name := "strapKnots", fn := fun _ => fun
  | [d1, d2] => { results := [.lit (.bool true)], args := [d1, d2] }
  | _ => none }
def strapKnotsRow : OpenClaim := { program := "ytdldfdcedjmneaa", sum := "c9f1e9c75b4857b65b0895cbbdb15690c7b6dea6fa47433d6356c033620c3084", func := "gamp/gamplaw05.StrapKnots", spec := "strapKnots", unfollowed := true, recurses := true, apart := false }
def StrapKnotsSaid : Prop := strapKnotsRow.holds Try.pinned (OpenSpec.ofChange strapKnotsSpec)

/-- ITS FALSE NEIGHBOUR: 'it returns false'. Refute it at one input. -/
def strapKnotsWrong : ChangeSpec := { name := "strapKnots", fn := fun _ => fun
  | [d1, d2] => { results := [.lit (.bool false)], args := [d1, d2] }
  | _ => none }
def StrapKnotsWrongFalsely : Prop := strapKnotsRow.holds Try.pinned (OpenSpec.ofChange strapKnotsWrong)

/-- 'gamplaw05.StrapPerms': WHATEVER THE INPUT: true; the input reads as it did. -/
def strapPermsSpec : ChangeSpec := { name := "strapPerms", fn := fun _ => fun
  | [d1, d2] => { results := [.lit (.bool true)], args := [d1, d2] }
  | _ => none }
def strapPermsRow : OpenClaim := { program := "ytdldfdcedjmneaa", sum := "c9f1e9c75b4857b65b0895cbbdb15690c7b6dea6fa47433d6356c033620c3084", func := "gamp/gamplaw05.StrapPerms", spec := "strapPerms", unfollowed := true, recurses := true, apart := false }
def StrapPermsSaid : Prop := strapPermsRow.holds Try.pinned (OpenSpec.ofChange strapPermsSpec)

/-- ITS FALSE NEIGHBOUR: 'it returns false'. Refute it at one input. -/
def strapPermsWrong : ChangeSpec := { name := "strapPerms", fn := fun _ => fun
  | [d1, d2] => { results := [.lit (.bool false)], args := [d1, d2] }
  | _ => none }
def StrapPermsWrongFalsely : Prop := strapPermsRow.holds Try.pinned (OpenSpec.ofChange strapPermsWrong)

/-- 'gamplaw05.StrapIs': WHATEVER THE INPUT: true; the input reads as it did. -/
def strapIsSpec : ChangeSpec := { name := "strapIs", fn := fun _ => fun
  | [d1, d2] => { results := [.lit (.bool true)], args := [d1, d2] }
  | _ => none }
def strapIsRow : OpenClaim := { program := "ytdldfdcedjmneaa", sum := "c9f1e9c75b4857b65b0895cbbdb15690c7b6dea6fa47433d6356c033620c3084", func := "gamp/gamplaw05.StrapIs", spec := "strapIs", unfollowed := true, recurses := true, apart := false }
def StrapIsSaid : Prop := strapIsRow.holds Try.pinned (OpenSpec.ofChange strapIsSpec)

/-- ITS FALSE NEIGHBOUR: 'it returns false'. Refute it at one input. -/
def strapIsWrong : ChangeSpec := { name := "strapIs", fn := fun _ => fun
  | [d1, d2] => { results := [.lit (.bool false)], args := [d1, d2] }
  | _ => none }
def StrapIsWrongFalsely : Prop := strapIsRow.holds Try.pinned (OpenSpec.ofChange strapIsWrong)

/-- 'gamplaw05.StrapBack': WHATEVER THE INPUT: true; the input reads as it did. -/
def strapBackSpec : ChangeSpec := { name := "strapBack", fn := fun _ => fun
  | [d1, d2] => { results := [.lit (.bool true)], args := [d1, d2] }
  | _ => none }
def strapBackRow : OpenClaim := { program := "ytdldfdcedjmneaa", sum := "c9f1e9c75b4857b65b0895cbbdb15690c7b6dea6fa47433d6356c033620c3084", func := "gamp/gamplaw05.StrapBack", spec := "strapBack", unfollowed := true, recurses := true, apart := false }
def StrapBackSaid : Prop := strapBackRow.holds Try.pinned (OpenSpec.ofChange strapBackSpec)

/-- ITS FALSE NEIGHBOUR: 'it returns false'. Refute it at one input. -/
def strapBackWrong : ChangeSpec := { name := "strapBack", fn := fun _ => fun
  | [d1, d2] => { results := [.lit (.bool false)], args := [d1, d2] }
  | _ => none }
def StrapBackWrongFalsely : Prop := strapBackRow.holds Try.pinned (OpenSpec.ofChange strapBackWrong)

/- THE SECOND FORM. 'bulk': how many values and letters a reading holds, each counted each time it is reached (what is shared counts as often as it is met; a slice's spare places count too). A statement '..UptoSaid' is the law's where the arguments, and the package variables that the reading takes, are together of bulk at most 1048576: NARROWER than '..Said'. Prove '..Said' where nothing that the law and all that it calls make is longer than what came in: it says more and counts as full. Else prove '..UptoSaid'. A law counts once. -/
mutual
def uptoBulk {H : Type} : DataW H → Nat
  | .lit (.string bytes) => bytes.length + 1
  | .lit _ => 1
  | .nil => 1
  | .ptr d => uptoBulk d + 1
  | .slice elems spare => uptoBulkAll elems + uptoBulkAll spare + 1
  | .agg parts => uptoBulkAll parts + 1
  | .iface _ d => uptoBulk d + 1
  | .map entries => uptoBulkEntries entries + 1
  | .held _ => 1
def uptoBulkAll {H : Type} : List (DataW H) → Nat
  | [] => 0
  | d :: r => uptoBulk d + uptoBulkAll r
def uptoBulkEntries {H : Type} : List (Lit × DataW H) → Nat
  | [] => 0
  | x :: r => uptoBulkEntry x + uptoBulkEntries r
def uptoBulkEntry {H : Type} : Lit × DataW H → Nat
  | (.string bytes, d) => bytes.length + uptoBulk d + 1
  | (_, d) => uptoBulk d + 1
 end
def uptoSmall : (H : Type) → List (DataW H) → Bool := fun _ ds => decide (uptoBulkAll ds ≤ 1048576)
def OpenSpec.upto (s : _root_.Go.ChangeSpec) : _root_.Go.OpenSpec := { _root_.Go.OpenSpec.ofChange s with cond := some uptoSmall }

/-- 'gamplaw05.StrapNormals', WHERE WHAT IT READS IS OF BULK AT MOST 1048576: true; the input reads as it did. -/
def strapNormalsUptoRow : OpenClaim := { program := "ytdldfdcedjmneaa", sum := "c9f1e9c75b4857b65b0895cbbdb15690c7b6dea6fa47433d6356c033620c3084", func := "gamp/gamplaw05.StrapNormals", spec := "strapNormals", unfollowed := true, recurses := true, apart := false, narrowed := true }
def StrapNormalsUptoSaid : Prop := strapNormalsUptoRow.holds Try.pinned (OpenSpec.upto strapNormalsSpec)

/-- 'gamplaw05.StrapEquals', WHERE WHAT IT READS IS OF BULK AT MOST 1048576: true; the input reads as it did. -/
def strapEqualsUptoRow : OpenClaim := { program := "ytdldfdcedjmneaa", sum := "c9f1e9c75b4857b65b0895cbbdb15690c7b6dea6fa47433d6356c033620c3084", func := "gamp/gamplaw05.StrapEquals", spec := "strapEquals", unfollowed := true, recurses := true, apart := false, narrowed := true }
def StrapEqualsUptoSaid : Prop := strapEqualsUptoRow.holds Try.pinned (OpenSpec.upto strapEqualsSpec)

/-- 'gamplaw05.StrapSteps', WHERE WHAT IT READS IS OF BULK AT MOST 1048576: true; the input reads as it did. -/
def strapStepsUptoRow : OpenClaim := { program := "ytdldfdcedjmneaa", sum := "c9f1e9c75b4857b65b0895cbbdb15690c7b6dea6fa47433d6356c033620c3084", func := "gamp/gamplaw05.StrapSteps", spec := "strapSteps", unfollowed := true, recurses := true, apart := false, narrowed := true }
def StrapStepsUptoSaid : Prop := strapStepsUptoRow.holds Try.pinned (OpenSpec.upto strapStepsSpec)

/-- 'gamplaw05.StrapCentre', WHERE WHAT IT READS IS OF BULK AT MOST 1048576: true; the input reads as it did. -/
def strapCentreUptoRow : OpenClaim := { program := "ytdldfdcedjmneaa", sum := "c9f1e9c75b4857b65b0895cbbdb15690c7b6dea6fa47433d6356c033620c3084", func := "gamp/gamplaw05.StrapCentre", spec := "strapCentre", unfollowed := true, recurses := true, apart := false, narrowed := true }
def StrapCentreUptoSaid : Prop := strapCentreUptoRow.holds Try.pinned (OpenSpec.upto strapCentreSpec)

/-- 'gamplaw05.StrapLength', WHERE WHAT IT READS IS OF BULK AT MOST 1048576: true; the input reads as it did. -/
def strapLengthUptoRow : OpenClaim := { program := "ytdldfdcedjmneaa", sum := "c9f1e9c75b4857b65b0895cbbdb15690c7b6dea6fa47433d6356c033620c3084", func := "gamp/gamplaw05.StrapLength", spec := "strapLength", unfollowed := true, recurses := true, apart := false, narrowed := true }
def StrapLengthUptoSaid : Prop := strapLengthUptoRow.holds Try.pinned (OpenSpec.upto strapLengthSpec)

/-- 'gamplaw05.StrapLetters', WHERE WHAT IT READS IS OF BULK AT MOST 1048576: true; the input reads as it did. -/
def strapLettersUptoRow : OpenClaim := { program := "ytdldfdcedjmneaa", sum := "c9f1e9c75b4857b65b0895cbbdb15690c7b6dea6fa47433d6356c033620c3084", func := "gamp/gamplaw05.StrapLetters", spec := "strapLetters", unfollowed := true, recurses := true, apart := false, narrowed := true }
def StrapLettersUptoSaid : Prop := strapLettersUptoRow.holds Try.pinned (OpenSpec.upto strapLettersSpec)

/-- 'gamplaw05.StrapBuraus', WHERE WHAT IT READS IS OF BULK AT MOST 1048576: true; the input reads as it did. -/
def strapBurausUptoRow : OpenClaim := { program := "ytdldfdcedjmneaa", sum := "c9f1e9c75b4857b65b0895cbbdb15690c7b6dea6fa47433d6356c033620c3084", func := "gamp/gamplaw05.StrapBuraus", spec := "strapBuraus", unfollowed := true, recurses := true, apart := false, narrowed := true }
def StrapBurausUptoSaid : Prop := strapBurausUptoRow.holds Try.pinned (OpenSpec.upto strapBurausSpec)

/-- 'gamplaw05.StrapProducts', WHERE WHAT IT READS IS OF BULK AT MOST 1048576: true; the input reads as it did. -/
def strapProductsUptoRow : OpenClaim := { program := "ytdldfdcedjmneaa", sum := "c9f1e9c75b4857b65b0895cbbdb15690c7b6dea6fa47433d6356c033620c3084", func := "gamp/gamplaw05.StrapProducts", spec := "strapProducts", unfollowed := true, recurses := true, apart := false, narrowed := true }
def StrapProductsUptoSaid : Prop := strapProductsUptoRow.holds Try.pinned (OpenSpec.upto strapProductsSpec)

/-- 'gamplaw05.StrapMarkov', WHERE WHAT IT READS IS OF BULK AT MOST 1048576: true; the input reads as it did. -/
def strapMarkovUptoRow : OpenClaim := { program := "ytdldfdcedjmneaa", sum := "c9f1e9c75b4857b65b0895cbbdb15690c7b6dea6fa47433d6356c033620c3084", func := "gamp/gamplaw05.StrapMarkov", spec := "strapMarkov", unfollowed := true, recurses := true, apart := false, narrowed := true }
def StrapMarkovUptoSaid : Prop := strapMarkovUptoRow.holds Try.pinned (OpenSpec.upto strapMarkovSpec)

/-- 'gamplaw05.StrapKnots', WHERE WHAT IT READS IS OF BULK AT MOST 1048576: true; the input reads as it did. -/
def strapKnotsUptoRow : OpenClaim := { program := "ytdldfdcedjmneaa", sum := "c9f1e9c75b4857b65b0895cbbdb15690c7b6dea6fa47433d6356c033620c3084", func := "gamp/gamplaw05.StrapKnots", spec := "strapKnots", unfollowed := true, recurses := true, apart := false, narrowed := true }
def StrapKnotsUptoSaid : Prop := strapKnotsUptoRow.holds Try.pinned (OpenSpec.upto strapKnotsSpec)

/-- 'gamplaw05.StrapPerms', WHERE WHAT IT READS IS OF BULK AT MOST 1048576: true; the input reads as it did. -/
def strapPermsUptoRow : OpenClaim := { program := "ytdldfdcedjmneaa", sum := "c9f1e9c75b4857b65b0895cbbdb15690c7b6dea6fa47433d6356c033620c3084", func := "gamp/gamplaw05.StrapPerms", spec := "strapPerms", unfollowed := true, recurses := true, apart := false, narrowed := true }
def StrapPermsUptoSaid : Prop := strapPermsUptoRow.holds Try.pinned (OpenSpec.upto strapPermsSpec)

/-- 'gamplaw05.StrapIs', WHERE WHAT IT READS IS OF BULK AT MOST 1048576: true; the input reads as it did. -/
def strapIsUptoRow : OpenClaim := { program := "ytdldfdcedjmneaa", sum := "c9f1e9c75b4857b65b0895cbbdb15690c7b6dea6fa47433d6356c033620c3084", func := "gamp/gamplaw05.StrapIs", spec := "strapIs", unfollowed := true, recurses := true, apart := false, narrowed := true }
def StrapIsUptoSaid : Prop := strapIsUptoRow.holds Try.pinned (OpenSpec.upto strapIsSpec)

/-- 'gamplaw05.StrapBack', WHERE WHAT IT READS IS OF BULK AT MOST 1048576: true; the input reads as it did. -/
def strapBackUptoRow : OpenClaim := { program := "ytdldfdcedjmneaa", sum := "c9f1e9c75b4857b65b0895cbbdb15690c7b6dea6fa47433d6356c033620c3084", func := "gamp/gamplaw05.StrapBack", spec := "strapBack", unfollowed := true, recurses := true, apart := false, narrowed := true }
def StrapBackUptoSaid : Prop := strapBackUptoRow.holds Try.pinned (OpenSpec.upto strapBackSpec)

end Rows
end Go.Proofs.Ytdldfdcedjmneaa
