/-
  No cell of these rows narrows 'for every input' (looked for: loops, veiled, ifaces, maps, wideKeys, modest, calm, conditions, laid).
  DERIVED. THE GIVEN ROWS OF THIS SEAT. 12 by the template 'for every input the law returns true; each argument reads behind the call as it read before'; 0 by the template 'total and deterministic' (their statements: YtiknnpfdpecfdaaTotals.lean).
  GIVEN WITH THE SEED: the statements are not yours to turn. If you find one false, say at which input.
  Laid BY PROGRAM, IN A SANDBOX (cutbox-rows.mjs): the forced cells as the released guide's own fill.sh prints them over the translation faa88eff0fd356a2… (all of the seat's roots in one cut). By AI agents, Wed Nov 11 2026. No macro, syntax, notation, axiom, sorry.
-/
import Derived.Test.YtiknnpfdpecfdaaChecked
import GoSem.Claim
import GoSem.ClaimJoined
import GoSem.ClaimMapViews
import Derived.JoinedTies
import Derived.KernelRfl
namespace Go.Proofs.Ytiknnpfdpecfdaa
/- THE CELL 'sum', in the pinned program and in every row, IS THE sha256 OF THE DUMP (.gsa) THAT YtiknnpfdpecfdaaProg.lean LOADS. Nothing in Lean hashes anything: it is a label: what it is worth is what the hold of that sum in a sandbox is worth. -/
noncomputable def Try.pinned : Pinned := { name := "ytiknnpfdpecfdaa", sum := "faa88eff0fd356a2330bd11814d4299bf0453835c66913a39967f96405d0f7a3", checked := Try.checked }
namespace Rows
def none {H : Type} : Left H := { results := [], args := [] }

/-- 'gamplaw01.FoldLayers': WHATEVER THE INPUT: true; the input reads as it did. -/
def foldLayersSpec : ChangeSpec := { name := "foldLayers", fn := fun _ => fun
  | [d1, d2] => { results := [.lit (.bool true)], args := [d1, d2] }
  | _ => none }
def foldLayersRow : OpenClaim := { program := "ytiknnpfdpecfdaa", sum := "faa88eff0fd356a2330bd11814d4299bf0453835c66913a39967f96405d0f7a3", func := "gamp/gamplaw01.FoldLayers", spec := "foldLayers", inPlace := ["slices.overlaps[gamp/fold.crease]"], unfollowed := true, recurses := true, apart := false }
def FoldLayersSaid : Prop := foldLayersRow.holds Try.pinned (OpenSpec.ofChange foldLayersSpec)

/-- ITS FALSE NEIGHBOUR: 'it returns false'. Refute it at one input. -/
def foldLayersWrong : ChangeSpec := { name := "foldLayers", fn := fun _ => fun
  | [d1, d2] => { results := [.lit (.bool false)], args := [d1, d2] }
  | _ => none }
def FoldLayersWrongFalsely : Prop := foldLayersRow.holds Try.pinned (OpenSpec.ofChange foldLayersWrong)

/-- 'gamplaw01.FoldStamps': WHATEVER THE INPUT: true; the input reads as it did. -/
def foldStampsSpec : ChangeSpec := { name := "foldStamps", fn := fun _ => fun
  | [d1, d2] => { results := [.lit (.bool true)], args := [d1, d2] }
  | _ => none }
def foldStampsRow : OpenClaim := { program := "ytiknnpfdpecfdaa", sum := "faa88eff0fd356a2330bd11814d4299bf0453835c66913a39967f96405d0f7a3", func := "gamp/gamplaw01.FoldStamps", spec := "foldStamps", inPlace := ["slices.overlaps[gamp/fold.crease]"], unfollowed := true, recurses := true, apart := false }
def FoldStampsSaid : Prop := foldStampsRow.holds Try.pinned (OpenSpec.ofChange foldStampsSpec)

/-- ITS FALSE NEIGHBOUR: 'it returns false'. Refute it at one input. -/
def foldStampsWrong : ChangeSpec := { name := "foldStamps", fn := fun _ => fun
  | [d1, d2] => { results := [.lit (.bool false)], args := [d1, d2] }
  | _ => none }
def FoldStampsWrongFalsely : Prop := foldStampsRow.holds Try.pinned (OpenSpec.ofChange foldStampsWrong)

/-- 'gamplaw01.FoldCounts': WHATEVER THE INPUT: true; the input reads as it did. -/
def foldCountsSpec : ChangeSpec := { name := "foldCounts", fn := fun _ => fun
  | [d1, d2] => { results := [.lit (.bool true)], args := [d1, d2] }
  | _ => none }
def foldCountsRow : OpenClaim := { program := "ytiknnpfdpecfdaa", sum := "faa88eff0fd356a2330bd11814d4299bf0453835c66913a39967f96405d0f7a3", func := "gamp/gamplaw01.FoldCounts", spec := "foldCounts", inPlace := ["slices.overlaps[gamp/fold.crease]"], unfollowed := true, recurses := true, apart := false }
def FoldCountsSaid : Prop := foldCountsRow.holds Try.pinned (OpenSpec.ofChange foldCountsSpec)

/-- ITS FALSE NEIGHBOUR: 'it returns false'. Refute it at one input. -/
def foldCountsWrong : ChangeSpec := { name := "foldCounts", fn := fun _ => fun
  | [d1, d2] => { results := [.lit (.bool false)], args := [d1, d2] }
  | _ => none }
def FoldCountsWrongFalsely : Prop := foldCountsRow.holds Try.pinned (OpenSpec.ofChange foldCountsWrong)

/-- 'gamplaw01.FoldBijection': WHATEVER THE INPUT: true; the input reads as it did. -/
def foldBijectionSpec : ChangeSpec := { name := "foldBijection", fn := fun _ => fun
  | [d1, d2] => { results := [.lit (.bool true)], args := [d1, d2] }
  | _ => none }
def foldBijectionRow : OpenClaim := { program := "ytiknnpfdpecfdaa", sum := "faa88eff0fd356a2330bd11814d4299bf0453835c66913a39967f96405d0f7a3", func := "gamp/gamplaw01.FoldBijection", spec := "foldBijection", inPlace := ["slices.overlaps[gamp/fold.crease]"], unfollowed := true, recurses := true, apart := false }
def FoldBijectionSaid : Prop := foldBijectionRow.holds Try.pinned (OpenSpec.ofChange foldBijectionSpec)

/-- ITS FALSE NEIGHBOUR: 'it returns false'. Refute it at one input. -/
def foldBijectionWrong : ChangeSpec := { name := "foldBijection", fn := fun _ => fun
  | [d1, d2] => { results := [.lit (.bool false)], args := [d1, d2] }
  | _ => none }
def FoldBijectionWrongFalsely : Prop := foldBijectionRow.holds Try.pinned (OpenSpec.ofChange foldBijectionWrong)

/-- 'gamplaw01.FoldVertices': WHATEVER THE INPUT: true; the input reads as it did. -/
def foldVerticesSpec : ChangeSpec := { name := "foldVertices", fn := fun _ => fun
  | [d1, d2] => { results := [.lit (.bool true)], args := [d1, d2] }
  | _ => none }
def foldVerticesRow : OpenClaim := { program := "ytiknnpfdpecfdaa", sum := "faa88eff0fd356a2330bd11814d4299bf0453835c66913a39967f96405d0f7a3", func := "gamp/gamplaw01.FoldVertices", spec := "foldVertices", inPlace := ["slices.overlaps[gamp/fold.crease]"], unfollowed := true, recurses := true, apart := false }
def FoldVerticesSaid : Prop := foldVerticesRow.holds Try.pinned (OpenSpec.ofChange foldVerticesSpec)

/-- ITS FALSE NEIGHBOUR: 'it returns false'. Refute it at one input. -/
def foldVerticesWrong : ChangeSpec := { name := "foldVertices", fn := fun _ => fun
  | [d1, d2] => { results := [.lit (.bool false)], args := [d1, d2] }
  | _ => none }
def FoldVerticesWrongFalsely : Prop := foldVerticesRow.holds Try.pinned (OpenSpec.ofChange foldVerticesWrong)

/-- 'gamplaw01.FoldReduced': WHATEVER THE INPUT: true; the input reads as it did. -/
def foldReducedSpec : ChangeSpec := { name := "foldReduced", fn := fun _ => fun
  | [d1, d2, d3] => { results := [.lit (.bool true)], args := [d1, d2, d3] }
  | _ => none }
def foldReducedRow : OpenClaim := { program := "ytiknnpfdpecfdaa", sum := "faa88eff0fd356a2330bd11814d4299bf0453835c66913a39967f96405d0f7a3", func := "gamp/gamplaw01.FoldReduced", spec := "foldReduced", inPlace := ["slices.overlaps[gamp/fold.crease]"], unfollowed := true, recurses := true, apart := false }
def FoldReducedSaid : Prop := foldReducedRow.holds Try.pinned (OpenSpec.ofChange foldReducedSpec)

/-- ITS FALSE NEIGHBOUR: 'it returns false'. Refute it at one input. -/
def foldReducedWrong : ChangeSpec := { name := "foldReduced", fn := fun _ => fun
  | [d1, d2, d3] => { results := [.lit (.bool false)], args := [d1, d2, d3] }
  | _ => none }
def FoldReducedWrongFalsely : Prop := foldReducedRow.holds Try.pinned (OpenSpec.ofChange foldReducedWrong)

/-- 'gamplaw01.FoldTurned': WHATEVER THE INPUT: true; the input reads as it did. -/
def foldTurnedSpec : ChangeSpec := { name := "foldTurned", fn := fun _ => fun
  | [d1, d2, d3] => { results := [.lit (.bool true)], args := [d1, d2, d3] }
  | _ => none }
def foldTurnedRow : OpenClaim := { program := "ytiknnpfdpecfdaa", sum := "faa88eff0fd356a2330bd11814d4299bf0453835c66913a39967f96405d0f7a3", func := "gamp/gamplaw01.FoldTurned", spec := "foldTurned", inPlace := ["slices.overlaps[gamp/fold.crease]"], unfollowed := true, recurses := true, apart := false }
def FoldTurnedSaid : Prop := foldTurnedRow.holds Try.pinned (OpenSpec.ofChange foldTurnedSpec)

/-- ITS FALSE NEIGHBOUR: 'it returns false'. Refute it at one input. -/
def foldTurnedWrong : ChangeSpec := { name := "foldTurned", fn := fun _ => fun
  | [d1, d2, d3] => { results := [.lit (.bool false)], args := [d1, d2, d3] }
  | _ => none }
def FoldTurnedWrongFalsely : Prop := foldTurnedRow.holds Try.pinned (OpenSpec.ofChange foldTurnedWrong)

/-- 'gamplaw01.FoldBackwards': WHATEVER THE INPUT: true; the input reads as it did. -/
def foldBackwardsSpec : ChangeSpec := { name := "foldBackwards", fn := fun _ => fun
  | [d1, d2] => { results := [.lit (.bool true)], args := [d1, d2] }
  | _ => none }
def foldBackwardsRow : OpenClaim := { program := "ytiknnpfdpecfdaa", sum := "faa88eff0fd356a2330bd11814d4299bf0453835c66913a39967f96405d0f7a3", func := "gamp/gamplaw01.FoldBackwards", spec := "foldBackwards", inPlace := ["slices.overlaps[gamp/fold.crease]"], unfollowed := true, recurses := true, apart := false }
def FoldBackwardsSaid : Prop := foldBackwardsRow.holds Try.pinned (OpenSpec.ofChange foldBackwardsSpec)

/-- ITS FALSE NEIGHBOUR: 'it returns false'. Refute it at one input. -/
def foldBackwardsWrong : ChangeSpec := { name := "foldBackwards", fn := fun _ => fun
  | [d1, d2] => { results := [.lit (.bool false)], args := [d1, d2] }
  | _ => none }
def FoldBackwardsWrongFalsely : Prop := foldBackwardsRow.holds Try.pinned (OpenSpec.ofChange foldBackwardsWrong)

/-- 'gamplaw01.FoldOrders': WHATEVER THE INPUT: true; the input reads as it did. -/
def foldOrdersSpec : ChangeSpec := { name := "foldOrders", fn := fun _ => fun
  | [d1, d2] => { results := [.lit (.bool true)], args := [d1, d2] }
  | _ => none }
def foldOrdersRow : OpenClaim := { program := "ytiknnpfdpecfdaa", sum := "faa88eff0fd356a2330bd11814d4299bf0453835c66913a39967f96405d0f7a3", func := "gamp/gamplaw01.FoldOrders", spec := "foldOrders", inPlace := ["slices.overlaps[gamp/fold.crease]"], unfollowed := true, recurses := true, apart := false }
def FoldOrdersSaid : Prop := foldOrdersRow.holds Try.pinned (OpenSpec.ofChange foldOrdersSpec)

/-- ITS FALSE NEIGHBOUR: 'it returns false'. Refute it at one input. -/
def foldOrdersWrong : ChangeSpec := { name := "foldOrders", fn := fun _ => fun
  | [d1, d2] => { results := [.lit (.bool false)], args := [d1, d2] }
  | _ => none }
def FoldOrdersWrongFalsely : Prop := foldOrdersRow.holds Try.pinned (OpenSpec.ofChange foldOrdersWrong)

/-- 'gamplaw01.FoldEqual': WHATEVER THE INPUT: true; the input reads as it did. -/
def foldEqualSpec : ChangeSpec := { name := "foldEqual", fn := fun _ => fun
  | [d1, d2] => { results := [.lit (.bool true)], args := [d1, d2] }
  | _ => none }
def foldEqualRow : OpenClaim := { program := "ytiknnpfdpecfdaa", sum := "faa88eff0fd356a2330bd11814d4299bf0453835c66913a39967f96405d0f7a3", func := "gamp/gamplaw01.FoldEqual", spec := "foldEqual", inPlace := ["slices.overlaps[gamp/fold.crease]"], unfollowed := true, recurses := true, apart := false }
def FoldEqualSaid : Prop := foldEqualRow.holds Try.pinned (OpenSpec.ofChange foldEqualSpec)

/-- ITS FALSE NEIGHBOUR: 'it returns false'. Refute it at one input. -/
def foldEqualWrong : ChangeSpec := { name := "foldEqual", fn := fun _ => fun
  | [d1, d2] => { results := [.lit (.bool false)], args := [d1, d2] }
  | _ => none }
def FoldEqualWrongFalsely : Prop := foldEqualRow.holds Try.pinned (OpenSpec.ofChange foldEqualWrong)

/-- 'gamplaw01.FoldFlats': WHATEVER THE INPUT: true; the input reads as it did. -/
def foldFlatsSpec : ChangeSpec := { name := "foldFlats", fn := fun _ => fun
  | [d1, d2] => { results := [.lit (.bool true)], args := [d1, d2] }
  | _ => none }
def foldFlatsRow : OpenClaim := { program := "ytiknnpfdpecfdaa", sum := "faa88eff0fd356a2330bd11814d4299bf0453835c66913a39967f96405d0f7a3", func := "gamp/gamplaw01.FoldFlats", spec := "foldFlats", inPlace := ["slices.overlaps[gamp/fold.crease]"], unfollowed := true, recurses := true, apart := false }
def FoldFlatsSaid : Prop := foldFlatsRow.holds Try.pinned (OpenSpec.ofChange foldFlatsSpec)

/-- ITS FALSE NEIGHBOUR: 'it returns false'. Refute it at one input. -/
def foldFlatsWrong : ChangeSpec := { name := "foldFlats", fn := fun _ => fun
  | [d1, d2] => { results := [.lit (.bool false)], args := [d1, d2] }
  | _ => none }
def FoldFlatsWrongFalsely : Prop := foldFlatsRow.holds Try.pinned (OpenSpec.ofChange foldFlatsWrong)

/-- 'gamplaw01.FoldKawasaki': WHATEVER THE INPUT: true; the input reads as it did. -/
def foldKawasakiSpec : ChangeSpec := { name := "foldKawasaki", fn := fun _ => fun
  | [d1, d2, d3] => { results := [.lit (.bool true)], args := [d1, d2, d3] }
  | _ => none }
def foldKawasakiRow : OpenClaim := { program := "ytiknnpfdpecfdaa", sum := "faa88eff0fd356a2330bd11814d4299bf0453835c66913a39967f96405d0f7a3", func := "gamp/gamplaw01.FoldKawasaki", spec := "foldKawasaki", inPlace := ["slices.overlaps[gamp/fold.crease]"], unfollowed := true, recurses := true, apart := false }
def FoldKawasakiSaid : Prop := foldKawasakiRow.holds Try.pinned (OpenSpec.ofChange foldKawasakiSpec)

/-- ITS FALSE NEIGHBOUR: 'it returns false'. Refute it at one input. -/
def foldKawasakiWrong : ChangeSpec := { name := "foldKawasaki", fn := fun _ => fun
  | [d1, d2, d3] => { results := [.lit (.bool false)], args := [d1, d2, d3] }
  | _ => none }
def FoldKawasakiWrongFalsely : Prop := foldKawasakiRow.holds Try.pinned (OpenSpec.ofChange foldKawasakiWrong)

/- THE SECOND FORM. 'bulk': how many values and letters a reading holds, each counted each time it is reached (what is shared counts as often as it is met; a slice's spare places count too). A statement '..UptoSaid' is the law's where the arguments, and the package variables that the reading takes, are together of bulk at most 1048576: NARROWER than '..Said'. Prove '..Said' where nothing that the law and all that it calls make is longer than what came in: it says more and counts as full. Else prove '..UptoSaid'. A law counts once. -/
mutual
def uptoBulk {H : Type} : DataW H → Nat
  | .lit (.string bytes) => bytes.length + 1
  | .lit _ => 1
  | .nil => 1
  | .ptr d => uptoBulk d + 1
  | .slice elems spare => uptoBulkAll elems + uptoBulkAll spare + 1
  | .agg parts => uptoBulkAll parts + 1
  | .iface _ d => uptoBulk d + 1
  | .map entries => uptoBulkEntries entries + 1
  | .held _ => 1
def uptoBulkAll {H : Type} : List (DataW H) → Nat
  | [] => 0
  | d :: r => uptoBulk d + uptoBulkAll r
def uptoBulkEntries {H : Type} : List (Lit × DataW H) → Nat
  | [] => 0
  | x :: r => uptoBulkEntry x + uptoBulkEntries r
def uptoBulkEntry {H : Type} : Lit × DataW H → Nat
  | (.string bytes, d) => bytes.length + uptoBulk d + 1
  | (_, d) => uptoBulk d + 1
 end
def uptoSmall : (H : Type) → List (DataW H) → Bool := fun _ ds => decide (uptoBulkAll ds ≤ 1048576)
def OpenSpec.upto (s : _root_.Go.ChangeSpec) : _root_.Go.OpenSpec := { _root_.Go.OpenSpec.ofChange s with cond := some uptoSmall }

/-- 'gamplaw01.FoldLayers', WHERE WHAT IT READS IS OF BULK AT MOST 1048576: true; the input reads as it did. -/
def foldLayersUptoRow : OpenClaim := { program := "ytiknnpfdpecfdaa", sum := "faa88eff0fd356a2330bd11814d4299bf0453835c66913a39967f96405d0f7a3", func := "gamp/gamplaw01.FoldLayers", spec := "foldLayers", inPlace := ["slices.overlaps[gamp/fold.crease]"], unfollowed := true, recurses := true, apart := false, narrowed := true }
def FoldLayersUptoSaid : Prop := foldLayersUptoRow.holds Try.pinned (OpenSpec.upto foldLayersSpec)

/-- 'gamplaw01.FoldStamps', WHERE WHAT IT READS IS OF BULK AT MOST 1048576: true; the input reads as it did. -/
def foldStampsUptoRow : OpenClaim := { program := "ytiknnpfdpecfdaa", sum := "faa88eff0fd356a2330bd11814d4299bf0453835c66913a39967f96405d0f7a3", func := "gamp/gamplaw01.FoldStamps", spec := "foldStamps", inPlace := ["slices.overlaps[gamp/fold.crease]"], unfollowed := true, recurses := true, apart := false, narrowed := true }
def FoldStampsUptoSaid : Prop := foldStampsUptoRow.holds Try.pinned (OpenSpec.upto foldStampsSpec)

/-- 'gamplaw01.FoldCounts', WHERE WHAT IT READS IS OF BULK AT MOST 1048576: true; the input reads as it did. -/
def foldCountsUptoRow : OpenClaim := { program := "ytiknnpfdpecfdaa", sum := "faa88eff0fd356a2330bd11814d4299bf0453835c66913a39967f96405d0f7a3", func := "gamp/gamplaw01.FoldCounts", spec := "foldCounts", inPlace := ["slices.overlaps[gamp/fold.crease]"], unfollowed := true, recurses := true, apart := false, narrowed := true }
def FoldCountsUptoSaid : Prop := foldCountsUptoRow.holds Try.pinned (OpenSpec.upto foldCountsSpec)

/-- 'gamplaw01.FoldBijection', WHERE WHAT IT READS IS OF BULK AT MOST 1048576: true; the input reads as it did. -/
def foldBijectionUptoRow : OpenClaim := { program := "ytiknnpfdpecfdaa", sum := "faa88eff0fd356a2330bd11814d4299bf0453835c66913a39967f96405d0f7a3", func := "gamp/gamplaw01.FoldBijection", spec := "foldBijection", inPlace := ["slices.overlaps[gamp/fold.crease]"], unfollowed := true, recurses := true, apart := false, narrowed := true }
def FoldBijectionUptoSaid : Prop := foldBijectionUptoRow.holds Try.pinned (OpenSpec.upto foldBijectionSpec)

/-- 'gamplaw01.FoldVertices', WHERE WHAT IT READS IS OF BULK AT MOST 1048576: true; the input reads as it did. -/
def foldVerticesUptoRow : OpenClaim := { program := "ytiknnpfdpecfdaa", sum := "faa88eff0fd356a2330bd11814d4299bf0453835c66913a39967f96405d0f7a3", func := "gamp/gamplaw01.FoldVertices", spec := "foldVertices", inPlace := ["slices.overlaps[gamp/fold.crease]"], unfollowed := true, recurses := true, apart := false, narrowed := true }
def FoldVerticesUptoSaid : Prop := foldVerticesUptoRow.holds Try.pinned (OpenSpec.upto foldVerticesSpec)

/-- 'gamplaw01.FoldReduced', WHERE WHAT IT READS IS OF BULK AT MOST 1048576: true; the input reads as it did. -/
def foldReducedUptoRow : OpenClaim := { program := "ytiknnpfdpecfdaa", sum := "faa88eff0fd356a2330bd11814d4299bf0453835c66913a39967f96405d0f7a3", func := "gamp/gamplaw01.FoldReduced", spec := "foldReduced", inPlace := ["slices.overlaps[gamp/fold.crease]"], unfollowed := true, recurses := true, apart := false, narrowed := true }
def FoldReducedUptoSaid : Prop := foldReducedUptoRow.holds Try.pinned (OpenSpec.upto foldReducedSpec)

/-- 'gamplaw01.FoldTurned', WHERE WHAT IT READS IS OF BULK AT MOST 1048576: true; the input reads as it did. -/
def foldTurnedUptoRow : OpenClaim := { program := "ytiknnpfdpecfdaa", sum := "faa88eff0fd356a2330bd11814d4299bf0453835c66913a39967f96405d0f7a3", func := "gamp/gamplaw01.FoldTurned", spec := "foldTurned", inPlace := ["slices.overlaps[gamp/fold.crease]"], unfollowed := true, recurses := true, apart := false, narrowed := true }
def FoldTurnedUptoSaid : Prop := foldTurnedUptoRow.holds Try.pinned (OpenSpec.upto foldTurnedSpec)

/-- 'gamplaw01.FoldBackwards', WHERE WHAT IT READS IS OF BULK AT MOST 1048576: true; the input reads as it did. -/
def foldBackwardsUptoRow : OpenClaim := { program := "ytiknnpfdpecfdaa", sum := "faa88eff0fd356a2330bd11814d4299bf0453835c66913a39967f96405d0f7a3", func := "gamp/gamplaw01.FoldBackwards", spec := "foldBackwards", inPlace := ["slices.overlaps[gamp/fold.crease]"], unfollowed := true, recurses := true, apart := false, narrowed := true }
def FoldBackwardsUptoSaid : Prop := foldBackwardsUptoRow.holds Try.pinned (OpenSpec.upto foldBackwardsSpec)

/-- 'gamplaw01.FoldOrders', WHERE WHAT IT READS IS OF BULK AT MOST 1048576: true; the input reads as it did. -/
def foldOrdersUptoRow : OpenClaim := { program := "ytiknnpfdpecfdaa", sum := "faa88eff0fd356a2330bd11814d4299bf0453835c66913a39967f96405d0f7a3", func := "gamp/gamplaw01.FoldOrders", spec := "foldOrders", inPlace := ["slices.overlaps[gamp/fold.crease]"], unfollowed := true, recurses := true, apart := false, narrowed := true }
def FoldOrdersUptoSaid : Prop := foldOrdersUptoRow.holds Try.pinned (OpenSpec.upto foldOrdersSpec)

/-- 'gamplaw01.FoldEqual', WHERE WHAT IT READS IS OF BULK AT MOST 1048576: true; the input reads as it did. -/
def foldEqualUptoRow : OpenClaim := { program := "ytiknnpfdpecfdaa", sum := "faa88eff0fd356a2330bd11814d4299bf0453835c66913a39967f96405d0f7a3", func := "gamp/gamplaw01.FoldEqual", spec := "foldEqual", inPlace := ["slices.overlaps[gamp/fold.crease]"], unfollowed := true, recurses := true, apart := false, narrowed := true }
def FoldEqualUptoSaid : Prop := foldEqualUptoRow.holds Try.pinned (OpenSpec.upto foldEqualSpec)

/-- 'gamplaw01.FoldFlats', WHERE WHAT IT READS IS OF BULK AT MOST 1048576: true; the input reads as it did. -/
def foldFlatsUptoRow : OpenClaim := { program := "ytiknnpfdpecfdaa", sum := "faa88eff0fd356a2330bd11814d4299bf0453835c66913a39967f96405d0f7a3", func := "gamp/gamplaw01.FoldFlats", spec := "foldFlats", inPlace := ["slices.overlaps[gamp/fold.crease]"], unfollowed := true, recurses := true, apart := false, narrowed := true }
def FoldFlatsUptoSaid : Prop := foldFlatsUptoRow.holds Try.pinned (OpenSpec.upto foldFlatsSpec)

/-- 'gamplaw01.FoldKawasaki', WHERE WHAT IT READS IS OF BULK AT MOST 1048576: true; the input reads as it did. -/
def foldKawasakiUptoRow : OpenClaim := { program := "ytiknnpfdpecfdaa", sum := "faa88eff0fd356a2330bd11814d4299bf0453835c66913a39967f96405d0f7a3", func := "gamp/gamplaw01.FoldKawasaki", spec := "foldKawasaki", inPlace := ["slices.overlaps[gamp/fold.crease]"], unfollowed := true, recurses := true, apart := false, narrowed := true }
def FoldKawasakiUptoSaid : Prop := foldKawasakiUptoRow.holds Try.pinned (OpenSpec.upto foldKawasakiSpec)

end Rows
end Go.Proofs.Ytiknnpfdpecfdaa
