/-
  No cell of these rows narrows 'for every input' (looked for: loops, veiled, ifaces, maps, wideKeys, modest, calm, conditions, laid).
  DERIVED. THE GIVEN ROWS OF THIS SEAT. 9 by the template 'for every input the law returns true; each argument reads behind the call as it read before'; 0 by the template 'total and deterministic' (their statements: YtilabipmgcpnjaaTotals.lean).
  GIVEN WITH THE SEED: the statements are not yours to turn. If you find one false, say at which input.
  Laid BY PROGRAM, IN A SANDBOX (cutbox-rows.mjs): the forced cells as the released guide's own fill.sh prints them over the translation 04af84975c53b7b2… (all of the seat's roots in one cut). By AI agents, Wed Nov 11 2026. No macro, syntax, notation, axiom, sorry.
-/
import Derived.Test.YtilabipmgcpnjaaChecked
import GoSem.Claim
import GoSem.ClaimJoined
import GoSem.ClaimMapViews
import Derived.JoinedTies
import Derived.KernelRfl
namespace Go.Proofs.Ytilabipmgcpnjaa
/- THE CELL 'sum', in the pinned program and in every row, IS THE sha256 OF THE DUMP (.gsa) THAT YtilabipmgcpnjaaProg.lean LOADS. Nothing in Lean hashes anything: it is a label: what it is worth is what the hold of that sum in a sandbox is worth. -/
noncomputable def Try.pinned : Pinned := { name := "ytilabipmgcpnjaa", sum := "04af84975c53b7b2ef6c7c0a246904cf3a4c208e35763b8f5a6d31739a7a5770", checked := Try.checked }
namespace Rows
def none {H : Type} : Left H := { results := [], args := [] }

/-- 'gamplaw07.PairMatches': WHATEVER THE INPUT: true; the input reads as it did. -/
def pairMatchesSpec : ChangeSpec := { name := "pairMatches", fn := fun _ => fun
  | [d] => { results := [.lit (.bool true)], args := [d] }
  | _ => none }
def pairMatchesRow : OpenClaim := { program := "ytilabipmgcpnjaa", sum := "04af84975c53b7b2ef6c7c0a246904cf3a4c208e35763b8f5a6d31739a7a5770", func := "gamp/gamplaw07.PairMatches", spec := "pairMatches", unfollowed := true, recurses := true, apart := false }
def PairMatchesSaid : Prop := pairMatchesRow.holds Try.pinned (OpenSpec.ofChange pairMatchesSpec)

/-- ITS FALSE NEIGHBOUR: 'it returns false'. Refute it at one input. -/
def pairMatchesWrong : ChangeSpec := { name := "pairMatches", fn := fun _ => fun
  | [d] => { results := [.lit (.bool false)], args := [d] }
  | _ => none }
def PairMatchesWrongFalsely : Prop := pairMatchesRow.holds Try.pinned (OpenSpec.ofChange pairMatchesWrong)

/-- 'gamplaw07.PairTan': WHATEVER THE INPUT: true; the input reads as it did. -/
def pairTanSpec : ChangeSpec := { name := "pairTan", fn := fun _ => fun
  | [d1, d2] => { results := [.lit (.bool true)], args := [d1, d2] }
  | _ => none }
def pairTanRow : OpenClaim := { program := "ytilabipmgcpnjaa", sum := "04af84975c53b7b2ef6c7c0a246904cf3a4c208e35763b8f5a6d31739a7a5770", func := "gamp/gamplaw07.PairTan", spec := "pairTan", unfollowed := true, recurses := true, apart := false }
def PairTanSaid : Prop := pairTanRow.holds Try.pinned (OpenSpec.ofChange pairTanSpec)

/-- ITS FALSE NEIGHBOUR: 'it returns false'. Refute it at one input. -/
def pairTanWrong : ChangeSpec := { name := "pairTan", fn := fun _ => fun
  | [d1, d2] => { results := [.lit (.bool false)], args := [d1, d2] }
  | _ => none }
def PairTanWrongFalsely : Prop := pairTanRow.holds Try.pinned (OpenSpec.ofChange pairTanWrong)

/-- 'gamplaw07.PairAlone': WHATEVER THE INPUT: true; the input reads as it did. -/
def pairAloneSpec : ChangeSpec := { name := "pairAlone", fn := fun _ => fun
  | [d1, d2] => { results := [.lit (.bool true)], args := [d1, d2] }
  | _ => none }
def pairAloneRow : OpenClaim := { program := "ytilabipmgcpnjaa", sum := "04af84975c53b7b2ef6c7c0a246904cf3a4c208e35763b8f5a6d31739a7a5770", func := "gamp/gamplaw07.PairAlone", spec := "pairAlone", unfollowed := true, recurses := true, apart := false }
def PairAloneSaid : Prop := pairAloneRow.holds Try.pinned (OpenSpec.ofChange pairAloneSpec)

/-- ITS FALSE NEIGHBOUR: 'it returns false'. Refute it at one input. -/
def pairAloneWrong : ChangeSpec := { name := "pairAlone", fn := fun _ => fun
  | [d1, d2] => { results := [.lit (.bool false)], args := [d1, d2] }
  | _ => none }
def PairAloneWrongFalsely : Prop := pairAloneRow.holds Try.pinned (OpenSpec.ofChange pairAloneWrong)

/-- 'gamplaw07.PairNames': WHATEVER THE INPUT: true; the input reads as it did. -/
def pairNamesSpec : ChangeSpec := { name := "pairNames", fn := fun _ => fun
  | [d1, d2, d3] => { results := [.lit (.bool true)], args := [d1, d2, d3] }
  | _ => none }
def pairNamesRow : OpenClaim := { program := "ytilabipmgcpnjaa", sum := "04af84975c53b7b2ef6c7c0a246904cf3a4c208e35763b8f5a6d31739a7a5770", func := "gamp/gamplaw07.PairNames", spec := "pairNames", unfollowed := true, recurses := true, apart := false }
def PairNamesSaid : Prop := pairNamesRow.holds Try.pinned (OpenSpec.ofChange pairNamesSpec)

/-- ITS FALSE NEIGHBOUR: 'it returns false'. Refute it at one input. -/
def pairNamesWrong : ChangeSpec := { name := "pairNames", fn := fun _ => fun
  | [d1, d2, d3] => { results := [.lit (.bool false)], args := [d1, d2, d3] }
  | _ => none }
def PairNamesWrongFalsely : Prop := pairNamesRow.holds Try.pinned (OpenSpec.ofChange pairNamesWrong)

/-- 'gamplaw07.PairSides': WHATEVER THE INPUT: true; the input reads as it did. -/
def pairSidesSpec : ChangeSpec := { name := "pairSides", fn := fun _ => fun
  | [d1, d2] => { results := [.lit (.bool true)], args := [d1, d2] }
  | _ => none }
def pairSidesRow : OpenClaim := { program := "ytilabipmgcpnjaa", sum := "04af84975c53b7b2ef6c7c0a246904cf3a4c208e35763b8f5a6d31739a7a5770", func := "gamp/gamplaw07.PairSides", spec := "pairSides", unfollowed := true, recurses := true, apart := false }
def PairSidesSaid : Prop := pairSidesRow.holds Try.pinned (OpenSpec.ofChange pairSidesSpec)

/-- ITS FALSE NEIGHBOUR: 'it returns false'. Refute it at one input. -/
def pairSidesWrong : ChangeSpec := { name := "pairSides", fn := fun _ => fun
  | [d1, d2] => { results := [.lit (.bool false)], args := [d1, d2] }
  | _ => none }
def PairSidesWrongFalsely : Prop := pairSidesRow.holds Try.pinned (OpenSpec.ofChange pairSidesWrong)

/-- 'gamplaw07.PairPartitions': WHATEVER THE INPUT: true; the input reads as it did. -/
def pairPartitionsSpec : ChangeSpec := { name := "pairPartitions", fn := fun _ => fun
  | [d] => { results := [.lit (.bool true)], args := [d] }
  | _ => none }
def pairPartitionsRow : OpenClaim := { program := "ytilabipmgcpnjaa", sum := "04af84975c53b7b2ef6c7c0a246904cf3a4c208e35763b8f5a6d31739a7a5770", func := "gamp/gamplaw07.PairPartitions", spec := "pairPartitions", unfollowed := true, recurses := true, apart := false }
def PairPartitionsSaid : Prop := pairPartitionsRow.holds Try.pinned (OpenSpec.ofChange pairPartitionsSpec)

/-- ITS FALSE NEIGHBOUR: 'it returns false'. Refute it at one input. -/
def pairPartitionsWrong : ChangeSpec := { name := "pairPartitions", fn := fun _ => fun
  | [d] => { results := [.lit (.bool false)], args := [d] }
  | _ => none }
def PairPartitionsWrongFalsely : Prop := pairPartitionsRow.holds Try.pinned (OpenSpec.ofChange pairPartitionsWrong)

/-- 'gamplaw07.PairHolds': WHATEVER THE INPUT: true; the input reads as it did. -/
def pairHoldsSpec : ChangeSpec := { name := "pairHolds", fn := fun _ => fun
  | [d1, d2] => { results := [.lit (.bool true)], args := [d1, d2] }
  | _ => none }
def pairHoldsRow : OpenClaim := { program := "ytilabipmgcpnjaa", sum := "04af84975c53b7b2ef6c7c0a246904cf3a4c208e35763b8f5a6d31739a7a5770", func := "gamp/gamplaw07.PairHolds", spec := "pairHolds", unfollowed := true, recurses := true, apart := false }
def PairHoldsSaid : Prop := pairHoldsRow.holds Try.pinned (OpenSpec.ofChange pairHoldsSpec)

/-- ITS FALSE NEIGHBOUR: 'it returns false'. Refute it at one input. -/
def pairHoldsWrong : ChangeSpec := { name := "pairHolds", fn := fun _ => fun
  | [d1, d2] => { results := [.lit (.bool false)], args := [d1, d2] }
  | _ => none }
def PairHoldsWrongFalsely : Prop := pairHoldsRow.holds Try.pinned (OpenSpec.ofChange pairHoldsWrong)

/-- 'gamplaw07.PairBlocks': WHATEVER THE INPUT: true; the input reads as it did. -/
def pairBlocksSpec : ChangeSpec := { name := "pairBlocks", fn := fun _ => fun
  | [d1, d2] => { results := [.lit (.bool true)], args := [d1, d2] }
  | _ => none }
def pairBlocksRow : OpenClaim := { program := "ytilabipmgcpnjaa", sum := "04af84975c53b7b2ef6c7c0a246904cf3a4c208e35763b8f5a6d31739a7a5770", func := "gamp/gamplaw07.PairBlocks", spec := "pairBlocks", unfollowed := true, recurses := true, apart := false }
def PairBlocksSaid : Prop := pairBlocksRow.holds Try.pinned (OpenSpec.ofChange pairBlocksSpec)

/-- ITS FALSE NEIGHBOUR: 'it returns false'. Refute it at one input. -/
def pairBlocksWrong : ChangeSpec := { name := "pairBlocks", fn := fun _ => fun
  | [d1, d2] => { results := [.lit (.bool false)], args := [d1, d2] }
  | _ => none }
def PairBlocksWrongFalsely : Prop := pairBlocksRow.holds Try.pinned (OpenSpec.ofChange pairBlocksWrong)

/-- 'gamplaw07.PairEven': WHATEVER THE INPUT: true; the input reads as it did. -/
def pairEvenSpec : ChangeSpec := { name := "pairEven", fn := fun _ => fun
  | [d1, d2] => { results := [.lit (.bool true)], args := [d1, d2] }
  | _ => none }
def pairEvenRow : OpenClaim := { program := "ytilabipmgcpnjaa", sum := "04af84975c53b7b2ef6c7c0a246904cf3a4c208e35763b8f5a6d31739a7a5770", func := "gamp/gamplaw07.PairEven", spec := "pairEven", unfollowed := true, recurses := true, apart := false }
def PairEvenSaid : Prop := pairEvenRow.holds Try.pinned (OpenSpec.ofChange pairEvenSpec)

/-- ITS FALSE NEIGHBOUR: 'it returns false'. Refute it at one input. -/
def pairEvenWrong : ChangeSpec := { name := "pairEven", fn := fun _ => fun
  | [d1, d2] => { results := [.lit (.bool false)], args := [d1, d2] }
  | _ => none }
def PairEvenWrongFalsely : Prop := pairEvenRow.holds Try.pinned (OpenSpec.ofChange pairEvenWrong)

/- THE SECOND FORM. 'bulk': how many values and letters a reading holds, each counted each time it is reached (what is shared counts as often as it is met; a slice's spare places count too). A statement '..UptoSaid' is the law's where the arguments, and the package variables that the reading takes, are together of bulk at most 1048576: NARROWER than '..Said'. Prove '..Said' where nothing that the law and all that it calls make is longer than what came in: it says more and counts as full. Else prove '..UptoSaid'. A law counts once. -/
mutual
def uptoBulk {H : Type} : DataW H → Nat
  | .lit (.string bytes) => bytes.length + 1
  | .lit _ => 1
  | .nil => 1
  | .ptr d => uptoBulk d + 1
  | .slice elems spare => uptoBulkAll elems + uptoBulkAll spare + 1
  | .agg parts => uptoBulkAll parts + 1
  | .iface _ d => uptoBulk d + 1
  | .map entries => uptoBulkEntries entries + 1
  | .held _ => 1
def uptoBulkAll {H : Type} : List (DataW H) → Nat
  | [] => 0
  | d :: r => uptoBulk d + uptoBulkAll r
def uptoBulkEntries {H : Type} : List (Lit × DataW H) → Nat
  | [] => 0
  | x :: r => uptoBulkEntry x + uptoBulkEntries r
def uptoBulkEntry {H : Type} : Lit × DataW H → Nat
  | (.string bytes, d) => bytes.length + uptoBulk d + 1
  | (_, d) => uptoBulk d + 1
 end
def uptoSmall : (H : Type) → List (DataW H) → Bool := fun _ ds => decide (uptoBulkAll ds ≤ 1048576)
def OpenSpec.upto (s : _root_.Go.ChangeSpec) : _root_.Go.OpenSpec := { _root_.Go.OpenSpec.ofChange s with cond := some uptoSmall }

/-- 'gamplaw07.PairMatches', WHERE WHAT IT READS IS OF BULK AT MOST 1048576: true; the input reads as it did. -/
def pairMatchesUptoRow : OpenClaim := { program := "ytilabipmgcpnjaa", sum := "04af84975c53b7b2ef6c7c0a246904cf3a4c208e35763b8f5a6d31739a7a5770", func := "gamp/gamplaw07.PairMatches", spec := "pairMatches", unfollowed := true, recurses := true, apart := false, narrowed := true }
def PairMatchesUptoSaid : Prop := pairMatchesUptoRow.holds Try.pinned (OpenSpec.upto pairMatchesSpec)

/-- 'gamplaw07.PairTan', WHERE WHAT IT READS IS OF BULK AT MOST 1048576: true; the input reads as it did. -/
def pairTanUptoRow : OpenClaim := { program := "ytilabipmgcpnjaa", sum := "04af84975c53b7b2ef6c7c0a246904cf3a4c208e35763b8f5a6d31739a7a5770", func := "gamp/gamplaw07.PairTan", spec := "pairTan", unfollowed := true, recurses := true, apart := false, narrowed := true }
def PairTanUptoSaid : Prop := pairTanUptoRow.holds Try.pinned (OpenSpec.upto pairTanSpec)

/-- 'gamplaw07.PairAlone', WHERE WHAT IT READS IS OF BULK AT MOST 1048576: true; the input reads as it did. -/
def pairAloneUptoRow : OpenClaim := { program := "ytilabipmgcpnjaa", sum := "04af84975c53b7b2ef6c7c0a246904cf3a4c208e35763b8f5a6d31739a7a5770", func := "gamp/gamplaw07.PairAlone", spec := "pairAlone", unfollowed := true, recurses := true, apart := false, narrowed := true }
def PairAloneUptoSaid : Prop := pairAloneUptoRow.holds Try.pinned (OpenSpec.upto pairAloneSpec)

/-- 'gamplaw07.PairNames', WHERE WHAT IT READS IS OF BULK AT MOST 1048576: true; the input reads as it did. -/
def pairNamesUptoRow : OpenClaim := { program := "ytilabipmgcpnjaa", sum := "04af84975c53b7b2ef6c7c0a246904cf3a4c208e35763b8f5a6d31739a7a5770", func := "gamp/gamplaw07.PairNames", spec := "pairNames", unfollowed := true, recurses := true, apart := false, narrowed := true }
def PairNamesUptoSaid : Prop := pairNamesUptoRow.holds Try.pinned (OpenSpec.upto pairNamesSpec)

/-- 'gamplaw07.PairSides', WHERE WHAT IT READS IS OF BULK AT MOST 1048576: true; the input reads as it did. -/
def pairSidesUptoRow : OpenClaim := { program := "ytilabipmgcpnjaa", sum := "04af84975c53b7b2ef6c7c0a246904cf3a4c208e35763b8f5a6d31739a7a5770", func := "gamp/gamplaw07.PairSides", spec := "pairSides", unfollowed := true, recurses := true, apart := false, narrowed := true }
def PairSidesUptoSaid : Prop := pairSidesUptoRow.holds Try.pinned (OpenSpec.upto pairSidesSpec)

/-- 'gamplaw07.PairPartitions', WHERE WHAT IT READS IS OF BULK AT MOST 1048576: true; the input reads as it did. -/
def pairPartitionsUptoRow : OpenClaim := { program := "ytilabipmgcpnjaa", sum := "04af84975c53b7b2ef6c7c0a246904cf3a4c208e35763b8f5a6d31739a7a5770", func := "gamp/gamplaw07.PairPartitions", spec := "pairPartitions", unfollowed := true, recurses := true, apart := false, narrowed := true }
def PairPartitionsUptoSaid : Prop := pairPartitionsUptoRow.holds Try.pinned (OpenSpec.upto pairPartitionsSpec)

/-- 'gamplaw07.PairHolds', WHERE WHAT IT READS IS OF BULK AT MOST 1048576: true; the input reads as it did. -/
def pairHoldsUptoRow : OpenClaim := { program := "ytilabipmgcpnjaa", sum := "04af84975c53b7b2ef6c7c0a246904cf3a4c208e35763b8f5a6d31739a7a5770", func := "gamp/gamplaw07.PairHolds", spec := "pairHolds", unfollowed := true, recurses := true, apart := false, narrowed := true }
def PairHoldsUptoSaid : Prop := pairHoldsUptoRow.holds Try.pinned (OpenSpec.upto pairHoldsSpec)

/-- 'gamplaw07.PairBlocks', WHERE WHAT IT READS IS OF BULK AT MOST 1048576: true; the input reads as it did. -/
def pairBlocksUptoRow : OpenClaim := { program := "ytilabipmgcpnjaa", sum := "04af84975c53b7b2ef6c7c0a246904cf3a4c208e35763b8f5a6d31739a7a5770", func := "gamp/gamplaw07.PairBlocks", spec := "pairBlocks", unfollowed := true, recurses := true, apart := false, narrowed := true }
def PairBlocksUptoSaid : Prop := pairBlocksUptoRow.holds Try.pinned (OpenSpec.upto pairBlocksSpec)

/-- 'gamplaw07.PairEven', WHERE WHAT IT READS IS OF BULK AT MOST 1048576: true; the input reads as it did. -/
def pairEvenUptoRow : OpenClaim := { program := "ytilabipmgcpnjaa", sum := "04af84975c53b7b2ef6c7c0a246904cf3a4c208e35763b8f5a6d31739a7a5770", func := "gamp/gamplaw07.PairEven", spec := "pairEven", unfollowed := true, recurses := true, apart := false, narrowed := true }
def PairEvenUptoSaid : Prop := pairEvenUptoRow.holds Try.pinned (OpenSpec.upto pairEvenSpec)

end Rows
end Go.Proofs.Ytilabipmgcpnjaa
