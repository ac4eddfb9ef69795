/-
  No cell of these rows narrows 'for every input' (looked for: loops, veiled, ifaces, maps, wideKeys, modest, calm, conditions, laid).
  DERIVED. THE GIVEN ROWS OF THIS SEAT. 12 by the template 'for every input the law returns true; each argument reads behind the call as it read before'; 0 by the template 'total and deterministic' (their statements: YtdpolfflemocaaaTotals.lean).
  GIVEN WITH THE SEED: the statements are not yours to turn. If you find one false, say at which input.
  Laid BY PROGRAM, IN A SANDBOX (cutbox-rows.mjs): the forced cells as the released guide's own fill.sh prints them over the translation 627723080e6ed119… (all of the seat's roots in one cut). By AI agents, Wed Nov 11 2026. No macro, syntax, notation, axiom, sorry.
-/
import Derived.Test.YtdpolfflemocaaaChecked
import GoSem.Claim
import GoSem.ClaimJoined
import GoSem.ClaimMapViews
import Derived.JoinedTies
import Derived.KernelRfl
namespace Go.Proofs.Ytdpolfflemocaaa
/- THE CELL 'sum', in the pinned program and in every row, IS THE sha256 OF THE DUMP (.gsa) THAT YtdpolfflemocaaaProg.lean LOADS. Nothing in Lean hashes anything: it is a label: what it is worth is what the hold of that sum in a sandbox is worth. -/
noncomputable def Try.pinned : Pinned := { name := "ytdpolfflemocaaa", sum := "627723080e6ed119c809d676217593dbc513d53148639cdd8f3bcbb5ab594cb1", checked := Try.checked }
namespace Rows
def none {H : Type} : Left H := { results := [], args := [] }

/-- 'gamplaw04.RibCliques': WHATEVER THE INPUT: true; the input reads as it did. -/
def ribCliquesSpec : ChangeSpec := { name := "ribCliques", fn := fun _ => fun
  | [d] => { results := [.lit (.bool true)], args := [d] }
  | _ => none }
def ribCliquesRow : OpenClaim := { program := "ytdpolfflemocaaa", sum := "627723080e6ed119c809d676217593dbc513d53148639cdd8f3bcbb5ab594cb1", func := "gamp/gamplaw04.RibCliques", spec := "ribCliques", unfollowed := true, recurses := true, plainKeys := false, apart := false }
def RibCliquesSaid : Prop := ribCliquesRow.holds Try.pinned (OpenSpec.ofChange ribCliquesSpec)

/-- ITS FALSE NEIGHBOUR: 'it returns false'. Refute it at one input. -/
def ribCliquesWrong : ChangeSpec := { name := "ribCliques", fn := fun _ => fun
  | [d] => { results := [.lit (.bool false)], args := [d] }
  | _ => none }
def RibCliquesWrongFalsely : Prop := ribCliquesRow.holds Try.pinned (OpenSpec.ofChange ribCliquesWrong)

/-- 'gamplaw04.RibIsTrees': WHATEVER THE INPUT: true; the input reads as it did. -/
def ribIsTreesSpec : ChangeSpec := { name := "ribIsTrees", fn := fun _ => fun
  | [d1, d2] => { results := [.lit (.bool true)], args := [d1, d2] }
  | _ => none }
def ribIsTreesRow : OpenClaim := { program := "ytdpolfflemocaaa", sum := "627723080e6ed119c809d676217593dbc513d53148639cdd8f3bcbb5ab594cb1", func := "gamp/gamplaw04.RibIsTrees", spec := "ribIsTrees", unfollowed := true, recurses := true, plainKeys := false, apart := false }
def RibIsTreesSaid : Prop := ribIsTreesRow.holds Try.pinned (OpenSpec.ofChange ribIsTreesSpec)

/-- ITS FALSE NEIGHBOUR: 'it returns false'. Refute it at one input. -/
def ribIsTreesWrong : ChangeSpec := { name := "ribIsTrees", fn := fun _ => fun
  | [d1, d2] => { results := [.lit (.bool false)], args := [d1, d2] }
  | _ => none }
def RibIsTreesWrongFalsely : Prop := ribIsTreesRow.holds Try.pinned (OpenSpec.ofChange ribIsTreesWrong)

/-- 'gamplaw04.RibOrders': WHATEVER THE INPUT: true; the input reads as it did. -/
def ribOrdersSpec : ChangeSpec := { name := "ribOrders", fn := fun _ => fun
  | [d] => { results := [.lit (.bool true)], args := [d] }
  | _ => none }
def ribOrdersRow : OpenClaim := { program := "ytdpolfflemocaaa", sum := "627723080e6ed119c809d676217593dbc513d53148639cdd8f3bcbb5ab594cb1", func := "gamp/gamplaw04.RibOrders", spec := "ribOrders", unfollowed := true, recurses := true, plainKeys := false, apart := false }
def RibOrdersSaid : Prop := ribOrdersRow.holds Try.pinned (OpenSpec.ofChange ribOrdersSpec)

/-- ITS FALSE NEIGHBOUR: 'it returns false'. Refute it at one input. -/
def ribOrdersWrong : ChangeSpec := { name := "ribOrders", fn := fun _ => fun
  | [d] => { results := [.lit (.bool false)], args := [d] }
  | _ => none }
def RibOrdersWrongFalsely : Prop := ribOrdersRow.holds Try.pinned (OpenSpec.ofChange ribOrdersWrong)

/-- 'gamplaw04.RibEliminates': WHATEVER THE INPUT: true; the input reads as it did. -/
def ribEliminatesSpec : ChangeSpec := { name := "ribEliminates", fn := fun _ => fun
  | [d1, d2, d3] => { results := [.lit (.bool true)], args := [d1, d2, d3] }
  | _ => none }
def ribEliminatesRow : OpenClaim := { program := "ytdpolfflemocaaa", sum := "627723080e6ed119c809d676217593dbc513d53148639cdd8f3bcbb5ab594cb1", func := "gamp/gamplaw04.RibEliminates", spec := "ribEliminates", unfollowed := true, recurses := true, plainKeys := false, apart := false }
def RibEliminatesSaid : Prop := ribEliminatesRow.holds Try.pinned (OpenSpec.ofChange ribEliminatesSpec)

/-- ITS FALSE NEIGHBOUR: 'it returns false'. Refute it at one input. -/
def ribEliminatesWrong : ChangeSpec := { name := "ribEliminates", fn := fun _ => fun
  | [d1, d2, d3] => { results := [.lit (.bool false)], args := [d1, d2, d3] }
  | _ => none }
def RibEliminatesWrongFalsely : Prop := ribEliminatesRow.holds Try.pinned (OpenSpec.ofChange ribEliminatesWrong)

/-- 'gamplaw04.RibColors': WHATEVER THE INPUT: true; the input reads as it did. -/
def ribColorsSpec : ChangeSpec := { name := "ribColors", fn := fun _ => fun
  | [d] => { results := [.lit (.bool true)], args := [d] }
  | _ => none }
def ribColorsRow : OpenClaim := { program := "ytdpolfflemocaaa", sum := "627723080e6ed119c809d676217593dbc513d53148639cdd8f3bcbb5ab594cb1", func := "gamp/gamplaw04.RibColors", spec := "ribColors", unfollowed := true, recurses := true, plainKeys := false, apart := false }
def RibColorsSaid : Prop := ribColorsRow.holds Try.pinned (OpenSpec.ofChange ribColorsSpec)

/-- ITS FALSE NEIGHBOUR: 'it returns false'. Refute it at one input. -/
def ribColorsWrong : ChangeSpec := { name := "ribColors", fn := fun _ => fun
  | [d] => { results := [.lit (.bool false)], args := [d] }
  | _ => none }
def RibColorsWrongFalsely : Prop := ribColorsRow.holds Try.pinned (OpenSpec.ofChange ribColorsWrong)

/-- 'gamplaw04.RibParts': WHATEVER THE INPUT: true; the input reads as it did. -/
def ribPartsSpec : ChangeSpec := { name := "ribParts", fn := fun _ => fun
  | [d1, d2, d3] => { results := [.lit (.bool true)], args := [d1, d2, d3] }
  | _ => none }
def ribPartsRow : OpenClaim := { program := "ytdpolfflemocaaa", sum := "627723080e6ed119c809d676217593dbc513d53148639cdd8f3bcbb5ab594cb1", func := "gamp/gamplaw04.RibParts", spec := "ribParts", unfollowed := true, recurses := true, plainKeys := false, apart := false }
def RibPartsSaid : Prop := ribPartsRow.holds Try.pinned (OpenSpec.ofChange ribPartsSpec)

/-- ITS FALSE NEIGHBOUR: 'it returns false'. Refute it at one input. -/
def ribPartsWrong : ChangeSpec := { name := "ribParts", fn := fun _ => fun
  | [d1, d2, d3] => { results := [.lit (.bool false)], args := [d1, d2, d3] }
  | _ => none }
def RibPartsWrongFalsely : Prop := ribPartsRow.holds Try.pinned (OpenSpec.ofChange ribPartsWrong)

/-- 'gamplaw04.RibMatches': WHATEVER THE INPUT: true; the input reads as it did. -/
def ribMatchesSpec : ChangeSpec := { name := "ribMatches", fn := fun _ => fun
  | [d1, d2] => { results := [.lit (.bool true)], args := [d1, d2] }
  | _ => none }
def ribMatchesRow : OpenClaim := { program := "ytdpolfflemocaaa", sum := "627723080e6ed119c809d676217593dbc513d53148639cdd8f3bcbb5ab594cb1", func := "gamp/gamplaw04.RibMatches", spec := "ribMatches", unfollowed := true, recurses := true, plainKeys := false, apart := false }
def RibMatchesSaid : Prop := ribMatchesRow.holds Try.pinned (OpenSpec.ofChange ribMatchesSpec)

/-- ITS FALSE NEIGHBOUR: 'it returns false'. Refute it at one input. -/
def ribMatchesWrong : ChangeSpec := { name := "ribMatches", fn := fun _ => fun
  | [d1, d2] => { results := [.lit (.bool false)], args := [d1, d2] }
  | _ => none }
def RibMatchesWrongFalsely : Prop := ribMatchesRow.holds Try.pinned (OpenSpec.ofChange ribMatchesWrong)

/-- 'gamplaw04.RibSpans': WHATEVER THE INPUT: true; the input reads as it did. -/
def ribSpansSpec : ChangeSpec := { name := "ribSpans", fn := fun _ => fun
  | [d] => { results := [.lit (.bool true)], args := [d] }
  | _ => none }
def ribSpansRow : OpenClaim := { program := "ytdpolfflemocaaa", sum := "627723080e6ed119c809d676217593dbc513d53148639cdd8f3bcbb5ab594cb1", func := "gamp/gamplaw04.RibSpans", spec := "ribSpans", unfollowed := true, recurses := true, plainKeys := false, apart := false }
def RibSpansSaid : Prop := ribSpansRow.holds Try.pinned (OpenSpec.ofChange ribSpansSpec)

/-- ITS FALSE NEIGHBOUR: 'it returns false'. Refute it at one input. -/
def ribSpansWrong : ChangeSpec := { name := "ribSpans", fn := fun _ => fun
  | [d] => { results := [.lit (.bool false)], args := [d] }
  | _ => none }
def RibSpansWrongFalsely : Prop := ribSpansRow.holds Try.pinned (OpenSpec.ofChange ribSpansWrong)

/-- 'gamplaw04.RibNamed': WHATEVER THE INPUT: true; the input reads as it did. -/
def ribNamedSpec : ChangeSpec := { name := "ribNamed", fn := fun _ => fun
  | [d1, d2, d3] => { results := [.lit (.bool true)], args := [d1, d2, d3] }
  | _ => none }
def ribNamedRow : OpenClaim := { program := "ytdpolfflemocaaa", sum := "627723080e6ed119c809d676217593dbc513d53148639cdd8f3bcbb5ab594cb1", func := "gamp/gamplaw04.RibNamed", spec := "ribNamed", unfollowed := true, recurses := true, plainKeys := false, apart := false }
def RibNamedSaid : Prop := ribNamedRow.holds Try.pinned (OpenSpec.ofChange ribNamedSpec)

/-- ITS FALSE NEIGHBOUR: 'it returns false'. Refute it at one input. -/
def ribNamedWrong : ChangeSpec := { name := "ribNamed", fn := fun _ => fun
  | [d1, d2, d3] => { results := [.lit (.bool false)], args := [d1, d2, d3] }
  | _ => none }
def RibNamedWrongFalsely : Prop := ribNamedRow.holds Try.pinned (OpenSpec.ofChange ribNamedWrong)

/-- 'gamplaw04.RibTrees': WHATEVER THE INPUT: true; the input reads as it did. -/
def ribTreesSpec : ChangeSpec := { name := "ribTrees", fn := fun _ => fun
  | [d] => { results := [.lit (.bool true)], args := [d] }
  | _ => none }
def ribTreesRow : OpenClaim := { program := "ytdpolfflemocaaa", sum := "627723080e6ed119c809d676217593dbc513d53148639cdd8f3bcbb5ab594cb1", func := "gamp/gamplaw04.RibTrees", spec := "ribTrees", unfollowed := true, recurses := true, plainKeys := false, apart := false }
def RibTreesSaid : Prop := ribTreesRow.holds Try.pinned (OpenSpec.ofChange ribTreesSpec)

/-- ITS FALSE NEIGHBOUR: 'it returns false'. Refute it at one input. -/
def ribTreesWrong : ChangeSpec := { name := "ribTrees", fn := fun _ => fun
  | [d] => { results := [.lit (.bool false)], args := [d] }
  | _ => none }
def RibTreesWrongFalsely : Prop := ribTreesRow.holds Try.pinned (OpenSpec.ofChange ribTreesWrong)

/-- 'gamplaw04.RibOverlaps': WHATEVER THE INPUT: true; the input reads as it did. -/
def ribOverlapsSpec : ChangeSpec := { name := "ribOverlaps", fn := fun _ => fun
  | [d] => { results := [.lit (.bool true)], args := [d] }
  | _ => none }
def ribOverlapsRow : OpenClaim := { program := "ytdpolfflemocaaa", sum := "627723080e6ed119c809d676217593dbc513d53148639cdd8f3bcbb5ab594cb1", func := "gamp/gamplaw04.RibOverlaps", spec := "ribOverlaps", unfollowed := true, recurses := true, plainKeys := false, apart := false }
def RibOverlapsSaid : Prop := ribOverlapsRow.holds Try.pinned (OpenSpec.ofChange ribOverlapsSpec)

/-- ITS FALSE NEIGHBOUR: 'it returns false'. Refute it at one input. -/
def ribOverlapsWrong : ChangeSpec := { name := "ribOverlaps", fn := fun _ => fun
  | [d] => { results := [.lit (.bool false)], args := [d] }
  | _ => none }
def RibOverlapsWrongFalsely : Prop := ribOverlapsRow.holds Try.pinned (OpenSpec.ofChange ribOverlapsWrong)

/-- 'gamplaw04.RibBranches': WHATEVER THE INPUT: true; the input reads as it did. -/
def ribBranchesSpec : ChangeSpec := { name := "ribBranches", fn := fun _ => fun
  | [d1, d2] => { results := [.lit (.bool true)], args := [d1, d2] }
  | _ => none }
def ribBranchesRow : OpenClaim := { program := "ytdpolfflemocaaa", sum := "627723080e6ed119c809d676217593dbc513d53148639cdd8f3bcbb5ab594cb1", func := "gamp/gamplaw04.RibBranches", spec := "ribBranches", unfollowed := true, recurses := true, plainKeys := false, apart := false }
def RibBranchesSaid : Prop := ribBranchesRow.holds Try.pinned (OpenSpec.ofChange ribBranchesSpec)

/-- ITS FALSE NEIGHBOUR: 'it returns false'. Refute it at one input. -/
def ribBranchesWrong : ChangeSpec := { name := "ribBranches", fn := fun _ => fun
  | [d1, d2] => { results := [.lit (.bool false)], args := [d1, d2] }
  | _ => none }
def RibBranchesWrongFalsely : Prop := ribBranchesRow.holds Try.pinned (OpenSpec.ofChange ribBranchesWrong)

/- THE SECOND FORM. 'bulk': how many values and letters a reading holds, each counted each time it is reached (what is shared counts as often as it is met; a slice's spare places count too). A statement '..UptoSaid' is the law's where the arguments, and the package variables that the reading takes, are together of bulk at most 1048576: NARROWER than '..Said'. Prove '..Said' where nothing that the law and all that it calls make is longer than what came in: it says more and counts as full. Else prove '..UptoSaid'. A law counts once. -/
mutual
def uptoBulk {H : Type} : DataW H → Nat
  | .lit (.string bytes) => bytes.length + 1
  | .lit _ => 1
  | .nil => 1
  | .ptr d => uptoBulk d + 1
  | .slice elems spare => uptoBulkAll elems + uptoBulkAll spare + 1
  | .agg parts => uptoBulkAll parts + 1
  | .iface _ d => uptoBulk d + 1
  | .map entries => uptoBulkEntries entries + 1
  | .held _ => 1
def uptoBulkAll {H : Type} : List (DataW H) → Nat
  | [] => 0
  | d :: r => uptoBulk d + uptoBulkAll r
def uptoBulkEntries {H : Type} : List (Lit × DataW H) → Nat
  | [] => 0
  | x :: r => uptoBulkEntry x + uptoBulkEntries r
def uptoBulkEntry {H : Type} : Lit × DataW H → Nat
  | (.string bytes, d) => bytes.length + uptoBulk d + 1
  | (_, d) => uptoBulk d + 1
 end
def uptoSmall : (H : Type) → List (DataW H) → Bool := fun _ ds => decide (uptoBulkAll ds ≤ 1048576)
def OpenSpec.upto (s : _root_.Go.ChangeSpec) : _root_.Go.OpenSpec := { _root_.Go.OpenSpec.ofChange s with cond := some uptoSmall }

/-- 'gamplaw04.RibCliques', WHERE WHAT IT READS IS OF BULK AT MOST 1048576: true; the input reads as it did. -/
def ribCliquesUptoRow : OpenClaim := { program := "ytdpolfflemocaaa", sum := "627723080e6ed119c809d676217593dbc513d53148639cdd8f3bcbb5ab594cb1", func := "gamp/gamplaw04.RibCliques", spec := "ribCliques", unfollowed := true, recurses := true, plainKeys := false, apart := false, narrowed := true }
def RibCliquesUptoSaid : Prop := ribCliquesUptoRow.holds Try.pinned (OpenSpec.upto ribCliquesSpec)

/-- 'gamplaw04.RibIsTrees', WHERE WHAT IT READS IS OF BULK AT MOST 1048576: true; the input reads as it did. -/
def ribIsTreesUptoRow : OpenClaim := { program := "ytdpolfflemocaaa", sum := "627723080e6ed119c809d676217593dbc513d53148639cdd8f3bcbb5ab594cb1", func := "gamp/gamplaw04.RibIsTrees", spec := "ribIsTrees", unfollowed := true, recurses := true, plainKeys := false, apart := false, narrowed := true }
def RibIsTreesUptoSaid : Prop := ribIsTreesUptoRow.holds Try.pinned (OpenSpec.upto ribIsTreesSpec)

/-- 'gamplaw04.RibOrders', WHERE WHAT IT READS IS OF BULK AT MOST 1048576: true; the input reads as it did. -/
def ribOrdersUptoRow : OpenClaim := { program := "ytdpolfflemocaaa", sum := "627723080e6ed119c809d676217593dbc513d53148639cdd8f3bcbb5ab594cb1", func := "gamp/gamplaw04.RibOrders", spec := "ribOrders", unfollowed := true, recurses := true, plainKeys := false, apart := false, narrowed := true }
def RibOrdersUptoSaid : Prop := ribOrdersUptoRow.holds Try.pinned (OpenSpec.upto ribOrdersSpec)

/-- 'gamplaw04.RibEliminates', WHERE WHAT IT READS IS OF BULK AT MOST 1048576: true; the input reads as it did. -/
def ribEliminatesUptoRow : OpenClaim := { program := "ytdpolfflemocaaa", sum := "627723080e6ed119c809d676217593dbc513d53148639cdd8f3bcbb5ab594cb1", func := "gamp/gamplaw04.RibEliminates", spec := "ribEliminates", unfollowed := true, recurses := true, plainKeys := false, apart := false, narrowed := true }
def RibEliminatesUptoSaid : Prop := ribEliminatesUptoRow.holds Try.pinned (OpenSpec.upto ribEliminatesSpec)

/-- 'gamplaw04.RibColors', WHERE WHAT IT READS IS OF BULK AT MOST 1048576: true; the input reads as it did. -/
def ribColorsUptoRow : OpenClaim := { program := "ytdpolfflemocaaa", sum := "627723080e6ed119c809d676217593dbc513d53148639cdd8f3bcbb5ab594cb1", func := "gamp/gamplaw04.RibColors", spec := "ribColors", unfollowed := true, recurses := true, plainKeys := false, apart := false, narrowed := true }
def RibColorsUptoSaid : Prop := ribColorsUptoRow.holds Try.pinned (OpenSpec.upto ribColorsSpec)

/-- 'gamplaw04.RibParts', WHERE WHAT IT READS IS OF BULK AT MOST 1048576: true; the input reads as it did. -/
def ribPartsUptoRow : OpenClaim := { program := "ytdpolfflemocaaa", sum := "627723080e6ed119c809d676217593dbc513d53148639cdd8f3bcbb5ab594cb1", func := "gamp/gamplaw04.RibParts", spec := "ribParts", unfollowed := true, recurses := true, plainKeys := false, apart := false, narrowed := true }
def RibPartsUptoSaid : Prop := ribPartsUptoRow.holds Try.pinned (OpenSpec.upto ribPartsSpec)

/-- 'gamplaw04.RibMatches', WHERE WHAT IT READS IS OF BULK AT MOST 1048576: true; the input reads as it did. -/
def ribMatchesUptoRow : OpenClaim := { program := "ytdpolfflemocaaa", sum := "627723080e6ed119c809d676217593dbc513d53148639cdd8f3bcbb5ab594cb1", func := "gamp/gamplaw04.RibMatches", spec := "ribMatches", unfollowed := true, recurses := true, plainKeys := false, apart := false, narrowed := true }
def RibMatchesUptoSaid : Prop := ribMatchesUptoRow.holds Try.pinned (OpenSpec.upto ribMatchesSpec)

/-- 'gamplaw04.RibSpans', WHERE WHAT IT READS IS OF BULK AT MOST 1048576: true; the input reads as it did. -/
def ribSpansUptoRow : OpenClaim := { program := "ytdpolfflemocaaa", sum := "627723080e6ed119c809d676217593dbc513d53148639cdd8f3bcbb5ab594cb1", func := "gamp/gamplaw04.RibSpans", spec := "ribSpans", unfollowed := true, recurses := true, plainKeys := false, apart := false, narrowed := true }
def RibSpansUptoSaid : Prop := ribSpansUptoRow.holds Try.pinned (OpenSpec.upto ribSpansSpec)

/-- 'gamplaw04.RibNamed', WHERE WHAT IT READS IS OF BULK AT MOST 1048576: true; the input reads as it did. -/
def ribNamedUptoRow : OpenClaim := { program := "ytdpolfflemocaaa", sum := "627723080e6ed119c809d676217593dbc513d53148639cdd8f3bcbb5ab594cb1", func := "gamp/gamplaw04.RibNamed", spec := "ribNamed", unfollowed := true, recurses := true, plainKeys := false, apart := false, narrowed := true }
def RibNamedUptoSaid : Prop := ribNamedUptoRow.holds Try.pinned (OpenSpec.upto ribNamedSpec)

/-- 'gamplaw04.RibTrees', WHERE WHAT IT READS IS OF BULK AT MOST 1048576: true; the input reads as it did. -/
def ribTreesUptoRow : OpenClaim := { program := "ytdpolfflemocaaa", sum := "627723080e6ed119c809d676217593dbc513d53148639cdd8f3bcbb5ab594cb1", func := "gamp/gamplaw04.RibTrees", spec := "ribTrees", unfollowed := true, recurses := true, plainKeys := false, apart := false, narrowed := true }
def RibTreesUptoSaid : Prop := ribTreesUptoRow.holds Try.pinned (OpenSpec.upto ribTreesSpec)

/-- 'gamplaw04.RibOverlaps', WHERE WHAT IT READS IS OF BULK AT MOST 1048576: true; the input reads as it did. -/
def ribOverlapsUptoRow : OpenClaim := { program := "ytdpolfflemocaaa", sum := "627723080e6ed119c809d676217593dbc513d53148639cdd8f3bcbb5ab594cb1", func := "gamp/gamplaw04.RibOverlaps", spec := "ribOverlaps", unfollowed := true, recurses := true, plainKeys := false, apart := false, narrowed := true }
def RibOverlapsUptoSaid : Prop := ribOverlapsUptoRow.holds Try.pinned (OpenSpec.upto ribOverlapsSpec)

/-- 'gamplaw04.RibBranches', WHERE WHAT IT READS IS OF BULK AT MOST 1048576: true; the input reads as it did. -/
def ribBranchesUptoRow : OpenClaim := { program := "ytdpolfflemocaaa", sum := "627723080e6ed119c809d676217593dbc513d53148639cdd8f3bcbb5ab594cb1", func := "gamp/gamplaw04.RibBranches", spec := "ribBranches", unfollowed := true, recurses := true, plainKeys := false, apart := false, narrowed := true }
def RibBranchesUptoSaid : Prop := ribBranchesUptoRow.holds Try.pinned (OpenSpec.upto ribBranchesSpec)

end Rows
end Go.Proofs.Ytdpolfflemocaaa
