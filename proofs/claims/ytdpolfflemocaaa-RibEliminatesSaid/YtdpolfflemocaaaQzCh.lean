/- The declarations of Ch that the claim Qz needs. -/
import Derived.Test.YtdpolfflemocaaaQzPe
import Derived.Test.YtdpolfflemocaaaQzTkP
import Derived.Test.YtdpolfflemocaaaQzRxx0
import Derived.Test.YtdpolfflemocaaaQzRxx5
import Derived.Test.YtdpolfflemocaaaQzRxx6
import Derived.Test.YtdpolfflemocaaaQzTr
namespace Go.Proofs.Ytdpolfflemocaaa.Pure
open Go Go.RowKit Go.Proofs.YtdpolfflemocaaaW.PrintWords Go.Proofs.YtdpolfflemocaaaW.PrintLast Go.Proofs.YtdpolfflemocaaaW.PrintMore Go.Proofs.Ytdpolfflemocaaa.Cl Go.Proofs.Ytdpolfflemocaaa.Own Go.Proofs.Ytdpolfflemocaaa.Rx
set_option linter.unusedVariables false
set_option linter.unusedSimpArgs false
open Classical
/-- The neighbours of v among some nodes are a clique. -/
def Simp (es : List S52) (left : List Nat) (v : Nat) : Prop := ∀ a b, a ∈ left → b ∈ left → adjE es v a = true → adjE es v b = true → a ≠ b → adjE es a b = true
noncomputable def elim (es : List S52) : Nat → List Nat → Option (List Nat)
 | 0, _ => some []
 | k + 1, left => match left.find? (fun v => decide (Simp es left v)) with
  | none => if left = [] then some [] else none
  | some v => (elim es k (left.erase v)).map (v :: ·)
end Go.Proofs.Ytdpolfflemocaaa.Pure
