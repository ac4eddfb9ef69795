/- The declarations of Rmp that the claim Qc needs. -/
import Derived.Test.YtdpolfflemocaaaQcT1
import Derived.Maps.OwnSet
import Derived.Maps.OwnOps
import Derived.Maps.Keyed
import Derived.Maps.Views
namespace Go.Proofs.Ytdpolfflemocaaa.Own
open Go Go.RowKit Go.Proofs.Ytdpolfflemocaaa.Own Go.Proofs.YtdpolfflemocaaaW.PrintWords Go.Proofs.YtdpolfflemocaaaW.PrintLast Go.Proofs.YtdpolfflemocaaaW.PrintMore
open Go.Maps (Keyed int_keyed keyOf_int_mk)
set_option maxRecDepth 20000
set_option linter.unusedVariables false
set_option linter.unusedSimpArgs false
abbrev MapT := List (Int × Int)
def mlook : MapT → Int → Option Int
  | [], _ => none
  | p :: m, k => if p.1 = k then some p.2 else mlook m k
def isI64 (x : Int) : Bool := decide (-9223372036854775808 ≤ x) && decide (x ≤ 9223372036854775807)
def MapIs (w : World) (B : Nat) (m : MapT) : Prop :=
  ∃ (D : DataW Unit) (n : Nat), w.ownsMap Try.prog 3 (plainElem Try.prog 3) B n D ∧ n ≤ m.length ∧ ∀ k, isI64 k = true → (∀ z, D.atKey (.int .i64 k) z = match mlook m k with | some v => .lit (.int .i64 v) | none => z) ∧ Maps.has D (.int .i64 k) = (mlook m k).isSome
theorem MapIs.kept {w w' : World} {B : Nat} {m : MapT} {row : Option Nat} (h : MapIs w B m) (hg : w.grownBy w' row) (hne : some B ≠ row) : MapIs w' B m := by
  obtain ⟨D, n, h1, h2⟩ := h; exact ⟨D, n, h1.kept hg hne, h2⟩
theorem MapIs.alloc {w : World} {B : Nat} {m : MapT} (h : MapIs w B m) (o : Obj) : MapIs (w.alloc o) B m := by
  obtain ⟨D, n, h1, h2⟩ := h; exact ⟨D, n, h1.alloc o, h2⟩
theorem MapIs.drew {w : World} {B : Nat} {m : MapT} (h : MapIs w B m) : MapIs w.drew B m := h
theorem MapIs.drewN {w : World} {B : Nat} {m : MapT} (h : MapIs w B m) (n : Nat) : MapIs (w.drewN n) B m := h
theorem MapIs.lt {w : World} {B : Nat} {m : MapT} (h : MapIs w B m) : B < w.heap.size := by
  obtain ⟨D, n, h1, h2⟩ := h; exact h1.lt
theorem MapIs.below {w w' : World} {B : Nat} {m : MapT} (h : MapIs w B m) (hb : Below w.heap.size w w') : MapIs w' B m := by
 have hlt := h.lt
 obtain ⟨D, n, ⟨es, clock, e, h1⟩, h2⟩ := h
 exact ⟨D, n, ⟨es, clock, by rw [hb.block B hlt]; exact e, h1⟩, h2⟩
theorem MapIs.made (w : World) : MapIs (w.alloc (.map #[] 0)) w.heap.size [] :=
  ⟨_, 0, World.ownsMap_made _ _ _ _, Nat.le_refl _, fun k _ => ⟨fun z => rfl, rfl⟩⟩
section
variable (w : World) {ops : Array Oper} {rest : List Oper} {o : Oper} {a : Act} {Q : Exit → Act → World → Prop}
end
end Go.Proofs.Ytdpolfflemocaaa.Own
