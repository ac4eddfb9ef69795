/- The declarations of Rmp that the claim Qw needs. -/
import Derived.Test.YtdpolfflemocaaaQwT1
import Derived.Maps.OwnSet
import Derived.Maps.OwnOps
import Derived.Maps.Keyed
import Derived.Maps.Views
namespace Go.Proofs.Ytdpolfflemocaaa.Own
open Go Go.RowKit Go.Proofs.Ytdpolfflemocaaa.Own Go.Proofs.YtdpolfflemocaaaW.PrintWords Go.Proofs.YtdpolfflemocaaaW.PrintLast Go.Proofs.YtdpolfflemocaaaW.PrintMore
open Go.Maps (Keyed int_keyed keyOf_int_mk)
set_option maxRecDepth 20000
set_option linter.unusedVariables false
set_option linter.unusedSimpArgs false
abbrev MapT := List (Int × Int)
def mlook : MapT → Int → Option Int
  | [], _ => none
  | p :: m, k => if p.1 = k then some p.2 else mlook m k
def isI64 (x : Int) : Bool := decide (-9223372036854775808 ≤ x) && decide (x ≤ 9223372036854775807)
def map_put.f (m : MapT) (k v : Int) : Option MapT := if m.length < 1000 ∧ mlook m k = none ∧ isI64 k = true ∧ isI64 v = true then some ((k, v) :: m) else none
def map_get.f (m : MapT) (k : Int) : Option Int := if isI64 k = true then mlook m k else none
def map_has.f (m : MapT) (k : Int) : Option (Int × Bool) := if isI64 k = true then some ((mlook m k).getD 0, (mlook m k).isSome) else none
theorem wf64 {x : Int} (h : isI64 x = true) : (Lit.int .i64 x).wf = true := by
 unfold isI64 at h
 simp only [Bool.and_eq_true, decide_eq_true_eq] at h
 simp [Lit.wf, IntKind.min, IntKind.max, IntKind.bits, IntKind.signed]; omega
def MapIs (w : World) (B : Nat) (m : MapT) : Prop :=
  ∃ (D : DataW Unit) (n : Nat), w.ownsMap Try.prog 3 (plainElem Try.prog 3) B n D ∧ n ≤ m.length ∧ ∀ k, isI64 k = true → (∀ z, D.atKey (.int .i64 k) z = match mlook m k with | some v => .lit (.int .i64 v) | none => z) ∧ Maps.has D (.int .i64 k) = (mlook m k).isSome
theorem MapIs.kept {w w' : World} {B : Nat} {m : MapT} {row : Option Nat} (h : MapIs w B m) (hg : w.grownBy w' row) (hne : some B ≠ row) : MapIs w' B m := by
  obtain ⟨D, n, h1, h2⟩ := h; exact ⟨D, n, h1.kept hg hne, h2⟩
theorem MapIs.alloc {w : World} {B : Nat} {m : MapT} (h : MapIs w B m) (o : Obj) : MapIs (w.alloc o) B m := by
  obtain ⟨D, n, h1, h2⟩ := h; exact ⟨D, n, h1.alloc o, h2⟩
theorem MapIs.drew {w : World} {B : Nat} {m : MapT} (h : MapIs w B m) : MapIs w.drew B m := h
theorem MapIs.drewN {w : World} {B : Nat} {m : MapT} (h : MapIs w B m) (n : Nat) : MapIs (w.drewN n) B m := h
theorem MapIs.lt {w : World} {B : Nat} {m : MapT} (h : MapIs w B m) : B < w.heap.size := by
  obtain ⟨D, n, h1, h2⟩ := h; exact h1.lt
theorem MapIs.below {w w' : World} {B : Nat} {m : MapT} (h : MapIs w B m) (hb : Below w.heap.size w w') : MapIs w' B m := by
 have hlt := h.lt
 obtain ⟨D, n, ⟨es, clock, e, h1⟩, h2⟩ := h
 exact ⟨D, n, ⟨es, clock, by rw [hb.block B hlt]; exact e, h1⟩, h2⟩
theorem MapIs.made (w : World) : MapIs (w.alloc (.map #[] 0)) w.heap.size [] :=
  ⟨_, 0, World.ownsMap_made _ _ _ _, Nat.le_refl _, fun k _ => ⟨fun z => rfl, rfl⟩⟩
theorem MapIs.ne_R {w : World} {B : Nat} {m : MapT} (H : MapIs w B m) {k : IntKind} {e base : Nat} {ok : Nat → Prop} {v : Value} {xs : List Int} (h : Kd.R (Kd.int k) e w base ok v xs) : some B ≠ v.ownBlock := by
 intro hh
 obtain ⟨_, _, _, q, _, cells, hc⟩ := (Kd.R_bound h).1 B hh.symm
 obtain ⟨D, n, ⟨es, clock, e2, _⟩, _⟩ := H
 rw [hc] at e2; cases e2
theorem MapIs.ne_Q {w : World} {B : Nat} {m : MapT} (H : MapIs w B m) {k : IntKind} {e base : Nat} {ok : Nat → Prop} {v : Value} {xs : List Int} (h : Kd.Q (Kd.int k) e w base ok v xs) : some B ≠ v.ownBlock := by
 intro hh
 obtain ⟨_, _, _, q, _, cells, hc⟩ := (Kd.Q_bound h).1 B hh.symm
 obtain ⟨D, n, ⟨es, clock, e2, _⟩, _⟩ := H
 rw [hc] at e2; cases e2
theorem MapIs.kept_R {w w1 : World} {B : Nat} {m : MapT} {k : IntKind} {e base : Nat} {ok : Nat → Prop} {v : Value} {xs : List Int} (hg : w.grownBy w1 v.ownBlock) (H : MapIs w B m) (h : Kd.R (Kd.int k) e w base ok v xs) : MapIs w1 B m := H.kept hg (H.ne_R h)
theorem MapIs.kept_Q {w w1 : World} {B : Nat} {m : MapT} {k : IntKind} {e base : Nat} {ok : Nat → Prop} {v : Value} {xs : List Int} (hg : w.grownBy w1 v.ownBlock) (H : MapIs w B m) (h : Kd.Q (Kd.int k) e w base ok v xs) : MapIs w1 B m := H.kept hg (H.ne_Q h)
theorem R_map {W w1 : World} {B : Nat} {m : MapT} (H : MapIs W B m) {k : IntKind} {e base : Nat} {ok : Nat → Prop} {v : Value} {xs : List Int} (h : Kd.R (Kd.int k) e W base ok v xs) (hg : W.grownBy w1 (some B)) : Kd.R (Kd.int k) e w1 base ok v xs := Kd.R_grown1 h rfl hg (H.ne_R h)
theorem Q_map {W w1 : World} {B : Nat} {m : MapT} (H : MapIs W B m) {k : IntKind} {e base : Nat} {ok : Nat → Prop} {v : Value} {xs : List Int} (h : Kd.Q (Kd.int k) e W base ok v xs) (hg : W.grownBy w1 (some B)) : Kd.Q (Kd.int k) e w1 base ok v xs := Kd.Q_grown1 h rfl hg (H.ne_Q h)
theorem below_map {w W w1 : World} {base B : Nat} (h : Below base w W) (hg : W.grownBy w1 (some B)) (hb : base ≤ B) (hs : B < W.heap.size) : Below base w w1 :=
  h.trans ⟨hg.os, hg.tape, hg.output, hg.size, fun k hk => hg.block k (by omega) (by intro e; injection e; omega)⟩
theorem law3 : Keyed Try.prog 3 := int_keyed Try.underlying3
theorem zero3 (w : World) : (zeroValue 3).run Try.prog w = .ok (.int .i64 0) w := by kernel_rfl
section
variable (w : World) {ops : Array Oper} {rest : List Oper} {o : Oper} {a : Act} {Q : Exit → Act → World → Prop}
theorem lay_get (hg : o.guard = none) (m x : Operand) (hop : o.op = Op.lookup 136 m x false) (B : Nat) (M : MapT) (k v : Int) (H : MapIs w B M) (h : map_get.f M k = some v) (hm : a.eval m = .map (some B)) (hx : a.eval x = .int .i64 k)
  (hK : wpList Try.prog ops Q rest (a.put o.dst (.int .i64 v)) w) : wpList Try.prog ops Q (o :: rest) a w := by
 obtain ⟨D, n, hown, _, hl⟩ := H
 unfold map_get.f at h
 split at h
 ·rename_i hk
  refine wpList_lookup_own_int w hg m x 136 hop 3 3 .i64 law3 Try.underlying136 Try.underlying3 (zero3 _) B n D hm hown _ _ hx (keyOf_int_mk Try.underlying3 (wf64 hk)) fun c hat _ => ?_
  have e := (hl k hk).1 (.lit (.int .i64 0))
  rw [h, hat] at e
  injection e with e
  injection e with _ e
  subst e
  exact hK
 ·cases h
theorem lay_has (hg : o.guard = none) (m x : Operand) (hop : o.op = Op.lookup 136 m x true) (B : Nat) (M : MapT) (k v : Int) (b : Bool) (H : MapIs w B M) (h : map_has.f M k = some (v, b)) (hm : a.eval m = .map (some B)) (hx : a.eval x = .int .i64 k)
  (hK : wpList Try.prog ops Q rest (a.put o.dst (.tuple #[.int .i64 v, .bool b])) w) : wpList Try.prog ops Q (o :: rest) a w := by
 obtain ⟨D, n, hown, _, hl⟩ := H
 unfold map_has.f at h
 split at h
 ·rename_i hk
  refine wpList_lookup_own_ok_int w hg m x 136 hop 3 3 .i64 law3 Try.underlying136 Try.underlying3 (zero3 _) B n D hm hown _ _ hx (keyOf_int_mk Try.underlying3 (wf64 hk)) fun c hat _ => ?_
  have e := (hl k hk).1 (.lit (.int .i64 0))
  have eb := (hl k hk).2
  simp only [Option.some.injEq, Prod.mk.injEq] at h
  rw [eb, h.2]
  have : c = v := by
   rw [hat] at e
   rw [← h.1]
   cases hm' : mlook M k with
   | none => rw [hm'] at e; simpa using e
   | some y => rw [hm'] at e; simpa using e
  subst this
  exact hK
 ·cases h
theorem lay_put (hg : o.guard = none) (m x y : Operand) (hop : o.op = Op.mapUpdate 136 m x y ∨ o.op = Op.insert 136 m x y) (B : Nat) (M M' : MapT) (k v : Int) (H : MapIs w B M) (h : map_put.f M k v = some M') (hm : a.eval m = .map (some B)) (hx : a.eval x = .int .i64 k) (hy : a.eval y = .int .i64 v)
  (hK : ∀ w', MapIs w' B M' → w.grownBy w' (some B) → wpList Try.prog ops Q rest (a.put o.dst undef) w') : wpList Try.prog ops Q (o :: rest) a w := by
 obtain ⟨D, n, hown, hn, hl⟩ := H
 unfold map_put.f at h
 split at h
 ·rename_i hc
  obtain ⟨h1, h2, h3, h4⟩ := hc
  obtain rfl := Option.some.inj h
  obtain ⟨w', hrun, r1, r2⟩ := hown.update law3 Try.underlying136 (by unfold maxLen; omega) (keyOf_int_mk Try.underlying3 (wf64 h3)) (plainElem_int Try.underlying3 (wf64 h4))
  have H' : MapIs w' B ((k, v) :: M) := by
   refine ⟨_, n + 1, r1, by simp; omega, fun k' hk' => ?_⟩
   have hD := hown.isMap
   by_cases e : k = k'
   ·subst e
    refine ⟨fun z => ?_, ?_⟩
    ·rw [Maps.atKey_put_same hD (law3.key (keyOf_int_mk Try.underlying3 (wf64 h3)))]; simp [mlook]
    ·rw [Maps.has_put_same hD (law3.key (keyOf_int_mk Try.underlying3 (wf64 h3)))]; simp [mlook]
   ·have hne : (Lit.int .i64 k') ≠ .int .i64 k := fun h => e (by injection h with _ h; exact h.symm)
    refine ⟨fun z => ?_, ?_⟩
    ·rw [Maps.atKey_put_other hne, (hl k' hk').1 z]; simp [mlook, e]
    ·rw [Maps.has_put_other hne, (hl k' hk').2]; simp [mlook, e]
  refine wpList_plain hg fun K' hK' => ?_
  unfold Oper.wp
  rcases hop with hop | hop
  ·simp [execOp, hop, hm, hx, hy, hrun, Result.andThen]
   exact hK' _ _ (hK w' H' r2)
  ·simp [execOp, hop, hm, hx, hy, hrun, Result.andThen]
   exact hK' _ _ (hK w' H' r2)
 ·cases h
end
def not_nil.f (l : List Int) : Option Bool := some (l.length != 0)
def is_nil.f (l : List Int) : Option Bool := some (l.length == 0)
end Go.Proofs.Ytdpolfflemocaaa.Own
