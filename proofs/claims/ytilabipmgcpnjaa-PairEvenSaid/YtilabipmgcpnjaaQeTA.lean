/- The declarations of TA that the claim Qe needs. -/
import Derived.Test.YtilabipmgcpnjaaProg
import Derived.Below
import Derived.Deep.Draws
import Derived.Deep.AppendLies
import Derived.Maps.AppendAt
import Derived.OwnWalk
import Derived.Laws.BytesArg
import Derived.Laws.MakeOwn
import Derived.Laws.OwnMore
import Derived.Deep.OwnRows
import Derived.Tactics
import Derived.Lib.ConvBytes
import Derived.Laws.Slices
import Derived.WalkKit
import Derived.KernelRfl
import Derived.RowKit3
import Derived.Deep.LoopGhost
import Derived.Deep.QuietTactic
import Derived.BigQuiet
import Derived.WideLaws
import Derived.Deep.DeepCutAuto
import Derived.Deep.CutBlock
import Derived.Deep.RegionHeld3
import Derived.Laws.Rows
import Derived.Lib.AppendStr
import Derived.ArgAppend
import Derived.Laws.IdiomCopy
import Derived.OrdersHeld
import Derived.Laws.BitsLemmas
import Derived.RowKit
import Derived.Test.YtilabipmgcpnjaaQeWWords
import Derived.Test.YtilabipmgcpnjaaQeWLast
import Derived.Test.YtilabipmgcpnjaaQeWTab
import Derived.Test.YtilabipmgcpnjaaQeWApart
import Derived.Test.YtilabipmgcpnjaaQeWFoot
import Derived.Test.YtilabipmgcpnjaaQeWKept
import Derived.Test.YtilabipmgcpnjaaQeWShare
import Derived.Test.YtilabipmgcpnjaaQeWN
import Derived.Test.YtilabipmgcpnjaaQeWAt
import Derived.Laws.StructEq
import Derived.Test.YtilabipmgcpnjaaQeWRepsOne
import Derived.Test.YtilabipmgcpnjaaQeWInv
import Derived.Test.YtilabipmgcpnjaaQeWGuard
import Derived.Test.YtilabipmgcpnjaaQeWNEv
import Derived.Test.YtilabipmgcpnjaaQeWMore
import Derived.LoopTactic
import Derived.Outline
import Derived.Lib.SliceRun
import Derived.IntWalk
namespace Go.Proofs.Ytilabipmgcpnjaa.Own
set_option linter.unusedVariables false
set_option linter.unusedSimpArgs false
open Go.RowKit Go.Proofs.YtilabipmgcpnjaaW.PrintWords Go.Proofs.YtilabipmgcpnjaaW.PrintLast Go.Proofs.YtilabipmgcpnjaaW.PrintMore
theorem info3 : (Try.prog.info? 3).map (fun i => (i.zero, i.size, i.bytes)) = some (some (.int .i64 0), 1, 8) := by kernel_rfl
theorem info4 : (Try.prog.info? 4).map (fun i => (i.zero, i.size, i.bytes)) = some (some (.bool false), 1, 1) := by kernel_rfl
theorem info24 : (Try.prog.info? 24).map (fun i => (i.zero, i.size, i.bytes)) = some (some (.slice none 0 0), 1, 24) := by kernel_rfl
theorem ret_int {k : IntKind} {a b : Int} (h : a = b) : Ending.returned (.int k a) = .returned (.int k b) := by rw [h]
theorem ret_bool {a b : Bool} (h : a = b) : Ending.returned (.bool a) = .returned (.bool b) := by rw [h]
/-- A row of whole numbers in a block of its own: block b (cells cur), the slice's cap c. -/
def Row (w : World) (b c : Nat) (xs : List Int) : Prop :=
  ∃ cur : Array Value, w.heap[b]? = some (.cells cur 3 (0, 0)) ∧ xs.length ≤ c ∧ c ≤ 9223372036854775807 ∧ cur.size = c ∧ cur.toList.take xs.length = nums .i64 xs
theorem Row.cell {w : World} {b c : Nat} {xs : List Int} (h : Row w b c xs) (k : Nat) (hk : k < xs.length) : w.cell? ⟨b, k, none⟩ = some (.int .i64 (xs.getD k 0)) := by
  obtain ⟨cur, hb, hl, hm, hs, ht⟩ := h
  have h1 : (cur.toList.take xs.length)[k]? = some (.int .i64 (xs.getD k 0)) := by
    rw [ht]; simp [nums, List.getElem?_map, hk]
  rw [List.getElem?_take_of_lt hk] at h1
  simp only [World.cell?, hb]
  simpa using h1
theorem Row.frozen {w : World} {b c : Nat} {xs : List Int} (h : Row w b c xs) (k : Nat) : w.frozen? ⟨b, k, none⟩ = false := by
  obtain ⟨cur, hb, -⟩ := h
  simp [World.frozen?, hb]
theorem Row.lt {w : World} {b c : Nat} {xs : List Int} (h : Row w b c xs) : b < w.heap.size := by
  obtain ⟨cur, hb, -⟩ := h
  exact (Array.getElem?_eq_some_iff.1 hb).1
theorem Row.le {w : World} {b c : Nat} {xs : List Int} (h : Row w b c xs) : xs.length ≤ c := h.choose_spec.2.1
theorem Row.max {w : World} {b c : Nat} {xs : List Int} (h : Row w b c xs) : c ≤ 9223372036854775807 := h.choose_spec.2.2.1
theorem Row.move {w w' : World} {b c : Nat} {xs : List Int} (h : Row w b c xs) (hm : w'.heap[b]? = w.heap[b]?) : Row w' b c xs := by
  obtain ⟨cur, hb, r⟩ := h
  exact ⟨cur, hm.trans hb, r⟩
theorem nums_set (k : IntKind) (xs : List Int) (i : Nat) (x : Int) : nums k (xs.set i x) = (nums k xs).set i (.int k x) := by
  simp [nums, List.map_set]
theorem nums_take (k : IntKind) (xs : List Int) (i : Nat) : nums k (xs.take i) = (nums k xs).take i := by
  simp [nums, List.map_take]
theorem Row.set {w : World} {b c : Nat} {xs : List Int} (h : Row w b c xs) (i : Nat) (x : Int) : Row (w.setCell ⟨b, i, none⟩ (.int .i64 x)) b c (xs.set i x) := by
  obtain ⟨cur, hb, hl, hm, hs, ht⟩ := h
  refine ⟨cur.setIfInBounds i (.int .i64 x), heap_setCell_same w b i cur 3 _ hb, by simpa using hl, hm, by simpa using hs, ?_⟩
  rw [List.length_set, nums_set, ← ht, Array.toList_setIfInBounds, List.take_set]
theorem Row.take {w : World} {b c : Nat} {xs : List Int} (h : Row w b c xs) (m : Nat) : Row w b c (xs.take m) := by
  obtain ⟨cur, hb, hl, hm, hs, ht⟩ := h
  refine ⟨cur, hb, by simp only [List.length_take]; omega, hm, hs, ?_⟩
  rw [nums_take, ← ht, List.length_take, List.take_take]
theorem Row.setCells {w : World} {b c : Nat} {xs : List Int} (h : Row w b c xs) (z : Int) : ∀ (m i : Nat), ∃ ys, Row (w.setCells b i (List.replicate m (.int .i64 z))) b c ys ∧ ys.length = xs.length ∧ ys.take i = xs.take i := by
  intro m
  induction m generalizing w xs with
  | zero => exact fun i => ⟨xs, h, rfl, rfl⟩
  | succ m ih =>
    intro i
    obtain ⟨ys, hy, hl, ht⟩ := ih (h.set i z) (i + 1)
    refine ⟨ys, hy, by simpa using hl, ?_⟩
    have h1 : ys.take i = (ys.take (i + 1)).take i := by rw [List.take_take, Nat.min_eq_left (by omega)]
    rw [h1, ht, List.take_take, Nat.min_eq_left (by omega), List.take_set, List.set_eq_of_length_le (by simp; omega)]
theorem heap_setCells_other (b k : Nat) (hk : k ≠ b) : ∀ (vs : List Value) (w : World) (i : Nat), (w.setCells b i vs).heap[k]? = w.heap[k]?
  | [], _, _ => rfl
  | v :: r, w, i => (heap_setCells_other b k hk r _ _).trans (heap_setCell_other w ⟨b, i, none⟩ k v hk)
theorem setCells_like (b : Nat) : ∀ (vs : List Value) (w : World) (i : Nat), (w.setCells b i vs).os = w.os ∧ (w.setCells b i vs).tape = w.tape ∧ (w.setCells b i vs).output = w.output ∧ (w.setCells b i vs).heap.size = w.heap.size
  | [], _, _ => ⟨rfl, rfl, rfl, rfl⟩
  | v :: r, w, i => by
    obtain ⟨h1, h2, h3, h4⟩ := setCells_like b r (w.setCell ⟨b, i, none⟩ v) (i + 1)
    exact ⟨h1, h2, h3, h4.trans (by simp [World.setCell])⟩
theorem heap_alloc_new (w : World) (o : Obj) : (w.alloc o).heap[w.heap.size]? = some o := by show (w.heap.push o)[w.heap.size]? = _; simp
theorem heap_alloc_old (w : World) (o : Obj) {k : Nat} (h : k < w.heap.size) : (w.alloc o).heap[k]? = w.heap[k]? := by show (w.heap.push o)[k]? = _; rw [Array.getElem?_push, if_neg (by omega)]
theorem size_alloc (w : World) (o : Obj) : (w.alloc o).heap.size = w.heap.size + 1 := by show (w.heap.push o).size = _; simp
theorem grown_refl (w : World) (r : Option Nat) : w.grownBy w r := ⟨rfl, rfl, rfl, Nat.le_refl _, fun _ _ _ => rfl⟩
theorem grown_set {w w1 : World} {b : Nat} (h : w.grownBy w1 (some b)) (i : Nat) (v : Value) : w.grownBy (w1.setCell ⟨b, i, none⟩ v) (some b) :=
  ⟨h.os, h.tape, h.output, by simpa [World.setCell] using h.size, fun k hk hr => (heap_setCell_other w1 ⟨b, i, none⟩ k v (fun e => hr (by rw [e]))).trans (h.block k hk hr)⟩
theorem grown_setCells {w w1 : World} {b : Nat} (h : w.grownBy w1 (some b)) (i : Nat) (vs : List Value) : w.grownBy (w1.setCells b i vs) (some b) := by
  obtain ⟨h1, h2, h3, h4⟩ := setCells_like b vs w1 i
  exact ⟨h1.trans h.os, h2.trans h.tape, h3.trans h.output, by rw [h4]; exact h.size, fun k hk hr => (heap_setCells_other b k (fun e => hr (by rw [e])) vs w1 i).trans (h.block k hk hr)⟩
theorem grown_cell {w w1 : World} {b : Nat} (h : w.grownBy w1 (some b)) {k o : Nat} {v : Value} (hne : k ≠ b) (hc : w.cell? ⟨k, o, none⟩ = some v) : w1.cell? ⟨k, o, none⟩ = some v := by
  have hk : k < w.heap.size := World.block_lt_of_cell? w _ hc
  have := h.block k hk (fun e => hne (by injection e))
  simp only [World.cell?] at hc ⊢
  rw [this]; exact hc
end Go.Proofs.Ytilabipmgcpnjaa.Own
namespace Go.Proofs.Ytilabipmgcpnjaa.Own
open Go.RowKit
set_option linter.unusedVariables false
set_option linter.unusedSimpArgs false
section
variable {P : Program} {ops : Array Oper} {Q : Exit → Act → World → Prop} {md : Region.Mode} {S : World → Prop} {n : Nat}
def wpAnyT (P : Program) (md : Region.Mode) (ops : Array Oper) (Q : Exit → Act → World → Prop) (S : World → Prop) (n : Nat) : Nat → Array Bool → Act → World → Prop
  | 0, listed, a, w => Region.ready md ops listed = [] ∧ Q .normal a w
  | fuel + 1, listed, a, w =>
    (Region.ready md ops listed = [] → Q .normal a w) ∧
    ∀ i ∈ Region.ready md ops listed, wpOp P ops Q i (fun a' w' => (i ≠ n → S w') ∧ wpAnyT P md ops Q S n fuel (listed.setIfInBounds i true) a' w') a w
theorem wpAny_of_T : ∀ (fuel : Nat) (listed : Array Bool) (a : Act) (w : World), wpAnyT P md ops Q S n fuel listed a w → wpAny P md ops Q fuel listed a w
  | 0, _, _, _, h => h
  | fuel + 1, _, _, _, h => ⟨h.1, fun i hi => wpOp_mono (fun a' w' h' => wpAny_of_T fuel _ a' w' h'.2) (h.2 i hi)⟩
/-- Number n waits for number i. -/
def waitsB (md : Region.Mode) (ops : Array Oper) (n i : Nat) : Bool :=
  match ops[n]? with
  | some o => o.after.any fun e => Region.binds md e && e.on == i
  | none => true
theorem not_ready_of_waits {i : Nat} {listed : Array Bool} (hw : waitsB md ops n i = true) (hi : listed.getD i true = false) : n ∉ Region.ready md ops listed := by
  intro hr
  obtain ⟨_, o, ho, hall⟩ := mem_ready.1 hr
  unfold waitsB at hw
  rw [ho] at hw
  obtain ⟨e, he, hb⟩ := Array.any_eq_true'.1 hw
  simp only [Bool.and_eq_true, beq_iff_eq] at hb
  have h1 := hall e he hb.1
  rw [hb.2] at h1
  rcases Nat.lt_or_ge i listed.size with h' | h'
  · simp [h'] at hi h1; rw [hi] at h1; cases h1
  · simp [Array.getElem?_eq_none h'] at hi
theorem wpAnyT_first {i : Nat} {oi : Oper} {v : Value} (hi : ops[i]? = some oi) (hsel : ∀ (j : Nat) (o : Oper) cs b, ops[j]? = some o → o.op ≠ .select cs b)
    (hQ : ∀ c a w, Q (.panic c) (a.put oi.dst v) w → Q (.panic c) a w) (hn : waitsB md ops n i = true) :
    ∀ (fuel : Nat) (listed : Array Bool) (a : Act) (w : World),
      (∀ j oj, ops[j]? = some oj → j ≠ i → listed.getD j true = false → (∀ e ∈ oj.after, Region.binds md e = true → e.on ≠ i) → oi.apart ops oj = true) →
      i ∈ Region.ready md ops listed → YieldsIf P ops S oi v a → S w →
      wpAnyT P md ops Q S n fuel (listed.setIfInBounds i true) (a.put oi.dst v) w → wpAnyT P md ops Q S n (fuel + 1) listed a w := by
  intro fuel
  induction fuel with
  | zero =>
    intro listed a w _ hr hy hS H
    refine ⟨fun h => (by rw [h] at hr; cases hr), fun j hj => ?_⟩
    by_cases hji : j = i
    · subst hji; exact hy.wpOp hi hS ⟨fun _ => hS, H⟩
    · have := ready_mono hj hji
      rw [H.1] at this
      cases this
  | succ fuel ih =>
    intro listed a w hfree hr hy hS H
    refine ⟨fun h => (by rw [h] at hr; cases hr), fun j hj => ?_⟩
    by_cases hji : j = i
    · subst hji; exact hy.wpOp hi hS ⟨fun _ => hS, H⟩
    · have hjn : j ≠ n := by rintro rfl; exact not_ready_of_waits hn (mem_ready.1 hr).1 hj
      have h1 := H.2 j (ready_mono hj hji)
      obtain ⟨hjun, oj, hoj, hall⟩ := mem_ready.1 hj
      have hnot : ∀ e ∈ oj.after, Region.binds md e = true → e.on ≠ i := fun e he hb heq => by
        have h1 := hall e he hb
        have h0 := (mem_ready.1 hr).1
        rw [heq] at h1
        rcases Nat.lt_or_ge i listed.size with h' | h'
        · simp [h'] at h0 h1; rw [h0] at h1; cases h1
        · simp [Array.getElem?_eq_none h'] at h1
      have h2 := wpOp_putIf hoj (hfree j oj hoj hji hjun hnot) (fun cs b => hsel i oi cs b hi) (fun cs b => hsel j oj cs b hoj) hQ hy h1
      have hfree' : ∀ k ok, ops[k]? = some ok → k ≠ i → (listed.setIfInBounds j true).getD k true = false →
          (∀ e ∈ ok.after, Region.binds md e = true → e.on ≠ i) → oi.apart ops ok = true := fun k ok hk hki hun hno => by
        refine hfree k ok hk hki ?_ hno
        by_cases hjk : j = k
        · subst hjk; exact hjun
        · rw [getD_set_ne true hjk] at hun; exact hun
      refine wpOp_mono (fun a' w' h3 => ⟨h3.2.1, ih (listed.setIfInBounds j true) a' w' hfree' (ready_mono hr (Ne.symm hji)) h3.1 (h3.2.1 hjn) ?_⟩) h2
      rw [Array.setIfInBounds_comm _ _ hji]
      exact h3.2.2
/-- Take number i first. -/
theorem wpAnyT_take {i : Nat} {oi : Oper} {v : Value} {fuel : Nat} {listed : Array Bool} {a : Act} {w : World} (hi : ops[i]? = some oi)
    (hs : Region.noSelect ops = true) (hf : Region.free md ops listed i = true) (hr : (Region.ready md ops listed).contains i = true) (hn : waitsB md ops n i = true)
    (hQ : ∀ c a w, Q (.panic c) (a.put oi.dst v) w → Q (.panic c) a w) (hy : YieldsIf P ops S oi v a) (hS : S w)
    (h : wpAnyT P md ops Q S n fuel (listed.setIfInBounds i true) (a.put oi.dst v) w) : wpAnyT P md ops Q S n (fuel + 1) listed a w :=
  wpAnyT_first hi (Region.noSelect_spec hs) hQ hn fuel listed a w (Region.free_spec hi hf) (by simpa using hr) hy hS h
theorem wp_of_then {o : Oper} {a : Act} {w : World} {K : Act → World → Prop} (h : o.wp P a w K (Exit.then K Q)) : o.wp P a w K Q := by
  unfold Oper.wp at *
  generalize (execOp a.eval o).run P w = r at *
  cases r with
  | ok x w' =>
    cases x with
    | value v => exact h
    | skip => exact h
    | defer d => exact h
    | enter f args =>
      refine Calls.mono h ?_
      rintro (v | c | _) w'' hh <;> exact hh
    | row r args => exact h
    | _ => exact h
  | halt x w' =>
    cases x <;> exact h
/-- The one operation that comes up next: number i. -/
theorem wpAnyT_one {i : Nat} {o : Oper} {fuel : Nat} {listed : Array Bool} {a : Act} {w : World} (hr : Region.ready md ops listed = [i]) (hi : ops[i]? = some o)
    (h : ∀ K : Act → World → Prop, (∀ a' w', (i ≠ n → S w') → wpAnyT P md ops Q S n fuel (listed.setIfInBounds i true) a' w' → K a' w') → wpList P ops (Exit.then K Q) [o] a w) :
    wpAnyT P md ops Q S n (fuel + 1) listed a w := by
  refine ⟨fun h0 => (by rw [hr] at h0; cases h0), fun j hj => ?_⟩
  rw [hr, List.mem_singleton] at hj
  subst hj
  have h1 := h _ (fun a' w' h1 h2 => And.intro h1 h2)
  unfold wpOp
  simp only [hi]
  unfold wpList at h1
  by_cases hw : Region.wanted o (yielded ops a.tmps) = true
  · rw [if_pos hw] at h1 ⊢
    rcases h1 with h1 | h1
    · exact .inl (wp_of_then h1)
    · exact .inr ⟨h1.1, h1.2⟩
  · rw [if_neg hw] at h1 ⊢
    exact h1
theorem wpAnyT_done {listed : Array Bool} {a : Act} {w : World} (hr : Region.ready md ops listed = []) (h : Q .normal a w) :
    ∀ fuel, wpAnyT P md ops Q S n fuel listed a w
  | 0 => ⟨hr, h⟩
  | _ + 1 => ⟨fun _ => h, by rw [hr]; simp⟩
theorem wp_region_T {id : Nat} {a : Act} {w : World} (n : Nat) (S : World → Prop) (hm : P.follows .mixedOrders = true)
    (h : wpAnyT P .any ops Q S n ops.size (Array.replicate ops.size false) a w.drew) : (Code.region id ops true).wp P Q a w :=
  wp_region_any hm (wpAny_of_T _ _ _ _ h)
/-- No panic (in a function that defers the post of a panic hangs on the frame). -/
def noPanic (Q : Exit → Act → World → Prop) : Exit → Act → World → Prop
  | .panic _, _, _ => False
  | e, a, w => Q e a w
theorem noPanic_normal {a : Act} {w : World} (h : Q .normal a w) : noPanic Q .normal a w := h
theorem wp_region_TD {id : Nat} {a : Act} {w : World} (n : Nat) (S : World → Prop) (hm : P.follows .mixedOrders = true)
    (h : wpAnyT P .any ops (noPanic Q) S n ops.size (Array.replicate ops.size false) a w.drew) : (Code.region id ops true).wp P Q a w :=
  wp_mono (wp_region_T n S hm h) (fun e a w h => by cases e <;> first | exact h | exact h.elim)
end
end Go.Proofs.Ytilabipmgcpnjaa.Own
namespace Go.Proofs.Ytilabipmgcpnjaa.Own
set_option linter.unusedVariables false
set_option linter.unusedSimpArgs false
open Go.RowKit
theorem f63_any (x j : Int) (b : Nat) (w : World) (hc : w.cell? ⟨b, 0, none⟩ = some (.int .i64 j)) :
    Calls Try.prog 63 #[.int .i64 x, .pointer (some ⟨b, 0, none⟩)] w fun e w' => e = .returned (.bool (x == j)) ∧ w = w' := by
  go_enter Try.func63, Try.ntmps63
  go_wp2
  go_ret
  exact ⟨rfl, rfl⟩
theorem f62_any (k : Int) (w : World) :
    Calls Try.prog 62 #[.int .i64 k] w fun e w' => e = .returned (.func (.func 63) #[] #[.pointer (some ⟨w.heap.size, 0, none⟩)]) ∧ w' = w.alloc (.cells #[.int .i64 k] 3) := by
  go_enter Try.func62, Try.ntmps62
  go_wp2
  go_ret
  exact ⟨rfl, rfl⟩
end Go.Proofs.Ytilabipmgcpnjaa.Own
namespace Go.Proofs.Ytilabipmgcpnjaa.Own
open Go.RowKit Go.Proofs.YtilabipmgcpnjaaW.PrintWords Go.Proofs.YtilabipmgcpnjaaW.PrintLast Go.Proofs.YtilabipmgcpnjaaW.PrintMore
set_option linter.unusedVariables false
set_option linter.unusedSimpArgs false
/-- The place of j in xs, or -1. -/
def ixOf (xs : List Int) (j : Int) : Int := if j ∈ xs then (xs.idxOf j : Int) else -1
theorem ixOf_at (xs : List Int) (j : Int) (k : Nat) (hk : k < xs.length) (hb : j ∉ xs.take k) (he : xs.getD k 0 = j) : ixOf xs j = k := by
  have hk2 : xs[k] = j := by rw [List.getD_eq_getElem?_getD, List.getElem?_eq_getElem hk] at he; exact he
  have hm : j ∈ xs := hk2 ▸ List.getElem_mem hk
  unfold ixOf
  rw [if_pos hm]
  have h1 : xs = xs.take k ++ xs.drop k := (List.take_append_drop k xs).symm
  have h2 : xs.idxOf j = (xs.take k ++ xs.drop k).idxOf j := by rw [← h1]
  rw [h2, List.idxOf_append, if_neg hb, List.drop_eq_getElem_cons hk, hk2, List.idxOf_cons_self, List.length_take]
  omega
theorem ixOf_none (xs : List Int) (j : Int) (hb : j ∉ xs) : ixOf xs j = -1 := by
  unfold ixOf; rw [if_neg hb]
theorem mem_take_succ {xs : List Int} {j : Int} {k : Nat} (hk : k < xs.length) (hb : j ∉ xs.take k) (hn : ¬ xs.getD k 0 = j) : j ∉ xs.take (k + 1) := by
  rw [List.take_succ_eq_append_getElem hk]
  have : xs.getD k 0 = xs[k] := by rw [List.getD_eq_getElem?_getD, List.getElem?_eq_getElem hk]; rfl
  rw [this] at hn
  simp only [List.mem_append, List.mem_singleton, not_or]
  exact ⟨hb, fun h => hn h.symm⟩
set_option maxHeartbeats 1000000 in
theorem f65_any (xs : List Int) (j : Int) (b c bk : Nat) (w : World) (hr : Row w b c xs) (hc : w.cell? ⟨bk, 0, none⟩ = some (.int .i64 j)) :
    Calls Try.prog 65 #[.slice (some ⟨b, 0, none⟩) xs.length c, .func (.func 63) #[] #[.pointer (some ⟨bk, 0, none⟩)]] w fun e w' => e = .returned (.int .i64 (ixOf xs j)) ∧ w = w' := by
  have hle := hr.le
  have hmx := hr.max
  have HR := Aside0.mk hr
  clear hr
  go_enter Try.func65, Try.ntmps65
  go_wp2
  go_loop [8] (fun i => ∃ k : Nat, k ≤ xs.length ∧ i = .int .i64 k ∧ Aside0 (j ∉ xs.take k)) (fun i => xs.length - (intOf i).toNat)
  case atStart => exact ⟨0, Nat.zero_le _, rfl, ⟨by simp⟩⟩
  case round =>
    obtain ⟨k, hk, rfl, hn⟩ := hrel
    by_cases hlt : k < xs.length
    · have hcell := HR.out.cell k hlt
      obtain ⟨x, hx⟩ : ∃ x, xs.getD k 0 = x := ⟨_, rfl⟩
      rw [hx] at hcell
      have HX := Aside0.mk hx
      clear hx
      by_cases he : x = j
      · have hb : (x == j) = true := by simpa using he
        have he' := Aside0.mk he
        clear he
        go_wp2_with (go_at_call 63; refine (f63_any _ j bk w hc).mono ?_; rintro e w' ⟨rfl, rfl⟩)
        go_ret
        exact ⟨ret_int (ixOf_at xs j k hlt hn.out (HX.out.trans he'.out)).symm, rfl⟩
      · have hb : (x == j) = false := by simpa using he
        have he' := Aside0.mk he
        clear he
        go_wp2_with (go_at_call 63; refine (f63_any _ j bk w hc).mono ?_; rintro e w' ⟨rfl, rfl⟩)
        go_round
        case rel => exact ⟨k + 1, by omega, by go_num, ⟨mem_take_succ hlt hn.out (by rw [HX.out]; exact he'.out)⟩⟩
        case measure => simp [intOf]; omega
    · have hkk : k = xs.length := by omega
      have hn2 := Aside0.mk hn.out
      clear hn
      go_wp2
      go_ret
      exact ⟨ret_int (ixOf_none xs j (by have := hn2.out; rw [hkk, List.take_length] at this; exact this)).symm, rfl⟩
end Go.Proofs.Ytilabipmgcpnjaa.Own
namespace Go.Proofs.Ytilabipmgcpnjaa.Own
open Go.RowKit Go.Proofs.YtilabipmgcpnjaaW.PrintWords Go.Proofs.YtilabipmgcpnjaaW.PrintLast Go.Proofs.YtilabipmgcpnjaaW.PrintMore
set_option linter.unusedVariables false
set_option linter.unusedSimpArgs false
/-- What is left behind k rounds of DeleteFunc: the row dk; i of xs.take k stay. -/
structure Kept1 (xs : List Int) (j : Int) (k i : Nat) (dk : List Int) : Prop where
  len : dk.length = xs.length
  lt : i < k
  kept : dk.take i = (xs.take k).filter (fun x => x != j)
  rest : dk.drop k = xs.drop k
  num : i = ((xs.take k).filter (fun x => x != j)).length
theorem Kept1.start {xs : List Int} {j : Int} (k : Nat) (hk : k < xs.length) (hb : j ∉ xs.take k) (he : xs[k] = j) : Kept1 xs j (k + 1) k xs := by
  have h1 : (xs.take (k + 1)).filter (fun x => x != j) = xs.take k := by
    rw [List.take_succ_eq_append_getElem hk, List.filter_append, he]
    simp only [List.filter_cons, bne_self_eq_false, Bool.false_eq_true, if_false, List.filter_nil, List.append_nil]
    rw [List.filter_eq_self]
    intro x hx
    simp only [bne_iff_ne, ne_eq]
    rintro rfl
    exact hb hx
  exact ⟨rfl, by omega, h1.symm, rfl, by rw [h1, List.length_take]; omega⟩
theorem Kept1.at_ {xs dk : List Int} {j : Int} {k i : Nat} (h : Kept1 xs j k i dk) (hk : k < xs.length) : dk.getD k 0 = xs[k] := by
  have h1 := congrArg (fun l => l[0]?) h.rest
  simp only [List.getElem?_drop, Nat.add_zero] at h1
  rw [List.getD_eq_getElem?_getD, h1, List.getElem?_eq_getElem hk]; rfl
theorem Kept1.keep {xs dk : List Int} {j : Int} {k i : Nat} (h : Kept1 xs j k i dk) (hk : k < xs.length) (hn : xs[k] ≠ j) : Kept1 xs j (k + 1) (i + 1) (dk.set i xs[k]) := by
  have hil : i < dk.length := by have := h.len; have := h.lt; omega
  have h1 : (xs.take (k + 1)).filter (fun x => x != j) = (xs.take k).filter (fun x => x != j) ++ [xs[k]] := by
    rw [List.take_succ_eq_append_getElem hk, List.filter_append]
    simp [List.filter_cons, hn]
  refine ⟨by rw [List.length_set]; exact h.len, by have := h.lt; omega, ?_, ?_, by rw [h1, List.length_append, ← h.num]; rfl⟩
  · rw [h1, ← h.kept, List.take_succ_eq_append_getElem (by rw [List.length_set]; exact hil), List.getElem_set_self, List.take_set, List.set_eq_of_length_le (by simp; omega)]
  · rw [List.drop_set, if_pos (by have := h.lt; omega)]
    have := congrArg (fun l => l.drop 1) h.rest
    simpa [List.drop_drop] using this
theorem Kept1.skip {xs dk : List Int} {j : Int} {k i : Nat} (h : Kept1 xs j k i dk) (hk : k < xs.length) (hn : xs[k] = j) : Kept1 xs j (k + 1) i dk := by
  have h1 : (xs.take (k + 1)).filter (fun x => x != j) = (xs.take k).filter (fun x => x != j) := by
    rw [List.take_succ_eq_append_getElem hk, List.filter_append]
    simp [List.filter_cons, hn]
  refine ⟨h.len, by have := h.lt; omega, by rw [h1]; exact h.kept, ?_, by rw [h1]; exact h.num⟩
  have := congrArg (fun l => l.drop 1) h.rest
  simpa [List.drop_drop] using this
theorem zero3 (w : World) : (zeroValue 3).run Try.prog w = .ok (.int .i64 0) w := by kernel_rfl
theorem ret_slice {A : Option Addr} {n m c : Nat} (h : n = m) : Ending.returned (.slice A n c) = .returned (.slice A m c) := by rw [h]
set_option maxHeartbeats 2000000 in
theorem f64_any (xs : List Int) (j : Int) (b c bk : Nat) (w : World) (hr : Row w b c xs) (hne : bk ≠ b) (hc : w.cell? ⟨bk, 0, none⟩ = some (.int .i64 j)) :
    Calls Try.prog 64 #[.slice (some ⟨b, 0, none⟩) xs.length c, .func (.func 63) #[] #[.pointer (some ⟨bk, 0, none⟩)]] w fun e w' =>
      e = .returned (.slice (some ⟨b, 0, none⟩) (xs.filter (fun x => x != j)).length c) ∧ Row w' b c (xs.filter (fun x => x != j)) ∧ w.grownBy w' (some b) := by
  have hle := hr.le
  have hmx := hr.max
  have hI := f65_any xs j b c bk w hr hc
  have HR := Aside0.mk hr
  have HC := Aside0.mk hc
  clear hr hc
  by_cases hm : j ∈ xs
  · obtain ⟨k0, hk0⟩ : ∃ k0, xs.idxOf j = k0 := ⟨_, rfl⟩
    have hix : ixOf xs j = (k0 : Int) := by unfold ixOf; rw [if_pos hm, hk0]
    rw [hix] at hI
    have hlt0 : k0 < xs.length := by rw [← hk0]; exact List.idxOf_lt_length_of_mem hm
    have hne1 : ((k0 : Int) == -1) = false := beq_eq_false_iff_ne.2 (by omega)
    have HS := Aside0.mk (Kept1.start (xs := xs) (j := j) k0 hlt0 (by
      intro hmem
      have := List.idxOf_lt_length_of_mem hmem
      have h2 : xs.idxOf j = (xs.take k0 ++ xs.drop k0).idxOf j := by rw [List.take_append_drop]
      rw [List.idxOf_append, if_pos hmem] at h2
      rw [List.length_take] at this
      omega) (by
      have h := List.getElem_idxOf (xs := xs) (x := j) (List.idxOf_lt_length_of_mem hm)
      simp only [hk0] at h
      exact h))
    clear hk0 hix hm
    go_enter Try.func64, Try.ntmps64
    go_wp2_with (go_at_call 65; refine hI.mono ?_; rintro e w' ⟨rfl, rfl⟩)
    clear hI
    go_loopg [5, 6, 7] xs.length (fun gg s5 s6 _ wr => ∃ (i k : Nat) (dk : List Int), s5 = .int .i64 i ∧ s6 = .int .i64 k ∧ k ≤ xs.length ∧ xs.length - k ≤ gg ∧ Aside0 (Kept1 xs j k i dk) ∧ Aside0 (Row wr b c dk) ∧ Aside0 (w.grownBy wr (some b)))
    case atStart => exact ⟨k0, k0 + 1, xs, rfl, by go_num, by omega, by omega, HS, HR, ⟨grown_refl _ _⟩⟩
    case round =>
      clear HS hne1
      obtain ⟨i, k, dk, rfl, rfl, hkn, hgg, HK, HW, HG⟩ := hrel
      have hlen := Aside0.mk HK.out.len
      have hik := HK.out.lt
      have hck := grown_cell HG.out hne HC.out
      by_cases hlt : k < xs.length
      · have hltz : (k : Int) < (xs.length : Int) := by omega
        have cj := HW.out.cell k (by rw [hlen.out]; exact hlt)
        rw [HK.out.at_ hlt] at cj
        have ci := HW.out.cell i (by rw [hlen.out]; omega)
        have fi := HW.out.frozen i
        obtain ⟨x, hx⟩ : ∃ x, xs[k] = x := ⟨_, rfl⟩
        rw [hx] at cj
        have HX := Aside0.mk hx
        clear hx
        generalize dk.getD i 0 = old at ci
        by_cases he : x = j
        · have hb : (x == j) = true := by simpa using he
          have HE := Aside0.mk he
          clear he
          go_wp2_with (go_at_call 63; refine (f63_any x j bk wr hck).mono ?_; rintro e w' ⟨rfl, rfl⟩)
          go_roundg (xs.length - (k + 1))
          case measure => omega
          case rel => exact ⟨i, k + 1, dk, rfl, by go_num, by omega, Nat.le_refl _, ⟨HK.out.skip hlt (HX.out.trans HE.out)⟩, HW, HG⟩
        · have hb : (x == j) = false := by simpa using he
          have HE := Aside0.mk he
          clear he
          go_wp2_with (go_at_call 63; refine (f63_any x j bk wr hck).mono ?_; rintro e w' ⟨rfl, rfl⟩)
          go_roundg (xs.length - (k + 1))
          case measure => omega
          case rel => exact ⟨i + 1, k + 1, dk.set i x, by go_num, by go_num, by omega, Nat.le_refl _, ⟨by have := HK.out.keep hlt (by rw [HX.out]; exact HE.out); rwa [HX.out] at this⟩, ⟨HW.out.set i x⟩, ⟨grown_set HG.out _ _⟩⟩
      · have hkx : k = xs.length := by omega
        have hcl : ∀ ty, (Builtin.clear_ #[24] ty #[.slice (some ⟨b, i, none⟩) (xs.length - i) (c - i)]).run Try.prog wr = .ok (.tuple #[]) (wr.setCells b i (List.replicate (xs.length - i) (.int .i64 0))) :=
          fun ty => Lib.run_clear_slice wr 24 3 ty (.int .i64 0) Try.underlying24 zero3 rfl rfl b i (xs.length - i) (c - i) (by omega) (fun t ht => by rw [HW.out.cell (i + t) (by rw [hlen.out]; omega)]; rfl) (fun t _ => HW.out.frozen (i + t))
        have HKX := Aside0.mk hkx
        clear hkx
        obtain ⟨ys, hy, hyl, hyt⟩ := HW.out.setCells 0 (xs.length - i) i
        have HY := Aside0.mk (hy.take i)
        rw [hyt, HK.out.kept, HKX.out, List.take_length] at HY
        have hnum := HK.out.num
        rw [HKX.out, List.take_length] at hnum
        have HN := Aside0.mk hnum
        clear hy hyl hyt hnum
        go_wp2
        go_ret
        exact ⟨ret_slice HN.out, HY.out, grown_setCells HG.out _ _⟩
  · have hix : ixOf xs j = -1 := ixOf_none xs j hm
    rw [hix] at hI
    have hf : xs.filter (fun x => x != j) = xs := by
      rw [List.filter_eq_self]
      intro x hx
      simp only [bne_iff_ne, ne_eq]
      rintro rfl
      exact hm hx
    rw [hf]
    clear hix hm hf
    go_enter Try.func64, Try.ntmps64
    go_wp2_with (go_at_call 65; refine hI.mono ?_; rintro e w' ⟨rfl, rfl⟩)
    go_ret
    exact ⟨rfl, HR.out, grown_refl _ _⟩
end Go.Proofs.Ytilabipmgcpnjaa.Own
namespace Go.Proofs.Ytilabipmgcpnjaa.Own
open Go.RowKit Go.Proofs.YtilabipmgcpnjaaW.PrintWords Go.Proofs.YtilabipmgcpnjaaW.PrintLast Go.Proofs.YtilabipmgcpnjaaW.PrintMore
set_option linter.unusedVariables false
set_option linter.unusedSimpArgs false
/-- The row of lists: block bl (cap cl); list i has the header .slice (A i) _ (c i). -/
structure Lists (w : World) (bl cl : Nat) (A : Nat → Option Addr) (c : Nat → Nat) (L : List (List Int)) : Prop where
  top : ∃ cur : Array Value, w.heap[bl]? = some (.cells cur 24 (0, 0)) ∧ cur.size = cl ∧ L.length ≤ cl ∧ cl ≤ 9223372036854775807 ∧ ∀ i (h : i < L.length), cur[i]? = some (.slice (A i) L[i].length (c i))
  row : ∀ i (h : i < L.length), L[i] ≠ [] → ∃ b, A i = some ⟨b, 0, none⟩ ∧ Row w b (c i) L[i]
  apart : ∀ i j, i < L.length → j < L.length → i ≠ j → ∀ b, A i = some ⟨b, 0, none⟩ → A j ≠ some ⟨b, 0, none⟩
  cap : ∀ i (h : i < L.length), L[i].length ≤ c i ∧ c i ≤ 9223372036854775807
  old : ∀ i, i < L.length → ∀ b, A i = some ⟨b, 0, none⟩ → b < w.heap.size ∧ b ≠ bl
/-- The blocks of a row of lists. -/
def LB (bl : Nat) (A : Nat → Option Addr) (n : Nat) (k : Nat) : Prop := k = bl ∨ ∃ i, i < n ∧ A i = some ⟨k, 0, none⟩
/-- All but the blocks of S (and what is new) is as it was. -/
structure Keep (S : Nat → Prop) (w w' : World) : Prop where
  os : w'.os = w.os
  tape : w'.tape = w.tape
  output : w'.output = w.output
  size : w.heap.size ≤ w'.heap.size
  block : ∀ k, k < w.heap.size → ¬ S k → w'.heap[k]? = w.heap[k]?
theorem Keep.refl (S : Nat → Prop) (w : World) : Keep S w w := ⟨rfl, rfl, rfl, Nat.le_refl _, fun _ _ _ => rfl⟩
theorem Keep.trans {S : Nat → Prop} {a b c : World} (h : Keep S a b) (k : Keep S b c) : Keep S a c :=
  ⟨k.os.trans h.os, k.tape.trans h.tape, k.output.trans h.output, Nat.le_trans h.size k.size, fun i hi hs => (k.block i (Nat.lt_of_lt_of_le hi h.size) hs).trans (h.block i hi hs)⟩
theorem Keep.mono {S S' : Nat → Prop} {a b : World} (h : Keep S a b) (hs : ∀ k, k < a.heap.size → S k → S' k) : Keep S' a b :=
  ⟨h.os, h.tape, h.output, h.size, fun k hk hn => h.block k hk (fun hk' => hn (hs k hk hk'))⟩
theorem Keep.of_grown {S : Nat → Prop} {w w' : World} {b : Nat} (h : w.grownBy w' (some b)) (hb : S b) : Keep S w w' :=
  ⟨h.os, h.tape, h.output, h.size, fun k hk hn => h.block k hk (fun e => hn (by injection e with e; rw [e]; exact hb))⟩
theorem Keep.of_below {S : Nat → Prop} {w w' : World} (h : Below w.heap.size w w') : Keep S w w' :=
  ⟨h.os, h.tape, h.output, h.size, fun k hk _ => h.block k hk⟩
theorem Keep.alloc (S : Nat → Prop) (w : World) (o : Obj) : Keep S w (w.alloc o) := Keep.of_below (below_alloc (Below.refl _ _) o)
theorem Keep.drewN (S : Nat → Prop) (w : World) (n : Nat) : Keep S w (w.drewN n) := Keep.of_below (pw_below_drewN (Below.refl _ _) n)
theorem Keep.drew (S : Nat → Prop) (w : World) : Keep S w w.drew := Keep.of_below (below_drew (Below.refl _ _))
theorem Keep.set {S : Nat → Prop} (w : World) (b o : Nat) (v : Value) (hb : S b) : Keep S w (w.setCell ⟨b, o, none⟩ v) :=
  ⟨rfl, rfl, rfl, by simp [World.setCell], fun k hk hn => heap_setCell_other w ⟨b, o, none⟩ k v (fun e => hn (by rw [e]; exact hb))⟩
theorem Keep.below {S : Nat → Prop} {B : Nat} {w w' : World} (h : Keep S w w') (hB : B ≤ w.heap.size) (hs : ∀ k, S k → B ≤ k) : Below B w w' :=
  ⟨h.os, h.tape, h.output, h.size, fun k hk => h.block k (by omega) (fun hk' => by have := hs k hk'; omega)⟩
theorem Keep.cell {S : Nat → Prop} {w w' : World} (h : Keep S w w') {k o : Nat} {v : Value} (hc : w.cell? ⟨k, o, none⟩ = some v) (hn : ¬ S k) : w'.cell? ⟨k, o, none⟩ = some v := by
  have hk : k < w.heap.size := World.block_lt_of_cell? w _ hc
  have := h.block k hk hn
  simp only [World.cell?] at hc ⊢
  rw [this]; exact hc
theorem Keep.frozen {S : Nat → Prop} {w w' : World} (h : Keep S w w') {k o : Nat} {b : Bool} (hk : k < w.heap.size) (hc : w.frozen? ⟨k, o, none⟩ = b) (hn : ¬ S k) : w'.frozen? ⟨k, o, none⟩ = b := by
  have := h.block k hk hn
  simp only [World.frozen?] at hc ⊢
  rw [this]; exact hc
section
variable {w w' : World} {bl cl : Nat} {A : Nat → Option Addr} {c : Nat → Nat} {L : List (List Int)}
theorem Lists.lt (h : Lists w bl cl A c L) : bl < w.heap.size := by
  obtain ⟨cur, hb, -⟩ := h.top
  exact (Array.getElem?_eq_some_iff.1 hb).1
theorem Lists.row_ne (h : Lists w bl cl A c L) {i : Nat} (hi : i < L.length) (hne : L[i] ≠ []) {b : Nat} (hA : A i = some ⟨b, 0, none⟩) : b ≠ bl := (h.old i hi b hA).2
theorem Lists.lb_lt (h : Lists w bl cl A c L) {k : Nat} (hk : LB bl A L.length k) : k < w.heap.size := by
  rcases hk with rfl | ⟨i, hi, hA⟩
  · exact h.lt
  · exact (h.old i hi k hA).1
theorem Lists.move (h : Lists w bl cl A c L) (hsz : w.heap.size ≤ w'.heap.size) (hb : w'.heap[bl]? = w.heap[bl]?) (hr : ∀ i (hi : i < L.length) b, A i = some ⟨b, 0, none⟩ → L[i] ≠ [] → w'.heap[b]? = w.heap[b]?) : Lists w' bl cl A c L := by
  obtain ⟨cur, h1, h2⟩ := h.top
  refine ⟨⟨cur, hb.trans h1, h2⟩, fun i hi hne => ?_, h.apart, h.cap, fun i hi b hA => ⟨Nat.lt_of_lt_of_le (h.old i hi b hA).1 hsz, (h.old i hi b hA).2⟩⟩
  obtain ⟨b, hA, hrow⟩ := h.row i hi hne
  exact ⟨b, hA, hrow.move (hr i hi b hA hne)⟩
theorem Lists.row_lt (h : Lists w bl cl A c L) {i : Nat} (hi : i < L.length) (hne : L[i] ≠ []) {b : Nat} (hA : A i = some ⟨b, 0, none⟩) : b < w.heap.size := by
  obtain ⟨b', hA', hr⟩ := h.row i hi hne
  rw [hA] at hA'
  injection hA' with hA'
  injection hA' with hA'
  subst hA'
  exact hr.lt
theorem Lists.keep {S : Nat → Prop} (h : Lists w bl cl A c L) (hk : Keep S w w') (hs : ∀ k, S k → ¬ LB bl A L.length k) : Lists w' bl cl A c L :=
  h.move hk.size (hk.block bl h.lt (fun hS => hs bl hS (.inl rfl))) (fun i hi b hA hne => hk.block b (h.row_lt hi hne hA) (fun hS => hs b hS (.inr ⟨i, hi, hA⟩)))
theorem Lists.below (h : Lists w bl cl A c L) (hb : Below w.heap.size w w') : Lists w' bl cl A c L :=
  h.keep (S := fun _ => False) (Keep.of_below hb) (fun _ hf => hf.elim)
/-- The header of a list. -/
theorem Lists.cell (h : Lists w bl cl A c L) {i : Nat} (hi : i < L.length) : w.cell? ⟨bl, i, none⟩ = some (.slice (A i) L[i].length (c i)) := by
  obtain ⟨cur, hb, -, -, -, hc⟩ := h.top
  simp only [World.cell?, hb]
  simpa using hc i hi
theorem Lists.frozen (h : Lists w bl cl A c L) (i : Nat) : w.frozen? ⟨bl, i, none⟩ = false := by
  obtain ⟨cur, hb, -⟩ := h.top
  simp [World.frozen?, hb]
theorem Lists.le (h : Lists w bl cl A c L) : L.length ≤ cl ∧ cl ≤ 9223372036854775807 := by
  obtain ⟨cur, hb, -, h1, h2, -⟩ := h.top
  exact ⟨h1, h2⟩
/-- A list is written in its own block (world w'), and its header is stored. -/
theorem Lists.put (h : Lists w bl cl A c L) {i : Nat} (hi : i < L.length) (hne : L[i] ≠ []) {b : Nat} (hA : A i = some ⟨b, 0, none⟩) {ys : List Int} (hg : w.grownBy w' (some b)) (hr : Row w' b (c i) ys) :
    Lists (w'.setCell ⟨bl, i, none⟩ (.slice (A i) ys.length (c i))) bl cl A c (L.set i ys) := by
  obtain ⟨cur, hb, hs, hl, hm, hc⟩ := h.top
  have hbne := h.row_ne hi hne hA
  have hb' : w'.heap[bl]? = some (.cells cur 24 (0, 0)) := (hg.block bl h.lt (fun e => hbne (by injection e with e; exact e.symm))).trans hb
  have hother : ∀ k, k ≠ bl → (w'.setCell ⟨bl, i, none⟩ (.slice (A i) ys.length (c i))).heap[k]? = w'.heap[k]? := fun k hk => heap_setCell_other w' ⟨bl, i, none⟩ k _ hk
  refine ⟨⟨cur.setIfInBounds i (.slice (A i) ys.length (c i)), heap_setCell_same w' bl i cur 24 _ hb', by simpa using hs, by simpa using hl, hm, ?_⟩, ?_, ?_, ?_, fun k hk b2 hA2 => ?_⟩
  · intro k hk
    rw [List.length_set] at hk
    rw [Array.getElem?_setIfInBounds]
    by_cases e : i = k
    · subst e
      rw [if_pos rfl, if_pos (by omega)]
      simp
    · rw [if_neg e, List.getElem_set_ne e]
      exact hc k hk
  · intro k hk hne'
    rw [List.length_set] at hk
    by_cases e : i = k
    · subst e
      refine ⟨b, hA, ?_⟩
      rw [List.getElem_set_self]
      exact hr.move (hother b hbne)
    · rw [List.getElem_set_ne e] at hne' ⊢
      obtain ⟨b2, hA2, hr2⟩ := h.row k hk hne'
      refine ⟨b2, hA2, (hr2.move (hg.block b2 hr2.lt ?_)).move (hother b2 (h.row_ne hk hne' hA2))⟩
      intro e2
      injection e2 with e2
      subst e2
      exact h.apart i k hi hk e b2 hA hA2
  · intro k k2 hk hk2
    rw [List.length_set] at hk hk2
    exact h.apart k k2 hk hk2
  · intro k hk
    rw [List.length_set] at hk
    by_cases e : i = k
    · subst e
      rw [List.getElem_set_self]
      exact ⟨hr.le, hr.max⟩
    · rw [List.getElem_set_ne e]
      exact h.cap k hk
  · rw [List.length_set] at hk
    have := h.old k hk b2 hA2
    exact ⟨by have := hg.size; simp [World.setCell]; omega, this.2⟩
theorem Lists.put_self (h : Lists w bl cl A c L) {i : Nat} (hi : i < L.length) : Lists (w.setCell ⟨bl, i, none⟩ (.slice (A i) L[i].length (c i))) bl cl A c L := by
  obtain ⟨cur, hb, hs, hl, hm, hc⟩ := h.top
  have hsame : cur.setIfInBounds i (.slice (A i) L[i].length (c i)) = cur := by
    apply Array.ext
    · simp
    · intro k h1 h2
      rw [Array.getElem_setIfInBounds (by simpa using h1)]
      by_cases e : i = k
      · subst e
        rw [if_pos rfl]
        have := hc i hi
        rw [Array.getElem?_eq_getElem h2] at this
        injection this with this
        exact this.symm
      · rw [if_neg e]
  refine h.move (by simp [World.setCell]) ?_ (fun k hk b hA hne => ?_)
  · rw [heap_setCell_same w bl i cur 24 _ hb, hb, hsame]
  · exact heap_setCell_other w ⟨bl, i, none⟩ b _ (h.row_ne hk hne hA)
end
end Go.Proofs.Ytilabipmgcpnjaa.Own
namespace Go.Proofs.Ytilabipmgcpnjaa.Own
open Go.RowKit Go.Proofs.YtilabipmgcpnjaaW.PrintWords Go.Proofs.YtilabipmgcpnjaaW.PrintLast Go.Proofs.YtilabipmgcpnjaaW.PrintMore
set_option linter.unusedVariables false
set_option linter.unusedSimpArgs false
theorem f65_nil (A : Option Addr) (c bk : Nat) (w : World) :
    Calls Try.prog 65 #[.slice A 0 c, .func (.func 63) #[] #[.pointer (some ⟨bk, 0, none⟩)]] w fun e w' => e = .returned (.int .i64 (-1)) ∧ w = w' := by
  go_enter Try.func65, Try.ntmps65
  go_wp2
  go_loop [8] (fun i => i = .int .i64 0) (fun _ => 0)
  case atStart => rfl
  case round =>
    subst hrel
    go_wp2
    go_ret
    exact ⟨rfl, rfl⟩
theorem f64_nil (A : Option Addr) (c bk : Nat) (w : World) :
    Calls Try.prog 64 #[.slice A 0 c, .func (.func 63) #[] #[.pointer (some ⟨bk, 0, none⟩)]] w fun e w' => e = .returned (.slice A 0 c) ∧ w = w' := by
  go_enter Try.func64, Try.ntmps64
  go_wp2_with (go_at_call 65; refine (f65_nil A c bk w).mono ?_; rintro e w' ⟨rfl, rfl⟩)
  go_ret
  exact ⟨rfl, rfl⟩
theorem f64_lists {bl cl : Nat} {A : Nat → Option Addr} {c : Nat → Nat} {L : List (List Int)} (i : Nat) (hi : i < L.length) (j : Int) (bk : Nat) (w : World) (hL : Lists w bl cl A c L) (hbk : ¬ LB bl A L.length bk) (hc : w.cell? ⟨bk, 0, none⟩ = some (.int .i64 j)) :
    Calls Try.prog 64 #[.slice (A i) L[i].length (c i), .func (.func 63) #[] #[.pointer (some ⟨bk, 0, none⟩)]] w fun e w' =>
      e = .returned (.slice (A i) (L[i].filter (fun x => x != j)).length (c i)) ∧
      Lists (w'.setCell ⟨bl, i, none⟩ (.slice (A i) (L[i].filter (fun x => x != j)).length (c i))) bl cl A c (L.set i (L[i].filter (fun x => x != j))) ∧
      Keep (fun k => A i = some ⟨k, 0, none⟩) w w' := by
  by_cases hne : L[i] = []
  · have h := f64_nil (A i) (c i) bk w
    have hs := hL.put_self hi
    have hset : L.set i L[i] = L := List.set_getElem_self hi
    rw [hne] at hs hset ⊢
    refine h.mono ?_
    rintro e w' ⟨rfl, rfl⟩
    refine ⟨rfl, ?_, Keep.refl _ _⟩
    simp only [List.filter_nil]
    rw [hset]
    exact hs
  · obtain ⟨b, hA, hr⟩ := hL.row i hi hne
    have hb : bk ≠ b := fun e => hbk (.inr ⟨i, hi, by rw [e]; exact hA⟩)
    have h := f64_any L[i] j b (c i) bk w hr hb hc
    rw [← hA] at h
    refine h.mono ?_
    rintro e w' ⟨rfl, hr', hg⟩
    exact ⟨rfl, hL.put hi hne hA hg hr', Keep.of_grown hg hA⟩
/-- i and j are taken out of each other's lists. -/
def dropL (L : List (List Int)) (i j : Nat) : List (List Int) :=
  (L.set i ((L.getD i []).filter (fun x => x != (j : Int)))).set j ((L.getD j []).filter (fun x => x != (i : Int)))
set_option maxHeartbeats 4000000 in
theorem f61_any {bl cl : Nat} {A : Nat → Option Addr} {c : Nat → Nat} {L : List (List Int)} (g i j : Nat) (w : World) (hL : Lists w bl cl A c L) (hg : ¬ LB bl A L.length g)
    (hc : w.cell? ⟨g, 0, none⟩ = some (.slice (some ⟨bl, 0, none⟩) L.length cl)) (hi : i < L.length) (hj : j < L.length) (hij : i ≠ j) :
    Calls Try.prog 61 #[.pointer (some ⟨g, 0, none⟩), .int .i64 i, .int .i64 j] w fun e w' =>
      e = .returned (.tuple #[]) ∧ Lists w' bl cl A c (dropL L i j) ∧ Keep (LB bl A L.length) w w' := by
  have hle := hL.le
  have ci := hL.cell hi
  have fi := hL.frozen i
  have HL := Aside0.mk hL
  have HG := Aside0.mk hg
  have HC := Aside0.mk hc
  clear hL hg
  have hix : (i : Int) < (L.length : Int) := by omega
  have hi0 : (0 : Int) ≤ (i : Int) := by omega
  have nb1 : g < w.heap.size := World.block_lt_of_cell? w _ hc
  have nb2 : bl < w.heap.size := World.block_lt_of_cell? w _ ci
  have hS : w.drew.cell? ⟨g, 0, none⟩ = some (.slice (some ⟨bl, 0, none⟩) L.length cl) ∧ w.drew.cell? ⟨bl, i, none⟩ = some (.slice (A i) L[i].length (c i)) := ⟨hc, ci⟩
  go_enter Try.func61, Try.ntmps61
  go_upto_region 1 with fail
  refine wp_region_T 17 (fun w' => w'.cell? ⟨g, 0, none⟩ = some (.slice (some ⟨bl, 0, none⟩) L.length cl) ∧ w'.cell? ⟨bl, i, none⟩ = some (.slice (A i) L[i].length (c i))) (by kernel_rfl) ?_
  refine wpAnyT_take (i := 0) (v := ?_) rfl (by kernel_rfl) (by kernel_rfl) (by kernel_rfl) (by kernel_rfl) (fun _ _ _ h => h) (Or.inl ⟨by rfl, ?_⟩) (by assumption) ?_
  rotate_left
  · intro wS hSw; (try dsimp only at hSw); go_simp; try with_reducible rfl
  (try simp only [Act.put, List.setIfInBounds_toArray, List.set_cons_zero, List.set_cons_succ])
  refine wpAnyT_take (i := 1) (v := ?_) rfl (by kernel_rfl) (by kernel_rfl) (by kernel_rfl) (by kernel_rfl) (fun _ _ _ h => h) (Or.inl ⟨by rfl, ?_⟩) (by assumption) ?_
  rotate_left
  · intro wS hSw; (try dsimp only at hSw); go_simp; try with_reducible rfl
  (try simp only [Act.put, List.setIfInBounds_toArray, List.set_cons_zero, List.set_cons_succ])
  refine wpAnyT_take (i := 2) (v := ?_) rfl (by kernel_rfl) (by kernel_rfl) (by kernel_rfl) (by kernel_rfl) (fun _ _ _ h => h) (Or.inl ⟨by rfl, ?_⟩) (by assumption) ?_
  rotate_left
  · intro wS hSw; (try dsimp only at hSw); go_simp; try with_reducible rfl
  (try simp only [Act.put, List.setIfInBounds_toArray, List.set_cons_zero, List.set_cons_succ])
  refine wpAnyT_take (i := 3) (v := ?_) rfl (by kernel_rfl) (by kernel_rfl) (by kernel_rfl) (by kernel_rfl) (fun _ _ _ h => h) (Or.inl ⟨by rfl, ?_⟩) (by assumption) ?_
  rotate_left
  · intro wS hSw; (try dsimp only at hSw); go_simp; try with_reducible rfl
  (try simp only [Act.put, List.setIfInBounds_toArray, List.set_cons_zero, List.set_cons_succ])
  refine wpAnyT_take (i := 4) (v := ?_) rfl (by kernel_rfl) (by kernel_rfl) (by kernel_rfl) (by kernel_rfl) (fun _ _ _ h => h) (Or.inl ⟨by rfl, ?_⟩) (by assumption) ?_
  rotate_left
  · intro wS hSw; (try dsimp only at hSw); go_simp; try with_reducible rfl
  (try simp only [Act.put, List.setIfInBounds_toArray, List.set_cons_zero, List.set_cons_succ])
  refine wpAnyT_take (i := 5) (v := ?_) rfl (by kernel_rfl) (by kernel_rfl) (by kernel_rfl) (by kernel_rfl) (fun _ _ _ h => h) (Or.inl ⟨by rfl, ?_⟩) (by assumption) ?_
  rotate_left
  · intro wS hSw; (try dsimp only at hSw); go_simp; try with_reducible rfl
  (try simp only [Act.put, List.setIfInBounds_toArray, List.set_cons_zero, List.set_cons_succ])
  refine wpAnyT_take (i := 6) (v := ?_) rfl (by kernel_rfl) (by kernel_rfl) (by kernel_rfl) (by kernel_rfl) (fun _ _ _ h => h) (Or.inl ⟨by rfl, ?_⟩) (by assumption) ?_
  rotate_left
  · intro wS hSw; (try dsimp only at hSw); go_simp; try with_reducible rfl
  (try simp only [Act.put, List.setIfInBounds_toArray, List.set_cons_zero, List.set_cons_succ])
  refine wpAnyT_take (i := 7) (v := ?_) rfl (by kernel_rfl) (by kernel_rfl) (by kernel_rfl) (by kernel_rfl) (fun _ _ _ h => h) (Or.inl ⟨by rfl, ?_⟩) (by assumption) ?_
  rotate_left
  · intro wS hSw; (try dsimp only at hSw); go_simp; try with_reducible rfl
  (try simp only [Act.put, List.setIfInBounds_toArray, List.set_cons_zero, List.set_cons_succ])
  refine wpAnyT_take (i := 8) (v := ?_) rfl (by kernel_rfl) (by kernel_rfl) (by kernel_rfl) (by kernel_rfl) (fun _ _ _ h => h) (Or.inl ⟨by rfl, ?_⟩) (by assumption) ?_
  rotate_left
  · intro wS hSw; (try dsimp only at hSw); go_simp; try with_reducible rfl
  (try simp only [Act.put, List.setIfInBounds_toArray, List.set_cons_zero, List.set_cons_succ])
  refine wpAnyT_take (i := 9) (v := ?_) rfl (by kernel_rfl) (by kernel_rfl) (by kernel_rfl) (by kernel_rfl) (fun _ _ _ h => h) (Or.inl ⟨by rfl, ?_⟩) (by assumption) ?_
  rotate_left
  · intro wS hSw; (try dsimp only at hSw); go_simp; try with_reducible rfl
  (try simp only [Act.put, List.setIfInBounds_toArray, List.set_cons_zero, List.set_cons_succ])
  refine wpAnyT_take (i := 10) (v := ?_) rfl (by kernel_rfl) (by kernel_rfl) (by kernel_rfl) (by kernel_rfl) (fun _ _ _ h => h) (Or.inl ⟨by rfl, ?_⟩) (by assumption) ?_
  rotate_left
  · intro wS hSw; (try dsimp only at hSw); go_simp; try with_reducible rfl
  (try simp only [Act.put, List.setIfInBounds_toArray, List.set_cons_zero, List.set_cons_succ])
  refine wpAnyT_take (i := 11) (v := ?_) rfl (by kernel_rfl) (by kernel_rfl) (by kernel_rfl) (by kernel_rfl) (fun _ _ _ h => h) (Or.inl ⟨by rfl, ?_⟩) (by assumption) ?_
  rotate_left
  · intro wS hSw; (try dsimp only at hSw); go_simp; try with_reducible rfl
  (try simp only [Act.put, List.setIfInBounds_toArray, List.set_cons_zero, List.set_cons_succ])
  refine wpAnyT_take (i := 12) (v := ?_) rfl (by kernel_rfl) (by kernel_rfl) (by kernel_rfl) (by kernel_rfl) (fun _ _ _ h => h) (Or.inl ⟨by rfl, ?_⟩) (by assumption) ?_
  rotate_left
  · intro wS hSw; (try dsimp only at hSw); go_simp; try with_reducible rfl
  (try simp only [Act.put, List.setIfInBounds_toArray, List.set_cons_zero, List.set_cons_succ])
  refine wpAnyT_take (i := 13) (v := ?_) rfl (by kernel_rfl) (by kernel_rfl) (by kernel_rfl) (by kernel_rfl) (fun _ _ _ h => h) (Or.inl ⟨by rfl, ?_⟩) (by assumption) ?_
  rotate_left
  · intro wS hSw; (try dsimp only at hSw); go_simp; try with_reducible rfl
  (try simp only [Act.put, List.setIfInBounds_toArray, List.set_cons_zero, List.set_cons_succ])
  refine wpAnyT_one (i := 14) (by kernel_rfl) rfl (fun K hK => ?_)
  go_wp2_with (go_at_call 62; refine (f62_any _ _).mono ?_; rintro e w' ⟨rfl, rfl⟩)
  refine hK _ _ (fun _ => ?_) ?_
  · (go_keep)
  clear hK K
  (try simp only [Act.put, List.setIfInBounds_toArray, List.set_cons_zero, List.set_cons_succ])
  refine wpAnyT_one (i := 15) (by kernel_rfl) rfl (fun K hK => ?_)
  go_wp2_with (go_at_call 64; refine (f64_lists i hi (j : Int) _ _ (HL.out.below (by repeat (first | exact Below.refl _ _ | apply below_alloc | apply pw_below_drewN | apply below_drew1))) (fun h => absurd (HL.out.lb_lt h) (by simp)) (by simp)).mono ?_; rintro e w5 ⟨rfl, hL2, hk2⟩)
  have hkk := Keep.trans (a := w) (Keep.of_below (S := fun k => A i = some ⟨k, 0, none⟩) (by repeat (first | exact Below.refl _ _ | apply below_alloc | apply pw_below_drewN | apply below_drew1))) hk2
  have q1 := hkk.cell hc (fun h => HG.out (.inr ⟨i, hi, h⟩))
  have q2 := hkk.cell ci (fun h => absurd rfl (HL.out.old i hi bl h).2)
  have q3 := hkk.frozen HL.out.lt fi (fun h => absurd rfl (HL.out.old i hi bl h).2)
  have LL := Aside0.mk hL2
  have KK := Aside0.mk (hkk.mono (S' := LB bl A L.length) (fun k _ h => .inr ⟨i, hi, h⟩))
  clear hL2 hk2 hkk
  have hS5 := And.intro q1 q2
  refine hK _ _ (fun _ => ?_) ?_
  · exact hS5
  clear hK K
  (try simp only [Act.put, List.setIfInBounds_toArray, List.set_cons_zero, List.set_cons_succ])
  refine wpAnyT_take (i := 16) (v := ?_) rfl (by kernel_rfl) (by kernel_rfl) (by kernel_rfl) (by kernel_rfl) (fun _ _ _ h => h) (Or.inl ⟨by rfl, ?_⟩) (by assumption) ?_
  rotate_left
  · intro wS hSw; (try dsimp only at hSw); go_simp; try with_reducible rfl
  (try simp only [Act.put, List.setIfInBounds_toArray, List.set_cons_zero, List.set_cons_succ])
  refine wpAnyT_one (i := 17) (by kernel_rfl) rfl (fun K hK => ?_)
  go_wp2
  refine hK _ _ (fun h => absurd rfl h) ?_
  clear hK K
  (try simp only [Act.put, List.setIfInBounds_toArray, List.set_cons_zero, List.set_cons_succ])
  refine wpAnyT_done (by kernel_rfl) ?_ _
  have KK2 := Aside0.mk (KK.out.trans (Keep.set _ bl i (.slice (A i) (L[i].filter (fun x => x != (j : Int))).length (c i)) (.inl rfl)))
  generalize w5.setCell ⟨bl, i, none⟩ (.slice (A i) (L[i].filter (fun x => x != (j : Int))).length (c i)) = wc at LL KK2 ⊢
  clear q1 q2 q3 KK hS ci fi hc nb1 nb2 hix hi0 hle
  clear hS5
  clear w5
  obtain ⟨M, hM⟩ : ∃ M, L.set i (L[i].filter (fun x => x != (j : Int))) = M := ⟨_, rfl⟩
  rw [hM] at LL
  have hlen : M.length = L.length := by rw [← hM, List.length_set]
  have hjM : j < M.length := by omega
  have hMj : M[j] = L[j] := by subst hM; rw [List.getElem_set_ne hij]
  have HM := Aside0.mk hM
  have hc := KK2.out.cell HC.out HG.out
  rw [← hlen] at hc
  have HGM : ¬ LB bl A M.length g := by rw [hlen]; exact HG.out
  have HLEN := Aside0.mk hlen
  have HMJ := Aside0.mk hMj
  have HGA := Aside0.mk HGM
  clear hM hMj hlen HGM
  have cj := LL.out.cell hjM
  have fj := LL.out.frozen j
  have hjx : (j : Int) < (M.length : Int) := by omega
  have hj0 : (0 : Int) ≤ (j : Int) := by omega
  have nb1 : g < wc.heap.size := World.block_lt_of_cell? wc _ hc
  have nb2 : bl < wc.heap.size := World.block_lt_of_cell? wc _ cj
  have hle := LL.out.le
  have hS : wc.drew.cell? ⟨g, 0, none⟩ = some (.slice (some ⟨bl, 0, none⟩) M.length cl) ∧ wc.drew.cell? ⟨bl, j, none⟩ = some (.slice (A j) M[j].length (c j)) := ⟨hc, cj⟩
  go_upto_region 2 with fail
  refine wp_region_T 17 (fun w' => w'.cell? ⟨g, 0, none⟩ = some (.slice (some ⟨bl, 0, none⟩) M.length cl) ∧ w'.cell? ⟨bl, j, none⟩ = some (.slice (A j) M[j].length (c j))) (by kernel_rfl) ?_
  refine wpAnyT_take (i := 0) (v := ?_) rfl (by kernel_rfl) (by kernel_rfl) (by kernel_rfl) (by kernel_rfl) (fun _ _ _ h => h) (Or.inl ⟨by rfl, ?_⟩) (by assumption) ?_
  rotate_left
  · intro wS hSw; (try dsimp only at hSw); go_simp; try with_reducible rfl
  (try simp only [Act.put, List.setIfInBounds_toArray, List.set_cons_zero, List.set_cons_succ])
  refine wpAnyT_take (i := 1) (v := ?_) rfl (by kernel_rfl) (by kernel_rfl) (by kernel_rfl) (by kernel_rfl) (fun _ _ _ h => h) (Or.inl ⟨by rfl, ?_⟩) (by assumption) ?_
  rotate_left
  · intro wS hSw; (try dsimp only at hSw); go_simp; try with_reducible rfl
  (try simp only [Act.put, List.setIfInBounds_toArray, List.set_cons_zero, List.set_cons_succ])
  refine wpAnyT_take (i := 2) (v := ?_) rfl (by kernel_rfl) (by kernel_rfl) (by kernel_rfl) (by kernel_rfl) (fun _ _ _ h => h) (Or.inl ⟨by rfl, ?_⟩) (by assumption) ?_
  rotate_left
  · intro wS hSw; (try dsimp only at hSw); go_simp; try with_reducible rfl
  (try simp only [Act.put, List.setIfInBounds_toArray, List.set_cons_zero, List.set_cons_succ])
  refine wpAnyT_take (i := 3) (v := ?_) rfl (by kernel_rfl) (by kernel_rfl) (by kernel_rfl) (by kernel_rfl) (fun _ _ _ h => h) (Or.inl ⟨by rfl, ?_⟩) (by assumption) ?_
  rotate_left
  · intro wS hSw; (try dsimp only at hSw); go_simp; try with_reducible rfl
  (try simp only [Act.put, List.setIfInBounds_toArray, List.set_cons_zero, List.set_cons_succ])
  refine wpAnyT_take (i := 4) (v := ?_) rfl (by kernel_rfl) (by kernel_rfl) (by kernel_rfl) (by kernel_rfl) (fun _ _ _ h => h) (Or.inl ⟨by rfl, ?_⟩) (by assumption) ?_
  rotate_left
  · intro wS hSw; (try dsimp only at hSw); go_simp; try with_reducible rfl
  (try simp only [Act.put, List.setIfInBounds_toArray, List.set_cons_zero, List.set_cons_succ])
  refine wpAnyT_take (i := 5) (v := ?_) rfl (by kernel_rfl) (by kernel_rfl) (by kernel_rfl) (by kernel_rfl) (fun _ _ _ h => h) (Or.inl ⟨by rfl, ?_⟩) (by assumption) ?_
  rotate_left
  · intro wS hSw; (try dsimp only at hSw); go_simp; try with_reducible rfl
  (try simp only [Act.put, List.setIfInBounds_toArray, List.set_cons_zero, List.set_cons_succ])
  refine wpAnyT_take (i := 6) (v := ?_) rfl (by kernel_rfl) (by kernel_rfl) (by kernel_rfl) (by kernel_rfl) (fun _ _ _ h => h) (Or.inl ⟨by rfl, ?_⟩) (by assumption) ?_
  rotate_left
  · intro wS hSw; (try dsimp only at hSw); go_simp; try with_reducible rfl
  (try simp only [Act.put, List.setIfInBounds_toArray, List.set_cons_zero, List.set_cons_succ])
  refine wpAnyT_take (i := 7) (v := ?_) rfl (by kernel_rfl) (by kernel_rfl) (by kernel_rfl) (by kernel_rfl) (fun _ _ _ h => h) (Or.inl ⟨by rfl, ?_⟩) (by assumption) ?_
  rotate_left
  · intro wS hSw; (try dsimp only at hSw); go_simp; try with_reducible rfl
  (try simp only [Act.put, List.setIfInBounds_toArray, List.set_cons_zero, List.set_cons_succ])
  refine wpAnyT_take (i := 8) (v := ?_) rfl (by kernel_rfl) (by kernel_rfl) (by kernel_rfl) (by kernel_rfl) (fun _ _ _ h => h) (Or.inl ⟨by rfl, ?_⟩) (by assumption) ?_
  rotate_left
  · intro wS hSw; (try dsimp only at hSw); go_simp; try with_reducible rfl
  (try simp only [Act.put, List.setIfInBounds_toArray, List.set_cons_zero, List.set_cons_succ])
  refine wpAnyT_take (i := 9) (v := ?_) rfl (by kernel_rfl) (by kernel_rfl) (by kernel_rfl) (by kernel_rfl) (fun _ _ _ h => h) (Or.inl ⟨by rfl, ?_⟩) (by assumption) ?_
  rotate_left
  · intro wS hSw; (try dsimp only at hSw); go_simp; try with_reducible rfl
  (try simp only [Act.put, List.setIfInBounds_toArray, List.set_cons_zero, List.set_cons_succ])
  refine wpAnyT_take (i := 10) (v := ?_) rfl (by kernel_rfl) (by kernel_rfl) (by kernel_rfl) (by kernel_rfl) (fun _ _ _ h => h) (Or.inl ⟨by rfl, ?_⟩) (by assumption) ?_
  rotate_left
  · intro wS hSw; (try dsimp only at hSw); go_simp; try with_reducible rfl
  (try simp only [Act.put, List.setIfInBounds_toArray, List.set_cons_zero, List.set_cons_succ])
  refine wpAnyT_take (i := 11) (v := ?_) rfl (by kernel_rfl) (by kernel_rfl) (by kernel_rfl) (by kernel_rfl) (fun _ _ _ h => h) (Or.inl ⟨by rfl, ?_⟩) (by assumption) ?_
  rotate_left
  · intro wS hSw; (try dsimp only at hSw); go_simp; try with_reducible rfl
  (try simp only [Act.put, List.setIfInBounds_toArray, List.set_cons_zero, List.set_cons_succ])
  refine wpAnyT_take (i := 12) (v := ?_) rfl (by kernel_rfl) (by kernel_rfl) (by kernel_rfl) (by kernel_rfl) (fun _ _ _ h => h) (Or.inl ⟨by rfl, ?_⟩) (by assumption) ?_
  rotate_left
  · intro wS hSw; (try dsimp only at hSw); go_simp; try with_reducible rfl
  (try simp only [Act.put, List.setIfInBounds_toArray, List.set_cons_zero, List.set_cons_succ])
  refine wpAnyT_take (i := 13) (v := ?_) rfl (by kernel_rfl) (by kernel_rfl) (by kernel_rfl) (by kernel_rfl) (fun _ _ _ h => h) (Or.inl ⟨by rfl, ?_⟩) (by assumption) ?_
  rotate_left
  · intro wS hSw; (try dsimp only at hSw); go_simp; try with_reducible rfl
  (try simp only [Act.put, List.setIfInBounds_toArray, List.set_cons_zero, List.set_cons_succ])
  refine wpAnyT_one (i := 14) (by kernel_rfl) rfl (fun K hK => ?_)
  go_wp2_with (go_at_call 62; refine (f62_any _ _).mono ?_; rintro e w' ⟨rfl, rfl⟩)
  refine hK _ _ (fun _ => ?_) ?_
  · (go_keep)
  clear hK K
  (try simp only [Act.put, List.setIfInBounds_toArray, List.set_cons_zero, List.set_cons_succ])
  refine wpAnyT_one (i := 15) (by kernel_rfl) rfl (fun K hK => ?_)
  go_wp2_with (go_at_call 64; refine (f64_lists j hjM (i : Int) _ _ (LL.out.below (by repeat (first | exact Below.refl _ _ | apply below_alloc | apply pw_below_drewN | apply below_drew1))) (fun h => absurd (LL.out.lb_lt h) (by simp)) (by simp)).mono ?_; rintro e w5 ⟨rfl, hL2, hk2⟩)
  have hkk := Keep.trans (a := wc) (Keep.of_below (S := fun k => A j = some ⟨k, 0, none⟩) (by repeat (first | exact Below.refl _ _ | apply below_alloc | apply pw_below_drewN | apply below_drew1))) hk2
  have q1 := hkk.cell hc (fun h => HGA.out (.inr ⟨j, hjM, h⟩))
  have q2 := hkk.cell cj (fun h => absurd rfl (LL.out.old j hjM bl h).2)
  have q3 := hkk.frozen LL.out.lt fj (fun h => absurd rfl (LL.out.old j hjM bl h).2)
  have L5 := Aside0.mk hL2
  have K5 := Aside0.mk (hkk.mono (S' := LB bl A L.length) (fun k _ h => .inr ⟨j, by rw [← HLEN.out]; exact hjM, h⟩))
  clear hL2 hk2 hkk
  have hS5 := And.intro q1 q2
  refine hK _ _ (fun _ => ?_) ?_
  · exact hS5
  clear hK K
  (try simp only [Act.put, List.setIfInBounds_toArray, List.set_cons_zero, List.set_cons_succ])
  refine wpAnyT_take (i := 16) (v := ?_) rfl (by kernel_rfl) (by kernel_rfl) (by kernel_rfl) (by kernel_rfl) (fun _ _ _ h => h) (Or.inl ⟨by rfl, ?_⟩) (by assumption) ?_
  rotate_left
  · intro wS hSw; (try dsimp only at hSw); go_simp; try with_reducible rfl
  (try simp only [Act.put, List.setIfInBounds_toArray, List.set_cons_zero, List.set_cons_succ])
  refine wpAnyT_one (i := 17) (by kernel_rfl) rfl (fun K hK => ?_)
  go_wp2
  refine hK _ _ (fun h => absurd rfl h) ?_
  clear hK K
  (try simp only [Act.put, List.setIfInBounds_toArray, List.set_cons_zero, List.set_cons_succ])
  refine wpAnyT_done (by kernel_rfl) ?_ _
  go_wp2
  go_end0
  refine ⟨rfl, ?_, (KK2.out.trans K5.out).trans (Keep.set _ bl j _ (.inl rfl))⟩
  have he : dropL L i j = M.set j (M[j].filter (fun x => x != (i : Int))) := by
    rw [HMJ.out, ← HM.out]
    unfold dropL
    rw [List.getD_eq_getElem?_getD, List.getElem?_eq_getElem hi, List.getD_eq_getElem?_getD, List.getElem?_eq_getElem hj]
    rfl
  rw [he]
  exact L5.out
end Go.Proofs.Ytilabipmgcpnjaa.Own
namespace Go.Proofs.Ytilabipmgcpnjaa.Own
open Go.RowKit Go.Proofs.YtilabipmgcpnjaaW.PrintWords Go.Proofs.YtilabipmgcpnjaaW.PrintLast Go.Proofs.YtilabipmgcpnjaaW.PrintMore
set_option linter.unusedVariables false
set_option linter.unusedSimpArgs false
/-- What Clone hands back. -/
def Cloned (w : World) (xs : List Int) (e : Ending) (w' : World) : Prop := ∃ v : Value, e = .returned v ∧ Kd.R (Kd.int .i64) 3 w' w.heap.size (fun _ => True) v xs ∧ Below w.heap.size w w'
set_option maxHeartbeats 2000000 in
theorem f50_any (A : Option Addr) (c : Nat) (xs : List Int) (w : World) (hr : Kd.C (Kd.int .i64) w A xs.length xs) (hc : xs.length ≤ c) (hl : xs.length * 8 ≤ 140737488355328) :
    Calls Try.prog 50 #[.slice A xs.length c] w (Cloned w xs) := by
  have HR := Aside0.mk hr
  have HC := Aside0.mk hc
  have HLn := Aside0.mk hl
  clear hr hc hl
  cases A with
  | none =>
    have h0 : xs = [] := by
      have := HR.out.2.2
      cases xs with
      | nil => rfl
      | cons x xs => obtain ⟨ad, h, _⟩ := this (by simp); cases h
    subst h0
    have he := fun W : World => Lib.run_eql_slice_nil (P := Try.prog) W 24 3 none 0 c 0 0 Try.underlying24
    go_enter Try.func50, Try.ntmps50
    go_wp2
    go_ret
    exact ⟨_, rfl, Kd.R_nil _ _ _ _ _, Below.refl _ _⟩
  | some ad =>
    have he := fun W : World => Lib.run_eql_slice_nil (P := Try.prog) W 24 3 (some ad) xs.length c 0 0 Try.underlying24
    obtain ⟨y0, hy0⟩ : ∃ y_ : List Int, y_ = ([] : List Int) := ⟨_, rfl⟩
    have Ny0 := Aside0.mk hy0
    clear hy0
    have HB := Aside0.mk (Below.refl w.heap.size w)
    go_enter Try.func50, Try.ntmps50
    go_wp2_with (first | ((with_reducible refine gate_dst (N := 5) rfl ?_); refine Kd.R_lit (Kd.int .i64) _ 3 ?hg (N := 5) ?hd (xs := ([] : List Int)) (inner := []) (ok := fun _ => True) (okp := fun _ => True) ?hr ?hp (fun _ hk => hk) trivial (Below.refl _ _) (Nat.le_refl _) (by simp) ?_; (case hd => rfl); (case hg => rfl); (case hr => first | (go_simp; done) | (go_simp; rfl)); (case hp => exact (Reps.none _ _)); intro v102 w7 ho8 hb hg_ hnew_; clear hg_ hnew_; (first | rw [← Ny0.out] at ho8 | (simp only [Int.reduceToNat] at ho8; rw [← Ny0.out] at ho8)); have HO103 := Aside0.mk ho8; have n1_ := Aside0.mk (below_step HB.out hb); clear HB; have HB := n1_; clear n1_ hb ho8) | ((with_reducible refine gate_builtin (b := .append) (xs := #[.tmp 5, .tmp 6]) rfl ?_); at_builtin; refine Kd.R_append_rows (Kd.int .i64) (w0 := w) w.heap.size rfl (.tmp 5) (.tmp 6) 24 3 (.int .i64 0) 8 rfl Try.underlying24 info3 rfl (by decide) (by omega) v102 y0 xs _ _ _ (fun _ => True) (fun _ => False) rfl rfl ?aO ?aR (fun _ _ h => h) (fun _ h => h.elim) ?aF ?aB ?aS ?aL ?_; (case aR => exact (Kd.C_below HR.out HB.out)); (case aB => exact HB.out); (case aF => exact (fun _ _ => trivial)); (case aO => exact HO103.out); (case aS => exact below_size HB.out); (case aL => have h1 := HLn.out; have h2 := Ny0.out; subst h2; simp only [List.length_nil]; omega); intro v106 w10 ho hb hg hat; have HO107 := Aside0.mk ho; have n0_ := Aside0.mk hb; clear HB; have HB := n0_; clear n0_ ho hb hg hat))
    go_ret
    refine ⟨_, rfl, ?_, HB.out⟩
    have h := HO107.out
    rw [Ny0.out, List.nil_append] at h
    exact h
end Go.Proofs.Ytilabipmgcpnjaa.Own
namespace Go.Proofs.Ytilabipmgcpnjaa.Own
open Go.RowKit Go.Proofs.YtilabipmgcpnjaaW.PrintWords Go.Proofs.YtilabipmgcpnjaaW.PrintLast Go.Proofs.YtilabipmgcpnjaaW.PrintMore
set_option linter.unusedVariables false
set_option linter.unusedSimpArgs false
/-- Whole numbers that lie in block b from cell o on. -/
def Cells (w : World) (b o : Nat) (xs : List Int) : Prop := ∀ k, k < xs.length → w.cell? ⟨b, o + k, none⟩ = some (.int .i64 (xs.getD k 0))
theorem Row.cells {w : World} {b c : Nat} {xs : List Int} (h : Row w b c xs) : Cells w b 0 xs := fun k hk => by rw [Nat.zero_add]; exact h.cell k hk
theorem Cells.drop {w : World} {b o : Nat} {xs : List Int} (h : Cells w b o xs) (m : Nat) : Cells w b (o + m) (xs.drop m) := fun k hk => by
  rw [List.length_drop] at hk
  have := h (m + k) (by omega)
  rw [← Nat.add_assoc] at this
  rw [this, List.getD_eq_getElem?_getD, List.getD_eq_getElem?_getD, List.getElem?_drop]
theorem Cells.keep {S : Nat → Prop} {w w' : World} {b o : Nat} {xs : List Int} (h : Cells w b o xs) (hk : Keep S w w') (hn : ¬ S b) : Cells w' b o xs :=
  fun k hk2 => hk.cell (h k hk2) hn
set_option maxHeartbeats 1000000 in
theorem f57_any (xs : List Int) (j : Int) (b o c : Nat) (w : World) (hr : Cells w b o xs) (hm : xs.length ≤ 9223372036854775807) :
    Calls Try.prog 57 #[.slice (some ⟨b, o, none⟩) xs.length c, .int .i64 j] w fun e w' => e = .returned (.int .i64 (ixOf xs j)) ∧ w = w' := by
  have HR := Aside0.mk hr
  clear hr
  go_enter Try.func57, Try.ntmps57
  go_wp2
  go_loop [8] (fun i => ∃ k : Nat, k ≤ xs.length ∧ i = .int .i64 k ∧ Aside0 (j ∉ xs.take k)) (fun i => xs.length - (intOf i).toNat)
  case atStart => exact ⟨0, Nat.zero_le _, rfl, ⟨by simp⟩⟩
  case round =>
    obtain ⟨k, hk, rfl, hn⟩ := hrel
    by_cases hlt : k < xs.length
    · have hcell := HR.out k hlt
      obtain ⟨x, hx⟩ : ∃ x, xs.getD k 0 = x := ⟨_, rfl⟩
      rw [hx] at hcell
      have HX := Aside0.mk hx
      clear hx
      by_cases he : x = j
      · have hb : (j == x) = true := by simpa using he.symm
        have hb2 : (x == j) = true := by simpa using he
        have he' := Aside0.mk he
        clear he
        go_wp2
        go_ret
        exact ⟨ret_int (ixOf_at xs j k hlt hn.out (HX.out.trans he'.out)).symm, rfl⟩
      · have hb : (j == x) = false := by simpa using Ne.symm he
        have hb2 : (x == j) = false := by simpa using he
        have he' := Aside0.mk he
        clear he
        go_wp2
        go_round
        case rel => exact ⟨k + 1, by omega, by go_num, ⟨mem_take_succ hlt hn.out (by rw [HX.out]; exact he'.out)⟩⟩
        case measure => simp [intOf]; omega
    · have hkk : k = xs.length := by omega
      have hn2 := Aside0.mk hn.out
      clear hn
      go_wp2
      go_ret
      exact ⟨ret_int (ixOf_none xs j (by have := hn2.out; rw [hkk, List.take_length] at this; exact this)).symm, rfl⟩
theorem ixOf_ge (xs : List Int) (j : Int) : decide (ixOf xs j ≥ 0) = decide (j ∈ xs) := by
  unfold ixOf
  by_cases h : j ∈ xs
  · rw [if_pos h]; simp [h]
  · rw [if_neg h]; simp [h]
theorem f58_any (xs : List Int) (j : Int) (b o c : Nat) (w : World) (hr : Cells w b o xs) (hm : xs.length ≤ 9223372036854775807) :
    Calls Try.prog 58 #[.slice (some ⟨b, o, none⟩) xs.length c, .int .i64 j] w fun e w' => e = .returned (.bool (decide (j ∈ xs))) ∧ w = w' := by
  have h := f57_any xs j b o c w hr hm
  rw [← ixOf_ge]
  generalize ixOf xs j = x at h ⊢
  go_enter Try.func58, Try.ntmps58
  go_wp2_with (go_at_call 57; refine h.mono ?_; rintro e w' ⟨rfl, rfl⟩)
  go_ret
  exact ⟨rfl, rfl⟩
end Go.Proofs.Ytilabipmgcpnjaa.Own
namespace Go.Proofs.Ytilabipmgcpnjaa.Own
open Go.RowKit Go.Proofs.YtilabipmgcpnjaaW.PrintWords Go.Proofs.YtilabipmgcpnjaaW.PrintLast Go.Proofs.YtilabipmgcpnjaaW.PrintMore
set_option linter.unusedVariables false
set_option linter.unusedSimpArgs false
theorem Row.reads {w : World} {b c : Nat} {xs : List Int} (h : Row w b c xs) : Kd.C (Kd.int .i64) w (some ⟨b, 0, none⟩) xs.length xs := by
  refine ⟨rfl, Nat.le_trans h.le h.max, fun _ => ⟨_, rfl, fun j p hj => ⟨[.int .i64 p], rfl, rfl, fun i u hu => ?_⟩⟩⟩
  have hlt := (List.getElem?_eq_some_iff.1 hj).1
  cases i with
  | succ i => simp at hu
  | zero =>
    simp only [List.getElem?_cons_zero, Option.some.injEq] at hu
    subst hu
    have := h.cell j hlt
    rw [List.getD_eq_getElem?_getD, hj] at this
    show w.cell? (Addr.add ⟨b, 0, none⟩ (j * 1 + 0)) = _
    rw [show Addr.add ⟨b, 0, none⟩ (j * 1 + 0) = ⟨b, j, none⟩ by simp [Addr.add]; omega]
    exact this
/-- A row that was just made. -/
theorem made_row {w w' : World} {v : Value} {xs : List Int} (h : Kd.R (Kd.int .i64) 3 w' w.heap.size (fun _ => True) v xs) :
    ∃ A c, v = .slice A xs.length c ∧ xs.length ≤ c ∧ c ≤ 9223372036854775807 ∧ (∀ b, A = some ⟨b, 0, none⟩ → w.heap.size ≤ b ∧ b < w'.heap.size) ∧ (xs ≠ [] → ∃ b, A = some ⟨b, 0, none⟩ ∧ w.heap.size ≤ b ∧ Row w' b c xs) ∧ (∀ a, A = some a → ∃ b, a = ⟨b, 0, none⟩) := by
  obtain ⟨_, inner, ⟨hl, ho⟩, hr⟩ := h
  rcases ho with ⟨hv, h0⟩ | ⟨g, cap, cur, hv, hb, hh, hn, hm, hs, ht⟩
  · have : xs = [] := List.length_eq_zero_iff.1 h0
    subst this
    refine ⟨none, 0, hv, Nat.le_refl _, by omega, ?_, fun h => absurd rfl h, ?_⟩
    · intro b hb; cases hb
    · intro a ha; cases ha
  · have hlt : g < w'.heap.size := (Array.getElem?_eq_some_iff.1 hh).1
    have hinner : inner = nums .i64 xs := by
      apply List.ext_getElem?
      intro j
      have h1 : inner.length = xs.length := by have := hr.1; simpa [Kd.int, Kd.scalar] using this
      rcases Nat.lt_or_ge j xs.length with hj | hj
      · have h2 := hr.2 j xs[j] (List.getElem?_eq_getElem hj)
        have h3 : (inner.drop (j * 1)).take 1 = [Value.int .i64 xs[j]] := h2
        rw [Nat.mul_one] at h3
        have h4 := congrArg (fun l => l[0]?) h3
        simp only [List.getElem?_take, List.getElem?_drop] at h4
        simp at h4
        rw [h4]
        simp [nums, hj]
      · rw [List.getElem?_eq_none (by omega), List.getElem?_eq_none (by simpa [nums] using hj)]
    refine ⟨some ⟨g, 0, none⟩, cap, hv, hn, by simpa [maxLen] using hm, fun b hb2 => ?_, fun _ => ⟨g, rfl, hb, cur, hh, hn, by simpa [maxLen] using hm, by simpa [Kd.int, Kd.scalar] using hs, ?_⟩, fun a ha => ⟨g, by injection ha with ha; exact ha.symm⟩⟩
    · injection hb2 with hb2
      injection hb2 with hb2
      subst hb2
      exact ⟨hb, hlt⟩
    · rw [← hinner, ← ht]
      simp [Kd.int, Kd.scalar]
theorem length_dropL (L : List (List Int)) (i j : Nat) : (dropL L i j).length = L.length := by simp [dropL]
/-- Some are taken out of p's list (and p out of theirs). -/
def cutL (L : List (List Int)) (p : Nat) (suf : List Int) : List (List Int) := suf.foldl (fun M k => dropL M p k.toNat) L
theorem length_cutL (p : Nat) : ∀ (suf : List Int) (L : List (List Int)), (cutL L p suf).length = L.length
  | [], _ => rfl
  | k :: suf, L => (length_cutL p suf _).trans (length_dropL _ _ _)
theorem cutL_snoc (L : List (List Int)) (p : Nat) (suf : List Int) (k : Int) : cutL L p (suf ++ [k]) = dropL (cutL L p suf) p k.toNat := by
  simp [cutL, List.foldl_append]
set_option maxHeartbeats 600000 in
theorem f56_any {bl cl : Nat} {A : Nat → Option Addr} {c : Nat → Nat} {L : List (List Int)} (g p : Nat) (a : Int) (pre suf : List Int) (w : World) (hL : Lists w bl cl A c L) (hg : ¬ LB bl A L.length g)
    (hc : w.cell? ⟨g, 0, none⟩ = some (.slice (some ⟨bl, 0, none⟩) L.length cl)) (hp : p < L.length) (hLp : L[p] = pre ++ a :: suf) (ha : a ∉ pre)
    (hsuf : ∀ k ∈ suf, ∃ m : Nat, k = m ∧ m < L.length ∧ m ≠ p) (hlim : L[p].length * 8 ≤ 140737488355328) :
    Calls Try.prog 56 #[.pointer (some ⟨g, 0, none⟩), .int .i64 p, .int .i64 a] w fun e w' =>
      e = .returned (.tuple #[]) ∧ Lists w' bl cl A c (cutL L p suf) ∧ Keep (LB bl A L.length) w w' := by
  have hle := hL.le
  have cp := hL.cell hp
  have hne : L[p] ≠ [] := by rw [hLp]; simp
  obtain ⟨b, hA, hrow⟩ := hL.row p hp hne
  have hix : ixOf L[p] a = (pre.length : Int) := by
    rw [hLp]
    exact ixOf_at _ _ pre.length (by simp) (by simpa using ha) (by simp [List.getD_eq_getElem?_getD])
  have hI := f57_any L[p] a b 0 (c p) w hrow.cells (Nat.le_trans hrow.le hrow.max)
  rw [hix] at hI
  obtain ⟨i0, hi0, _, hsz0, _⟩ := info_parts info3
  have hcap := hL.cap p hp
  have hpl : pre.length + 1 ≤ L[p].length := by rw [hLp]; simp
  obtain ⟨A', hcut, hA', hC'⟩ := print_drop_of (P := Try.prog) (Value.int .i64) (0 : Int) 24 3 .i64 Try.underlying24 hi0 hsz0 (A p) (c p) L[p] ((pre.length : Int) + 1) (by omega) (by omega) hcap.1
  have hsl : suf.length ≤ L[p].length := by rw [hLp]; simp; omega
  have hdrop : L[p].drop ((pre.length : Int) + 1).toNat = suf := by
    rw [show ((pre.length : Int) + 1).toNat = pre.length + 1 by omega, hLp]
    simp
  have hread : ReadsOf (Value.int .i64) 0 w A' suf.length suf := by
    have := hA' w (by rw [hA]; exact Kd.reads_of_C hrow.reads)
    rwa [hdrop] at this
  have htn : ((pre.length : Int) + 1).toNat = pre.length + 1 := by omega
  rw [hdrop, htn] at hcut hC'
  rw [hA] at hcut cp
  have HA := Aside0.mk hA
  clear hA
  have hCl := f50_any A' (c p - (pre.length + 1)) suf w (Kd.C_of_reads (h1 := fun _ => rfl) hread) hC' (by omega)
  have HL := Aside0.mk hL
  have HG := Aside0.mk hg
  have HS := Aside0.mk hsuf
  have HLp := Aside0.mk hLp
  clear hL hg hsuf hrow hread hA' hix hdrop hi0 hsz0 hne hC' htn
  have hpx : (p : Int) < (L.length : Int) := by omega
  have hp0 : (0 : Int) ≤ (p : Int) := by omega
  have hneg : decide ((pre.length : Int) < 0) = false := by simp
  have hpm : pre.length + 1 ≤ 9223372036854775807 := by omega
  obtain ⟨m, hm⟩ : ∃ m, pre.length = m := ⟨_, rfl⟩
  rw [hm] at hI hcut hCl hneg hpm
  clear hLp ha hpl hm
  go_enter Try.func56, Try.ntmps56
  go_wp2_with (first | (go_at_call 57; (with_reducible refine hI.mono ?_); rintro e w' ⟨rfl, rfl⟩) | (go_at_call 50; (with_reducible refine hCl.mono ?_); rintro e w1 ⟨v, rfl, hv, hb⟩; obtain ⟨A2, c2, rfl, hlc, hcm, hold, hrw, -⟩ := made_row hv; have HV := Aside0.mk hrw; have HO := Aside0.mk hold; have HB := Aside0.mk hb; clear hv hrw hold hb))
  go_loopg [34] suf.length (fun gg s34 wr => ∃ k : Nat, k ≤ suf.length ∧ s34 = .int .i64 k ∧ suf.length - k ≤ gg ∧ Aside0 (Lists wr bl cl A c (cutL L p (suf.take k))) ∧ Aside0 (Keep (LB bl A L.length) w wr) ∧ Aside0 (suf ≠ [] → ∃ nb, A2 = some ⟨nb, 0, none⟩ ∧ w.heap.size ≤ nb ∧ Row wr nb c2 suf))
  case atStart => exact ⟨0, Nat.zero_le _, rfl, by omega, ⟨HL.out.below HB.out⟩, ⟨Keep.of_below HB.out⟩, HV⟩
  case round =>
    clear HV HO HB hcut hI hCl
    obtain ⟨k, hk, rfl, hgg, HLk, HK, HV⟩ := hrel
    by_cases hlt : k < suf.length
    · have hne : suf ≠ [] := by rintro rfl; simp at hlt
      obtain ⟨nb, rfl, hnb, hrow⟩ := HV.out hne
      have hcell := hrow.cell k hlt
      obtain ⟨x, hx⟩ : ∃ x, suf.getD k 0 = x := ⟨_, rfl⟩
      rw [hx] at hcell
      have hxm : x ∈ suf := by rw [← hx, List.getD_eq_getElem?_getD, List.getElem?_eq_getElem hlt]; exact List.getElem_mem hlt
      obtain ⟨q, rfl, hq, hqp⟩ := HS.out x hxm
      have hdr := f61_any g p q wr HLk.out (by rw [length_cutL]; exact HG.out) (by rw [length_cutL]; exact HK.out.cell hc HG.out) (by rw [length_cutL]; exact hp) (by rw [length_cutL]; exact hq) (Ne.symm hqp)
      have HX := Aside0.mk hx
      have HR := Aside0.mk hrow
      have HNB := Aside0.mk hnb
      clear hx hxm hrow hnb hc cp
      go_wp2_with (go_at_call 61; (with_reducible refine hdr.mono ?_); rintro e w3 ⟨rfl, hl3, hk3⟩)
      go_roundg (suf.length - (k + 1))
      case measure => omega
      case rel =>
        refine ⟨k + 1, by omega, by go_num, Nat.le_refl _, ⟨?_⟩, ⟨?_⟩, ⟨fun _ => ⟨nb, rfl, HNB.out, ?_⟩⟩⟩
        · have h1 : suf.take (k + 1) = suf.take k ++ [suf[k]] := List.take_succ_eq_append_getElem hlt
          have h2 : suf[k] = (q : Int) := by have := HX.out; rw [List.getD_eq_getElem?_getD, List.getElem?_eq_getElem hlt] at this; exact this
          rw [h1, cutL_snoc, h2]
          exact hl3
        · rw [length_cutL] at hk3
          exact HK.out.trans hk3
        · rw [length_cutL] at hk3
          exact HR.out.move (hk3.block nb HR.out.lt (fun h => by have := HL.out.lb_lt h; have := HNB.out; omega))
    · have hkk : k = suf.length := by omega
      subst hkk
      go_wp2
      go_end0
      have h := HLk.out
      rw [List.take_length] at h
      exact ⟨rfl, h, HK.out⟩
end Go.Proofs.Ytilabipmgcpnjaa.Own
namespace Go.Proofs.Ytilabipmgcpnjaa.Own
open Go.RowKit Go.Proofs.YtilabipmgcpnjaaW.PrintWords Go.Proofs.YtilabipmgcpnjaaW.PrintLast Go.Proofs.YtilabipmgcpnjaaW.PrintMore
set_option linter.unusedVariables false
set_option linter.unusedSimpArgs false
/-- What stands behind a in l. -/
def sufOf (l : List Int) (a : Int) : List Int := l.drop (l.idxOf a + 1)
theorem split_at {l : List Int} {a : Int} (h : a ∈ l) : l = l.take (l.idxOf a) ++ a :: sufOf l a ∧ a ∉ l.take (l.idxOf a) := by
  have hlt := List.idxOf_lt_length_of_mem h
  constructor
  · unfold sufOf
    have h1 : l.drop (l.idxOf a) = l[l.idxOf a] :: l.drop (l.idxOf a + 1) := List.drop_eq_getElem_cons hlt
    have h2 : l[l.idxOf a] = a := List.getElem_idxOf hlt
    rw [h2] at h1
    rw [← h1, List.take_append_drop]
  · intro hm
    have h1 := List.idxOf_lt_length_of_mem hm
    have h2 : l.idxOf a = (l.take (l.idxOf a) ++ l.drop (l.idxOf a)).idxOf a := by rw [List.take_append_drop]
    rw [List.idxOf_append, if_pos hm] at h2
    rw [List.length_take] at h1
    omega
theorem dropL_lim {L : List (List Int)} {B : Nat} (h : ∀ l ∈ L, l.length ≤ B) (i j : Nat) : ∀ l ∈ dropL L i j, l.length ≤ B := by
  have hg : ∀ k, (L.getD k []).length ≤ B := fun k => by
    rw [List.getD_eq_getElem?_getD]
    cases hk : L[k]? with
    | none => simp
    | some l => exact h l (List.mem_of_getElem? hk)
  have hf : ∀ k (f : Int → Bool), ((L.getD k []).filter f).length ≤ B := fun k f => Nat.le_trans (List.length_filter_le _ _) (hg k)
  intro l hl
  unfold dropL at hl
  rcases List.mem_or_eq_of_mem_set hl with h1 | h1
  · rcases List.mem_or_eq_of_mem_set h1 with h2 | h2
    · exact h l h2
    · rw [h2]; exact hf _ _
  · rw [h1]; exact hf _ _
theorem cutL_lim {B : Nat} (p : Nat) : ∀ (suf : List Int) (L : List (List Int)), (∀ l ∈ L, l.length ≤ B) → ∀ l ∈ cutL L p suf, l.length ≤ B
  | [], _, h => h
  | k :: suf, L, h => cutL_lim p suf _ (dropL_lim h _ _)
/-- cut, if nothing is amiss. -/
def cutF (L : List (List Int)) (p : Nat) (a : Int) : Option (List (List Int)) :=
  if a ∈ L.getD p [] ∧ ∀ k ∈ sufOf (L.getD p []) a, 0 ≤ k ∧ k < (L.length : Int) ∧ k ≠ (p : Int) then some (cutL L p (sufOf (L.getD p []) a)) else none
theorem cutF_length {L L' : List (List Int)} {p : Nat} {a : Int} (h : cutF L p a = some L') : L'.length = L.length := by
  unfold cutF at h
  split at h
  · injection h with h; rw [← h]; exact length_cutL _ _ _
  · cases h
theorem cutF_lim {L L' : List (List Int)} {p : Nat} {a : Int} {B : Nat} (h : cutF L p a = some L') (hl : ∀ l ∈ L, l.length ≤ B) : ∀ l ∈ L', l.length ≤ B := by
  unfold cutF at h
  split at h
  · injection h with h; rw [← h]; exact cutL_lim _ _ _ hl
  · cases h
theorem f56_F {bl cl : Nat} {A : Nat → Option Addr} {c : Nat → Nat} {L L' : List (List Int)} (g p : Nat) (a : Int) (w : World) (hL : Lists w bl cl A c L) (hg : ¬ LB bl A L.length g)
    (hc : w.cell? ⟨g, 0, none⟩ = some (.slice (some ⟨bl, 0, none⟩) L.length cl)) (hp : p < L.length) (hlim : ∀ l ∈ L, l.length ≤ 1000000) (h : cutF L p a = some L') :
    Calls Try.prog 56 #[.pointer (some ⟨g, 0, none⟩), .int .i64 p, .int .i64 a] w fun e w' =>
      e = .returned (.tuple #[]) ∧ Lists w' bl cl A c L' ∧ Keep (LB bl A L.length) w w' := by
  unfold cutF at h
  split at h
  · rename_i hh
    obtain ⟨hm, hs⟩ := hh
    injection h with h
    have hgd : L.getD p [] = L[p] := by rw [List.getD_eq_getElem?_getD, List.getElem?_eq_getElem hp]; rfl
    rw [hgd] at hm hs h
    obtain ⟨h1, h2⟩ := split_at hm
    rw [← h]
    exact f56_any g p a _ _ w hL hg hc hp h1 h2 (fun k hk => by
      obtain ⟨h3, h4, h5⟩ := hs k hk
      exact ⟨k.toNat, by omega, by omega, by omega⟩) (by have := hlim _ (List.getElem_mem hp); omega)
  · cases h
/-- One round over the people from a place on. -/
def passF : List Nat → List (List Int) → Bool → Option (List (List Int) × Bool)
  | [], L, more => some (L, more)
  | i :: is, L, more =>
    match L.getD i [] with
    | [] => passF is L more
    | j :: _ =>
      if 0 ≤ j ∧ j < (L.length : Int) then
        match (L.getD j.toNat []).getLast? with
        | none => none
        | some last => if last = (i : Int) then passF is L more else (cutF L j.toNat i).bind fun L' => passF is L' true
      else none
def proposeF : Nat → List (List Int) → Option (List (List Int))
  | 0, _ => none
  | k + 1, L => (passF (List.range L.length) L false).bind fun r => if r.2 then proposeF k r.1 else some r.1
theorem range'_cons {i n : Nat} (h : i < n) : List.range' i (n - i) = i :: List.range' (i + 1) (n - (i + 1)) := by
  rw [show n - i = (n - (i + 1)) + 1 by omega, List.range'_succ]
set_option maxHeartbeats 2000000 in
theorem f51_F {bl cl : Nat} {A : Nat → Option Addr} {c : Nat → Nat} {n : Nat} (kf g : Nat) (L R : List (List Int)) (w : World) (hL : Lists w bl cl A c L) (hn : L.length = n) (hg : ¬ LB bl A n g)
    (hc : w.cell? ⟨g, 0, none⟩ = some (.slice (some ⟨bl, 0, none⟩) n cl)) (hlim : ∀ l ∈ L, l.length ≤ 1000000) (h : proposeF kf L = some R) :
    Calls Try.prog 51 #[.pointer (some ⟨g, 0, none⟩)] w fun e w' =>
      e = .returned (.tuple #[]) ∧ Lists w' bl cl A c R ∧ Keep (LB bl A n) w w' ∧ R.length = n ∧ (∀ l ∈ R, l.length ≤ 1000000) := by
  have hle := hL.le
  rw [hn] at hle
  have HL := Aside0.mk hL
  have HG := Aside0.mk hg
  have HC := Aside0.mk hc
  have HLim := Aside0.mk hlim
  have HF := Aside0.mk h
  have HN := Aside0.mk hn
  clear hL hg hc hlim h hn
  go_enter Try.func51, Try.ntmps51
  go_wp2
  go_loopg [2] (kf + 1) (fun kq s2 wr => ∃ (M : List (List Int)) (b : Bool), s2 = .bool b ∧ Aside0 (Lists wr bl cl A c M) ∧ Aside0 (M.length = n) ∧ Aside0 (Keep (LB bl A n) w wr) ∧ Aside0 (∀ l ∈ M, l.length ≤ 1000000) ∧ Aside0 (if b = true then ∃ k, k + 1 = kq ∧ proposeF k M = some R else M = R))
  case atStart => exact ⟨L, true, rfl, HL, HN, ⟨Keep.refl _ _⟩, HLim, ⟨by rw [if_pos rfl]; exact ⟨kf, rfl, HF.out⟩⟩⟩
  case round =>
    obtain ⟨M, b, rfl, HM, HMn, HK, HMl, HP⟩ := hrel
    cases b with
    | false =>
      go_wp2
      go_end0
      have h := HP.out
      simp only [Bool.false_eq_true, if_false] at h
      subst h
      exact ⟨rfl, HM.out, HK.out, HMn.out, HMl.out⟩
    | true =>
      obtain ⟨k, hk, hp⟩ := (show ∃ k, k + 1 = gk ∧ proposeF k M = some R by have h := HP.out; rw [if_pos rfl] at h; exact h)
      clear HP
      cases k with
      | zero => simp [proposeF] at hp
      | succ k =>
        have hc2 := HK.out.cell HC.out HG.out
        have hp' : (passF (List.range' 0 (n - 0)) M false).bind (fun r => if r.2 then proposeF k r.1 else some r.1) = some R := by
          have h := hp
          unfold proposeF at h
          rw [HMn.out, List.range_eq_range'] at h
          exact h
        have HP := Aside0.mk hp'
        have HKq := Aside0.mk hk
        clear hp hp' hk
        go_wp2
        go_loopg [2, 13] n (fun kq s2 s13 wr => ∃ (M : List (List Int)) (b : Bool) (i : Nat), s2 = .bool b ∧ s13 = .int .i64 i ∧ i ≤ n ∧ n - i ≤ kq ∧ Aside0 (Lists wr bl cl A c M) ∧ Aside0 (M.length = n) ∧ Aside0 (Keep (LB bl A n) w wr) ∧ Aside0 (∀ l ∈ M, l.length ≤ 1000000) ∧ Aside0 ((passF (List.range' i (n - i)) M b).bind (fun r => if r.2 then proposeF k r.1 else some r.1) = some R))
        case atStart => exact ⟨M, false, 0, rfl, rfl, Nat.zero_le _, by omega, HM, HMn, HK, HMl, HP⟩
        case round =>
          clear HM HMn HK HMl HP hc2
          obtain ⟨M, b, i, rfl, rfl, hi, hgg, HM, HMn, HK, HMl, HP⟩ := hrel
          by_cases hlt : i < n
          · have hiM : i < M.length := by rw [HMn.out]; exact hlt
            have hgd : M.getD i [] = M[i] := by rw [List.getD_eq_getElem?_getD, List.getElem?_eq_getElem hiM]; rfl
            have hp := HP.out
            rw [range'_cons hlt] at hp
            unfold passF at hp
            rw [hgd] at hp
            have ci := HM.out.cell hiM
            have hix : (i : Int) < (n : Int) := by omega
            have hi0 : (0 : Int) ≤ (i : Int) := by omega
            have hcg := HK.out.cell HC.out HG.out
            have nb1 : g < wr.heap.size := World.block_lt_of_cell? wr _ hcg
            have nb2 : bl < wr.heap.size := World.block_lt_of_cell? wr _ ci
            clear HP hgd
            cases hl : M[i] with
            | nil =>
              rw [hl] at ci hp
              have HP := Aside0.mk hp
              simp only [List.length_nil] at ci
              clear hp hl hcg
              go_wp2
              go_roundg (n - (i + 1))
              case measure => omega
              case rel => exact ⟨M, b, i + 1, rfl, by go_num, by omega, Nat.le_refl _, HM, HMn, HK, HMl, HP⟩
            | cons j rest =>
              rw [hl] at ci hp
              simp only at hp
              obtain ⟨bi, hAi, hri⟩ := HM.out.row i hiM (by rw [hl]; simp)
              rw [hl] at hri
              have cj0 := hri.cell 0 (by simp)
              simp only [List.getD_cons_zero] at cj0
              rw [hAi] at ci
              by_cases hj : 0 ≤ j ∧ j < (M.length : Int)
              · rw [if_pos hj] at hp
                obtain ⟨q, rfl⟩ := Int.eq_ofNat_of_zero_le hj.1
                have hqn : q < n := by have := hj.2; rw [HMn.out] at this; omega
                have hqM : q < M.length := by rw [HMn.out]; exact hqn
                have hgq : M.getD q [] = M[q] := by rw [List.getD_eq_getElem?_getD, List.getElem?_eq_getElem hqM]; rfl
                rw [show ((q : Int)).toNat = q by omega, hgq] at hp
                have cq := HM.out.cell hqM
                cases hlast : M[q].getLast? with
                | none => rw [hlast] at hp; cases hp
                | some last =>
                  rw [hlast] at hp
                  simp only at hp
                  have hne : M[q] ≠ [] := by intro h; rw [h] at hlast; cases hlast
                  obtain ⟨bq, hAq, hrq⟩ := HM.out.row q hqM hne
                  obtain ⟨m, hm⟩ : ∃ m, M[q].length = m + 1 := ⟨M[q].length - 1, by have := List.length_pos_iff.2 hne; omega⟩
                  have clst := hrq.cell m (by omega)
                  have hlv : M[q].getD m 0 = last := by
                    rw [List.getLast?_eq_getElem?, hm, Nat.add_sub_cancel] at hlast
                    rw [List.getD_eq_getElem?_getD, hlast]; rfl
                  rw [hlv] at clst
                  rw [hAq, hm] at cq
                  have hmm : m + 1 ≤ 1000000 := by have := HMl.out _ (List.getElem_mem hqM); omega
                  have hri' := Aside0.mk hri
                  have hr0 : (0 : Int) < (((q : Int) :: rest).length : Int) := by simp only [List.length_cons]; omega
                  obtain ⟨rl, hrl⟩ : ∃ rl, ((q : Int) :: rest).length = rl := ⟨_, rfl⟩
                  rw [hrl] at ci hr0
                  have hrl1 : 0 < rl := by omega
                  have hwm : IntKind.i64.wrap (m : Int) = (m : Int) := IntWalk.i64_in _ (by omega)
                  have hmx2 : (m : Int) < (m : Int) + 1 := by omega
                  have hrl2 : ((rl : Int) == 0) = false := by simp; omega
                  have hqx : (q : Int) < (n : Int) := by omega
                  have hq0 : (0 : Int) ≤ (q : Int) := by omega
                  have hm0 : (0 : Int) ≤ (m : Int) := by omega
                  have hmx : (m : Int) < ((m + 1 : Nat) : Int) := by omega
                  have HPP := Aside0.mk hp
                  have HA1 := Aside0.mk hAi
                  have HA2 := Aside0.mk hAq
                  have HHL := Aside0.mk hl
                  have HHM := Aside0.mk hm
                  clear hp hAi hAq hl hm hlast hlv hri hrq hj hne hgq hrl
                  go_wp2
                  have hS : wr.drew.cell? ⟨g, 0, none⟩ = some (.slice (some ⟨bl, 0, none⟩) n cl) ∧ wr.drew.cell? ⟨bl, q, none⟩ = some (.slice (some ⟨bq, 0, none⟩) (m + 1) (c q)) ∧ wr.drew.cell? ⟨bq, m, none⟩ = some (.int .i64 last) := ⟨hcg, cq, clst⟩
                  refine wp_region_T 18 (fun w' => w'.cell? ⟨g, 0, none⟩ = some (.slice (some ⟨bl, 0, none⟩) n cl) ∧ w'.cell? ⟨bl, q, none⟩ = some (.slice (some ⟨bq, 0, none⟩) (m + 1) (c q)) ∧ w'.cell? ⟨bq, m, none⟩ = some (.int .i64 last)) (by kernel_rfl) ?_
                  refine wpAnyT_take (i := 0) (v := ?_) rfl (by kernel_rfl) (by kernel_rfl) (by kernel_rfl) (by kernel_rfl) (fun _ _ _ h => h) (Or.inl ⟨by rfl, ?_⟩) (by assumption) ?_
                  rotate_left
                  · intro wS hSw; (try dsimp only at hSw); go_simp; try with_reducible rfl
                  (try simp only [Act.put, List.setIfInBounds_toArray, List.set_cons_zero, List.set_cons_succ])
                  refine wpAnyT_take (i := 1) (v := ?_) rfl (by kernel_rfl) (by kernel_rfl) (by kernel_rfl) (by kernel_rfl) (fun _ _ _ h => h) (Or.inl ⟨by rfl, ?_⟩) (by assumption) ?_
                  rotate_left
                  · intro wS hSw; (try dsimp only at hSw); go_simp; try with_reducible rfl
                  (try simp only [Act.put, List.setIfInBounds_toArray, List.set_cons_zero, List.set_cons_succ])
                  refine wpAnyT_take (i := 2) (v := ?_) rfl (by kernel_rfl) (by kernel_rfl) (by kernel_rfl) (by kernel_rfl) (fun _ _ _ h => h) (Or.inl ⟨by rfl, ?_⟩) (by assumption) ?_
                  rotate_left
                  · intro wS hSw; (try dsimp only at hSw); go_simp; try with_reducible rfl
                  (try simp only [Act.put, List.setIfInBounds_toArray, List.set_cons_zero, List.set_cons_succ])
                  refine wpAnyT_take (i := 3) (v := ?_) rfl (by kernel_rfl) (by kernel_rfl) (by kernel_rfl) (by kernel_rfl) (fun _ _ _ h => h) (Or.inl ⟨by rfl, ?_⟩) (by assumption) ?_
                  rotate_left
                  · intro wS hSw; (try dsimp only at hSw); go_simp; try with_reducible rfl
                  (try simp only [Act.put, List.setIfInBounds_toArray, List.set_cons_zero, List.set_cons_succ])
                  refine wpAnyT_take (i := 4) (v := ?_) rfl (by kernel_rfl) (by kernel_rfl) (by kernel_rfl) (by kernel_rfl) (fun _ _ _ h => h) (Or.inl ⟨by rfl, ?_⟩) (by assumption) ?_
                  rotate_left
                  · intro wS hSw; (try dsimp only at hSw); go_simp; try with_reducible rfl
                  (try simp only [Act.put, List.setIfInBounds_toArray, List.set_cons_zero, List.set_cons_succ])
                  refine wpAnyT_take (i := 5) (v := ?_) rfl (by kernel_rfl) (by kernel_rfl) (by kernel_rfl) (by kernel_rfl) (fun _ _ _ h => h) (Or.inl ⟨by rfl, ?_⟩) (by assumption) ?_
                  rotate_left
                  · intro wS hSw; (try dsimp only at hSw); go_simp; try with_reducible rfl
                  (try simp only [Act.put, List.setIfInBounds_toArray, List.set_cons_zero, List.set_cons_succ])
                  refine wpAnyT_take (i := 6) (v := ?_) rfl (by kernel_rfl) (by kernel_rfl) (by kernel_rfl) (by kernel_rfl) (fun _ _ _ h => h) (Or.inl ⟨by rfl, ?_⟩) (by assumption) ?_
                  rotate_left
                  · intro wS hSw; (try dsimp only at hSw); go_simp; try with_reducible rfl
                  (try simp only [Act.put, List.setIfInBounds_toArray, List.set_cons_zero, List.set_cons_succ])
                  refine wpAnyT_take (i := 7) (v := ?_) rfl (by kernel_rfl) (by kernel_rfl) (by kernel_rfl) (by kernel_rfl) (fun _ _ _ h => h) (Or.inl ⟨by rfl, ?_⟩) (by assumption) ?_
                  rotate_left
                  · intro wS hSw; (try dsimp only at hSw); go_simp; try with_reducible rfl
                  (try simp only [Act.put, List.setIfInBounds_toArray, List.set_cons_zero, List.set_cons_succ])
                  refine wpAnyT_take (i := 8) (v := ?_) rfl (by kernel_rfl) (by kernel_rfl) (by kernel_rfl) (by kernel_rfl) (fun _ _ _ h => h) (Or.inl ⟨by rfl, ?_⟩) (by assumption) ?_
                  rotate_left
                  · intro wS hSw; (try dsimp only at hSw); go_simp; try with_reducible rfl
                  (try simp only [Act.put, List.setIfInBounds_toArray, List.set_cons_zero, List.set_cons_succ])
                  refine wpAnyT_take (i := 9) (v := ?_) rfl (by kernel_rfl) (by kernel_rfl) (by kernel_rfl) (by kernel_rfl) (fun _ _ _ h => h) (Or.inl ⟨by rfl, ?_⟩) (by assumption) ?_
                  rotate_left
                  · intro wS hSw; (try dsimp only at hSw); go_simp; try with_reducible rfl
                  (try simp only [Act.put, List.setIfInBounds_toArray, List.set_cons_zero, List.set_cons_succ])
                  refine wpAnyT_take (i := 10) (v := ?_) rfl (by kernel_rfl) (by kernel_rfl) (by kernel_rfl) (by kernel_rfl) (fun _ _ _ h => h) (Or.inl ⟨by rfl, ?_⟩) (by assumption) ?_
                  rotate_left
                  · intro wS hSw; (try dsimp only at hSw); go_simp; try with_reducible rfl
                  (try simp only [Act.put, List.setIfInBounds_toArray, List.set_cons_zero, List.set_cons_succ])
                  refine wpAnyT_take (i := 11) (v := ?_) rfl (by kernel_rfl) (by kernel_rfl) (by kernel_rfl) (by kernel_rfl) (fun _ _ _ h => h) (Or.inl ⟨by rfl, ?_⟩) (by assumption) ?_
                  rotate_left
                  · intro wS hSw; (try dsimp only at hSw); go_simp; try with_reducible rfl
                  (try simp only [Act.put, List.setIfInBounds_toArray, List.set_cons_zero, List.set_cons_succ])
                  refine wpAnyT_take (i := 12) (v := ?_) rfl (by kernel_rfl) (by kernel_rfl) (by kernel_rfl) (by kernel_rfl) (fun _ _ _ h => h) (Or.inl ⟨by rfl, ?_⟩) (by assumption) ?_
                  rotate_left
                  · intro wS hSw; (try dsimp only at hSw); go_simp; try with_reducible rfl
                  (try simp only [Act.put, List.setIfInBounds_toArray, List.set_cons_zero, List.set_cons_succ])
                  refine wpAnyT_take (i := 13) (v := ?_) rfl (by kernel_rfl) (by kernel_rfl) (by kernel_rfl) (by kernel_rfl) (fun _ _ _ h => h) (Or.inl ⟨by rfl, ?_⟩) (by assumption) ?_
                  rotate_left
                  · intro wS hSw; (try dsimp only at hSw); go_simp; try with_reducible rfl
                  (try simp only [Act.put, List.setIfInBounds_toArray, List.set_cons_zero, List.set_cons_succ])
                  refine wpAnyT_take (i := 14) (v := ?_) rfl (by kernel_rfl) (by kernel_rfl) (by kernel_rfl) (by kernel_rfl) (fun _ _ _ h => h) (Or.inl ⟨by rfl, ?_⟩) (by assumption) ?_
                  rotate_left
                  · intro wS hSw; (try dsimp only at hSw); go_simp; try with_reducible rfl
                  (try simp only [Act.put, List.setIfInBounds_toArray, List.set_cons_zero, List.set_cons_succ])
                  refine wpAnyT_take (i := 15) (v := ?_) rfl (by kernel_rfl) (by kernel_rfl) (by kernel_rfl) (by kernel_rfl) (fun _ _ _ h => h) (Or.inl ⟨by rfl, ?_⟩) (by assumption) ?_
                  rotate_left
                  · intro wS hSw; (try dsimp only at hSw); go_simp; try with_reducible rfl
                  (try simp only [Act.put, List.setIfInBounds_toArray, List.set_cons_zero, List.set_cons_succ])
                  refine wpAnyT_take (i := 16) (v := ?_) rfl (by kernel_rfl) (by kernel_rfl) (by kernel_rfl) (by kernel_rfl) (fun _ _ _ h => h) (Or.inl ⟨by rfl, ?_⟩) (by assumption) ?_
                  rotate_left
                  · intro wS hSw; (try dsimp only at hSw); go_simp; try with_reducible rfl
                  (try simp only [Act.put, List.setIfInBounds_toArray, List.set_cons_zero, List.set_cons_succ])
                  refine wpAnyT_take (i := 17) (v := ?_) rfl (by kernel_rfl) (by kernel_rfl) (by kernel_rfl) (by kernel_rfl) (fun _ _ _ h => h) (Or.inl ⟨by rfl, ?_⟩) (by assumption) ?_
                  rotate_left
                  · intro wS hSw; (try dsimp only at hSw); go_simp; try with_reducible rfl
                  (try simp only [Act.put, List.setIfInBounds_toArray, List.set_cons_zero, List.set_cons_succ])
                  refine wpAnyT_one (i := 18) (by kernel_rfl) rfl (fun K hK => ?_)
                  go_wp2
                  refine hK _ _ (fun h => absurd rfl h) ?_
                  clear hK K
                  (try simp only [Act.put, List.setIfInBounds_toArray, List.set_cons_zero, List.set_cons_succ])
                  refine wpAnyT_done (by kernel_rfl) ?_ _
                  have HS := Aside0.mk hS
                  by_cases he : last = (i : Int)
                  · have hb : (last != (i : Int)) = false := by simpa using he
                    have hp := HPP.out
                    rw [if_pos he] at hp
                    have HP := Aside0.mk hp
                    clear hp he HPP hcg cq clst ci cj0
                    go_wp2
                    go_roundg (n - (i + 1))
                    case measure => omega
                    case rel => exact ⟨M, b, i + 1, rfl, by go_num, by omega, Nat.le_refl _, ⟨HM.out.below (by repeat (first | exact Below.refl _ _ | apply below_alloc | apply pw_below_drewN | apply below_drew1))⟩, HMn, ⟨HK.out.trans (Keep.of_below (by repeat (first | exact Below.refl _ _ | apply below_alloc | apply pw_below_drewN | apply below_drew1)))⟩, HMl, HP⟩
                  · have hb : (last != (i : Int)) = true := by simpa using he
                    have hp := HPP.out
                    rw [if_neg he] at hp
                    obtain ⟨M2, hM2, hp⟩ := Option.bind_eq_some_iff.1 (show ((cutF M q i).bind fun L' => (passF (List.range' (i + 1) (n - (i + 1))) L' true).bind fun r => if r.2 then proposeF k r.1 else some r.1) = some R by rw [← hp, Option.bind_assoc])
                    have HP := Aside0.mk hp
                    have HM2 := Aside0.mk hM2
                    have hcut := f56_F g q (i : Int) wr.drew (HM.out.below (by repeat (first | exact Below.refl _ _ | apply below_alloc | apply pw_below_drewN | apply below_drew1))) (by rw [HMn.out]; exact HG.out) (by rw [HMn.out]; exact HS.out.1) hqM HMl.out hM2
                    clear hp he HPP hcg cq clst ci cj0 hM2
                    go_wp2_with (go_at_call 56; (with_reducible refine hcut.mono ?_); rintro e w3 ⟨rfl, hl3, hk3⟩)
                    rw [HMn.out] at hk3
                    go_roundg (n - (i + 1))
                    case measure => omega
                    case rel => exact ⟨M2, true, i + 1, rfl, by go_num, by omega, Nat.le_refl _, ⟨hl3⟩, ⟨(cutF_length HM2.out).trans HMn.out⟩, ⟨(HK.out.trans (Keep.drew _ _)).trans hk3⟩, ⟨cutF_lim HM2.out HMl.out⟩, HP⟩
              · rw [if_neg hj] at hp; cases hp
          · have hin : i = n := by omega
            subst hin
            have hp := HP.out
            rw [Nat.sub_self] at hp
            simp only [List.range'_zero, passF, Option.bind_some] at hp
            clear HP
            go_wp2
            go_roundg (k + 1)
            case measure => have := HKq.out; omega
            case rel => exact ⟨M, b, rfl, HM, HMn, HK, HMl, ⟨by cases b with | true => rw [if_pos rfl]; exact ⟨k, rfl, hp⟩ | false => simpa using hp⟩⟩
end Go.Proofs.Ytilabipmgcpnjaa.Own
namespace Go.Proofs.Ytilabipmgcpnjaa.Own
open Go.RowKit Go.Proofs.YtilabipmgcpnjaaW.PrintWords Go.Proofs.YtilabipmgcpnjaaW.PrintLast Go.Proofs.YtilabipmgcpnjaaW.PrintMore
set_option linter.unusedVariables false
set_option linter.unusedSimpArgs false
theorem f57_nil (j : Int) (A : Option Addr) (c : Nat) (w : World) :
    Calls Try.prog 57 #[.slice A 0 c, .int .i64 j] w fun e w' => e = .returned (.int .i64 (-1)) ∧ w = w' := by
  go_enter Try.func57, Try.ntmps57
  go_wp2
  go_loop [8] (fun i => i = .int .i64 0) (fun _ => 0)
  case atStart => rfl
  case round =>
    subst hrel
    go_wp2
    go_ret
    exact ⟨rfl, rfl⟩
/-- A row of one's own, laid open. -/
theorem own_row {w : World} {base : Nat} {ok : Nat → Prop} {v : Value} {xs : List Int} (h : Kd.R (Kd.int .i64) 3 w base ok v xs) :
    (xs = [] ∧ ∃ A c, v = .slice A 0 c) ∨ ∃ b c, v = .slice (some ⟨b, 0, none⟩) xs.length c ∧ base ≤ b ∧ ok b ∧ Row w b c xs := by
  obtain ⟨hok, inner, ⟨hl, ho⟩, hr⟩ := h
  rcases ho with ⟨hv, h0⟩ | ⟨g, cap, cur, hv, hb, hh, hn, hm, hs, ht⟩
  · have : xs = [] := List.length_eq_zero_iff.1 h0
    subst this
    exact .inl ⟨rfl, _, _, hv⟩
  · have hinner : inner = nums .i64 xs := by
      apply List.ext_getElem?
      intro j
      have h1 : inner.length = xs.length := by have := hr.1; simpa [Kd.int, Kd.scalar] using this
      rcases Nat.lt_or_ge j xs.length with hj | hj
      · have h2 := hr.2 j xs[j] (List.getElem?_eq_getElem hj)
        have h3 : (inner.drop (j * 1)).take 1 = [Value.int .i64 xs[j]] := h2
        rw [Nat.mul_one] at h3
        have h4 := congrArg (fun l => l[0]?) h3
        simp only [List.getElem?_take, List.getElem?_drop] at h4
        simp at h4
        rw [h4]
        simp [nums, hj]
      · rw [List.getElem?_eq_none (by omega), List.getElem?_eq_none (by simpa [nums] using hj)]
    refine .inr ⟨g, cap, hv, hb, hok g (by rw [hv]; rfl), cur, hh, hn, by simpa [maxLen] using hm, by simpa [Kd.int, Kd.scalar] using hs, ?_⟩
    rw [← hinner, ← ht]
    simp [Kd.int, Kd.scalar]
theorem f57_own {w : World} {base : Nat} {ok : Nat → Prop} {v : Value} {xs : List Int} (h : Kd.R (Kd.int .i64) 3 w base ok v xs) (j : Int) :
    Calls Try.prog 57 #[v, .int .i64 j] w fun e w' => e = .returned (.int .i64 (ixOf xs j)) ∧ w = w' := by
  rcases own_row h with ⟨rfl, A, c, rfl⟩ | ⟨b, c, rfl, -, -, hr⟩
  · have := f57_nil j A c w
    rw [ixOf_none [] j (by simp)]
    exact this
  · exact f57_any xs j b 0 c w hr.cells (Nat.le_trans hr.le hr.max)
/-- Where to begin: the first one with a long list who is in no odd party. -/
def startF (L : List (List Int)) (N : List Int) : List Nat → Option Nat
  | [] => none
  | i :: is => if 1 < (L.getD i []).length ∧ N.getD i 0 < 0 then some i else startF L N is
/-- The way from one to the next, till it comes back. -/
def walkF (L : List (List Int)) : Nat → List Int → Int → Option (List Int)
  | 0, _, _ => none
  | k + 1, seen, i =>
    if i ∈ seen then some (seen.drop (seen.idxOf i))
    else if 0 ≤ i ∧ i < (L.length : Int) ∧ seen.length < 1000000 then
      match L.getD i.toNat [] with
      | _ :: s :: _ =>
        if 0 ≤ s ∧ s < (L.length : Int) then
          match (L.getD s.toNat []).getLast? with
          | some i' => walkF L k (seen ++ [i]) i'
          | none => none
        else none
      | _ => none
    else none
def rotationF (k : Nat) (L : List (List Int)) (N : List Int) : Option (List Int) :=
  match startF L N (List.range L.length) with
  | none => some []
  | some s => walkF L k [] s
/-- What rotation hands back: nil, or a row. -/
def Rot (w : World) (r : List Int) (e : Ending) (w' : World) : Prop :=
  Below w.heap.size w w' ∧ ((r = [] ∧ e = .returned (.slice none 0 0)) ∨ ∃ b o c, r ≠ [] ∧ e = .returned (.slice (some ⟨b, o, none⟩) r.length c) ∧ w.heap.size ≤ b ∧ Cells w' b o r)
set_option maxHeartbeats 2000000 in
set_option maxRecDepth 100000 in
theorem f52_F {bl cl : Nat} {A : Nat → Option Addr} {c : Nat → Nat} {n : Nat} (kf g nb nc : Nat) (L : List (List Int)) (N r : List Int) (w : World) (hL : Lists w bl cl A c L) (hn : L.length = n) (hN : N.length = n) (hn1 : n ≤ 1000000)
    (hc : w.cell? ⟨g, 0, none⟩ = some (.slice (some ⟨bl, 0, none⟩) n cl)) (hc1 : w.cell? ⟨g, 1, none⟩ = some (.slice (some ⟨nb, 0, none⟩) n nc)) (hnx : Row w nb nc N) (hlim : ∀ l ∈ L, l.length ≤ 1000000) (h : rotationF kf L N = some r) :
    Calls Try.prog 52 #[.pointer (some ⟨g, 0, none⟩)] w (Rot w r) := by
  have hle := hL.le
  rw [hn] at hle
  have HL := Aside0.mk hL
  have HC := Aside0.mk hc
  have HC1 := Aside0.mk hc1
  have HLim := Aside0.mk hlim
  have HF := Aside0.mk h
  have HN := Aside0.mk hn
  have HNN := Aside0.mk hN
  have HX := Aside0.mk hnx
  clear hL hlim h hn hN hnx
  go_enter Try.func52, Try.ntmps52
  go_wp2
  go_loopg [3, 15] n (fun kq s3 s15 wr => ∃ i : Nat, s3 = .int .i64 (-1) ∧ s15 = .int .i64 i ∧ i ≤ n ∧ n - i ≤ kq ∧ wr = w ∧ Aside0 ((match startF L N (List.range' i (n - i)) with | none => some [] | some s => walkF L kf [] s) = some r))
  case atStart => exact ⟨0, rfl, rfl, Nat.zero_le _, by omega, rfl, ⟨by have := HF.out; unfold rotationF at this; rw [HN.out, List.range_eq_range'] at this; exact this⟩⟩
  case round =>
    obtain ⟨i, rfl, rfl, hi, hgg, rfl, HP⟩ := hrel
    by_cases hlt : i < n
    · have hiL : i < L.length := by rw [HN.out]; exact hlt
      have hgd : L.getD i [] = L[i] := by rw [List.getD_eq_getElem?_getD, List.getElem?_eq_getElem hiL]; rfl
      have hp := HP.out
      rw [range'_cons hlt] at hp
      unfold startF at hp
      rw [hgd] at hp
      have ci := HL.out.cell hiL
      have cn := HX.out.cell i (by rw [HNN.out]; exact hlt)
      have hix : (i : Int) < (n : Int) := by omega
      have hi0 : (0 : Int) ≤ (i : Int) := by omega
      have hll : L[i].length ≤ 1000000 := HLim.out _ (List.getElem_mem hiL)
      obtain ⟨ll, hle1⟩ : ∃ ll, L[i].length = ll := ⟨_, rfl⟩
      obtain ⟨x, hx⟩ : ∃ x, N.getD i 0 = x := ⟨_, rfl⟩
      rw [hle1] at hp ci hll
      rw [hx] at hp cn
      clear HP hgd hle1 hx
      by_cases h1 : 1 < ll
      · have h1b : decide ((1 : Int) < (ll : Int)) = true := by simpa using (by omega : (1 : Int) < (ll : Int))
        by_cases h2 : x < 0
        · have h2b : decide (x < 0) = true := decide_eq_true h2
          rw [if_pos ⟨h1, h2⟩] at hp
          simp only at hp
          have HP := Aside0.mk hp
          have hneg : decide ((i : Int) < 0) = false := by simp
          clear hp
          go_wp2
          clear ci cn h1b h2b h1 h2 hll
          obtain ⟨wo, hwo⟩ : ∃ wo : World, wo = wr := ⟨_, rfl⟩
          subst hwo
          go_loopg [6, 7] kf (fun kq s6 s7 wx => ∃ (v : Value) (sn : List Int) (x : Int), s6 = v ∧ s7 = .int .i64 x ∧ Aside0 (Kd.R (Kd.int .i64) 3 wx wo.heap.size (fun _ => True) v sn) ∧ Aside0 (Below wo.heap.size wo wx) ∧ Aside0 (walkF L kq sn x = some r))
          case atStart => exact ⟨_, [], _, rfl, rfl, ⟨Kd.R_nil _ _ _ _ _⟩, ⟨Below.refl _ _⟩, HP⟩
          case round =>
            clear HP hneg hix hi0 hlt hiL hgg hi
            obtain ⟨v, sn, y, rfl, rfl, HV, HB, HP⟩ := hrel
            have hI := f57_own HV.out y
            have hp := HP.out
            cases gk with
            | zero => simp [walkF] at hp
            | succ k =>
              unfold walkF at hp
              by_cases hm : y ∈ sn
              · rw [if_pos hm] at hp
                injection hp with hp
                have hlt := List.idxOf_lt_length_of_mem hm
                obtain ⟨m, hmm⟩ : ∃ m, sn.idxOf y = m := ⟨_, rfl⟩
                have hix : ixOf sn y = (m : Int) := by unfold ixOf; rw [if_pos hm, hmm]
                rw [hix] at hI
                rw [hmm] at hlt hp
                rcases own_row HV.out with ⟨rfl, -⟩ | ⟨b, cv, rfl, hb, -, hrow⟩
                · simp at hlt
                · have hge : decide ((m : Int) ≥ 0) = true := by simp
                  have hm0 : (0 : Int) ≤ (m : Int) := by omega
                  have hlc := hrow.le
                  have hcx := hrow.max
                  have hne : ¬ (cv = m) := by omega
                  have HR := Aside0.mk hrow
                  have HPP := Aside0.mk hp
                  have HBB := Aside0.mk hb
                  obtain ⟨sl, hsl⟩ : ∃ sl, sn.length = sl := ⟨_, rfl⟩
                  rw [hsl] at hlc hlt hI ⊢
                  have HSL := Aside0.mk hsl
                  clear hrow hp hb hix hm hmm HP hsl
                  go_wp2_with (go_at_call 57; (with_reducible refine hI.mono ?_); rintro e w' ⟨rfl, rfl⟩)
                  go_ret
                  refine ⟨HB.out, .inr ⟨b, m, cv - m, ?_, ?_, HBB.out, ?_⟩⟩
                  · rw [← HPP.out]; intro h0; have := congrArg List.length h0; simp only [List.length_drop, List.length_nil] at this; have := HSL.out; omega
                  · rw [← HPP.out, List.length_drop, HSL.out]; rfl
                  · rw [← HPP.out]; have := HR.out.cells.drop m; rwa [Nat.zero_add] at this
              · rw [if_neg hm] at hp
                rw [ixOf_none sn y hm] at hI
                by_cases hy : 0 ≤ y ∧ y < (L.length : Int) ∧ sn.length < 1000000
                · rw [if_pos hy] at hp
                  obtain ⟨q, rfl⟩ := Int.eq_ofNat_of_zero_le hy.1
                  have hqn : q < n := by have := hy.2.1; rw [HN.out] at this; omega
                  have hqL : q < L.length := by rw [HN.out]; exact hqn
                  have hgq : L.getD q [] = L[q] := by rw [List.getD_eq_getElem?_getD, List.getElem?_eq_getElem hqL]; rfl
                  rw [show ((q : Int)).toNat = q by omega, hgq] at hp
                  have hsnl := hy.2.2
                  have hLx := HL.out
                  have cq := hLx.cell hqL
                  obtain ⟨x0, sx, rest, hl⟩ : ∃ x0 sx rest, L[q] = x0 :: sx :: rest := by
                    rcases hlq : L[q] with _ | ⟨x0, _ | ⟨sx, rest⟩⟩
                    · rw [hlq] at hp; cases hp
                    · rw [hlq] at hp; cases hp
                    · exact ⟨x0, sx, rest, rfl⟩
                  rw [hl] at hp
                  simp only at hp
                  obtain ⟨bq, hAq, hrq⟩ := hLx.row q hqL (by rw [hl]; simp)
                  have cs := hrq.cell 1 (by rw [hl]; simp)
                  rw [hl] at cs
                  simp only [List.getD_cons_succ, List.getD_cons_zero] at cs
                  obtain ⟨lq, hlq⟩ : ∃ lq, L[q].length = lq := ⟨_, rfl⟩
                  have hlq2 : 2 ≤ lq := by rw [← hlq, hl]; simp
                  have hlqm : lq ≤ 1000000 := by rw [← hlq]; exact HLim.out _ (List.getElem_mem hqL)
                  rw [hAq, hlq] at cq
                  by_cases hs : 0 ≤ sx ∧ sx < (L.length : Int)
                  · rw [if_pos hs] at hp
                    obtain ⟨t, rfl⟩ := Int.eq_ofNat_of_zero_le hs.1
                    have htn : t < n := by have := hs.2; rw [HN.out] at this; omega
                    have htL : t < L.length := by rw [HN.out]; exact htn
                    have hgt : L.getD t [] = L[t] := by rw [List.getD_eq_getElem?_getD, List.getElem?_eq_getElem htL]; rfl
                    rw [show ((t : Int)).toNat = t by omega, hgt] at hp
                    cases hlast : L[t].getLast? with
                    | none => rw [hlast] at hp; cases hp
                    | some last =>
                      rw [hlast] at hp
                      simp only at hp
                      have hne : L[t] ≠ [] := by intro h; rw [h] at hlast; cases hlast
                      obtain ⟨bt, hAt, hrt⟩ := hLx.row t htL hne
                      obtain ⟨m, hm2⟩ : ∃ m, L[t].length = m + 1 := ⟨L[t].length - 1, by have := List.length_pos_iff.2 hne; omega⟩
                      have clst := hrt.cell m (by omega)
                      have hlv : L[t].getD m 0 = last := by
                        rw [List.getLast?_eq_getElem?, hm2, Nat.add_sub_cancel] at hlast
                        rw [List.getD_eq_getElem?_getD, hlast]; rfl
                      rw [hlv] at clst
                      have ct := hLx.cell htL
                      rw [hAt, hm2] at ct
                      have hmm : m + 1 ≤ 1000000 := by have := HLim.out _ (List.getElem_mem htL); omega
                      have hcg := HC.out
                      have hqx : (q : Int) < (n : Int) := by omega
                      have hq0 : (0 : Int) ≤ (q : Int) := by omega
                      have htx : (t : Int) < (n : Int) := by omega
                      have ht0 : (0 : Int) ≤ (t : Int) := by omega
                      have hm0 : (0 : Int) ≤ (m : Int) := by omega
                      have hmx : (m : Int) < ((m + 1 : Nat) : Int) := by omega
                      have hmx2 : (m : Int) < (m : Int) + 1 := by omega
                      have hwm : IntKind.i64.wrap (m : Int) = (m : Int) := IntWalk.i64_in _ (by omega)
                      have hlt2 : decide ((lq : Int) < 2) = false := by simp; omega
                      have hlx1 : (1 : Int) < (lq : Int) := by omega
                      have hge : decide ((-1 : Int) ≥ 0) = false := by decide
                      have HLX := Aside0.mk hLx
                      have HPP := Aside0.mk hp
                      have HCG := Aside0.mk hcg
                      have HCQ := Aside0.mk cq
                      have HCS := Aside0.mk cs
                      have HCT := Aside0.mk ct
                      have HCL := Aside0.mk clst
                      have HRQ := Aside0.mk hrq
                      have HRT := Aside0.mk hrt
                      clear hLx hp hcg cq cs ct clst hrq hrt hl hlq hAq hAt hm hm2 hlast hlv hs hgt hgq hy hne HP
                      go_wp2_with (first | (go_at_call 57; (with_reducible refine hI.mono ?_); rintro e w' ⟨rfl, rfl⟩) | ((with_reducible refine gate_builtin (b := .append) (xs := #[.tmp 46, .tmp 48]) rfl ?_); at_builtin; refine Kd.R_append (Kd.int .i64) (w0 := wo) wo.heap.size rfl (.tmp 46) (.tmp 48) 24 3 (.int .i64 0) 8 rfl Try.underlying24 info3 rfl (by decide) (by omega) u6 sn (q : Int) [.int .i64 (q : Int)] (fun _ => True) (fun _ => False) rfl rfl ?aP (fun _ hk => hk.elim) ?aF ?aO ?aB ?aS ?aL ?_; (case aP => exact rfl); (case aB => exact HB.out); (case aF => exact (fun _ _ => trivial)); (case aO => exact HV.out); (case aS => exact (below_size HB.out)); (case aL => omega); intro v1 w1 ho hb hg hat; have HV2 := Aside0.mk ho; have HB2 := Aside0.mk hb; have hk1 := Aside0.mk (Keep.of_below (S := fun _ => False) (Below.trans (Below.refl wo.heap.size wo) hb)); have hcg := hk1.out.cell HCG.out id; have cq := hk1.out.cell HCQ.out id; have cs := hk1.out.cell HCS.out id; have ct := hk1.out.cell HCT.out id; have clst := hk1.out.cell HCL.out id; clear ho hb hat))
                      have hS : w1.drew.cell? ⟨g, 0, none⟩ = some (.slice (some ⟨bl, 0, none⟩) n cl) ∧ w1.drew.cell? ⟨bl, t, none⟩ = some (.slice (some ⟨bt, 0, none⟩) (m + 1) (c t)) ∧ w1.drew.cell? ⟨bt, m, none⟩ = some (.int .i64 last) := ⟨hcg, ct, clst⟩
                      refine wp_region_T 18 (fun w' => w'.cell? ⟨g, 0, none⟩ = some (.slice (some ⟨bl, 0, none⟩) n cl) ∧ w'.cell? ⟨bl, t, none⟩ = some (.slice (some ⟨bt, 0, none⟩) (m + 1) (c t)) ∧ w'.cell? ⟨bt, m, none⟩ = some (.int .i64 last)) (by kernel_rfl) ?_
                      refine wpAnyT_take (i := 0) (v := ?_) rfl (by kernel_rfl) (by kernel_rfl) (by kernel_rfl) (by kernel_rfl) (fun _ _ _ h => h) (Or.inl ⟨by rfl, ?_⟩) (by assumption) ?_
                      rotate_left
                      · intro wS hSw; (try dsimp only at hSw); go_simp; try with_reducible rfl
                      (try simp only [Act.put, List.setIfInBounds_toArray, List.set_cons_zero, List.set_cons_succ])
                      refine wpAnyT_take (i := 1) (v := ?_) rfl (by kernel_rfl) (by kernel_rfl) (by kernel_rfl) (by kernel_rfl) (fun _ _ _ h => h) (Or.inl ⟨by rfl, ?_⟩) (by assumption) ?_
                      rotate_left
                      · intro wS hSw; (try dsimp only at hSw); go_simp; try with_reducible rfl
                      (try simp only [Act.put, List.setIfInBounds_toArray, List.set_cons_zero, List.set_cons_succ])
                      refine wpAnyT_take (i := 2) (v := ?_) rfl (by kernel_rfl) (by kernel_rfl) (by kernel_rfl) (by kernel_rfl) (fun _ _ _ h => h) (Or.inl ⟨by rfl, ?_⟩) (by assumption) ?_
                      rotate_left
                      · intro wS hSw; (try dsimp only at hSw); go_simp; try with_reducible rfl
                      (try simp only [Act.put, List.setIfInBounds_toArray, List.set_cons_zero, List.set_cons_succ])
                      refine wpAnyT_take (i := 3) (v := ?_) rfl (by kernel_rfl) (by kernel_rfl) (by kernel_rfl) (by kernel_rfl) (fun _ _ _ h => h) (Or.inl ⟨by rfl, ?_⟩) (by assumption) ?_
                      rotate_left
                      · intro wS hSw; (try dsimp only at hSw); go_simp; try with_reducible rfl
                      (try simp only [Act.put, List.setIfInBounds_toArray, List.set_cons_zero, List.set_cons_succ])
                      refine wpAnyT_take (i := 4) (v := ?_) rfl (by kernel_rfl) (by kernel_rfl) (by kernel_rfl) (by kernel_rfl) (fun _ _ _ h => h) (Or.inl ⟨by rfl, ?_⟩) (by assumption) ?_
                      rotate_left
                      · intro wS hSw; (try dsimp only at hSw); go_simp; try with_reducible rfl
                      (try simp only [Act.put, List.setIfInBounds_toArray, List.set_cons_zero, List.set_cons_succ])
                      refine wpAnyT_take (i := 5) (v := ?_) rfl (by kernel_rfl) (by kernel_rfl) (by kernel_rfl) (by kernel_rfl) (fun _ _ _ h => h) (Or.inl ⟨by rfl, ?_⟩) (by assumption) ?_
                      rotate_left
                      · intro wS hSw; (try dsimp only at hSw); go_simp; try with_reducible rfl
                      (try simp only [Act.put, List.setIfInBounds_toArray, List.set_cons_zero, List.set_cons_succ])
                      refine wpAnyT_take (i := 6) (v := ?_) rfl (by kernel_rfl) (by kernel_rfl) (by kernel_rfl) (by kernel_rfl) (fun _ _ _ h => h) (Or.inl ⟨by rfl, ?_⟩) (by assumption) ?_
                      rotate_left
                      · intro wS hSw; (try dsimp only at hSw); go_simp; try with_reducible rfl
                      (try simp only [Act.put, List.setIfInBounds_toArray, List.set_cons_zero, List.set_cons_succ])
                      refine wpAnyT_take (i := 7) (v := ?_) rfl (by kernel_rfl) (by kernel_rfl) (by kernel_rfl) (by kernel_rfl) (fun _ _ _ h => h) (Or.inl ⟨by rfl, ?_⟩) (by assumption) ?_
                      rotate_left
                      · intro wS hSw; (try dsimp only at hSw); go_simp; try with_reducible rfl
                      (try simp only [Act.put, List.setIfInBounds_toArray, List.set_cons_zero, List.set_cons_succ])
                      refine wpAnyT_take (i := 8) (v := ?_) rfl (by kernel_rfl) (by kernel_rfl) (by kernel_rfl) (by kernel_rfl) (fun _ _ _ h => h) (Or.inl ⟨by rfl, ?_⟩) (by assumption) ?_
                      rotate_left
                      · intro wS hSw; (try dsimp only at hSw); go_simp; try with_reducible rfl
                      (try simp only [Act.put, List.setIfInBounds_toArray, List.set_cons_zero, List.set_cons_succ])
                      refine wpAnyT_take (i := 9) (v := ?_) rfl (by kernel_rfl) (by kernel_rfl) (by kernel_rfl) (by kernel_rfl) (fun _ _ _ h => h) (Or.inl ⟨by rfl, ?_⟩) (by assumption) ?_
                      rotate_left
                      · intro wS hSw; (try dsimp only at hSw); go_simp; try with_reducible rfl
                      (try simp only [Act.put, List.setIfInBounds_toArray, List.set_cons_zero, List.set_cons_succ])
                      refine wpAnyT_take (i := 10) (v := ?_) rfl (by kernel_rfl) (by kernel_rfl) (by kernel_rfl) (by kernel_rfl) (fun _ _ _ h => h) (Or.inl ⟨by rfl, ?_⟩) (by assumption) ?_
                      rotate_left
                      · intro wS hSw; (try dsimp only at hSw); go_simp; try with_reducible rfl
                      (try simp only [Act.put, List.setIfInBounds_toArray, List.set_cons_zero, List.set_cons_succ])
                      refine wpAnyT_take (i := 11) (v := ?_) rfl (by kernel_rfl) (by kernel_rfl) (by kernel_rfl) (by kernel_rfl) (fun _ _ _ h => h) (Or.inl ⟨by rfl, ?_⟩) (by assumption) ?_
                      rotate_left
                      · intro wS hSw; (try dsimp only at hSw); go_simp; try with_reducible rfl
                      (try simp only [Act.put, List.setIfInBounds_toArray, List.set_cons_zero, List.set_cons_succ])
                      refine wpAnyT_take (i := 12) (v := ?_) rfl (by kernel_rfl) (by kernel_rfl) (by kernel_rfl) (by kernel_rfl) (fun _ _ _ h => h) (Or.inl ⟨by rfl, ?_⟩) (by assumption) ?_
                      rotate_left
                      · intro wS hSw; (try dsimp only at hSw); go_simp; try with_reducible rfl
                      (try simp only [Act.put, List.setIfInBounds_toArray, List.set_cons_zero, List.set_cons_succ])
                      refine wpAnyT_take (i := 13) (v := ?_) rfl (by kernel_rfl) (by kernel_rfl) (by kernel_rfl) (by kernel_rfl) (fun _ _ _ h => h) (Or.inl ⟨by rfl, ?_⟩) (by assumption) ?_
                      rotate_left
                      · intro wS hSw; (try dsimp only at hSw); go_simp; try with_reducible rfl
                      (try simp only [Act.put, List.setIfInBounds_toArray, List.set_cons_zero, List.set_cons_succ])
                      refine wpAnyT_take (i := 14) (v := ?_) rfl (by kernel_rfl) (by kernel_rfl) (by kernel_rfl) (by kernel_rfl) (fun _ _ _ h => h) (Or.inl ⟨by rfl, ?_⟩) (by assumption) ?_
                      rotate_left
                      · intro wS hSw; (try dsimp only at hSw); go_simp; try with_reducible rfl
                      (try simp only [Act.put, List.setIfInBounds_toArray, List.set_cons_zero, List.set_cons_succ])
                      refine wpAnyT_take (i := 15) (v := ?_) rfl (by kernel_rfl) (by kernel_rfl) (by kernel_rfl) (by kernel_rfl) (fun _ _ _ h => h) (Or.inl ⟨by rfl, ?_⟩) (by assumption) ?_
                      rotate_left
                      · intro wS hSw; (try dsimp only at hSw); go_simp; try with_reducible rfl
                      (try simp only [Act.put, List.setIfInBounds_toArray, List.set_cons_zero, List.set_cons_succ])
                      refine wpAnyT_take (i := 16) (v := ?_) rfl (by kernel_rfl) (by kernel_rfl) (by kernel_rfl) (by kernel_rfl) (fun _ _ _ h => h) (Or.inl ⟨by rfl, ?_⟩) (by assumption) ?_
                      rotate_left
                      · intro wS hSw; (try dsimp only at hSw); go_simp; try with_reducible rfl
                      (try simp only [Act.put, List.setIfInBounds_toArray, List.set_cons_zero, List.set_cons_succ])
                      refine wpAnyT_take (i := 17) (v := ?_) rfl (by kernel_rfl) (by kernel_rfl) (by kernel_rfl) (by kernel_rfl) (fun _ _ _ h => h) (Or.inl ⟨by rfl, ?_⟩) (by assumption) ?_
                      rotate_left
                      · intro wS hSw; (try dsimp only at hSw); go_simp; try with_reducible rfl
                      (try simp only [Act.put, List.setIfInBounds_toArray, List.set_cons_zero, List.set_cons_succ])
                      refine wpAnyT_one (i := 18) (by kernel_rfl) rfl (fun K hK => ?_)
                      go_wp2
                      refine hK _ _ (fun h => absurd rfl h) ?_
                      clear hK K
                      (try simp only [Act.put, List.setIfInBounds_toArray, List.set_cons_zero, List.set_cons_succ])
                      refine wpAnyT_done (by kernel_rfl) ?_ _
                      go_wp2
                      go_roundg k
                      case measure => omega
                      case rel => exact ⟨v1, sn ++ [(q : Int)], last, rfl, rfl, ⟨Kd.R_drew HV2.out⟩, ⟨below_drew HB2.out⟩, HPP⟩
                  · rw [if_neg hs] at hp; cases hp
                · rw [if_neg hy] at hp; cases hp
        · have h2b : decide (x < 0) = false := decide_eq_false h2
          rw [if_neg (fun h => h2 h.2)] at hp
          have HP := Aside0.mk hp
          clear hp
          go_wp2
          go_roundg (n - (i + 1))
          case measure => omega
          case rel => exact ⟨i + 1, rfl, by go_num, by omega, Nat.le_refl _, rfl, HP⟩
      · have h1b : decide ((1 : Int) < (ll : Int)) = false := by simpa using (by omega : ¬ (1 : Int) < (ll : Int))
        rw [if_neg (fun h => h1 h.1)] at hp
        have HP := Aside0.mk hp
        clear hp
        go_wp2
        go_roundg (n - (i + 1))
        case measure => omega
        case rel => exact ⟨i + 1, rfl, by go_num, by omega, Nat.le_refl _, rfl, HP⟩
    · have hin : i = n := by omega
      subst hin
      have hp := HP.out
      rw [Nat.sub_self] at hp
      simp only [List.range'_zero, startF, Option.some.injEq] at hp
      subst hp
      clear HP
      go_wp2
      go_ret
      exact ⟨Below.refl _ _, .inl ⟨rfl, rfl⟩⟩
end Go.Proofs.Ytilabipmgcpnjaa.Own
namespace Go.Proofs.Ytilabipmgcpnjaa.Own
open Go.RowKit Go.Proofs.YtilabipmgcpnjaaW.PrintWords Go.Proofs.YtilabipmgcpnjaaW.PrintLast Go.Proofs.YtilabipmgcpnjaaW.PrintMore
set_option linter.unusedVariables false
set_option linter.unusedSimpArgs false
/-- Each one has just two people left, the first of whom is one of them. -/
def partyF (L : List (List Int)) (r : List Int) : List Int → Bool
  | [] => true
  | i :: is => if (L.getD i.toNat []).length = 2 ∧ (L.getD i.toNat []).headD 0 ∈ r then partyF L r is else false
set_option maxHeartbeats 2000000 in
theorem f53_F {bl cl : Nat} {A : Nat → Option Addr} {c : Nat → Nat} {n : Nat} (g b o rc : Nat) (L : List (List Int)) (r : List Int) (w : World) (hL : Lists w bl cl A c L) (hn : L.length = n)
    (hc : w.cell? ⟨g, 0, none⟩ = some (.slice (some ⟨bl, 0, none⟩) n cl)) (hr : Cells w b o r) (hrm : r.length ≤ 1000000) (hrn : ∀ x ∈ r, 0 ≤ x ∧ x < (n : Int)) (hlim : ∀ l ∈ L, l.length ≤ 1000000) :
    Calls Try.prog 53 #[.pointer (some ⟨g, 0, none⟩), .slice (some ⟨b, o, none⟩) r.length rc] w fun e w' => e = .returned (.bool (partyF L r r)) ∧ w = w' := by
  have hle := hL.le
  rw [hn] at hle
  have HL := Aside0.mk hL
  have HR := Aside0.mk hr
  have HRN := Aside0.mk hrn
  have HLim := Aside0.mk hlim
  have HN := Aside0.mk hn
  clear hL hlim hn hr hrn
  obtain ⟨res, hres⟩ : ∃ res, partyF L r r = res := ⟨_, rfl⟩
  rw [hres]
  have HF := Aside0.mk hres
  clear hres
  go_enter Try.func53, Try.ntmps53
  go_wp2
  go_loopg [9] r.length (fun kq s9 wr => ∃ i : Nat, s9 = .int .i64 i ∧ i ≤ r.length ∧ r.length - i ≤ kq ∧ wr = w ∧ Aside0 (partyF L r (r.drop i) = res))
  case atStart => exact ⟨0, rfl, Nat.zero_le _, by omega, rfl, HF⟩
  case round =>
    clear HF
    obtain ⟨i, rfl, hi, hgg, rfl, HP⟩ := hrel
    by_cases hlt : i < r.length
    · have hp := HP.out
      rw [List.drop_eq_getElem_cons hlt] at hp
      unfold partyF at hp
      have hci := HR.out i hlt
      have hx0 := HRN.out _ (List.getElem_mem hlt)
      obtain ⟨x, hx⟩ : ∃ x, r[i] = x := ⟨_, rfl⟩
      rw [List.getD_eq_getElem?_getD, List.getElem?_eq_getElem hlt] at hci
      simp only [Option.getD_some] at hci
      rw [hx] at hp hx0 hci
      obtain ⟨q, rfl⟩ := Int.eq_ofNat_of_zero_le hx0.1
      have hqL : q < L.length := by have := hx0.2; rw [HN.out]; omega
      have hgq : L.getD q [] = L[q] := by rw [List.getD_eq_getElem?_getD, List.getElem?_eq_getElem hqL]; rfl
      rw [show ((q : Int)).toNat = q by omega, hgq] at hp
      have cq := HL.out.cell hqL
      have hll : L[q].length ≤ 1000000 := HLim.out _ (List.getElem_mem hqL)
      have hqx : (q : Int) < (n : Int) := hx0.2
      have hq0 : (0 : Int) ≤ (q : Int) := by omega
      clear hx hx0 HP hgq
      by_cases h2 : L[q].length = 2
      · obtain ⟨x0, x1, hl⟩ : ∃ x0 x1, L[q] = [x0, x1] := by
          match hm : L[q], h2 with
          | [a, b], _ => exact ⟨a, b, rfl⟩
        obtain ⟨bq, hAq, hrq⟩ := HL.out.row q hqL (by rw [hl]; simp)
        have cs := hrq.cell 0 (by rw [hl]; simp)
        rw [hl] at cs hp
        simp only [List.getD_cons_zero, List.headD_cons] at cs hp
        rw [hAq, h2] at cq
        have hb : (((2 : Nat) : Int) != 2) = false := by decide
        have hCt := f58_any r x0 b o rc wr HR.out (by omega)
        by_cases hm : x0 ∈ r
        · replace hp : partyF L r (r.drop (i + 1)) = res := by simpa [hm] using hp
          have hd : decide (x0 ∈ r) = true := decide_eq_true hm
          rw [hd] at hCt
          have HP := Aside0.mk hp
          clear hp hrq hl h2 hAq hm hd
          go_wp2_with (go_at_call 58; (with_reducible refine hCt.mono ?_); rintro e w' ⟨rfl, rfl⟩)
          go_roundg (r.length - (i + 1))
          case measure => omega
          case rel => exact ⟨i + 1, by go_num, by omega, Nat.le_refl _, rfl, HP⟩
        · replace hp : false = res := by simpa [hm] using hp
          have hd : decide (x0 ∈ r) = false := decide_eq_false hm
          rw [hd] at hCt
          have HP := Aside0.mk hp
          clear hp hrq hl h2 hAq hm hd
          go_wp2_with (go_at_call 58; (with_reducible refine hCt.mono ?_); rintro e w' ⟨rfl, rfl⟩)
          go_ret
          exact ⟨ret_bool HP.out, rfl⟩
      · replace hp : false = res := by simpa [h2] using hp
        obtain ⟨ll, hll2⟩ : ∃ ll, L[q].length = ll := ⟨_, rfl⟩
        rw [hll2] at h2 hll cq
        have hb : ((ll : Int) != 2) = true := by simp; omega
        have HP := Aside0.mk hp
        clear hp h2 hll2
        go_wp2
        go_ret
        exact ⟨ret_bool HP.out, rfl⟩
    · have hin : i = r.length := by omega
      subst hin
      have hp := HP.out
      rw [List.drop_length] at hp
      unfold partyF at hp
      have HP2 := Aside0.mk hp
      clear HP hp
      go_wp2
      go_ret
      exact ⟨ret_bool HP2.out, rfl⟩
end Go.Proofs.Ytilabipmgcpnjaa.Own
namespace Go.Proofs.Ytilabipmgcpnjaa.Own
open Go.RowKit Go.Proofs.YtilabipmgcpnjaaW.PrintWords Go.Proofs.YtilabipmgcpnjaaW.PrintLast Go.Proofs.YtilabipmgcpnjaaW.PrintMore
set_option linter.unusedVariables false
set_option linter.unusedSimpArgs false
/-- The second ones of the lists. -/
def secondsF (L : List (List Int)) : List Int → Option (List Int)
  | [] => some []
  | i :: is =>
    if 0 ≤ i ∧ i < (L.length : Int) then
      match L.getD i.toNat [] with
      | _ :: s :: _ => (secondsF L is).map (s :: ·)
      | _ => none
    else none
def turnLoop : List (Int × Int) → List (List Int) → Option (List (List Int))
  | [], L => some L
  | (s, i) :: r, L =>
    if 0 ≤ s ∧ s < (L.length : Int) then
      if i ∈ L.getD s.toNat [] then (cutF L s.toNat i).bind fun L' => turnLoop r L' else turnLoop r L
    else none
def turnF (L : List (List Int)) (r : List Int) : Option (List (List Int)) := (secondsF L r).bind fun ss => turnLoop (ss.zip r) L
theorem secondsF_length {L : List (List Int)} : ∀ (r ss : List Int), secondsF L r = some ss → ss.length = r.length
  | [], ss, h => by unfold secondsF at h; injection h with h; rw [← h]
  | i :: is, ss, h => by
    unfold secondsF at h
    split at h
    · split at h
      · obtain ⟨t, h1, h2⟩ := Option.map_eq_some_iff.1 h
        rw [← h2, List.length_cons, secondsF_length is t h1, List.length_cons]
      · cases h
    · cases h
theorem secondsF_at {L : List (List Int)} : ∀ (r ss : List Int), secondsF L r = some ss → ∀ k (hk : k < r.length) (hk2 : k < ss.length), 0 ≤ r[k] ∧ r[k] < (L.length : Int) ∧ ∃ x rest, L.getD r[k].toNat [] = x :: ss[k] :: rest
  | [], ss, h, k, hk, _ => by simp at hk
  | i :: is, ss, h, k, hk, hk2 => by
    unfold secondsF at h
    split at h
    · rename_i hi
      split at h
      · rename_i x s rest hl
        obtain ⟨t, h1, h2⟩ := Option.map_eq_some_iff.1 h
        subst h2
        cases k with
        | zero => exact ⟨hi.1, hi.2, x, rest, hl⟩
        | succ k => simpa using secondsF_at is t h1 k (by simpa using hk) (by simpa using hk2)
      · cases h
    · cases h
theorem f58_nil (A : Option Addr) (c : Nat) (j : Int) (w : World) :
    Calls Try.prog 58 #[.slice A 0 c, .int .i64 j] w fun e w' => e = .returned (.bool false) ∧ w = w' := by
  go_enter Try.func58, Try.ntmps58
  go_wp2_with (go_at_call 57; (with_reducible refine (f57_nil j A c w).mono ?_); rintro e w' ⟨rfl, rfl⟩)
  go_ret
  exact ⟨rfl, rfl⟩
theorem f58_lists {bl cl : Nat} {A : Nat → Option Addr} {c : Nat → Nat} {L : List (List Int)} {w : World} (hL : Lists w bl cl A c L) {i : Nat} (hi : i < L.length) (j : Int) :
    Calls Try.prog 58 #[.slice (A i) L[i].length (c i), .int .i64 j] w fun e w' => e = .returned (.bool (decide (j ∈ L[i]))) ∧ w = w' := by
  by_cases h : L[i] = []
  · have := f58_nil (A i) (c i) j w
    rw [h]
    simpa using this
  · obtain ⟨b, hA, hr⟩ := hL.row i hi h
    rw [hA]
    exact f58_any L[i] j b 0 (c i) w hr.cells (Nat.le_trans hr.le hr.max)
set_option maxHeartbeats 2000000 in
theorem f54_F {bl cl : Nat} {A : Nat → Option Addr} {c : Nat → Nat} {n : Nat} (g b o rc : Nat) (L R : List (List Int)) (r : List Int) (w : World) (hL : Lists w bl cl A c L) (hn : L.length = n) (hg : ¬ LB bl A n g)
    (hc : w.cell? ⟨g, 0, none⟩ = some (.slice (some ⟨bl, 0, none⟩) n cl)) (hr : Cells w b o r) (hbb : ¬ LB bl A n b) (hrm : r.length ≤ 1000000) (hlim : ∀ l ∈ L, l.length ≤ 1000000) (h : turnF L r = some R) :
    Calls Try.prog 54 #[.pointer (some ⟨g, 0, none⟩), .slice (some ⟨b, o, none⟩) r.length rc] w fun e w' =>
      e = .returned (.tuple #[]) ∧ Lists w' bl cl A c R ∧ Keep (LB bl A n) w w' ∧ R.length = n ∧ (∀ l ∈ R, l.length ≤ 1000000) := by
  have hle := hL.le
  rw [hn] at hle
  obtain ⟨ss, hss, htl⟩ := Option.bind_eq_some_iff.1 h
  have hsl := secondsF_length r ss hss
  have HL := Aside0.mk hL
  have HR := Aside0.mk hr
  have HG := Aside0.mk hg
  have HBB := Aside0.mk hbb
  have HC := Aside0.mk hc
  have HLim := Aside0.mk hlim
  have HN := Aside0.mk hn
  have HS := Aside0.mk hss
  have HT := Aside0.mk htl
  have HSL := Aside0.mk hsl
  clear hL hlim hn hr h hss htl hg hbb hsl
  go_enter Try.func54, Try.ntmps54
  go_wp2
  go_loopg [4, 11] r.length (fun kq s4 s11 wr => ∃ (v : Value) (i : Nat), s4 = v ∧ s11 = .int .i64 i ∧ i ≤ r.length ∧ r.length - i ≤ kq ∧ Aside0 (Kd.R (Kd.int .i64) 3 wr w.heap.size (fun _ => True) v (ss.take i)) ∧ Aside0 (Below w.heap.size w wr))
  case atStart => exact ⟨_, 0, rfl, rfl, Nat.zero_le _, by omega, ⟨by rw [List.take_zero]; exact Kd.R_nil _ _ _ _ _⟩, ⟨Below.refl _ _⟩⟩
  case round =>
    obtain ⟨v, i, rfl, rfl, hi, hgg, HV, HB⟩ := hrel
    by_cases hlt : i < r.length
    · have hlt2 : i < ss.length := by rw [HSL.out]; exact hlt
      obtain ⟨h0, h1, x, rest, hl⟩ := secondsF_at r ss HS.out i hlt hlt2
      have kb := Keep.of_below (S := fun _ => False) HB.out
      have hci := (HR.out.keep kb id) i hlt
      rw [List.getD_eq_getElem?_getD, List.getElem?_eq_getElem hlt] at hci
      simp only [Option.getD_some] at hci
      obtain ⟨q, hq⟩ := Int.eq_ofNat_of_zero_le h0
      rw [hq] at hci h1 hl
      have hqL : q < L.length := by omega
      rw [show ((q : Int)).toNat = q by omega, List.getD_eq_getElem?_getD, List.getElem?_eq_getElem hqL] at hl
      simp only [Option.getD_some] at hl
      obtain ⟨bq, hAq, hrq⟩ := HL.out.row q hqL (by rw [hl]; simp)
      have cq := kb.cell (HL.out.cell hqL) id
      have cs := kb.cell (hrq.cell 1 (by rw [hl]; simp)) id
      rw [hl] at cs
      simp only [List.getD_cons_succ, List.getD_cons_zero] at cs
      obtain ⟨lq, hlq⟩ : ∃ lq, L[q].length = lq := ⟨_, rfl⟩
      have hlq2 : 2 ≤ lq := by rw [← hlq, hl]; simp
      have hlqm : lq ≤ 1000000 := by rw [← hlq]; exact HLim.out _ (List.getElem_mem hqL)
      rw [hAq, hlq] at cq
      have hcg := kb.cell HC.out id
      have hqx : (q : Int) < (n : Int) := by rw [← HN.out]; exact h1
      have hq0 : (0 : Int) ≤ (q : Int) := by omega
      have hlx1 : (1 : Int) < (lq : Int) := by omega
      obtain ⟨sv, hsv⟩ : ∃ sv, ss[i] = sv := ⟨_, rfl⟩
      rw [hsv] at cs
      have htake : ss.take (i + 1) = ss.take i ++ [sv] := by rw [List.take_succ_eq_append_getElem hlt2, hsv]
      have HTK := Aside0.mk htake
      have htl : (ss.take i).length = i := by rw [List.length_take]; omega
      obtain ⟨tk, htk⟩ : ∃ tk, ss.take i = tk := ⟨_, rfl⟩
      rw [htk] at HV HTK htl
      have HLT := Aside0.mk htl
      clear h0 h1 hl hlq hAq hrq kb hq hsv htake htk htl
      go_wp2_with (((with_reducible refine gate_builtin (b := .append) (xs := #[.tmp 15, .tmp 25]) rfl ?_); at_builtin; refine Kd.R_append (Kd.int .i64) (w0 := w) w.heap.size rfl (.tmp 15) (.tmp 25) 24 3 (.int .i64 0) 8 rfl Try.underlying24 info3 rfl (by decide) (by omega) u4 tk sv [.int .i64 sv] (fun _ => True) (fun _ => False) rfl rfl ?aP (fun _ hk => hk.elim) ?aF ?aO ?aB ?aS ?aL ?_; (case aP => exact rfl); (case aB => exact HB.out); (case aF => exact (fun _ _ => trivial)); (case aO => exact HV.out); (case aS => exact (below_size HB.out)); (case aL => have := HLT.out; omega); intro v1 w1 ho hb hg hat; have HV2 := Aside0.mk ho; have HB2 := Aside0.mk hb; clear ho hb hg hat))
      go_roundg (r.length - (i + 1))
      case measure => omega
      case rel => exact ⟨v1, i + 1, rfl, by go_num, by omega, Nat.le_refl _, ⟨by rw [HTK.out]; exact HV2.out⟩, HB2⟩
    · have hin : i = r.length := by omega
      subst hin
      have hv := HV.out
      rw [List.take_of_length_le (by rw [HSL.out]; exact Nat.le_refl _)] at hv
      have HV2 := Aside0.mk hv
      clear hv HV
      go_wp2
      obtain ⟨wo, hwo⟩ : ∃ wo : World, wo = wr := ⟨_, rfl⟩
      subst hwo
      clear hi
      go_loopg [30] r.length (fun kq s30 wr => ∃ (i : Nat) (M : List (List Int)), s30 = .int .i64 i ∧ i ≤ r.length ∧ r.length - i ≤ kq ∧ Aside0 (Lists wr bl cl A c M) ∧ Aside0 (M.length = n) ∧ Aside0 (Keep (LB bl A n) wo wr) ∧ Aside0 (∀ l ∈ M, l.length ≤ 1000000) ∧ Aside0 (turnLoop ((ss.zip r).drop i) M = some R))
      case atStart => exact ⟨0, L, rfl, Nat.zero_le _, by omega, ⟨HL.out.below HB.out⟩, HN, ⟨Keep.refl _ _⟩, HLim, HT⟩
      case round =>
        clear HT
        obtain ⟨i, M, rfl, hi, hgg, HM, HMn, HK, HMl, HP⟩ := hrel
        by_cases hlt : i < r.length
        · have hlt2 : i < ss.length := by rw [HSL.out]; exact hlt
          rcases own_row HV2.out with ⟨h0, -⟩ | ⟨sb, sc, rfl, hsb, -, hsrow⟩
          · rw [h0] at hlt2; simp at hlt2
          · have kb := Keep.of_below (S := LB bl A n) HB.out
            have hk2 := kb.trans HK.out
            have hnsb : ¬ LB bl A n sb := fun hL => by have := HL.out.lb_lt (by rw [HN.out]; exact hL); omega
            have csb := HK.out.cell (hsrow.cell i hlt2) hnsb
            have hci := (HR.out.keep hk2 HBB.out) i hlt
            rw [List.getD_eq_getElem?_getD, List.getElem?_eq_getElem hlt] at hci
            rw [List.getD_eq_getElem?_getD, List.getElem?_eq_getElem hlt2] at csb
            simp only [Option.getD_some] at hci csb
            have hp := HP.out
            have hz : i < (ss.zip r).length := by rw [List.length_zip]; omega
            rw [List.drop_eq_getElem_cons hz, List.getElem_zip] at hp
            unfold turnLoop at hp
            have hix : (i : Int) < (ss.length : Int) := by omega
            have hi0 : (0 : Int) ≤ (i : Int) := by omega
            obtain ⟨x, hx⟩ : ∃ x, r[i] = x := ⟨_, rfl⟩
            obtain ⟨y, hy⟩ : ∃ y, ss[i] = y := ⟨_, rfl⟩
            rw [hx, hy] at hp
            rw [hx] at hci
            rw [hy] at csb
            clear hx hy hz HP
            by_cases hy0 : 0 ≤ y ∧ y < (M.length : Int)
            · obtain ⟨q, rfl⟩ := Int.eq_ofNat_of_zero_le hy0.1
              have hqM : q < M.length := by have := hy0.2; omega
              have hgq : M.getD q [] = M[q] := by rw [List.getD_eq_getElem?_getD, List.getElem?_eq_getElem hqM]; rfl
              have cq := HM.out.cell hqM
              have hqx : (q : Int) < (n : Int) := by rw [← HMn.out]; exact hy0.2
              have hq0 : (0 : Int) ≤ (q : Int) := by omega
              have hcg := hk2.cell HC.out HG.out
              have hS : wr.drew.cell? ⟨g, 0, none⟩ = some (.slice (some ⟨bl, 0, none⟩) n cl) ∧ wr.drew.cell? ⟨sb, i, none⟩ = some (.int .i64 q) ∧ wr.drew.cell? ⟨bl, q, none⟩ = some (.slice (A q) M[q].length (c q)) := ⟨hcg, csb, cq⟩
              have hCt := f58_lists (HM.out.below (w' := wr.drew) (by repeat (first | exact Below.refl _ _ | apply below_alloc | apply pw_below_drewN | apply below_drew1))) hqM x
              have hqt : ((q : Int)).toNat = q := by omega
              have hp1 : (if x ∈ M[q] then (cutF M q x).bind fun L' => turnLoop ((ss.zip r).drop (i + 1)) L' else turnLoop ((ss.zip r).drop (i + 1)) M) = some R := by
                rw [if_pos hy0, hqt, hgq] at hp
                exact hp
              have HCG := Aside0.mk hcg
              have HK2 := Aside0.mk hk2
              clear hp hqt hgq hk2 kb
              by_cases hm : x ∈ M[q]
              · rw [if_pos hm] at hp1
                obtain ⟨M2, hM2, hp⟩ := Option.bind_eq_some_iff.1 hp1
                rw [decide_eq_true hm] at hCt
                have HP := Aside0.mk hp
                have HM2 := Aside0.mk hM2
                have hcut := f56_F g q x wr.drew (HM.out.below (by repeat (first | exact Below.refl _ _ | apply below_alloc | apply pw_below_drewN | apply below_drew1))) (by rw [HMn.out]; exact HG.out) (by rw [HMn.out]; exact HCG.out) hqM HMl.out hM2
                clear hp hp1 hM2 hm hnsb hsrow hy0
                go_wp2
                refine wp_region_T 99 (fun w' => w'.cell? ⟨g, 0, none⟩ = some (.slice (some ⟨bl, 0, none⟩) n cl) ∧ w'.cell? ⟨sb, i, none⟩ = some (.int .i64 q) ∧ w'.cell? ⟨bl, q, none⟩ = some (.slice (A q) M[q].length (c q))) (by kernel_rfl) ?_
                refine wpAnyT_take (i := 0) (v := ?_) rfl (by kernel_rfl) (by kernel_rfl) (by kernel_rfl) (by kernel_rfl) (fun _ _ _ h => h) (Or.inl ⟨by rfl, ?_⟩) (by assumption) ?_
                rotate_left
                · intro wS hSw; (try dsimp only at hSw); go_simp; try with_reducible rfl
                (try simp only [Act.put, List.setIfInBounds_toArray, List.set_cons_zero, List.set_cons_succ])
                refine wpAnyT_take (i := 1) (v := ?_) rfl (by kernel_rfl) (by kernel_rfl) (by kernel_rfl) (by kernel_rfl) (fun _ _ _ h => h) (Or.inl ⟨by rfl, ?_⟩) (by assumption) ?_
                rotate_left
                · intro wS hSw; (try dsimp only at hSw); go_simp; try with_reducible rfl
                (try simp only [Act.put, List.setIfInBounds_toArray, List.set_cons_zero, List.set_cons_succ])
                refine wpAnyT_take (i := 2) (v := ?_) rfl (by kernel_rfl) (by kernel_rfl) (by kernel_rfl) (by kernel_rfl) (fun _ _ _ h => h) (Or.inl ⟨by rfl, ?_⟩) (by assumption) ?_
                rotate_left
                · intro wS hSw; (try dsimp only at hSw); go_simp; try with_reducible rfl
                (try simp only [Act.put, List.setIfInBounds_toArray, List.set_cons_zero, List.set_cons_succ])
                refine wpAnyT_take (i := 3) (v := ?_) rfl (by kernel_rfl) (by kernel_rfl) (by kernel_rfl) (by kernel_rfl) (fun _ _ _ h => h) (Or.inl ⟨by rfl, ?_⟩) (by assumption) ?_
                rotate_left
                · intro wS hSw; (try dsimp only at hSw); go_simp; try with_reducible rfl
                (try simp only [Act.put, List.setIfInBounds_toArray, List.set_cons_zero, List.set_cons_succ])
                refine wpAnyT_take (i := 4) (v := ?_) rfl (by kernel_rfl) (by kernel_rfl) (by kernel_rfl) (by kernel_rfl) (fun _ _ _ h => h) (Or.inl ⟨by rfl, ?_⟩) (by assumption) ?_
                rotate_left
                · intro wS hSw; (try dsimp only at hSw); go_simp; try with_reducible rfl
                (try simp only [Act.put, List.setIfInBounds_toArray, List.set_cons_zero, List.set_cons_succ])
                refine wpAnyT_take (i := 5) (v := ?_) rfl (by kernel_rfl) (by kernel_rfl) (by kernel_rfl) (by kernel_rfl) (fun _ _ _ h => h) (Or.inl ⟨by rfl, ?_⟩) (by assumption) ?_
                rotate_left
                · intro wS hSw; (try dsimp only at hSw); go_simp; try with_reducible rfl
                (try simp only [Act.put, List.setIfInBounds_toArray, List.set_cons_zero, List.set_cons_succ])
                refine wpAnyT_take (i := 6) (v := ?_) rfl (by kernel_rfl) (by kernel_rfl) (by kernel_rfl) (by kernel_rfl) (fun _ _ _ h => h) (Or.inl ⟨by rfl, ?_⟩) (by assumption) ?_
                rotate_left
                · intro wS hSw; (try dsimp only at hSw); go_simp; try with_reducible rfl
                (try simp only [Act.put, List.setIfInBounds_toArray, List.set_cons_zero, List.set_cons_succ])
                refine wpAnyT_take (i := 7) (v := ?_) rfl (by kernel_rfl) (by kernel_rfl) (by kernel_rfl) (by kernel_rfl) (fun _ _ _ h => h) (Or.inl ⟨by rfl, ?_⟩) (by assumption) ?_
                rotate_left
                · intro wS hSw; (try dsimp only at hSw); go_simp; try with_reducible rfl
                (try simp only [Act.put, List.setIfInBounds_toArray, List.set_cons_zero, List.set_cons_succ])
                refine wpAnyT_take (i := 8) (v := ?_) rfl (by kernel_rfl) (by kernel_rfl) (by kernel_rfl) (by kernel_rfl) (fun _ _ _ h => h) (Or.inl ⟨by rfl, ?_⟩) (by assumption) ?_
                rotate_left
                · intro wS hSw; (try dsimp only at hSw); go_simp; try with_reducible rfl
                (try simp only [Act.put, List.setIfInBounds_toArray, List.set_cons_zero, List.set_cons_succ])
                refine wpAnyT_take (i := 9) (v := ?_) rfl (by kernel_rfl) (by kernel_rfl) (by kernel_rfl) (by kernel_rfl) (fun _ _ _ h => h) (Or.inl ⟨by rfl, ?_⟩) (by assumption) ?_
                rotate_left
                · intro wS hSw; (try dsimp only at hSw); go_simp; try with_reducible rfl
                (try simp only [Act.put, List.setIfInBounds_toArray, List.set_cons_zero, List.set_cons_succ])
                refine wpAnyT_take (i := 10) (v := ?_) rfl (by kernel_rfl) (by kernel_rfl) (by kernel_rfl) (by kernel_rfl) (fun _ _ _ h => h) (Or.inl ⟨by rfl, ?_⟩) (by assumption) ?_
                rotate_left
                · intro wS hSw; (try dsimp only at hSw); go_simp; try with_reducible rfl
                (try simp only [Act.put, List.setIfInBounds_toArray, List.set_cons_zero, List.set_cons_succ])
                refine wpAnyT_one (i := 11) (by kernel_rfl) rfl (fun K hK => ?_)
                go_wp2_with (go_at_call 58; (with_reducible refine hCt.mono ?_); rintro e w' ⟨rfl, rfl⟩)
                refine hK _ _ (fun _ => ?_) ?_
                · exact hS
                clear hK K
                (try simp only [Act.put, List.setIfInBounds_toArray, List.set_cons_zero, List.set_cons_succ])
                refine wpAnyT_done (by kernel_rfl) ?_ _
                have csb2 : wr.drew.cell? ⟨sb, i, none⟩ = some (.int .i64 q) := hS.2.1
                clear hCt
                go_wp2_with (go_at_call 56; (with_reducible refine hcut.mono ?_); rintro e w3 ⟨rfl, hl3, hk3⟩)
                rw [HMn.out] at hk3
                go_roundg (r.length - (i + 1))
                case measure => omega
                case rel => exact ⟨i + 1, M2, by go_num, by omega, Nat.le_refl _, ⟨hl3⟩, ⟨(cutF_length HM2.out).trans HMn.out⟩, ⟨(HK.out.trans (Keep.drew _ _)).trans hk3⟩, ⟨cutF_lim HM2.out HMl.out⟩, HP⟩
              · rw [if_neg hm] at hp1
                rw [decide_eq_false hm] at hCt
                have HP := Aside0.mk hp1
                clear hp1 hm hnsb hsrow hy0
                go_wp2
                refine wp_region_T 99 (fun w' => w'.cell? ⟨g, 0, none⟩ = some (.slice (some ⟨bl, 0, none⟩) n cl) ∧ w'.cell? ⟨sb, i, none⟩ = some (.int .i64 q) ∧ w'.cell? ⟨bl, q, none⟩ = some (.slice (A q) M[q].length (c q))) (by kernel_rfl) ?_
                refine wpAnyT_take (i := 0) (v := ?_) rfl (by kernel_rfl) (by kernel_rfl) (by kernel_rfl) (by kernel_rfl) (fun _ _ _ h => h) (Or.inl ⟨by rfl, ?_⟩) (by assumption) ?_
                rotate_left
                · intro wS hSw; (try dsimp only at hSw); go_simp; try with_reducible rfl
                (try simp only [Act.put, List.setIfInBounds_toArray, List.set_cons_zero, List.set_cons_succ])
                refine wpAnyT_take (i := 1) (v := ?_) rfl (by kernel_rfl) (by kernel_rfl) (by kernel_rfl) (by kernel_rfl) (fun _ _ _ h => h) (Or.inl ⟨by rfl, ?_⟩) (by assumption) ?_
                rotate_left
                · intro wS hSw; (try dsimp only at hSw); go_simp; try with_reducible rfl
                (try simp only [Act.put, List.setIfInBounds_toArray, List.set_cons_zero, List.set_cons_succ])
                refine wpAnyT_take (i := 2) (v := ?_) rfl (by kernel_rfl) (by kernel_rfl) (by kernel_rfl) (by kernel_rfl) (fun _ _ _ h => h) (Or.inl ⟨by rfl, ?_⟩) (by assumption) ?_
                rotate_left
                · intro wS hSw; (try dsimp only at hSw); go_simp; try with_reducible rfl
                (try simp only [Act.put, List.setIfInBounds_toArray, List.set_cons_zero, List.set_cons_succ])
                refine wpAnyT_take (i := 3) (v := ?_) rfl (by kernel_rfl) (by kernel_rfl) (by kernel_rfl) (by kernel_rfl) (fun _ _ _ h => h) (Or.inl ⟨by rfl, ?_⟩) (by assumption) ?_
                rotate_left
                · intro wS hSw; (try dsimp only at hSw); go_simp; try with_reducible rfl
                (try simp only [Act.put, List.setIfInBounds_toArray, List.set_cons_zero, List.set_cons_succ])
                refine wpAnyT_take (i := 4) (v := ?_) rfl (by kernel_rfl) (by kernel_rfl) (by kernel_rfl) (by kernel_rfl) (fun _ _ _ h => h) (Or.inl ⟨by rfl, ?_⟩) (by assumption) ?_
                rotate_left
                · intro wS hSw; (try dsimp only at hSw); go_simp; try with_reducible rfl
                (try simp only [Act.put, List.setIfInBounds_toArray, List.set_cons_zero, List.set_cons_succ])
                refine wpAnyT_take (i := 5) (v := ?_) rfl (by kernel_rfl) (by kernel_rfl) (by kernel_rfl) (by kernel_rfl) (fun _ _ _ h => h) (Or.inl ⟨by rfl, ?_⟩) (by assumption) ?_
                rotate_left
                · intro wS hSw; (try dsimp only at hSw); go_simp; try with_reducible rfl
                (try simp only [Act.put, List.setIfInBounds_toArray, List.set_cons_zero, List.set_cons_succ])
                refine wpAnyT_take (i := 6) (v := ?_) rfl (by kernel_rfl) (by kernel_rfl) (by kernel_rfl) (by kernel_rfl) (fun _ _ _ h => h) (Or.inl ⟨by rfl, ?_⟩) (by assumption) ?_
                rotate_left
                · intro wS hSw; (try dsimp only at hSw); go_simp; try with_reducible rfl
                (try simp only [Act.put, List.setIfInBounds_toArray, List.set_cons_zero, List.set_cons_succ])
                refine wpAnyT_take (i := 7) (v := ?_) rfl (by kernel_rfl) (by kernel_rfl) (by kernel_rfl) (by kernel_rfl) (fun _ _ _ h => h) (Or.inl ⟨by rfl, ?_⟩) (by assumption) ?_
                rotate_left
                · intro wS hSw; (try dsimp only at hSw); go_simp; try with_reducible rfl
                (try simp only [Act.put, List.setIfInBounds_toArray, List.set_cons_zero, List.set_cons_succ])
                refine wpAnyT_take (i := 8) (v := ?_) rfl (by kernel_rfl) (by kernel_rfl) (by kernel_rfl) (by kernel_rfl) (fun _ _ _ h => h) (Or.inl ⟨by rfl, ?_⟩) (by assumption) ?_
                rotate_left
                · intro wS hSw; (try dsimp only at hSw); go_simp; try with_reducible rfl
                (try simp only [Act.put, List.setIfInBounds_toArray, List.set_cons_zero, List.set_cons_succ])
                refine wpAnyT_take (i := 9) (v := ?_) rfl (by kernel_rfl) (by kernel_rfl) (by kernel_rfl) (by kernel_rfl) (fun _ _ _ h => h) (Or.inl ⟨by rfl, ?_⟩) (by assumption) ?_
                rotate_left
                · intro wS hSw; (try dsimp only at hSw); go_simp; try with_reducible rfl
                (try simp only [Act.put, List.setIfInBounds_toArray, List.set_cons_zero, List.set_cons_succ])
                refine wpAnyT_take (i := 10) (v := ?_) rfl (by kernel_rfl) (by kernel_rfl) (by kernel_rfl) (by kernel_rfl) (fun _ _ _ h => h) (Or.inl ⟨by rfl, ?_⟩) (by assumption) ?_
                rotate_left
                · intro wS hSw; (try dsimp only at hSw); go_simp; try with_reducible rfl
                (try simp only [Act.put, List.setIfInBounds_toArray, List.set_cons_zero, List.set_cons_succ])
                refine wpAnyT_one (i := 11) (by kernel_rfl) rfl (fun K hK => ?_)
                go_wp2_with (go_at_call 58; (with_reducible refine hCt.mono ?_); rintro e w' ⟨rfl, rfl⟩)
                refine hK _ _ (fun _ => ?_) ?_
                · exact hS
                clear hK K
                (try simp only [Act.put, List.setIfInBounds_toArray, List.set_cons_zero, List.set_cons_succ])
                refine wpAnyT_done (by kernel_rfl) ?_ _
                clear hCt
                go_wp2
                go_roundg (r.length - (i + 1))
                case measure => omega
                case rel => exact ⟨i + 1, M, by go_num, by omega, Nat.le_refl _, ⟨HM.out.below (by repeat (first | exact Below.refl _ _ | apply below_alloc | apply pw_below_drewN | apply below_drew1))⟩, HMn, ⟨HK.out.trans (Keep.drew _ _)⟩, HMl, HP⟩
            · rw [if_neg hy0] at hp; cases hp
        · have hin : i = r.length := by omega
          subst hin
          have hp := HP.out
          rw [List.drop_of_length_le (by rw [List.length_zip]; omega)] at hp
          unfold turnLoop at hp
          injection hp with hp
          subst hp
          clear HP
          go_wp2
          go_end0
          exact ⟨rfl, HM.out, (Keep.of_below HB.out).trans HK.out, HMn.out, HMl.out⟩
end Go.Proofs.Ytilabipmgcpnjaa.Own
namespace Go.Proofs.Ytilabipmgcpnjaa.Own
open Go.RowKit Go.Proofs.YtilabipmgcpnjaaW.PrintWords Go.Proofs.YtilabipmgcpnjaaW.PrintLast Go.Proofs.YtilabipmgcpnjaaW.PrintMore
set_option linter.unusedVariables false
set_option linter.unusedSimpArgs false
def bits_Mul64.f (a0 : Int) (a1 : Int) : Option (Int × Int) := some (IntKind.u64.wrap ((IntKind.u64.wrap ((IntKind.u64.wrap ((a0 / 4294967296) * (a1 / 4294967296))) + ((IntKind.u64.wrap ((IntKind.u64.wrap ((a0 / 4294967296) * (Go.bits .and .u64 a1 4294967295))) + ((IntKind.u64.wrap ((Go.bits .and .u64 a0 4294967295) * (Go.bits .and .u64 a1 4294967295))) / 4294967296))) / 4294967296))) + ((IntKind.u64.wrap ((Go.bits .and .u64 (IntKind.u64.wrap ((IntKind.u64.wrap ((a0 / 4294967296) * (Go.bits .and .u64 a1 4294967295))) + ((IntKind.u64.wrap ((Go.bits .and .u64 a0 4294967295) * (Go.bits .and .u64 a1 4294967295))) / 4294967296))) 4294967295) + (IntKind.u64.wrap ((Go.bits .and .u64 a0 4294967295) * (a1 / 4294967296))))) / 4294967296)), IntKind.u64.wrap (a0 * a1))
set_option maxHeartbeats 8000000 in
set_option maxRecDepth 100000 in
theorem bits_Mul64.calls (a0 : Int) (a1 : Int) (r1 : Int) (r2 : Int) (w : World) (h : bits_Mul64.f a0 a1 = some (r1, r2)) :
    Calls Try.prog 60 #[.int .u64 a0, .int .u64 a1] w fun e w' => e = .returned (.tuple #[.int .u64 r1, .int .u64 r2]) ∧ Drawn0 w w' := by
  have H : (some (IntKind.u64.wrap ((IntKind.u64.wrap ((IntKind.u64.wrap ((a0 / 4294967296) * (a1 / 4294967296))) + ((IntKind.u64.wrap ((IntKind.u64.wrap ((a0 / 4294967296) * (Go.bits .and .u64 a1 4294967295))) + ((IntKind.u64.wrap ((Go.bits .and .u64 a0 4294967295) * (Go.bits .and .u64 a1 4294967295))) / 4294967296))) / 4294967296))) + ((IntKind.u64.wrap ((Go.bits .and .u64 (IntKind.u64.wrap ((IntKind.u64.wrap ((a0 / 4294967296) * (Go.bits .and .u64 a1 4294967295))) + ((IntKind.u64.wrap ((Go.bits .and .u64 a0 4294967295) * (Go.bits .and .u64 a1 4294967295))) / 4294967296))) 4294967295) + (IntKind.u64.wrap ((Go.bits .and .u64 a0 4294967295) * (a1 / 4294967296))))) / 4294967296)), IntKind.u64.wrap (a0 * a1))) = some (r1, r2) := h
  clear h
  simp only [Option.some.injEq, Prod.mk.injEq] at H
  obtain ⟨rfl, rfl⟩ := H
  go_enter Try.func60, Try.ntmps60
  go_wp2
  go_ret2
  exact ⟨by first | rfl | (simp; done) | (simp [*]; done), by repeat (first | exact Drawn0.refl _ | apply Drawn0.step)⟩
def bits_Mul.f (a0 : Int) (a1 : Int) : Option (Int × Int) := (bits_Mul64.f a0 a1).bind fun bt118 => (some (bt118.1, bt118.2))
set_option maxHeartbeats 8000000 in
set_option maxRecDepth 100000 in
theorem bits_Mul.calls (a0 : Int) (a1 : Int) (r1 : Int) (r2 : Int) (w : World) (h : bits_Mul.f a0 a1 = some (r1, r2)) :
    Calls Try.prog 55 #[.int .u64 a0, .int .u64 a1] w fun e w' => e = .returned (.tuple #[.int .u64 r1, .int .u64 r2]) ∧ Drawn0 w w' := by
  have H : ((bits_Mul64.f a0 a1).bind fun bt118 => (some (bt118.1, bt118.2))) = some (r1, r2) := h
  clear h
  replace H := Option.bind_eq_some_iff.mp H
  obtain ⟨⟨t118, t119⟩, A30, H⟩ := H
  replace H : (some (t118, t119)) = some (r1, r2) := H
  have A3 := Aside0.mk A30
  clear A30
  simp only [Option.some.injEq, Prod.mk.injEq] at H
  obtain ⟨rfl, rfl⟩ := H
  go_enter Try.func55, Try.ntmps55
  go_wp2_with (first | ((with_reducible refine gate_callee (f := 60) rfl ?_); refine goesL_ (some 25) rfl rfl Try.func60 (by kernel_rfl) rfl #[.int .u64 a0, .int .u64 a1] rfl (by (try simp only [List.map_toArray, List.map_cons, List.map_nil]); first | done | rfl | (simp only [List.length_drop, List.length_take]; rfl)) ?_; (with_reducible refine (bits_Mul64.calls a0 a1 t118 t119 _ A3.out).mono ?_); rintro e w' ⟨rfl, ⟨nd, rfl⟩⟩; refine ⟨_, rfl, ?_⟩))
  go_ret2
  exact ⟨by first | rfl | (simp; done) | (simp [*]; done), by repeat (first | exact Drawn0.refl _ | apply Drawn0.step)⟩
set_option maxRecDepth 100000 in
theorem mul_small : ∀ n : Fin 25, bits_Mul.f 1 (n.val : Int) = some (0, (n.val : Int)) := by decide +kernel
theorem f55_small (n : Nat) (h : n ≤ 24) (w : World) :
    Calls Try.prog 55 #[.int .u64 1, .int .u64 n] w fun e w' => e = .returned (.tuple #[.int .u64 0, .int .u64 n]) ∧ Drawn0 w w' :=
  bits_Mul.calls 1 n 0 n w (mul_small ⟨n, by omega⟩)
end Go.Proofs.Ytilabipmgcpnjaa.Own
