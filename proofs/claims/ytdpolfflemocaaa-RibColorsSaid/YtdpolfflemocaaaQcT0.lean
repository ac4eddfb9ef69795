/- The declarations of T0 that the claim Qc needs. -/
import Derived.Test.YtdpolfflemocaaaQcOwx0
import Derived.Test.YtdpolfflemocaaaQcTkP
import Derived.Sort.Grow
import Derived.Sort.OwnSorted
import Derived.Lib.SortBridge
namespace Go.Proofs.Ytdpolfflemocaaa.Own
open Go
theorem ask_drawn {α : Type} : ∀ (k : Ask α) (w : World), w.drawn ≤ (w.ask k).2.drawn
 | .done a, w => Nat.le_refl _
 | .ask what range k, w => by
  unfold World.ask
  dsimp only
  split
  ·exact ask_drawn (k 0) w
  ·have h := ask_drawn (k ((Question.extern what range).cut (w.tape w.drawn (Question.extern what range)))) { w with drawn := w.drawn + 1 }
   exact Nat.le_trans (Nat.le_succ _) h
theorem sys_drawn (w : World) (c : Sys) : w.drawn ≤ (w.sys c).2.drawn := by
 have h := ask_drawn (Kernel.perform c w.os) w
 unfold World.sys
 generalize w.ask (Kernel.perform c w.os) = y at h ⊢
 obtain ⟨⟨r, os⟩, w1⟩ := y
 cases r <;> first | exact Nat.le_refl _ | exact h
theorem freeze_drawn (w : World) (a : Addr) (n : Nat) : (w.freeze a n).drawn = w.drawn := by unfold World.freeze; split <;> rfl
theorem bind_ok {ε α β : Type} {x : Except ε α} {f : α → Except ε β} {b : β} (h : (x >>= f) = .ok b) : ∃ a, f a = .ok b := by
 cases x with
 | error e => cases h
 | ok a => exact ⟨a, h⟩
theorem throw_ok {ε α : Type} {e : ε} {b : α} (h : (MonadExcept.throw e : Except ε α) = .ok b) : False := by cases h
theorem view_drawn {P : Program} {w w1 : World} {at_ k : Addr} {u : TypeId} {v : Value} {b : Bool} {l : List Addr} (h : w.viewStore P at_ u k v b = .ok (w1, l)) : w1.drawn = w.drawn := by
 unfold World.viewStore at h
 dsimp only at h
 repeat first
  | (exact (throw_ok h).elim)
  | (obtain ⟨a, h⟩ := bind_ok h; dsimp only at h)
  | (cases h; rfl)
  | (split at h)
  | (obtain ⟨a, h⟩ := bind_ok h)
theorem far_drawn {P : Program} {w w1 : World} {a : Addr} {v : Value} {b : Bool} {l : List Addr} (h : w.farStore P a v b = .ok (w1, l)) : w1.drawn = w.drawn := by
 unfold World.farStore at h
 split at h
 ·split at h
  ·rename_i r hr
   cases h
   exact view_drawn hr
  ·cases h
 ·cases h
theorem run_drawn {α : Type} {P : Program} : ∀ (s : Sem α) (w : World) (v : α) (w' : World), s.run P w = .ok v w' → w.drawn ≤ w'.drawn := by
 intro s
 induction s with
 | pure a => intro w v w' h; simp only [Sem.run] at h; cases h; exact Nat.le_refl _
 | load m a k ih =>
  intro w v w' h
  simp only [Sem.run] at h
  split at h
  ·exact ih _ _ _ _ h
  ·split at h
   ·exact ih _ _ _ _ h
   ·cases h
 | store m a x k ih =>
  intro w v w' h
  have go : ∀ y : Result _, (match w.cell? a with | some _ => if w.frozen? a then .halt (.unsupported (.unsafePointer "a write to bytes that a string shares")) w else k.run P (w.setCell a x) | none => match w.farStore P a x (m == .atomic) with | .ok (w, _) => k.run P w | .error h => .halt h w) = y → y = .ok v w' → w.drawn ≤ w'.drawn := by
   intro y hy hv
   subst hv
   split at hy
   ·split at hy
    ·cases hy
    ·exact ih (w.setCell a x) _ _ hy
   ·split at hy
    ·rename_i hf
     have hd := far_drawn hf
     have := ih _ _ _ hy
     omega
    ·cases hy
  cases x <;> simp only [Sem.run] at h <;> first | (cases h; done) | exact go _ rfl h
 | new o k ih => intro w v w' h; simp only [Sem.run] at h; exact ih _ { w with heap := w.heap.push o } _ _ h
 | shape r k ih => intro w v w' h; simp only [Sem.run] at h; exact ih _ _ _ _ h
 | freeze a n k ih => intro w v w' h; simp only [Sem.run] at h; have := ih _ _ _ h; rw [freeze_drawn] at this; exact this
 | frozen a k ih => intro w v w' h; simp only [Sem.run] at h; exact ih _ _ _ _ h
 | getObj r k ih =>
  intro w v w' h
  simp only [Sem.run] at h
  split at h
  ·cases h
  ·exact ih _ _ _ _ h
  ·cases h
 | setObj r o k ih =>
  intro w v w' h
  simp only [Sem.run] at h
  split at h
  ·cases h
  ·exact ih { w with heap := w.heap.setIfInBounds r o } _ _ h
  ·cases h
 | choose q k ih =>
  intro w v w' h
  simp only [Sem.run] at h
  split at h
  ·exact ih _ _ _ _ h
  ·exact Nat.le_trans (Nat.le_succ _) (ih _ { w with drawn := w.drawn + 1 } _ _ h)
 | sys c k ih => intro w v w' h; simp only [Sem.run] at h; exact Nat.le_trans (sys_drawn w c) (ih _ _ _ _ h)
 | program k ih => intro w v w' h; simp only [Sem.run] at h; exact ih _ _ _ _ h
 | mark m k ih => intro w v w' h; simp only [Sem.run] at h; exact ih _ _ _ h
 | halt h0 => intro w v w' h; simp only [Sem.run] at h; cases h
end Go.Proofs.Ytdpolfflemocaaa.Own
namespace Go.Proofs.Ytdpolfflemocaaa.Own
open Go Go.RowKit Go.Proofs.YtdpolfflemocaaaW.PrintWords Go.Proofs.YtdpolfflemocaaaW.PrintLast Go.Proofs.YtdpolfflemocaaaW.PrintMore
theorem append_more {P : Program} {o : Oper} {a : Act} {W : World} {X K : Act → World → Prop} {Q0 Q : Exit → Act → World → Prop} (hQ : ∀ ex a w, Q0 ex a w → ex = .normal) (s x : Operand) (t : TypeId)
  (ho : o.op = .call { callee := .builtin .append, args := #[s, x], argTypes := #[t, t] })
  (h : o.wp P a W X Q0) (hk : ∀ a' w', X a' w' → W.drawn ≤ w'.drawn → K a' w') : o.wp P a W K Q := by
 have hd : ∀ v w', (Builtin.append_ #[t, t] o.type #[a.eval s, a.eval x]).run P W = .ok v w' → W.drawn ≤ w'.drawn := fun v w' e => run_drawn _ _ _ _ e
 unfold Oper.wp execOp at h ⊢
 simp only [ho, resolve, invoke, builtin, Sem.run_bind, Sem.run_pure, Result.andThen_ok, List.map_toArray, List.map_cons, List.map_nil] at h ⊢
 generalize (Builtin.append_ #[t, t] o.type #[a.eval s, a.eval x]).run P W = y at h hd ⊢
 cases y with
 | ok v w' => exact hk _ _ h (hd _ _ rfl)
 | halt hh w' =>
  cases hh with
  | panic v => exact absurd (hQ _ _ _ h) (by simp)
  | _ => exact h.elim
section
variable {P : Program} {ops : Array Oper} {rest : List Oper} {o : Oper} {a : Act} {Q : Exit → Act → World → Prop}
theorem append_drawn {W : World} {X : Act → World → Prop} (hgd : o.guard = none) (s x : Operand) (t : TypeId)
  (ho : o.op = .call { callee := .builtin .append, args := #[s, x], argTypes := #[t, t] })
  (h : wpList P ops (fun ex a' w' => ex = .normal ∧ X a' w') [o] a W) (hk : ∀ a' w', X a' w' → W.drawn ≤ w'.drawn → wpList P ops Q rest a' w') : wpList P ops Q (o :: rest) a W := by
 refine wpList_plain hgd fun K hK => ?_
 unfold wpList at h
 simp only [Region.wanted, hgd, if_true] at h
 rcases h with h | ⟨_, _, _, h, _⟩
 ·exact append_more (fun _ _ _ h => h.1) s x t ho h fun a' w' hx hd => hK _ _ (hk _ _ hx.2 hd)
 ·cases h
theorem R_append_d {α : Type} (d : Kd α) {w0 W : World} (base : Nat) (hgd : o.guard = none) (s x : Operand) (t e : TypeId) (z : Value) (bytes : Nat)
  (ho : o.op = .call { callee := .builtin .append, args := #[s, x], argTypes := #[t, t] })
  (ht : P.underlying t = some (.slice e)) (hinfo : (P.info? e).map (fun i => (i.zero, i.size, i.bytes)) = some (some z, d.sz, bytes)) (hz : z.cells.size = d.sz) (hs0 : 0 < d.sz) (hb0 : 0 < bytes)
  (v : Value) (xs : List α) (p : α) (cs : List Value) (ok okp : Nat → Prop) (hs : a.eval s = v) (hx : a.eval x = .slice (some ⟨W.heap.size, 0, none⟩) 1 1) (hp : d.M W base okp p cs) (hokp : ∀ k, okp k → ok k ∧ some k ≠ v.ownBlock) (hfresh : ∀ k, W.heap.size ≤ k → ok k)
  (HO : d.R e W base ok v xs) (HB : Below base w0 W) (hbase : base ≤ W.heap.size) (hl : (xs.length + 1) * bytes ≤ 140737488355328)
  (h : ∀ v1 w1, d.R e w1 base ok v1 (xs ++ [p]) → Below base w0 w1 → W.drawn ≤ w1.drawn → wpList P ops Q rest (a.put o.dst v1) w1) :
  wpList P ops Q (o :: rest) a (W.alloc (.cells cs.toArray e)) := by
 refine append_drawn (X := fun a' w' => ∃ v1, a' = a.put o.dst v1 ∧ d.R e w' base ok v1 (xs ++ [p]) ∧ Below base w0 w') hgd s x t ho ?_ ?_
 ·refine Kd.R_append d base hgd s x t e z bytes ho ht hinfo hz hs0 hb0 v xs p cs ok okp hs hx hp hokp hfresh HO HB hbase hl ?_
  intro v1 w1 h1 h2 _ _
  exact ⟨rfl, v1, rfl, h1, h2⟩
 ·rintro a' w' ⟨v1, rfl, h1, h2⟩ hd
  exact h v1 w' h1 h2 hd
end
/-- What only lays blocks, told as the sort wants it. -/
theorem grown_of_below {w w' : World} (hb : Below w.heap.size w w') (hd : w.drawn ≤ w'.drawn) : ∃ q os, w' = Go.Sort.grow (w.drewN q) os := by
 refine ⟨w'.drawn - w.drawn, w'.heap.extract w.heap.size w'.heap.size, ?_⟩
 obtain ⟨h, t, d, o, p⟩ := w
 obtain ⟨h', t', d', o', p'⟩ := w'
 obtain ⟨h1, h2, h3, h4, h5⟩ := hb
 simp only at h1 h2 h3 h4 h5 hd
 subst h1 h2 h3
 unfold Go.Sort.grow World.drewN
 simp only [World.mk.injEq, true_and, and_true]
 refine ⟨?_, by omega⟩
 apply Array.ext_getElem?
 intro i
 by_cases hi : i < h.size
 ·rw [h5 i hi, Array.getElem?_append_left hi]
 ·rw [Array.getElem?_append_right (by omega), Array.getElem?_extract]
  by_cases hj : i < h'.size
  ·simp [hj, show h.size + (i - h.size) = i by omega, show i - h.size < h'.size - h.size by omega]
  ·simp [show ¬ (i - h.size < h'.size - h.size) by omega, Array.getElem?_eq_none (show h'.size ≤ i by omega)]
end Go.Proofs.Ytdpolfflemocaaa.Own
namespace Go.Proofs.Ytdpolfflemocaaa.Own
open Go Go.Sort Go.RowKit Go.Proofs.YtdpolfflemocaaaW.PrintWords Go.Proofs.YtdpolfflemocaaaW.PrintLast Go.Proofs.YtdpolfflemocaaaW.PrintMore
section
variable {α : Type} [Inhabited α] {enc : α → Value}
theorem sorted_holds {w : World} {g : Nat} {cur : Array Value} {e : TypeId} {ss : List α} (hb : w.heap[g]? = some (.cells cur e (0, 0))) (ht : cur.toList.take ss.length = ss.map enc) : Holds enc w g 0 ss.toArray := by
 intro j hj
 have hj' : j < ss.length := by simpa using hj
 have h1 : (cur.toList.take ss.length)[j]? = (ss.map enc)[j]? := by rw [ht]
 rw [List.getElem?_take_of_lt hj', Array.getElem?_toList] at h1
 refine ⟨?_, by simp [World.frozen?, hb]⟩
 simp [World.cell?, hb, h1, hj']
theorem sorted_heap {w : World} {g n : Nat} {os : Array Obj} {cur : Array Value} {e : TypeId} {fr : Nat × Nat} (d : Array α) (hb : w.heap[g]? = some (.cells cur e fr)) :
  (grow (putRow enc (Sort.ahead w n) g 0 d) os).heap[g]? = some (.cells (putCells enc 0 d cur) e fr) := by
 have hg : g < w.heap.size := (Array.getElem?_eq_some_iff.1 hb).1
 rw [heap_grow_old _ _ (by simpa using hg)]
 simp [putRow, mapBlock, Sort.ahead, Array.getElem?_modify, hb, onCells]
theorem sorted_grown {w : World} {g n : Nat} {os : Array Obj} (d : Array α) : w.grownBy (grow (putRow enc (Sort.ahead w n) g 0 d) os) (some g) := by
 refine ⟨rfl, rfl, rfl, by simp, fun k hk hne => ?_⟩
 rw [heap_grow_old _ _ (by simpa using hk)]
 simp [putRow, mapBlock, Sort.ahead, Array.getElem?_modify, show g ≠ k from fun e => hne (by rw [e])]
theorem sorted_take (cur : Array Value) (ts : List α) (h : ts.length ≤ cur.size) : (putCells enc 0 ts.toArray cur).toList.take ts.length = ts.map enc := by
 apply List.ext_getElem?
 intro j
 by_cases hj : j < ts.length
 ·rw [List.getElem?_take_of_lt hj, Array.getElem?_toList]
  simp [putCells, hj, show j < cur.size by omega]
 ·rw [List.getElem?_take_eq_none (by omega), List.getElem?_eq_none (by simp; omega)]
end
end Go.Proofs.Ytdpolfflemocaaa.Own
