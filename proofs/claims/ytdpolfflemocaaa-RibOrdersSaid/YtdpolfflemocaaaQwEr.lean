/- The declarations of Er that the claim Qw needs. -/
import Derived.Test.YtdpolfflemocaaaQwEl
namespace Go.Proofs.Ytdpolfflemocaaa.Pure
open Go Go.RowKit Go.Proofs.YtdpolfflemocaaaW.PrintWords Go.Proofs.YtdpolfflemocaaaW.PrintLast Go.Proofs.YtdpolfflemocaaaW.PrintMore Go.Proofs.Ytdpolfflemocaaa.Cl Go.Proofs.Ytdpolfflemocaaa.Own Go.Proofs.Ytdpolfflemocaaa.Rx Go.Proofs.Ytdpolfflemocaaa.Re
set_option linter.unusedVariables false
set_option linter.unusedSimpArgs false
open Classical
/-- Two places of a ring of m nodes that stand side by side. -/
def nxt (m i k : Nat) : Bool := decide (i = k + 1 ∨ (k = 0 ∧ i + 1 = m))
def PairOk (es : List S52) (l : List Int) (i k : Nat) : Prop := rd l (i : Int) ≠ rd l (k : Int) ∧ nr es (rd l (i : Int)) (rd l (k : Int)) = nxt l.length i k
def RingP (es : List S52) (l : List Int) : Prop := 4 ≤ l.length ∧ ∀ i k, k < i → i < l.length → PairOk es l i k
theorem ring_l1 (es : List S52) (hes : es.length < 2 ^ 50) (l : List Int) (hl : l.length < 2 ^ 40) (i : Nat) (hi : i < l.length) (R : Bool) (hR : (∀ k, k < i → PairOk es l i k) → Ev (fun k => gampref04_Ring.l0 k es l ((i + 1 : Nat) : Int)) R) (hF : ¬ (∀ k, k < i → PairOk es l i k) → R = false) :
    ∀ (d j : Nat), j + d = i → (∀ k, k < j → PairOk es l i k) → Ev (fun k => gampref04_Ring.l1 k es l (i : Int) (j : Int)) R := by
  intro d
  induction d with
  | zero =>
    intro j hj hok
    obtain rfl : j = i := by omega
    refine Ev.step (fun k => ?_) (hR hok)
    simp only [gampref04_Ring.l1]
    rw [if_neg (by omega), wrap_up j (by omega)]
  | succ d ih =>
    intro j hj hok
    have hjl : j < l.length := by omega
    have hw1 : wrap64 ((i : Int) - (j : Int)) = (i : Int) - (j : Int) := by unfold wrap64; omega
    have hw2 : wrap64 ((l.length : Int) - 1) = (l.length : Int) - 1 := by unfold wrap64; omega
    have e1 : ∀ k, gampref04_Ring.l1 (k + 1) es l (i : Int) (j : Int) = if rd l (i : Int) = rd l (j : Int) then some false else (gampref04_Near.f k es (rd l (i : Int)) (rd l (j : Int))).bind fun t => if (nxt l.length i j != t) = true then some false else gampref04_Ring.l1 k es l (i : Int) ((j + 1 : Nat) : Int) := by
      intro k
      have c1 : (j : Int) < (i : Int) := by omega
      have c2 : (0 : Int) ≤ (i : Int) := by omega
      have c3 : (i : Int) < (l.length : Int) := by omega
      have c4 : (0 : Int) ≤ (j : Int) := by omega
      have c5 : (j : Int) < (l.length : Int) := by omega
      simp only [gampref04_Ring.l1]
      rw [if_pos c1, hw1, hw2, wrap_up j (by omega)]
      by_cases h1 : (i : Int) - (j : Int) = 1
      · have hn : nxt l.length i j = true := decide_eq_true (by omega)
        rw [if_pos h1, if_pos c2, if_pos c3, if_pos c4, if_pos c5, hn]
      · rw [if_neg h1]
        by_cases h2 : (j : Int) = 0
        · have hn : nxt l.length i j = ((i : Int) == (l.length : Int) - 1) := by
            unfold nxt
            rw [Bool.eq_iff_iff, decide_eq_true_eq, beq_iff_eq]
            omega
          rw [if_pos h2, if_pos c2, if_pos c3, if_pos c4, if_pos c5, hn]
        · have hn : nxt l.length i j = false := decide_eq_false (by omega)
          rw [if_neg h2, if_pos c2, if_pos c3, if_pos c4, if_pos c5, hn]
    have ev := near_ev es hes (rd l (i : Int)) (rd l (j : Int))
    by_cases hp : PairOk es l i j
    · have ih2 := ih (j + 1) (by omega) fun k hk => by
        by_cases e : k = j
        · subst e; exact hp
        · exact hok k (by omega)
      refine Ev.step (fun k => by rw [e1, if_neg hp.1]) ?_
      refine Ev.bind (f := fun k t => if (nxt l.length i j != t) = true then some false else gampref04_Ring.l1 k es l (i : Int) ((j + 1 : Nat) : Int)) ev ?_
      exact Ev.congr (fun k => by rw [if_neg (by rw [hp.2]; simp)]) ih2
    · rw [hF fun h => hp (h j (by omega))]
      by_cases h1 : rd l (i : Int) = rd l (j : Int)
      · exact Ev.step (f := fun _ => some false) (fun k => by rw [e1, if_pos h1]) (Ev.now _)
      · have h2 : nr es (rd l (i : Int)) (rd l (j : Int)) ≠ nxt l.length i j := fun h => hp ⟨h1, h⟩
        refine Ev.step (fun k => by rw [e1, if_neg h1]) ?_
        refine Ev.bind (f := fun k t => if (nxt l.length i j != t) = true then some false else gampref04_Ring.l1 k es l (i : Int) ((j + 1 : Nat) : Int)) ev ?_
        exact Ev.congr (fun k => by rw [if_pos (by rw [bne_iff_ne]; exact fun h => h2 h.symm)]) (Ev.now _)
theorem ring_ref (es : List S52) (hes : es.length < 2 ^ 50) (l : List Int) (hl : l.length < 2 ^ 40) : Ev (fun k => gampref04_Ring.f k es l) (decide (RingP es l)) := by
  by_cases h4 : l.length < 4
  · rw [decide_eq_false fun h => by have := h.1; omega]
    refine Ev.congr (fun k => ?_) (Ev.now _)
    unfold gampref04_Ring.f
    rw [if_pos (by omega)]
  · have main : ∀ (d i : Nat), i + d = l.length → (∀ a b, b < a → a < i → PairOk es l a b) → Ev (fun k => gampref04_Ring.l0 k es l (i : Int)) (decide (RingP es l)) := by
      intro d
      induction d with
      | zero =>
        intro i hi hok
        rw [decide_eq_true (show RingP es l from ⟨by omega, fun a b h1 h2 => hok a b h1 (by omega)⟩)]
        refine Ev.step (f := fun _ => some true) (fun k => ?_) (Ev.now _)
        simp only [gampref04_Ring.l0]
        rw [if_neg (by omega)]
      | succ d ih =>
        intro i hi hok
        have hil : i < l.length := by omega
        refine Ev.step (f := fun k => gampref04_Ring.l1 k es l (i : Int) ((0 : Nat) : Int)) (fun k => ?_) ?_
        · simp only [gampref04_Ring.l0]
          rw [if_pos (by omega)]; rfl
        · refine ring_l1 es hes l hl i hil _ (fun h => ih (i + 1) (by omega) fun a b h1 h2 => ?_) (fun h => decide_eq_false fun p => h fun k hk => p.2 i k hk hil) i 0 (by omega) (fun k hk => by omega)
          by_cases e : a = i
          · subst e; exact h b h1
          · exact hok a b h1 (by omega)
    refine Ev.congr (fun k => ?_) (main l.length 0 (by omega) (fun a b h1 h2 => by omega))
    unfold gampref04_Ring.f
    rw [if_neg (by omega)]; rfl
end Go.Proofs.Ytdpolfflemocaaa.Pure
