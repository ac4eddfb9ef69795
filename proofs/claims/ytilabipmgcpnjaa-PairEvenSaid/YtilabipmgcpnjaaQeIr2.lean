/- The declarations of Ir2 that the claim Qe needs. -/
import Derived.Test.YtilabipmgcpnjaaQeIrv
namespace Go.Proofs.Ytilabipmgcpnjaa.Tan
set_option linter.unusedVariables false
section
variable {n : Nat} {rk : Nat → Nat → Nat} {al : Nat → Nat → Prop} {p q : Nat → Nat}
theorem final_part (hp : Pref n rk) (hs : St n rk al) (hshort : ∀ x z, al x z → First rk al x z ∨ Last rk al x z)
    (h1 : ∀ x, x < n → (∃ z, al x z) → First rk al x (p x) ∧ Last rk al x (q x)) (h0 : ∀ x, x < n → (¬ ∃ z, al x z) → p x = x ∧ q x = x) : Part n rk p q := by
  have ne : ∀ {a b}, al a b → a < n ∧ b < n ∧ a ≠ b := fun h => hs.tb.rng _ _ h
  refine ⟨fun i hi => ?_, fun i hi => ?_, fun i hi => ?_, fun i hi => ?_, fun i hi => ?_, fun i j hi hj hij hb1 hb2 => ?_⟩
  · by_cases h : ∃ z, al i z
    · exact (ne (h1 i hi h).1.1).2.1
    · rw [(h0 i hi h).1]; exact hi
  · by_cases h : ∃ z, al i z
    · exact (ne (h1 i hi h).2.1).2.1
    · rw [(h0 i hi h).2]; exact hi
  · by_cases h : ∃ z, al i z
    · have hl := (h1 i hi h).2
      have hf := (hs.fl (q i) i).2 hl
      exact first_uniq hp hs.tb (h1 _ (ne hf.1).1 ⟨_, hf.1⟩).1 hf
    · rw [(h0 i hi h).2, (h0 i hi h).1]
  · by_cases h : ∃ z, al i z
    · have hf := (h1 i hi h).1
      have hl := (hs.fl i (p i)).1 hf
      exact last_uniq hp hs.tb (h1 _ (ne hl.1).1 ⟨_, hl.1⟩).2 hl
    · rw [(h0 i hi h).1, (h0 i hi h).2]
  · by_cases h : ∃ z, al i z
    · exact (h1 i hi h).1.2 _ (h1 i hi h).2.1
    · rw [(h0 i hi h).1, (h0 i hi h).2]; exact Nat.le_refl _
  · by_cases hal : al i j
    · rcases hshort i j hal with hf | hl
      · have hl := (hs.fl i j).1 hf
        have e := last_uniq hp hs.tb (h1 j hj ⟨_, hl.1⟩).2 hl
        rw [e] at hb2
        omega
      · have e := last_uniq hp hs.tb (h1 i hi ⟨_, hl.1⟩).2 hl
        rw [e] at hb1
        omega
    · rcases hs.tb.jus i j hi hj hij hal with ⟨m, hm, _, hlt⟩ | ⟨m, hm, _, hlt⟩
      · have e := last_uniq hp hs.tb (h1 i hi ⟨_, hm.1⟩).2 hm
        rw [e] at hb1
        omega
      · have e := last_uniq hp hs.tb (h1 j hj ⟨_, hm.1⟩).2 hm
        rw [e] at hb2
        omega
variable {r : Nat} {x y : Nat → Nat}
theorem party_last (hR : Rotn rk al r x y) (hp : Pref n rk) (hs : St n rk al) (hP : Party al x y) (k : Nat) : Last rk al (x k) (y (k + 1)) := by
  have hse := hR.sec_ne hp hs k
  refine ⟨hse.2.1, fun z hz => ?_⟩
  rcases (hP k).1 z hz with e | e
  · rw [e]; exact (hR.first hs k).2 _ hse.2.1
  · rw [e]; exact Nat.le_refl _
/-- A party of a rotation is an odd cycle of its first ones. -/
theorem party_odd (hR : Rotn rk al r x y) (hp : Pref n rk) (hs : St n rk al) (hP : Party al x y) {f : Nat → Nat} (hf : ∀ k, f (x k) = y k) (k : Nat) : Od f (x k) := by
  have h2 : ∀ k, f (f (x (k + 1))) = x k := fun k => by
    rw [hf]
    obtain ⟨m, hm⟩ := (hP (k + 1)).2
    rw [hm, hf]
    have h1 := (hs.fl (y (k + 1)) (x k)).2 (party_last hR hp hs hP k)
    have h3 := hR.first hs m
    rw [← hm] at h3
    exact first_uniq hp hs.tb h3 h1
  have h3 : ∀ t k, Nat.repeat f (2 * t) (x (k + t)) = x k := by
    intro t
    induction t with
    | zero => exact fun k => rfl
    | succ t ih =>
      intro k
      rw [show 2 * (t + 1) = (2 * t + 1) + 1 by omega, rep_succ, rep_succ, show k + (t + 1) = (k + 1) + t by omega, ih (k + 1), h2]
  obtain ⟨m, hm⟩ := (hP k).2
  have hup : ∀ t, x (m + r * t) = x m := by
    intro t
    induction t with
    | zero => rfl
    | succ t ih => rw [Nat.mul_succ, ← Nat.add_assoc, hR.px, ih]
  have hk : k ≤ m + r * k := by
    have : 1 * k ≤ r * k := Nat.mul_le_mul_right _ hR.pos
    omega
  refine ⟨m + r * k - k, ?_⟩
  rw [rep_succ, ← rep_comm f (2 * (m + r * k - k)) (x k), hf, hm, ← hup k]
  have h4 := h3 (m + r * k - k) k
  rw [show k + (m + r * k - k) = m + r * k by omega] at h4
  exact h4
end
end Go.Proofs.Ytilabipmgcpnjaa.Tan
