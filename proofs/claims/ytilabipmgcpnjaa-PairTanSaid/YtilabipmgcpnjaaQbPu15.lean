/- The declarations of Pu15 that the claim Qb needs. -/
import Derived.Test.YtilabipmgcpnjaaQbPu10
import Derived.Test.YtilabipmgcpnjaaQbFnx8
namespace Go.Proofs.Ytilabipmgcpnjaa.Pure
open Go.RowKit Go.Proofs.Ytilabipmgcpnjaa.Own Go.Proofs.Ytilabipmgcpnjaa.Fn Go.Proofs.YtilabipmgcpnjaaW.PrintWords Go.Proofs.YtilabipmgcpnjaaW.PrintLast Go.Proofs.YtilabipmgcpnjaaW.PrintMore Go.Proofs.Ytilabipmgcpnjaa.Tan Go.Proofs.Ytilabipmgcpnjaa.Cyc
set_option linter.unusedVariables false
set_option linter.unusedSimpArgs false
/-- The first numbers of a permutation. -/
def Begin (n : Nat) (l : List Int) : Prop := l.Nodup ∧ (∀ x ∈ l, 0 ≤ x ∧ x < (n : Int)) ∧ l.length ≤ n
def bnd : Nat → Nat
  | 0 => 1
  | d + 1 => 24 * bnd d
section
variable {n : Nat}
theorem orders_l0 (hn : n ≤ 24) {first : List Int} (hf : Begin n first) {B : Nat} (hB : 24 * B ≤ 1000000000000)
    (hrec : ∀ x : Nat, x < n → (x : Int) ∉ first → ∃ T : List (List Int), T.length ≤ B ∧ (∀ s ∈ T, IsPerm s n) ∧ (∀ s, IsPerm s n → (first ++ [(x : Int)]) <+: s → s ∈ T) ∧ Ev (fun k => gampref07_Orders.f k (first ++ [(x : Int)]) (n : Int)) T) :
    ∀ (d j : Nat) (out : List (List Int)), j + d = n → out.length ≤ j * B → (∀ s ∈ out, IsPerm s n) →
    ∃ S : List (List Int), S.length ≤ n * B ∧ (∀ s ∈ S, IsPerm s n) ∧ (∀ s ∈ out, s ∈ S) ∧ (∀ s, IsPerm s n → (∃ x : Nat, j ≤ x ∧ (first ++ [(x : Int)]) <+: s) → s ∈ S) ∧ Ev (fun k => gampref07_Orders.l0 k first (n : Int) out (j : Int)) S
  | 0, j, out, hd, ho, hs => by
    have e : j = n := by omega
    subst e
    refine ⟨out, ho, hs, fun s h => h, fun s hp ⟨x, hx, hpre⟩ => ?_, Ev.step (f := fun _ => some out) (fun k => by simp only [gampref07_Orders.l0]; rw [if_neg (by omega)]) (Ev.now _)⟩
    have := hp.2.1 (x : Int) (hpre.subset (by simp))
    omega
  | d + 1, j, out, hd, ho, hs => by
    have hj : j < n := by omega
    have hat := at_ev first (j : Int) (by have := hf.2.2; omega)
    have hjB : (j + 1) * B = j * B + B := by rw [Nat.succ_mul]
    have hjn : (j + 1) * B ≤ 24 * B := Nat.mul_le_mul_right _ (by omega)
    by_cases hm : (j : Int) ∈ first
    · obtain ⟨S, h1, h2, h3, h4, h5⟩ := orders_l0 hn hf hB hrec d (j + 1) out (by omega) (by omega) hs
      refine ⟨S, h1, h2, h3, fun s hp ⟨x, hx, hpre⟩ => ?_, ?_⟩
      · by_cases e : x = j
        · subst e
          exfalso
          obtain ⟨t, rfl⟩ := hpre
          have := hp.1
          rw [List.nodup_append] at this
          have := this.1
          rw [List.nodup_append] at this
          exact this.2.2 _ hm _ (by simp) rfl
        · exact h4 s hp ⟨x, by omega, hpre⟩
      · have hlt := List.idxOf_lt_length_of_mem hm
        refine Ev.step (fun k => by simp only [gampref07_Orders.l0]; rw [if_pos (by omega)]) (Ev.bind hat ?_)
        refine Ev.congr (fun k => ?_) h5
        rw [if_neg (by omega), wrap_s (by omega)]
    · obtain ⟨T, t1, t2, t3, t4⟩ := hrec j hj hm
      obtain ⟨S, h1, h2, h3, h4, h5⟩ := orders_l0 hn hf hB hrec d (j + 1) (out ++ T) (by omega) (by rw [List.length_append]; omega) (fun s hs' => by
        rcases List.mem_append.1 hs' with h | h
        · exact hs s h
        · exact t2 s h)
      refine ⟨S, h1, h2, fun s h => h3 s (List.mem_append_left _ h), fun s hp ⟨x, hx, hpre⟩ => ?_, ?_⟩
      · by_cases e : x = j
        · subst e
          exact h3 s (List.mem_append_right _ (t3 s hp hpre))
        · exact h4 s hp ⟨x, by omega, hpre⟩
      · have hix := List.idxOf_eq_length hm
        have hfl := hf.2.2
        refine Ev.step (fun k => by simp only [gampref07_Orders.l0]; rw [if_pos (by omega)]) (Ev.bind hat ?_)
        refine Ev.congr (fun k => by
          rw [if_pos (by rw [hix]), Option.bind_some, if_pos (by rw [List.length_nil]; omega), Option.bind_some, List.nil_append, if_pos (by omega)]) (Ev.bind t4 ?_)
        refine Ev.congr (fun k => ?_) h5
        rw [if_pos (by omega), wrap_s (by omega)]
theorem orders_f (hn : n ≤ 24) : ∀ (d : Nat) (first : List Int), first.length + d = n → Begin n first → 24 * bnd d ≤ 1000000000000 →
    ∃ S : List (List Int), S.length ≤ bnd d ∧ (∀ s ∈ S, IsPerm s n) ∧ (∀ s, IsPerm s n → first <+: s → s ∈ S) ∧ Ev (fun k => gampref07_Orders.f k first (n : Int)) S
  | 0, first, hd, hf, hb => by
    refine ⟨[first], Nat.le_refl 1, fun s hs => ?_, fun s hp hpre => ?_, Ev.step (f := fun _ => some [first]) (fun k => ?_) (Ev.now _)⟩
    · rw [List.mem_singleton] at hs
      subst hs
      exact ⟨hf.1, hf.2.1, by omega⟩
    · rw [List.mem_singleton]
      exact (hpre.eq_of_length (by rw [hp.2.2]; omega)).symm
    · simp only [gampref07_Orders.f]
      rw [if_pos (by omega), Option.bind_some, if_pos (by rw [List.length_nil]; omega), List.nil_append]
  | d + 1, first, hd, hf, hb => by
    have hb2 : bnd (d + 1) = 24 * bnd d := rfl
    obtain ⟨S, h1, h2, h3, h4, h5⟩ := orders_l0 hn hf (B := bnd d) (by omega) (fun x hx hm => orders_f hn d (first ++ [(x : Int)]) (by rw [List.length_append, List.length_singleton]; omega) (by
      refine ⟨?_, fun y hy => ?_, by rw [List.length_append, List.length_singleton]; omega⟩
      · rw [List.nodup_append]
        refine ⟨hf.1, by simp, fun y hy z hz e => ?_⟩
        rw [List.mem_singleton] at hz
        exact hm (by rw [← hz, ← e]; exact hy)
      · rcases List.mem_append.1 hy with hy | hy
        · exact hf.2.1 y hy
        · rw [List.mem_singleton] at hy
          omega) (by omega)) n 0 [] (by omega) (by simp) (by simp)
    refine ⟨S, Nat.le_trans h1 (by rw [hb2]; exact Nat.mul_le_mul_right _ (by omega)), h2, fun s hp hpre => h4 s hp ?_, ?_⟩
    · obtain ⟨t, rfl⟩ := hpre
      have hl := hp.2.2
      rw [List.length_append] at hl
      cases t with
      | nil => rw [List.length_nil] at hl; omega
      | cons x t =>
        have hx := hp.2.1 x (by simp)
        refine ⟨x.toNat, by omega, t, ?_⟩
        rw [Int.toNat_of_nonneg hx.1, List.append_assoc, List.singleton_append]
    · refine Ev.step (fun k => ?_) h5
      simp only [gampref07_Orders.f]
      rw [if_neg (by omega)]; rfl
/-- Orders of at most 6 people: all permutations. -/
theorem orders_ev (hn : n ≤ 6) : ∃ S : List (List Int), S.length ≤ 1000000000 ∧ (∀ s ∈ S, IsPerm s n) ∧ (∀ s, IsPerm s n → s ∈ S) ∧ Ev (fun k => gampref07_Orders.f k ([] : List Int) (n : Int)) S := by
  have hb : ∀ d, d ≤ 6 → bnd d ≤ 191102976 := by
    intro d hd
    rcases d with _ | _ | _ | _ | _ | _ | _ | d
    · decide
    · decide
    · decide
    · decide
    · decide
    · decide
    · decide
    · omega
  obtain ⟨S, h1, h2, h3, h4⟩ := orders_f (n := n) (by omega) n [] (by simp) ⟨List.nodup_nil, by simp, by simp⟩ (by have := hb n hn; omega)
  exact ⟨S, by have := hb n hn; omega, h2, fun s hs => h3 s hs (List.nil_prefix), h4⟩
end
end Go.Proofs.Ytilabipmgcpnjaa.Pure
