/- The declarations of M4 that the claim Qv needs. -/
import Derived.Test.YtdldfdcedjmneaaQvLxx28
import Derived.Test.YtdldfdcedjmneaaQvM2
namespace Go.Proofs.Ytdldfdcedjmneaa.Pure
open Go.RowKit Go.Proofs.YtdldfdcedjmneaaW.PrintWords Go.Proofs.YtdldfdcedjmneaaW.PrintLast Go.Proofs.YtdldfdcedjmneaaW.PrintMore Go.Proofs.Ytdldfdcedjmneaa.Lx Go.Proofs.Ytdldfdcedjmneaa.Br
open Go.Proofs.Ytdldfdcedjmneaa.Own (lst lst_len lst_getD lst_rd lst_inj lst_of getD_set' wrap_s rd_nat checkF checkF_zero badL normF normL normF_nf strap_Normal.f)
set_option linter.unusedVariables false
set_option linter.unusedSimpArgs false
theorem i8_of {x : Int} (h : (Lit.int .i8 x).wf = true) : -128 ≤ x ∧ x ≤ 127 := by
 have h2 : (decide ((-128 : Int) ≤ x) && decide (x ≤ 127)) = true := h
 rw [Bool.and_eq_true] at h2
 exact ⟨of_decide_eq_true h2.1, of_decide_eq_true h2.2⟩
theorem u8_of {x : Int} (h : (Lit.int .u8 x).wf = true) : 0 ≤ x ∧ x ≤ 255 := by
 have h2 : (decide ((0 : Int) ≤ x) && decide (x ≤ 255)) = true := h
 rw [Bool.and_eq_true] at h2
 exact ⟨of_decide_eq_true h2.1, of_decide_eq_true h2.2⟩
theorem strands_eq {a0 : Int} (h0 : 0 ≤ a0) (h1 : a0 ≤ 255) {c : Int} (hc : c = 8 ∨ c = 6) : ∃ n : Nat, gamplaw05_strands.f a0 c = some (n : Int) ∧ 2 ≤ n ∧ (n : Int) ≤ c := by
 have e1 : wrap64 (c - 1) = c - 1 := by unfold wrap64; omega
 have e2 : wrap64 a0 = a0 := by unfold wrap64; omega
 have e3 : wrap64 (c - 1) = c - 1 := e1
 unfold gamplaw05_strands.f
 rw [e1, e2, if_neg (by omega), Int.tmod_eq_emod_of_nonneg h0]
 have hb : 0 ≤ a0 % (c - 1) ∧ a0 % (c - 1) < c - 1 := ⟨Int.emod_nonneg _ (by omega), Int.emod_lt_of_pos _ (by omega)⟩
 refine ⟨(a0 % (c - 1) + 2).toNat, ?_, by omega, by omega⟩
 congr 1
 unfold wrap64
 omega
section
variable {n : Nat}
theorem word_l0 (hn1 : 2 ≤ n) (hn2 : n ≤ 8) {l : List Int} {L : Nat} (hL : L ≤ 1000) (hl : ∀ x ∈ l, -128 ≤ x ∧ x ≤ 127) : ∀ (d i : Nat) (acc : List Int), i + d = max l.length L → i ≤ L → acc.length ≤ i → Word n acc →
    ∃ xs, Word n xs ∧ xs.length ≤ L ∧ Ev (fun k => gamplaw05_word.l0 k (n : Int) l (L : Int) acc (i : Int)) xs := by
  intro d
  induction d with
  | zero =>
    intro i acc hd hi ha hw
    refine ⟨acc, hw, by omega, Ev.step (f := fun k => gamplaw05_word.j1 k (n : Int) l (L : Int) acc (i : Int) false) (fun k => ?_) (Ev.step (f := fun _ => some acc) (fun k => ?_) (Ev.now _))⟩
    · simp only [gamplaw05_word.l0]
      rw [if_neg (by omega)]
    · simp only [gamplaw05_word.j1]
      rw [if_neg (by decide)]
  | succ d ih =>
    intro i acc hd hi ha hw
    by_cases h1 : i < l.length ∧ i < L
    · have e1 : rd l (i : Int) = l[i] := by rw [rd_nat, List.getD_eq_getElem?_getD, List.getElem?_eq_getElem h1.1]; rfl
      have hb := hl l[i] (List.getElem_mem h1.1)
      have e2 : wrap64 l[i] = l[i] := by unfold wrap64; omega
      have hm1 : Int.tmod l[i] (n : Int) < n := Int.tmod_lt_of_pos _ (by omega)
      have hm2 : -(n : Int) < Int.tmod l[i] (n : Int) := Int.lt_tmod_of_pos _ (by omega)
      by_cases h2 : Int.tmod l[i] (n : Int) = 0
      · obtain ⟨xs, k1, k2, k3⟩ := ih (i + 1) acc (by omega) (by omega) (by omega) hw
        refine ⟨xs, k1, k2, Ev.step (f := fun k => gamplaw05_word.j1 k (n : Int) l (L : Int) acc (i : Int) true) (fun k => ?_) (Ev.step (fun k => ?_) k3)⟩
        · simp only [gamplaw05_word.l0]
          rw [if_pos (by omega), decide_eq_true (by omega)]
        · simp only [gamplaw05_word.j1]
          rw [if_pos trivial, if_pos (by omega), if_pos (by omega), if_neg (by omega), e1, e2, if_pos h2, wrap_s (by omega)]
      · obtain ⟨xs, k1, k2, k3⟩ := ih (i + 1) (acc ++ [Int.tmod l[i] (n : Int)]) (by omega) (by omega) (by rw [List.length_append]; simp only [List.length_singleton]; omega) (fun k hk => by
          rcases List.mem_append.1 hk with hk | hk
          · exact hw k hk
          · rw [List.mem_singleton.1 hk]; exact ⟨h2, hm2, hm1⟩)
        refine ⟨xs, k1, k2, Ev.step (f := fun k => gamplaw05_word.j1 k (n : Int) l (L : Int) acc (i : Int) true) (fun k => ?_) (Ev.step (fun k => ?_) k3)⟩
        · simp only [gamplaw05_word.l0]
          rw [if_pos (by omega), decide_eq_true (by omega)]
        · simp only [gamplaw05_word.j1]
          rw [if_pos trivial, if_pos (by omega), if_pos (by omega), if_neg (by omega), e1, e2, if_neg h2, if_pos (by omega), wrap_s (by omega)]
    · refine ⟨acc, hw, by omega, Ev.step (f := fun k => gamplaw05_word.j1 k (n : Int) l (L : Int) acc (i : Int) false) (fun k => ?_) (Ev.step (f := fun _ => some acc) (fun k => ?_) (Ev.now _))⟩
      · simp only [gamplaw05_word.l0]
        by_cases h2 : i < l.length
        · rw [if_pos (by omega), decide_eq_false (by omega)]
        · rw [if_neg (by omega)]
      · simp only [gamplaw05_word.j1]
        rw [if_neg (by decide)]
theorem word_ev (hn1 : 2 ≤ n) (hn2 : n ≤ 8) {l : List Int} {L : Nat} (hL : L ≤ 1000) (hl : ∀ x ∈ l, (Lit.int .i8 x).wf = true) : ∃ xs, Word n xs ∧ xs.length ≤ L ∧ Ev (fun k => gamplaw05_word.f k (n : Int) l (L : Int)) xs :=
  word_l0 hn1 hn2 hL (fun x hx => i8_of (hl x hx)) (max l.length L) 0 [] (by omega) (by omega) (by simp) (fun k hk => by cases hk)
variable {t : Pm}
theorem rgt_ne : ∀ {L : List Pm}, Rgt n L → ∀ i (h : i < L.length), L[i] ≠ one
 | [], _, i, h => by simp at h
 | x :: L, hr, 0, h => hr.1
 | x :: L, hr, i + 1, h => rgt_ne (L := L) hr.2.2 i (by simpa using h)
theorem rgt_adj : ∀ {L : List Pm}, Rgt n L → ∀ i (h : i + 1 < L.length), ∀ j, j + 1 < n → L[i + 1].B j → (L[i]'(by omega)).E j
 | [], _, i, h, j, hj, hb => by simp at h
 | [x], hr, i, h, j, hj, hb => by simp at h
 | x :: y :: L, hr, 0, h, j, hj, hb => hr.2.1 y rfl j hj hb
 | x :: y :: L, hr, i + 1, h, j, hj, hb => rgt_adj (L := y :: L) hr.2.2 i (by simpa using h) j hj hb
theorem rgt_half {L : List Pm} (hr : Rgt n L) (hs : AllSup n L) (hh : L.head? ≠ some (half n)) : ∀ i (h : i < L.length), L[i] ≠ half n
  | 0, h => fun e => hh (by rw [List.head?_eq_getElem?, List.getElem?_eq_getElem h, e])
  | i + 1, h => fun e => rgt_half hr hs hh i (by omega) (eq_half (hs _ (List.getElem_mem (by omega))) fun j hj => rgt_adj hr i h j hj (by rw [e]; exact B_half hj))
theorem rd_map {L : List Pm} {i : Nat} (h : i < L.length) : rd_L1 (L.map (lst n)) (i : Int) = lst n L[i] := by
  unfold rd_L1
  rw [Int.toNat_natCast, List.getD_eq_getElem?_getD, List.getElem?_map, List.getElem?_eq_getElem h]; rfl
end
end Go.Proofs.Ytdldfdcedjmneaa.Pure
