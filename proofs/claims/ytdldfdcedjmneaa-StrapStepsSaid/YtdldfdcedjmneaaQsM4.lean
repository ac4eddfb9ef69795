/- The declarations of M4 that the claim Qs needs. -/
import Derived.Test.YtdldfdcedjmneaaQsLxx10
import Derived.Test.YtdldfdcedjmneaaQsLxx28
import Derived.Test.YtdldfdcedjmneaaQsM2
namespace Go.Proofs.Ytdldfdcedjmneaa.Pure
open Go.RowKit Go.Proofs.YtdldfdcedjmneaaW.PrintWords Go.Proofs.YtdldfdcedjmneaaW.PrintLast Go.Proofs.YtdldfdcedjmneaaW.PrintMore Go.Proofs.Ytdldfdcedjmneaa.Lx Go.Proofs.Ytdldfdcedjmneaa.Br
open Go.Proofs.Ytdldfdcedjmneaa.Own (lst lst_len lst_getD lst_rd lst_inj lst_of getD_set' wrap_s rd_nat checkF checkF_zero badL normF normL normF_nf strap_Normal.f)
set_option linter.unusedVariables false
set_option linter.unusedSimpArgs false
theorem i8_of {x : Int} (h : (Lit.int .i8 x).wf = true) : -128 ≤ x ∧ x ≤ 127 := by
 have h2 : (decide ((-128 : Int) ≤ x) && decide (x ≤ 127)) = true := h
 rw [Bool.and_eq_true] at h2
 exact ⟨of_decide_eq_true h2.1, of_decide_eq_true h2.2⟩
theorem u8_of {x : Int} (h : (Lit.int .u8 x).wf = true) : 0 ≤ x ∧ x ≤ 255 := by
 have h2 : (decide ((0 : Int) ≤ x) && decide (x ≤ 255)) = true := h
 rw [Bool.and_eq_true] at h2
 exact ⟨of_decide_eq_true h2.1, of_decide_eq_true h2.2⟩
theorem strands_eq {a0 : Int} (h0 : 0 ≤ a0) (h1 : a0 ≤ 255) {c : Int} (hc : c = 8 ∨ c = 6) : ∃ n : Nat, gamplaw05_strands.f a0 c = some (n : Int) ∧ 2 ≤ n ∧ (n : Int) ≤ c := by
 have e1 : wrap64 (c - 1) = c - 1 := by unfold wrap64; omega
 have e2 : wrap64 a0 = a0 := by unfold wrap64; omega
 have e3 : wrap64 (c - 1) = c - 1 := e1
 unfold gamplaw05_strands.f
 rw [e1, e2, if_neg (by omega), Int.tmod_eq_emod_of_nonneg h0]
 have hb : 0 ≤ a0 % (c - 1) ∧ a0 % (c - 1) < c - 1 := ⟨Int.emod_nonneg _ (by omega), Int.emod_lt_of_pos _ (by omega)⟩
 refine ⟨(a0 % (c - 1) + 2).toNat, ?_, by omega, by omega⟩
 congr 1
 unfold wrap64
 omega
section
variable {n : Nat}
theorem word_l0 (hn1 : 2 ≤ n) (hn2 : n ≤ 8) {l : List Int} {L : Nat} (hL : L ≤ 1000) (hl : ∀ x ∈ l, -128 ≤ x ∧ x ≤ 127) : ∀ (d i : Nat) (acc : List Int), i + d = max l.length L → i ≤ L → acc.length ≤ i → Word n acc →
    ∃ xs, Word n xs ∧ xs.length ≤ L ∧ Ev (fun k => gamplaw05_word.l0 k (n : Int) l (L : Int) acc (i : Int)) xs := by
  intro d
  induction d with
  | zero =>
    intro i acc hd hi ha hw
    refine ⟨acc, hw, by omega, Ev.step (f := fun k => gamplaw05_word.j1 k (n : Int) l (L : Int) acc (i : Int) false) (fun k => ?_) (Ev.step (f := fun _ => some acc) (fun k => ?_) (Ev.now _))⟩
    · simp only [gamplaw05_word.l0]
      rw [if_neg (by omega)]
    · simp only [gamplaw05_word.j1]
      rw [if_neg (by decide)]
  | succ d ih =>
    intro i acc hd hi ha hw
    by_cases h1 : i < l.length ∧ i < L
    · have e1 : rd l (i : Int) = l[i] := by rw [rd_nat, List.getD_eq_getElem?_getD, List.getElem?_eq_getElem h1.1]; rfl
      have hb := hl l[i] (List.getElem_mem h1.1)
      have e2 : wrap64 l[i] = l[i] := by unfold wrap64; omega
      have hm1 : Int.tmod l[i] (n : Int) < n := Int.tmod_lt_of_pos _ (by omega)
      have hm2 : -(n : Int) < Int.tmod l[i] (n : Int) := Int.lt_tmod_of_pos _ (by omega)
      by_cases h2 : Int.tmod l[i] (n : Int) = 0
      · obtain ⟨xs, k1, k2, k3⟩ := ih (i + 1) acc (by omega) (by omega) (by omega) hw
        refine ⟨xs, k1, k2, Ev.step (f := fun k => gamplaw05_word.j1 k (n : Int) l (L : Int) acc (i : Int) true) (fun k => ?_) (Ev.step (fun k => ?_) k3)⟩
        · simp only [gamplaw05_word.l0]
          rw [if_pos (by omega), decide_eq_true (by omega)]
        · simp only [gamplaw05_word.j1]
          rw [if_pos trivial, if_pos (by omega), if_pos (by omega), if_neg (by omega), e1, e2, if_pos h2, wrap_s (by omega)]
      · obtain ⟨xs, k1, k2, k3⟩ := ih (i + 1) (acc ++ [Int.tmod l[i] (n : Int)]) (by omega) (by omega) (by rw [List.length_append]; simp only [List.length_singleton]; omega) (fun k hk => by
          rcases List.mem_append.1 hk with hk | hk
          · exact hw k hk
          · rw [List.mem_singleton.1 hk]; exact ⟨h2, hm2, hm1⟩)
        refine ⟨xs, k1, k2, Ev.step (f := fun k => gamplaw05_word.j1 k (n : Int) l (L : Int) acc (i : Int) true) (fun k => ?_) (Ev.step (fun k => ?_) k3)⟩
        · simp only [gamplaw05_word.l0]
          rw [if_pos (by omega), decide_eq_true (by omega)]
        · simp only [gamplaw05_word.j1]
          rw [if_pos trivial, if_pos (by omega), if_pos (by omega), if_neg (by omega), e1, e2, if_neg h2, if_pos (by omega), wrap_s (by omega)]
    · refine ⟨acc, hw, by omega, Ev.step (f := fun k => gamplaw05_word.j1 k (n : Int) l (L : Int) acc (i : Int) false) (fun k => ?_) (Ev.step (f := fun _ => some acc) (fun k => ?_) (Ev.now _))⟩
      · simp only [gamplaw05_word.l0]
        by_cases h2 : i < l.length
        · rw [if_pos (by omega), decide_eq_false (by omega)]
        · rw [if_neg (by omega)]
      · simp only [gamplaw05_word.j1]
        rw [if_neg (by decide)]
theorem word_ev (hn1 : 2 ≤ n) (hn2 : n ≤ 8) {l : List Int} {L : Nat} (hL : L ≤ 1000) (hl : ∀ x ∈ l, (Lit.int .i8 x).wf = true) : ∃ xs, Word n xs ∧ xs.length ≤ L ∧ Ev (fun k => gamplaw05_word.f k (n : Int) l (L : Int)) xs :=
  word_l0 hn1 hn2 hL (fun x hx => i8_of (hl x hx)) (max l.length L) 0 [] (by omega) (by omega) (by simp) (fun k hk => by cases hk)
variable {t : Pm}
theorem perm_l (ht : Sup n t) (hn : n ≤ 1000) : ∀ (d : Nat), (∀ i, i + d = n → Ev (fun k => gampref05_Permutation.l0 k (lst n t) (n : Int) (i : Int)) true) := by
 intro d
 induction d with
 | zero =>
  intro i hi
  refine Ev.step (f := fun _ => some true) (fun k => ?_) (Ev.now _)
  simp only [gampref05_Permutation.l0]
  rw [lst_len, if_neg (by omega), beq_self_eq_true]
 | succ d ih =>
  intro i hi
  have hin : i < n := by omega
  have inner : ∀ e j, j + e = i → Ev (fun k => gampref05_Permutation.l1 k (lst n t) (n : Int) (i : Int) (j : Int)) true := by
   intro e
   induction e with
   | zero =>
    intro j hj
    refine Ev.step (fun k => ?_) (ih (i + 1) (by omega))
    simp only [gampref05_Permutation.l1]
    rw [if_neg (by omega), wrap_s (by omega)]
   | succ e ihe =>
    intro j hj
    refine Ev.step (fun k => ?_) (ihe (j + 1) (by omega))
    have hne : t.f j ≠ t.f i := fun h => by have := t.inj h; omega
    simp only [gampref05_Permutation.l1]
    rw [if_pos (by omega), if_pos (by omega), lst_len, if_pos (by omega), if_pos (by omega), if_pos (by omega), lst_rd (by omega), lst_rd hin, if_neg (by omega), wrap_s (by omega)]
  have hlt := ht.lt hin
  refine Ev.step (fun k => ?_) (inner i 0 (by omega))
  have e1 : wrap64 ((n : Int) - 1) = (n : Int) - 1 := by unfold wrap64; omega
  simp only [gampref05_Permutation.l0, gampref05_in.f]
  rw [lst_len, if_pos (by omega), if_pos (by omega), lst_rd hin, e1, if_pos (by omega), Option.bind_some, decide_eq_true (by omega), if_pos rfl]
  rfl
theorem perm_ev (ht : Sup n t) (hn : n ≤ 1000) : Ev (fun k => gampref05_Permutation.f k (lst n t) (n : Int)) true := perm_l ht hn n 0 (by omega)
theorem rgt_ne : ∀ {L : List Pm}, Rgt n L → ∀ i (h : i < L.length), L[i] ≠ one
 | [], _, i, h => by simp at h
 | x :: L, hr, 0, h => hr.1
 | x :: L, hr, i + 1, h => rgt_ne (L := L) hr.2.2 i (by simpa using h)
theorem rgt_adj : ∀ {L : List Pm}, Rgt n L → ∀ i (h : i + 1 < L.length), ∀ j, j + 1 < n → L[i + 1].B j → (L[i]'(by omega)).E j
 | [], _, i, h, j, hj, hb => by simp at h
 | [x], hr, i, h, j, hj, hb => by simp at h
 | x :: y :: L, hr, 0, h, j, hj, hb => hr.2.1 y rfl j hj hb
 | x :: y :: L, hr, i + 1, h, j, hj, hb => rgt_adj (L := y :: L) hr.2.2 i (by simpa using h) j hj hb
theorem rgt_half {L : List Pm} (hr : Rgt n L) (hs : AllSup n L) (hh : L.head? ≠ some (half n)) : ∀ i (h : i < L.length), L[i] ≠ half n
  | 0, h => fun e => hh (by rw [List.head?_eq_getElem?, List.getElem?_eq_getElem h, e])
  | i + 1, h => fun e => rgt_half hr hs hh i (by omega) (eq_half (hs _ (List.getElem_mem (by omega))) fun j hj => rgt_adj hr i h j hj (by rw [e]; exact B_half hj))
theorem rd_map {L : List Pm} {i : Nat} (h : i < L.length) : rd_L1 (L.map (lst n)) (i : Int) = lst n L[i] := by
  unfold rd_L1
  rw [Int.toNat_natCast, List.getD_eq_getElem?_getD, List.getElem?_map, List.getElem?_eq_getElem h]; rfl
theorem is_l0 {L : List Pm} (p : Int) (hr : Rgt n L) (hs : AllSup n L) (hh : L.head? ≠ some (half n)) (hn : n ≤ 1000) (hm : L.length ≤ 100000) : ∀ (d i : Nat), i + d = L.length →
    Ev (fun k => gampref05_Is.l0 k (n : Int) (i : Int) p (L.map (lst n))) true := by
  intro d
  induction d with
  | zero =>
    intro i hi
    refine Ev.step (f := fun _ => some true) (fun k => ?_) (Ev.now _)
    simp only [gampref05_Is.l0]
    rw [List.length_map, if_neg (by omega)]
  | succ d ih =>
    intro i hi
    have hiL : i < L.length := by omega
    have ht : Sup n L[i] := hs _ (List.getElem_mem hiL)
    have d1 : decide (lst n L[i] = lst n one) = false := decide_eq_false fun e => rgt_ne hr i hiL (lst_inj ht (sup_one n) e)
    have d2 : decide (lst n L[i] = lst n (half n)) = false := decide_eq_false fun e => rgt_half hr hs hh i hiL (lst_inj ht (sup_half n) e)
    have s1 := same_ev (lst n L[i]) (lst n one) (by rw [lst_len]; omega)
    have s2 := same_ev (lst n L[i]) (lst n (half n)) (by rw [lst_len]; omega)
    rw [d1] at s1
    rw [d2] at s2
    have ihn := ih (i + 1) (by omega)
    by_cases h0 : i = 0
    · subst h0
      refine Ev.step (f := fun k => (gampref05_Permutation.f k (lst n L[0]) (n : Int)).bind fun t351 => (if t351 = true then ((gampref05_One.f k (n : Int)).bind fun t352 => ((gampref05_Same.f k (lst n L[0]) t352).bind fun t355 => (if t355 = true then (some false) else ((gampref05_Half.f k (n : Int)).bind fun t356 => ((gampref05_Same.f k (lst n L[0]) t356).bind fun t359 => (if t359 = true then (some false) else (gampref05_Is.l0 k (n : Int) ((0 + 1 : Nat) : Int) p (L.map (lst n))))))))) else (some false))) (fun k => ?_) ?_
      · simp only [gampref05_Is.l0]
        have e1 : rd_L1 (L.map (lst n)) ((0 : Nat) : Int) = lst n L[0] := rd_map hiL
        rw [List.length_map, if_pos (by omega), if_pos (by omega), e1]
        simp only [Int.ofNat_zero, show ¬ ((0 : Int) > 0) by decide, if_false, show wrap64 (0 + 1) = ((0 + 1 : Nat) : Int) from wrap_s (i := 0) (by omega)]
      · refine Ev.bind (perm_ev ht hn) ?_
        simp only [if_true]
        refine Ev.bind (refOne_ev hn) (Ev.bind s1 ?_)
        simp only [Bool.false_eq_true, if_false]
        refine Ev.bind (refHalf_ev hn) (Ev.bind s2 ?_)
        simp only [Bool.false_eq_true, if_false]
        exact ihn
    · have hp : Sup n (L[i - 1]'(by omega)) := hs _ (List.getElem_mem (by omega))
      obtain ⟨w, hw, hev⟩ := wrong_ev hp ht hn
      have hw0 : ¬ (w ≥ 0) := by
        rcases hw with ⟨hw, _⟩ | ⟨j, hw, hj, hb, hne⟩
        · omega
        · exact absurd (by
            have h3 := rgt_adj hr (i - 1) (by omega) j hj
            simp only [show i - 1 + 1 = i by omega] at h3
            exact h3 hb) hne
      refine Ev.step (f := fun k => (gampref05_Permutation.f k (lst n L[i]) (n : Int)).bind fun t351 => (if t351 = true then ((gampref05_One.f k (n : Int)).bind fun t352 => ((gampref05_Same.f k (lst n L[i]) t352).bind fun t355 => (if t355 = true then (some false) else ((gampref05_Half.f k (n : Int)).bind fun t356 => ((gampref05_Same.f k (lst n L[i]) t356).bind fun t359 => (if t359 = true then (some false) else ((gampref05_wrong.f k (lst n (L[i - 1]'(by omega))) (lst n L[i])).bind fun t361 => (if t361 ≥ 0 then (some false) else (gampref05_Is.l0 k (n : Int) ((i + 1 : Nat) : Int) p (L.map (lst n))))))))))) else (some false))) (fun k => ?_) ?_
      · simp only [gampref05_Is.l0]
        have e1 : rd_L1 (L.map (lst n)) (i : Int) = lst n L[i] := rd_map hiL
        have e2 : wrap64 ((i : Int) - 1) = ((i - 1 : Nat) : Int) := by unfold wrap64; omega
        have e3 : rd_L1 (L.map (lst n)) ((i - 1 : Nat) : Int) = lst n (L[i - 1]'(by omega)) := rd_map (by omega)
        have g1 : (i : Int) > 0 := by omega
        have g2 : (0 : Int) ≤ ((i - 1 : Nat) : Int) := by omega
        have g3 : ((i - 1 : Nat) : Int) < (L.length : Int) := by omega
        rw [List.length_map, if_pos (by omega), if_pos (by omega), e1, wrap_s (by omega), e2, e3]
        simp only [g1, g2, g3, if_true]
      · refine Ev.bind (perm_ev ht hn) ?_
        simp only [if_true]
        refine Ev.bind (refOne_ev hn) (Ev.bind s1 ?_)
        simp only [Bool.false_eq_true, if_false]
        refine Ev.bind (refHalf_ev hn) (Ev.bind s2 ?_)
        simp only [Bool.false_eq_true, if_false]
        refine Ev.bind hev ?_
        simp only [hw0, if_false]
        exact ihn
theorem is_ev {L : List Pm} (p : Int) (hr : Rgt n L) (hs : AllSup n L) (hh : L.head? ≠ some (half n)) (hn : n ≤ 1000) (hm : L.length ≤ 100000) : Ev (fun k => gampref05_Is.f k (n : Int) p (L.map (lst n))) true := is_l0 p hr hs hh hn hm L.length 0 (by omega)
end
end Go.Proofs.Ytdldfdcedjmneaa.Pure
