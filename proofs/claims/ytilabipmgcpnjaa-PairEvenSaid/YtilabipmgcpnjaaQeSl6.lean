/- The declarations of Sl6 that the claim Qe needs. -/
import Derived.Test.YtilabipmgcpnjaaQeSl5
import Derived.Test.YtilabipmgcpnjaaQeTB
namespace Go.Proofs.Ytilabipmgcpnjaa.Own
open Go.Proofs.Ytilabipmgcpnjaa.Tan
set_option linter.unusedVariables false
set_option linter.unusedSimpArgs false
/-- The list of person i of n. -/
def RowOk (n i : Nat) (l : List Int) : Prop := l.Nodup ∧ (∀ j ∈ l, 0 ≤ j ∧ j < (n : Int) ∧ j ≠ (i : Int)) ∧ l.length = n - 1
def Valid (Ls : List (List Int)) : Prop := 1 ≤ Ls.length ∧ Ls.length ≤ 24 ∧ ∀ i, i < Ls.length → RowOk Ls.length i (Ls.getD i [])
theorem place_some {n i : Nat} : ∀ (l : List Int) (k : Nat) (p : List Int), l.Nodup → p.length = n → (∀ j ∈ l, 0 ≤ j ∧ j < (n : Int) ∧ j ≠ (i : Int)) → (∀ j ∈ l, p.getD j.toNat 0 < 0) →
    ∃ q, placeF n i l k p = some q ∧ q.length = n ∧ ∀ a : Nat, q.getD a 0 = if (a : Int) ∈ l then ((k + l.idxOf (a : Int) : Nat) : Int) else p.getD a 0
  | [], k, p, _, hl, _, _ => ⟨p, rfl, hl, fun a => by simp⟩
  | j :: r, k, p, hnd, hl, hr, hp => by
    have hnd' := List.nodup_cons.1 hnd
    obtain ⟨h1, h2, h3⟩ := hr j List.mem_cons_self
    have h4 := hp j List.mem_cons_self
    have hjl : j.toNat < p.length := by omega
    obtain ⟨q, e1, e2, e3⟩ := place_some r (k + 1) (p.set j.toNat k) hnd'.2 (by rw [List.length_set]; exact hl) (fun x hx => hr x (List.mem_cons_of_mem _ hx)) (fun x hx => by
      have hx1 := hr x (List.mem_cons_of_mem _ hx)
      rw [getD_set, if_neg]
      · exact hp x (List.mem_cons_of_mem _ hx)
      · rintro ⟨e, _⟩
        have : j = x := by omega
        exact hnd'.1 (this ▸ hx))
    refine ⟨q, ?_, e2, fun a => ?_⟩
    · unfold placeF
      rw [if_neg (by rintro (h | h | h | h) <;> omega)]
      exact e1
    · rw [e3]
      by_cases ha : (a : Int) = j
      · have hna : ¬ (a : Int) ∈ r := by rw [ha]; exact hnd'.1
        rw [if_neg hna, getD_set, if_pos ⟨by omega, by omega⟩, if_pos (by rw [ha]; exact List.mem_cons_self), ha, List.idxOf_cons_self]
        simp
      · have hja : ¬ j.toNat = a := by omega
        by_cases har : (a : Int) ∈ r
        · rw [if_pos har, if_pos (List.mem_cons_of_mem _ har), List.idxOf_cons, show (j == (a : Int)) = false by simpa using fun e : j = (a : Int) => ha e.symm]
          simp only [cond_false]
          omega
        · rw [if_neg har, getD_set, if_neg (fun e => hja e.1), if_neg (fun e => by
            rcases List.mem_cons.1 e with e | e
            · exact ha e
            · exact har e)]
theorem place_conv {n i : Nat} : ∀ (l : List Int) (k : Nat) (p q : List Int), p.length = n → placeF n i l k p = some q → l.Nodup ∧ (∀ j ∈ l, 0 ≤ j ∧ j < (n : Int) ∧ j ≠ (i : Int)) ∧ (∀ j ∈ l, p.getD j.toNat 0 < 0)
  | [], _, _, _, _, _ => by
    refine ⟨List.nodup_nil, ?_, ?_⟩ <;> (intro j hj; cases hj)
  | j :: r, k, p, q, hl, h => by
    unfold placeF at h
    split at h
    · cases h
    · rename_i hn
      obtain ⟨h1, h2, h3⟩ := place_conv r (k + 1) _ q (by rw [List.length_set]; exact hl) h
      have hj0 : 0 ≤ j := Int.not_lt.1 (fun e => hn (.inl e))
      have hjn : j < (n : Int) := Int.not_le.1 (fun e => hn (.inr (.inl e)))
      have hji : j ≠ (i : Int) := fun e => hn (.inr (.inr (.inl e)))
      have hjp : p.getD j.toNat 0 < 0 := Int.not_le.1 (fun e => hn (.inr (.inr (.inr e))))
      have hset : ∀ x ∈ r, x ≠ j ∧ p.getD x.toNat 0 < 0 := by
        intro x hx
        have h4 := h3 x hx
        have h5 := h2 x hx
        rw [getD_set] at h4
        split at h4
        · omega
        · rename_i hne
          refine ⟨fun e => hne ⟨by rw [e], by omega⟩, h4⟩
      refine ⟨List.nodup_cons.2 ⟨fun hm => (hset j hm).1 rfl, h1⟩, fun x hx => ?_, fun x hx => ?_⟩
      · rcases List.mem_cons.1 hx with rfl | hx
        · exact ⟨hj0, hjn, hji⟩
        · exact h2 x hx
      · rcases List.mem_cons.1 hx with rfl | hx
        · exact hjp
        · exact (hset x hx).2
theorem rep_neg (n a : Nat) : (List.replicate n (-1 : Int)).getD a 0 = if a < n then -1 else 0 := by
  rw [List.getD_eq_getElem?_getD, List.getElem?_replicate]
  split <;> rfl
theorem row_place {n i : Nat} {l : List Int} (h : RowOk n i l) : ∃ q, placeF n i l 0 (List.replicate n (-1)) = some q ∧ q.length = n ∧ ∀ a : Nat, (a : Int) ∈ l → q.getD a 0 = (l.idxOf (a : Int) : Int) := by
  obtain ⟨q, e1, e2, e3⟩ := place_some l 0 (List.replicate n (-1)) h.1 (by simp) h.2.1 (fun j hj => by
    have := h.2.1 j hj
    rw [rep_neg, if_pos (by omega)]
    omega)
  refine ⟨q, e1, e2, fun a ha => ?_⟩
  rw [e3, if_pos ha, Nat.zero_add]
theorem readLoop_some {n : Nat} : ∀ (ls : List (List Int)) (i : Nat) (acc : List (List Int)), (∀ t, t < ls.length → RowOk n (i + t) (ls.getD t [])) →
    ∃ P', readLoop n ls i acc = some (acc ++ P') ∧ P'.length = ls.length ∧ ∀ t, t < ls.length → ∀ a : Nat, (a : Int) ∈ ls.getD t [] → (P'.getD t []).getD a 0 = ((ls.getD t []).idxOf (a : Int) : Int)
  | [], i, acc, _ => ⟨[], by simp [readLoop], rfl, fun t ht => by simp at ht⟩
  | l :: r, i, acc, h => by
    have h0 := h 0 (by simp)
    simp only [List.getD_cons_zero, Nat.add_zero] at h0
    obtain ⟨q, e1, e2, e3⟩ := row_place h0
    obtain ⟨P', f1, f2, f3⟩ := readLoop_some r (i + 1) (acc ++ [q]) (fun t ht => by
      have := h (t + 1) (by simpa using ht)
      rw [List.getD_cons_succ] at this
      rw [show i + 1 + t = i + (t + 1) by omega]
      exact this)
    refine ⟨q :: P', ?_, by simp [f2], fun t ht a ha => ?_⟩
    · unfold readLoop
      rw [e1, Option.bind_some, if_pos h0.2.2, f1]
      simp
    · cases t with
      | zero =>
        rw [List.getD_cons_zero] at ha ⊢
        rw [List.getD_cons_zero]
        exact e3 a ha
      | succ t =>
        rw [List.getD_cons_succ] at ha ⊢
        rw [List.getD_cons_succ]
        exact f3 t (by simpa using ht) a ha
theorem readLoop_conv {n : Nat} : ∀ (ls : List (List Int)) (i : Nat) (acc P : List (List Int)), readLoop n ls i acc = some P → ∀ t, t < ls.length → RowOk n (i + t) (ls.getD t [])
  | [], i, acc, P, _, t, ht => by simp at ht
  | l :: r, i, acc, P, h, t, ht => by
    unfold readLoop at h
    obtain ⟨p, hp, h⟩ := Option.bind_eq_some_iff.1 h
    split at h
    · rename_i hl
      obtain ⟨h1, h2, _⟩ := place_conv l 0 _ p (by simp) hp
      cases t with
      | zero => exact ⟨h1, h2, hl⟩
      | succ t =>
        rw [List.getD_cons_succ, show i + (t + 1) = i + 1 + t by omega]
        exact readLoop_conv r (i + 1) _ P h t (by simpa using ht)
    · cases h
theorem readF_valid {Ls : List (List Int)} (h : Valid Ls) : ∃ P, readF Ls = some P ∧ P.length = Ls.length ∧ ∀ i, i < Ls.length → ∀ a : Nat, (a : Int) ∈ Ls.getD i [] → (P.getD i []).getD a 0 = (rkOf Ls i a : Int) := by
  obtain ⟨P, e1, e2, e3⟩ := readLoop_some (n := Ls.length) Ls 0 [] (fun t ht => by rw [Nat.zero_add]; exact h.2.2 t ht)
  refine ⟨P, ?_, e2, e3⟩
  unfold readF
  rw [if_neg (by have := h.1; have := h.2.1; omega), e1]
  simp
theorem valid_of_read {Ls P : List (List Int)} (h : readF Ls = some P) : Valid Ls := by
  obtain ⟨h1, h2⟩ := readF_len h
  refine ⟨h1, h2, fun i hi => ?_⟩
  unfold readF at h
  rw [if_neg (by omega)] at h
  have := readLoop_conv _ _ _ _ h i hi
  rw [Nat.zero_add] at this
  exact this
section
variable {Ls : List (List Int)}
/-- Everybody else is in the list. -/
theorem Valid.has (h : Valid Ls) {i a : Nat} (hi : i < Ls.length) (ha : a < Ls.length) (hne : a ≠ i) : (a : Int) ∈ Ls.getD i [] := by
  obtain ⟨h1, h2, h3⟩ := h.2.2 i hi
  apply Classical.byContradiction
  intro hno
  have hnd : (Ls.getD i []).map Int.toNat |>.Nodup := by
    have : ∀ l : List Int, l.Nodup → (∀ x ∈ l, 0 ≤ x) → (l.map Int.toNat).Nodup := by
      intro l
      induction l with
      | nil => intro _ _; exact List.nodup_nil
      | cons x l ih =>
        intro hd hp
        have hd' := List.nodup_cons.1 hd
        rw [List.map_cons, List.nodup_cons]
        refine ⟨fun hm => ?_, ih hd'.2 (fun y hy => hp y (List.mem_cons_of_mem _ hy))⟩
        obtain ⟨y, hy, e⟩ := List.mem_map.1 hm
        have e1 := hp x List.mem_cons_self
        have e2 := hp y (List.mem_cons_of_mem _ hy)
        have : y = x := by omega
        exact hd'.1 (this ▸ hy)
    exact this _ h1 (fun x hx => (h2 x hx).1)
  have hmem : ∀ x, x ∈ (Ls.getD i []).map Int.toNat → (x : Int) ∈ Ls.getD i [] ∧ x < Ls.length ∧ x ≠ i := by
    intro x hx
    obtain ⟨y, hy, rfl⟩ := List.mem_map.1 hx
    have := h2 y hy
    rw [show ((y.toNat : Nat) : Int) = y by omega]
    exact ⟨hy, by omega, by omega⟩
  have hlen := len_le_of_sub (l1 := a :: i :: (Ls.getD i []).map Int.toNat) (l2 := List.range Ls.length)
    (List.nodup_cons.2 ⟨fun hm => by
      rcases List.mem_cons.1 hm with e | hm
      · exact hne e
      · exact hno (hmem _ hm).1, List.nodup_cons.2 ⟨fun hm => (hmem _ hm).2.2 rfl, hnd⟩⟩)
    (fun x hx => by
      rcases List.mem_cons.1 hx with rfl | hx
      · exact List.mem_range.2 ha
      · rcases List.mem_cons.1 hx with rfl | hx
        · exact List.mem_range.2 hi
        · exact List.mem_range.2 (hmem x hx).2.1)
  simp only [List.length_cons, List.length_map, List.length_range] at hlen
  omega
theorem Valid.self (h : Valid Ls) {i : Nat} (hi : i < Ls.length) : rkOf Ls i i = Ls.length - 1 := by
  obtain ⟨h1, h2, h3⟩ := h.2.2 i hi
  unfold rkOf
  rw [List.idxOf_eq_length (fun hm => (h2 _ hm).2.2 rfl)]
  exact h3
theorem Valid.lt (h : Valid Ls) {i a : Nat} (hi : i < Ls.length) (ha : a < Ls.length) (hne : a ≠ i) : rkOf Ls i a < Ls.length - 1 := by
  have := List.idxOf_lt_length_of_mem (h.has hi ha hne)
  rw [(h.2.2 i hi).2.2] at this
  exact this
theorem Valid.pref (h : Valid Ls) : Pref Ls.length (rkOf Ls) := by
  refine ⟨fun i a b hi ha hb e => ?_, fun i a hi ha hne => by rw [h.self hi]; exact h.lt hi ha hne⟩
  by_cases hai : a = i
  · by_cases hbi : b = i
    · rw [hai, hbi]
    · have h1 := h.lt hi hb hbi
      rw [hai, h.self hi] at e
      omega
  · by_cases hbi : b = i
    · have h1 := h.lt hi ha hai
      rw [hbi, h.self hi] at e
      omega
    · have h1 := List.idxOf_lt_length_of_mem (h.has hi ha hai)
      have h2 := List.idxOf_lt_length_of_mem (h.has hi hb hbi)
      have g1 : (Ls.getD i [])[(Ls.getD i []).idxOf (a : Int)] = (a : Int) := List.getElem_idxOf h1
      have g2 : (Ls.getD i [])[(Ls.getD i []).idxOf (b : Int)] = (b : Int) := List.getElem_idxOf h2
      unfold rkOf at e
      simp only [e] at g1
      rw [g1] at g2
      omega
theorem sorted_idx : ∀ l : List Int, l.Nodup → l.Pairwise (fun a b => l.idxOf a < l.idxOf b) := by
  intro l hnd
  rw [List.pairwise_iff_getElem]
  intro i j hi hj hij
  rw [hnd.idxOf_getElem, hnd.idxOf_getElem]
  exact hij
theorem Valid.tl (h : Valid Ls) : TL Ls Ls := by
  refine ⟨rfl, fun i hi => ?_, fun i hi x hx => ((h.2.2 i hi).2.1 x hx).1⟩
  refine (sorted_idx _ (h.2.2 i hi).1).imp_of_mem (fun {a b} ha hb hab => ?_)
  have h1 := ((h.2.2 i hi).2.1 a ha).1
  have h2 := ((h.2.2 i hi).2.1 b hb).1
  unfold rkOf
  rw [show ((a.toNat : Nat) : Int) = a by omega, show ((b.toNat : Nat) : Int) = b by omega]
  exact hab
theorem Valid.tb (h : Valid Ls) : Tb Ls.length (rkOf Ls) (alOf Ls) := by
  have : alOf Ls = fun a b => a < Ls.length ∧ b < Ls.length ∧ a ≠ b := by
    funext a b
    apply propext
    constructor
    · rintro ⟨ha, hm⟩
      have := (h.2.2 a ha).2.1 _ hm
      exact ⟨ha, by omega, by omega⟩
    · rintro ⟨ha, hb, hab⟩
      exact ⟨ha, h.has ha hb (fun e => hab e.symm)⟩
  rw [this]
  exact full_tb
/-- solve has an answer, a stable partition. -/
theorem solve_spec (h : Valid Ls) : ∃ K R, solveF K Ls = some R ∧ Sol Ls R := by
  have hp := h.pref
  have hn : Ls.length ≤ 1000000 := by have := h.2.1; omega
  obtain ⟨n, hnn⟩ : ∃ n, Ls.length = n := ⟨_, rfl⟩
  obtain ⟨K, hK⟩ : ∃ K, K = n * n * (n + 1) + n * n + n + 1 := ⟨_, rfl⟩
  have hmu : ∀ L, mu Ls.length L ≤ n * n := fun L => by rw [hnn]; exact cnt_le_n
  obtain ⟨L', e1, hT, hs, _⟩ := propose_spec hp K Ls (by have := hmu Ls; rw [hK]; omega) h.tl h.tb
  have hA : As Ls L' (List.replicate Ls.length (-1)) := by
    have hneg : ∀ a, a < Ls.length → ¬ 0 ≤ (List.replicate Ls.length (-1 : Int)).getD a 0 := fun a ha => by rw [rep_neg, if_pos ha]; omega
    exact ⟨by simp, fun a ha h0 => absurd h0 (hneg a ha), fun a b hab h0 => absurd h0 (hneg a (hs.tb.rng _ _ hab).1), fun a b hab h0 => absurd h0 (hneg a (hs.tb.rng _ _ hab).1), fun a ha h0 => absurd h0 (hneg a ha)⟩
  have hb : mu Ls.length L' * (Ls.length + 1) + cnt Ls.length (fun a => (List.replicate Ls.length (-1 : Int)).getD a 0 < 0) < K := by
    have h1 : mu Ls.length L' * (Ls.length + 1) ≤ n * n * (n + 1) := by rw [← hnn] at hmu ⊢; exact Nat.mul_le_mul_right _ (hmu L')
    have h2 : cnt Ls.length (fun a => (List.replicate Ls.length (-1 : Int)).getD a 0 < 0) ≤ Ls.length := cnt_le_n
    omega
  obtain ⟨R, e2, hR⟩ := solveLoop_spec hp hn (K := K) (by rw [hnn, hK]; omega) (by rw [hnn, hK]; omega) K L' _ hb hT hs hA
  exact ⟨K, R, by unfold solveF; rw [e1, Option.bind_some]; exact e2, hR⟩
end
end Go.Proofs.Ytilabipmgcpnjaa.Own
