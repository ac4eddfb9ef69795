/- The declarations of Tan that the claim Qe needs. -/

namespace Go.Proofs.Ytilabipmgcpnjaa.Tan
theorem len_le_of_sub : ∀ {l1 l2 : List Nat}, l1.Nodup → (∀ x ∈ l1, x ∈ l2) → l1.length ≤ l2.length
  | [], _, _, _ => Nat.zero_le _
  | a :: l1, l2, hd, hs => by
    have ha : a ∈ l2 := hs a List.mem_cons_self
    have hd' := List.nodup_cons.1 hd
    have h1 : l1.length ≤ (l2.erase a).length := len_le_of_sub hd'.2 (fun x hx => by
      have hne : x ≠ a := fun e => hd'.1 (e ▸ hx)
      exact (List.mem_erase_of_ne hne).2 (hs x (List.mem_cons_of_mem _ hx)))
    have h2 := List.length_erase_of_mem ha
    have h3 : 0 < l2.length := List.length_pos_of_mem ha
    simp only [List.length_cons]
    omega
/-- How many below n are in A. -/
def cnt (n : Nat) (A : Nat → Prop) [DecidablePred A] : Nat := ((List.range n).filter (fun x => decide (A x))).length
theorem mem_cnt {n : Nat} {A : Nat → Prop} [DecidablePred A] {x : Nat} : x ∈ (List.range n).filter (fun x => decide (A x)) ↔ x < n ∧ A x := by
  simp [List.mem_filter]
theorem nodup_map {f : Nat → Nat} : ∀ {l : List Nat}, l.Nodup → (∀ x ∈ l, ∀ y ∈ l, f x = f y → x = y) → (l.map f).Nodup
  | [], _, _ => List.nodup_nil
  | a :: l, hd, hi => by
    have hd' := List.nodup_cons.1 hd
    rw [List.map_cons, List.nodup_cons]
    refine ⟨fun hm => ?_, nodup_map hd'.2 (fun x hx y hy => hi x (List.mem_cons_of_mem _ hx) y (List.mem_cons_of_mem _ hy))⟩
    obtain ⟨b, hb, he⟩ := List.mem_map.1 hm
    have := hi b (List.mem_cons_of_mem _ hb) a List.mem_cons_self he
    exact hd'.1 (this ▸ hb)
section
variable {n : Nat} {A B : Nat → Prop} [DecidablePred A] [DecidablePred B] {f : Nat → Nat}
theorem image_nodup (hi : ∀ x, x < n → A x → ∀ y, y < n → A y → f x = f y → x = y) : (((List.range n).filter (fun x => decide (A x))).map f).Nodup :=
  nodup_map (List.nodup_range.filter _) (fun x hx y hy h => by
    have hx := mem_cnt.1 hx
    have hy := mem_cnt.1 hy
    exact hi x hx.1 hx.2 y hy.1 hy.2 h)
theorem cnt_le (hf : ∀ x, x < n → A x → f x < n ∧ B (f x)) (hi : ∀ x, x < n → A x → ∀ y, y < n → A y → f x = f y → x = y) : cnt n A ≤ cnt n B := by
  have h := len_le_of_sub (image_nodup hi) (l2 := (List.range n).filter (fun x => decide (B x))) (fun x hx => by
    obtain ⟨y, hy, rfl⟩ := List.mem_map.1 hx
    have hy := mem_cnt.1 hy
    exact mem_cnt.2 (hf y hy.1 hy.2))
  rw [List.length_map] at h
  exact h
theorem cnt_onto (hf : ∀ x, x < n → A x → f x < n ∧ B (f x)) (hi : ∀ x, x < n → A x → ∀ y, y < n → A y → f x = f y → x = y) (hc : cnt n B ≤ cnt n A) (z : Nat) (hz : z < n) (hB : B z) : ∃ x, x < n ∧ A x ∧ f x = z := by
  apply Classical.byContradiction
  intro hno
  have hm : z ∈ (List.range n).filter (fun x => decide (B x)) := mem_cnt.2 ⟨hz, hB⟩
  have h := len_le_of_sub (image_nodup hi) (l2 := ((List.range n).filter (fun x => decide (B x))).erase z) (fun x hx => by
    obtain ⟨y, hy, rfl⟩ := List.mem_map.1 hx
    have hy := mem_cnt.1 hy
    have hne : f y ≠ z := fun e => hno ⟨y, hy.1, hy.2, e⟩
    exact (List.mem_erase_of_ne hne).2 (mem_cnt.2 (hf y hy.1 hy.2)))
  rw [List.length_map, List.length_erase_of_mem hm] at h
  have h2 : 0 < ((List.range n).filter (fun x => decide (B x))).length := List.length_pos_of_mem hm
  unfold cnt at hc
  omega
theorem cnt_mono (h : ∀ x, x < n → A x → B x) : cnt n A ≤ cnt n B := cnt_le (f := id) (fun x hx ha => ⟨hx, h x hx ha⟩) (fun _ _ _ _ _ _ e => e)
theorem cnt_eq_of (h : ∀ x, x < n → A x → B x) (hc : cnt n B ≤ cnt n A) : ∀ x, x < n → B x → A x := fun z hz hB => by
  obtain ⟨x, hx, ha, e⟩ := cnt_onto (f := id) (fun x hx ha => ⟨hx, h x hx ha⟩) (fun _ _ _ _ _ _ e => e) hc z hz hB
  have : x = z := e
  exact this ▸ ha
end
/-- rk i a: the place of a for person i; oneself comes last. -/
structure Pref (n : Nat) (rk : Nat → Nat → Nat) : Prop where
  inj : ∀ i a b, i < n → a < n → b < n → rk i a = rk i b → a = b
  self : ∀ i a, i < n → a < n → a ≠ i → rk i a < rk i i
/-- p: next, q: previous; a stable partition. -/
structure Part (n : Nat) (rk : Nat → Nat → Nat) (p q : Nat → Nat) : Prop where
  pn : ∀ i, i < n → p i < n
  qn : ∀ i, i < n → q i < n
  pq : ∀ i, i < n → p (q i) = i
  qp : ∀ i, i < n → q (p i) = i
  up : ∀ i, i < n → rk i (p i) ≤ rk i (q i)
  no : ∀ i j, i < n → j < n → i ≠ j → rk i j < rk i (q i) → rk j i < rk j (q j) → False
section
variable {n : Nat} {rk : Nat → Nat → Nat} {p q p' q' : Nat → Nat}
theorem Part.inj (h : Part n rk p q) {a b : Nat} (ha : a < n) (hb : b < n) (e : p a = p b) : a = b := by
  rw [← h.qp a ha, ← h.qp b hb, e]
/-- i lies on an odd cycle of p. -/
def Od (p : Nat → Nat) (i : Nat) : Prop := ∃ m, Nat.repeat p (2 * m + 1) i = i
theorem rep_succ (p : Nat → Nat) (m i : Nat) : Nat.repeat p (m + 1) i = p (Nat.repeat p m i) := rfl
theorem rep_comm (p : Nat → Nat) : ∀ (m i : Nat), Nat.repeat p m (p i) = p (Nat.repeat p m i)
  | 0, _ => rfl
  | m + 1, i => by rw [rep_succ, rep_comm p m i, rep_succ]
theorem Od.next {p : Nat → Nat} {i : Nat} (h : Od p i) : Od p (p i) := by
  obtain ⟨m, hm⟩ := h
  exact ⟨m, by rw [rep_comm, hm]⟩
theorem Od.rep {p : Nat → Nat} {i : Nat} (h : Od p i) : ∀ m, Od p (Nat.repeat p m i)
  | 0 => h
  | m + 1 => (h.rep m).next
theorem rep_lt (hf : ∀ i, i < n → p i < n) {i : Nat} (hi : i < n) : ∀ m, Nat.repeat p m i < n
  | 0 => hi
  | m + 1 => by rw [rep_succ]; exact hf _ (rep_lt hf hi m)
end
end Go.Proofs.Ytilabipmgcpnjaa.Tan
