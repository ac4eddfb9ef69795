/- The declarations of Tan that the claim Qb needs. -/

namespace Go.Proofs.Ytilabipmgcpnjaa.Tan
theorem len_le_of_sub : ∀ {l1 l2 : List Nat}, l1.Nodup → (∀ x ∈ l1, x ∈ l2) → l1.length ≤ l2.length
  | [], _, _, _ => Nat.zero_le _
  | a :: l1, l2, hd, hs => by
    have ha : a ∈ l2 := hs a List.mem_cons_self
    have hd' := List.nodup_cons.1 hd
    have h1 : l1.length ≤ (l2.erase a).length := len_le_of_sub hd'.2 (fun x hx => by
      have hne : x ≠ a := fun e => hd'.1 (e ▸ hx)
      exact (List.mem_erase_of_ne hne).2 (hs x (List.mem_cons_of_mem _ hx)))
    have h2 := List.length_erase_of_mem ha
    have h3 : 0 < l2.length := List.length_pos_of_mem ha
    simp only [List.length_cons]
    omega
/-- How many below n are in A. -/
def cnt (n : Nat) (A : Nat → Prop) [DecidablePred A] : Nat := ((List.range n).filter (fun x => decide (A x))).length
theorem mem_cnt {n : Nat} {A : Nat → Prop} [DecidablePred A] {x : Nat} : x ∈ (List.range n).filter (fun x => decide (A x)) ↔ x < n ∧ A x := by
  simp [List.mem_filter]
theorem nodup_map {f : Nat → Nat} : ∀ {l : List Nat}, l.Nodup → (∀ x ∈ l, ∀ y ∈ l, f x = f y → x = y) → (l.map f).Nodup
  | [], _, _ => List.nodup_nil
  | a :: l, hd, hi => by
    have hd' := List.nodup_cons.1 hd
    rw [List.map_cons, List.nodup_cons]
    refine ⟨fun hm => ?_, nodup_map hd'.2 (fun x hx y hy => hi x (List.mem_cons_of_mem _ hx) y (List.mem_cons_of_mem _ hy))⟩
    obtain ⟨b, hb, he⟩ := List.mem_map.1 hm
    have := hi b (List.mem_cons_of_mem _ hb) a List.mem_cons_self he
    exact hd'.1 (this ▸ hb)
section
variable {n : Nat} {A B : Nat → Prop} [DecidablePred A] [DecidablePred B] {f : Nat → Nat}
theorem image_nodup (hi : ∀ x, x < n → A x → ∀ y, y < n → A y → f x = f y → x = y) : (((List.range n).filter (fun x => decide (A x))).map f).Nodup :=
  nodup_map (List.nodup_range.filter _) (fun x hx y hy h => by
    have hx := mem_cnt.1 hx
    have hy := mem_cnt.1 hy
    exact hi x hx.1 hx.2 y hy.1 hy.2 h)
theorem cnt_le (hf : ∀ x, x < n → A x → f x < n ∧ B (f x)) (hi : ∀ x, x < n → A x → ∀ y, y < n → A y → f x = f y → x = y) : cnt n A ≤ cnt n B := by
  have h := len_le_of_sub (image_nodup hi) (l2 := (List.range n).filter (fun x => decide (B x))) (fun x hx => by
    obtain ⟨y, hy, rfl⟩ := List.mem_map.1 hx
    have hy := mem_cnt.1 hy
    exact mem_cnt.2 (hf y hy.1 hy.2))
  rw [List.length_map] at h
  exact h
theorem cnt_onto (hf : ∀ x, x < n → A x → f x < n ∧ B (f x)) (hi : ∀ x, x < n → A x → ∀ y, y < n → A y → f x = f y → x = y) (hc : cnt n B ≤ cnt n A) (z : Nat) (hz : z < n) (hB : B z) : ∃ x, x < n ∧ A x ∧ f x = z := by
  apply Classical.byContradiction
  intro hno
  have hm : z ∈ (List.range n).filter (fun x => decide (B x)) := mem_cnt.2 ⟨hz, hB⟩
  have h := len_le_of_sub (image_nodup hi) (l2 := ((List.range n).filter (fun x => decide (B x))).erase z) (fun x hx => by
    obtain ⟨y, hy, rfl⟩ := List.mem_map.1 hx
    have hy := mem_cnt.1 hy
    have hne : f y ≠ z := fun e => hno ⟨y, hy.1, hy.2, e⟩
    exact (List.mem_erase_of_ne hne).2 (mem_cnt.2 (hf y hy.1 hy.2)))
  rw [List.length_map, List.length_erase_of_mem hm] at h
  have h2 : 0 < ((List.range n).filter (fun x => decide (B x))).length := List.length_pos_of_mem hm
  unfold cnt at hc
  omega
theorem cnt_mono (h : ∀ x, x < n → A x → B x) : cnt n A ≤ cnt n B := cnt_le (f := id) (fun x hx ha => ⟨hx, h x hx ha⟩) (fun _ _ _ _ _ _ e => e)
theorem cnt_eq_of (h : ∀ x, x < n → A x → B x) (hc : cnt n B ≤ cnt n A) : ∀ x, x < n → B x → A x := fun z hz hB => by
  obtain ⟨x, hx, ha, e⟩ := cnt_onto (f := id) (fun x hx ha => ⟨hx, h x hx ha⟩) (fun _ _ _ _ _ _ e => e) hc z hz hB
  have : x = z := e
  exact this ▸ ha
end
theorem cnt_congr {n : Nat} {A B : Nat → Prop} [DecidablePred A] [DecidablePred B] (h : ∀ x, x < n → (A x ↔ B x)) : cnt n A = cnt n B :=
  Nat.le_antisymm (cnt_mono (fun x hx => (h x hx).1)) (cnt_mono (fun x hx => (h x hx).2))
theorem cnt_or {n : Nat} {A B : Nat → Prop} [DecidablePred A] [DecidablePred B] (hd : ∀ x, x < n → A x → ¬ B x) : cnt n (fun x => A x ∨ B x) = cnt n A + cnt n B := by
  unfold cnt
  have : ∀ l : List Nat, (∀ x ∈ l, A x → ¬ B x) → (l.filter (fun x => decide (A x ∨ B x))).length = (l.filter (fun x => decide (A x))).length + (l.filter (fun x => decide (B x))).length := by
    intro l
    induction l with
    | nil => intro _; rfl
    | cons a l ih =>
      intro hl
      have ih := ih (fun x hx => hl x (List.mem_cons_of_mem _ hx))
      have ha := hl a List.mem_cons_self
      rw [List.filter_cons, List.filter_cons, List.filter_cons]
      by_cases h1 : A a
      · have h2 := ha h1
        simp only [h1, h2, true_or, decide_true, decide_false, if_true, Bool.false_eq_true, if_false, List.length_cons]
        omega
      · by_cases h2 : B a
        · simp only [h1, h2, or_true, decide_true, decide_false, if_true, Bool.false_eq_true, if_false, List.length_cons]
          omega
        · simp only [h1, h2, or_self, decide_false, Bool.false_eq_true, if_false]
          omega
  exact this _ (fun x hx => hd x (List.mem_range.1 hx))
/-- rk i a: the place of a for person i; oneself comes last. -/
structure Pref (n : Nat) (rk : Nat → Nat → Nat) : Prop where
  inj : ∀ i a b, i < n → a < n → b < n → rk i a = rk i b → a = b
  self : ∀ i a, i < n → a < n → a ≠ i → rk i a < rk i i
/-- p: next, q: previous; a stable partition. -/
structure Part (n : Nat) (rk : Nat → Nat → Nat) (p q : Nat → Nat) : Prop where
  pn : ∀ i, i < n → p i < n
  qn : ∀ i, i < n → q i < n
  pq : ∀ i, i < n → p (q i) = i
  qp : ∀ i, i < n → q (p i) = i
  up : ∀ i, i < n → rk i (p i) ≤ rk i (q i)
  no : ∀ i j, i < n → j < n → i ≠ j → rk i j < rk i (q i) → rk j i < rk j (q j) → False
section
variable {n : Nat} {rk : Nat → Nat → Nat} {p q p' q' : Nat → Nat}
theorem Part.inj (h : Part n rk p q) {a b : Nat} (ha : a < n) (hb : b < n) (e : p a = p b) : a = b := by
  rw [← h.qp a ha, ← h.qp b hb, e]
theorem Part.qinj (h : Part n rk p q) {a b : Nat} (ha : a < n) (hb : b < n) (e : q a = q b) : a = b := by
  rw [← h.pq a ha, ← h.pq b hb, e]
/-- Where π is better at its first one: p goes to one who is better off in π'. -/
theorem step_N (hp : Pref n rk) (h : Part n rk p q) (h' : Part n rk p' q') {i : Nat} (hi : i < n) (hN : rk i (p i) < rk i (p' i)) : rk (p i) (q' (p i)) < rk (p i) (q (p i)) := by
  have hpi := h.pn i hi
  have hne : i ≠ p i := by
    intro e
    have h1 : p' i ≠ i := fun e' => by rw [e', ← e] at hN; omega
    have := hp.self i (p' i) hi (h'.pn i hi) h1
    rw [← e] at hN
    omega
  have h1 : rk i (p i) < rk i (q' i) := Nat.lt_of_lt_of_le hN (h'.up i hi)
  have h2 : ¬ rk (p i) i < rk (p i) (q' (p i)) := fun h3 => h'.no i (p i) hi hpi hne h1 h3
  rw [h.qp i hi]
  refine Nat.lt_of_le_of_ne (Nat.not_lt.1 h2) (fun e => ?_)
  have e2 := hp.inj (p i) _ _ hpi (h'.qn _ hpi) hi e
  have e3 : p i = p' i := by rw [← e2, h'.pq _ hpi, e2]
  rw [e3] at hN
  omega
/-- Who is better off in π': q' goes back to one who is worse off there. -/
theorem step_Q (hp : Pref n rk) (h : Part n rk p q) (h' : Part n rk p' q') {j : Nat} (hj : j < n) (hQ : rk j (q' j) < rk j (q j)) : rk (q' j) (p (q' j)) < rk (q' j) (p' (q' j)) ∧ rk (q' j) (q (q' j)) ≤ rk (q' j) (p' (q' j)) := by
  have hqj := h'.qn j hj
  have hne : j ≠ q' j := by
    intro e
    have h1 : q j ≠ j := fun e' => by rw [e', ← e] at hQ; omega
    have := hp.self j (q j) hj (h.qn j hj) h1
    rw [← e] at hQ
    omega
  rw [h'.pq j hj]
  have h2 : ¬ rk (q' j) j < rk (q' j) (q (q' j)) := fun h3 => h.no j (q' j) hj hqj hne hQ h3
  have h3 := Nat.not_lt.1 h2
  refine ⟨Nat.lt_of_le_of_ne (Nat.le_trans (h.up _ hqj) h3) (fun e => ?_), h3⟩
  have e2 := hp.inj (q' j) _ _ hqj (h.pn _ hqj) hj e
  have e3 : q' j = q j := by
    have := h.qp (q' j) hqj
    rw [e2] at this
    exact this.symm
  rw [e3] at hQ
  omega
/-- The counting: where p is better, π's two are no worse than π''s first one; and p goes there onto all who are better off in π'. -/
theorem facts (hp : Pref n rk) (h : Part n rk p q) (h' : Part n rk p' q') :
    (∀ i, i < n → rk i (p i) < rk i (p' i) → rk i (q i) ≤ rk i (p' i)) ∧
    (∀ j, j < n → rk j (q' j) < rk j (q j) → rk (q j) (p (q j)) < rk (q j) (p' (q j))) ∧
    cnt n (fun i => rk i (p i) < rk i (p' i)) = cnt n (fun j => rk j (q' j) < rk j (q j)) := by
  have c1 : cnt n (fun i => rk i (p i) < rk i (p' i)) ≤ cnt n (fun j => rk j (q' j) < rk j (q j)) :=
    cnt_le (f := p) (fun i hi hN => ⟨h.pn i hi, step_N hp h h' hi hN⟩) (fun x hx _ y hy _ e => h.inj hx hy e)
  have c2 : cnt n (fun j => rk j (q' j) < rk j (q j)) ≤ cnt n (fun i => rk i (p i) < rk i (p' i) ∧ rk i (q i) ≤ rk i (p' i)) :=
    cnt_le (f := q') (fun j hj hQ => ⟨h'.qn j hj, step_Q hp h h' hj hQ⟩) (fun x hx _ y hy _ e => h'.qinj hx hy e)
  have c3 : cnt n (fun i => rk i (p i) < rk i (p' i) ∧ rk i (q i) ≤ rk i (p' i)) ≤ cnt n (fun i => rk i (p i) < rk i (p' i)) := cnt_mono (fun x _ hx => hx.1)
  refine ⟨fun i hi hN => (cnt_eq_of (fun x _ hx => hx.1) (Nat.le_trans c1 c2) i hi hN).2, fun j hj hQ => ?_, Nat.le_antisymm c1 (Nat.le_trans c2 c3)⟩
  obtain ⟨i, hi, hN, rfl⟩ := cnt_onto (f := p) (fun i hi hN => ⟨h.pn i hi, step_N hp h h' hi hN⟩) (fun x hx _ y hy _ e => h.inj hx hy e) (Nat.le_trans c2 c3) j hj hQ
  rw [h.qp i hi]
  exact hN
/-- i lies on an odd cycle of p. -/
def Od (p : Nat → Nat) (i : Nat) : Prop := ∃ m, Nat.repeat p (2 * m + 1) i = i
theorem rep_succ (p : Nat → Nat) (m i : Nat) : Nat.repeat p (m + 1) i = p (Nat.repeat p m i) := rfl
theorem rep_comm (p : Nat → Nat) : ∀ (m i : Nat), Nat.repeat p m (p i) = p (Nat.repeat p m i)
  | 0, _ => rfl
  | m + 1, i => by rw [rep_succ, rep_comm p m i, rep_succ]
theorem Od.next {p : Nat → Nat} {i : Nat} (h : Od p i) : Od p (p i) := by
  obtain ⟨m, hm⟩ := h
  exact ⟨m, by rw [rep_comm, hm]⟩
theorem Od.rep {p : Nat → Nat} {i : Nat} (h : Od p i) : ∀ m, Od p (Nat.repeat p m i)
  | 0 => h
  | m + 1 => (h.rep m).next
theorem rep_two {p : Nat → Nat} {i : Nat} (h : p (p i) = i) : ∀ m, Nat.repeat p (2 * m) i = i
  | 0 => rfl
  | m + 1 => by
    rw [show 2 * (m + 1) = (2 * m + 1) + 1 by omega, rep_succ, rep_succ, rep_two h m, h]
/-- On an odd cycle, two steps lead back only to a fixed one. -/
theorem Od.fix {p : Nat → Nat} {i : Nat} (h : Od p i) (h2 : p (p i) = i) : p i = i := by
  obtain ⟨m, hm⟩ := h
  rw [rep_succ, rep_two h2 m] at hm
  exact hm
theorem rep_lt (hf : ∀ i, i < n → p i < n) {i : Nat} (hi : i < n) : ∀ m, Nat.repeat p m i < n
  | 0 => hi
  | m + 1 => by rw [rep_succ]; exact hf _ (rep_lt hf hi m)
/-- The odd parties of one stable partition are those of any other one. -/
theorem odd_same (hp : Pref n rk) (h : Part n rk p q) (h' : Part n rk p' q') {i : Nat} (hi : i < n) (ho : Od p i) : p' i = p i := by
  obtain ⟨fN, gN, cN⟩ := facts hp h h'
  obtain ⟨fP, gP, cP⟩ := facts hp h' h
  -- P goes by p onto those who are worse off in π'
  have stepP : ∀ i, i < n → rk i (p' i) < rk i (p i) → rk (p i) (q (p i)) < rk (p i) (q' (p i)) := by
    intro i hi hP
    have c : cnt n (fun i => rk i (p' i) < rk i (p i)) = cnt n (fun j => rk j (q j) < rk j (q' j)) := cP
    obtain ⟨j, hj, hQ, e⟩ := cnt_onto (n := n) (A := fun j => rk j (q j) < rk j (q' j)) (B := fun i => rk i (p' i) < rk i (p i)) (f := q)
      (fun j hj hQ => ⟨h.qn j hj, (step_Q hp h' h hj hQ).1⟩) (fun x hx _ y hy _ e => h.qinj hx hy e) (Nat.le_of_eq c) i hi hP
    rw [← e, h.pq j hj]
    exact hQ
  have stepN : ∀ i, i < n → rk i (p i) < rk i (p' i) → rk (p i) (q' (p i)) < rk (p i) (q (p i)) := fun i hi hN => step_N hp h h' hi hN
  -- the others go to those who are as well off
  have onQ1 : ∀ j, j < n → rk j (q' j) < rk j (q j) → rk (q j) (p (q j)) < rk (q j) (p' (q j)) := gN
  have onQ2 : ∀ j, j < n → rk j (q j) < rk j (q' j) → rk (q j) (p' (q j)) < rk (q j) (p (q j)) := fun j hj hQ => (step_Q hp h' h hj hQ).1
  have stepE : ∀ i, i < n → p' i = p i → q' (p i) = q (p i) := by
    intro i hi hE
    have hpi := h.pn i hi
    apply hp.inj (p i) _ _ hpi (h'.qn _ hpi) (h.qn _ hpi)
    rcases Nat.lt_trichotomy (rk (p i) (q' (p i))) (rk (p i) (q (p i))) with h1 | h1 | h1
    · have := onQ1 _ hpi h1
      rw [h.qp i hi, hE] at this
      omega
    · exact h1
    · have := onQ2 _ hpi h1
      rw [h.qp i hi, hE] at this
      omega
  -- worse off in π', and yet better at the first one: never
  have noP2 : ∀ i, i < n → rk i (p' i) < rk i (p i) → ¬ rk i (q i) < rk i (q' i) := by
    intro i hi hP hQ
    have h1 := fP i hi hP
    have h2 := h.up i hi
    omega
  have noN1 : ∀ i, i < n → rk i (p i) < rk i (p' i) → ¬ rk i (q' i) < rk i (q i) := by
    intro i hi hN hQ
    have h1 := fN i hi hN
    have h2 := h'.up i hi
    omega
  -- P ∩ Q0 lies on a cycle of two
  have noP0 : ∀ i, i < n → Od p i → rk i (p' i) < rk i (p i) → q' i ≠ q i := by
    intro i hi ho hP hQ
    have h1 := fP i hi hP
    rw [hQ] at h1
    have h2 : p i = q i := hp.inj i _ _ hi (h.pn i hi) (h.qn i hi) (Nat.le_antisymm (h.up i hi) h1)
    have h3 : p (p i) = i := by rw [h2, h.pq i hi]
    have h4 := ho.fix h3
    have h5 := stepP i hi hP
    rw [h4] at h5
    exact noP2 i hi hP h5
  -- who is as well off is reached from one with the same next
  have backE : ∀ j, j < n → q' j = q j → p' (q j) = p (q j) := by
    intro j hj hQ
    have hqj := h.qn j hj
    apply hp.inj (q j) _ _ hqj (h'.pn _ hqj) (h.pn _ hqj)
    rcases Nat.lt_trichotomy (rk (q j) (p' (q j))) (rk (q j) (p (q j))) with h1 | h1 | h1
    · have := stepP _ hqj h1
      rw [h.pq j hj, hQ] at this
      omega
    · exact h1
    · have := stepN _ hqj h1
      rw [h.pq j hj, hQ] at this
      omega
  have cE : cnt n (fun i => p' i = p i) = cnt n (fun j => q' j = q j) :=
    Nat.le_antisymm (cnt_le (f := p) (fun i hi hE => ⟨h.pn i hi, stepE i hi hE⟩) (fun x hx _ y hy _ e => h.inj hx hy e))
      (cnt_le (f := q) (fun j hj hQ => ⟨h.qn j hj, backE j hj hQ⟩) (fun x hx _ y hy _ e => h.qinj hx hy e))
  have map1 : ∀ i, i < n → rk i (p i) < rk i (p' i) → q' i = q i → p' (q i) = p (q i) ∧ rk (q i) (q' (q i)) < rk (q i) (q (q i)) := by
    intro i hi hN hQ
    have hqi := h.qn i hi
    have h1 := fN i hi hN
    have h2 := h'.up i hi
    rw [hQ] at h2
    have h3 : p' i = q i := hp.inj i _ _ hi (h'.pn i hi) hqi (Nat.le_antisymm h2 h1)
    have h4 : q' (q i) = i := by rw [← h3, h'.qp i hi]
    refine ⟨backE i hi hQ, ?_⟩
    rw [h4]
    have h5 := h.up (q i) hqi
    rw [h.pq i hi] at h5
    refine Nat.lt_of_le_of_ne h5 (fun e => ?_)
    have h6 := hp.inj (q i) _ _ hqi hi (h.qn _ hqi) e
    have h7 : p i = q i := by
      have := h.pq (q i) hqi
      rw [← h6] at this
      exact this
    rw [h3, h7] at hN
    omega
  have map2 : ∀ i, i < n → rk i (p' i) < rk i (p i) → q' i = q i → p' (q i) = p (q i) ∧ rk (q i) (q (q i)) < rk (q i) (q' (q i)) := by
    intro i hi hP hQ
    have hqi := h.qn i hi
    have h1 := fP i hi hP
    rw [hQ] at h1
    have h2 := h.up i hi
    have h3 : p i = q i := hp.inj i _ _ hi (h.pn i hi) hqi (Nat.le_antisymm h2 h1)
    have h4 : q (q i) = i := by rw [← h3, h.qp i hi]
    refine ⟨backE i hi hQ, ?_⟩
    rw [h4]
    have h5 := h'.up (q i) hqi
    have h6 : p' (q i) = i := by rw [← hQ, h'.pq i hi]
    rw [h6] at h5
    refine Nat.lt_of_le_of_ne h5 (fun e => ?_)
    have h7 := hp.inj (q i) _ _ hqi hi (h'.qn _ hqi) e
    have h8 : p' i = q i := by
      have := h'.pq (q i) hqi
      rw [← h7] at this
      exact this
    rw [h3, h8] at hP
    omega
  -- who has the same next, and is not as well off, goes to one who has another next and is as well off
  have onE : ∀ k, k < n → p' k = p k → q' k ≠ q k → p' (p k) ≠ p (p k) ∧ q' (p k) = q (p k) := by
    intro k hk hE hQ
    have m : ∀ i, i < n → (p' i ≠ p i ∧ q' i = q i) → q i < n ∧ (p' (q i) = p (q i) ∧ q' (q i) ≠ q (q i)) := by
      intro i hi hA
      refine ⟨h.qn i hi, ?_⟩
      rcases Nat.lt_trichotomy (rk i (p' i)) (rk i (p i)) with h1 | h1 | h1
      · have h2 := map2 i hi h1 hA.2
        exact ⟨h2.1, fun e => by rw [e] at h2; omega⟩
      · exact absurd (hp.inj i _ _ hi (h'.pn i hi) (h.pn i hi) h1) hA.1
      · have h2 := map1 i hi h1 hA.2
        exact ⟨h2.1, fun e => by rw [e] at h2; omega⟩
    have c1 : cnt n (fun i => (p' i ≠ p i ∧ q' i = q i) ∨ (p' i = p i ∧ q' i = q i)) = cnt n (fun i => p' i ≠ p i ∧ q' i = q i) + cnt n (fun i => p' i = p i ∧ q' i = q i) := cnt_or (fun x _ h1 h2 => h1.1 h2.1)
    have c2 : cnt n (fun i => (p' i = p i ∧ q' i ≠ q i) ∨ (p' i = p i ∧ q' i = q i)) = cnt n (fun i => p' i = p i ∧ q' i ≠ q i) + cnt n (fun i => p' i = p i ∧ q' i = q i) := cnt_or (fun x _ h1 h2 => h1.2 h2.2)
    have c3 : cnt n (fun i => (p' i ≠ p i ∧ q' i = q i) ∨ (p' i = p i ∧ q' i = q i)) = cnt n (fun i => q' i = q i) := cnt_congr (fun x _ => ⟨fun h => h.elim (·.2) (·.2), fun h => (Classical.em (p' x = p x)).elim (fun e => .inr ⟨e, h⟩) (fun e => .inl ⟨e, h⟩)⟩)
    have c4 : cnt n (fun i => (p' i = p i ∧ q' i ≠ q i) ∨ (p' i = p i ∧ q' i = q i)) = cnt n (fun i => p' i = p i) := cnt_congr (fun x _ => ⟨fun h => h.elim (·.1) (·.1), fun h => (Classical.em (q' x = q x)).elim (fun e => .inr ⟨h, e⟩) (fun e => .inl ⟨h, e⟩)⟩)
    obtain ⟨i, hi, hA, e⟩ := cnt_onto (n := n) (A := fun i => p' i ≠ p i ∧ q' i = q i) (B := fun i => p' i = p i ∧ q' i ≠ q i) (f := q) m (fun x hx _ y hy _ e => h.qinj hx hy e) (by omega) k hk ⟨hE, hQ⟩
    rw [← e, h.pq i hi]
    exact hA
  have noE2 : ∀ k, k < n → Od p k → p' k = p k → ¬ rk k (q k) < rk k (q' k) := by
    intro k hk ho hE hQ
    obtain ⟨h1, h2⟩ := onE k hk hE (fun e => by rw [e] at hQ; omega)
    have hpk := h.pn k hk
    rcases Nat.lt_trichotomy (rk (p k) (p' (p k))) (rk (p k) (p (p k))) with h3 | h3 | h3
    · exact noP0 _ hpk ho.next h3 h2
    · exact h1 (hp.inj _ _ _ hpk (h'.pn _ hpk) (h.pn _ hpk) h3)
    · have h4 := (map1 _ hpk h3 h2).2
      rw [h.qp k hk] at h4
      omega
  -- two steps from N lead to N
  have two : ∀ x, x < n → Od p x → rk x (p x) < rk x (p' x) → rk (p (p x)) (p (p (p x))) < rk (p (p x)) (p' (p (p x))) := by
    intro x hx ho hN
    have hpx := h.pn x hx
    have hppx := h.pn _ hpx
    have h1 := stepN x hx hN
    rcases Nat.lt_trichotomy (rk (p x) (p' (p x))) (rk (p x) (p (p x))) with h3 | h3 | h3
    · have h4 := stepP _ hpx h3
      rcases Nat.lt_trichotomy (rk (p (p x)) (p' (p (p x)))) (rk (p (p x)) (p (p (p x)))) with h5 | h5 | h5
      · exact absurd h4 (noP2 _ hppx h5)
      · exact absurd h4 (noE2 _ hppx ho.next.next (hp.inj _ _ _ hppx (h'.pn _ hppx) (h.pn _ hppx) h5))
      · exact h5
    · have hE := hp.inj _ _ _ hpx (h'.pn _ hpx) (h.pn _ hpx) h3
      obtain ⟨h4, h5⟩ := onE _ hpx hE (fun e => by rw [e] at h1; omega)
      rcases Nat.lt_trichotomy (rk (p (p x)) (p' (p (p x)))) (rk (p (p x)) (p (p (p x)))) with h6 | h6 | h6
      · exact absurd h5 (noP0 _ hppx ho.next.next h6)
      · exact absurd (hp.inj _ _ _ hppx (h'.pn _ hppx) (h.pn _ hppx) h6) h4
      · exact h6
    · exact absurd h1 (noN1 _ hpx h3)
  have notN : ∀ x, x < n → Od p x → ¬ rk x (p x) < rk x (p' x) := by
    intro x hx ho hN
    obtain ⟨m, hm⟩ := ho
    have all : ∀ t, rk (Nat.repeat p (2 * t) x) (p (Nat.repeat p (2 * t) x)) < rk (Nat.repeat p (2 * t) x) (p' (Nat.repeat p (2 * t) x)) := by
      intro t
      induction t with
      | zero => exact hN
      | succ t ih => exact two _ (rep_lt h.pn hx _) (Od.rep ⟨m, hm⟩ _) ih
    have h1 := stepN _ (rep_lt h.pn hx _) (all m)
    rw [← rep_succ p (2 * m) x, hm] at h1
    exact noN1 x hx hN h1
  rcases Nat.lt_trichotomy (rk i (p' i)) (rk i (p i)) with h1 | h1 | h1
  · exfalso
    have hpi := h.pn i hi
    have h2 := stepP i hi h1
    rcases Nat.lt_trichotomy (rk (p i) (p' (p i))) (rk (p i) (p (p i))) with h5 | h5 | h5
    · exact noP2 _ hpi h5 h2
    · exact noE2 _ hpi ho.next (hp.inj _ _ _ hpi (h'.pn _ hpi) (h.pn _ hpi) h5) h2
    · exact notN _ hpi ho.next h5
  · exact hp.inj i _ _ hi (h'.pn i hi) (h.pn i hi) h1
  · exact absurd h1 (notN i hi ho)
end
end Go.Proofs.Ytilabipmgcpnjaa.Tan
