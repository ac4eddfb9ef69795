/- The declarations of Tr that the claim Qy needs. -/

namespace Go.Proofs.Ytdpolfflemocaaa.Tr
def E (es : List (Nat × Nat)) (S : Nat → Bool) : Nat := es.countP fun e => S e.1 && S e.2
def N (m : Nat) (S : Nat → Bool) : Nat := (List.range m).countP S
/-- The forest that edges make one after the other, and the name of each node's group. -/
inductive Forest (m : Nat) : List (Nat × Nat) → (Nat → Nat) → Prop
  | nil : Forest m [] id
  | snoc {es nm a b} : Forest m es nm → a < m → b < m → nm a ≠ nm b → Forest m (es ++ [(a, b)]) (fun k => if nm k = nm a then nm b else nm k)
theorem Forest.const {m es nm} (h : Forest m es nm) : ∀ e ∈ es, nm e.1 = nm e.2 := by
 induction h with
 | nil => simp
 | snoc hf ha hb hne ih =>
  intro e he
  rcases List.mem_append.1 he with he | he
  ·show (if _ then _ else _) = if _ then _ else _
   rw [ih e he]
  ·obtain rfl : e = _ := by simpa using he
   simp
theorem countP_split {α : Type} (p q : α → Bool) : ∀ l : List α, l.countP p = l.countP (fun x => p x && q x) + l.countP (fun x => p x && !q x)
 | [] => rfl
 | x :: l => by
  rw [List.countP_cons, List.countP_cons, List.countP_cons, countP_split p q l]
  cases p x <;> cases q x <;> simp <;> omega
theorem N_pos {m S i} (hi : i < m) (h : S i = true) : 1 ≤ N m S := List.countP_pos_iff.2 ⟨i, List.mem_range.2 hi, h⟩
theorem Forest.few {m es nm} (h : Forest m es nm) : ∀ S : Nat → Bool, (∃ i, i < m ∧ S i = true) → E es S + 1 ≤ N m S := by
 induction h with
 | nil =>
  rintro S ⟨i, hi, hs⟩
  simpa [E] using N_pos hi hs
 | @snoc es nm a b hf ha hb hne ih =>
  rintro S hS
  have e0 : E (es ++ [(a, b)]) S = E es S + if (S a && S b) = true then 1 else 0 := by
   simp only [E, List.countP_append, List.countP_singleton]
  by_cases hab : (S a && S b) = true
  ·rw [e0, if_pos hab]
   have hab' : S a = true ∧ S b = true := by simpa using hab
   have h1 := ih (fun k => S k && nm k == nm a) ⟨a, ha, by simp [hab'.1]⟩
   have h2 := ih (fun k => S k && !(nm k == nm a)) ⟨b, hb, by simp [hab'.2]; exact fun h => hne h.symm⟩
   have h3 : N m S = N m (fun k => S k && nm k == nm a) + N m (fun k => S k && !(nm k == nm a)) := countP_split _ _ _
   have h4 : E es S = E es (fun k => S k && nm k == nm a) + E es (fun k => S k && !(nm k == nm a)) := by
    unfold E
    rw [countP_split _ (fun e => nm e.1 == nm a)]
    congr 1
    ·apply List.countP_congr
     intro e he
     have hc := hf.const e he
     simp only [Bool.and_eq_true, beq_iff_eq]
     constructor
     ·rintro ⟨⟨x, y⟩, z⟩; exact ⟨⟨x, z⟩, y, hc ▸ z⟩
     ·rintro ⟨⟨x, z⟩, y, _⟩; exact ⟨⟨x, y⟩, z⟩
    ·apply List.countP_congr
     intro e he
     have hc := hf.const e he
     simp only [Bool.and_eq_true, Bool.not_eq_true', beq_eq_false_iff_ne, ne_eq]
     constructor
     ·rintro ⟨⟨x, y⟩, z⟩; exact ⟨⟨x, z⟩, y, hc ▸ z⟩
     ·rintro ⟨⟨x, z⟩, y, _⟩; exact ⟨⟨x, y⟩, z⟩
   omega
  ·rw [e0, if_neg hab]
   exact ih S hS
/-- How many edges within S meet i. -/
def deg (es : List (Nat × Nat)) (S : Nat → Bool) (i : Nat) : Nat := es.countP fun e => (S e.1 && S e.2) && (e.1 == i || e.2 == i)
def sumTo (f : Nat → Nat) : Nat → Nat
  | 0 => 0
  | n + 1 => sumTo f n + f n
theorem sumTo_add (f g : Nat → Nat) : ∀ n, sumTo (fun i => f i + g i) n = sumTo f n + sumTo g n
  | 0 => rfl
  | n + 1 => by simp only [sumTo, sumTo_add f g n]; omega
theorem sumTo_congr {f g : Nat → Nat} : ∀ {n}, (∀ i, i < n → f i = g i) → sumTo f n = sumTo g n
  | 0, _ => rfl
  | n + 1, h => by simp only [sumTo]; rw [sumTo_congr (fun i hi => h i (by omega)), h n (by omega)]
theorem sumTo_le {f g : Nat → Nat} : ∀ {n}, (∀ i, i < n → f i ≤ g i) → sumTo f n ≤ sumTo g n
  | 0, _ => Nat.le_refl _
  | n + 1, h => by simp only [sumTo]; have := sumTo_le (fun i (hi : i < n) => h i (by omega)); have := h n (by omega); omega
theorem sumTo_zero : ∀ n, sumTo (fun _ => 0) n = 0
  | 0 => rfl
  | n + 1 => by simp only [sumTo, sumTo_zero n]
theorem sumTo_one (a : Nat) : ∀ n, sumTo (fun i => if i = a then 1 else 0) n = if a < n then 1 else 0
 | 0 => rfl
 | n + 1 => by
  simp only [sumTo, sumTo_one a n]
  by_cases h : n = a
  ·subst h; simp
  ·by_cases h2 : a < n
   ·rw [if_pos h2, if_neg h, if_pos (by omega)]
   ·rw [if_neg h2, if_neg h, if_neg (by omega)]
theorem N_sum (m : Nat) (S : Nat → Bool) : N m S = sumTo (fun i => if S i = true then 1 else 0) m := by
 induction m with
 | zero => rfl
 | succ m ih =>
  have : N (m + 1) S = N m S + if S m = true then 1 else 0 := by simp [N, List.range_succ, List.countP_append, List.countP_singleton]
  rw [this, ih, sumTo]
theorem hand (m : Nat) (S : Nat → Bool) (hS : ∀ i, S i = true → i < m) : ∀ es : List (Nat × Nat), (∀ e ∈ es, e.1 ≠ e.2) → sumTo (deg es S) m = 2 * E es S
  | [], _ => by
    have : deg ([] : List (Nat × Nat)) S = fun _ => 0 := by funext i; rfl
    rw [this, sumTo_zero]; rfl
  | (a, b) :: es, hne => by
    have ih := hand m S hS es (fun e he => hne e (List.mem_cons_of_mem _ he))
    have hab : a ≠ b := hne (a, b) (List.mem_cons_self)
    by_cases h : (S a && S b) = true
    · have h' : S a = true ∧ S b = true := by simpa using h
      have e1 : deg ((a, b) :: es) S = fun i => deg es S i + ((if i = a then 1 else 0) + (if i = b then 1 else 0)) := by
        funext i
        simp only [deg, List.countP_cons, h, Bool.true_and]
        congr 1
        by_cases x : i = a
        · subst x; simp [hab]
        · by_cases y : i = b
          · subst y; simp [x]
          · simp [x, y, show ¬ a = i from fun z => x z.symm, show ¬ b = i from fun z => y z.symm]
      have e2 : E ((a, b) :: es) S = E es S + 1 := by simp only [E, List.countP_cons, h, if_true]
      rw [e1, sumTo_add, sumTo_add, sumTo_one, sumTo_one, if_pos (hS a h'.1), if_pos (hS b h'.2), ih, e2]
      omega
    · have e1 : deg ((a, b) :: es) S = deg es S := by
        funext i
        simp only [deg, List.countP_cons, h, Bool.false_and]
        simp
      have e2 : E ((a, b) :: es) S = E es S := by simp only [E, List.countP_cons, h]; simp
      rw [e1, e2, ih]
/-- A forest has a leaf. -/
theorem leaf (m : Nat) (es : List (Nat × Nat)) (hne : ∀ e ∈ es, e.1 ≠ e.2) (S : Nat → Bool) (hS : ∀ i, S i = true → i < m) (hE : E es S + 1 ≤ N m S) : ∃ i, S i = true ∧ deg es S i ≤ 1 := by
 apply Classical.byContradiction
 intro hno
 have h2 : ∀ i, S i = true → 2 ≤ deg es S i := by
  intro i hi
  apply Classical.byContradiction
  intro h
  exact hno ⟨i, hi, by omega⟩
 have h3 := hand m S hS es hne
 have h4 : sumTo (fun i => 2 * if S i = true then 1 else 0) m ≤ sumTo (deg es S) m := by
  apply sumTo_le
  intro i _
  by_cases h : S i = true
  ·rw [if_pos h]; exact h2 i h
  ·rw [if_neg h]; omega
 have h5 : sumTo (fun i => 2 * if S i = true then 1 else 0) m = 2 * N m S := by
  rw [N_sum, show (fun i => 2 * if S i = true then 1 else 0) = fun i => (if S i = true then 1 else 0) + if S i = true then 1 else 0 from by funext i; omega, sumTo_add]
  omega
 omega
def less (S : Nat → Bool) (i : Nat) : Nat → Bool := fun k => S k && !(k == i)
theorem N_less (m : Nat) (S : Nat → Bool) (i : Nat) (hi : i < m) (h : S i = true) : N m S = N m (less S i) + 1 := by
 rw [N_sum, N_sum]
 have : sumTo (fun k => if S k = true then 1 else 0) m = sumTo (fun k => (if less S i k = true then 1 else 0) + (if k = i then 1 else 0)) m := by
  apply sumTo_congr
  intro k _
  by_cases hk : k = i
  ·subst hk; simp [less, h]
  ·simp [less, hk]
 rw [this, sumTo_add, sumTo_one, if_pos hi]
theorem E_less (es : List (Nat × Nat)) (S : Nat → Bool) (i : Nat) : E es S = E es (less S i) + deg es S i := by
 unfold E deg
 rw [countP_split _ (fun e => e.1 == i || e.2 == i)]
 rw [Nat.add_comm]
 congr 1
 apply List.countP_congr
 intro e _
 simp only [less]
 cases S e.1 <;> cases S e.2 <;> cases e.1 == i <;> cases e.2 == i <;> simp
theorem deg_mono (es : List (Nat × Nat)) (S T : Nat → Bool) (h : ∀ k, T k = true → S k = true) (i : Nat) : deg es T i ≤ deg es S i := by
 apply List.countP_mono_left
 intro e _ he
 simp only [Bool.and_eq_true] at he ⊢
 exact ⟨⟨h _ he.1.1, h _ he.1.2⟩, he.2⟩
/-- A graph with a clique tree (also of cliques that are not maximal) has a node whose neighbours are a clique. -/
theorem simplicial (m : Nat) (es : List (Nat × Nat)) (hne : ∀ e ∈ es, e.1 ≠ e.2) (few : ∀ S : Nat → Bool, (∃ i, i < m ∧ S i = true) → E es S + 1 ≤ N m S)
    (bag : Nat → Nat → Bool) (adj : Nat → Nat → Bool) (clq : ∀ i u v, i < m → bag i u = true → bag i v = true → u ≠ v → adj u v = true) (L : Nat → Bool) (v0 : Nat) (hv0 : L v0 = true) :
    ∀ (n : Nat) (S : Nat → Bool), N m S = n → (∀ i, S i = true → i < m) → (∀ v, L v = true → (∃ i, S i = true ∧ bag i v = true) ∧ E es (fun i => S i && bag i v) + 1 = N m (fun i => S i && bag i v)) →
    (∀ u v, L u = true → L v = true → u ≠ v → adj u v = true → ∃ i, S i = true ∧ bag i u = true ∧ bag i v = true) →
    ∃ v, L v = true ∧ ∀ u w, L u = true → L w = true → u ≠ v → w ≠ v → u ≠ w → adj v u = true → adj v w = true → adj u w = true := by
  intro n
  induction n with
  | zero =>
    intro S hn hS h1 _
    obtain ⟨⟨i, hi, _⟩, _⟩ := h1 v0 hv0
    have := N_pos (hS i hi) hi
    omega
  | succ n ih =>
    intro S hn hS h1 h2
    obtain ⟨i, hi, hd⟩ := leaf m es hne S hS (few S (by obtain ⟨⟨i, hi, _⟩, _⟩ := h1 v0 hv0; exact ⟨i, hS i hi, hi⟩))
    -- a node of L that is in the leaf alone has a clique for neighbours
    by_cases hx : ∃ v, L v = true ∧ bag i v = true ∧ ∀ k, S k = true → bag k v = true → k = i
    · obtain ⟨v, hv, hb, ho⟩ := hx
      refine ⟨v, hv, fun u w hu hw huv hwv huw hau haw => ?_⟩
      obtain ⟨k, hk, kb, ku⟩ := h2 v u hv hu (fun e => huv e.symm) hau
      obtain ⟨k', hk', kb', kw⟩ := h2 v w hv hw (fun e => hwv e.symm) haw
      obtain rfl := ho k hk kb
      obtain rfl := ho k' hk' kb'
      exact clq k' u w (hS _ hi) ku kw huw
    · have hz : ∀ v, L v = true → bag i v = true → ∃ k, S k = true ∧ bag k v = true ∧ k ≠ i := by
        intro v hv hb
        apply Classical.byContradiction
        intro h
        refine hx ⟨v, hv, hb, fun k hk kb => ?_⟩
        apply Classical.byContradiction
        intro hne
        exact h ⟨k, hk, kb, hne⟩
      -- the edges of a node's bags at the leaf
      have hsub : ∀ v, (fun k => less S i k && bag k v) = less (fun k => S k && bag k v) i := by
        intro v; funext k; simp only [less]; cases S k <;> cases bag k v <;> simp
      have hdeg : ∀ v, L v = true → bag i v = true → deg es (fun k => S k && bag k v) i = 1 := by
        intro v hv hb
        have a1 := E_less es (fun k => S k && bag k v) i
        have a2 := N_less m (fun k => S k && bag k v) i (hS i hi) (by simp [hi, hb])
        obtain ⟨k, hk, kb, hki⟩ := hz v hv hb
        have a3 := few (less (fun k => S k && bag k v) i) ⟨k, hS k hk, by simp [less, hk, kb, hki]⟩
        have a4 := (h1 v hv).2
        have a5 := deg_mono es S (fun k => S k && bag k v) (by intro k hk; simp at hk; exact hk.1) i
        omega
      refine ih (less S i) ?_ ?_ ?_ ?_
      · have := N_less m S i (hS i hi) hi; omega
      · intro k hk; simp [less] at hk; exact hS k hk.1
      · intro v hv
        rw [hsub v]
        by_cases hb : bag i v = true
        · obtain ⟨k, hk, kb, hki⟩ := hz v hv hb
          refine ⟨⟨k, by simp [less, hk, hki], kb⟩, ?_⟩
          have a1 := E_less es (fun k => S k && bag k v) i
          have a2 := N_less m (fun k => S k && bag k v) i (hS i hi) (by simp [hi, hb])
          have a4 := (h1 v hv).2
          have a6 := hdeg v hv hb
          omega
        · have e0 : less (fun k => S k && bag k v) i = fun k => S k && bag k v := by
            funext k
            simp only [less]
            by_cases hk : k = i
            · subst hk; simp [hb]
            · simp [hk]
          rw [e0]
          obtain ⟨⟨k, hk, kb⟩, h4⟩ := h1 v hv
          refine ⟨⟨k, ?_, kb⟩, h4⟩
          have : k ≠ i := fun e => hb (e ▸ kb)
          simp [less, hk, this]
      · intro u v hu hv huv ha
        obtain ⟨k, hk, ku, kv⟩ := h2 u v hu hv huv ha
        by_cases hki : k = i
        · subst hki
          -- both nodes are at the leaf's one edge
          have du := hdeg u hu ku
          have dv := hdeg v hv kv
          have cu : ∃ e ∈ es, ((S e.1 && bag e.1 u) && (S e.2 && bag e.2 u) && (e.1 == k || e.2 == k)) = true := List.countP_pos_iff.1 (show 0 < deg es (fun k => S k && bag k u) k by omega)
          have cv : ∃ e ∈ es, ((S e.1 && bag e.1 v) && (S e.2 && bag e.2 v) && (e.1 == k || e.2 == k)) = true := List.countP_pos_iff.1 (show 0 < deg es (fun k => S k && bag k v) k by omega)
          obtain ⟨e, he, pe⟩ := cu
          obtain ⟨f, hf, pf⟩ := cv
          simp only [Bool.and_eq_true, Bool.or_eq_true, beq_iff_eq] at pe pf
          -- e and f are the same edge: the leaf has one only
          have hef : e = f := by
            apply Classical.byContradiction
            intro hne'
            have h6 : 2 ≤ deg es S k := by
              unfold deg
              rw [List.countP_eq_length_filter]
              have m1 : e ∈ es.filter (fun e => (S e.1 && S e.2) && (e.1 == k || e.2 == k)) := List.mem_filter.2 ⟨he, by simp [pe.1.1.1, pe.1.2.1, pe.2]⟩
              have m2 : f ∈ es.filter (fun e => (S e.1 && S e.2) && (e.1 == k || e.2 == k)) := List.mem_filter.2 ⟨hf, by simp [pf.1.1.1, pf.1.2.1, pf.2]⟩
              match hq : es.filter (fun e => (S e.1 && S e.2) && (e.1 == k || e.2 == k)) with
              | [] => rw [hq] at m1; cases m1
              | [x] => rw [hq] at m1 m2; simp at m1 m2; exact absurd (m1.trans m2.symm) hne'
              | x :: y :: t => rw [hq]; simp
            omega
          subst hef
          have hnee := hne e he
          rcases pe.2 with hk1 | hk2
          · refine ⟨e.2, ?_, pe.1.2.2, pf.1.2.2⟩
            simp [less, pe.1.2.1]; intro h; exact hnee (hk1.trans h.symm)
          · refine ⟨e.1, ?_, pe.1.1.2, pf.1.1.2⟩
            simp [less, pe.1.1.1]; intro h; exact hnee (h.trans hk2.symm)
        · exact ⟨k, by simp [less, hk, hki], ku, kv⟩
end Go.Proofs.Ytdpolfflemocaaa.Tr
