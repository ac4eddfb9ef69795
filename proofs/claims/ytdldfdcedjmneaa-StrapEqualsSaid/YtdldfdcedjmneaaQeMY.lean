/- The declarations of MY that the claim Qe needs. -/
import Derived.Test.YtdldfdcedjmneaaQeM4
import Derived.Test.YtdldfdcedjmneaaQeM6
import Derived.Test.YtdldfdcedjmneaaQeLxx5
import Derived.Test.YtdldfdcedjmneaaQeLxx7
import Derived.Test.YtdldfdcedjmneaaQeM3
import Derived.Test.YtdldfdcedjmneaaQeLxx9
namespace Go.Proofs.Ytdldfdcedjmneaa.Pure
open Go.RowKit Go.Proofs.YtdldfdcedjmneaaW.PrintWords Go.Proofs.YtdldfdcedjmneaaW.PrintLast Go.Proofs.Ytdldfdcedjmneaa.Lx Go.Proofs.Ytdldfdcedjmneaa.Br
open Go.Proofs.Ytdldfdcedjmneaa.Own (lst lst_len lst_getD lst_rd lst_inj lst_of getD_set' wrap_s rd_nat)
set_option linter.unusedVariables false
set_option linter.unusedSimpArgs false
section
variable {n : Nat}
/-- No crossing at the beginning of a factor can go to the one before it. -/
def Adj (n : Nat) : List Pm → Prop
  | [] => True
  | x :: l => (∀ t, l.head? = some t → ∀ i, i + 1 < n → t.B i → x.E i) ∧ Adj n l
theorem Adj.of : ∀ {L : List Pm}, (∀ i (h : i + 1 < L.length), ∀ j, j + 1 < n → L[i + 1].B j → (L[i]'(by omega)).E j) → Adj n L
  | [], _ => trivial
  | x :: l, h => ⟨fun t ht i hi hb => by
      cases l with
      | nil => cases ht
      | cons y l =>
        injection ht with ht; subst ht
        exact h 0 (by simp) i hi hb, Adj.of fun i hi j hj hb => h (i + 1) (by simpa using hi) j hj hb⟩
/-- What is told of a list of factors: half twists counted, what crosses nothing left out. -/
def fin (n : Nat) : Int → List Pm → Int × List Pm
  | p, [] => (p, [])
  | p, x :: l => if lst n x = lst n (half n) then fin n (p + 1) l else if lst n x = lst n one then fin n p l else ((fin n p l).1, x :: (fin n p l).2)
theorem ones_all : ∀ {l : List Pm}, AllSup n l → Adj n (one :: l) → ∀ t ∈ l, t = one
 | [], _, _, t, ht => by cases ht
 | x :: l, hs, ha, t, ht => by
  have hx : x = one := eq_one (hs x (by simp)) fun i hi hb => nE_one i (ha.1 x rfl i hi hb)
  subst hx
  rcases List.mem_cons.1 ht with rfl | ht
  ·rfl
  ·exact ones_all (fun t ht => hs t (List.mem_cons_of_mem _ ht)) ha.2 t ht
theorem fin_ones (hn : 2 ≤ n) (p : Int) : ∀ {l : List Pm}, (∀ t ∈ l, t = one) → fin n p l = (p, []) ∧ Star n l []
 | [], _ => ⟨rfl, .refl _⟩
 | x :: l, h => by
  obtain rfl := h x (by simp)
  obtain ⟨e, s⟩ := fin_ones hn p (l := l) fun t ht => h t (List.mem_cons_of_mem _ ht)
  have e1 : lst n one ≠ lst n (half n) := fun e => half_ne hn (lst_inj (sup_one n) (sup_half n) e).symm
  refine ⟨by unfold fin; rw [if_neg e1, if_pos rfl, e], .step (.del l) s⟩
theorem no_half : ∀ {l : List Pm}, AllSup n l → ∀ x, Sup n x → x ≠ half n → Adj n (x :: l) → ∀ t ∈ x :: l, t ≠ half n
 | [], _, x, hx, hne, ha, t, ht => by
  rcases List.mem_cons.1 ht with rfl | ht
  ·exact hne
  ·cases ht
 | y :: l, hs, x, hx, hne, ha, t, ht => by
  rcases List.mem_cons.1 ht with rfl | ht
  ·exact hne
  ·refine no_half (fun t ht => hs t (List.mem_cons_of_mem _ ht)) y (hs y (by simp)) (fun e => hne (eq_half hx fun i hi => ha.1 y rfl i hi (by rw [e]; exact B_half hi))) ha.2 t ht
theorem fin_proper (hn : 2 ≤ n) (p : Int) : ∀ {l : List Pm}, AllSup n l → Adj n l → (∀ t ∈ l, t ≠ half n) →
  ∃ m, fin n p l = (p, m) ∧ Star n l m ∧ Rgt n m ∧ (∀ t, m.head? = some t → l.head? = some t) ∧ ∀ t ∈ m, t ≠ half n
 | [], _, _, _ => ⟨[], rfl, .refl _, trivial, fun t h => h, fun t h => (by cases h)⟩
 | x :: l, hs, ha, hh => by
  have hx : Sup n x := hs x (by simp)
  have hl : AllSup n l := fun t ht => hs t (List.mem_cons_of_mem _ ht)
  by_cases e : x = one
  ·subst e
   obtain ⟨e1, s1⟩ := fin_ones hn p (l := one :: l) (fun t ht => by
    rcases List.mem_cons.1 ht with rfl | ht
    ·rfl
    ·exact ones_all hl ha t ht)
   exact ⟨[], e1, s1, trivial, (fun t h => (by cases h)), (fun t h => (by cases h))⟩
  ·obtain ⟨m, e1, s1, r1, d1, h1⟩ := fin_proper hn p hl ha.2 fun t ht => hh t (List.mem_cons_of_mem _ ht)
   refine ⟨x :: m, ?_, s1.cons x, ⟨e, fun t ht i hi hb => ha.1 t (d1 t ht) i hi hb, r1⟩, fun t h => h, fun t ht => ?_⟩
   ·unfold fin
    rw [if_neg (fun h => hh x (by simp) (lst_inj hx (sup_half n) h)), if_neg (fun h => e (lst_inj hx (sup_one n) h)), e1]
   ·rcases List.mem_cons.1 ht with rfl | ht
    ·exact hh _ (by simp)
    ·exact h1 t ht
theorem fin_nf (hn : 2 ≤ n) : ∀ {l : List Pm} (p : Int), AllSup n l → Adj n l → Nf n p l (fin n p l).1 (fin n p l).2
 | [], p, hs, ha => Nf.self hs (Rgt.irr (l := []) trivial) (by simp) p
 | x :: l, p, hs, ha => by
  have hx : Sup n x := hs x (by simp)
  have hl : AllSup n l := fun t ht => hs t (List.mem_cons_of_mem _ ht)
  by_cases e : x = half n
  ·subst e
   have h := fin_nf hn (p + 1) hl ha.2
   unfold fin
   rw [if_pos rfl]
   exact h.half
  ·obtain ⟨m, e1, s1, r1, d1, h1⟩ := fin_proper hn p hs ha (no_half hl x hx e ha)
   rw [e1]
   refine Nf.eqv (Nf.self (s1.sup hs) r1.irr (fun hd => ?_) p) (Eqv.of s1 hs)
   have : half n ∈ m := List.mem_of_mem_head? (by rw [hd]; rfl)
   exact h1 _ this rfl
theorem right_l3 (hn : 2 ≤ n) (hn2 : n ≤ 1000) {Ps : List Pm} (hm : Ps.length ≤ 100000) : ∀ (d i : Nat) (p : Int) (acc : List (List Int)), i + d = Ps.length → acc.length ≤ i → -1000000000 ≤ p → p + d ≤ 1000000000 →
  Ev (fun k => gampref05_Right.l3 k (n : Int) (Ps.map (lst n)) (i : Int) p acc) ((fin n p (Ps.drop i)).1, acc ++ (fin n p (Ps.drop i)).2.map (lst n)) := by
 intro d
 induction d with
 | zero =>
  intro i p acc hi ha hp1 hp2
  rw [List.drop_of_length_le (by omega)]
  refine Ev.step (f := fun _ => some (p, acc)) (fun k => ?_) (by unfold fin; rw [List.map_nil, List.append_nil]; exact Ev.now _)
  simp only [gampref05_Right.l3]
  rw [List.length_map, if_neg (by omega)]
 | succ d ih =>
  intro i p acc hi ha hp1 hp2
  have hil : i < Ps.length := by omega
  have e1 : rd_L1 (Ps.map (lst n)) (i : Int) = lst n Ps[i] := rd_map hil
  rw [List.drop_eq_getElem_cons hil]
  let G2 : Nat → Bool → Option (Int × List (List Int)) := fun k t => if t = true then gampref05_Right.l3 k (n : Int) (Ps.map (lst n)) ((i + 1 : Nat) : Int) p acc else (if acc.length < 5864062014805 then gampref05_Right.l3 k (n : Int) (Ps.map (lst n)) ((i + 1 : Nat) : Int) p (acc ++ [lst n Ps[i]]) else none)
  let G1 : Nat → Bool → Option (Int × List (List Int)) := fun k t => if t = true then gampref05_Right.l3 k (n : Int) (Ps.map (lst n)) ((i + 1 : Nat) : Int) (p + 1) acc else (gampref05_One.f k (n : Int)).bind fun o => (gampref05_Same.f k (lst n Ps[i]) o).bind fun t => G2 k t
  have key : ∀ r, Ev (fun k => G1 k (decide (lst n Ps[i] = lst n (half n)))) r → Ev (fun k => gampref05_Right.l3 k (n : Int) (Ps.map (lst n)) (i : Int) p acc) r := fun r hr => by
   refine Ev.step (fun k => ?_) (Ev.bind (f := fun k o => (gampref05_Same.f k (lst n Ps[i]) o).bind (G1 k)) (refHalf_ev hn2) (Ev.bind (f := G1) (same_ev (lst n Ps[i]) (lst n (half n)) (by rw [lst_len]; omega)) hr))
   simp only [gampref05_Right.l3]
   rw [List.length_map, if_pos (by omega), if_pos (by omega), e1, wrap_s (by omega), show wrap64 (p + 1) = p + 1 by unfold wrap64; omega]
  have key2 : lst n Ps[i] ≠ lst n (half n) → ∀ r, Ev (fun k => G2 k (decide (lst n Ps[i] = lst n one))) r → Ev (fun k => G1 k (decide (lst n Ps[i] = lst n (half n)))) r := fun c1 r hr => by
   rw [decide_eq_false c1]
   exact Ev.bind (f := fun k o => (gampref05_Same.f k (lst n Ps[i]) o).bind (G2 k)) (refOne_ev hn2) (Ev.bind (f := G2) (same_ev (lst n Ps[i]) (lst n one) (by rw [lst_len]; omega)) hr)
  by_cases c1 : lst n Ps[i] = lst n (half n)
  ·have h := ih (i + 1) (p + 1) acc (by omega) (by omega) (by omega) (by omega)
   unfold fin
   rw [if_pos c1]
   refine key _ ?_
   rw [decide_eq_true c1]
   exact h
  ·by_cases c2 : lst n Ps[i] = lst n one
   ·have h := ih (i + 1) p acc (by omega) (by omega) (by omega) (by omega)
    unfold fin
    rw [if_neg c1, if_pos c2]
    refine key _ (key2 c1 _ ?_)
    rw [decide_eq_true c2]
    exact h
   ·have h := ih (i + 1) p (acc ++ [lst n Ps[i]]) (by omega) (by rw [List.length_append]; simp; omega) (by omega) (by omega)
    unfold fin
    rw [if_neg c1, if_neg c2]
    rw [List.append_assoc] at h
    refine key _ (key2 c1 _ ?_)
    rw [decide_eq_false c2]
    refine Ev.congr (fun k => ?_) h
    show (if false = true then _ else _) = _
    rw [if_neg (by simp), if_pos (by omega)]
theorem St.at : ∀ {Ps : List Pm} {i j : Nat} (h : i + 1 < Ps.length), j + 1 < n → Ps[i + 1].B j → ¬ (Ps[i]'(by omega)).E j → St n Ps ((Ps.set i ((Ps[i]'(by omega)).R j)).set (i + 1) (Ps[i + 1].L j))
 | [], i, j, h, _, _, _ => by simp at h
 | [x], i, j, h, _, _, _ => by simp at h
 | x :: y :: l, 0, j, h, hj, hb, he => .mv x y l j hj hb he
 | x :: y :: l, i + 1, j, h, hj, hb, he => .cons x _ _ (St.at (Ps := y :: l) (by simpa using h) hj hb he)
/-- As long as the list is smaller than at the round's beginning, or all behind is right. -/
def Cnd (n m : Nat) (again : Bool) (Ps : List Pm) (i : Nat) : Prop :=
  (again = true ∧ mu n Ps < m) ∨ (again = false ∧ mu n Ps ≤ m ∧ ∀ a (h : a + 1 < Ps.length), a < i → ∀ j, j + 1 < n → Ps[a + 1].B j → (Ps[a]'(by omega)).E j)
theorem right_l2 (hn2 : n ≤ 1000) {m i N : Nat} {p : Int} {R : Int × List (List Int)} {q : Int} {M : List Pm} (hi : i + 1 < N) (hN : N ≤ 100000)
    (next : ∀ (Ps : List Pm) (again : Bool), AllSup n Ps → Ps.length = N → Nf n p Ps q M → Cnd n m again Ps (i + 1) → Ev (fun k => gampref05_Right.l1 k (n : Int) p (Ps.map (lst n)) again ((i + 1 : Nat) : Int)) R) :
    ∀ (mm : Nat) (Ps : List Pm) (again : Bool) (w : Int), mu n Ps ≤ mm → AllSup n Ps → (hl : Ps.length = N) → Nf n p Ps q M → Cnd n m again Ps i → WrongR n (Ps[i]'(by omega)) (Ps[i + 1]'(by omega)) w →
      Ev (fun k => gampref05_Right.l2 k (n : Int) p (Ps.map (lst n)) again (i : Int) w) R := by
  intro mm
  induction mm with
  | zero =>
    intro Ps again w hmu hs hl hnf hc hw
    have : Ps.length ≤ mu n Ps := Nat.le_add_left _ _
    omega
  | succ mm ih =>
    intro Ps again w hmu hs hl hnf hc hw
    rcases hw with ⟨rfl, hr⟩ | ⟨j, rfl, hj, hb, he⟩
    · have hc' : Cnd n m again Ps (i + 1) := by
        rcases hc with h | ⟨h1, h2, h3⟩
        · exact .inl h
        · refine .inr ⟨h1, h2, fun a h ha => ?_⟩
          by_cases e : a = i
          · subst e; exact hr
          · exact h3 a h (by omega)
      refine Ev.step (fun k => ?_) (next Ps again hs hl hnf hc')
      simp only [gampref05_Right.l2]
      rw [if_neg (by omega), wrap_s (by omega)]
    · have hi1 : i + 1 < Ps.length := by omega
      have hst := St.at (Ps := Ps) (i := i) hi1 hj hb he
      have hx : Sup n Ps[i] := hs _ (List.getElem_mem _)
      have hy : Sup n Ps[i + 1] := hs _ (List.getElem_mem _)
      have qm : (((Ps.map (lst n)).set i (lst n (Ps[i].R j))).set (i + 1) (lst n (Ps[i + 1].L j))) = ((Ps.set i (Ps[i].R j)).set (i + 1) (Ps[i + 1].L j)).map (lst n) := by rw [List.map_set, List.map_set]
      obtain ⟨Qs, hQ⟩ : ∃ Qs, (Ps.set i (Ps[i].R j)).set (i + 1) (Ps[i + 1].L j) = Qs := ⟨_, rfl⟩
      have q0 : Qs.length = Ps.length := by rw [← hQ, List.length_set, List.length_set]
      have q1 : Qs[i]'(by omega) = Ps[i].R j := by subst hQ; rw [List.getElem_set_ne (by omega), List.getElem_set_self]
      have q2 : Qs[i + 1]'(by omega) = Ps[i + 1].L j := by subst hQ; rw [List.getElem_set_self]
      rw [hQ] at qm
      rw [hQ] at hst
      have hmu2 := hst.mu hs
      have hs2 := hst.sup hs
      obtain ⟨w2, hw2, ew2⟩ := wrong_ev (s := Qs[i]'(by omega)) (t := Qs[i + 1]'(by omega)) (hs2 _ (List.getElem_mem _)) (hs2 _ (List.getElem_mem _)) hn2
      have hle : mu n Ps ≤ m := by rcases hc with h | h <;> omega
      have h := ih Qs true w2 (by omega) hs2 (by omega) (hnf.eqv (Eqv.of (Star.one hst) hs).symm) (.inl ⟨rfl, by omega⟩) hw2
      have e1 : rd_L1 (Ps.map (lst n)) (i : Int) = lst n Ps[i] := rd_map (by omega)
      have e2 : rd_L1 (Ps.map (lst n)) ((i + 1 : Nat) : Int) = lst n Ps[i + 1] := rd_map hi1
      have e3 : rd_L1 (Qs.map (lst n)) (i : Int) = lst n (Qs[i]'(by omega)) := rd_map (by omega)
      have e4 : rd_L1 (Qs.map (lst n)) ((i + 1 : Nat) : Int) = lst n (Qs[i + 1]'(by omega)) := rd_map (by omega)
      have e5 : rd (lst n Ps[i + 1]) ((j + 1 : Nat) : Int) = (Ps[i + 1].f (j + 1) : Int) := lst_rd (by omega)
      have e6 : rd (lst n Ps[i + 1]) (j : Int) = (Ps[i + 1].f j : Int) := lst_rd (by omega)
      rw [← e3, ← e4] at ew2
      let F : Nat → List Int → Option (Int × List (List Int)) := fun k t => (some (((Ps.map (lst n)).set i t).set (i + 1) (lst n (Ps[i + 1].L j)))).bind fun y => (gampref05_wrong.f k (rd_L1 y (i : Int)) (rd_L1 y ((i + 1 : Nat) : Int))).bind fun w => gampref05_Right.l2 k (n : Int) p y true (i : Int) w
      have hF : Ev (fun k => F k (lst n (Ps[i].R j))) R := by
        show Ev (fun k => (some (((Ps.map (lst n)).set i (lst n (Ps[i].R j))).set (i + 1) (lst n (Ps[i + 1].L j)))).bind fun y => (gampref05_wrong.f k (rd_L1 y (i : Int)) (rd_L1 y ((i + 1 : Nat) : Int))).bind fun w => gampref05_Right.l2 k (n : Int) p y true (i : Int) w) R
        rw [qm]
        exact Ev.bind (f := fun k w => gampref05_Right.l2 k (n : Int) p (Qs.map (lst n)) true (i : Int) w) ew2 h
      refine Ev.step (fun k => ?_) (Ev.bind (f := F) (then_ev hx hn2 hj) hF)
      simp only [gampref05_Right.l2]
      rw [if_pos (by omega), Option.bind_some, wrap_s (by omega), if_pos (by omega), List.length_map, if_pos (by omega), e2, if_pos (by rw [lst_len]; simp; omega), Option.bind_some, List.nil_append, wrap_s (by omega), if_pos (by omega), lst_len, if_pos (by omega), if_pos (by omega), if_pos (by omega), if_pos (by omega), if_pos (by omega), e1, e5, e6]
      simp only [Int.toNat_natCast]
      rw [swap_lst hy hj]
/-- The rounds, from a place on. -/
theorem right_l1 (hn : 2 ≤ n) (hn2 : n ≤ 1000) {m N : Nat} {p : Int} {q : Int} {M : List Pm} (hN : N ≤ 100000) (hp1 : -100000 ≤ p) (hp2 : p ≤ 100000)
  (less : ∀ (Ps : List Pm), AllSup n Ps → Ps.length = N → Nf n p Ps q M → mu n Ps < m → Ev (fun k => gampref05_Right.l0 k (n : Int) p (Ps.map (lst n)) true) (q, M.map (lst n))) :
  ∀ (d i : Nat) (Ps : List Pm) (again : Bool), N ≤ i + 1 + d → i ≤ N → AllSup n Ps → Ps.length = N → Nf n p Ps q M → Cnd n m again Ps i →
   Ev (fun k => gampref05_Right.l1 k (n : Int) p (Ps.map (lst n)) again (i : Int)) (q, M.map (lst n)) := by
 intro d
 induction d with
 | zero =>
  intro i Ps again hd hi hs hl hnf hc
  have h0 : Ev (fun k => gampref05_Right.l0 k (n : Int) p (Ps.map (lst n)) again) (q, M.map (lst n)) := by
   rcases hc with ⟨rfl, h⟩ | ⟨rfl, h1, h2⟩
   ·exact less Ps hs hl hnf h
   ·have ha : Adj n Ps := Adj.of fun a h j hj hb => h2 a h (by omega) j hj hb
    have h3 := right_l3 hn hn2 (Ps := Ps) (by omega) Ps.length 0 p [] (by omega) (by simp) (by omega) (by omega)
    obtain ⟨e1, e2⟩ := Nf.uniq hn hnf (fin_nf hn p hs ha)
    rw [List.drop_zero, List.nil_append, ← e1, ← e2] at h3
    refine Ev.step (fun k => ?_) h3
    simp only [gampref05_Right.l0]
    rw [if_neg (by simp)]
    rfl
  refine Ev.step (fun k => ?_) h0
  simp only [gampref05_Right.l1]
  rw [List.length_map, wrap_s (by omega), if_neg (by omega)]
 | succ d ih =>
  intro i Ps again hd hi hs hl hnf hc
  by_cases hlt : i + 1 < N
  ·have hi1 : i + 1 < Ps.length := by omega
   obtain ⟨w, hw, ew⟩ := wrong_ev (s := Ps[i]) (t := Ps[i + 1]) (hs _ (List.getElem_mem _)) (hs _ (List.getElem_mem _)) hn2
   have h := right_l2 hn2 (m := m) (i := i) (N := N) (p := p) (R := (q, M.map (lst n))) (q := q) (M := M) hlt hN (fun Ps' ag' s' l' nf' c' => ih (i + 1) Ps' ag' (by omega) (by omega) s' l' nf' c') (mu n Ps) Ps again w (Nat.le_refl _) hs hl hnf hc hw
   have e1 : rd_L1 (Ps.map (lst n)) (i : Int) = lst n Ps[i] := rd_map (by omega)
   have e2 : rd_L1 (Ps.map (lst n)) ((i + 1 : Nat) : Int) = lst n Ps[i + 1] := rd_map hi1
   refine Ev.step (fun k => ?_) (Ev.bind (f := fun k w => gampref05_Right.l2 k (n : Int) p (Ps.map (lst n)) again (i : Int) w) ew h)
   simp only [gampref05_Right.l1]
   rw [List.length_map, wrap_s (by omega), if_pos (by omega), if_pos (by omega), if_pos (by omega), if_pos (by omega), e1, e2]
   try rfl
  ·exact ih i Ps again (by omega) hi hs hl hnf hc
theorem right_l0 (hn : 2 ≤ n) (hn2 : n ≤ 1000) {N : Nat} {p : Int} {q : Int} {M : List Pm} (hN : N ≤ 100000) (hp1 : -100000 ≤ p) (hp2 : p ≤ 100000) :
  ∀ (m : Nat) (Ps : List Pm), mu n Ps ≤ m → AllSup n Ps → Ps.length = N → Nf n p Ps q M → Ev (fun k => gampref05_Right.l0 k (n : Int) p (Ps.map (lst n)) true) (q, M.map (lst n)) := by
 intro m
 induction m using Nat.strongRecOn with
 | ind m ih =>
  intro Ps hm hs hl hnf
  have h := right_l1 hn hn2 (m := m) (N := N) (p := p) (q := q) (M := M) hN hp1 hp2 (fun Qs s' l' nf' h' => ih (mu n Qs) h' Qs (Nat.le_refl _) s' l' nf') N 0 Ps false (by omega) (by omega) hs hl hnf (.inr ⟨rfl, hm, fun a h ha => by omega⟩)
  refine Ev.step (fun k => ?_) h
  simp only [gampref05_Right.l0]
  rw [if_pos trivial]
  rfl
/-- 'Right' makes the normal form. -/
theorem right_ev (hn : 2 ≤ n) (hn2 : n ≤ 1000) {p : Int} {q : Int} {Ps M : List Pm} (hN : Ps.length ≤ 100000) (hp1 : -100000 ≤ p) (hp2 : p ≤ 100000) (hs : AllSup n Ps) (hnf : Nf n p Ps q M) :
  Ev (fun k => gampref05_Right.f k (n : Int) p (Ps.map (lst n))) (q, M.map (lst n)) := by
 refine Ev.congr (fun k => ?_) (right_l0 hn hn2 hN hp1 hp2 (mu n Ps) Ps (Nat.le_refl _) hs rfl hnf)
 unfold gampref05_Right.f
 rw [Option.bind_some, if_pos (by rw [List.length_map]; simp; omega), List.nil_append]
end
end Go.Proofs.Ytdldfdcedjmneaa.Pure
namespace Go.Proofs.Ytdldfdcedjmneaa.Pure
open Go.RowKit Go.Proofs.YtdldfdcedjmneaaW.PrintWords Go.Proofs.YtdldfdcedjmneaaW.PrintLast Go.Proofs.Ytdldfdcedjmneaa.Lx Go.Proofs.Ytdldfdcedjmneaa.Br
open Go.Proofs.Ytdldfdcedjmneaa.Own (lst lst_len lst_getD lst_rd lst_inj lst_of getD_set' wrap_s rd_nat normF normF_eq normF_nf)
set_option linter.unusedVariables false
set_option linter.unusedSimpArgs false
section
variable {n : Nat}
theorem star_len {a b : List Pm} (h : Star n a b) (hs : AllSup n a) : b.length ≤ a.length := by
 induction h with
 | refl => omega
 | step h k ih =>
  have h1 := ih (h.sup hs)
  rcases h.val hs with h2 | h2 <;> omega
theorem nf_len (hn : 2 ≤ n) {p q : Int} {l m : List Pm} (h : Nf n p l q m) : m.length ≤ l.length ∧ p ≤ q ∧ q ≤ p + l.length := by
 obtain ⟨a, he, rfl⟩ := h.ex
 obtain ⟨c, h1, h2⟩ := he.2.2
 have e := h2.irr (irr_halves hn h.irr a)
 have k := star_len h1 he.1
 rw [e, List.length_append, List.length_replicate] at k
 omega
theorem mir_l0 {t : Pm} (ht : Sup n t) (hn : n ≤ 1000) : ∀ (d i : Nat), i + d = n → Ev (fun k => gampref05_mirrored.l0 k (lst n t) (n : Int) ((List.range i).map fun (x : Nat) => (((tau n t).f x : Nat) : Int)) (i : Int)) (lst n (tau n t))
 | 0, i, hd => by
  obtain rfl : i = n := by omega
  refine Ev.step (f := fun _ => some _) (fun k => ?_) (Ev.now _)
  simp only [gampref05_mirrored.l0]
  rw [if_neg (by omega)]
  rfl
 | d + 1, i, hd => by
  refine Ev.step (fun k => ?_) (mir_l0 ht hn d (i + 1) (by omega))
  have e0 : wrap64 (wrap64 ((n : Int) - 1) - (i : Int)) = ((n - 1 - i : Nat) : Int) := by unfold wrap64; omega
  have e1 : rd (lst n t) ((n - 1 - i : Nat) : Int) = (t.f (n - 1 - i) : Int) := lst_rd (by omega)
  have h1 := ht.lt (x := n - 1 - i) (by omega)
  have e2 : (((tau n t).f i : Nat) : Int) = wrap64 (wrap64 ((n : Int) - 1) - (t.f (n - 1 - i) : Int)) := by
   show ((dl n (t.f (dl n i)) : Nat) : Int) = _
   rw [dl_in (x := i) (by omega), dl_in h1]
   unfold wrap64; omega
  simp only [gampref05_mirrored.l0]
  rw [if_pos (by omega), e0, if_pos (by omega), lst_len, if_pos (by omega), if_pos (by rw [List.length_map, List.length_range]; omega), wrap_s (by omega), e1, List.range_succ, List.map_append, List.map_singleton, e2]
theorem mirrored_ev {t : Pm} (ht : Sup n t) (hn : n ≤ 1000) : Ev (fun k => gampref05_mirrored.f k (lst n t)) (lst n (tau n t)) := by
 refine Ev.congr (fun k => ?_) (mir_l0 ht hn n 0 (by omega))
 unfold gampref05_mirrored.f
 rw [lst_len]
 rfl
theorem norm_l1 (hn : 2 ≤ n) (hn2 : n ≤ 1000) {xs : List Int} {i : Nat} (hi : i < xs.length) {q : Int} {Ls : List (List Int)} {M : List Pm} (hs : AllSup n M) (hm : M.length ≤ 1000) {R : Int × List (List Int)}
  (hend : Ev (fun k => gampref05_Normal.l1 k (n : Int) xs (i : Int) ((M.map (tau n)).map (lst n)) (M.length : Int) q Ls) R) : ∀ (d j : Nat) (Qs : List Pm), j + d = M.length → (hl : Qs.length = M.length) → (∀ a (h : a < M.length), Qs[a]'(by omega) = if a < j then tau n M[a] else M[a]) →
   Ev (fun k => gampref05_Normal.l1 k (n : Int) xs (i : Int) (Qs.map (lst n)) (j : Int) q Ls) R := by
 intro d
 induction d with
 | zero =>
  intro j Qs hj hl hv
  have e : Qs = M.map (tau n) := List.ext_getElem (by rw [List.length_map, hl]) fun a h1 h2 => by rw [hv a (by omega), if_pos (by omega), List.getElem_map]
  obtain rfl : j = M.length := by omega
  rw [e]; exact hend
 | succ d ih =>
  intro j Qs hj hl hv
  have hjl : j < Qs.length := by omega
  have e1 : rd_L1 (Qs.map (lst n)) (j : Int) = lst n Qs[j] := rd_map hjl
  have e2 : Qs[j] = M[j]'(by omega) := by rw [hv j (by omega), if_neg (by omega)]
  have h := ih (j + 1) (Qs.set j (tau n Qs[j])) (by omega) (by rw [List.length_set, hl]) (fun a h => by
   by_cases e : a = j
   ·subst e; rw [List.getElem_set_self, if_pos (by omega), e2]
   ·rw [List.getElem_set_ne (by omega), hv a h]
    by_cases c : a < j
    ·rw [if_pos c, if_pos (by omega)]
    ·rw [if_neg c, if_neg (by omega)])
  rw [List.map_set] at h
  have hsj : Sup n Qs[j] := by rw [e2]; exact hs _ (List.getElem_mem _)
  refine Ev.step (fun k => ?_) (Ev.bind (f := fun k t => gampref05_Normal.l1 k (n : Int) xs (i : Int) ((Qs.map (lst n)).set j t) ((j + 1 : Nat) : Int) q Ls) (mirrored_ev hsj hn2) h)
  simp only [gampref05_Normal.l1]
  rw [List.length_map, if_pos (by omega), if_pos (by omega), e1, wrap_s (by omega), Int.toNat_natCast]
theorem nf_next (hn : 2 ≤ n) {q q' : Int} {M M' : List Pm} {x : Int} {w : List Int} (hx : Letter n x) (hw : Word n w) (hs : AllSup n M) {r : Int × List Pm} (h : Nf n (rawW n (q, M) (x :: w)).1 (rawW n (q, M) (x :: w)).2 r.1 r.2) (h2 : Nf n (rawStep n (q, M) x).1 (rawStep n (q, M) x).2 q' M') :
  Nf n (rawW n (q', M') w).1 (rawW n (q', M') w).2 r.1 r.2 := by
 have e : rawW n (q, M) (x :: w) = rawW n (rawStep n (q, M) x) w := rfl
 rw [e] at h
 obtain ⟨a, b, k1, k2⟩ := rawW_seq hn hw h2.seq
 obtain ⟨e1, e2⟩ := Nf.uniq hn h k1
 rw [e1, e2]; exact k2
theorem normal_l0 (hn : 2 ≤ n) (hn2 : n ≤ 1000) {xs : List Int} (hw : Word n xs) (hl : xs.length ≤ 60) {r : Int × List Pm} : ∀ (d i : Nat) (q : Int) (M : List Pm), i + d = xs.length → AllSup n M → Irr n M → M.head? ≠ some (half n) → M.length ≤ i → -(i : Int) ≤ q → q ≤ 61 * i →
  Nf n (rawW n (q, M) (xs.drop i)).1 (rawW n (q, M) (xs.drop i)).2 r.1 r.2 → Ev (fun k => gampref05_Normal.l0 k (n : Int) xs (i : Int) q (M.map (lst n))) (r.1, r.2.map (lst n)) := by
 intro d
 induction d with
 | zero =>
  intro i q M hi hs hirr hh hml hq1 hq2 hnf
  rw [List.drop_of_length_le (by omega)] at hnf
  obtain ⟨e1, e2⟩ := Nf.uniq hn (Nf.self hs hirr hh q) (show Nf n q M r.1 r.2 from hnf)
  refine Ev.step (f := fun _ => some (q, M.map (lst n))) (fun k => ?_) (by rw [e1, ← e2]; exact Ev.now _)
  simp only [gampref05_Normal.l0]
  rw [if_neg (by omega)]
 | succ d ih =>
  intro i q M hi hs hirr hh hml hq1 hq2 hnf
  have hil : i < xs.length := by omega
  have hx : Letter n xs[i] := hw _ (List.getElem_mem hil)
  have hwd : Word n (xs.drop (i + 1)) := fun k hk => hw k (List.mem_of_mem_drop hk)
  rw [List.drop_eq_getElem_cons hil] at hnf
  have erd : rd xs (i : Int) = xs[i] := by rw [rd_nat, List.getD_eq_getElem?_getD, List.getElem?_eq_getElem hil]; rfl
  obtain ⟨x, hxe⟩ : ∃ x, xs[i] = x := ⟨_, rfl⟩
  rw [hxe] at hx hnf erd
  have hsx := raw_sup (x := (q, M)) hx hs
  obtain ⟨q', M', h2⟩ := Nf.exists (n := n) (rawStep n (q, M) x).1 hsx
  have hlen := nf_len hn h2
  have hnx := nf_next hn hx hwd hs hnf h2
  obtain ⟨x0, x1, x2⟩ := hx
  by_cases hp : 0 < x
  ·have es : rawStep n (q, M) x = (q, M ++ [gen (x.toNat - 1)]) := by unfold rawStep; rw [if_pos hp]
   rw [es] at hlen h2 hsx
   simp only [List.length_append, List.length_singleton] at hlen
   have h := ih (i + 1) q' M' (by omega) h2.sup.2 h2.irr h2.hd (by omega) (by omega) (by omega) hnx
   have hR := right_ev hn hn2 (p := q) (by rw [List.length_append, List.length_singleton]; omega) (by omega) (by omega) hsx h2
   rw [List.map_append, List.map_singleton] at hR
   have e3 : wrap64 (x - 1) = ((x.toNat - 1 : Nat) : Int) := by unfold wrap64; omega
   let F3 : Nat → Int × List (List Int) → Option (Int × List (List Int)) := fun k b => gampref05_Normal.l0 k (n : Int) xs ((i + 1 : Nat) : Int) b.1 b.2
   let F2 : Nat → List Int → Option (Int × List (List Int)) := fun k t => if (M.map (lst n)).length < 5864062014805 then (gampref05_Right.f k (n : Int) q (M.map (lst n) ++ [t])).bind (F3 k) else none
   have hF2 : Ev (fun k => F2 k (lst n (one.R (x.toNat - 1)))) (r.1, r.2.map (lst n)) := by
    refine Ev.congr (fun k => ?_) (Ev.bind (f := F3) hR h)
    show (if (M.map (lst n)).length < 5864062014805 then _ else none) = _
    rw [if_pos (by rw [List.length_map]; omega)]
    rfl
   refine Ev.step (fun k => ?_) (Ev.bind (f := fun k o => (gampref05_Then.f k o ((x.toNat - 1 : Nat) : Int)).bind (F2 k)) (refOne_ev hn2) (Ev.bind (f := F2) (then_ev (i := x.toNat - 1) (sup_one n) hn2 (by omega)) hF2))
   simp only [gampref05_Normal.l0]
   rw [if_pos (by omega), Option.bind_some, if_pos (by rw [List.length_map]; simp; omega), Option.bind_some, List.nil_append, if_pos (by omega), erd, if_pos (by omega), e3, wrap_s (by omega)]
  ·have es : rawStep n (q, M) x = (q - 1, M.map (tau n) ++ [ung n ((-x).toNat - 1)]) := by unfold rawStep; rw [if_neg hp]
   rw [es] at hlen h2 hsx
   simp only [List.length_append, List.length_singleton, List.length_map] at hlen
   have h := ih (i + 1) q' M' (by omega) h2.sup.2 h2.irr h2.hd (by omega) (by omega) (by omega) hnx
   have hR := right_ev hn hn2 (p := q - 1) (by rw [List.length_append, List.length_singleton, List.length_map]; omega) (by omega) (by omega) hsx h2
   rw [List.map_append, List.map_singleton] at hR
   have e3 : wrap64 (wrap64 (-x) - 1) = (((-x).toNat - 1 : Nat) : Int) := by unfold wrap64; omega
   have e4 : wrap64 (q - 1) = q - 1 := by unfold wrap64; omega
   let F3 : Nat → Int × List (List Int) → Option (Int × List (List Int)) := fun k b => gampref05_Normal.l0 k (n : Int) xs ((i + 1 : Nat) : Int) b.1 b.2
   let F2 : Nat → List Int → Option (Int × List (List Int)) := fun k t => if ((M.map (tau n)).map (lst n)).length < 5864062014805 then (gampref05_Right.f k (n : Int) (q - 1) ((M.map (tau n)).map (lst n) ++ [t])).bind (F3 k) else none
   have hF2 : Ev (fun k => F2 k (lst n ((half n).R ((-x).toNat - 1)))) (r.1, r.2.map (lst n)) := by
    refine Ev.congr (fun k => ?_) (Ev.bind (f := F3) hR h)
    show (if ((M.map (tau n)).map (lst n)).length < 5864062014805 then _ else none) = _
    rw [if_pos (by rw [List.length_map, List.length_map]; omega)]
    rfl
   let F1 : Nat → List Int → Option (Int × List (List Int)) := fun k o => (gampref05_Then.f k o (((-x).toNat - 1 : Nat) : Int)).bind (F2 k)
   have hend : Ev (fun k => gampref05_Normal.l1 k (n : Int) xs (i : Int) ((M.map (tau n)).map (lst n)) (M.length : Int) q (M.map (lst n))) (r.1, r.2.map (lst n)) := by
    refine Ev.step (fun k => ?_) (Ev.bind (f := F1) (refHalf_ev hn2) (Ev.bind (f := F2) (then_ev (i := (-x).toNat - 1) (sup_half n) hn2 (by omega)) hF2))
    simp only [gampref05_Normal.l1]
    rw [if_neg (by rw [List.length_map, List.length_map]; omega)]
    refine congrArg (Option.bind _) (funext fun o => ?_)
    rw [if_pos (by omega), if_pos (by omega), erd, e3, e4, wrap_s (by omega)]
   have h5 := norm_l1 hn hn2 hil (q := q) (Ls := M.map (lst n)) hs (by omega) hend M.length 0 M (by omega) rfl (fun a h => by rw [if_neg (by omega)])
   refine Ev.step (fun k => ?_) h5
   simp only [gampref05_Normal.l0]
   rw [if_pos (by omega), Option.bind_some, if_pos (by rw [List.length_map]; simp; omega), Option.bind_some, List.nil_append, if_pos (by omega), erd, if_neg (by omega)]
   rfl
/-- The document's 'Normal' makes the normal form. -/
theorem refNormal_ev (hn : 2 ≤ n) (hn2 : n ≤ 1000) {xs : List Int} (hw : Word n xs) (hl : xs.length ≤ 60) : Ev (fun k => gampref05_Normal.f k (n : Int) xs) ((normF n xs).1, (normF n xs).2.map (lst n)) :=
  normal_l0 hn hn2 hw hl xs.length 0 0 [] (by omega) AllSup.nil (Rgt.irr (l := []) trivial) (by simp) (by simp) (by simp) (by simp) (by rw [List.drop_zero]; exact normF_nf hw)
end
end Go.Proofs.Ytdldfdcedjmneaa.Pure
namespace Go.Proofs.Ytdldfdcedjmneaa.Pure
open Go.RowKit Go.Proofs.YtdldfdcedjmneaaW.PrintWords Go.Proofs.YtdldfdcedjmneaaW.PrintLast Go.Proofs.Ytdldfdcedjmneaa.Lx Go.Proofs.Ytdldfdcedjmneaa.Br
open Go.Proofs.Ytdldfdcedjmneaa.Own (lst lst_len wrap_s normF strap_Equal.f checkF checkF_zero normL)
set_option linter.unusedVariables false
set_option linter.unusedSimpArgs false
theorem sb_l0 (p p' : Int) {L L' : List (List Int)} (hl : L.length = L'.length) (h : ∀ x ∈ L, x.length ≤ 100000) (hL : L.length ≤ 100000) : ∀ (d i : Nat), i + d = L.length → (∀ a (h1 : a < L.length), a < i → L[a] = L'[a]'(by omega)) → Ev (fun k => gampref05_SameBraid.l0 k (i : Int) p L p' L') (decide (L = L')) := by
 intro d
 induction d with
 | zero =>
  intro i hi hv
  have e : L = L' := List.ext_getElem hl fun a h1 h2 => hv a h1 (by omega)
  rw [decide_eq_true e]
  refine Ev.step (f := fun _ => some true) (fun k => ?_) (Ev.now _)
  simp only [gampref05_SameBraid.l0]
  rw [if_neg (by omega)]
 | succ d ih =>
  intro i hi hv
  have hiL : i < L.length := by omega
  have hiL' : i < L'.length := by omega
  have e1 : rd_L1 L (i : Int) = L[i] := by unfold rd_L1; rw [Int.toNat_natCast, List.getD_eq_getElem?_getD, List.getElem?_eq_getElem hiL]; rfl
  have e2 : rd_L1 L' (i : Int) = L'[i] := by unfold rd_L1; rw [Int.toNat_natCast, List.getD_eq_getElem?_getD, List.getElem?_eq_getElem hiL']; rfl
  have hs := same_ev L[i] L'[i] (h _ (List.getElem_mem hiL))
  refine Ev.step (f := fun k => (gampref05_Same.f k L[i] L'[i]).bind fun t126 => (if t126 = true then (gampref05_SameBraid.l0 k ((i + 1 : Nat) : Int) p L p' L') else (some false))) (fun k => ?_) (Ev.bind hs ?_)
  ·simp only [gampref05_SameBraid.l0]
   rw [if_pos (by omega), if_pos (by omega), if_pos (by omega), e1, e2, wrap_s (by omega)]
  ·by_cases c : L[i] = L'[i]
   ·rw [decide_eq_true c]
    simp only [if_true]
    refine ih (i + 1) (by omega) fun a h1 h2 => ?_
    by_cases e : a = i
    ·subst e; exact c
    ·exact hv a h1 (by omega)
   ·have hne : decide (L = L') = false := decide_eq_false fun e => c (by subst e; rfl)
    rw [decide_eq_false c, hne]
    simp only [Bool.false_eq_true, if_false]
    exact Ev.now _
theorem sb_ev (p p' : Int) {L L' : List (List Int)} (h : ∀ x ∈ L, x.length ≤ 100000) (hL : L.length ≤ 100000) : Ev (fun k => gampref05_SameBraid.f k p L p' L') (decide ((p, L) = (p', L'))) := by
  by_cases c : p = p'
  · by_cases hl : L.length = L'.length
    · have e : decide ((p, L) = (p', L')) = decide (L = L') := by
        subst c
        by_cases e : L = L'
        · rw [decide_eq_true e, decide_eq_true (by rw [e])]
        · rw [decide_eq_false e, decide_eq_false (fun h => e (Prod.mk.inj h).2)]
      rw [e]
      refine Ev.step (f := fun k => gampref05_SameBraid.l0 k 0 p L p' L') (fun k => ?_) (sb_l0 p p' hl h hL L.length 0 (by omega) (fun a h1 h2 => by omega))
      have e2 : ((L.length : Int) != (L'.length : Int)) = false := by rw [hl]; simp
      unfold gampref05_SameBraid.f
      rw [if_pos c, e2]
      simp only [gampref05_SameBraid.j0, Bool.false_eq_true, if_false]
    · rw [decide_eq_false (fun h => hl (by rw [(Prod.mk.inj h).2]))]
      refine Ev.step (f := fun k => some false) (fun k => ?_) (Ev.now _)
      have e2 : ((L.length : Int) != (L'.length : Int)) = true := by simp; omega
      unfold gampref05_SameBraid.f
      rw [if_pos c, e2]
      simp only [gampref05_SameBraid.j0, if_true]
  · rw [decide_eq_false (fun h => c (Prod.mk.inj h).1)]
    refine Ev.step (f := fun k => some false) (fun k => ?_) (Ev.now _)
    unfold gampref05_SameBraid.f
    rw [if_neg c]
    simp only [gampref05_SameBraid.j0, if_true]
theorem equals_ev (a0 : Int) (l1 l2 : List Int) (hl : l1.length ≤ maxLen) (hw : ∀ x ∈ l1, (Lit.int .i64 x).wf = true) (hl2 : l2.length ≤ maxLen) (hw2 : ∀ x ∈ l2, (Lit.int .i64 x).wf = true) : Ev (fun k => gamplaw05_StrapEquals.f k a0 l1 l2) true := by
  have wf64 : ∀ {l : List Int} {m : Nat}, (∀ x ∈ l, (Lit.int .i64 x).wf = true) → ∀ k ∈ l.take m, -9223372036854775808 ≤ k ∧ k ≤ 9223372036854775807 := fun hw k hk => by
    have h := hw k (List.mem_of_mem_take hk)
    have h2 : (decide ((-9223372036854775808 : Int) ≤ k) && decide (k ≤ 9223372036854775807)) = true := h
    rw [Bool.and_eq_true] at h2
    exact ⟨of_decide_eq_true h2.1, of_decide_eq_true h2.2⟩
  obtain ⟨m, hc, hm⟩ := cut_eq l1 20 (by omega) hl
  obtain ⟨m2, hc2, hm2⟩ := cut_eq l2 20 (by omega) hl2
  have hchk := check_ev a0 (xs := l1.take m) (by rw [List.length_take]; omega) (wf64 hw)
  have hchk2 := check_ev a0 (xs := l2.take m2) (by rw [List.length_take]; omega) (wf64 hw2)
  generalize l1.take m = xs at hc hchk
  generalize l2.take m2 = ys at hc2 hchk2
  unfold gamplaw05_StrapEquals.f
  rw [show ((20 : Nat) : Int) = 20 from rfl] at hc hc2
  rw [hc, hc2]
  simp only [Option.bind_some]
  unfold strap_Equal.f
  simp only [Option.bind_some]
  refine Ev.bind hchk ?_
  by_cases hz : checkF a0 xs = 0
  · simp only [hz, if_true]
    refine Ev.bind hchk2 ?_
    simp only [ne_eq, not_true, if_false]
    by_cases hz2 : checkF a0 ys = 0
    · obtain ⟨n, rfl, hn1, hn2, hword, hx60⟩ := checkF_zero hz
      obtain ⟨n', e', _, _, hword2, hy60⟩ := checkF_zero hz2
      obtain rfl : n = n' := by omega
      simp only [hz2, not_true, if_false, Int.toNat_natCast]
      refine Ev.step (f := fun k => ((gampref05_Normal.f k (n : Int) xs).bind fun bt321 => ((gampref05_Normal.f k (n : Int) ys).bind fun bt325 => ((gampref05_SameBraid.f k bt321.1 bt321.2 bt325.1 bt325.2).bind fun t329 => (if (decide (normL n xs = normL n ys) == t329) = true then ((gamplaw05_lives.f k).bind fun t330 => (some t330)) else (some false)))))) (fun k => ?_) ?_
      · simp only [gamplaw05_StrapEquals.j0, if_true]
      · refine Ev.bind (refNormal_ev hn1 (by omega) hword hx60) ?_
        refine Ev.bind (refNormal_ev hn1 (by omega) hword2 hy60) ?_
        refine Ev.bind (sb_ev _ _ (fun x hx => ?_) ?_) ?_
        · obtain ⟨t, _, rfl⟩ := List.mem_map.1 hx
          rw [lst_len]; omega
        · rw [List.length_map]
          have := norm_len hn1 hn2 hword hx60
          omega
        · have e : (decide (normL n xs = normL n ys) == decide (((normF n xs).1, (normF n xs).2.map (lst n)) = ((normF n ys).1, (normF n ys).2.map (lst n)))) = true := by
            unfold normL
            exact beq_self_eq_true _
          simp only [e, if_true]
          exact Ev.bind lives_ev (Ev.now _)
    · simp only [hz2, not_false_iff, if_true]
      refine Ev.step (f := fun k => ((gamplaw05_lives.f k).bind fun t320 => (some t320))) (fun k => ?_) (Ev.bind lives_ev (Ev.now _))
      simp only [gamplaw05_StrapEquals.j0, hz2, if_false, Bool.false_eq_true, if_true]
  · simp only [hz, if_false, ne_eq, not_false_iff, if_true]
    refine Ev.step (f := fun k => ((gamplaw05_lives.f k).bind fun t320 => (some t320))) (fun k => ?_) (Ev.bind lives_ev (Ev.now _))
    simp only [gamplaw05_StrapEquals.j0, hz, if_false, Bool.false_eq_true, if_true]
theorem StrapEquals : gamplaw05_StrapEquals.Pure := fun a0 l1 l2 h0 h1 h2 h3 h4 h5 h6 => (equals_ev a0 l1 l2 h1 h3 h4 h6).rounds
end Go.Proofs.Ytdldfdcedjmneaa.Pure
