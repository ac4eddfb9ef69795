/- The declarations of BR that the claim Qe needs. -/

namespace Go.Proofs.Ytdldfdcedjmneaa.Br
set_option linter.unusedVariables false
set_option linter.unusedSimpArgs false
/-- A permutation of the numbers, with its inverse. -/
structure Pm where
  f : Nat → Nat
  g : Nat → Nat
  fg : ∀ x, f (g x) = x
  gf : ∀ x, g (f x) = x
theorem Pm.same {s t : Pm} (h : ∀ x, s.f x = t.f x) : s = t := by
 have hf : s.f = t.f := funext h
 have hg : s.g = t.g := funext fun y => by
  have : s.g (s.f (t.g y)) = t.g y := s.gf _
  rw [h, t.fg] at this
  exact this
 cases s; cases t
 simp only at hf hg
 subst hf; subst hg
 rfl
theorem Pm.inj (s : Pm) {x y : Nat} (h : s.f x = s.f y) : x = y := by rw [← s.gf x, h, s.gf]
theorem Pm.ginj (s : Pm) {x y : Nat} (h : s.g x = s.g y) : x = y := by rw [← s.fg x, h, s.fg]
def sw (i x : Nat) : Nat := if x = i then i + 1 else if x = i + 1 then i else x
theorem sw_sw (i x : Nat) : sw i (sw i x) = x := by
 unfold sw
 by_cases h1 : x = i
 ·rw [if_pos h1, if_neg (by omega), if_pos rfl, h1]
 ·by_cases h2 : x = i + 1
  ·rw [if_neg h1, if_pos h2, if_pos rfl, h2]
  ·rw [if_neg h1, if_neg h2, if_neg h1, if_neg h2]
theorem sw_l (i : Nat) : sw i i = i + 1 := by unfold sw; rw [if_pos rfl]
theorem sw_r (i : Nat) : sw i (i + 1) = i := by unfold sw; rw [if_neg (by omega), if_pos rfl]
theorem sw_o {i x : Nat} (h1 : x ≠ i) (h2 : x ≠ i + 1) : sw i x = x := by unfold sw; rw [if_neg h1, if_neg h2]
def Pm.L (t : Pm) (i : Nat) : Pm := ⟨fun x => t.f (sw i x), fun x => sw i (t.g x), fun x => by rw [sw_sw, t.fg], fun x => by rw [t.gf, sw_sw]⟩
def Pm.R (s : Pm) (i : Nat) : Pm := ⟨fun x => sw i (s.f x), fun x => s.g (sw i x), fun x => by rw [s.fg, sw_sw], fun x => by rw [sw_sw, s.gf]⟩
def Pm.B (t : Pm) (i : Nat) : Prop := t.f (i + 1) < t.f i
def Pm.E (s : Pm) (i : Nat) : Prop := s.g (i + 1) < s.g i
instance (t : Pm) (i : Nat) : Decidable (t.B i) := by unfold Pm.B; exact inferInstance
instance (t : Pm) (i : Nat) : Decidable (t.E i) := by unfold Pm.E; exact inferInstance
def one : Pm := ⟨fun x => x, fun x => x, fun _ => rfl, fun _ => rfl⟩
def Pm.mul (s t : Pm) : Pm := ⟨fun x => t.f (s.f x), fun x => s.g (t.g x), fun x => by rw [s.fg, t.fg], fun x => by rw [t.gf, s.gf]⟩
/-- Nothing moves from n on. -/
def Sup (n : Nat) (t : Pm) : Prop := ∀ x, n ≤ x → t.f x = x
theorem Sup.g {n : Nat} {t : Pm} (h : Sup n t) {x : Nat} (hx : n ≤ x) : t.g x = x := by
 have := t.gf x
 rw [h x hx] at this
 exact this
theorem Sup.lt {n : Nat} {t : Pm} (h : Sup n t) {x : Nat} (hx : x < n) : t.f x < n := by
 refine Nat.lt_of_not_le fun hle => ?_
 have h1 := h (t.f x) hle
 have := t.inj h1
 omega
theorem Sup.glt {n : Nat} {t : Pm} (h : Sup n t) {x : Nat} (hx : x < n) : t.g x < n := by
 refine Nat.lt_of_not_le fun hle => ?_
 have h1 := h (t.g x) hle
 rw [t.fg] at h1
 omega
theorem Sup.L {n : Nat} {t : Pm} (h : Sup n t) {i : Nat} (hi : i + 1 < n) : Sup n (t.L i) := fun x hx => by
  show t.f (sw i x) = x
  rw [sw_o (by omega) (by omega)]; exact h x hx
theorem Sup.R {n : Nat} {t : Pm} (h : Sup n t) {i : Nat} (hi : i + 1 < n) : Sup n (t.R i) := fun x hx => by
  show sw i (t.f x) = x
  rw [h x hx, sw_o (by omega) (by omega)]
theorem sup_one (n : Nat) : Sup n one := fun _ _ => rfl
theorem Sup.mul {n : Nat} {s t : Pm} (hs : Sup n s) (ht : Sup n t) : Sup n (s.mul t) := fun x hx => by
  show t.f (s.f x) = x
  rw [hs x hx, ht x hx]
section
variable {s t : Pm} {i j : Nat}
theorem RR (s : Pm) (i : Nat) : (s.R i).R i = s := Pm.same fun x => sw_sw i _
theorem LL (s : Pm) (i : Nat) : (s.L i).L i = s := Pm.same fun x => by
  show s.f (sw i (sw i x)) = s.f x
  rw [sw_sw]
theorem LR (s : Pm) (i j : Nat) : (s.R j).L i = (s.L i).R j := rfl
theorem E_R : (s.R i).E i ↔ ¬ s.E i := by
 unfold Pm.E
 show s.g (sw i (i + 1)) < s.g (sw i i) ↔ _
 rw [sw_l, sw_r]
 have : s.g i ≠ s.g (i + 1) := fun h => by have := s.ginj h; omega
 omega
theorem B_L : (s.L i).B i ↔ ¬ s.B i := by
 unfold Pm.B
 show s.f (sw i (i + 1)) < s.f (sw i i) ↔ _
 rw [sw_l, sw_r]
 have : s.f i ≠ s.f (i + 1) := fun h => by have := s.inj h; omega
 omega
/-- Of two numbers in order, the exchange turns only the neighbours i, i + 1 round. -/
theorem sw_lt {a b : Nat} (h : a < b) (hn : ¬ (a = i ∧ b = i + 1)) : sw i a < sw i b := by
  unfold sw
  split <;> split <;> (try split) <;> (try split) <;> omega
theorem B_R (hb : t.B i) (he : ¬ t.E j) : (t.R j).B i := by
 unfold Pm.B Pm.E at *
 show sw j (t.f (i + 1)) < sw j (t.f i)
 refine sw_lt hb fun ⟨h1, h2⟩ => he ?_
 rw [← h2, ← h1, t.gf, t.gf]; omega
theorem nE_L (hb : t.B i) (he : ¬ t.E j) : ¬ (t.L i).E j := by
 unfold Pm.B Pm.E at *
 show ¬ sw i (t.g (j + 1)) < sw i (t.g j)
 have hne : t.g j ≠ t.g (j + 1) := fun h => by have := t.ginj h; omega
 have : sw i (t.g j) < sw i (t.g (j + 1)) := sw_lt (by omega) fun ⟨h1, h2⟩ => by
  have e1 := t.fg j
  have e2 := t.fg (j + 1)
  rw [h1] at e1
  rw [h2] at e2
  omega
 omega
theorem sw_far {x : Nat} (h : i + 2 ≤ j ∨ j + 2 ≤ i) : sw i (sw j x) = sw j (sw i x) := by
 by_cases h1 : x = i
 ·subst h1; rw [sw_o (i := j) (by omega) (by omega), sw_l, sw_o (i := j) (by omega) (by omega)]
 ·by_cases h2 : x = i + 1
  ·subst h2; rw [sw_o (i := j) (by omega) (by omega), sw_r, sw_o (i := j) (by omega) (by omega)]
  ·by_cases h3 : x = j
   ·subst h3; rw [sw_l, sw_o (i := i) (x := x) h1 h2, sw_o (i := i) (by omega) (by omega), sw_l]
   ·by_cases h4 : x = j + 1
    ·subst h4; rw [sw_r, sw_o (i := i) (x := j + 1) h1 h2, sw_o (i := i) (by omega) (by omega), sw_r]
    ·rw [sw_o (i := j) h3 h4, sw_o (i := i) h1 h2, sw_o h3 h4]
theorem R_far (h : i + 2 ≤ j ∨ j + 2 ≤ i) : (s.R i).R j = (s.R j).R i := Pm.same fun x => (sw_far h).symm
theorem L_far (h : i + 2 ≤ j ∨ j + 2 ≤ i) : (s.L i).L j = (s.L j).L i := Pm.same fun x => by
  show s.f (sw i (sw j x)) = s.f (sw j (sw i x))
  rw [sw_far h]
theorem E_far (h : i + 2 ≤ j ∨ j + 2 ≤ i) : (s.R i).E j ↔ s.E j := by
 unfold Pm.E
 show s.g (sw i (j + 1)) < s.g (sw i j) ↔ _
 rw [sw_o (by omega) (by omega), sw_o (by omega) (by omega)]
theorem B_far (h : i + 2 ≤ j ∨ j + 2 ≤ i) : (s.L i).B j ↔ s.B j := by
 unfold Pm.B
 show s.f (sw i (j + 1)) < s.f (sw i j) ↔ _
 rw [sw_o (by omega) (by omega), sw_o (by omega) (by omega)]
theorem sw_near (i x : Nat) : sw i (sw (i + 1) (sw i x)) = sw (i + 1) (sw i (sw (i + 1) x)) := by
 by_cases h1 : x = i
 ·subst h1; rw [sw_l, sw_l, sw_o (by omega) (by omega), sw_o (i := x + 1) (x := x) (by omega) (by omega), sw_l, sw_l]
 ·by_cases h2 : x = i + 1
  ·subst h2
   rw [sw_r, sw_o (i := i + 1) (x := i) (by omega) (by omega), sw_l, sw_l, sw_o (i := i) (x := i + 1 + 1) (by omega) (by omega), sw_r]
  ·by_cases h3 : x = i + 2
   ·subst h3
    rw [sw_o (i := i) (x := i + 2) (by omega) (by omega), show i + 2 = i + 1 + 1 from rfl, sw_r, sw_r, sw_o (i := i + 1) (x := i) (by omega) (by omega)]
   ·rw [sw_o (i := i) h1 h2, sw_o (i := i + 1) h2 h3, sw_o h1 h2, sw_o h2 h3]
theorem R_near : ((s.R i).R (i + 1)).R i = ((s.R (i + 1)).R i).R (i + 1) := Pm.same fun x => sw_near i _
theorem L_near : ((s.L i).L (i + 1)).L i = ((s.L (i + 1)).L i).L (i + 1) := Pm.same fun x => by
  show s.f (sw i (sw (i + 1) (sw i x))) = s.f (sw (i + 1) (sw i (sw (i + 1) x)))
  rw [sw_near]
/-- The six facts on two neighbouring crossings. -/
theorem E_near1 (h1 : ¬ s.E i) (h2 : ¬ s.E (i + 1)) : ¬ (s.R i).E (i + 1) ∧ ¬ ((s.R i).R (i + 1)).E i ∧ ¬ (s.R (i + 1)).E i ∧ ¬ ((s.R (i + 1)).R i).E (i + 1) := by
 unfold Pm.E at *
 have a1 : sw i (i + 1 + 1) = i + 1 + 1 := sw_o (by omega) (by omega)
 have a2 : sw (i + 1) i = i := sw_o (by omega) (by omega)
 refine ⟨?_, ?_, ?_, ?_⟩
 ·show ¬ s.g (sw i (i + 1 + 1)) < s.g (sw i (i + 1))
  rw [a1, sw_r]; omega
 ·show ¬ s.g (sw i (sw (i + 1) (i + 1))) < s.g (sw i (sw (i + 1) i))
  rw [sw_l, a1, a2, sw_l]; omega
 ·show ¬ s.g (sw (i + 1) (i + 1)) < s.g (sw (i + 1) i)
  rw [sw_l, a2]; omega
 ·show ¬ s.g (sw (i + 1) (sw i (i + 1 + 1))) < s.g (sw (i + 1) (sw i (i + 1)))
  rw [a1, sw_r, sw_r, a2]; omega
theorem B_near1 (h1 : s.B i) (h2 : s.B (i + 1)) : (s.L i).B (i + 1) ∧ ((s.L i).L (i + 1)).B i ∧ (s.L (i + 1)).B i ∧ ((s.L (i + 1)).L i).B (i + 1) := by
 unfold Pm.B at *
 have a1 : sw i (i + 1 + 1) = i + 1 + 1 := sw_o (by omega) (by omega)
 have a2 : sw (i + 1) i = i := sw_o (by omega) (by omega)
 refine ⟨?_, ?_, ?_, ?_⟩
 ·show s.f (sw i (i + 1 + 1)) < s.f (sw i (i + 1))
  rw [a1, sw_r]; omega
 ·show s.f (sw i (sw (i + 1) (i + 1))) < s.f (sw i (sw (i + 1) i))
  rw [sw_l, a1, a2, sw_l]; omega
 ·show s.f (sw (i + 1) (i + 1)) < s.f (sw (i + 1) i)
  rw [sw_l, a2]; omega
 ·show s.f (sw (i + 1) (sw i (i + 1 + 1))) < s.f (sw (i + 1) (sw i (i + 1)))
  rw [a1, sw_r, sw_r, a2]; omega
end
theorem nB_one (i : Nat) : ¬ one.B i := by unfold Pm.B one; simp
theorem nE_one (i : Nat) : ¬ one.E i := by unfold Pm.E one; simp
/-- A braid that begins with nothing is the one. -/
theorem eq_one {n : Nat} {t : Pm} (hs : Sup n t) (h : ∀ i, i + 1 < n → ¬ t.B i) : t = one := by
 have hstep : ∀ i, i + 1 < n → t.f i < t.f (i + 1) := fun i hi => by
  have h1 := h i hi
  unfold Pm.B at h1
  have : t.f i ≠ t.f (i + 1) := fun e => by have := t.inj e; omega
  omega
 have hge : ∀ x, x < n → x ≤ t.f x := by
  intro x
  induction x with
  | zero => intro _; omega
  | succ x ih =>
   intro hx
   have h1 := ih (by omega)
   have h2 := hstep x hx
   omega
 have hle : ∀ d x, x + d + 1 = n → t.f x ≤ x := by
  intro d
  induction d with
  | zero =>
   intro x hx
   have := hs.lt (x := x) (by omega)
   omega
  | succ d ih =>
   intro x hx
   have h1 := ih (x + 1) (by omega)
   have h2 := hstep x (by omega)
   omega
 refine Pm.same fun x => ?_
 show t.f x = x
 by_cases hx : x < n
 ·have h1 := hge x hx
  have h2 := hle (n - 1 - x) x (by omega)
  omega
 ·exact hs x (by omega)
/-- The half twist. -/
def dl (n x : Nat) : Nat := if x < n then n - 1 - x else x
theorem dl_dl (n x : Nat) : dl n (dl n x) = x := by
 unfold dl
 by_cases h : x < n
 ·rw [if_pos h, if_pos (by omega)]; omega
 ·rw [if_neg h, if_neg h]
def half (n : Nat) : Pm := ⟨dl n, dl n, dl_dl n, dl_dl n⟩
theorem sup_half (n : Nat) : Sup n (half n) := fun x hx => by show dl n x = x; unfold dl; rw [if_neg (by omega)]
theorem E_half {n i : Nat} (hi : i + 1 < n) : (half n).E i := by
 unfold Pm.E
 show dl n (i + 1) < dl n i
 unfold dl
 rw [if_pos hi, if_pos (by omega)]; omega
theorem B_half {n i : Nat} (hi : i + 1 < n) : (half n).B i := E_half hi
/-- A braid that ends with everything is the half twist. -/
theorem eq_half {n : Nat} {t : Pm} (hs : Sup n t) (h : ∀ i, i + 1 < n → t.E i) : t = half n := by
 -- turn it round
 have hu : (half n).mul t = one ∨ True := .inr trivial
 let u : Pm := ⟨fun x => t.g (dl n x), fun x => dl n (t.f x), fun x => by rw [dl_dl, t.gf], fun x => by rw [t.fg, dl_dl]⟩
 have hsu : Sup n u := fun x hx => by
  show t.g (dl n x) = x
  have : dl n x = x := by unfold dl; rw [if_neg (by omega)]
  rw [this, hs.g hx]
 have hnb : ∀ i, i + 1 < n → ¬ u.B i := fun i hi => by
  unfold Pm.B
  show ¬ t.g (dl n (i + 1)) < t.g (dl n i)
  have e1 : dl n (i + 1) = n - 2 - i := by unfold dl; rw [if_pos hi]; omega
  have e2 : dl n i = n - 2 - i + 1 := by unfold dl; rw [if_pos (by omega)]; omega
  rw [e1, e2]
  have := h (n - 2 - i) (by omega)
  unfold Pm.E at this
  omega
 have he := eq_one hsu hnb
 refine Pm.same fun x => ?_
 have h1 : u.g x = x := by rw [he]; rfl
 have h2 : dl n (t.f x) = x := h1
 show t.f x = dl n x
 rw [← h2, dl_dl, h2]
inductive St (n : Nat) : List Pm → List Pm → Prop
  | mv (s t : Pm) (l : List Pm) (i : Nat) : i + 1 < n → t.B i → ¬ s.E i → St n (s :: t :: l) (s.R i :: t.L i :: l)
  | del (l : List Pm) : St n (one :: l) l
  | cons (x : Pm) (l l' : List Pm) : St n l l' → St n (x :: l) (x :: l')
inductive Star (n : Nat) : List Pm → List Pm → Prop
  | refl (l : List Pm) : Star n l l
  | step {a b c : List Pm} : St n a b → Star n b c → Star n a c
section
variable {n : Nat} {a b c l l' : List Pm}
theorem Star.one (h : St n a b) : Star n a b := .step h (.refl _)
theorem Star.trans (h : Star n a b) (k : Star n b c) : Star n a c := by
 induction h with
 | refl => exact k
 | step h _ ih => exact .step h (ih k)
theorem Star.cons (x : Pm) (h : Star n a b) : Star n (x :: a) (x :: b) := by
 induction h with
 | refl => exact .refl _
 | step h _ ih => exact .step (.cons x _ _ h) ih
theorem Star.app (x : List Pm) (h : Star n a b) : Star n (x ++ a) (x ++ b) := by
 induction x with
 | nil => exact h
 | cons y x ih => exact ih.cons y
theorem St.right (h : St n a b) (y : List Pm) : St n (a ++ y) (b ++ y) := by
 induction h with
 | mv s t l i h1 h2 h3 => exact .mv s t (l ++ y) i h1 h2 h3
 | del l => exact .del (l ++ y)
 | cons x l l' _ ih => exact .cons x _ _ ih
theorem Star.right (h : Star n a b) (y : List Pm) : Star n (a ++ y) (b ++ y) := by
 induction h with
 | refl => exact .refl _
 | step h _ ih => exact .step (h.right y) ih
def AllSup (n : Nat) (l : List Pm) : Prop := ∀ t ∈ l, Sup n t
theorem St.sup (h : St n a b) (hs : AllSup n a) : AllSup n b := by
 induction h with
 | mv s t l i h1 h2 h3 =>
  intro x hx
  rcases List.mem_cons.1 hx with rfl | hx
  ·exact (hs s (by simp)).R h1
  ·rcases List.mem_cons.1 hx with rfl | hx
   ·exact (hs t (by simp)).L h1
   ·exact hs x (by simp [hx])
 | del l => exact fun x hx => hs x (by simp [hx])
 | cons x l l' _ ih =>
  intro y hy
  rcases List.mem_cons.1 hy with rfl | hy
  ·exact hs y (by simp)
  ·exact ih (fun z hz => hs z (by simp [hz])) y hy
theorem Star.sup (h : Star n a b) (hs : AllSup n a) : AllSup n b := by
 induction h with
 | refl => exact hs
 | step h _ ih => exact ih (h.sup hs)
end
def sumN (h : Nat → Nat) : Nat → Nat
  | 0 => 0
  | n + 1 => sumN h n + h n
theorem sumN_congr {h h' : Nat → Nat} : ∀ n, (∀ x, x < n → h x = h' x) → sumN h n = sumN h' n
  | 0, _ => rfl
  | n + 1, he => by rw [sumN, sumN, sumN_congr n (fun x hx => he x (by omega)), he n (by omega)]
theorem sumN_two {h h' : Nat → Nat} {i : Nat} (hlt : h' i + h' (i + 1) < h i + h (i + 1)) : ∀ n, i + 1 < n → (∀ x, x ≠ i → x ≠ i + 1 → h' x = h x) → sumN h' n < sumN h n
 | 0, hi, _ => by omega
 | n + 1, hi, he => by
  rw [sumN, sumN]
  by_cases e : n = i + 1
  ·subst e
   rw [sumN, sumN, sumN_congr i (fun x hx => he x (by omega) (by omega))]
   omega
  ·have := sumN_two hlt n (by omega) he
   rw [he n (by omega) e]
   omega
theorem sumN_le {h : Nat → Nat} {b : Nat} : ∀ n, (∀ x, x < n → h x ≤ b) → sumN h n ≤ n * b
 | 0, _ => by simp [sumN]
 | n + 1, he => by
  have := sumN_le n (fun x hx => he x (by omega))
  have := he n (by omega)
  rw [sumN, Nat.succ_mul]; omega
def phi (n : Nat) (s : Pm) : Nat := sumN (fun y => y * s.g y) n
def big (n : Nat) : Nat := n * (n * n) + 1
theorem phi_lt {n : Nat} {s : Pm} (hs : Sup n s) : phi n s < big n := by
 unfold phi big
 have := sumN_le (h := fun y => y * s.g y) (b := n * n) n (fun x hx => Nat.mul_le_mul (by omega) (by have := hs.glt hx; omega))
 omega
theorem phi_R {n : Nat} {s : Pm} {i : Nat} (hi : i + 1 < n) (he : ¬ s.E i) : phi n (s.R i) < phi n s := by
 unfold phi
 refine sumN_two (i := i) ?_ n hi fun x h1 h2 => ?_
 ·show i * s.g (sw i i) + (i + 1) * s.g (sw i (i + 1)) < i * s.g i + (i + 1) * s.g (i + 1)
  rw [sw_l, sw_r]
  unfold Pm.E at he
  have : s.g i ≠ s.g (i + 1) := fun h => by have := s.ginj h; omega
  rw [Nat.succ_mul, Nat.succ_mul]; omega
 ·show x * s.g (sw i x) = x * s.g x
  rw [sw_o h1 h2]
def val (n : Nat) : List Pm → Nat
  | [] => 0
  | x :: l => phi n x * big n ^ l.length + val n l
theorem St.val {n : Nat} {a b : List Pm} (h : St n a b) (hs : AllSup n a) : (val n b < val n a ∧ b.length = a.length) ∨ (val n b ≤ val n a ∧ a.length = b.length + 1) := by
 induction h with
 | mv s t l i h1 h2 h3 =>
  left
  refine ⟨?_, rfl⟩
  have hr := phi_R h1 h3
  have ht := phi_lt ((hs t (by simp)).L h1)
  show phi n (s.R i) * big n ^ (l.length + 1) + (phi n (t.L i) * big n ^ l.length + Br.val n l) < phi n s * big n ^ (l.length + 1) + (phi n t * big n ^ l.length + Br.val n l)
  generalize phi n (s.R i) = u at *
  generalize phi n s = v at *
  generalize phi n (t.L i) = w at *
  have h4 : (u + 1) * big n ^ (l.length + 1) ≤ v * big n ^ (l.length + 1) := Nat.mul_le_mul_right _ hr
  have h5 : (w + 1) * big n ^ l.length ≤ big n * big n ^ l.length := Nat.mul_le_mul_right _ ht
  have h6 : big n ^ (l.length + 1) = big n * big n ^ l.length := by rw [Nat.pow_succ, Nat.mul_comm]
  have h7 : 0 < big n ^ l.length := Nat.pow_pos (by unfold big; omega)
  rw [Nat.succ_mul] at h4 h5
  rw [h6] at h4 ⊢
  omega
 | del l =>
  right
  refine ⟨?_, rfl⟩
  show Br.val n l ≤ phi n one * big n ^ l.length + Br.val n l
  omega
 | cons x l l' _ ih =>
  rcases ih (fun z hz => hs z (by simp [hz])) with ⟨h1, h2⟩ | ⟨h1, h2⟩
  ·left
   refine ⟨?_, by simp [h2]⟩
   show phi n x * big n ^ l'.length + Br.val n l' < phi n x * big n ^ l.length + Br.val n l
   rw [h2]; omega
  ·right
   refine ⟨?_, by simp [h2]⟩
   show phi n x * big n ^ l'.length + Br.val n l' ≤ phi n x * big n ^ l.length + Br.val n l
   have : phi n x * big n ^ l'.length ≤ phi n x * big n ^ l.length := Nat.mul_le_mul_left _ (Nat.pow_le_pow_right (by unfold big; omega) (by omega))
   omega
def mu (n : Nat) (l : List Pm) : Nat := val n l + l.length
theorem St.mu {n : Nat} {a b : List Pm} (h : St n a b) (hs : AllSup n a) : mu n b < mu n a := by
  unfold Br.mu
  rcases h.val hs with ⟨h1, h2⟩ | ⟨h1, h2⟩ <;> omega
/-- No two strands cross in both. -/
def Red (x y : Pm) : Prop := ∀ p q, p < q → x.f q < x.f p → y.f (x.f q) < y.f (x.f p)
theorem Red.nE {x y : Pm} (h : Red x y) {i : Nat} (hb : y.B i) : ¬ x.E i := by
 intro he
 unfold Pm.E at he
 unfold Pm.B at hb
 have := h _ _ he (by rw [x.fg, x.fg]; omega)
 rw [x.fg, x.fg] at this
 omega
theorem Red.mv {x y : Pm} (h : Red x y) {i : Nat} (hb : y.B i) : Red (x.R i) (y.L i) := by
 intro p q hpq hx
 show y.f (sw i (sw i (x.f q))) < y.f (sw i (sw i (x.f p)))
 rw [sw_sw, sw_sw]
 have hx : sw i (x.f q) < sw i (x.f p) := hx
 by_cases h1 : x.f q < x.f p
 ·exact h p q hpq h1
 ·have hne : x.f p ≠ x.f q := fun e => by have := x.inj e; omega
  by_cases h2 : x.f p = i ∧ x.f q = i + 1
  ·rw [h2.1, h2.2]; exact hb
  ·have := sw_lt (i := i) (a := x.f p) (b := x.f q) (by omega) h2
   omega
theorem mul_mv (x y : Pm) (i : Nat) : (x.R i).mul (y.L i) = x.mul y := Pm.same fun z => by
  show y.f (sw i (sw i (x.f z))) = y.f (x.f z)
  rw [sw_sw]
theorem absorb {n : Nat} (l : List Pm) : ∀ (m : Nat) (x y : Pm), phi n x ≤ m → Sup n x → Sup n y → Red x y → Star n (x :: y :: l) (x.mul y :: one :: l) := by
 intro m
 induction m with
 | zero =>
  intro x y hm hx hy hr
  by_cases h : ∀ i, i + 1 < n → ¬ y.B i
  ·rw [eq_one hy h]
   have : x.mul one = x := Pm.same fun _ => rfl
   rw [this]; exact .refl _
  ·exfalso
   refine h fun i hi hb => ?_
   have := phi_R hi (hr.nE hb)
   omega
 | succ m ih =>
  intro x y hm hx hy hr
  by_cases h : ∀ i, i + 1 < n → ¬ y.B i
  ·rw [eq_one hy h]
   have : x.mul one = x := Pm.same fun _ => rfl
   rw [this]; exact .refl _
  ·obtain ⟨i, hi⟩ := Classical.not_forall.1 h
   obtain ⟨hi, hb⟩ := Classical.not_imp.1 hi
   have hb : y.B i := Classical.not_not.1 hb
   have hp := phi_R hi (hr.nE hb)
   have h1 := ih (x.R i) (y.L i) (by omega) (hx.R hi) (hy.L hi) (hr.mv hb)
   rw [mul_mv] at h1
   exact .step (.mv x y l i hi hb (hr.nE hb)) h1
theorem join2 {n : Nat} {x y : Pm} (l : List Pm) (hx : Sup n x) (hy : Sup n y) (hr : Red x y) : Star n (x :: y :: l) (x.mul y :: l) :=
  (absorb l _ x y (Nat.le_refl _) hx hy hr).trans ((Star.one (.del l)).cons _)
theorem red_one (y : Pm) : Red one y := fun p q h1 h2 => by
  have : q < p := h2
  omega
theorem local_join {n : Nat} : ∀ {a b c : List Pm}, AllSup n a → St n a b → St n a c → ∃ d, Star n b d ∧ Star n c d := by
 intro a
 induction a with
 | nil => intro b c _ h; cases h
 | cons x a ih =>
  intro b c hs h k
  cases h with
  | mv s t l i h1 h2 h3 =>
   cases k with
   | mv s2 t2 l2 j k1 k2 k3 =>
    rcases Nat.lt_trichotomy i j with hij | hij | hij
    ·by_cases hn : j = i + 1
     ·subst hn
      obtain ⟨e1, e2, e3, e4⟩ := E_near1 h3 k3
      obtain ⟨b1, b2, b3, b4⟩ := B_near1 h2 k2
      refine ⟨((x.R i).R (i + 1)).R i :: ((t.L i).L (i + 1)).L i :: l, ?_, ?_⟩
      ·exact .step (.mv _ _ l (i + 1) k1 b1 e1) (.one (.mv _ _ l i h1 b2 e2))
      ·rw [R_near, L_near]
       exact .step (.mv _ _ l i h1 b3 e3) (.one (.mv _ _ l (i + 1) k1 b4 e4))
     ·refine ⟨(x.R i).R j :: (t.L i).L j :: l, .one (.mv _ _ l j k1 ((B_far (by omega)).2 k2) (fun h => k3 ((E_far (by omega)).1 h))), ?_⟩
      rw [R_far (by omega), L_far (by omega)]
      exact .one (.mv _ _ l i h1 ((B_far (by omega)).2 h2) (fun h => h3 ((E_far (by omega)).1 h)))
    ·subst hij
     exact ⟨_, .refl _, .refl _⟩
    ·by_cases hn : i = j + 1
     ·subst hn
      obtain ⟨e1, e2, e3, e4⟩ := E_near1 k3 h3
      obtain ⟨b1, b2, b3, b4⟩ := B_near1 k2 h2
      refine ⟨((x.R j).R (j + 1)).R j :: ((t.L j).L (j + 1)).L j :: l, ?_, ?_⟩
      ·rw [R_near, L_near]
       exact .step (.mv _ _ l j k1 b3 e3) (.one (.mv _ _ l (j + 1) h1 b4 e4))
      ·exact .step (.mv _ _ l (j + 1) h1 b1 e1) (.one (.mv _ _ l j k1 b2 e2))
     ·refine ⟨(x.R i).R j :: (t.L i).L j :: l, .one (.mv _ _ l j k1 ((B_far (by omega)).2 k2) (fun h => k3 ((E_far (by omega)).1 h))), ?_⟩
      rw [R_far (by omega), L_far (by omega)]
      exact .one (.mv _ _ l i h1 ((B_far (by omega)).2 h2) (fun h => h3 ((E_far (by omega)).1 h)))
   | del l2 =>
    have ht := hs t (by simp)
    refine ⟨t :: l, ?_, .refl _⟩
    have h4 := absorb (n := n) l _ (one.R i) (t.L i) (Nat.le_refl _) ((sup_one n).R h1) (ht.L h1) ((red_one t).mv h2)
    rw [mul_mv] at h4
    have e : one.mul t = t := Pm.same fun _ => rfl
    rw [e] at h4
    exact h4.trans ((Star.one (.del l)).cons _)
   | cons x2 l2 c2 k =>
    cases k with
    | mv s2 t2 l3 j k1 k2 k3 =>
     refine ⟨x.R i :: (t.L i).R j :: t2.L j :: l3, ?_, ?_⟩
     ·exact (Star.one (.mv _ _ l3 j k1 k2 (nE_L h2 k3))).cons _
     ·rw [← LR]
      exact .one (.mv _ _ _ i h1 (B_R h2 k3) h3)
    | del l3 => exact absurd h2 (nB_one i)
    | cons x3 l3 c3 k =>
     exact ⟨x.R i :: t.L i :: c3, (((Star.one k).cons _).cons _), .one (.mv _ _ _ i h1 h2 h3)⟩
  | del l =>
   cases k with
   | mv s2 t2 l2 j k1 k2 k3 =>
    have ht := hs t2 (by simp)
    refine ⟨t2 :: l2, .refl _, ?_⟩
    have h4 := absorb (n := n) l2 _ (one.R j) (t2.L j) (Nat.le_refl _) ((sup_one n).R k1) (ht.L k1) ((red_one t2).mv k2)
    rw [mul_mv] at h4
    have e : one.mul t2 = t2 := Pm.same fun _ => rfl
    rw [e] at h4
    exact h4.trans ((Star.one (.del l2)).cons _)
   | del l2 => exact ⟨_, .refl _, .refl _⟩
   | cons x2 l2 c2 k => exact ⟨c2, .one k, .one (.del _)⟩
  | cons x1 l1 b1 h =>
   cases k with
   | mv s2 t2 l2 j k1 k2 k3 =>
    cases h with
    | mv s3 t3 l3 i h1 h2 h3 =>
     refine ⟨x.R j :: (t2.L j).R i :: t3.L i :: l3, ?_, ?_⟩
     ·rw [← LR]
      exact .one (.mv _ _ _ j k1 (B_R k2 h3) k3)
     ·exact (Star.one (.mv _ _ l3 i h1 h2 (nE_L k2 h3))).cons _
    | del l3 => exact absurd k2 (nB_one j)
    | cons x3 l3 b3 h =>
     exact ⟨x.R j :: t2.L j :: b3, .one (.mv _ _ _ j k1 k2 k3), (((Star.one h).cons _).cons _)⟩
   | del l2 => exact ⟨b1, .one (.del _), .one h⟩
   | cons x2 l2 c2 k =>
    obtain ⟨d, h4, h5⟩ := ih (fun z hz => hs z (by simp [hz])) h k
    exact ⟨x :: d, h4.cons _, h5.cons _⟩
theorem confl {n : Nat} : ∀ (m : Nat) (a b c : List Pm), mu n a ≤ m → AllSup n a → Star n a b → Star n a c → ∃ d, Star n b d ∧ Star n c d := by
 intro m
 induction m with
 | zero =>
  intro a b c hm hs h k
  cases h with
  | refl => exact ⟨c, k, .refl _⟩
  | step h1 h2 => have := h1.mu hs; omega
 | succ m ih =>
  intro a b c hm hs h k
  cases h with
  | refl => exact ⟨c, k, .refl _⟩
  | step h1 h2 =>
   cases k with
   | refl => exact ⟨b, .refl _, .step h1 h2⟩
   | step k1 k2 =>
    rename_i b1 c1
    obtain ⟨d, h3, k3⟩ := local_join hs h1 k1
    have m1 := h1.mu hs
    have m2 := k1.mu hs
    obtain ⟨e, h4, h5⟩ := ih b1 b d (by omega) (h1.sup hs) h2 h3
    obtain ⟨f, k4, k5⟩ := ih c1 e c (by omega) (k1.sup hs) (k3.trans h5) k2
    exact ⟨f, h4.trans k4, k5⟩
end Go.Proofs.Ytdldfdcedjmneaa.Br
namespace Go.Proofs.Ytdldfdcedjmneaa.Br
set_option linter.unusedVariables false
set_option linter.unusedSimpArgs false
def Irr (n : Nat) (l : List Pm) : Prop := ∀ l', ¬ St n l l'
def Rgt (n : Nat) : List Pm → Prop
  | [] => True
  | x :: l => x ≠ one ∧ (∀ t, l.head? = some t → ∀ i, i + 1 < n → t.B i → x.E i) ∧ Rgt n l
theorem Rgt.irr {n : Nat} : ∀ {l : List Pm}, Rgt n l → Irr n l
 | [], _, l', h => by cases h
 | x :: l, hr, l', h => by
  obtain ⟨h1, h2, h3⟩ := hr
  cases h with
  | mv s t l i k1 k2 k3 => exact k3 (h2 t rfl i k1 k2)
  | del l => exact h1 rfl
  | cons x l l' h => exact (Rgt.irr h3) _ h
theorem Irr.rgt {n : Nat} : ∀ {l : List Pm}, Irr n l → Rgt n l
 | [], _ => trivial
 | x :: l, hi => by
  refine ⟨fun e => ?_, fun t ht i k1 k2 => Classical.byContradiction fun k3 => ?_, Irr.rgt fun l' h => hi _ (.cons x _ _ h)⟩
  ·subst e; exact hi _ (.del l)
  ·cases l with
   | nil => cases ht
   | cons y l => injection ht with ht; subst ht; exact hi _ (.mv x y l i k1 k2 k3)
theorem Star.irr {n : Nat} {a b : List Pm} (h : Star n a b) (hi : Irr n a) : b = a := by
 cases h with
 | refl => rfl
 | step h _ => exact absurd h (hi _)
theorem nf_ex {n : Nat} : ∀ (m : Nat) (a : List Pm), mu n a ≤ m → AllSup n a → ∃ b, Star n a b ∧ Irr n b := by
 intro m
 induction m with
 | zero =>
  intro a hm hs
  exact ⟨a, .refl _, fun l' h => by have := h.mu hs; omega⟩
 | succ m ih =>
  intro a hm hs
  by_cases h : Irr n a
  ·exact ⟨a, .refl _, h⟩
  ·obtain ⟨b, hb⟩ := Classical.not_forall.1 h
   have hb := Classical.not_not.1 hb
   have := hb.mu hs
   obtain ⟨c, h1, h2⟩ := ih b (by omega) (hb.sup hs)
   exact ⟨c, .step hb h1, h2⟩
/-- The same braid by moves. -/
def Eqv (n : Nat) (a b : List Pm) : Prop := AllSup n a ∧ AllSup n b ∧ ∃ c, Star n a c ∧ Star n b c
section
variable {n : Nat} {a b c : List Pm}
theorem Eqv.refl (h : AllSup n a) : Eqv n a a := ⟨h, h, a, .refl _, .refl _⟩
theorem Eqv.symm (h : Eqv n a b) : Eqv n b a := ⟨h.2.1, h.1, h.2.2.imp fun _ h => ⟨h.2, h.1⟩⟩
theorem Eqv.trans (h : Eqv n a b) (k : Eqv n b c) : Eqv n a c := by
 obtain ⟨ha, hb, x, h1, h2⟩ := h
 obtain ⟨_, hc, y, k1, k2⟩ := k
 obtain ⟨z, h3, k3⟩ := confl _ b x y (Nat.le_refl _) hb h2 k1
 exact ⟨ha, hc, z, h1.trans h3, k2.trans k3⟩
theorem Eqv.of (h : Star n a b) (hs : AllSup n a) : Eqv n a b := ⟨hs, h.sup hs, b, h, .refl _⟩
theorem AllSup.app (ha : AllSup n a) (hb : AllSup n b) : AllSup n (a ++ b) := fun t ht => by
 rcases List.mem_append.1 ht with h | h
 ·exact ha t h
 ·exact hb t h
theorem AllSup.cons {x : Pm} (hx : Sup n x) (h : AllSup n a) : AllSup n (x :: a) := fun t ht => by
 rcases List.mem_cons.1 ht with rfl | h1
 ·exact hx
 ·exact h t h1
theorem AllSup.nil : AllSup n [] := fun t ht => by cases ht
theorem AllSup.rgt (h : AllSup n (a ++ b)) : AllSup n b := fun t ht => h t (List.mem_append_right _ ht)
theorem AllSup.rep {x : Pm} (hx : Sup n x) (k : Nat) : AllSup n (List.replicate k x) := fun t ht => by rw [List.eq_of_mem_replicate ht]; exact hx
theorem Eqv.right (h : Eqv n a b) {y : List Pm} (hy : AllSup n y) : Eqv n (a ++ y) (b ++ y) := by
  obtain ⟨ha, hb, x, h1, h2⟩ := h
  exact ⟨ha.app hy, hb.app hy, x ++ y, h1.right y, h2.right y⟩
theorem Eqv.app (h : Eqv n a b) {y : List Pm} (hy : AllSup n y) : Eqv n (y ++ a) (y ++ b) := by
  obtain ⟨ha, hb, x, h1, h2⟩ := h
  exact ⟨hy.app ha, hy.app hb, y ++ x, h1.app y, h2.app y⟩
theorem Eqv.irr (h : Eqv n a b) (ha : Irr n a) (hb : Irr n b) : a = b := by
  obtain ⟨_, _, c, h1, h2⟩ := h
  rw [← h1.irr ha, h2.irr hb]
end
def tau (n : Nat) (t : Pm) : Pm := ⟨fun x => dl n (t.f (dl n x)), fun x => dl n (t.g (dl n x)), fun x => by rw [dl_dl, t.fg, dl_dl], fun x => by rw [dl_dl, t.gf, dl_dl]⟩
section
variable {n i : Nat} {s t : Pm}
theorem dl_in {x : Nat} (h : x < n) : dl n x = n - 1 - x := by unfold dl; rw [if_pos h]
theorem dl_out {x : Nat} (h : n ≤ x) : dl n x = x := by unfold dl; rw [if_neg (by omega)]
theorem tau_sup (h : Sup n t) : Sup n (tau n t) := fun x hx => by
  show dl n (t.f (dl n x)) = x
  rw [dl_out hx, h x hx, dl_out hx]
theorem dl_sw (hi : i + 1 < n) (x : Nat) : dl n (sw i x) = sw (n - 2 - i) (dl n x) := by
 by_cases h1 : x = i
 ·subst h1
  rw [sw_l, dl_in hi, dl_in (by omega), show n - 1 - x = n - 2 - x + 1 by omega, sw_r]; omega
 ·by_cases h2 : x = i + 1
  ·subst h2
   rw [sw_r, dl_in (by omega), dl_in hi, show n - 1 - (i + 1) = n - 2 - i by omega, sw_l]; omega
  ·rw [sw_o h1 h2]
   by_cases hx : x < n
   ·rw [dl_in hx, sw_o (by omega) (by omega)]
   ·rw [dl_out (by omega), sw_o (by omega) (by omega)]
theorem tau_R (hi : i + 1 < n) : tau n (s.R i) = (tau n s).R (n - 2 - i) := Pm.same fun x => dl_sw hi _
theorem tau_L (hi : i + 1 < n) : tau n (t.L i) = (tau n t).L (n - 2 - i) := Pm.same fun x => by
 show dl n (t.f (sw i (dl n x))) = dl n (t.f (dl n (sw (n - 2 - i) x)))
 have := dl_sw (n := n) (i := n - 2 - i) (by omega) x
 rw [show n - 2 - (n - 2 - i) = i by omega] at this
 rw [this]
theorem dl_less {x y : Nat} (hx : x < n) (hy : y < n) : dl n x < dl n y ↔ y < x := by rw [dl_in hx, dl_in hy]; omega
theorem tau_B (h : Sup n t) (hi : i + 1 < n) : (tau n t).B (n - 2 - i) ↔ t.B i := by
 unfold Pm.B
 show dl n (t.f (dl n (n - 2 - i + 1))) < dl n (t.f (dl n (n - 2 - i))) ↔ _
 have e1 : dl n (n - 2 - i + 1) = i := by rw [dl_in (by omega)]; omega
 have e2 : dl n (n - 2 - i) = i + 1 := by rw [dl_in (by omega)]; omega
 rw [e1, e2]
 exact dl_less (h.lt (by omega)) (h.lt hi)
theorem tau_E (h : Sup n t) (hi : i + 1 < n) : (tau n t).E (n - 2 - i) ↔ t.E i := by
 unfold Pm.E
 show dl n (t.g (dl n (n - 2 - i + 1))) < dl n (t.g (dl n (n - 2 - i))) ↔ _
 have e1 : dl n (n - 2 - i + 1) = i := by rw [dl_in (by omega)]; omega
 have e2 : dl n (n - 2 - i) = i + 1 := by rw [dl_in (by omega)]; omega
 rw [e1, e2]
 exact dl_less (h.glt (by omega)) (h.glt hi)
theorem tau_one : tau n one = one := Pm.same fun x => dl_dl n x
theorem tau_half : tau n (half n) = half n := Pm.same fun x => by
  show dl n (dl n (dl n x)) = dl n x
  rw [dl_dl]
theorem St.tau {a b : List Pm} (h : St n a b) (hs : AllSup n a) : St n (a.map (tau n)) (b.map (tau n)) := by
 induction h with
 | mv s t l i h1 h2 h3 =>
  rw [List.map_cons, List.map_cons, List.map_cons, List.map_cons, tau_R h1, tau_L h1]
  exact .mv _ _ _ _ (by omega) ((tau_B (hs t (by simp)) h1).2 h2) (fun h => h3 ((tau_E (hs s (by simp)) h1).1 h))
 | del l => rw [List.map_cons, tau_one]; exact .del _
 | cons x l l' _ ih => exact .cons _ _ _ (ih fun z hz => hs z (by simp [hz]))
theorem Star.tau {a b : List Pm} (h : Star n a b) (hs : AllSup n a) : Star n (a.map (tau n)) (b.map (tau n)) := by
 induction h with
 | refl => exact .refl _
 | step h _ ih => exact .step (h.tau hs) (ih (h.sup hs))
theorem AllSup.tau {a : List Pm} (h : AllSup n a) : AllSup n (a.map (tau n)) := fun t ht => by
  obtain ⟨x, hx, rfl⟩ := List.mem_map.1 ht
  exact tau_sup (h x hx)
theorem Eqv.tau {a b : List Pm} (h : Eqv n a b) : Eqv n (a.map (tau n)) (b.map (tau n)) := by
  obtain ⟨ha, hb, c, h1, h2⟩ := h
  exact ⟨ha.tau, hb.tau, _, h1.tau ha, h2.tau hb⟩
theorem half_ne (hn : 2 ≤ n) : half n ≠ one := fun e => by
 have h : (half n).f 0 = one.f 0 := by rw [e]
 have h : dl n 0 = 0 := h
 rw [dl_in (by omega)] at h
 omega
theorem irr_half (hn : 2 ≤ n) {l : List Pm} (h : Irr n l) : Irr n (half n :: l) := by
 have key : ∀ x, x = half n → ∀ l', ¬ St n (x :: l) l' := by
  intro x e l' k
  cases k with
  | mv s t l i k1 k2 k3 => exact k3 (e ▸ E_half k1)
  | cons x l l' k => exact h _ k
  | del l => exact half_ne hn e.symm
 exact key _ rfl
theorem irr_halves (hn : 2 ≤ n) {l : List Pm} (h : Irr n l) : ∀ a, Irr n (List.replicate a (half n) ++ l)
  | 0 => h
  | a + 1 => irr_half hn (irr_halves hn h a)
end
end Go.Proofs.Ytdldfdcedjmneaa.Br
namespace Go.Proofs.Ytdldfdcedjmneaa.Br
set_option linter.unusedVariables false
set_option linter.unusedSimpArgs false
/-- m, with the power q, is the normal form of l with the power p. -/
structure Nf (n : Nat) (p : Int) (l : List Pm) (q : Int) (m : List Pm) : Prop where
  ex : ∃ a : Nat, Eqv n l (List.replicate a (half n) ++ m) ∧ q = p + a
  irr : Irr n m
  hd : m.head? ≠ some (half n)
section
variable {n : Nat} {p q p' q' : Int} {l m l' m' : List Pm}
theorem rep_uniq {x : Pm} : ∀ {a b : Nat} {m m' : List Pm}, m.head? ≠ some x → m'.head? ≠ some x → List.replicate a x ++ m = List.replicate b x ++ m' → a = b ∧ m = m'
 | 0, 0, m, m', _, _, e => ⟨rfl, e⟩
 | 0, b + 1, m, m', h, _, e => by
  exfalso
  have e2 : m = x :: (List.replicate b x ++ m') := e
  rw [e2] at h
  exact h rfl
 | a + 1, 0, m, m', _, h, e => by
  exfalso
  have e2 : x :: (List.replicate a x ++ m) = m' := e
  rw [← e2] at h
  exact h rfl
 | a + 1, b + 1, m, m', h1, h2, e => by
  have e2 : x :: (List.replicate a x ++ m) = x :: (List.replicate b x ++ m') := e
  injection e2 with _ e3
  obtain ⟨h3, h4⟩ := rep_uniq h1 h2 e3
  exact ⟨by rw [h3], h4⟩
theorem Nf.uniq (hn : 2 ≤ n) (h : Nf n p l q m) (k : Nf n p l q' m') : q = q' ∧ m = m' := by
 obtain ⟨⟨a, h1, h2⟩, h3, h4⟩ := h
 obtain ⟨⟨b, k1, k2⟩, k3, k4⟩ := k
 have := (h1.symm.trans k1).irr (irr_halves hn h3 a) (irr_halves hn k3 b)
 obtain ⟨e1, e2⟩ := rep_uniq h4 k4 this
 exact ⟨by omega, e2⟩
theorem strip : ∀ (l : List Pm), Irr n l → ∃ a m, l = List.replicate a (half n) ++ m ∧ Irr n m ∧ m.head? ≠ some (half n)
 | [], h => ⟨0, [], rfl, h, by simp⟩
 | x :: l, h => by
  by_cases e : x = half n
  ·obtain ⟨a, m, h1, h2, h3⟩ := strip l (fun l' k => h _ (.cons x _ _ k))
   exact ⟨a + 1, m, by rw [e, h1]; rfl, h2, h3⟩
  ·exact ⟨0, x :: l, rfl, h, by simpa using e⟩
theorem Nf.exists (p : Int) (hl : AllSup n l) : ∃ q m, Nf n p l q m := by
 obtain ⟨b, h1, h2⟩ := nf_ex _ l (Nat.le_refl _) hl
 obtain ⟨a, m, h3, h4, h5⟩ := strip b h2
 exact ⟨p + a, m, ⟨⟨a, h3 ▸ Eqv.of h1 hl, rfl⟩, h4, h5⟩⟩
theorem Nf.sup (h : Nf n p l q m) : AllSup n l ∧ AllSup n m := by
  obtain ⟨a, h1, _⟩ := h.ex
  exact ⟨h1.1, h1.2.1.rgt⟩
theorem Nf.eqv (h : Nf n p l q m) (e : Eqv n l' l) : Nf n p l' q m := by
  obtain ⟨⟨a, h1, h2⟩, h3, h4⟩ := h
  exact ⟨⟨a, e.trans h1, h2⟩, h3, h4⟩
theorem Nf.half (h : Nf n (p + 1) l q m) : Nf n p (half n :: l) q m := by
  obtain ⟨⟨a, h1, h2⟩, h3, h4⟩ := h
  exact ⟨⟨a + 1, h1.app (y := [Br.half n]) (AllSup.cons (sup_half n) AllSup.nil), by omega⟩, h3, h4⟩
theorem Nf.self (hs : AllSup n m) (h : Irr n m) (h2 : m.head? ≠ some (Br.half n)) (p : Int) : Nf n p m p m := ⟨⟨0, Eqv.refl hs, by omega⟩, h, h2⟩
/-- The same states: one normal form. -/
def SEq (n : Nat) (x y : Int × List Pm) : Prop := ∃ q m, Nf n x.1 x.2 q m ∧ Nf n y.1 y.2 q m
theorem SEq.refl {x : Int × List Pm} (h : AllSup n x.2) : SEq n x x := by
  obtain ⟨q, m, h⟩ := Nf.exists x.1 h
  exact ⟨q, m, h, h⟩
theorem SEq.symm {x y : Int × List Pm} (h : SEq n x y) : SEq n y x := by
  obtain ⟨q, m, h1, h2⟩ := h
  exact ⟨q, m, h2, h1⟩
theorem SEq.trans (hn : 2 ≤ n) {x y z : Int × List Pm} (h : SEq n x y) (k : SEq n y z) : SEq n x z := by
 obtain ⟨q, m, h1, h2⟩ := h
 obtain ⟨q', m', k1, k2⟩ := k
 obtain ⟨rfl, rfl⟩ := h2.uniq hn k1
 exact ⟨q, m, h1, k2⟩
theorem SEq.of (p : Int) (h : Eqv n l l') : SEq n (p, l) (p, l') := by
  obtain ⟨q, m, h1⟩ := Nf.exists p h.2.1
  exact ⟨q, m, h1.eqv h, h1⟩
theorem SEq.half (p : Int) (h : AllSup n l) : SEq n (p, Br.half n :: l) (p + 1, l) := by
  obtain ⟨q, m, h1⟩ := Nf.exists (p + 1) h
  exact ⟨q, m, h1.half, h1⟩
theorem SEq.halves (hn : 2 ≤ n) (h : AllSup n l) : ∀ (a : Nat) (p : Int), SEq n (p, List.replicate a (Br.half n) ++ l) (p + a, l)
 | 0, p => by
  have : p + ((0 : Nat) : Int) = p := by omega
  rw [this]; exact SEq.refl h
 | a + 1, p => by
  have h1 := SEq.half (n := n) (l := List.replicate a (Br.half n) ++ l) p ((AllSup.rep (sup_half n) a).app h)
  have h2 := SEq.halves hn h a (p + 1)
  rw [show p + ((a + 1 : Nat) : Int) = p + 1 + (a : Int) by omega]
  exact h1.trans hn h2
/-- A state is the same as its normal form. -/
theorem Nf.seq (h : Nf n p l q m) : SEq n (p, l) (q, m) := ⟨q, m, h, Nf.self h.sup.2 h.irr h.hd q⟩
theorem SEq.right (hn : 2 ≤ n) {x y : Int × List Pm} (h : SEq n x y) {r : List Pm} (hr : AllSup n r) : SEq n (x.1, x.2 ++ r) (y.1, y.2 ++ r) := by
 obtain ⟨q, m, h1, h2⟩ := h
 have key : ∀ (z : Int × List Pm), Nf n z.1 z.2 q m → SEq n (z.1, z.2 ++ r) (q, m ++ r) := by
  intro z hz
  obtain ⟨a, k1, k2⟩ := hz.ex
  have k3 := SEq.of z.1 (k1.right hr)
  rw [List.append_assoc] at k3
  have k4 := SEq.halves hn (hz.sup.2.app hr) a z.1
  rw [← k2] at k4
  exact k3.trans hn k4
 exact (key x h1).trans hn (key y h2).symm
theorem SEq.tau (hn : 2 ≤ n) {x y : Int × List Pm} (h : SEq n x y) (d : Int) : SEq n (x.1 + d, x.2.map (Br.tau n)) (y.1 + d, y.2.map (Br.tau n)) := by
 obtain ⟨q, m, h1, h2⟩ := h
 have key : ∀ (z : Int × List Pm), Nf n z.1 z.2 q m → SEq n (z.1 + d, z.2.map (Br.tau n)) (q + d, m.map (Br.tau n)) := by
  intro z hz
  obtain ⟨a, k1, k2⟩ := hz.ex
  have k3 := SEq.of (z.1 + d) k1.tau
  rw [List.map_append, List.map_replicate, tau_half] at k3
  have k4 := SEq.halves hn hz.sup.2.tau a (z.1 + d)
  rw [show z.1 + d + (a : Int) = q + d by omega] at k4
  exact k3.trans hn k4
 exact (key x h1).trans hn (key y h2).symm
def gen (i : Nat) : Pm := one.R i
def ung (n i : Nat) : Pm := (Br.half n).R i
def rawStep (n : Nat) (x : Int × List Pm) (k : Int) : Int × List Pm :=
  if 0 < k then (x.1, x.2 ++ [gen (k.toNat - 1)]) else (x.1 - 1, x.2.map (Br.tau n) ++ [ung n ((-k).toNat - 1)])
def Letter (n : Nat) (k : Int) : Prop := k ≠ 0 ∧ -(n : Int) < k ∧ k < n
theorem gen_sup {i : Nat} (h : i + 1 < n) : Sup n (gen i) := (sup_one n).R h
theorem ung_sup {i : Nat} (h : i + 1 < n) : Sup n (ung n i) := (sup_half n).R h
theorem single {x : Pm} (h : Sup n x) : AllSup n [x] := AllSup.cons h AllSup.nil
theorem raw_sup {x : Int × List Pm} {k : Int} (hk : Letter n k) (h : AllSup n x.2) : AllSup n (rawStep n x k).2 := by
 obtain ⟨h0, h1, h2⟩ := hk
 unfold rawStep
 by_cases hp : 0 < k
 ·rw [if_pos hp]; exact h.app (single (gen_sup (by omega)))
 ·rw [if_neg hp]; exact h.tau.app (single (ung_sup (by omega)))
theorem raw_seq (hn : 2 ≤ n) {x y : Int × List Pm} {k : Int} (hk : Letter n k) (h : SEq n x y) : SEq n (rawStep n x k) (rawStep n y k) := by
 obtain ⟨h0, h1, h2⟩ := hk
 unfold rawStep
 by_cases hp : 0 < k
 ·rw [if_pos hp, if_pos hp]; exact h.right hn (single (gen_sup (by omega)))
 ·rw [if_neg hp, if_neg hp]
  exact (h.tau hn (-1)).right hn (single (ung_sup (by omega)))
def rawW (n : Nat) (x : Int × List Pm) (w : List Int) : Int × List Pm := w.foldl (rawStep n) x
def Word (n : Nat) (w : List Int) : Prop := ∀ k ∈ w, Letter n k
theorem rawW_sup {w : List Int} : ∀ {x : Int × List Pm}, Word n w → AllSup n x.2 → AllSup n (rawW n x w).2 := by
 induction w with
 | nil => exact fun _ h => h
 | cons k w ih => exact fun hw h => ih (fun j hj => hw j (by simp [hj])) (raw_sup (hw k (by simp)) h)
theorem rawW_seq (hn : 2 ≤ n) {w : List Int} : ∀ {x y : Int × List Pm}, Word n w → SEq n x y → SEq n (rawW n x w) (rawW n y w) := by
 induction w with
 | nil => exact fun _ h => h
 | cons k w ih => exact fun hw h => ih (fun j hj => hw j (by simp [hj])) (raw_seq hn (hw k (by simp)) h)
theorem rawW_app (x : Int × List Pm) (u v : List Int) : rawW n x (u ++ v) = rawW n (rawW n x u) v := by unfold rawW; rw [List.foldl_append]
theorem tail2 (hn : 2 ≤ n) (p : Int) {x y z : Pm} (hl : AllSup n l) (hx : Sup n x) (hy : Sup n y) (he : x.mul y = z) (hr : Red x y) : SEq n (p, l ++ [x, y]) (p, l ++ [z]) := by
 have h1 := (join2 [] hx hy hr).app l
 rw [he] at h1
 exact SEq.of p (Eqv.of h1 (hl.app (AllSup.cons hx (single hy))))
theorem pos_step (x : Int × List Pm) (i : Nat) : rawStep n x ((i : Int) + 1) = (x.1, x.2 ++ [gen i]) := by
 unfold rawStep
 rw [if_pos (by omega)]
 have : ((i : Int) + 1).toNat - 1 = i := by omega
 rw [this]
theorem red_gen {i : Nat} {y : Pm} (h : ¬ y.B i) : Red (gen i) y := by
 intro p q hpq hlt
 have hlt : sw i q < sw i p := hlt
 show y.f (sw i q) < y.f (sw i p)
 by_cases hc : p = i ∧ q = i + 1
 ·rw [hc.1, hc.2, sw_l, sw_r]
  unfold Pm.B at h
  have : y.f i ≠ y.f (i + 1) := fun e => by have := y.inj e; omega
  omega
 ·have := sw_lt (i := i) hpq hc; omega
theorem nB_gen {i j : Nat} (h : i ≠ j) : ¬ (gen j).B i := by
 unfold Pm.B gen Pm.R one sw
 simp only
 split <;> split <;> (try split) <;> (try split) <;> omega
theorem tail3 (hn : 2 ≤ n) (p : Int) {x y z : Pm} (hl : AllSup n l) (hx : Sup n x) (hy : Sup n y) (hz : Sup n z) (hr : Red y z) (hr2 : Red x (y.mul z)) : SEq n (p, l ++ [x, y, z]) (p, l ++ [x.mul (y.mul z)]) := by
 have h1 : SEq n (p, l ++ [x, y, z]) (p, l ++ [x, y.mul z]) := by
  have := tail2 hn p (hl.app (single hx)) hy hz rfl hr
  simpa using this
 exact h1.trans hn (tail2 hn p hl hx (hy.mul hz) rfl hr2)
/-- Near letters: i, i+1, i and i+1, i, i+1. -/
theorem near_pos (hn : 2 ≤ n) {x : Int × List Pm} {i : Nat} (hi : i + 2 < n) (h : AllSup n x.2) :
  SEq n (rawW n x [(i : Int) + 1, (i : Int) + 2, (i : Int) + 1]) (rawW n x [(i : Int) + 2, (i : Int) + 1, (i : Int) + 2]) := by
 have e2 : ((i : Int) + 2) = ((i + 1 : Nat) : Int) + 1 := by omega
 unfold rawW
 simp only [List.foldl_cons, List.foldl_nil]
 rw [e2]
 simp only [pos_step, List.append_assoc, List.singleton_append, List.cons_append, List.nil_append]
 have g1 := gen_sup (n := n) (i := i) (by omega)
 have g2 := gen_sup (n := n) (i := i + 1) (by omega)
 have b1 : ¬ (((gen (i + 1)).mul (gen i))).B i := by
  unfold Pm.B
  show ¬ sw i (sw (i + 1) (i + 1)) < sw i (sw (i + 1) i)
  rw [sw_l, sw_o (i := i + 1) (x := i) (by omega) (by omega), sw_l, sw_o (by omega) (by omega)]; omega
 have b2 : ¬ (((gen i).mul (gen (i + 1)))).B (i + 1) := by
  unfold Pm.B
  show ¬ sw (i + 1) (sw i (i + 1 + 1)) < sw (i + 1) (sw i (i + 1))
  rw [sw_o (i := i) (x := i + 1 + 1) (by omega) (by omega), sw_r, sw_r, sw_o (by omega) (by omega)]; omega
 have s1 := tail3 hn x.1 h g1 g2 g1 (red_gen (nB_gen (by omega))) (red_gen b1)
 have s2 := tail3 hn x.1 h g2 g1 g2 (red_gen (nB_gen (by omega))) (red_gen b2)
 have e : (gen i).mul ((gen (i + 1)).mul (gen i)) = (gen (i + 1)).mul ((gen i).mul (gen (i + 1))) := Pm.same fun z => sw_near i z
 rw [e] at s1
 exact s1.trans hn s2.symm
end
end Go.Proofs.Ytdldfdcedjmneaa.Br
namespace Go.Proofs.Ytdldfdcedjmneaa.Br
set_option linter.unusedVariables false
set_option linter.unusedSimpArgs false
theorem sumN_one {h h' : Nat → Nat} {y : Nat} (hy : h' y = h y + 1) : ∀ n, y < n → (∀ x, x ≠ y → h' x = h x) → sumN h' n = sumN h n + 1
 | 0, hi, _ => by omega
 | n + 1, hi, he => by
  rw [sumN, sumN]
  by_cases e : n = y
  ·subst e
   rw [sumN_congr n (fun x hx => he x (by omega))]
   omega
  ·rw [sumN_one hy n (by omega) he, he n e]; omega
theorem sumN_sw {h : Nat → Nat} {i : Nat} : ∀ n, i + 1 < n → sumN (fun x => h (sw i x)) n = sumN h n
 | 0, hi => by omega
 | n + 1, hi => by
  rw [sumN, sumN]
  by_cases e : n = i + 1
  ·subst e
   rw [sumN, sumN, sumN_congr (h := fun x => h (sw i x)) (h' := h) i (fun x hx => by rw [sw_o (by omega) (by omega)])]
   rw [sw_l, sw_r]; omega
  ·rw [sumN_sw n (by omega), sw_o (by omega) e]
def cro (t : Pm) (a b : Nat) : Nat := if a < b ∧ t.f b < t.f a then 1 else 0
def inv (n : Nat) (t : Pm) : Nat := sumN (fun a => sumN (cro t a) n) n
section
variable {n i : Nat} {s t : Pm}
theorem inv_R (hs : Sup n s) (hi : i + 1 < n) (he : ¬ s.E i) : inv n (s.R i) = inv n s + 1 := by
 have ha := hs.glt (x := i) (by omega)
 have hb := hs.glt hi
 have hne : s.g i ≠ s.g (i + 1) := fun e => by have := s.ginj e; omega
 have hab : s.g i < s.g (i + 1) := by unfold Pm.E at he; omega
 have hf1 := s.fg i
 have hf2 := s.fg (i + 1)
 have hother : ∀ a b, ¬ (a = s.g i ∧ b = s.g (i + 1)) → cro (s.R i) a b = cro s a b := by
  intro a b hno
  unfold cro
  show (if a < b ∧ sw i (s.f b) < sw i (s.f a) then 1 else 0) = if a < b ∧ s.f b < s.f a then 1 else 0
  by_cases hlt : a < b
  ·have hnf : s.f a ≠ s.f b := fun e => by have := s.inj e; omega
   have e1 : (sw i (s.f b) < sw i (s.f a)) ↔ (s.f b < s.f a) := by
    constructor
    ·intro h
     refine Classical.byContradiction fun hc => ?_
     have := sw_lt (i := i) (a := s.f a) (b := s.f b) (by omega) fun ⟨h1, h2⟩ => hno ⟨by rw [← h1, s.gf], by rw [← h2, s.gf]⟩
     omega
    ·intro h
     refine sw_lt h fun ⟨h1, h2⟩ => ?_
     have e3 : b = s.g i := by rw [← h1, s.gf]
     have e4 : a = s.g (i + 1) := by rw [← h2, s.gf]
     omega
   simp only [hlt, true_and, e1]
  ·simp only [hlt, false_and]
 unfold inv
 refine sumN_one (y := s.g i) ?_ n ha fun a hn => ?_
 ·refine sumN_one (y := s.g (i + 1)) ?_ n hb fun b hn => hother _ b fun h => hn h.2
  have e1 : cro (s.R i) (s.g i) (s.g (i + 1)) = 1 := by
   unfold cro
   rw [if_pos]
   refine ⟨hab, ?_⟩
   show sw i (s.f (s.g (i + 1))) < sw i (s.f (s.g i))
   rw [hf1, hf2, sw_l, sw_r]; omega
  have e2 : cro s (s.g i) (s.g (i + 1)) = 0 := by
   unfold cro
   rw [if_neg]
   rw [hf1, hf2]; omega
  rw [e1, e2]
 ·exact sumN_congr n fun b _ => hother a b fun h => hn h.1
/-- The inverse has as many crossings. -/
theorem inv_L (ht : Sup n t) (hi : i + 1 < n) (hb : t.B i) : inv n (t.L i) + 1 = inv n t := by
  -- t is (t.L i) with a crossing more ahead
  have key : ∀ u : Pm, Sup n u → ¬ u.B i → inv n (u.L i) = inv n u + 1 := by
    intro u hu hnb
    have hne : u.f i ≠ u.f (i + 1) := fun e => by have := u.inj e; omega
    have hlt : u.f i < u.f (i + 1) := by unfold Pm.B at hnb; omega
    -- the sum over all pairs, with the order asked of the exchanged ones
    have e1 : inv n (u.L i) = sumN (fun a => sumN (fun b => if sw i a < sw i b ∧ u.f b < u.f a then 1 else 0) n) n := by
      unfold inv
      rw [← sumN_sw (h := fun a => sumN (cro (u.L i) a) n) n hi]
      refine sumN_congr n fun a _ => ?_
      rw [← sumN_sw (h := cro (u.L i) (sw i a)) n hi]
      refine sumN_congr n fun b _ => ?_
      unfold cro
      show (if sw i a < sw i b ∧ u.f (sw i (sw i b)) < u.f (sw i (sw i a)) then 1 else 0) = _
      rw [sw_sw, sw_sw]
    rw [e1]
    unfold inv
    have hother : ∀ a b, ¬ (a = i + 1 ∧ b = i) → (if sw i a < sw i b ∧ u.f b < u.f a then 1 else 0) = cro u a b := by
      intro a b hno
      unfold cro
      by_cases h1 : a = i ∧ b = i + 1
      · rw [h1.1, h1.2, sw_l, sw_r, if_neg (by omega), if_neg (by omega)]
      · have e : (sw i a < sw i b) ↔ a < b := by
          constructor
          · intro h
            refine Classical.byContradiction fun hc => ?_
            rcases Nat.lt_or_ge b a with h2 | h2
            · have := sw_lt (i := i) h2 fun ⟨h3, h4⟩ => hno ⟨h4, h3⟩
              omega
            · have : a = b := by omega
              subst this; omega
          · intro h; exact sw_lt h h1
        simp only [e]
    refine sumN_one (y := i + 1) ?_ n hi fun a hn => sumN_congr n fun b _ => hother a b fun h => hn h.1
    refine sumN_one (y := i) ?_ n (by omega) fun b hn => hother _ b fun h => hn h.2
    have e2 : cro u (i + 1) i = 0 := by unfold cro; rw [if_neg (by omega)]
    rw [e2, sw_l, sw_r, if_pos ⟨by omega, hlt⟩]
  have h1 := key (t.L i) (ht.L hi) (fun h => (B_L.1 h) hb)
  rw [LL] at h1
  exact h1.symm
theorem sumN_zero {h : Nat → Nat} : ∀ n, (∀ x, x < n → h x = 0) → sumN h n = 0
  | 0, _ => rfl
  | n + 1, he => by rw [sumN, sumN_zero n (fun x hx => he x (by omega)), he n (by omega)]
theorem inv_one (n : Nat) : inv n one = 0 := sumN_zero n fun a _ => sumN_zero n fun b _ => by
 unfold cro
 rw [if_neg]
 intro h
 have h2 : b < a := h.2
 omega
theorem inv_tau (ht : Sup n t) : inv n (Br.tau n t) = inv n t := by
 have rev : ∀ (h : Nat → Nat) (m : Nat), sumN (fun x => h (m - 1 - x)) m = sumN h m := by
  intro h m
  have add : ∀ (h : Nat → Nat) (m : Nat), sumN h (m + 1) = h 0 + sumN (fun x => h (x + 1)) m := by
   intro h m
   induction m with
   | zero => simp [sumN]
   | succ m ih => rw [sumN, ih, sumN]; omega
  induction m generalizing h with
  | zero => rfl
  | succ m ih =>
   rw [sumN, add h m, ← ih (fun x => h (x + 1))]
   have e : sumN (fun x => h (m + 1 - 1 - x)) m = sumN (fun x => h (m - 1 - x + 1)) m := sumN_congr m fun x hx => by
    congr 1; omega
   rw [e, show m + 1 - 1 - m = 0 by omega]; omega
 have comm : ∀ (F : Nat → Nat → Nat) (p q : Nat), sumN (fun a => sumN (F a) q) p = sumN (fun b => sumN (fun a => F a b) p) q := by
  intro F p q
  have addf : ∀ (u v : Nat → Nat) (m : Nat), sumN (fun x => u x + v x) m = sumN u m + sumN v m := by
   intro u v m
   induction m with
   | zero => rfl
   | succ m ih => rw [sumN, sumN, sumN, ih]; omega
  induction p with
  | zero => rw [sumN]; exact (sumN_zero q fun _ _ => rfl).symm
  | succ p ih =>
   rw [sumN, ih]
   rw [show sumN (fun b => sumN (fun a => F a b) (p + 1)) q = sumN (fun b => sumN (fun a => F a b) p + F p b) q from rfl, addf]
 unfold inv
 rw [comm, ← rev (fun a => sumN (cro t a) n) n]
 refine sumN_congr n fun b hb => ?_
 rw [← rev (cro t (n - 1 - b)) n]
 refine sumN_congr n fun a ha => ?_
 unfold cro
 have e1 : (Br.tau n t).f b = n - 1 - t.f (n - 1 - b) := by
  show dl n (t.f (dl n b)) = _
  rw [dl_in hb, dl_in (ht.lt (by omega))]
 have e2 : (Br.tau n t).f a = n - 1 - t.f (n - 1 - a) := by
  show dl n (t.f (dl n a)) = _
  rw [dl_in ha, dl_in (ht.lt (by omega))]
 rw [e1, e2]
 have h1 := ht.lt (x := n - 1 - a) (by omega)
 have h2 := ht.lt (x := n - 1 - b) (by omega)
 have e3 : (a < b ∧ n - 1 - t.f (n - 1 - b) < n - 1 - t.f (n - 1 - a)) ↔ (n - 1 - b < n - 1 - a ∧ t.f (n - 1 - a) < t.f (n - 1 - b)) := by omega
 simp only [e3]
def tri : Nat → Nat
  | 0 => 0
  | n + 1 => tri n + n
theorem inv_half (n : Nat) : inv n (half n) = tri n := by
 have key : ∀ m, m ≤ n → sumN (fun a => sumN (cro (half n) a) n) m = sumN (fun a => n - 1 - a) m := by
  intro m hm
  refine sumN_congr m fun a ha => ?_
  have hrow : ∀ k, k ≤ n → sumN (cro (half n) a) k = k - 1 - a := by
   intro k hk
   induction k with
   | zero => rw [sumN]; omega
   | succ k ih =>
    rw [sumN, ih (by omega)]
    unfold cro
    have e1 : (half n).f k = n - 1 - k := dl_in (by omega)
    have e2 : (half n).f a = n - 1 - a := dl_in (by omega)
    rw [e1, e2]
    by_cases h : a < k
    ·rw [if_pos ⟨h, by omega⟩]; omega
    ·rw [if_neg (by omega)]; omega
  exact hrow n (Nat.le_refl _)
 unfold inv
 rw [key n (Nat.le_refl _)]
 have tr : ∀ k, k ≤ n → sumN (fun a => n - 1 - a) k + tri (n - k) = tri n := by
  intro k hk
  induction k with
  | zero => rw [sumN, Nat.zero_add, Nat.sub_zero]
  | succ k ih =>
   have := ih (by omega)
   rw [sumN]
   have e : n - k = (n - (k + 1)) + 1 := by omega
   rw [e, tri] at this
   omega
 have := tr n (Nat.le_refl _)
 rw [Nat.sub_self] at this
 simpa [tri] using this
end
/-- The crossings of a state. -/
def tot (n : Nat) : List Pm → Nat
  | [] => 0
  | x :: l => inv n x + tot n l
section
variable {n : Nat} {a b : List Pm}
theorem tot_app : ∀ (a b : List Pm), tot n (a ++ b) = tot n a + tot n b
  | [], b => by simp [tot]
  | x :: a, b => by rw [List.cons_append, tot, tot, tot_app a b]; omega
theorem St.tot (h : St n a b) (hs : AllSup n a) : tot n b = tot n a := by
 induction h with
 | mv s t l i h1 h2 h3 =>
  have e1 := inv_R (hs s (by simp)) h1 h3
  have e2 := inv_L (hs t (by simp)) h1 h2
  rw [Br.tot, Br.tot, Br.tot, Br.tot]; omega
 | del l => rw [Br.tot, inv_one]; omega
 | cons x l l' _ ih => rw [Br.tot, Br.tot, ih fun z hz => hs z (by simp [hz])]
theorem Star.tot (h : Star n a b) (hs : AllSup n a) : Br.tot n b = Br.tot n a := by
 induction h with
 | refl => rfl
 | step h _ ih => rw [ih (h.sup hs), h.tot hs]
theorem Eqv.tot (h : Eqv n a b) : Br.tot n a = Br.tot n b := by
  obtain ⟨ha, hb, c, h1, h2⟩ := h
  rw [← h1.tot ha, h2.tot hb]
theorem tot_rep (x : Pm) : ∀ k, Br.tot n (List.replicate k x) = k * inv n x
  | 0 => by simp [Br.tot]
  | k + 1 => by rw [List.replicate_succ, Br.tot, tot_rep x k, Nat.succ_mul]; omega
theorem tot_tau : ∀ {a : List Pm}, AllSup n a → Br.tot n (a.map (tau n)) = Br.tot n a
  | [], _ => rfl
  | x :: a, h => by rw [List.map_cons, Br.tot, Br.tot, inv_tau (h x (by simp)), tot_tau fun z hz => h z (by simp [hz])]
/-- What a state weighs: half twists, and crossings. -/
def wgt (n : Nat) (x : Int × List Pm) : Int := x.1 * (tri n : Int) + (Br.tot n x.2 : Int)
theorem Nf.wgt {p q : Int} {l m : List Pm} (h : Nf n p l q m) : Br.wgt n (q, m) = Br.wgt n (p, l) := by
 obtain ⟨k, h1, h2⟩ := h.ex
 have h3 := h1.tot
 rw [tot_app, tot_rep, inv_half] at h3
 unfold Br.wgt
 simp only
 rw [h2, h3, Int.add_mul]
 push_cast
 omega
def sgn (k : Int) : Int := if 0 < k then 1 else -1
theorem inv_gen {i : Nat} (hi : i + 1 < n) : inv n (gen i) = 1 := by
  unfold gen
  rw [inv_R (sup_one n) hi (nE_one i), inv_one]
theorem inv_ung {i : Nat} (hi : i + 1 < n) : inv n (ung n i) + 1 = tri n := by
 have h1 := inv_R (ung_sup hi) hi (fun h => (E_R.1 h) (E_half hi))
 have e : (ung n i).R i = half n := RR _ _
 rw [e, inv_half] at h1
 exact h1.symm
theorem raw_wgt {x : Int × List Pm} {k : Int} (hk : Letter n k) (hs : AllSup n x.2) : wgt n (rawStep n x k) = wgt n x + sgn k := by
 obtain ⟨h0, h1, h2⟩ := hk
 unfold rawStep wgt sgn
 by_cases hp : 0 < k
 ·rw [if_pos hp, if_pos hp]
  simp only [tot_app, Br.tot, inv_gen (n := n) (i := k.toNat - 1) (by omega)]
  push_cast; omega
 ·rw [if_neg hp, if_neg hp]
  have := inv_ung (n := n) (i := (-k).toNat - 1) (by omega)
  simp only [tot_app, Br.tot, tot_tau hs, Int.sub_mul]
  push_cast; omega
theorem rawW_wgt {w : List Int} : ∀ {x : Int × List Pm}, Word n w → AllSup n x.2 → wgt n (rawW n x w) = wgt n x + (w.map sgn).sum := by
 induction w with
 | nil => intro x _ _; simp [rawW]
 | cons k w ih =>
  intro x hw hs
  show wgt n (rawW n (rawStep n x k) w) = _
  rw [ih (fun j hj => hw j (by simp [hj])) (raw_sup (hw k (by simp)) hs), raw_wgt (hw k (by simp)) hs, List.map_cons, List.sum_cons]
  omega
end
end Go.Proofs.Ytdldfdcedjmneaa.Br
