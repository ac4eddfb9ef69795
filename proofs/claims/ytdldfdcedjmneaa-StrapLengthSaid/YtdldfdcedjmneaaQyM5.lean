/- The declarations of M5 that the claim Qy needs. -/
import Derived.Test.YtdldfdcedjmneaaQyLxx12
import Derived.Test.YtdldfdcedjmneaaQyM4
namespace Go.Proofs.Ytdldfdcedjmneaa.Pure
open Go.RowKit Go.Proofs.YtdldfdcedjmneaaW.PrintWords Go.Proofs.YtdldfdcedjmneaaW.PrintLast Go.Proofs.YtdldfdcedjmneaaW.PrintMore Go.Proofs.Ytdldfdcedjmneaa.Lx Go.Proofs.Ytdldfdcedjmneaa.Br
open Go.Proofs.Ytdldfdcedjmneaa.Own (lst lst_len lst_getD lst_rd lst_inj lst_of getD_set' wrap_s rd_nat checkF checkF_zero badL normF normL normF_nf normF_eq strap_Normal.f)
set_option linter.unusedVariables false
set_option linter.unusedSimpArgs false
section
variable {n : Nat} {t : Pm}
theorem sumN_le {h : Nat → Nat} {b : Nat} : ∀ m, (∀ x, x < m → h x ≤ b) → sumN h m ≤ m * b
 | 0, _ => by simp [sumN]
 | m + 1, hb => by
  have h1 := sumN_le m (fun x hx => hb x (by omega))
  have h2 := hb m (by omega)
  rw [sumN, Nat.succ_mul]; omega
theorem cro_le (a b : Nat) : cro t a b ≤ 1 := by unfold cro; by_cases h : a < b ∧ t.f b < t.f a <;> simp [h]
theorem row_le (a m : Nat) : sumN (cro t a) m ≤ m := by have := sumN_le (h := cro t a) (b := 1) m (fun x _ => cro_le a x); omega
theorem rows_le (a : Nat) (ha : a ≤ n) : sumN (fun a => sumN (cro t a) n) a ≤ a * n := sumN_le a (fun x _ => row_le x n)
theorem row_zero (a : Nat) : ∀ m, m ≤ a + 1 → sumN (cro t a) m = 0 := fun m hm => sumN_zero m fun x hx => by unfold cro; rw [if_neg (by omega)]
theorem cross_l0 (hn : n ≤ 8) : ∀ (d i : Nat), i + d = n → Ev (fun k => gampref05_Crossings.l0 k (lst n t) ((sumN (fun a => sumN (cro t a) n) i : Nat) : Int) (i : Int)) ((inv n t : Nat) : Int) := by
 intro d
 induction d with
 | zero =>
  intro i hi
  obtain rfl : i = n := by omega
  refine Ev.step (f := fun _ => some ((inv i t : Nat) : Int)) (fun k => ?_) (Ev.now _)
  simp only [gampref05_Crossings.l0]
  rw [lst_len, if_neg (by omega)]; rfl
 | succ d ih =>
  intro i hi
  have hin : i < n := by omega
  have hb1 := rows_le (t := t) i (by omega : i ≤ n)
  have hb1' : i * n ≤ 8 * 8 := Nat.mul_le_mul (by omega) hn
  have inner : ∀ e j, j + e = n → i + 1 ≤ j → Ev (fun k => gampref05_Crossings.l1 k (lst n t) ((sumN (fun a => sumN (cro t a) n) i + sumN (cro t i) j : Nat) : Int) (i : Int) (j : Int)) ((inv n t : Nat) : Int) := by
   intro e
   induction e with
   | zero =>
    intro j hj hij
    obtain rfl : j = n := by omega
    refine Ev.step (fun k => ?_) (ih (i + 1) (by omega))
    simp only [gampref05_Crossings.l1]
    rw [lst_len, if_neg (by omega), wrap_s (by omega), sumN]
   | succ e ihe =>
    intro j hj hij
    have hjn : j < n := by omega
    have hb2 := row_le (t := t) i j
    refine Ev.step (fun k => ?_) (ihe (j + 1) (by omega) (by omega))
    simp only [gampref05_Crossings.l1]
    rw [lst_len, if_pos (by omega), if_pos (by omega), if_pos (by omega), if_pos (by omega), lst_rd hin, lst_rd hjn, wrap_s (i := j) (by omega), sumN]
    by_cases h : (t.f i : Int) > (t.f j : Int)
    ·have e1 : cro t i j = 1 := by unfold cro; rw [if_pos ⟨by omega, by omega⟩]
     rw [if_pos h, e1, wrap_s (by omega)]
     rfl
    ·have e1 : cro t i j = 0 := by unfold cro; rw [if_neg (by omega)]
     rw [if_neg h, e1]
     rfl
  have h3 := inner (n - (i + 1)) (i + 1) (by omega) (by omega)
  rw [row_zero (t := t) i (i + 1) (by omega), Nat.add_zero] at h3
  refine Ev.step (fun k => ?_) h3
  simp only [gampref05_Crossings.l0]
  rw [lst_len, if_pos (by omega), wrap_s (by omega)]
theorem cross_ev (hn : n ≤ 8) : Ev (fun k => gampref05_Crossings.f k (lst n t)) ((inv n t : Nat) : Int) := cross_l0 hn n 0 (by omega)
def invL (xs : List Int) : List Int := (xs.map fun k => -k).reverse
theorem word_inv {xs : List Int} (h : Word n xs) : Word n (invL xs) := fun k hk => by
 unfold invL at hk
 rw [List.mem_reverse, List.mem_map] at hk
 obtain ⟨j, hj, rfl⟩ := hk
 obtain ⟨h1, h2, h3⟩ := h j hj
 exact ⟨by omega, by omega, by omega⟩
theorem inverse_l0 (hn : n ≤ 1000) {xs : List Int} (hw : Word n xs) (hm : xs.length ≤ 100000) : ∀ (d i : Nat), i + d = xs.length → Ev (fun k => gampref05_Inverse.l0 k xs (invL (xs.drop d)) ((d : Int) - 1)) (invL xs) := by
 intro d
 induction d with
 | zero =>
  intro i hi
  refine Ev.step (f := fun _ => some (invL xs)) (fun k => ?_) (Ev.now _)
  simp only [gampref05_Inverse.l0]
  rw [if_neg (by omega), List.drop_zero]
 | succ d ih =>
  intro i hi
  have hd : d < xs.length := by omega
  have e1 : rd xs (((d + 1 : Nat) : Int) - 1) = xs[d] := by rw [show ((d + 1 : Nat) : Int) - 1 = (d : Int) by omega, rd_nat, List.getD_eq_getElem?_getD, List.getElem?_eq_getElem hd]; rfl
  obtain ⟨h1, h2, h3⟩ := hw xs[d] (List.getElem_mem hd)
  have e2 : wrap64 (-xs[d]) = -xs[d] := by unfold wrap64; omega
  have e3 : wrap64 (((d + 1 : Nat) : Int) - 1 - 1) = (d : Int) - 1 := by unfold wrap64; omega
  have e4 : invL (xs.drop (d + 1)) ++ [-xs[d]] = invL (xs.drop d) := by
   unfold invL
   rw [List.drop_eq_getElem_cons hd, List.map_cons, List.reverse_cons]
  have hlen : (invL (xs.drop (d + 1))).length ≤ 100000 := by unfold invL; rw [List.length_reverse, List.length_map, List.length_drop]; omega
  refine Ev.step (fun k => ?_) (ih (i + 1) (by omega))
  simp only [gampref05_Inverse.l0]
  rw [if_pos (by omega), if_pos (by omega), if_pos (by omega), if_pos (by omega), e1, e2, e3, e4]
theorem inverse_ev (hn : n ≤ 1000) {xs : List Int} (hw : Word n xs) (hm : xs.length ≤ 100000) : Ev (fun k => gampref05_Inverse.f k xs) (invL xs) := by
 unfold gampref05_Inverse.f
 have h := inverse_l0 hn hw hm xs.length 0 (by omega)
 rw [List.drop_of_length_le (Nat.le_refl _)] at h
 have e : wrap64 ((xs.length : Int) - 1) = (xs.length : Int) - 1 := by unfold wrap64; omega
 rw [e]
 exact h
theorem joined_ev (l : List Int) (l2 : List Int) (h1 : l.length ≤ 1000) (h2 : l2.length ≤ 1000) : Ev (fun k => gamplaw05_joined.f k [l, l2]) (l ++ l2) := by
 refine Ev.of (fun k => gamplaw05_joined.mono _ k) (k := 5) ?_
 unfold gamplaw05_joined.f
 have r0 : rd_L1 [l, l2] 0 = l := rfl
 have r1 : rd_L1 [l, l2] 1 = l2 := rfl
 have w0 : wrap64 (0 + 1) = 1 := by unfold wrap64; omega
 have w1 : wrap64 (1 + 1) = 2 := by unfold wrap64; omega
 simp only [gamplaw05_joined.l0]
 rw [show (([l, l2] : List (List Int)).length : Int) = 2 from rfl, if_pos (by omega), if_pos (by omega), r0, if_pos (by simp only [List.length_nil]; omega), w0, if_pos (by omega), if_pos (by omega), r1, if_pos (by rw [List.length_append]; simp only [List.length_nil]; omega), w1, if_neg (by omega)]
 rfl
theorem rawW_inv (hn : 2 ≤ n) : ∀ {xs : List Int} {x : Int × List Pm}, Word n xs → AllSup n x.2 → SEq n (rawW n x (xs ++ invL xs)) x
 | [], x, hw, hs => SEq.refl hs
 | k :: xs, x, hw, hs => by
  have hk := hw k (by simp)
  have hxs : Word n xs := fun j hj => hw j (by simp [hj])
  have e1 : invL (k :: xs) = invL xs ++ [-k] := by unfold invL; rw [List.map_cons, List.reverse_cons]
  have e2 : rawW n x (k :: xs ++ invL (k :: xs)) = rawStep n (rawW n (rawStep n x k) (xs ++ invL xs)) (-k) := by
   rw [e1, List.cons_append, ← List.append_assoc]
   show rawW n (rawStep n x k) (xs ++ invL xs ++ [-k]) = _
   rw [rawW_app]; rfl
  rw [e2]
  have hk2 : Letter n (-k) := ⟨by have := hk.1; omega, by have := hk.2.2; omega, by have := hk.2.1; omega⟩
  exact (raw_seq hn hk2 (rawW_inv hn (xs := xs) hxs (raw_sup hk hs))).trans hn (cancel hn hk hs)
theorem checkF_word {m : Nat} (h1 : 2 ≤ m) (h2 : m ≤ 8) {xs : List Int} (hw : Word m xs) (hl : xs.length ≤ 60) : checkF (m : Int) xs = 0 := by
 unfold checkF
 rw [if_neg (by omega)]
 have : xs.any (badL (m : Int)) = false := by
  rw [List.any_eq_false]
  intro k hk
  obtain ⟨h3, h4, h5⟩ := hw k hk
  unfold badL
  rw [decide_eq_false (by omega)]
  exact Bool.false_ne_true
 rw [this, if_neg (by decide), if_neg (by omega)]
theorem normal_word {m : Nat} (h1 : 2 ≤ m) (h2 : m ≤ 8) {xs : List Int} (hw : Word m xs) (hl : xs.length ≤ 60) : strap_Normal.f (m : Int) xs = some ((normF m xs).1, (normF m xs).2.map (lst m), 0) := by
 unfold strap_Normal.f
 rw [checkF_word h1 h2 hw hl, if_neg (by decide), Int.toNat_natCast]
 rfl
/-- The power goes down by one a letter at most. -/
theorem rawW_low {w : List Int} : ∀ {x : Int × List Pm}, x.1 - w.length ≤ (rawW n x w).1 ∧ (rawW n x w).1 ≤ x.1 := by
 induction w with
 | nil => intro x; exact ⟨by simp [rawW], by simp [rawW]⟩
 | cons k w ih =>
  intro x
  have h := ih (x := rawStep n x k)
  have e : x.1 - 1 ≤ (rawStep n x k).1 ∧ (rawStep n x k).1 ≤ x.1 := by
   unfold rawStep
   by_cases hp : 0 < k
   ·rw [if_pos hp]; simp only; omega
   ·rw [if_neg hp]; simp only; omega
  show _ ≤ (rawW n (rawStep n x k) w).1 ∧ (rawW n (rawStep n x k) w).1 ≤ _
  rw [List.length_cons]
  omega
theorem sgn_le : ∀ (w : List Int), -(w.length : Int) ≤ (w.map sgn).sum ∧ (w.map sgn).sum ≤ w.length
 | [] => by simp
 | k :: w => by
  have := sgn_le w
  rw [List.map_cons, List.sum_cons, List.length_cons]
  by_cases h : 0 < k
  ·have e : sgn k = 1 := by unfold sgn; rw [if_pos h]
   rw [e]; omega
  ·have e : sgn k = -1 := by unfold sgn; rw [if_neg h]
   rw [e]; omega
theorem tri_pos (h1 : 2 ≤ n) (h2 : n ≤ 8) : 1 ≤ tri n ∧ tri n ≤ 28 := by
  have : n = 2 ∨ n = 3 ∨ n = 4 ∨ n = 5 ∨ n = 6 ∨ n = 7 ∨ n = 8 := by omega
  rcases this with rfl | rfl | rfl | rfl | rfl | rfl | rfl <;> decide
theorem len_l1 {xs : List Int} (n0 : Int) {r : Bool} (hm : xs.length ≤ 1000) {G : Nat → Option Bool}
  (hG : ∀ k, G k = ((gampref05_Inverse.f k xs).bind fun t386 => ((gamplaw05_joined.f k (([xs, t386] : List (List Int)))).bind fun t392 => ((strap_Normal.f n0 t392).bind fun bt395 => (if (0 : Int) = 0 then (if bt395.2.2 = 0 then ((gamplaw05_empty.f bt395.1 bt395.2.1).bind fun t401 => (some t401)) else (some false)) else (some false)))))) (hE : Ev G r) :
  ∀ (d i : Nat) (s : Int), i + d = xs.length → -5000 ≤ s → s ≤ 5000 → s = ((xs.drop i).map sgn).sum → Ev (fun k => gamplaw05_StrapLength.l1 k n0 xs s (i : Int)) r := by
 intro d
 induction d with
 | zero =>
  intro i s hi h1 h2 hs
  rw [List.drop_of_length_le (by omega)] at hs
  have hs0 : s = 0 := by rw [hs]; rfl
  subst hs0
  refine Ev.step (fun k => ?_) hE
  simp only [gamplaw05_StrapLength.l1]
  rw [if_neg (by omega), hG k]
  simp only [eq_self_iff_true, if_true]
 | succ d ih =>
  intro i s hi h1 h2 hs
  have hiL : i < xs.length := by omega
  have e1 : rd xs (i : Int) = xs[i] := by rw [rd_nat, List.getD_eq_getElem?_getD, List.getElem?_eq_getElem hiL]; rfl
  rw [List.drop_eq_getElem_cons hiL, List.map_cons, List.sum_cons] at hs
  have hb := sgn_le (xs.drop (i + 1))
  rw [List.length_drop] at hb
  by_cases hp : xs[i] > 0
  ·have e2 : sgn xs[i] = 1 := by unfold sgn; rw [if_pos hp]
   refine Ev.step (fun k => ?_) (ih (i + 1) (s - 1) (by omega) (by omega) (by omega) (by omega))
   have e3 : wrap64 (s - 1) = s - 1 := by unfold wrap64; omega
   simp only [gamplaw05_StrapLength.l1]
   rw [if_pos (by omega), if_pos (by omega), e1, if_pos hp, e3, wrap_s (by omega)]
  ·have e2 : sgn xs[i] = -1 := by unfold sgn; rw [if_neg hp]
   refine Ev.step (fun k => ?_) (ih (i + 1) (s + 1) (by omega) (by omega) (by omega) (by omega))
   have e3 : wrap64 (s + 1) = s + 1 := by unfold wrap64; omega
   simp only [gamplaw05_StrapLength.l1]
   rw [if_pos (by omega), if_pos (by omega), e1, if_neg hp, e3, wrap_s (by omega)]
theorem len_l0 {xs : List Int} (hn : n ≤ 8) {r : Bool} {L : List Pm} {p s : Int} (hm : L.length ≤ 100000) (hs0 : -5000 ≤ s) (hs1 : s ≤ 1000) (hl1 : Ev (fun k => gamplaw05_StrapLength.l1 k (n : Int) xs s 0) r) :
  ∀ (d i : Nat) (c : Int), i + d = L.length → -5000 ≤ c → c + (tot n (L.drop i) : Int) = s → Ev (fun k => gamplaw05_StrapLength.l0 k (n : Int) xs c (i : Int) p (L.map (lst n))) r := by
 intro d
 induction d with
 | zero =>
  intro i c hi hc0 hc
  rw [List.drop_of_length_le (by omega)] at hc
  have hcs : c = s := by rw [← hc]; simp [tot]
  subst hcs
  refine Ev.step (fun k => ?_) hl1
  simp only [gamplaw05_StrapLength.l0]
  rw [List.length_map, if_neg (by omega)]
 | succ d ih =>
  intro i c hi hc0 hc
  have hiL : i < L.length := by omega
  rw [List.drop_eq_getElem_cons hiL, tot] at hc
  have e3 : wrap64 (c + ((inv n L[i] : Nat) : Int)) = c + ((inv n L[i] : Nat) : Int) := by unfold wrap64; omega
  refine Ev.step (f := fun k => (gampref05_Crossings.f k (lst n L[i])).bind fun t384 => gamplaw05_StrapLength.l0 k (n : Int) xs (wrap64 (c + t384)) ((i + 1 : Nat) : Int) p (L.map (lst n))) (fun k => ?_) (Ev.bind (f := fun k t384 => gamplaw05_StrapLength.l0 k (n : Int) xs (wrap64 (c + t384)) ((i + 1 : Nat) : Int) p (L.map (lst n))) (cross_ev hn) ?_)
  ·simp only [gamplaw05_StrapLength.l0]
   rw [List.length_map, if_pos (by omega), if_pos (by omega), rd_map hiL, wrap_s (by omega)]
  ·rw [e3]
   exact ih (i + 1) _ (by omega) (by omega) (by omega)
theorem pow_eq {p : Int} (h1 : 2 ≤ n) (h2 : n ≤ 8) (hp1 : -1000 ≤ p) (hp2 : p ≤ 1000) : wrap64 (Int.tdiv (wrap64 ((wrap64 (p * (n : Int))) * (wrap64 ((n : Int) - 1)))) 2) = p * (tri n : Int) := by
 have : n = 2 ∨ n = 3 ∨ n = 4 ∨ n = 5 ∨ n = 6 ∨ n = 7 ∨ n = 8 := by omega
 have key : ∀ (a b c : Int), (a = 2 ∧ b = 1 ∧ c = 1) ∨ (a = 3 ∧ b = 2 ∧ c = 3) ∨ (a = 4 ∧ b = 3 ∧ c = 6) ∨ (a = 5 ∧ b = 4 ∧ c = 10) ∨ (a = 6 ∧ b = 5 ∧ c = 15) ∨ (a = 7 ∧ b = 6 ∧ c = 21) ∨ (a = 8 ∧ b = 7 ∧ c = 28) → wrap64 (Int.tdiv (wrap64 ((wrap64 (p * a)) * b)) 2) = p * c := by
  intro a b c h
  have e1 : wrap64 ((wrap64 (p * a)) * b) = p * c * 2 := by
   rcases h with ⟨rfl, rfl, rfl⟩ | ⟨rfl, rfl, rfl⟩ | ⟨rfl, rfl, rfl⟩ | ⟨rfl, rfl, rfl⟩ | ⟨rfl, rfl, rfl⟩ | ⟨rfl, rfl, rfl⟩ | ⟨rfl, rfl, rfl⟩ <;> unfold wrap64 <;> omega
  rw [e1, Int.mul_tdiv_cancel _ (by decide)]
  rcases h with ⟨rfl, rfl, rfl⟩ | ⟨rfl, rfl, rfl⟩ | ⟨rfl, rfl, rfl⟩ | ⟨rfl, rfl, rfl⟩ | ⟨rfl, rfl, rfl⟩ | ⟨rfl, rfl, rfl⟩ | ⟨rfl, rfl, rfl⟩ <;> unfold wrap64 <;> omega
 have e2 : wrap64 ((n : Int) - 1) = (n : Int) - 1 := by unfold wrap64; omega
 rw [e2]
 refine key _ _ _ ?_
 rcases this with rfl | rfl | rfl | rfl | rfl | rfl | rfl
 ·exact .inl ⟨by decide, by decide, by decide⟩
 ·exact .inr (.inl ⟨by decide, by decide, by decide⟩)
 ·exact .inr (.inr (.inl ⟨by decide, by decide, by decide⟩))
 ·exact .inr (.inr (.inr (.inl ⟨by decide, by decide, by decide⟩)))
 ·exact .inr (.inr (.inr (.inr (.inl ⟨by decide, by decide, by decide⟩))))
 ·exact .inr (.inr (.inr (.inr (.inr (.inl ⟨by decide, by decide, by decide⟩)))))
 ·exact .inr (.inr (.inr (.inr (.inr (.inr ⟨by decide, by decide, by decide⟩)))))
end
theorem StrapLength : gamplaw05_StrapLength.Pure := fun a0 l1 h0 h1 h2 h3 => by
  refine Ev.rounds ?_
  obtain ⟨ha, hb⟩ := u8_of h0
  obtain ⟨n, hs, hn1, hn2⟩ := strands_eq ha hb (c := 8) (.inl rfl)
  have hn3 : n ≤ 8 := by omega
  obtain ⟨xs, hw, hl, hev⟩ := word_ev hn1 hn3 (l := l1) (L := 30) (by omega) h3
  unfold gamplaw05_StrapLength.f
  rw [hs]
  simp only [Option.bind_some]
  refine Ev.bind hev ?_
  rw [normal_word hn1 hn3 hw (by omega)]
  simp only [Option.bind_some, if_true]
  have hnf := normF_nf (n := n) hw
  have hsup := hnf.sup.2
  have hrgt := hnf.irr.rgt
  generalize hP : (normF n xs).1 = p at hnf hsup hrgt
  generalize hL : (normF n xs).2 = L at hnf hsup hrgt
  have hwgt : p * (tri n : Int) + (tot n L : Int) = (xs.map sgn).sum := by
    have h4 := hnf.wgt
    have h5 := rawW_wgt (n := n) (w := xs) (x := (0, [])) hw AllSup.nil
    have h6 : wgt n (p, L) = p * (tri n : Int) + (tot n L : Int) := rfl
    have h7 : wgt n ((rawW n (0, []) xs).1, (rawW n (0, []) xs).2) = wgt n (rawW n (0, []) xs) := rfl
    have h8 : wgt n (0, []) = 0 := by unfold wgt; simp [tot]
    rw [← h6, h4, h7, h5, h8]; omega
  have hlow := (rawW_low (n := n) (w := xs) (x := (0, []))).1
  obtain ⟨a, _, hpa⟩ := hnf.ex
  have hsg := sgn_le xs
  obtain ⟨ht1, ht2⟩ := tri_pos hn1 hn3
  have hp1 : -30 ≤ p := by simp only at hlow; omega
  have hp2 : p ≤ 30 := by
    refine Classical.byContradiction fun hc => ?_
    have : p * 1 ≤ p * (tri n : Int) := Int.mul_le_mul_of_nonneg_left (by omega) (by omega)
    omega
  have hpt1 : -(30 * 28) ≤ p * (tri n : Int) := by
    by_cases hp0 : 0 ≤ p
    · have := Int.mul_nonneg hp0 (show (0 : Int) ≤ (tri n : Int) by omega); omega
    · have h9 : (-p) * (tri n : Int) ≤ 30 * 28 := by
        have h10 : (-p) * (tri n : Int) ≤ (-p) * 28 := Int.mul_le_mul_of_nonneg_left (by omega) (by omega)
        omega
      rw [Int.neg_mul] at h9; omega
  have hlen : L.length ≤ tot n L := by
    have : ∀ (M : List Pm), Rgt n M → AllSup n M → M.length ≤ tot n M := by
      intro M
      induction M with
      | nil => intro _ _; simp [tot]
      | cons x M ih =>
        intro hr hsx
        have h11 := ih hr.2.2 (fun t ht => hsx t (by simp [ht]))
        rw [tot, List.length_cons]
        have h12 : 1 ≤ inv n x := by
          refine Classical.byContradiction fun hc => ?_
          exact hr.1 (eq_one (hsx x (by simp)) fun i hi hbx => by have := inv_L (hsx x (by simp)) hi hbx; omega)
        omega
    exact this L hrgt hsup
  refine Ev.bind (is_ev p hrgt hsup hnf.hd (by omega) (by omega)) ?_
  simp only [if_true]
  refine Ev.bind lives_ev ?_
  simp only [Bool.not_true]
  refine Ev.step (f := fun k => gamplaw05_StrapLength.l0 k (n : Int) xs (p * (tri n : Int)) 0 p (L.map (lst n))) (fun k => ?_) ?_
  · simp only [gamplaw05_StrapLength.j0]
    rw [pow_eq hn1 hn3 (by omega) (by omega)]
    simp only [Bool.false_eq_true, if_false]
  · refine len_l0 (n := n) hn3 (L := L) (p := p) (s := (xs.map sgn).sum) (by omega) (by omega) (by omega) ?_ L.length 0 (p * (tri n : Int)) (by omega) (by omega) (by rw [List.drop_zero]; exact hwgt)
    refine len_l1 (n : Int) (r := true) (by omega) (G := _) (fun k => rfl) ?_ xs.length 0 _ (by omega) (by omega) (by omega) (by rw [List.drop_zero])
    refine Ev.bind (inverse_ev (by omega) hw (by omega)) ?_
    have hwi := word_inv hw
    have hil : (invL xs).length = xs.length := by unfold invL; rw [List.length_reverse, List.length_map]
    refine Ev.bind (joined_ev xs (invL xs) (by omega) (by omega)) ?_
    have hwj : Word n (xs ++ invL xs) := fun k hk => by
      rcases List.mem_append.1 hk with hk | hk
      · exact hw k hk
      · exact hwi k hk
    obtain ⟨q, m, k1, k2⟩ := rawW_inv hn1 (xs := xs) (x := (0, [])) hw AllSup.nil
    have k3 : Nf n 0 [] 0 [] := Nf.self AllSup.nil (Rgt.irr trivial) (by simp) 0
    obtain ⟨rfl, rfl⟩ := Nf.uniq hn1 k2 k3
    have k4 := normF_eq hn1 hwj k1
    rw [normal_word hn1 hn3 hwj (by rw [List.length_append]; omega), k4]
    simp only [Option.bind_some, if_true, List.map_nil]
    exact Ev.now _
end Go.Proofs.Ytdldfdcedjmneaa.Pure
