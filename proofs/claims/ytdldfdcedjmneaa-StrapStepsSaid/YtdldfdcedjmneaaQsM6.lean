/- The declarations of M6 that the claim Qs needs. -/
import Derived.Test.YtdldfdcedjmneaaQsLxx17
import Derived.Test.YtdldfdcedjmneaaQsLxx29
import Derived.Test.YtdldfdcedjmneaaQsLxx28
import Derived.Test.YtdldfdcedjmneaaQsM4
namespace Go.Proofs.Ytdldfdcedjmneaa.Pure
open Go.RowKit Go.Proofs.YtdldfdcedjmneaaW.PrintWords Go.Proofs.YtdldfdcedjmneaaW.PrintLast Go.Proofs.YtdldfdcedjmneaaW.PrintMore Go.Proofs.Ytdldfdcedjmneaa.Lx Go.Proofs.Ytdldfdcedjmneaa.Br
open Go.Proofs.Ytdldfdcedjmneaa.Own (lst lst_len lst_getD lst_rd lst_inj lst_of getD_set' wrap_s rd_nat checkF checkF_zero badL normF normL normF_nf normF_eq strap_Normal.f strap_Equal.f)
set_option linter.unusedVariables false
set_option linter.unusedSimpArgs false
section
variable {n : Nat} {t : Pm}
theorem checkF_word' {m : Nat} (h1 : 2 ≤ m) (h2 : m ≤ 8) {xs : List Int} (hw : Word m xs) (hl : xs.length ≤ 60) : checkF (m : Int) xs = 0 := by
 unfold checkF
 rw [if_neg (by omega)]
 have : xs.any (badL (m : Int)) = false := by
  rw [List.any_eq_false]
  intro k hk
  obtain ⟨h3, h4, h5⟩ := hw k hk
  unfold badL
  rw [decide_eq_false (by omega)]
  exact Bool.false_ne_true
 rw [this, if_neg (by decide), if_neg (by omega)]
theorem normal_word' {m : Nat} (h1 : 2 ≤ m) (h2 : m ≤ 8) {xs : List Int} (hw : Word m xs) (hl : xs.length ≤ 60) : strap_Normal.f (m : Int) xs = some ((normF m xs).1, (normF m xs).2.map (lst m), 0) := by
 unfold strap_Normal.f
 rw [checkF_word' h1 h2 hw hl, if_neg (by decide), Int.toNat_natCast]
 rfl
theorem swap_lst (ht : Sup n t) {i : Nat} (hi : i + 1 < n) : ((lst n t).set i (t.f (i + 1) : Int)).set (i + 1) (t.f i : Int) = lst n (t.L i) := by
 refine lst_of (by rw [List.length_set, List.length_set, lst_len]) fun x hx => ?_
 show _ = ((t.f (sw i x) : Nat) : Int)
 rw [getD_set', getD_set', List.length_set, lst_len]
 by_cases h1 : i + 1 = x
 ·rw [if_pos ⟨h1, hx⟩, ← h1, sw_r]
 ·rw [if_neg (fun h => h1 h.1)]
  by_cases h2 : i = x
  ·rw [if_pos ⟨h2, hx⟩, ← h2, sw_l]
  ·rw [if_neg (fun h => h2 h.1), lst_getD hx, sw_o (fun h => h2 h.symm) (fun h => h1 h.symm)]
theorem simple_in (ht : Sup n t) (hn : n ≤ 1000) (acc : List Int) (ha : acc.length ≤ 100000) : ∀ (d j : Nat), j + 1 + d = n → (∀ i, i < j → ¬ t.B i) →
  ((∀ i, i + 1 < n → ¬ t.B i) ∧ Ev (fun k => gampref05_Simple.l1 k acc (lst n t) (j : Int)) acc) ∨
  ∃ i, i + 1 < n ∧ t.B i ∧ ∀ r, Ev (fun k => gampref05_Simple.l0 k (acc ++ [((i : Int) + 1)]) (lst n (t.L i))) r → Ev (fun k => gampref05_Simple.l1 k acc (lst n t) (j : Int)) r := by
 intro d
 induction d with
 | zero =>
  intro j hj hno
  refine .inl ⟨fun i hi => hno i (by omega), Ev.step (f := fun _ => some acc) (fun k => ?_) (Ev.now _)⟩
  simp only [gampref05_Simple.l1]
  rw [lst_len, wrap_s (by omega), if_neg (by omega), if_pos (by omega)]
 | succ d ih =>
  intro j hj hno
  have hj1 : j + 1 < n := by omega
  by_cases hb : t.B j
  ·refine .inr ⟨j, hj1, hb, fun r hr => Ev.step (fun k => ?_) hr⟩
   have hb2 : t.f (j + 1) < t.f j := hb
   simp only [gampref05_Simple.l1]
   rw [lst_len, wrap_s (by omega), if_pos (by omega), if_pos (by omega), if_pos (by omega), if_pos (by omega), lst_rd (by omega), lst_rd hj1, if_neg (by omega), if_neg (by omega), if_pos (by omega), Int.toNat_natCast, Int.toNat_natCast, swap_lst ht hj1]
   rfl
  ·have hne : t.f j ≠ t.f (j + 1) := fun h => by have := t.inj h; omega
   have hlt : t.f j < t.f (j + 1) := by unfold Pm.B at hb; omega
   have step : ∀ r, Ev (fun k => gampref05_Simple.l1 k acc (lst n t) ((j + 1 : Nat) : Int)) r → Ev (fun k => gampref05_Simple.l1 k acc (lst n t) (j : Int)) r := fun r hr => by
    refine Ev.step (fun k => ?_) hr
    simp only [gampref05_Simple.l1]
    rw [lst_len, wrap_s (by omega), if_pos (by omega), if_pos (by omega), if_pos (by omega), if_pos (by omega), lst_rd (by omega), lst_rd hj1, if_pos (by omega)]
   rcases ih (j + 1) (by omega) (fun i hi => by
    by_cases e : i = j
    ·rw [e]; exact hb
    ·exact hno i (by omega)) with ⟨h1, h2⟩ | ⟨i, h1, h2, h3⟩
   ·exact .inl ⟨h1, step _ h2⟩
   ·exact .inr ⟨i, h1, h2, fun r hr => step r (h3 r hr)⟩
theorem simple_l (hn1 : 2 ≤ n) (hn : n ≤ 1000) : ∀ (m : Nat) (t : Pm) (acc : List Int), Sup n t → inv n t = m → acc.length + m ≤ 100000 →
    ∃ ws : List Int, Word n ws ∧ ws.length = m ∧ Ev (fun k => gampref05_Simple.l0 k acc (lst n t)) (acc ++ ws) ∧ ∀ (p : Int) (l : List Pm), AllSup n l → SEq n (rawW n (p, l) ws) (p, l ++ [t]) := by
  intro m
  induction m with
  | zero =>
    intro t acc ht hm ha
    rcases simple_in ht hn acc (by omega) (n - 1) 0 (by omega) (fun i hi => by omega) with ⟨h1, h2⟩ | ⟨i, h1, h2, _⟩
    · have e := eq_one ht h1
      refine ⟨[], (fun k hk => absurd hk (by simp)), rfl, ?_, fun p l hl => ?_⟩
      · rw [List.append_nil]
        exact Ev.step (fun k => by simp only [gampref05_Simple.l0]; rfl) h2
      · have h3 : Star n (l ++ [one]) l := by
          have := (Star.one (.del (n := n) [])).app l
          rwa [List.append_nil] at this
        rw [e]
        exact (SEq.of p (Eqv.of h3 (hl.app (single (sup_one n))))).symm
    · have := inv_L ht h1 h2; omega
  | succ m ih =>
    intro t acc ht hm ha
    rcases simple_in ht hn acc (by omega) (n - 1) 0 (by omega) (fun i hi => by omega) with ⟨h1, h2⟩ | ⟨i, h1, h2, h3⟩
    · have e := eq_one ht h1
      rw [e, inv_one] at hm; omega
    · have hi := inv_L ht h1 h2
      obtain ⟨ws, k1, k2, k3, k4⟩ := ih (t.L i) (acc ++ [((i : Int) + 1)]) (ht.L h1) (by omega) (by rw [List.length_append]; simp only [List.length_singleton]; omega)
      refine ⟨((i : Int) + 1) :: ws, fun k hk => ?_, by rw [List.length_cons, k2], ?_, fun p l hl => ?_⟩
      · rcases List.mem_cons.1 hk with hk | hk
        · rw [hk]; exact ⟨by omega, by omega, by omega⟩
        · exact k1 k hk
      · have k5 := h3 _ k3
        rw [List.append_assoc, List.singleton_append] at k5
        exact Ev.step (fun k => by simp only [gampref05_Simple.l0]; rfl) k5
      · show SEq n (rawW n (rawStep n (p, l) ((i : Int) + 1)) ws) (p, l ++ [t])
        rw [pos_step]
        have hg := gen_sup (n := n) h1
        have h5 := k4 p (l ++ [gen i]) (hl.app (single hg))
        have h6 : (gen i).mul (t.L i) = t := Pm.same fun x => by
          show t.f (sw i (sw i x)) = t.f x
          rw [sw_sw]
        have h7 := tail2 hn1 p hl hg (ht.L h1) h6 (red_gen fun h => (B_L.1 h) h2)
        rw [List.append_assoc, List.singleton_append] at h5
        exact h5.trans hn1 h7
/-- The word that 'Simple' tells of a simple braid. -/
theorem simple_ev (hn1 : 2 ≤ n) (hn : n ≤ 300) (ht : Sup n t) (hi : inv n t ≤ 100000) : ∃ ws : List Int, Word n ws ∧ ws.length = inv n t ∧ Ev (fun k => gampref05_Simple.f k (lst n t)) ws ∧ ∀ (p : Int) (l : List Pm), AllSup n l → SEq n (rawW n (p, l) ws) (p, l ++ [t]) := by
 obtain ⟨ws, h1, h2, h3, h4⟩ := simple_l hn1 (by omega) (inv n t) t [] ht rfl (by simpa using hi)
 refine ⟨ws, h1, h2, ?_, h4⟩
 unfold gampref05_Simple.f
 refine Ev.congr (fun k => ?_) h3
 rw [Option.bind_some, if_pos (by rw [lst_len]; simp only [List.length_nil]; omega)]
 rfl
theorem sameBraid_l0 (p : Int) {L : List (List Int)} (h : ∀ x ∈ L, x.length ≤ 100000) (hL : L.length ≤ 100000) : ∀ (d i : Nat), i + d = L.length → Ev (fun k => gampref05_SameBraid.l0 k (i : Int) p L p L) true := by
 intro d
 induction d with
 | zero =>
  intro i hi
  refine Ev.step (f := fun _ => some true) (fun k => ?_) (Ev.now _)
  simp only [gampref05_SameBraid.l0]
  rw [if_neg (by omega)]
 | succ d ih =>
  intro i hi
  have hiL : i < L.length := by omega
  have e1 : rd_L1 L (i : Int) = L[i] := by unfold rd_L1; rw [Int.toNat_natCast, List.getD_eq_getElem?_getD, List.getElem?_eq_getElem hiL]; rfl
  have hs := same_ev L[i] L[i] (h _ (List.getElem_mem hiL))
  rw [decide_eq_true rfl] at hs
  refine Ev.step (f := fun k => (gampref05_Same.f k L[i] L[i]).bind fun t126 => (if t126 = true then (gampref05_SameBraid.l0 k ((i + 1 : Nat) : Int) p L p L) else (some false))) (fun k => ?_) (Ev.bind hs ?_)
  ·simp only [gampref05_SameBraid.l0]
   rw [if_pos (by omega), if_pos (by omega), if_pos (by omega), e1, wrap_s (by omega)]
  ·simp only [if_true]
   exact ih (i + 1) (by omega)
theorem sameBraid_ev (p : Int) {L : List (List Int)} (h : ∀ x ∈ L, x.length ≤ 100000) (hL : L.length ≤ 100000) : Ev (fun k => gampref05_SameBraid.f k p L p L) true := by
 unfold gampref05_SameBraid.f
 refine Ev.step (f := fun k => gampref05_SameBraid.l0 k 0 p L p L) (fun k => ?_) (sameBraid_l0 p h hL L.length 0 (by omega))
 have e : ((L.length : Int) != (L.length : Int)) = false := by simp
 rw [if_pos rfl, e]
 simp only [gampref05_SameBraid.j0, Bool.false_eq_true, if_false]
theorem tot_len : ∀ (M : List Pm), Rgt n M → AllSup n M → M.length ≤ tot n M := by
 intro M
 induction M with
 | nil => intro _ _; simp [tot]
 | cons x M ih =>
  intro hr hsx
  have h11 := ih hr.2.2 (fun t ht => hsx t (by simp [ht]))
  rw [tot, List.length_cons]
  have h12 : 1 ≤ inv n x := by
   refine Classical.byContradiction fun hc => ?_
   exact hr.1 (eq_one (hsx x (by simp)) fun i hi hbx => by have := inv_L (hsx x (by simp)) hi hbx; omega)
  omega
theorem rawW_low' {w : List Int} : ∀ {x : Int × List Pm}, x.1 - w.length ≤ (rawW n x w).1 := by
 induction w with
 | nil => intro x; simp [rawW]
 | cons k w ih =>
  intro x
  have h := ih (x := rawStep n x k)
  have e : x.1 - 1 ≤ (rawStep n x k).1 := by
   unfold rawStep
   by_cases hp : 0 < k
   ·rw [if_pos hp]; simp only; omega
   ·rw [if_neg hp]; simp only; omega
  show _ ≤ (rawW n (rawStep n x k) w).1
  rw [List.length_cons]
  omega
theorem sgn_le' : ∀ (w : List Int), (w.map sgn).sum ≤ w.length
 | [] => by simp
 | k :: w => by
  have := sgn_le' w
  rw [List.map_cons, List.sum_cons, List.length_cons]
  by_cases h : 0 < k
  ·have e : sgn k = 1 := by unfold sgn; rw [if_pos h]
   rw [e]; omega
  ·have e : sgn k = -1 := by unfold sgn; rw [if_neg h]
   rw [e]; omega
/-- How long the normal form of a word is, at most. -/
theorem norm_len (h1 : 2 ≤ n) (h2 : n ≤ 8) {xs : List Int} (hw : Word n xs) (hl : xs.length ≤ 60) : (normF n xs).2.length ≤ 10000 := by
 have hnf := normF_nf (n := n) hw
 have hlen := tot_len (normF n xs).2 hnf.irr.rgt hnf.sup.2
 have h4 := hnf.wgt
 have h5 := rawW_wgt (n := n) (w := xs) (x := (0, [])) hw AllSup.nil
 have h6 : wgt n ((normF n xs).1, (normF n xs).2) = (normF n xs).1 * (tri n : Int) + (tot n (normF n xs).2 : Int) := rfl
 have h7 : wgt n ((rawW n (0, []) xs).1, (rawW n (0, []) xs).2) = wgt n (rawW n (0, []) xs) := rfl
 have h8 : wgt n (0, []) = 0 := by unfold wgt; simp [tot]
 rw [h6, h7, h5, h8] at h4
 obtain ⟨a, _, hpa⟩ := hnf.ex
 have hlow := rawW_low' (n := n) (w := xs) (x := (0, []))
 have hsg := sgn_le' xs
 have ht : 1 ≤ tri n ∧ tri n ≤ 28 := by
  have : n = 2 ∨ n = 3 ∨ n = 4 ∨ n = 5 ∨ n = 6 ∨ n = 7 ∨ n = 8 := by omega
  rcases this with rfl | rfl | rfl | rfl | rfl | rfl | rfl <;> decide
 generalize (normF n xs).1 = p at *
 have hp1 : -60 ≤ p := by simp only at hlow; omega
 by_cases hp0 : 0 ≤ p
 ·have := Int.mul_nonneg hp0 (show (0 : Int) ≤ (tri n : Int) by omega); omega
 ·have h10 : (-p) * (tri n : Int) ≤ (-p) * 28 := Int.mul_le_mul_of_nonneg_left (by omega) (by omega)
  rw [Int.neg_mul] at h10; omega
/-- Two words of the same braid. -/
theorem same_law (h1 : 2 ≤ n) (h2 : n ≤ 8) {a b : List Int} (ha : Word n a) (hb : Word n b) (la : a.length ≤ 60) (lb : b.length ≤ 60) (h : SEq n (rawW n (0, []) a) (rawW n (0, []) b)) : Ev (fun k => gamplaw05_same.f k (n : Int) a b) true := by
 obtain ⟨q, m, k1, k2⟩ := h
 have ea := normF_eq h1 ha k1
 have eb := normF_eq h1 hb k2
 have hlen := norm_len h1 h2 ha la
 rw [ea] at hlen
 unfold gamplaw05_same.f
 have e3 : strap_Equal.f (n : Int) a b = some (true, 0) := by
  unfold strap_Equal.f normL
  rw [checkF_word' h1 h2 ha la, checkF_word' h1 h2 hb lb, if_neg (by decide), if_neg (by decide), Int.toNat_natCast, ea, eb, decide_eq_true rfl]
 rw [normal_word' h1 h2 ha la, normal_word' h1 h2 hb lb, e3, ea, eb]
 simp only [Option.bind_some, if_true]
 refine Ev.bind (sameBraid_ev q (fun x hx => ?_) (by rw [List.length_map]; simpa using (show m.length ≤ 100000 by simp only at hlen; omega))) ?_
 ·obtain ⟨y, _, rfl⟩ := List.mem_map.1 hx
  rw [lst_len]; omega
 ·simp only [if_true]
  exact Ev.now _
theorem rawW_shift (d : Int) : ∀ {w : List Int} {x : Int × List Pm}, rawW n (x.1 + d, x.2) w = ((rawW n x w).1 + d, (rawW n x w).2)
 | [], x => rfl
 | k :: w, x => by
  show rawW n (rawStep n (x.1 + d, x.2) k) w = ((rawW n (rawStep n x k) w).1 + d, (rawW n (rawStep n x k) w).2)
  rw [← rawW_shift d (w := w) (x := rawStep n x k)]
  congr 1
  unfold rawStep
  by_cases hp : 0 < k
  ·rw [if_pos hp, if_pos hp]
  ·rw [if_neg hp, if_neg hp]
   simp only
   congr 1
   omega
def turn (n : Nat) (k : Int) : Int := if 0 < k then (n : Int) - k else -((n : Int) + k)
theorem turn_word {xs : List Int} (h : Word n xs) : Word n (xs.map (turn n)) := fun k hk => by
 obtain ⟨j, hj, rfl⟩ := List.mem_map.1 hk
 obtain ⟨h1, h2, h3⟩ := h j hj
 unfold turn
 by_cases h : 0 < j
 ·rw [if_pos h]; exact ⟨by omega, by omega, by omega⟩
 ·rw [if_neg h]; exact ⟨by omega, by omega, by omega⟩
theorem raw_turn {x : Int × List Pm} {k : Int} (hk : Letter n k) : rawStep n (x.1, x.2.map (Br.tau n)) (turn n k) = ((rawStep n x k).1, (rawStep n x k).2.map (Br.tau n)) := by
 obtain ⟨h0, h1, h2⟩ := hk
 unfold rawStep turn
 by_cases hp : 0 < k
 ·rw [if_pos hp, if_pos (by omega), if_pos hp]
  simp only [List.map_append, List.map_cons, List.map_nil]
  rw [tau_gen (by omega), show ((n : Int) - k).toNat - 1 = n - 2 - (k.toNat - 1) by omega]
 ·rw [if_neg hp, if_neg (by omega), if_neg hp]
  simp only [List.map_append, List.map_cons, List.map_nil]
  rw [tau_ung (by omega), show (- -((n : Int) + k)).toNat - 1 = n - 2 - ((-k).toNat - 1) by omega]
theorem rawW_turn : ∀ {w : List Int} {x : Int × List Pm}, Word n w → rawW n (x.1, x.2.map (Br.tau n)) (w.map (turn n)) = ((rawW n x w).1, (rawW n x w).2.map (Br.tau n))
 | [], x, _ => rfl
 | k :: w, x, h => by
  show rawW n (rawStep n (x.1, x.2.map (Br.tau n)) (turn n k)) (w.map (turn n)) = _
  rw [raw_turn (h k (by simp)), rawW_turn (w := w) (x := rawStep n x k) (fun j hj => h j (by simp [hj]))]
  rfl
/-- Twice the half twist, ahead of a word or behind it. -/
theorem centre1 (h1 : 2 ≤ n) {hw w : List Int} (hh : Word n hw) (hwd : Word n w) (hS : ∀ (p : Int) (l : List Pm), AllSup n l → SEq n (rawW n (p, l) hw) (p, l ++ [Br.half n])) :
  SEq n (rawW n (0, []) (hw ++ hw ++ w)) (rawW n (0, []) (w ++ hw ++ hw)) := by
 have hH : ∀ (p : Int) (l : List Pm), AllSup n l → SEq n (rawW n (p, l) hw) (p + 1, l.map (Br.tau n)) := fun p l hl => (hS p l hl).trans h1 (half_end h1 p hl)
 have hHH : ∀ (p : Int) (l : List Pm), AllSup n l → SEq n (rawW n (p, l) (hw ++ hw)) (p + 2, l) := fun p l hl => by
  rw [rawW_app]
  have k1 := rawW_seq h1 hh (hH p l hl)
  have k2 := hH (p + 1) (l.map (Br.tau n)) hl.tau
  rw [tau2, show p + 1 + 1 = p + 2 by omega] at k2
  exact k1.trans h1 k2
 have a1 : SEq n (rawW n (0, []) (hw ++ hw ++ w)) (rawW n (0 + 2, []) w) := by
  rw [rawW_app]
  exact rawW_seq h1 hwd (hHH 0 [] AllSup.nil)
 have a2 : rawW n (0 + 2, []) w = ((rawW n (0, []) w).1 + 2, (rawW n (0, []) w).2) := rawW_shift (n := n) 2 (w := w) (x := (0, []))
 rw [a2] at a1
 have a3 : SEq n (rawW n (0, []) (w ++ hw ++ hw)) ((rawW n (0, []) w).1 + 2, (rawW n (0, []) w).2) := by
  rw [List.append_assoc, rawW_app]
  exact hHH _ _ (rawW_sup (x := (0, [])) hwd AllSup.nil)
 exact a1.trans h1 a3.symm
theorem centre2 (h1 : 2 ≤ n) {hw w : List Int} (hh : Word n hw) (hwd : Word n w) (hS : ∀ (p : Int) (l : List Pm), AllSup n l → SEq n (rawW n (p, l) hw) (p, l ++ [Br.half n])) :
  SEq n (rawW n (0, []) (w ++ hw)) (rawW n (0, []) (hw ++ w.map (turn n))) := by
 have hH : ∀ (p : Int) (l : List Pm), AllSup n l → SEq n (rawW n (p, l) hw) (p + 1, l.map (Br.tau n)) := fun p l hl => (hS p l hl).trans h1 (half_end h1 p hl)
 have a1 : SEq n (rawW n (0, []) (w ++ hw)) ((rawW n (0, []) w).1 + 1, (rawW n (0, []) w).2.map (Br.tau n)) := by
  rw [rawW_app]
  exact hH _ _ (rawW_sup (x := (0, [])) hwd AllSup.nil)
 have a2 : SEq n (rawW n (0, []) (hw ++ w.map (turn n))) (rawW n (0 + 1, []) (w.map (turn n))) := by
  rw [rawW_app]
  exact rawW_seq h1 (turn_word hwd) (hH 0 [] AllSup.nil)
 have a3 : rawW n (0 + 1, []) (w.map (turn n)) = ((rawW n (0, []) w).1 + 1, (rawW n (0, []) w).2.map (Br.tau n)) := by
  have k1 := rawW_turn (n := n) (w := w) (x := (0 + 1, [])) hwd
  have k2 : rawW n (0 + 1, []) w = ((rawW n (0, []) w).1 + 1, (rawW n (0, []) w).2) := rawW_shift (n := n) 1 (w := w) (x := (0, []))
  rw [k2] at k1
  exact k1
 rw [a3] at a2
 exact a1.trans h1 a2.symm
end
end Go.Proofs.Ytdldfdcedjmneaa.Pure
