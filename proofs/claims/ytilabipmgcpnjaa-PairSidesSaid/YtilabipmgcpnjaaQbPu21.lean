/- The declarations of Pu21 that the claim Qb needs. -/
import Derived.Test.YtilabipmgcpnjaaQbPu17
import Derived.Test.YtilabipmgcpnjaaQbPu14
import Derived.Test.YtilabipmgcpnjaaQbFnx14
namespace Go.Proofs.Ytilabipmgcpnjaa.Pure
open Go.RowKit Go.Proofs.Ytilabipmgcpnjaa.Own Go.Proofs.Ytilabipmgcpnjaa.Fn Go.Proofs.YtilabipmgcpnjaaW.PrintWords Go.Proofs.YtilabipmgcpnjaaW.PrintLast Go.Proofs.YtilabipmgcpnjaaW.PrintMore Go.Proofs.Ytilabipmgcpnjaa.Tan Go.Proofs.Ytilabipmgcpnjaa.Cyc
set_option linter.unusedVariables false
set_option linter.unusedSimpArgs false
/-- Is v on the other side of i? -/
def acr (h i : Nat) (v : Int) : Bool := (decide (v < (h : Int))) != (decide ((i : Int) < (h : Int)))
def sideRow (h i : Nat) (l : List Int) : List Int := l.filter (acr h i) ++ l.filter (fun v => !acr h i v)
theorem part_perm (p : Int → Bool) : ∀ l : List Int, (l.filter p ++ l.filter (fun v => !p v)).Perm l
  | [] => by simp
  | x :: l => by
    have ih := part_perm p l
    rw [List.filter_cons, List.filter_cons]
    cases p x with
    | true => simpa using ih
    | false =>
      simp only [Bool.false_eq_true, if_false, Bool.not_false, if_true]
      exact List.perm_middle.trans (ih.cons x)
def sideF (h : Nat) (Ls : List (List Int)) (i d : Nat) : List (List Int) := (List.range' i d).map (fun i => sideRow h i (Ls.getD i []))
theorem side_get {h : Nat} {Ls : List (List Int)} {i : Nat} (hi : i < Ls.length) : (sideF h Ls 0 Ls.length).getD i [] = sideRow h i (Ls.getD i []) := by
  unfold sideF
  rw [List.getD_eq_getElem?_getD, List.getElem?_map, List.getElem?_range' (by omega)]
  simp
theorem side_len {h : Nat} {Ls : List (List Int)} : (sideF h Ls 0 Ls.length).length = Ls.length := by unfold sideF; rw [List.length_map, List.length_range']
theorem side_valid {h : Nat} {Ls : List (List Int)} (hv : Valid Ls) : Valid (sideF h Ls 0 Ls.length) := by
  refine ⟨by rw [side_len]; exact hv.1, by rw [side_len]; exact hv.2.1, fun i hi => ?_⟩
  rw [side_len] at hi ⊢
  rw [side_get hi]
  exact perm_rowok (hv.2.2 i hi) (part_perm _ _)
section
variable {h : Nat} {Ls : List (List Int)} {R : List Int}
theorem side_pref (hv : Valid Ls) {i a b : Nat} (hi : i < Ls.length) (ha : a < Ls.length) (h1 : acr h i a = true) (h2 : acr h i b = false) : rkOf (sideF h Ls 0 Ls.length) i a < rkOf (sideF h Ls 0 Ls.length) i b := by
  unfold rkOf
  rw [side_get hi]
  unfold sideRow
  have hne : a ≠ i := by
    intro e
    subst e
    unfold acr at h1
    simp at h1
  have hin : (a : Int) ∈ (Ls.getD i []).filter (acr h i) := List.mem_filter.2 ⟨hv.has hi ha hne, h1⟩
  have hout : (b : Int) ∉ (Ls.getD i []).filter (acr h i) := fun hm => by
    have := (List.mem_filter.1 hm).2
    rw [h2] at this; cases this
  rw [List.idxOf_append, if_pos hin, List.idxOf_append, if_neg hout]
  have := List.idxOf_lt_length_of_mem hin
  omega
/-- Whose number is below h. -/
theorem acr_iff {i v : Nat} : acr h i v = true ↔ (v < h ∧ h ≤ i) ∨ (h ≤ v ∧ i < h) := by
  unfold acr
  by_cases h1 : v < h <;> by_cases h2 : i < h
  · have e1 : (v : Int) < h := by omega
    have e2 : (i : Int) < h := by omega
    simp [e1, e2]; omega
  · have e1 : (v : Int) < h := by omega
    have e2 : ¬ (i : Int) < h := by omega
    simp [e1, e2]; omega
  · have e1 : ¬ (v : Int) < h := by omega
    have e2 : (i : Int) < h := by omega
    simp [e1, e2]; omega
  · have e1 : ¬ (v : Int) < h := by omega
    have e2 : ¬ (i : Int) < h := by omega
    simp [e1, e2]; omega
theorem acr_no {i v : Nat} : acr h i v = false ↔ (v < h ∧ i < h) ∨ (h ≤ v ∧ h ≤ i) := by
  have := acr_iff (h := h) (i := i) (v := v)
  cases e : acr h i v with
  | true => rw [e] at this; simp at this; simp; omega
  | false => rw [e] at this; simp at this; simp; omega
/-- In a stable partition all go across. -/
theorem side_across {n : Nat} {rk : Nat → Nat → Nat} {p q : Nat → Nat} (hn : n = 2 * h) (hpt : Part n rk p q) (hpr : ∀ i a b, i < n → a < n → b < n → acr h i a = true → acr h i b = false → rk i a < rk i b) : ∀ i, i < n → acr h i (q i) = true := by
  intro i hi
  refine Classical.byContradiction fun hno => ?_
  have hno : acr h i (q i) = false := by simpa using hno
  have hqi := hpt.qn i hi
  obtain ⟨j, hj, hij, hjq⟩ : ∃ j, j < n ∧ acr h i j = true ∧ acr h j (q j) = false := by
    refine Classical.byContradiction fun hall => ?_
    have hall : ∀ j, j < n → acr h i j = true → acr h j (q j) = true := fun j hj h1 => by
      cases e : acr h j (q j) with
      | true => rfl
      | false => exact absurd ⟨j, hj, h1, e⟩ hall
    rw [acr_no] at hno
    rcases hno with ⟨h1, h2⟩ | ⟨h1, h2⟩
    · have hnd : ((i :: List.range' h h).map q).Nodup := by
        refine nodup_map ?_ fun x hx y hy e => ?_
        · rw [List.nodup_cons]
          exact ⟨fun hm => by rw [List.mem_range'_1] at hm; omega, List.nodup_range'⟩
        · have hx2 : x < n := by
            rcases List.mem_cons.1 hx with e | hx
            · omega
            · rw [List.mem_range'_1] at hx; omega
          have hy2 : y < n := by
            rcases List.mem_cons.1 hy with e | hy
            · omega
            · rw [List.mem_range'_1] at hy; omega
          exact hpt.qinj hx2 hy2 e
      have := len_le_of_sub (l2 := List.range h) hnd (fun x hx => by
        obtain ⟨y, hy, rfl⟩ := List.mem_map.1 hx
        rw [List.mem_range]
        rcases List.mem_cons.1 hy with e | hy
        · rw [e]; exact h1
        · rw [List.mem_range'_1] at hy
          have h3 := hall y (by omega) (acr_iff.2 (by omega))
          rw [acr_iff] at h3
          omega)
      rw [List.length_map, List.length_cons, List.length_range', List.length_range] at this
      omega
    · have hnd : ((i :: List.range h).map q).Nodup := by
        refine nodup_map ?_ fun x hx y hy e => ?_
        · rw [List.nodup_cons]
          exact ⟨fun hm => by rw [List.mem_range] at hm; omega, List.nodup_range⟩
        · have hx2 : x < n := by
            rcases List.mem_cons.1 hx with e | hx
            · omega
            · rw [List.mem_range] at hx; omega
          have hy2 : y < n := by
            rcases List.mem_cons.1 hy with e | hy
            · omega
            · rw [List.mem_range] at hy; omega
          exact hpt.qinj hx2 hy2 e
      have := len_le_of_sub (l2 := List.range' h h) hnd (fun x hx => by
        obtain ⟨y, hy, rfl⟩ := List.mem_map.1 hx
        rw [List.mem_range'_1]
        rcases List.mem_cons.1 hy with e | hy
        · rw [e]; omega
        · rw [List.mem_range] at hy
          have h3 := hall y (by omega) (acr_iff.2 (by omega))
          rw [acr_iff] at h3
          have := hpt.qn y (by omega)
          omega)
      rw [List.length_map, List.length_cons, List.length_range', List.length_range] at this
      omega
  have hji : acr h j i = true := by rw [acr_iff] at hij ⊢; omega
  have hne : i ≠ j := by
    intro e
    subst e
    rw [acr_iff] at hij; omega
  exact hpt.no i j hi hj hne (hpr i j (q i) hi hj hqi hij hno) (hpr j i (q j) hj hi (hpt.qn j hj) hji hjq)
theorem side_next {n : Nat} {rk : Nat → Nat → Nat} {p q : Nat → Nat} (hpt : Part n rk p q) (hq : ∀ i, i < n → acr h i (q i) = true) : ∀ i, i < n → acr h i (p i) = true := by
  intro i hi
  have := hq (p i) (hpt.pn i hi)
  rw [hpt.qp i hi] at this
  rw [acr_iff] at this ⊢
  omega
theorem side_rep {n : Nat} {p q : Nat → Nat} (hp : Perm2 n p q) (ha : ∀ i, i < n → acr h i (p i) = true) {i : Nat} (hi : i < n) : ∀ m, acr h i ((Nat.repeat p m i : Nat) : Int) = decide (m % 2 = 1)
  | 0 => by
    rw [show Nat.repeat p 0 i = i from rfl]
    have : acr h i i = false := by rw [acr_no]; omega
    rw [this]; rfl
  | m + 1 => by
    have ih := side_rep hp ha hi m
    have h1 := ha _ (rep_lt hp.pn hi m)
    rw [rep_succ]
    rw [acr_iff] at h1
    by_cases e : m % 2 = 1
    · rw [decide_eq_true e, acr_iff] at ih
      rw [decide_eq_false (by omega), acr_no]; omega
    · rw [decide_eq_false e, acr_no] at ih
      rw [decide_eq_true (by omega), acr_iff]; omega
theorem side_odds {n : Nat} {p q : Nat → Nat} (hp : Perm2 n p q) (ha : ∀ i, i < n → acr h i (p i) = true) : odds p n = [] := by
  unfold odds
  rw [List.map_eq_nil_iff, List.filter_eq_nil_iff]
  intro i hi hb
  rw [List.mem_range] at hi
  rw [Bool.and_eq_true, decide_eq_true_eq] at hb
  obtain ⟨m, hm⟩ := (odd_iff hp hi).1 hb.2
  have := side_rep hp ha hi (2 * m + 1)
  rw [hm, decide_eq_true (by omega), acr_iff] at this
  omega
theorem sd_l1 (hl : ∀ i, (Ls.getD i []).length ≤ 1000) (hn : Ls.length ≤ 1000) {i : Nat} (hi : i < Ls.length) {out : List (List Int)} (ho : out.length ≤ 1000) {r : Bool} : ∀ (d j : Nat) (f s : List Int), j + d = (Ls.getD i []).length → f.length ≤ j → s.length ≤ j →
    Ev (fun k => gamplaw07_PairSides.l0 k Ls (h : Int) (out ++ [(f ++ ((Ls.getD i []).drop j).filter (acr h i)) ++ (s ++ ((Ls.getD i []).drop j).filter (fun v => !acr h i v))]) ((i + 1 : Nat) : Int)) r →
    Ev (fun k => gamplaw07_PairSides.l1 k Ls (h : Int) out (i : Int) f s (j : Int)) r
  | 0, j, f, s, hd, hf, hs, hc => by
    have := hl i
    rw [List.drop_of_length_le (by omega)] at hc
    simp only [List.filter_nil, List.append_nil] at hc
    refine Ev.step (fun k => ?_) hc
    simp only [gamplaw07_PairSides.l1]
    rw [if_pos (by omega), if_pos (by omega), rdL_get, if_neg (by omega), if_pos (by omega), if_pos (by omega), wrap_s (by omega)]
  | d + 1, j, f, s, hd, hf, hs, hc => by
    have := hl i
    have hj : j < (Ls.getD i []).length := by omega
    rw [List.drop_eq_getElem_cons hj, List.filter_cons, List.filter_cons] at hc
    have hg : rd (rd_L1 Ls (i : Int)) (j : Int) = (Ls.getD i [])[j] := by rw [rdL_get, rd_get hj]
    cases ha : acr h i ((Ls.getD i [])[j]) with
    | true =>
      rw [ha] at hc
      simp only [if_true, Bool.not_true, Bool.false_eq_true, if_false] at hc
      have hc2 : Ev (fun k => gamplaw07_PairSides.l0 k Ls (h : Int) (out ++ [((f ++ [(Ls.getD i [])[j]]) ++ ((Ls.getD i []).drop (j + 1)).filter (acr h i)) ++ (s ++ ((Ls.getD i []).drop (j + 1)).filter (fun v => !acr h i v))]) ((i + 1 : Nat) : Int)) r := by
        rw [List.append_assoc f, List.singleton_append]; exact hc
      refine Ev.step (fun k => ?_) (sd_l1 hl hn hi ho d (j + 1) _ _ (by omega) (by rw [List.length_append, List.length_singleton]; omega) (by omega) hc2)
      simp only [gamplaw07_PairSides.l1]
      rw [if_pos (by omega), if_pos (by omega), if_pos (by rw [rdL_get]; omega), if_pos (by omega), hg, if_pos (show ((decide ((Ls.getD i [])[j] < (h : Int))) != (decide ((i : Int) < (h : Int)))) = true from ha), if_pos (by omega), wrap_s (by omega)]
    | false =>
      rw [ha] at hc
      simp only [if_true, Bool.not_false, Bool.false_eq_true, if_false] at hc
      have hc2 : Ev (fun k => gamplaw07_PairSides.l0 k Ls (h : Int) (out ++ [(f ++ ((Ls.getD i []).drop (j + 1)).filter (acr h i)) ++ ((s ++ [(Ls.getD i [])[j]]) ++ ((Ls.getD i []).drop (j + 1)).filter (fun v => !acr h i v))]) ((i + 1 : Nat) : Int)) r := by
        rw [List.append_assoc s, List.singleton_append]; exact hc
      refine Ev.step (fun k => ?_) (sd_l1 hl hn hi ho d (j + 1) _ _ (by omega) (by omega) (by rw [List.length_append, List.length_singleton]; omega) hc2)
      simp only [gamplaw07_PairSides.l1]
      rw [if_pos (by omega), if_pos (by omega), if_pos (by rw [rdL_get]; omega), if_pos (by omega), hg, if_neg (fun e => absurd ((show acr h i ((Ls.getD i [])[j]) = true from e).symm.trans ha) (by simp)), if_pos (by omega), wrap_s (by omega)]
theorem sd_l0 (hl : ∀ i, (Ls.getD i []).length ≤ 1000) (hn : Ls.length ≤ 1000) {r : Bool} : ∀ (d i : Nat) (out : List (List Int)), i + d = Ls.length → out.length ≤ i →
    Ev (fun k => gamplaw07_PairSides.l0 k Ls (h : Int) (out ++ sideF h Ls i d) (Ls.length : Int)) r →
    Ev (fun k => gamplaw07_PairSides.l0 k Ls (h : Int) out (i : Int)) r
  | 0, i, out, hd, ho, hc => by
    have e : i = Ls.length := by omega
    subst e
    simpa [sideF] using hc
  | d + 1, i, out, hd, ho, hc => by
    have hi : i < Ls.length := by omega
    have e : out ++ sideF h Ls i (d + 1) = (out ++ [sideRow h i (Ls.getD i [])]) ++ sideF h Ls (i + 1) d := by
      unfold sideF
      rw [List.range'_succ, List.map_cons, List.append_assoc, List.singleton_append]
    rw [e] at hc
    have ih := sd_l0 hl hn d (i + 1) (out ++ [sideRow h i (Ls.getD i [])]) (by omega) (by rw [List.length_append, List.length_singleton]; omega) hc
    have h1 := sd_l1 (h := h) hl hn hi (out := out) (by omega) (r := r) _ 0 [] [] (Nat.zero_add _) (by simp) (by simp) (by rw [List.drop_zero, List.nil_append, List.nil_append]; exact ih)
    refine Ev.step (fun k => ?_) h1
    simp only [gamplaw07_PairSides.l0]
    rw [if_pos (by omega)]; rfl
theorem sd_l2 {S : List (List Int)} {m : List Int} (hn : S.length ≤ 1000) (hml : m.length = S.length) (hm : ∀ i, i < S.length → ∃ v : Nat, m.getD i 0 = (v : Int) ∧ acr h i v = true) {r : Bool}
    (hc : Ev (fun k => (gampref07_Blocks.f k S m).bind fun bt556 => ((pair_Odd.f k S).bind fun bt559 => (if bt556.2.2 = true then (some false) else (if (bt559.1.length : Int) = 0 then (some (bt559.2 == 0)) else (some false))))) r) : ∀ (d i : Nat), i + d = S.length →
    Ev (fun k => gamplaw07_PairSides.l2 k (h : Int) S m (i : Int)) r
  | 0, i, hd => by
    refine Ev.step (fun k => ?_) hc
    simp only [gamplaw07_PairSides.l2]
    rw [if_neg (by omega)]
  | d + 1, i, hd => by
    obtain ⟨v, h1, h2⟩ := hm i (by omega)
    have hg : rd m (i : Int) = (v : Int) := by unfold rd; rw [Int.toNat_natCast]; exact h1
    refine Ev.step (fun k => ?_) (sd_l2 hn hml hm hc d (i + 1) (by omega))
    have h3 : ((decide ((v : Int) < (h : Int))) == (decide ((i : Int) < (h : Int)))) = false := by
      have h4 : acr h i v = ((decide ((v : Int) < (h : Int))) != (decide ((i : Int) < (h : Int)))) := rfl
      rw [h2] at h4
      unfold bne at h4
      simpa using h4.symm
    simp only [gamplaw07_PairSides.l2]
    rw [if_pos (by omega), if_pos (by omega), if_pos (by omega), hg, if_neg (by omega), if_neg (by rw [h3]; simp), wrap_s (by omega)]
end
end Go.Proofs.Ytilabipmgcpnjaa.Pure
