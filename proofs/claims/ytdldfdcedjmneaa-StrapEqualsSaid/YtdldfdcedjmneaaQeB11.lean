/- The declarations of B11 that the claim Qe needs. -/
import Derived.Test.YtdldfdcedjmneaaQeB10
import Derived.Test.YtdldfdcedjmneaaQeTB
namespace Go.Proofs.Ytdldfdcedjmneaa.Own
open Go.RowKit Go.Proofs.YtdldfdcedjmneaaW.PrintWords Go.Proofs.YtdldfdcedjmneaaW.PrintLast Go.Proofs.YtdldfdcedjmneaaW.PrintMore Go.Proofs.Ytdldfdcedjmneaa.Pb Go.Proofs.Ytdldfdcedjmneaa.Br
set_option linter.unusedVariables false
set_option linter.unusedSimpArgs false
def shortF (a0 : Int) (l : List Int) : Int := if checkF a0 l = 0 ∧ 24 < l.length then 3 else checkF a0 l
set_option maxHeartbeats 2000000 in
theorem f64_any (a0 : Int) (A1 : Option Addr) (c1 : Nat) (l1 : List Int) (w : World) (hr1 : Kd.C (Kd.int .i64) w A1 l1.length l1) (hc1 : l1.length ≤ c1) :
  Calls Try.prog 64 #[.int .i64 a0, .slice A1 l1.length c1] w fun e w' => e = .returned (.int .i64 (shortF a0 l1)) ∧ Below w.heap.size w w' := by
 have h52 := f52_any a0 A1 c1 l1.length l1 _ hr1 hc1
 obtain ⟨e1, he1⟩ : ∃ e, checkF a0 l1 = e := ⟨_, rfl⟩
 rw [he1] at h52
 have HE := Aside0.mk he1
 clear he1 hr1
 by_cases hz : e1 = 0
 ·have hzb : (e1 == 0) = true := by rw [hz]; rfl
  by_cases hl : 24 < l1.length
  ·have hlb : decide ((24 : Int) < (l1.length : Int)) = true := decide_eq_true (by omega)
   have HK : Aside0 (shortF a0 l1 = 3) := ⟨by unfold shortF; rw [HE.out, if_pos ⟨hz, hl⟩]⟩
   rw [HK.out]
   clear hz hl
   go_enter Try.func64, Try.ntmps64
   go_wp2_with (go_at_call 52; (with_reducible refine h52.mono ?_); rintro e w5 ⟨rfl, hb5⟩)
   go_ret
   exact ⟨rfl, hb5⟩
  ·have hlb : decide ((24 : Int) < (l1.length : Int)) = false := decide_eq_false (by omega)
   have HK : Aside0 (shortF a0 l1 = e1) := ⟨by unfold shortF; rw [HE.out, if_neg (fun h => hl h.2)]⟩
   rw [HK.out]
   clear hz hl
   go_enter Try.func64, Try.ntmps64
   go_wp2_with (go_at_call 52; (with_reducible refine h52.mono ?_); rintro e w5 ⟨rfl, hb5⟩)
   go_ret
   exact ⟨rfl, hb5⟩
 ·have hzb : (e1 == 0) = false := beq_eq_false_iff_ne.2 hz
  have HK : Aside0 (shortF a0 l1 = e1) := ⟨by unfold shortF; rw [HE.out, if_neg (fun h => hz h.1)]⟩
  rw [HK.out]
  clear hz
  go_enter Try.func64, Try.ntmps64
  go_wp2_with (go_at_call 52; (with_reducible refine h52.mono ?_); rintro e w5 ⟨rfl, hb5⟩)
  go_ret
  exact ⟨rfl, hb5⟩
theorem detC_rg {L : List (List Po)} (hL : AllRg 100 L) {s row : Nat} (hs : s < 128) : ∀ (c : Nat) (D : List Po) (sg : Int), DRg 100 D → DRg 100 (detC L (s + 1) row c (D, sg)).1
 | 0, D, sg, h => h
 | c + 1, D, sg, h => by
  simp only [detC]
  by_cases hb : (s + 1).testBit c = true
  ·rw [if_pos hb]
   refine detC_rg hL hs c _ _ (h.set ?_)
   have h2 : 1 ≤ 2 ^ c := Nat.one_le_two_pow
   have hx := h (s + 1 - 2 ^ c)
   have hl : Rg 100 ((L.getD row []).getD c (0, [])) := by
    have hr : RowRg 100 (L.getD row []) := by
     rw [List.getD_eq_getElem?_getD]
     by_cases hrl : row < L.length
     ·rw [List.getElem?_eq_getElem hrl]; exact hL _ (List.getElem_mem hrl)
     ·rw [List.getElem?_eq_none (by omega)]; intro p hp; cases hp
    exact hr.at_ (by decide) c
   have h3 := timesP_rg hx hl (by omega) (by decide)
   have h4 := timesP_rg (S := 0) h3 (q := (0, [sg])) ⟨by show -(0 : Int) ≤ 0; decide, by show (0 : Int) + 1 ≤ 0 + 1; decide⟩ (by omega) (by decide)
   exact plusP_rg (h (s + 1)) (h4.mono (by omega))
  ·rw [if_neg hb]
   exact detC_rg hL hs c _ _ h
theorem detTo_rg {L : List (List Po)} (hL : AllRg 100 L) {m : Nat} : ∀ k, k ≤ 128 → DRg 100 (detTo L m k)
  | 0, _ => DRg.zero m L
  | k + 1, h => by simp only [detTo]; exact detC_rg hL (by omega) m _ _ (detTo_rg hL k (by omega))
theorem detF_rg {L : List (List Po)} (hL : AllRg 100 L) {m : Nat} (hm : m ≤ 7) : Rg 20000 (detF L m) := by
 have h2 : 2 ^ m ≤ 128 := Nat.pow_le_pow_right (by decide) hm
 have h := detTo_rg hL (m := m) (2 ^ m - 1) (by omega) (2 ^ m - 1)
 exact h.mono (by omega)
/-- An entry of 'one minus burau'. -/
def entA (L : List (List Po)) (i j : Nat) : Po := plusP (if j = i then (0, [1]) else (0, [])) (timesP ((L.getD i []).getD j (0, [])) (0, [-1]))
def rowA (L : List (List Po)) (n i j : Nat) : List Po := (List.range n).map fun c => if c < j then entA L i c else if c = i then (0, [1]) else (0, [])
def matA (L : List (List Po)) (n i j : Nat) : List (List Po) := (List.range n).map fun r => if r < i then rowA L n r n else if r = i then rowA L n i j else rowId n r
def alexM (L : List (List Po)) (n : Nat) : List (List Po) := matA L n n 0
theorem rowA_zero (L : List (List Po)) (n i : Nat) : rowA L n i 0 = rowId n i := by
 unfold rowA rowId
 refine List.map_congr_left fun c _ => ?_
 rw [if_neg (by omega)]
theorem matA_zero (L : List (List Po)) (n : Nat) : matA L n 0 0 = oneM n := by
 unfold matA oneM
 refine List.map_congr_left fun r _ => ?_
 rw [if_neg (by omega)]
 split
 ·rename_i h; rw [h, rowA_zero]
 ·rfl
theorem matA_row {L : List (List Po)} {n i : Nat} (hi : i < n) : matA L n i n = matA L n (i + 1) 0 := by
 unfold matA
 refine List.map_congr_left fun r _ => ?_
 by_cases h1 : r < i
 ·rw [if_pos h1, if_pos (by omega)]
 ·by_cases h2 : r = i
  ·rw [if_neg h1, if_pos h2, if_pos (by omega), h2]
  ·rw [if_neg h1, if_neg h2, if_neg (by omega)]
   split
   ·rename_i h3; rw [h3, rowA_zero]
   ·rfl
theorem matA_at {L : List (List Po)} {n i j : Nat} (hi : i < n) : (matA L n i j).getD i [] = rowA L n i j := by
 unfold matA
 rw [List.getD_eq_getElem?_getD, List.getElem?_map, List.getElem?_range hi]
 simp
theorem rowA_at {L : List (List Po)} {n i j : Nat} (hj : j < n) : (rowA L n i j).getD j (0, []) = if j = i then (0, [1]) else (0, []) := by
 unfold rowA
 rw [List.getD_eq_getElem?_getD, List.getElem?_map, List.getElem?_range hj]
 simp
theorem rowA_set {L : List (List Po)} {n i j : Nat} (hj : j < n) : (rowA L n i j).set j (entA L i j) = rowA L n i (j + 1) := by
 refine List.ext_getElem (by simp [rowA]) fun c h1 h2 => ?_
 have hc : c < n := by simpa [rowA] using h2
 have e1 : (rowA L n i (j + 1))[c] = if c < j + 1 then entA L i c else if c = i then (0, [1]) else (0, []) := by simp [rowA]
 have e2 : (rowA L n i j)[c]'(by simpa [rowA] using hc) = if c < j then entA L i c else if c = i then (0, [1]) else (0, []) := by simp [rowA]
 rw [List.getElem_set, e1, e2]
 by_cases h : j = c
 ·rw [if_pos h, if_pos (by omega), h]
 ·rw [if_neg h]
  by_cases h3 : c < j
  ·rw [if_pos h3, if_pos (by omega)]
  ·rw [if_neg h3, if_neg (show ¬ c < j + 1 by omega)]
theorem matA_set {L : List (List Po)} {n i j : Nat} (hi : i < n) : (matA L n i j).set i (rowA L n i (j + 1)) = matA L n i (j + 1) := by
 refine List.ext_getElem (by simp [matA]) fun r h1 h2 => ?_
 have hr : r < n := by simpa [matA] using h2
 have e1 : (matA L n i (j + 1))[r] = if r < i then rowA L n r n else if r = i then rowA L n i (j + 1) else rowId n r := by simp [matA]
 have e2 : (matA L n i j)[r]'(by simpa [matA] using hr) = if r < i then rowA L n r n else if r = i then rowA L n i j else rowId n r := by simp [matA]
 rw [List.getElem_set, e1, e2]
 by_cases h : i = r
 ·rw [if_pos h, if_neg (by omega), if_pos h.symm]
 ·rw [if_neg h]
  by_cases h3 : r < i
  ·rw [if_pos h3, if_pos h3]
  ·rw [if_neg h3, if_neg h3, if_neg (fun e => h e.symm), if_neg (fun e => h e.symm)]
theorem entA_rg {L : List (List Po)} (hL : AllRg 99 L) (i j : Nat) : Rg 100 (entA L i j) := by
 unfold entA
 have hr : RowRg 99 (L.getD i []) := by
  rw [List.getD_eq_getElem?_getD]
  by_cases hrl : i < L.length
  ·rw [List.getElem?_eq_getElem hrl]; exact hL _ (List.getElem_mem hrl)
  ·rw [List.getElem?_eq_none (by omega)]; intro p hp; cases hp
 refine plusP_rg ?_ ((timesP_rg (S := 0) (hr.at_ (by decide) j) (q := (0, [-1])) ⟨by decide, by decide⟩ (by decide) (by decide)).mono (by decide))
 split <;> exact ⟨by decide, by decide⟩
theorem alexM_rg {L : List (List Po)} (hL : AllRg 99 L) (n : Nat) : AllRg 100 (alexM L n) := by
 intro r hr p hp
 unfold alexM matA at hr
 obtain ⟨i, hi, rfl⟩ := List.mem_map.1 hr
 rw [List.mem_range] at hi
 rw [if_pos hi] at hp
 unfold rowA at hp
 obtain ⟨j, hj, rfl⟩ := List.mem_map.1 hp
 rw [List.mem_range] at hj
 rw [if_pos hj]
 exact entA_rg hL i j
/-- The coefficients that Alexander tells. -/
def negF (l : List Int) : List Int := if 0 < l.length ∧ l.getD 0 0 < 0 then l.map (fun x => wrap64 (-x)) else l
def alexF (n : Nat) (xs : List Int) : List Int := negF (laurentF (detF (alexM (burauF n xs) n) (n - 1))).2
def strap_Alexander.f (a0 : Int) (l1 : List Int) : Option (Int × List Int × Int) := some (if shortF a0 l1 ≠ 0 then (0, [], shortF a0 l1) else (0, alexF a0.toNat l1, 0))
/-- The example that each law asks for. -/
theorem alex_lives : strap_Alexander.f 2 [1, 1, 1] = some (0, [1, -1, 1], 0) := by decide +kernel
end Go.Proofs.Ytdldfdcedjmneaa.Own
