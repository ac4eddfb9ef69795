/- The declarations of Rxx8 that the claim Qw needs. -/
import Derived.Test.YtdpolfflemocaaaQwTkP
import Derived.Test.YtdpolfflemocaaaQwRxx0
import Derived.Test.YtdpolfflemocaaaQwRxx6
import Derived.Test.YtdpolfflemocaaaQwRxx7
namespace Go.Proofs.Ytdpolfflemocaaa.Rx
open Go.RowKit Go.Proofs.Ytdpolfflemocaaa.Own Go.Proofs.YtdpolfflemocaaaW.PrintWords Go.Proofs.YtdpolfflemocaaaW.PrintLast Go.Proofs.YtdpolfflemocaaaW.PrintMore
attribute [local go_sem] max2_int min2_int max_two min_two max_three min_three max_four min_four
set_option linter.unusedVariables false
set_option linter.unusedSimpArgs false
mutual
def gampref04_Cliques.l0 : Nat → Int → List (S52) → List (List Int) → Int → Option ((List (List Int)))
  | 0, _, _, _, _ => none
  | k + 1, x0, x1, x5, x6 => if 0 ≤ x0 then (if x6 < (shl .i64 1 x0) then ((gampref04_bits.f k x6 x0).bind fun t186 => ((gampref04_Clique.f k x1 t186).bind fun t189 => (if t189 = true then (gampref04_Cliques.l1 k x0 x1 x5 x6 t186 true 0) else (gampref04_Cliques.l0 k x0 x1 x5 (wrap64 (x6 + 1)))))) else (some x5)) else (none)
def gampref04_Cliques.l1 : Nat → Int → List (S52) → List (List Int) → Int → List Int → Bool → Int → Option ((List (List Int)))
  | 0, _, _, _, _, _, _, _ => none
  | k + 1, x0, x1, x5, x6, x7, x8, x9 => if x9 < x0 then (gampref04_Cliques.j2 k x0 x1 x5 x6 x7 x8 x9 x8) else (gampref04_Cliques.j2 k x0 x1 x5 x6 x7 x8 x9 false)
def gampref04_Cliques.j2 : Nat → Int → List (S52) → List (List Int) → Int → List Int → Bool → Int → Bool → Option ((List (List Int)))
  | 0, _, _, _, _, _, _, _, _ => none
  | k + 1, x0, x1, x5, x6, x7, x8, x9, x31 => if x31 = true then (if 0 ≤ x9 then (if (Go.bits .and .i64 (shr .i64 x6 x9) 1) = 0 then ((some (([] : List Int) : List Int)).bind fun y190 => (if y190.length + x7.length < 17592186044416 then ((some (y190 ++ x7 : List Int)).bind fun y193 => (if y193.length < 17592186044416 then ((gampref04_Clique.f k x1 (y193 ++ [x9])).bind fun t199 => (if t199 = true then (gampref04_Cliques.l1 k x0 x1 x5 x6 x7 false (wrap64 (x9 + 1))) else (gampref04_Cliques.l1 k x0 x1 x5 x6 x7 x8 (wrap64 (x9 + 1))))) else (none))) else (none))) else (gampref04_Cliques.l1 k x0 x1 x5 x6 x7 x8 (wrap64 (x9 + 1)))) else (none)) else (if x8 = true then (gampref04_Cliques.l2 k x0 x1 x5 x6 x7 0) else (gampref04_Cliques.l0 k x0 x1 x5 (wrap64 (x6 + 1))))
def gampref04_Cliques.l2 : Nat → Int → List (S52) → List (List Int) → Int → List Int → Int → Option ((List (List Int)))
  | 0, _, _, _, _, _, _ => none
  | k + 1, x0, x1, x5, x6, x7, x10 => if x10 < (x5.length : Int) then (if 0 ≤ x10 then ((gampref04_less.f k (rd_L2 x5 x10) x7).bind fun t201 => (if t201 = true then (gampref04_Cliques.l2 k x0 x1 x5 x6 x7 (wrap64 (x10 + 1))) else ((some (([] : List (List Int)) : List (List Int))).bind fun y202 => (if x10 ≤ (x5.length : Int) then ((some (x5.take (x10 : Int).toNat : List (List Int))).bind fun y205 => (if y202.length + y205.length < 5864062014805 then ((some (y202 ++ y205 : List (List Int))).bind fun y210 => (if y210.length < 5864062014805 then ((some (y210 ++ [x7] : List (List Int))).bind fun y213 => ((some (x5.drop (x10 : Int).toNat : List (List Int))).bind fun y216 => (if y213.length + y216.length < 5864062014805 then (gampref04_Cliques.l0 k x0 x1 (y213 ++ y216) (wrap64 (x6 + 1))) else (none)))) else (none))) else (none))) else (none))))) else (none)) else ((some (([] : List (List Int)) : List (List Int))).bind fun y224 => (if 0 ≤ x10 then (if x10 ≤ (x5.length : Int) then ((some (x5.take (x10 : Int).toNat : List (List Int))).bind fun y227 => (if y224.length + y227.length < 5864062014805 then ((some (y224 ++ y227 : List (List Int))).bind fun y232 => (if y232.length < 5864062014805 then ((some (y232 ++ [x7] : List (List Int))).bind fun y235 => ((some (x5.drop (x10 : Int).toNat : List (List Int))).bind fun y238 => (if y235.length + y238.length < 5864062014805 then (gampref04_Cliques.l0 k x0 x1 (y235 ++ y238) (wrap64 (x6 + 1))) else (none)))) else (none))) else (none))) else (none)) else (none)))
end
def gampref04_Cliques.f (k : Nat) (a0 : Int) (l1 : List (S52)) : Option ((List (List Int))) := gampref04_Cliques.l0 k a0 l1 (([] : List (List Int))) 1
theorem gampref04_Cliques.mono_l : ∀ k, (∀ y0 y1 y2 y3, LeO (gampref04_Cliques.l0 k y0 y1 y2 y3) (gampref04_Cliques.l0 (k + 1) y0 y1 y2 y3)) ∧ (∀ y0 y1 y2 y3 y4 y5 y6, LeO (gampref04_Cliques.l1 k y0 y1 y2 y3 y4 y5 y6) (gampref04_Cliques.l1 (k + 1) y0 y1 y2 y3 y4 y5 y6)) ∧ (∀ y0 y1 y2 y3 y4 y5 y6 y7, LeO (gampref04_Cliques.j2 k y0 y1 y2 y3 y4 y5 y6 y7) (gampref04_Cliques.j2 (k + 1) y0 y1 y2 y3 y4 y5 y6 y7)) ∧ (∀ y0 y1 y2 y3 y4 y5, LeO (gampref04_Cliques.l2 k y0 y1 y2 y3 y4 y5) (gampref04_Cliques.l2 (k + 1) y0 y1 y2 y3 y4 y5))
 | 0 => ⟨fun _ _ _ _ r h => by simp [gampref04_Cliques.l0] at h, fun _ _ _ _ _ _ _ r h => by simp [gampref04_Cliques.l1] at h, fun _ _ _ _ _ _ _ _ r h => by simp [gampref04_Cliques.j2] at h, fun _ _ _ _ _ _ r h => by simp [gampref04_Cliques.l2] at h⟩
 | k + 1 => by
  obtain ⟨ih0, ih1, ih2, ih3⟩ := gampref04_Cliques.mono_l k
  refine ⟨?_, ?_, ?_, ?_⟩
  ·intro y0 y1 y2 y3
   unfold gampref04_Cliques.l0
   repeat' first
   | (with_reducible exact ih0 _ _ _ _)
   | (with_reducible exact ih1 _ _ _ _ _ _ _)
   | (with_reducible exact ih2 _ _ _ _ _ _ _ _)
   | (with_reducible exact ih3 _ _ _ _ _ _)
   | (with_reducible exact gampref04_Clique.mono _ _ _)
   | (with_reducible exact gampref04_bits.mono _ _ _)
   | (with_reducible exact gampref04_less.mono _ _ _)
   | (with_reducible exact LeO.refl _)
   | (with_reducible exact LeO.none _)
   | (with_reducible refine LeO.ite ?_ ?_)
   | (with_reducible refine LeO.bind ?_ (fun _ => ?_))
   | exact ih0 _ _ _ _
   | exact ih1 _ _ _ _ _ _ _
   | exact ih2 _ _ _ _ _ _ _ _
   | exact ih3 _ _ _ _ _ _
   | exact gampref04_Clique.mono _ _ _
   | exact gampref04_bits.mono _ _ _
   | exact gampref04_less.mono _ _ _
   | exact LeO.none _
   | refine LeO.ite ?_ ?_
   | refine LeO.bind ?_ (fun _ => ?_)
  ·intro y0 y1 y2 y3 y4 y5 y6
   unfold gampref04_Cliques.l1
   repeat' first
   | (with_reducible exact ih0 _ _ _ _)
   | (with_reducible exact ih1 _ _ _ _ _ _ _)
   | (with_reducible exact ih2 _ _ _ _ _ _ _ _)
   | (with_reducible exact ih3 _ _ _ _ _ _)
   | (with_reducible exact gampref04_Clique.mono _ _ _)
   | (with_reducible exact gampref04_bits.mono _ _ _)
   | (with_reducible exact gampref04_less.mono _ _ _)
   | (with_reducible exact LeO.refl _)
   | (with_reducible exact LeO.none _)
   | (with_reducible refine LeO.ite ?_ ?_)
   | (with_reducible refine LeO.bind ?_ (fun _ => ?_))
   | exact ih0 _ _ _ _
   | exact ih1 _ _ _ _ _ _ _
   | exact ih2 _ _ _ _ _ _ _ _
   | exact ih3 _ _ _ _ _ _
   | exact gampref04_Clique.mono _ _ _
   | exact gampref04_bits.mono _ _ _
   | exact gampref04_less.mono _ _ _
   | exact LeO.none _
   | refine LeO.ite ?_ ?_
   | refine LeO.bind ?_ (fun _ => ?_)
  ·intro y0 y1 y2 y3 y4 y5 y6 y7
   unfold gampref04_Cliques.j2
   repeat' first
   | (with_reducible exact ih0 _ _ _ _)
   | (with_reducible exact ih1 _ _ _ _ _ _ _)
   | (with_reducible exact ih2 _ _ _ _ _ _ _ _)
   | (with_reducible exact ih3 _ _ _ _ _ _)
   | (with_reducible exact gampref04_Clique.mono _ _ _)
   | (with_reducible exact gampref04_bits.mono _ _ _)
   | (with_reducible exact gampref04_less.mono _ _ _)
   | (with_reducible exact LeO.refl _)
   | (with_reducible exact LeO.none _)
   | (with_reducible refine LeO.ite ?_ ?_)
   | (with_reducible refine LeO.bind ?_ (fun _ => ?_))
   | exact ih0 _ _ _ _
   | exact ih1 _ _ _ _ _ _ _
   | exact ih2 _ _ _ _ _ _ _ _
   | exact ih3 _ _ _ _ _ _
   | exact gampref04_Clique.mono _ _ _
   | exact gampref04_bits.mono _ _ _
   | exact gampref04_less.mono _ _ _
   | exact LeO.none _
   | refine LeO.ite ?_ ?_
   | refine LeO.bind ?_ (fun _ => ?_)
  ·intro y0 y1 y2 y3 y4 y5
   unfold gampref04_Cliques.l2
   repeat' first
   | (with_reducible exact ih0 _ _ _ _)
   | (with_reducible exact ih1 _ _ _ _ _ _ _)
   | (with_reducible exact ih2 _ _ _ _ _ _ _ _)
   | (with_reducible exact ih3 _ _ _ _ _ _)
   | (with_reducible exact gampref04_Clique.mono _ _ _)
   | (with_reducible exact gampref04_bits.mono _ _ _)
   | (with_reducible exact gampref04_less.mono _ _ _)
   | (with_reducible exact LeO.refl _)
   | (with_reducible exact LeO.none _)
   | (with_reducible refine LeO.ite ?_ ?_)
   | (with_reducible refine LeO.bind ?_ (fun _ => ?_))
   | exact ih0 _ _ _ _
   | exact ih1 _ _ _ _ _ _ _
   | exact ih2 _ _ _ _ _ _ _ _
   | exact ih3 _ _ _ _ _ _
   | exact gampref04_Clique.mono _ _ _
   | exact gampref04_bits.mono _ _ _
   | exact gampref04_less.mono _ _ _
   | exact LeO.none _
   | refine LeO.ite ?_ ?_
   | refine LeO.bind ?_ (fun _ => ?_)
theorem gampref04_Cliques.mono : ∀ a0 a1 k, LeO (gampref04_Cliques.f k a0 a1) (gampref04_Cliques.f (k + 1) a0 a1) := by
  intro a0 a1 k
  obtain ⟨ih0, ih1, ih2, ih3⟩ := gampref04_Cliques.mono_l k
  unfold gampref04_Cliques.f
  repeat' first
      | (with_reducible exact ih0 _ _ _ _)
      | (with_reducible exact ih1 _ _ _ _ _ _ _)
      | (with_reducible exact ih2 _ _ _ _ _ _ _ _)
      | (with_reducible exact ih3 _ _ _ _ _ _)
      | (with_reducible exact gampref04_Clique.mono _ _ _)
      | (with_reducible exact gampref04_bits.mono _ _ _)
      | (with_reducible exact gampref04_less.mono _ _ _)
      | (with_reducible exact LeO.refl _)
      | (with_reducible exact LeO.none _)
      | (with_reducible refine LeO.ite ?_ ?_)
      | (with_reducible refine LeO.bind ?_ (fun _ => ?_))
      | exact ih0 _ _ _ _
      | exact ih1 _ _ _ _ _ _ _
      | exact ih2 _ _ _ _ _ _ _ _
      | exact ih3 _ _ _ _ _ _
      | exact gampref04_Clique.mono _ _ _
      | exact gampref04_bits.mono _ _ _
      | exact gampref04_less.mono _ _ _
      | exact LeO.none _
      | refine LeO.ite ?_ ?_
      | refine LeO.bind ?_ (fun _ => ?_)
end Go.Proofs.Ytdpolfflemocaaa.Rx
