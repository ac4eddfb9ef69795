/- The declarations of Rxx8 that the claim Qc needs. -/
import Derived.Test.YtdpolfflemocaaaQcTkP
import Derived.Test.YtdpolfflemocaaaQcRxx0
import Derived.Test.YtdpolfflemocaaaQcRxx6
import Derived.Test.YtdpolfflemocaaaQcRxx7
namespace Go.Proofs.Ytdpolfflemocaaa.Rx
open Go.RowKit Go.Proofs.Ytdpolfflemocaaa.Own Go.Proofs.YtdpolfflemocaaaW.PrintWords Go.Proofs.YtdpolfflemocaaaW.PrintLast Go.Proofs.YtdpolfflemocaaaW.PrintMore
attribute [local go_sem] max2_int min2_int max_two min_two max_three min_three max_four min_four
set_option linter.unusedVariables false
set_option linter.unusedSimpArgs false
mutual
def gampref04_Cliques.l0 : Nat → Int → List (S52) → List (List Int) → Int → Option ((List (List Int)))
  | 0, _, _, _, _ => none
  | k + 1, x0, x1, x5, x6 => if 0 ≤ x0 then (if x6 < (shl .i64 1 x0) then ((gampref04_bits.f k x6 x0).bind fun t186 => ((gampref04_Clique.f k x1 t186).bind fun t189 => (if t189 = true then (gampref04_Cliques.l1 k x0 x1 x5 x6 t186 true 0) else (gampref04_Cliques.l0 k x0 x1 x5 (wrap64 (x6 + 1)))))) else (some x5)) else (none)
def gampref04_Cliques.l1 : Nat → Int → List (S52) → List (List Int) → Int → List Int → Bool → Int → Option ((List (List Int)))
  | 0, _, _, _, _, _, _, _ => none
  | k + 1, x0, x1, x5, x6, x7, x8, x9 => if x9 < x0 then (gampref04_Cliques.j2 k x0 x1 x5 x6 x7 x8 x9 x8) else (gampref04_Cliques.j2 k x0 x1 x5 x6 x7 x8 x9 false)
def gampref04_Cliques.j2 : Nat → Int → List (S52) → List (List Int) → Int → List Int → Bool → Int → Bool → Option ((List (List Int)))
  | 0, _, _, _, _, _, _, _, _ => none
  | k + 1, x0, x1, x5, x6, x7, x8, x9, x31 => if x31 = true then (if 0 ≤ x9 then (if (Go.bits .and .i64 (shr .i64 x6 x9) 1) = 0 then ((some (([] : List Int) : List Int)).bind fun y190 => (if y190.length + x7.length < 17592186044416 then ((some (y190 ++ x7 : List Int)).bind fun y193 => (if y193.length < 17592186044416 then ((gampref04_Clique.f k x1 (y193 ++ [x9])).bind fun t199 => (if t199 = true then (gampref04_Cliques.l1 k x0 x1 x5 x6 x7 false (wrap64 (x9 + 1))) else (gampref04_Cliques.l1 k x0 x1 x5 x6 x7 x8 (wrap64 (x9 + 1))))) else (none))) else (none))) else (gampref04_Cliques.l1 k x0 x1 x5 x6 x7 x8 (wrap64 (x9 + 1)))) else (none)) else (if x8 = true then (gampref04_Cliques.l2 k x0 x1 x5 x6 x7 0) else (gampref04_Cliques.l0 k x0 x1 x5 (wrap64 (x6 + 1))))
def gampref04_Cliques.l2 : Nat → Int → List (S52) → List (List Int) → Int → List Int → Int → Option ((List (List Int)))
  | 0, _, _, _, _, _, _ => none
  | k + 1, x0, x1, x5, x6, x7, x10 => if x10 < (x5.length : Int) then (if 0 ≤ x10 then ((gampref04_less.f k (rd_L2 x5 x10) x7).bind fun t201 => (if t201 = true then (gampref04_Cliques.l2 k x0 x1 x5 x6 x7 (wrap64 (x10 + 1))) else ((some (([] : List (List Int)) : List (List Int))).bind fun y202 => (if x10 ≤ (x5.length : Int) then ((some (x5.take (x10 : Int).toNat : List (List Int))).bind fun y205 => (if y202.length + y205.length < 5864062014805 then ((some (y202 ++ y205 : List (List Int))).bind fun y210 => (if y210.length < 5864062014805 then ((some (y210 ++ [x7] : List (List Int))).bind fun y213 => ((some (x5.drop (x10 : Int).toNat : List (List Int))).bind fun y216 => (if y213.length + y216.length < 5864062014805 then (gampref04_Cliques.l0 k x0 x1 (y213 ++ y216) (wrap64 (x6 + 1))) else (none)))) else (none))) else (none))) else (none))))) else (none)) else ((some (([] : List (List Int)) : List (List Int))).bind fun y224 => (if 0 ≤ x10 then (if x10 ≤ (x5.length : Int) then ((some (x5.take (x10 : Int).toNat : List (List Int))).bind fun y227 => (if y224.length + y227.length < 5864062014805 then ((some (y224 ++ y227 : List (List Int))).bind fun y232 => (if y232.length < 5864062014805 then ((some (y232 ++ [x7] : List (List Int))).bind fun y235 => ((some (x5.drop (x10 : Int).toNat : List (List Int))).bind fun y238 => (if y235.length + y238.length < 5864062014805 then (gampref04_Cliques.l0 k x0 x1 (y235 ++ y238) (wrap64 (x6 + 1))) else (none)))) else (none))) else (none))) else (none)) else (none)))
end
def gampref04_Cliques.f (k : Nat) (a0 : Int) (l1 : List (S52)) : Option ((List (List Int))) := gampref04_Cliques.l0 k a0 l1 (([] : List (List Int))) 1
theorem gampref04_Cliques.mono_l : ∀ k, (∀ y0 y1 y2 y3, LeO (gampref04_Cliques.l0 k y0 y1 y2 y3) (gampref04_Cliques.l0 (k + 1) y0 y1 y2 y3)) ∧ (∀ y0 y1 y2 y3 y4 y5 y6, LeO (gampref04_Cliques.l1 k y0 y1 y2 y3 y4 y5 y6) (gampref04_Cliques.l1 (k + 1) y0 y1 y2 y3 y4 y5 y6)) ∧ (∀ y0 y1 y2 y3 y4 y5 y6 y7, LeO (gampref04_Cliques.j2 k y0 y1 y2 y3 y4 y5 y6 y7) (gampref04_Cliques.j2 (k + 1) y0 y1 y2 y3 y4 y5 y6 y7)) ∧ (∀ y0 y1 y2 y3 y4 y5, LeO (gampref04_Cliques.l2 k y0 y1 y2 y3 y4 y5) (gampref04_Cliques.l2 (k + 1) y0 y1 y2 y3 y4 y5))
 | 0 => ⟨fun _ _ _ _ r h => by simp [gampref04_Cliques.l0] at h, fun _ _ _ _ _ _ _ r h => by simp [gampref04_Cliques.l1] at h, fun _ _ _ _ _ _ _ _ r h => by simp [gampref04_Cliques.j2] at h, fun _ _ _ _ _ _ r h => by simp [gampref04_Cliques.l2] at h⟩
 | k + 1 => by
  obtain ⟨ih0, ih1, ih2, ih3⟩ := gampref04_Cliques.mono_l k
  refine ⟨?_, ?_, ?_, ?_⟩
  ·intro y0 y1 y2 y3
   unfold gampref04_Cliques.l0
   repeat' first
   | (with_reducible exact ih0 _ _ _ _)
   | (with_reducible exact ih1 _ _ _ _ _ _ _)
   | (with_reducible exact ih2 _ _ _ _ _ _ _ _)
   | (with_reducible exact ih3 _ _ _ _ _ _)
   | (with_reducible exact gampref04_Clique.mono _ _ _)
   | (with_reducible exact gampref04_bits.mono _ _ _)
   | (with_reducible exact gampref04_less.mono _ _ _)
   | (with_reducible exact LeO.refl _)
   | (with_reducible exact LeO.none _)
   | (with_reducible refine LeO.ite ?_ ?_)
   | (with_reducible refine LeO.bind ?_ (fun _ => ?_))
   | exact ih0 _ _ _ _
   | exact ih1 _ _ _ _ _ _ _
   | exact ih2 _ _ _ _ _ _ _ _
   | exact ih3 _ _ _ _ _ _
   | exact gampref04_Clique.mono _ _ _
   | exact gampref04_bits.mono _ _ _
   | exact gampref04_less.mono _ _ _
   | exact LeO.none _
   | refine LeO.ite ?_ ?_
   | refine LeO.bind ?_ (fun _ => ?_)
  ·intro y0 y1 y2 y3 y4 y5 y6
   unfold gampref04_Cliques.l1
   repeat' first
   | (with_reducible exact ih0 _ _ _ _)
   | (with_reducible exact ih1 _ _ _ _ _ _ _)
   | (with_reducible exact ih2 _ _ _ _ _ _ _ _)
   | (with_reducible exact ih3 _ _ _ _ _ _)
   | (with_reducible exact gampref04_Clique.mono _ _ _)
   | (with_reducible exact gampref04_bits.mono _ _ _)
   | (with_reducible exact gampref04_less.mono _ _ _)
   | (with_reducible exact LeO.refl _)
   | (with_reducible exact LeO.none _)
   | (with_reducible refine LeO.ite ?_ ?_)
   | (with_reducible refine LeO.bind ?_ (fun _ => ?_))
   | exact ih0 _ _ _ _
   | exact ih1 _ _ _ _ _ _ _
   | exact ih2 _ _ _ _ _ _ _ _
   | exact ih3 _ _ _ _ _ _
   | exact gampref04_Clique.mono _ _ _
   | exact gampref04_bits.mono _ _ _
   | exact gampref04_less.mono _ _ _
   | exact LeO.none _
   | refine LeO.ite ?_ ?_
   | refine LeO.bind ?_ (fun _ => ?_)
  ·intro y0 y1 y2 y3 y4 y5 y6 y7
   unfold gampref04_Cliques.j2
   repeat' first
   | (with_reducible exact ih0 _ _ _ _)
   | (with_reducible exact ih1 _ _ _ _ _ _ _)
   | (with_reducible exact ih2 _ _ _ _ _ _ _ _)
   | (with_reducible exact ih3 _ _ _ _ _ _)
   | (with_reducible exact gampref04_Clique.mono _ _ _)
   | (with_reducible exact gampref04_bits.mono _ _ _)
   | (with_reducible exact gampref04_less.mono _ _ _)
   | (with_reducible exact LeO.refl _)
   | (with_reducible exact LeO.none _)
   | (with_reducible refine LeO.ite ?_ ?_)
   | (with_reducible refine LeO.bind ?_ (fun _ => ?_))
   | exact ih0 _ _ _ _
   | exact ih1 _ _ _ _ _ _ _
   | exact ih2 _ _ _ _ _ _ _ _
   | exact ih3 _ _ _ _ _ _
   | exact gampref04_Clique.mono _ _ _
   | exact gampref04_bits.mono _ _ _
   | exact gampref04_less.mono _ _ _
   | exact LeO.none _
   | refine LeO.ite ?_ ?_
   | refine LeO.bind ?_ (fun _ => ?_)
  ·intro y0 y1 y2 y3 y4 y5
   unfold gampref04_Cliques.l2
   repeat' first
   | (with_reducible exact ih0 _ _ _ _)
   | (with_reducible exact ih1 _ _ _ _ _ _ _)
   | (with_reducible exact ih2 _ _ _ _ _ _ _ _)
   | (with_reducible exact ih3 _ _ _ _ _ _)
   | (with_reducible exact gampref04_Clique.mono _ _ _)
   | (with_reducible exact gampref04_bits.mono _ _ _)
   | (with_reducible exact gampref04_less.mono _ _ _)
   | (with_reducible exact LeO.refl _)
   | (with_reducible exact LeO.none _)
   | (with_reducible refine LeO.ite ?_ ?_)
   | (with_reducible refine LeO.bind ?_ (fun _ => ?_))
   | exact ih0 _ _ _ _
   | exact ih1 _ _ _ _ _ _ _
   | exact ih2 _ _ _ _ _ _ _ _
   | exact ih3 _ _ _ _ _ _
   | exact gampref04_Clique.mono _ _ _
   | exact gampref04_bits.mono _ _ _
   | exact gampref04_less.mono _ _ _
   | exact LeO.none _
   | refine LeO.ite ?_ ?_
   | refine LeO.bind ?_ (fun _ => ?_)
theorem gampref04_Cliques.mono : ∀ a0 a1 k, LeO (gampref04_Cliques.f k a0 a1) (gampref04_Cliques.f (k + 1) a0 a1) := by
  intro a0 a1 k
  obtain ⟨ih0, ih1, ih2, ih3⟩ := gampref04_Cliques.mono_l k
  unfold gampref04_Cliques.f
  repeat' first
      | (with_reducible exact ih0 _ _ _ _)
      | (with_reducible exact ih1 _ _ _ _ _ _ _)
      | (with_reducible exact ih2 _ _ _ _ _ _ _ _)
      | (with_reducible exact ih3 _ _ _ _ _ _)
      | (with_reducible exact gampref04_Clique.mono _ _ _)
      | (with_reducible exact gampref04_bits.mono _ _ _)
      | (with_reducible exact gampref04_less.mono _ _ _)
      | (with_reducible exact LeO.refl _)
      | (with_reducible exact LeO.none _)
      | (with_reducible refine LeO.ite ?_ ?_)
      | (with_reducible refine LeO.bind ?_ (fun _ => ?_))
      | exact ih0 _ _ _ _
      | exact ih1 _ _ _ _ _ _ _
      | exact ih2 _ _ _ _ _ _ _ _
      | exact ih3 _ _ _ _ _ _
      | exact gampref04_Clique.mono _ _ _
      | exact gampref04_bits.mono _ _ _
      | exact gampref04_less.mono _ _ _
      | exact LeO.none _
      | refine LeO.ite ?_ ?_
      | refine LeO.bind ?_ (fun _ => ?_)
set_option maxHeartbeats 8000000 in
set_option maxRecDepth 100000 in
theorem gampref04_Cliques.calls (k : Nat) (a0 : Int) (A1 : Option Addr) (c1 : Nat) (l1 : List (S52)) (r : List (List Int)) (w : World) (hr1 : Kd.C k52 w A1 l1.length l1) (hc1 : l1.length ≤ c1) (h : gampref04_Cliques.f k a0 l1 = some r) :
  Calls Try.prog 19 #[.int .i64 a0, .slice A1 l1.length c1] w fun e w' => ∃ v0_ : Value, e = .returned (v0_) ∧ Kd.N (Kd.slice 3 (Kd.int .i64)) 34 w' w.heap.size (fun k_ => (w.heap.size ≤ k_)) v0_ r ∧ Below w.heap.size w w' := by
 have HR1 := Aside0.mk hr1
 have HC1 := Aside0.mk hc1
 clear hr1 hc1
 have HB := Aside0.mk (Below.refl w.heap.size w)
 have H : (gampref04_Cliques.l0 k a0 l1 (([] : List (List Int))) 1) = some r := h
 clear h
 obtain ⟨y183, hy183⟩ : ∃ y_ : List (List Int), y_ = (([] : List (List Int))) := ⟨_, rfl⟩
 replace H : (gampref04_Cliques.l0 k a0 l1 y183 1) = some r := by first | (rw [hy183]; with_reducible exact H) | (have H2_ := (Option.bind_some _ _).symm.trans H; rw [hy183]; with_reducible exact H2_) | (have H2_ := (Option.bind_some _ _).symm.trans H; with_reducible exact H2_) | with_reducible exact H | (rw [hy183]; exact H) | exact H
 have Ny183 := Aside0.mk hy183
 clear hy183
 have H' := Aside0.mk H
 clear H
 go_enter Try.func19, Try.ntmps19
 go_wp2_with (first | ((with_reducible refine gate_dst (N := 12) rfl ?_); (try (refine gate_guard (by rfl) ?_; dsimp only)); refine Kd.N_lit (Kd.slice 3 (Kd.int .i64)) _ 34 ?hg (N' := 12) ?hd (xs := ([] : List (List Int))) (inner := []) (ok := (fun k_ => (w.heap.size ≤ k_))) (okp := (fun k_ => (w.heap.size ≤ k_))) ?hr ?hp (fun _ hk => hk) ((show ∀ k_, w.heap.size ≤ k_ → (fun k_ => (w.heap.size ≤ k_)) k_ from fun k_ hk => (Nat.le_trans (below_size (bl HB)) hk)) _ (Nat.le_refl _)) (Below.refl _ _) (Nat.le_refl _) (by simp) ?_; (case hd => rfl); (case hg => rfl); (case hr => first | (go_simp; done) | (go_simp; rfl)); (case hp => exact (Reps.none _ _)); intro v184 w3 ho4 hb hg_ hnew_; clear hg_ hnew_; (first | rw [← Ny183.out] at ho4 | (simp only [Int.reduceToNat] at ho4; rw [← Ny183.out] at ho4)); have n0_ := Aside0.mk (Kd.N_lower ho4 (below_size (bl HB))); have n1_ := Aside0.mk (below_step (bl HB) hb); clear HB; have HO185 := n0_; have HB := n1_; clear n0_ n1_; clear hb ho4))
 go_loopg [5, 6] k (fun kq v5 v6 w' => ∃ (x5_1 : List (List Int)) (x6_1 : Int), v6 = .int .i64 x6_1 ∧ Aside0 (gampref04_Cliques.l0 kq a0 l1 x5_1 x6_1 = some r) ∧ Aside0 (kq ≤ k) ∧ Aside0 (Kd.N (Kd.slice 3 (Kd.int .i64)) 34 w' w.heap.size (fun k_ => (w.heap.size ≤ k_)) v5 x5_1) ∧ Aside0 (Below w.heap.size w w'))
 case atStart => exact ⟨(y183), (1), (by first | rfl | (simp; done) | (simp [*]; done)), H', ⟨Nat.le_refl _⟩, ⟨nl HO185⟩, ⟨bl HB⟩⟩
 case round =>
  clear H'
  try clear c1
  try clear p2
  obtain ⟨x5_1, x6_1, rfl, HA, HK1, HO_5, HB⟩ := hrel
  cases gk with
  | zero => exact absurd HA.out (by simp [gampref04_Cliques.l0])
  | succ k1 =>
   have H := HA.out
   clear HA
   simp only [gampref04_Cliques.l0] at H
   by_cases c5 : 0 ≤ a0
   ·rw [if_pos c5] at H
    have c5b0 := eq_true c5
    have c5b1 : decide (0 ≤ a0) = true := decide_eq_true c5
    clear c5
    obtain ⟨ji6, hji6⟩ : ∃ j_ : Int, (shl .i64 1 a0) = j_ := ⟨_, rfl⟩
    replace H : (if x6_1 < (ji6) then ((gampref04_bits.f k1 x6_1 a0).bind fun t186 => ((gampref04_Clique.f k1 l1 t186).bind fun t189 => (if t189 = true then (gampref04_Cliques.l1 k1 a0 l1 x5_1 x6_1 t186 true 0) else (gampref04_Cliques.l0 k1 a0 l1 x5_1 (wrap64 (x6_1 + 1)))))) else (some x5_1)) = some r := by first | (rw [hji6] at H; exact H) | (simp only [hji6] at H ⊢; exact H)
    have hji6_ : (IntKind.i64.wrap (1 * 2 ^ min a0.toNat 64)) = ji6 := hji6
    have hji6z : a0 ≤ 64 → (IntKind.i64.wrap (1 * 2 ^ a0.toNat)) = ji6 := shl_small hji6
    have hji6u : (IntKind.i64.wrap (2 ^ min a0.toNat 64)) = ji6 := by have h_ := hji6_; rw [Int.one_mul] at h_; exact h_
    have hji6v : a0 ≤ 64 → (IntKind.i64.wrap (2 ^ a0.toNat)) = ji6 := fun hle_ => by have h_ := hji6z hle_; rw [Int.one_mul] at h_; exact h_
    have hji6y : (wrap64 (1 * 2 ^ min a0.toNat 64)) = ji6 := (i64_w _).symm.trans hji6_
    have hji6x : a0 ≤ 64 → (wrap64 (1 * 2 ^ a0.toNat)) = ji6 := fun h_ => (i64_w _).symm.trans (hji6z h_)
    by_cases c7 : x6_1 < (ji6)
    ·rw [if_pos c7] at H
     have c7b0 : decide (x6_1 < (ji6)) = true := decide_eq_true c7
     clear c7
     replace H := Option.bind_eq_some_iff.mp H
     obtain ⟨t186, A80, H⟩ := H
     replace H : ((gampref04_Clique.f k1 l1 t186).bind fun t189 => (if t189 = true then (gampref04_Cliques.l1 k1 a0 l1 x5_1 x6_1 t186 true 0) else (gampref04_Cliques.l0 k1 a0 l1 x5_1 (wrap64 (x6_1 + 1))))) = some r := H
     have A8 := Aside0.mk A80
     clear A80
     replace H := Option.bind_eq_some_iff.mp H
     obtain ⟨t189, A90, H⟩ := H
     replace H : (if t189 = true then (gampref04_Cliques.l1 k1 a0 l1 x5_1 x6_1 t186 true 0) else (gampref04_Cliques.l0 k1 a0 l1 x5_1 (wrap64 (x6_1 + 1)))) = some r := H
     have A9 := Aside0.mk A90
     clear A90
     by_cases c10 : t189 = true
     ·subst c10
      have H1 : (gampref04_Cliques.l1 k1 a0 l1 x5_1 x6_1 t186 true 0) = some r := by rw [if_pos rfl] at H; exact H
      clear H
      have H := H1
      clear H1
      have H' := Aside0.mk H
      clear H
      go_wp2_with (first | ((with_reducible refine gate_callee (f := 56) rfl ?_); refine gL 21 Try.func56 #[.int .i64 x6_1, .int .i64 a0] ?_; (with_reducible refine (gampref04_bits.calls k1 x6_1 a0 t186 _ A8.out).mono ?_); rintro e w11 ⟨v187, rfl, ho0, hb⟩; refine ⟨_, rfl, ?_⟩; have n0_ := Aside0.mk (Kd.N_elder' (nl HO_5) (Kd.R_base ho0) hb); have n1_ := Aside0.mk (Kd.R_lower (Kd.R_newM (M := fun k_ => (w.heap.size ≤ k_)) ho0 (below_size (bl HB)) (fun k_ h_ => h_)) (below_size (bl HB))); have n2_ := Aside0.mk (below_step (bl HB) hb); clear HO_5; clear HB; have HO_5 := n0_; have HO188 := n1_; have HB := n2_; clear n0_ n1_ n2_; (try clear hb); (try clear hb2); (try clear hk); (try clear hi); (try clear ho0); obtain ⟨Ao12, co12, eo12⟩ := Kd.R_slice HO188.out; subst eo12) | ((with_reducible refine gate_callee (f := 39) rfl ?_); refine gL 24 Try.func39 #[.slice A1 l1.length c1, .slice Ao12 t186.length co12] ?_; (with_reducible refine (gampref04_Clique.calls k1 _ _ l1 _ _ t186 true _ ?side1 ?side2 ?side3 ?side4 A9.out).mono ?_); (case side1 => exact cl (Kd.C_below HR1.out HB.out)); (case side2 => exact HC1.out); (case side3 => exact cl ((Kd.R_reads' HO188.out).2.2)); (case side4 => exact (Kd.R_reads' HO188.out).2.1); rintro e w13 ⟨rfl, hb⟩; refine ⟨_, rfl, ?_⟩; have n0_ := Aside0.mk (Kd.N_below (nl HO_5) hb); have n1_ := Aside0.mk (Kd.R_below (rl HO188) hb); have n2_ := Aside0.mk (below_step (bl HB) hb); clear HO_5; clear HO188; clear HB; have HO_5 := n0_; have HO188 := n1_; have HB := n2_; clear n0_ n1_ n2_; (try clear hb); (try clear hb2); (try clear hk); (try clear hi)))
      go_loopg [8, 9] k1 (fun kq v8 v9 w' => ∃ (x8_2 : Bool) (x9_2 : Int), v8 = .bool x8_2 ∧ v9 = .int .i64 x9_2 ∧ Aside0 (gampref04_Cliques.l1 kq a0 l1 x5_1 x6_1 t186 x8_2 x9_2 = some r) ∧ Aside0 (kq ≤ k1) ∧ Aside0 (Kd.N (Kd.slice 3 (Kd.int .i64)) 34 w' w.heap.size (fun k_ => (w.heap.size ≤ k_) ∧ some k_ ≠ ((.slice Ao12 t186.length co12) : Value).ownBlock) u5 x5_1) ∧ Aside0 (Kd.R (Kd.int .i64) 3 w' w.heap.size (fun k_ => (w.heap.size ≤ k_)) (.slice Ao12 t186.length co12) t186) ∧ Aside0 (Below w.heap.size w w'))
      case atStart => exact ⟨(true), (0), (by first | rfl | (simp; done) | (simp [*]; done)), (by first | rfl | (simp; done) | (simp [*]; done)), H', ⟨Nat.le_refl _⟩, ⟨nl HO_5⟩, ⟨by (with_reducible repeat (first | apply Kd.R_alloc | apply Kd.R_drewN | apply Kd.R_drew)); exact Kd.R_mono HO188.out (fun _ hk => hk.1)⟩, ⟨bl HB⟩⟩
      case round =>
       clear H'
       try clear c1
       try clear p2
       try clear c3
       try clear c5
       try clear c5b0
       try clear c5b1
       try clear p6
       try clear c7
       try clear c7b0
       try clear c10
       try clear p2
       obtain ⟨x8_2, x9_2, rfl, rfl, HA, HK2, HO_5, HO_7, HB⟩ := hrel
       cases gk with
       | zero => exact absurd HA.out (by simp [gampref04_Cliques.l1])
       | succ k2 =>
        have H := HA.out
        clear HA
        simp only [gampref04_Cliques.l1] at H
        have HC14 := Aside0.mk H
        clear H
        go_upto_region 9 with (fail)
        go_cut [31] (fun v31 wc => ∃ (kq : Nat) (x31_13 : Bool), v31 = .bool x31_13 ∧ Aside0 (gampref04_Cliques.j2 kq a0 l1 x5_1 x6_1 t186 x8_2 x9_2 x31_13 = some r) ∧ Aside0 (kq ≤ k2) ∧ Aside0 (Kd.N (Kd.slice 3 (Kd.int .i64)) 34 wc w.heap.size (fun k_ => (w.heap.size ≤ k_) ∧ some k_ ≠ ((.slice Ao12 t186.length co12) : Value).ownBlock) u5 x5_1) ∧ Aside0 (Kd.R (Kd.int .i64) 3 wc w.heap.size (fun k_ => (w.heap.size ≤ k_)) (.slice Ao12 t186.length co12) t186) ∧ Aside0 (Below w.heap.size w wc))
        case first =>
         have H := HC14.out
         clear HC14
         by_cases c15 : x9_2 < a0
         ·rw [if_pos c15] at H
          have c15b0 : decide (x9_2 < a0) = true := decide_eq_true c15
          clear c15
          (first | rw [c15b0] | (simp only [i64_w, i32_w]; rw [c15b0]) | skip)
          have H' := Aside0.mk H
          clear H
          go_wp2
          go_meet
          case rel => exact ⟨_, (x8_2), (by first | rfl | (simp; done) | (simp [*]; done)), H', ⟨by have := HK1.out; have := HK2.out; first | omega | exact Nat.le_refl _⟩, ⟨nl HO_5⟩, ⟨rl HO_7⟩, ⟨bl HB⟩⟩
         ·rw [if_neg c15] at H
          have c15b0 : decide (x9_2 < a0) = false := decide_eq_false c15
          clear c15
          (first | rw [c15b0] | (simp only [i64_w, i32_w]; rw [c15b0]) | skip)
          have H' := Aside0.mk H
          clear H
          go_wp2
          go_meet
          case rel => exact ⟨_, (false), (by first | rfl | (simp; done) | (simp [*]; done)), H', ⟨by have := HK1.out; have := HK2.out; first | omega | exact Nat.le_refl _⟩, ⟨nl HO_5⟩, ⟨rl HO_7⟩, ⟨bl HB⟩⟩
        case rest =>
         clear HC14
         try clear c1
         try clear p2
         try clear c3
         try clear c5
         try clear c5b0
         try clear c5b1
         try clear p6
         try clear c7
         try clear c7b0
         try clear c10
         try clear c15
         try clear c15b0
         try clear p2
         try clear p6
         obtain ⟨kq, x31_13, rfl, HA, HJ13, HO_5, HO_7, HB⟩ := hcut
         cases kq with
         | zero => exact absurd HA.out (by simp [gampref04_Cliques.j2])
         | succ kj13 =>
          have H := HA.out
          clear HA
          simp only [gampref04_Cliques.j2] at H
          by_cases c16 : x31_13 = true
          ·subst c16
           have H1 : (if 0 ≤ x9_2 then (if (Go.bits .and .i64 (shr .i64 x6_1 x9_2) 1) = 0 then ((some (([] : List Int) : List Int)).bind fun y190 => (if y190.length + t186.length < 17592186044416 then ((some (y190 ++ t186 : List Int)).bind fun y193 => (if y193.length < 17592186044416 then ((gampref04_Clique.f kj13 l1 (y193 ++ [x9_2])).bind fun t199 => (if t199 = true then (gampref04_Cliques.l1 kj13 a0 l1 x5_1 x6_1 t186 false (wrap64 (x9_2 + 1))) else (gampref04_Cliques.l1 kj13 a0 l1 x5_1 x6_1 t186 x8_2 (wrap64 (x9_2 + 1))))) else (none))) else (none))) else (gampref04_Cliques.l1 kj13 a0 l1 x5_1 x6_1 t186 x8_2 (wrap64 (x9_2 + 1)))) else (none)) = some r := by rw [if_pos rfl] at H; exact H
           clear H
           have H := H1
           clear H1
           by_cases c17 : 0 ≤ x9_2
           ·rw [if_pos c17] at H
            have c17b0 := eq_true c17
            have c17b1 : decide (0 ≤ x9_2) = true := decide_eq_true c17
            clear c17
            obtain ⟨ji18, hji18⟩ : ∃ j_ : Int, (shr .i64 x6_1 x9_2) = j_ := ⟨_, rfl⟩
            replace H : (if (Go.bits .and .i64 (ji18) 1) = 0 then ((some (([] : List Int) : List Int)).bind fun y190 => (if y190.length + t186.length < 17592186044416 then ((some (y190 ++ t186 : List Int)).bind fun y193 => (if y193.length < 17592186044416 then ((gampref04_Clique.f kj13 l1 (y193 ++ [x9_2])).bind fun t199 => (if t199 = true then (gampref04_Cliques.l1 kj13 a0 l1 x5_1 x6_1 t186 false (wrap64 (x9_2 + 1))) else (gampref04_Cliques.l1 kj13 a0 l1 x5_1 x6_1 t186 x8_2 (wrap64 (x9_2 + 1))))) else (none))) else (none))) else (gampref04_Cliques.l1 kj13 a0 l1 x5_1 x6_1 t186 x8_2 (wrap64 (x9_2 + 1)))) = some r := by first | (rw [hji18] at H; exact H) | (simp only [hji18] at H ⊢; exact H)
            have hji18_ : (x6_1 / 2 ^ min x9_2.toNat 64) = ji18 := hji18
            have hji18z : x9_2 ≤ 64 → (x6_1 / 2 ^ x9_2.toNat) = ji18 := shr_small hji18
            by_cases c19 : (Go.bits .and .i64 (ji18) 1) = 0
            ·rw [if_pos c19] at H
             have c19b0 : ((Go.bits .and .i64 (ji18) 1) == 0) = true := beq_iff_eq.mpr c19
             have c19b1 : ((Go.bits .and .i64 (ji18) 1) != 0) = false := bne_eq_false_iff_eq.mpr c19
             clear c19
             obtain ⟨y190, hy190⟩ : ∃ y_ : List Int, y_ = (([] : List Int)) := ⟨_, rfl⟩
             replace H : (if y190.length + t186.length < 17592186044416 then ((some (y190 ++ t186 : List Int)).bind fun y193 => (if y193.length < 17592186044416 then ((gampref04_Clique.f kj13 l1 (y193 ++ [x9_2])).bind fun t199 => (if t199 = true then (gampref04_Cliques.l1 kj13 a0 l1 x5_1 x6_1 t186 false (wrap64 (x9_2 + 1))) else (gampref04_Cliques.l1 kj13 a0 l1 x5_1 x6_1 t186 x8_2 (wrap64 (x9_2 + 1))))) else (none))) else (none)) = some r := by first | (rw [hy190]; with_reducible exact H) | (have H2_ := (Option.bind_some _ _).symm.trans H; rw [hy190]; with_reducible exact H2_) | (have H2_ := (Option.bind_some _ _).symm.trans H; with_reducible exact H2_) | with_reducible exact H | (rw [hy190]; exact H) | exact H
             have Ny190 := Aside0.mk hy190
             clear hy190
             by_cases c20 : y190.length + t186.length < 17592186044416
             ·rw [if_pos c20] at H
              have LMc20 := Aside0.mk c20
              clear c20
              obtain ⟨y193, hy193⟩ : ∃ y_ : List Int, y_ = (y190 ++ t186) := ⟨_, rfl⟩
              replace H : (if y193.length < 17592186044416 then ((gampref04_Clique.f kj13 l1 (y193 ++ [x9_2])).bind fun t199 => (if t199 = true then (gampref04_Cliques.l1 kj13 a0 l1 x5_1 x6_1 t186 false (wrap64 (x9_2 + 1))) else (gampref04_Cliques.l1 kj13 a0 l1 x5_1 x6_1 t186 x8_2 (wrap64 (x9_2 + 1))))) else (none)) = some r := by first | (rw [hy193]; with_reducible exact H) | (have H2_ := (Option.bind_some _ _).symm.trans H; rw [hy193]; with_reducible exact H2_) | (have H2_ := (Option.bind_some _ _).symm.trans H; with_reducible exact H2_) | with_reducible exact H | (rw [hy193]; exact H) | exact H
              have Ny193 := Aside0.mk hy193
              clear hy193
              by_cases c21 : y193.length < 17592186044416
              ·rw [if_pos c21] at H
               have LMc21 := Aside0.mk c21
               clear c21
               obtain ⟨y196, hy196⟩ : ∃ y_ : List Int, y_ = (y193 ++ [x9_2]) := ⟨_, rfl⟩
               replace H : ((gampref04_Clique.f kj13 l1 y196).bind fun t199 => (if t199 = true then (gampref04_Cliques.l1 kj13 a0 l1 x5_1 x6_1 t186 false (wrap64 (x9_2 + 1))) else (gampref04_Cliques.l1 kj13 a0 l1 x5_1 x6_1 t186 x8_2 (wrap64 (x9_2 + 1))))) = some r := by first | (rw [hy196]; with_reducible exact H) | (have H2_ := (Option.bind_some _ _).symm.trans H; rw [hy196]; with_reducible exact H2_) | (have H2_ := (Option.bind_some _ _).symm.trans H; with_reducible exact H2_) | with_reducible exact H | (rw [hy196]; exact H) | exact H
               have Ny196 := Aside0.mk hy196
               clear hy196
               replace H := Option.bind_eq_some_iff.mp H
               obtain ⟨t199, A220, H⟩ := H
               replace H : (if t199 = true then (gampref04_Cliques.l1 kj13 a0 l1 x5_1 x6_1 t186 false (wrap64 (x9_2 + 1))) else (gampref04_Cliques.l1 kj13 a0 l1 x5_1 x6_1 t186 x8_2 (wrap64 (x9_2 + 1)))) = some r := H
               have A22 := Aside0.mk A220
               clear A220
               by_cases c23 : t199 = true
               ·subst c23
                have H1 : (gampref04_Cliques.l1 kj13 a0 l1 x5_1 x6_1 t186 false (wrap64 (x9_2 + 1))) = some r := by rw [if_pos rfl] at H; exact H
                clear H
                have H := H1
                clear H1
                have H' := Aside0.mk H
                clear H
                go_wp2_with (first | ((with_reducible refine gate_dst (N := 41) rfl ?_); (try (refine gate_guard (by rfl) ?_; dsimp only)); refine Kd.R_lit (Kd.int .i64) _ 3 ?hg (N := 41) ?hd (xs := ([] : List Int)) (inner := []) (ok := fun _ => True) (okp := fun _ => True) ?hr ?hp (fun _ hk => hk) trivial (Below.refl _ _) (Nat.le_refl _) (by simp) ?_; (case hd => rfl); (case hg => rfl); (case hr => first | (go_simp; done) | (go_simp; rfl)); (case hp => exact (Reps.none _ _)); intro v191 w24 ho25 hb hg_ hnew_; clear hg_ hnew_; (first | rw [← Ny190.out] at ho25 | (simp only [Int.reduceToNat] at ho25; rw [← Ny190.out] at ho25)); have n0_ := Aside0.mk (Kd.N_elder' (nl HO_5) (Kd.R_base ho25) hb); have n1_ := Aside0.mk (Kd.R_elder' (rl HO_7) (Kd.R_base ho25) hb); have n2_ := Aside0.mk (Kd.R_lower (Kd.R_new' (Kd.R_newM (M := fun k_ => (w.heap.size ≤ k_)) ho25 (below_size (bl HB)) (fun k_ h_ => h_)) (Kd.R_lt (rl HO_7))) (below_size (bl HB))); have n3_ := Aside0.mk (below_step (bl HB) hb); clear HO_5; clear HO_7; clear HB; have HO_5 := n0_; have HO_7 := n1_; have HO192 := n2_; have HB := n3_; clear n0_ n1_ n2_ n3_; clear hb ho25) | ((with_reducible refine gate_builtin (b := .append) (xs := #[.tmp 41, .tmp 42]) rfl ?_); (try (refine gate_guard (by rfl) ?_; dsimp only)); at_builtin; refine Kd.R_append_rows (Kd.int .i64) (w0 := w) w.heap.size rfl (.tmp 41) (.tmp 42) 34 3 (.int .i64 0) 8 rfl Try.underlying34 info3 rfl (by decide) (by omega) v191 y190 t186 _ _ _ (fun k_ => (w.heap.size ≤ k_) ∧ some k_ ≠ (.slice Ao12 t186.length co12 : Value).ownBlock) (fun _ => False) rfl rfl ?aO ?aR (fun _ _ h => h) (fun _ h => h.elim) ?aF ?aB ?aS ?aL ?_; (case aR => exact cl ((Kd.R_reads' HO_7.out).2.2)); (case aB => exact (bl HB)); (case aF => exact (fun k_ hk => ⟨(Nat.le_trans (below_size (bl HB)) hk), Kd.fresh' (Kd.R_lt (rl HO_7)) k_ hk⟩)); (case aO => exact (by (with_reducible repeat (first | apply Kd.R_alloc | apply Kd.R_drewN | apply Kd.R_drew)); exact Kd.R_mono HO192.out (fun _ hk => ⟨hk.1.1, hk.2⟩))); (case aS => exact (below_size (bl HB))); (case aL => have := LMc20.out; omega); intro v194 w26 ho hb hg hat; rw [← Ny193.out] at ho; have n0_ := Aside0.mk (Kd.N_afterv (ok := (fun k_ => (w.heap.size ≤ k_) ∧ some k_ ≠ (.slice Ao12 t186.length co12 : Value).ownBlock)) (nl HO_5) hg hat); have n1_ := Aside0.mk (Kd.R_after (ok := (fun k_ => (w.heap.size ≤ k_))) (rl HO_7) hg hat); have n2_ := Aside0.mk (hb); have n3_ := Aside0.mk (ho); clear HO_5; clear HO_7; clear HB; clear HO192; have HO_5 := n0_; have HO_7 := n1_; have HB := n2_; have HO195 := n3_; clear n0_ n1_ n2_ n3_; clear ho hb hg hat) | ((with_reducible refine gate_builtin (b := .append) (xs := #[.tmp 43, .tmp 45]) rfl ?_); (try (refine gate_guard (by rfl) ?_; dsimp only)); at_builtin; refine Kd.R_append (Kd.int .i64) (w0 := w) w.heap.size rfl (.tmp 43) (.tmp 45) 34 3 (.int .i64 0) 8 rfl Try.underlying34 info3 rfl (by decide) (by omega) v194 y193 x9_2 [.int .i64 x9_2] (fun k_ => (w.heap.size ≤ k_) ∧ some k_ ≠ (.slice Ao12 t186.length co12 : Value).ownBlock) (fun _ => False) rfl rfl ?aP (fun _ hk => hk.elim) ?aF ?aO ?aB ?aS ?aL ?_; (case aP => exact rfl); (case aB => exact (bl HB)); (case aF => exact (fun k_ hk => ⟨(Nat.le_trans (below_size (bl HB)) hk), Kd.fresh' (Kd.R_lt (rl HO_7)) k_ hk⟩)); (case aO => exact (rl HO195)); (case aS => exact (below_size (bl HB))); (case aL => have := LMc21.out; omega); intro v197 w27 ho hb hg hat; rw [← Ny196.out] at ho; have n0_ := Aside0.mk (Kd.N_afterv (ok := (fun k_ => (w.heap.size ≤ k_) ∧ some k_ ≠ (.slice Ao12 t186.length co12 : Value).ownBlock)) (nl HO_5) hg hat); have n1_ := Aside0.mk (Kd.R_after (ok := (fun k_ => (w.heap.size ≤ k_))) (rl HO_7) hg hat); have n2_ := Aside0.mk (hb); have n3_ := Aside0.mk (ho); clear HO_5; clear HO_7; clear HB; clear HO195; have HO_5 := n0_; have HO_7 := n1_; have HB := n2_; have HO198 := n3_; clear n0_ n1_ n2_ n3_; clear ho hb hg hat; obtain ⟨Ao28, co28, eo28⟩ := Kd.R_slice HO198.out; subst eo28) | (go_at_call 39; (with_reducible refine (gampref04_Clique.calls kj13 _ _ l1 _ _ y196 true _ ?side1 ?side2 ?side3 ?side4 A22.out).mono ?_); (case side1 => exact cl (Kd.C_below HR1.out HB.out)); (case side2 => exact HC1.out); (case side3 => exact cl ((Kd.R_reads' HO198.out).2.2)); (case side4 => exact (Kd.R_reads' HO198.out).2.1); rintro e w29 ⟨rfl, hb⟩; have n0_ := Aside0.mk (Kd.N_below (nl HO_5) hb); have n1_ := Aside0.mk (Kd.R_below (rl HO_7) hb); have n2_ := Aside0.mk (Kd.R_below (rl HO198) hb); have n3_ := Aside0.mk (below_step (bl HB) hb); clear HO_5; clear HO_7; clear HO198; clear HB; have HO_5 := n0_; have HO_7 := n1_; have HO198 := n2_; have HB := n3_; clear n0_ n1_ n2_ n3_; (try clear hb); (try clear hb2); (try clear hk); (try clear hi)))
                go_roundg kj13
                case measure => have := HK1.out; have := HK2.out; have := HJ13.out; omega
                case rel => exact ⟨(false), (wrap64 (x9_2 + 1)), (by first | rfl | (simp; done) | (simp [*]; done)), (by first | rfl | (simp; done) | (simp [*]; done)), H', ⟨by have := HK1.out; have := HK2.out; have := HJ13.out; omega⟩, ⟨by (with_reducible repeat (first | apply Kd.N_alloc | apply Kd.N_drewN | apply Kd.N_drew)); exact Kd.N_mono HO_5.out (fun _ hk => ⟨hk.1.1, hk.1.2⟩)⟩, ⟨by (with_reducible repeat (first | apply Kd.R_alloc | apply Kd.R_drewN | apply Kd.R_drew)); exact Kd.R_mono HO_7.out (fun _ hk => hk.1)⟩, ⟨bl HB⟩⟩
               ·replace c23 := Bool.eq_false_iff.mpr c23
                subst c23
                have H1 : (gampref04_Cliques.l1 kj13 a0 l1 x5_1 x6_1 t186 x8_2 (wrap64 (x9_2 + 1))) = some r := by rw [if_neg (show ¬ (false = true) by decide)] at H; exact H
                clear H
                have H := H1
                clear H1
                have H' := Aside0.mk H
                clear H
                go_wp2_with (first | ((with_reducible refine gate_dst (N := 41) rfl ?_); (try (refine gate_guard (by rfl) ?_; dsimp only)); refine Kd.R_lit (Kd.int .i64) _ 3 ?hg (N := 41) ?hd (xs := ([] : List Int)) (inner := []) (ok := fun _ => True) (okp := fun _ => True) ?hr ?hp (fun _ hk => hk) trivial (Below.refl _ _) (Nat.le_refl _) (by simp) ?_; (case hd => rfl); (case hg => rfl); (case hr => first | (go_simp; done) | (go_simp; rfl)); (case hp => exact (Reps.none _ _)); intro v191 w30 ho31 hb hg_ hnew_; clear hg_ hnew_; (first | rw [← Ny190.out] at ho31 | (simp only [Int.reduceToNat] at ho31; rw [← Ny190.out] at ho31)); have n0_ := Aside0.mk (Kd.N_elder' (nl HO_5) (Kd.R_base ho31) hb); have n1_ := Aside0.mk (Kd.R_elder' (rl HO_7) (Kd.R_base ho31) hb); have n2_ := Aside0.mk (Kd.R_lower (Kd.R_new' (Kd.R_newM (M := fun k_ => (w.heap.size ≤ k_)) ho31 (below_size (bl HB)) (fun k_ h_ => h_)) (Kd.R_lt (rl HO_7))) (below_size (bl HB))); have n3_ := Aside0.mk (below_step (bl HB) hb); clear HO_5; clear HO_7; clear HB; have HO_5 := n0_; have HO_7 := n1_; have HO192 := n2_; have HB := n3_; clear n0_ n1_ n2_ n3_; clear hb ho31) | ((with_reducible refine gate_builtin (b := .append) (xs := #[.tmp 41, .tmp 42]) rfl ?_); (try (refine gate_guard (by rfl) ?_; dsimp only)); at_builtin; refine Kd.R_append_rows (Kd.int .i64) (w0 := w) w.heap.size rfl (.tmp 41) (.tmp 42) 34 3 (.int .i64 0) 8 rfl Try.underlying34 info3 rfl (by decide) (by omega) v191 y190 t186 _ _ _ (fun k_ => (w.heap.size ≤ k_) ∧ some k_ ≠ (.slice Ao12 t186.length co12 : Value).ownBlock) (fun _ => False) rfl rfl ?aO ?aR (fun _ _ h => h) (fun _ h => h.elim) ?aF ?aB ?aS ?aL ?_; (case aR => exact cl ((Kd.R_reads' HO_7.out).2.2)); (case aB => exact (bl HB)); (case aF => exact (fun k_ hk => ⟨(Nat.le_trans (below_size (bl HB)) hk), Kd.fresh' (Kd.R_lt (rl HO_7)) k_ hk⟩)); (case aO => exact (by (with_reducible repeat (first | apply Kd.R_alloc | apply Kd.R_drewN | apply Kd.R_drew)); exact Kd.R_mono HO192.out (fun _ hk => ⟨hk.1.1, hk.2⟩))); (case aS => exact (below_size (bl HB))); (case aL => have := LMc20.out; omega); intro v194 w32 ho hb hg hat; rw [← Ny193.out] at ho; have n0_ := Aside0.mk (Kd.N_afterv (ok := (fun k_ => (w.heap.size ≤ k_) ∧ some k_ ≠ (.slice Ao12 t186.length co12 : Value).ownBlock)) (nl HO_5) hg hat); have n1_ := Aside0.mk (Kd.R_after (ok := (fun k_ => (w.heap.size ≤ k_))) (rl HO_7) hg hat); have n2_ := Aside0.mk (hb); have n3_ := Aside0.mk (ho); clear HO_5; clear HO_7; clear HB; clear HO192; have HO_5 := n0_; have HO_7 := n1_; have HB := n2_; have HO195 := n3_; clear n0_ n1_ n2_ n3_; clear ho hb hg hat) | ((with_reducible refine gate_builtin (b := .append) (xs := #[.tmp 43, .tmp 45]) rfl ?_); (try (refine gate_guard (by rfl) ?_; dsimp only)); at_builtin; refine Kd.R_append (Kd.int .i64) (w0 := w) w.heap.size rfl (.tmp 43) (.tmp 45) 34 3 (.int .i64 0) 8 rfl Try.underlying34 info3 rfl (by decide) (by omega) v194 y193 x9_2 [.int .i64 x9_2] (fun k_ => (w.heap.size ≤ k_) ∧ some k_ ≠ (.slice Ao12 t186.length co12 : Value).ownBlock) (fun _ => False) rfl rfl ?aP (fun _ hk => hk.elim) ?aF ?aO ?aB ?aS ?aL ?_; (case aP => exact rfl); (case aB => exact (bl HB)); (case aF => exact (fun k_ hk => ⟨(Nat.le_trans (below_size (bl HB)) hk), Kd.fresh' (Kd.R_lt (rl HO_7)) k_ hk⟩)); (case aO => exact (rl HO195)); (case aS => exact (below_size (bl HB))); (case aL => have := LMc21.out; omega); intro v197 w33 ho hb hg hat; rw [← Ny196.out] at ho; have n0_ := Aside0.mk (Kd.N_afterv (ok := (fun k_ => (w.heap.size ≤ k_) ∧ some k_ ≠ (.slice Ao12 t186.length co12 : Value).ownBlock)) (nl HO_5) hg hat); have n1_ := Aside0.mk (Kd.R_after (ok := (fun k_ => (w.heap.size ≤ k_))) (rl HO_7) hg hat); have n2_ := Aside0.mk (hb); have n3_ := Aside0.mk (ho); clear HO_5; clear HO_7; clear HB; clear HO195; have HO_5 := n0_; have HO_7 := n1_; have HB := n2_; have HO198 := n3_; clear n0_ n1_ n2_ n3_; clear ho hb hg hat; obtain ⟨Ao34, co34, eo34⟩ := Kd.R_slice HO198.out; subst eo34) | (go_at_call 39; (with_reducible refine (gampref04_Clique.calls kj13 _ _ l1 _ _ y196 false _ ?side1 ?side2 ?side3 ?side4 A22.out).mono ?_); (case side1 => exact cl (Kd.C_below HR1.out HB.out)); (case side2 => exact HC1.out); (case side3 => exact cl ((Kd.R_reads' HO198.out).2.2)); (case side4 => exact (Kd.R_reads' HO198.out).2.1); rintro e w35 ⟨rfl, hb⟩; have n0_ := Aside0.mk (Kd.N_below (nl HO_5) hb); have n1_ := Aside0.mk (Kd.R_below (rl HO_7) hb); have n2_ := Aside0.mk (Kd.R_below (rl HO198) hb); have n3_ := Aside0.mk (below_step (bl HB) hb); clear HO_5; clear HO_7; clear HO198; clear HB; have HO_5 := n0_; have HO_7 := n1_; have HO198 := n2_; have HB := n3_; clear n0_ n1_ n2_ n3_; (try clear hb); (try clear hb2); (try clear hk); (try clear hi)))
                go_roundg kj13
                case measure => have := HK1.out; have := HK2.out; have := HJ13.out; omega
                case rel => exact ⟨(x8_2), (wrap64 (x9_2 + 1)), (by first | rfl | (simp; done) | (simp [*]; done)), (by first | rfl | (simp; done) | (simp [*]; done)), H', ⟨by have := HK1.out; have := HK2.out; have := HJ13.out; omega⟩, ⟨by (with_reducible repeat (first | apply Kd.N_alloc | apply Kd.N_drewN | apply Kd.N_drew)); exact Kd.N_mono HO_5.out (fun _ hk => ⟨hk.1.1, hk.1.2⟩)⟩, ⟨by (with_reducible repeat (first | apply Kd.R_alloc | apply Kd.R_drewN | apply Kd.R_drew)); exact Kd.R_mono HO_7.out (fun _ hk => hk.1)⟩, ⟨bl HB⟩⟩
              ·rw [if_neg c21] at H
               exact absurd H (by simp)
             ·rw [if_neg c20] at H
              exact absurd H (by simp)
            ·rw [if_neg c19] at H
             have c19b0 : ((Go.bits .and .i64 (ji18) 1) == 0) = false := beq_eq_false_iff_ne.mpr c19
             have c19b1 : ((Go.bits .and .i64 (ji18) 1) != 0) = true := bne_iff_ne.mpr c19
             have H' := Aside0.mk H
             clear H
             go_wp2
             go_roundg kj13
             case measure => have := HK1.out; have := HK2.out; have := HJ13.out; omega
             case rel => exact ⟨(x8_2), (wrap64 (x9_2 + 1)), (by first | rfl | (simp; done) | (simp [*]; done)), (by first | rfl | (simp; done) | (simp [*]; done)), H', ⟨by have := HK1.out; have := HK2.out; have := HJ13.out; omega⟩, ⟨nl HO_5⟩, ⟨rl HO_7⟩, ⟨bl HB⟩⟩
           ·rw [if_neg c17] at H
            exact absurd H (by simp)
          ·replace c16 := Bool.eq_false_iff.mpr c16
           subst c16
           have H1 : (if x8_2 = true then (gampref04_Cliques.l2 kj13 a0 l1 x5_1 x6_1 t186 0) else (gampref04_Cliques.l0 kj13 a0 l1 x5_1 (wrap64 (x6_1 + 1)))) = some r := by rw [if_neg (show ¬ (false = true) by decide)] at H; exact H
           clear H
           have H := H1
           clear H1
           by_cases c36 : x8_2 = true
           ·subst c36
            have H1 : (gampref04_Cliques.l2 kj13 a0 l1 x5_1 x6_1 t186 0) = some r := by rw [if_pos rfl] at H; exact H
            clear H
            have H := H1
            clear H1
            have H' := Aside0.mk H
            clear H
            go_wp2
            go_loopg [10] kj13 (fun kq v10 w' => ∃ (x10_4 : Int), v10 = .int .i64 x10_4 ∧ Aside0 (gampref04_Cliques.l2 kq a0 l1 x5_1 x6_1 t186 x10_4 = some r) ∧ Aside0 (kq ≤ kj13) ∧ Aside0 (Kd.N (Kd.slice 3 (Kd.int .i64)) 34 w' w.heap.size (fun k_ => (w.heap.size ≤ k_) ∧ some k_ ≠ ((.slice Ao12 t186.length co12) : Value).ownBlock) u5 x5_1) ∧ Aside0 (Kd.R (Kd.int .i64) 3 w' w.heap.size (fun k_ => (w.heap.size ≤ k_)) (.slice Ao12 t186.length co12) t186) ∧ Aside0 (Below w.heap.size w w'))
            case atStart => exact ⟨(0), (by first | rfl | (simp; done) | (simp [*]; done)), H', ⟨Nat.le_refl _⟩, ⟨nl HO_5⟩, ⟨rl HO_7⟩, ⟨bl HB⟩⟩
            case round =>
             clear H'
             try clear c1
             try clear c2
             try clear p2
             try clear c3
             try clear c5
             try clear c5b0
             try clear c5b1
             try clear p6
             try clear c7
             try clear c7b0
             try clear c10
             try clear c15
             try clear c15b0
             try clear c16
             try clear c17
             try clear c17b0
             try clear c17b1
             try clear c19
             try clear c19b0
             try clear c19b1
             try clear c20
             try clear c21
             try clear c23
             try clear c36
             try clear p2
             try clear p6
             obtain ⟨x10_4, rfl, HA, HK4, HO_5, HO_7, HB⟩ := hrel
             cases gk with
             | zero => exact absurd HA.out (by simp [gampref04_Cliques.l2])
             | succ k4 =>
              have H := HA.out
              clear HA
              simp only [gampref04_Cliques.l2] at H
              by_cases c37 : x10_4 < (x5_1.length : Int)
              ·rw [if_pos c37] at H
               have c37b0 : decide (x10_4 < (x5_1.length : Int)) = true := decide_eq_true c37
               clear c37
               by_cases c38 : 0 ≤ x10_4
               ·rw [if_pos c38] at H
                have c38b0 : decide (0 ≤ x10_4) = true := decide_eq_true c38
                clear c38
                replace H := Option.bind_eq_some_iff.mp H
                obtain ⟨t201, A390, H⟩ := H
                replace H : (if t201 = true then (gampref04_Cliques.l2 k4 a0 l1 x5_1 x6_1 t186 (wrap64 (x10_4 + 1))) else ((some (([] : List (List Int)) : List (List Int))).bind fun y202 => (if x10_4 ≤ (x5_1.length : Int) then ((some (x5_1.take (x10_4 : Int).toNat : List (List Int))).bind fun y205 => (if y202.length + y205.length < 5864062014805 then ((some (y202 ++ y205 : List (List Int))).bind fun y210 => (if y210.length < 5864062014805 then ((some (y210 ++ [t186] : List (List Int))).bind fun y213 => ((some (x5_1.drop (x10_4 : Int).toNat : List (List Int))).bind fun y216 => (if y213.length + y216.length < 5864062014805 then (gampref04_Cliques.l0 k4 a0 l1 (y213 ++ y216) (wrap64 (x6_1 + 1))) else (none)))) else (none))) else (none))) else (none)))) = some r := H
                have A39 := Aside0.mk A390
                clear A390
                by_cases c40 : t201 = true
                ·subst c40
                 have H1 : (gampref04_Cliques.l2 k4 a0 l1 x5_1 x6_1 t186 (wrap64 (x10_4 + 1))) = some r := by rw [if_pos rfl] at H; exact H
                 clear H
                 have H := H1
                 clear H1
                 have H' := Aside0.mk H
                 clear H
                 obtain ⟨Ao41, co41, eo41⟩ := Kd.N_slice HO_5.out
                 subst eo41
                 have p200 : 0 ≤ (x10_4 : Int) := ofd
                 have q200 : x10_4 < (x5_1.length : Int) := ofd
                 obtain ⟨ad200, A200_0, c200_0, e200, hx200_0, hl200_0, hi200_0⟩ := at_L2 (Kd.N_reads' HO_5.out).2.2 x10_4 p200 q200
                 cases e200
                 obtain ⟨ce200, hce200, hMe200, hcc200⟩ := Kd.N_get HO_5.out [] x10_4 p200 (by first | exact q200 | exact ofd | (have e_ := (Kd.N_reads' HO_5.out).1; omega))
                 obtain ⟨ua200_0, uc200_0, rfl, ul200_0, ge200_0⟩ := Kd.FK_slice_open hMe200
                 have hv200_0 := hcc200 0 _ rfl
                 rw [Nat.add_zero, show ((Kd.slice 3 (Kd.int .i64))).sz = 1 from rfl, Nat.mul_one] at hv200_0
                 replace hv200_0 := Option.some.inj (hv200_0.symm.trans hx200_0)
                 injection hv200_0 with hva_ hvn_ hvc_
                 rw [hva_] at ge200_0
                 rw [hvc_] at ul200_0
                 have HL200_0 := Aside0.mk (show Kd.V (Kd.int .i64) 3 _ w.heap.size _ _ (rd_L2 x5_1 x10_4) from Kd.V_mk ul200_0 ge200_0)
                 clear hva_ hvn_ hvc_ ge200_0 ul200_0 hcc200 hce200
                 have HR200_0 := Aside0.mk hi200_0
                 have HC200_0 := Aside0.mk hl200_0
                 clear hi200_0 hl200_0
                 replace p200 := eq_true p200
                 replace q200 := eq_true q200
                 go_wp2_with (first | (go_at_call 57; (with_reducible refine (gampref04_less.calls k4 _ _ (rd_L2 x5_1 x10_4) _ _ t186 true _ ?side1 ?side2 ?side3 ?side4 A39.out).mono ?_); (case side1 => exact cl (HR200_0.out)); (case side2 => exact HC200_0.out); (case side3 => exact cl ((Kd.R_reads' HO_7.out).2.2)); (case side4 => exact (Kd.R_reads' HO_7.out).2.1); rintro e w' ⟨rfl, ⟨nd, rfl⟩⟩))
                 go_roundg k4
                 case measure => have := HK1.out; have := HK2.out; have := HJ13.out; have := HK4.out; omega
                 case rel => exact ⟨(wrap64 (x10_4 + 1)), (by first | rfl | (simp; done) | (simp [*]; done)), H', ⟨by have := HK1.out; have := HK2.out; have := HJ13.out; have := HK4.out; omega⟩, ⟨nl HO_5⟩, ⟨rl HO_7⟩, ⟨bl HB⟩⟩
                ·replace c40 := Bool.eq_false_iff.mpr c40
                 subst c40
                 have H1 : ((some (([] : List (List Int)) : List (List Int))).bind fun y202 => (if x10_4 ≤ (x5_1.length : Int) then ((some (x5_1.take (x10_4 : Int).toNat : List (List Int))).bind fun y205 => (if y202.length + y205.length < 5864062014805 then ((some (y202 ++ y205 : List (List Int))).bind fun y210 => (if y210.length < 5864062014805 then ((some (y210 ++ [t186] : List (List Int))).bind fun y213 => ((some (x5_1.drop (x10_4 : Int).toNat : List (List Int))).bind fun y216 => (if y213.length + y216.length < 5864062014805 then (gampref04_Cliques.l0 k4 a0 l1 (y213 ++ y216) (wrap64 (x6_1 + 1))) else (none)))) else (none))) else (none))) else (none))) = some r := by rw [if_neg (show ¬ (false = true) by decide)] at H; exact H
                 clear H
                 have H := H1
                 clear H1
                 obtain ⟨y202, hy202⟩ : ∃ y_ : List (List Int), y_ = (([] : List (List Int))) := ⟨_, rfl⟩
                 replace H : (if x10_4 ≤ (x5_1.length : Int) then ((some (x5_1.take (x10_4 : Int).toNat : List (List Int))).bind fun y205 => (if y202.length + y205.length < 5864062014805 then ((some (y202 ++ y205 : List (List Int))).bind fun y210 => (if y210.length < 5864062014805 then ((some (y210 ++ [t186] : List (List Int))).bind fun y213 => ((some (x5_1.drop (x10_4 : Int).toNat : List (List Int))).bind fun y216 => (if y213.length + y216.length < 5864062014805 then (gampref04_Cliques.l0 k4 a0 l1 (y213 ++ y216) (wrap64 (x6_1 + 1))) else (none)))) else (none))) else (none))) else (none)) = some r := by first | (rw [hy202]; with_reducible exact H) | (have H2_ := (Option.bind_some _ _).symm.trans H; rw [hy202]; with_reducible exact H2_) | (have H2_ := (Option.bind_some _ _).symm.trans H; with_reducible exact H2_) | with_reducible exact H | (rw [hy202]; exact H) | exact H
                 have Ny202 := Aside0.mk hy202
                 clear hy202
                 have c42b0 := eq_true (ofd : 0 ≤ x10_4)
                 by_cases c43 : x10_4 ≤ (x5_1.length : Int)
                 ·rw [if_pos c43] at H
                  have c43b0 := eq_true c43
                  have c43b1 : decide (x10_4 ≤ (x5_1.length : Int)) = true := decide_eq_true c43
                  clear c43
                  obtain ⟨y205, hy205⟩ : ∃ y_ : List (List Int), y_ = (x5_1.take (x10_4 : Int).toNat) := ⟨_, rfl⟩
                  replace H : (if y202.length + y205.length < 5864062014805 then ((some (y202 ++ y205 : List (List Int))).bind fun y210 => (if y210.length < 5864062014805 then ((some (y210 ++ [t186] : List (List Int))).bind fun y213 => ((some (x5_1.drop (x10_4 : Int).toNat : List (List Int))).bind fun y216 => (if y213.length + y216.length < 5864062014805 then (gampref04_Cliques.l0 k4 a0 l1 (y213 ++ y216) (wrap64 (x6_1 + 1))) else (none)))) else (none))) else (none)) = some r := by first | (rw [hy205]; with_reducible exact H) | (have H2_ := (Option.bind_some _ _).symm.trans H; rw [hy205]; with_reducible exact H2_) | (have H2_ := (Option.bind_some _ _).symm.trans H; with_reducible exact H2_) | with_reducible exact H | (rw [hy205]; exact H) | exact H
                  have Ny205 := Aside0.mk hy205
                  clear hy205
                  by_cases c44 : y202.length + y205.length < 5864062014805
                  ·rw [if_pos c44] at H
                   have LMc44 := Aside0.mk c44
                   clear c44
                   obtain ⟨y210, hy210⟩ : ∃ y_ : List (List Int), y_ = (y202 ++ y205) := ⟨_, rfl⟩
                   replace H : (if y210.length < 5864062014805 then ((some (y210 ++ [t186] : List (List Int))).bind fun y213 => ((some (x5_1.drop (x10_4 : Int).toNat : List (List Int))).bind fun y216 => (if y213.length + y216.length < 5864062014805 then (gampref04_Cliques.l0 k4 a0 l1 (y213 ++ y216) (wrap64 (x6_1 + 1))) else (none)))) else (none)) = some r := by first | (rw [hy210]; with_reducible exact H) | (have H2_ := (Option.bind_some _ _).symm.trans H; rw [hy210]; with_reducible exact H2_) | (have H2_ := (Option.bind_some _ _).symm.trans H; with_reducible exact H2_) | with_reducible exact H | (rw [hy210]; exact H) | exact H
                   have Ny210 := Aside0.mk hy210
                   clear hy210
                   by_cases c45 : y210.length < 5864062014805
                   ·rw [if_pos c45] at H
                    have LMc45 := Aside0.mk c45
                    clear c45
                    obtain ⟨y213, hy213⟩ : ∃ y_ : List (List Int), y_ = (y210 ++ [t186]) := ⟨_, rfl⟩
                    replace H : ((some (x5_1.drop (x10_4 : Int).toNat : List (List Int))).bind fun y216 => (if y213.length + y216.length < 5864062014805 then (gampref04_Cliques.l0 k4 a0 l1 (y213 ++ y216) (wrap64 (x6_1 + 1))) else (none))) = some r := by first | (rw [hy213]; with_reducible exact H) | (have H2_ := (Option.bind_some _ _).symm.trans H; rw [hy213]; with_reducible exact H2_) | (have H2_ := (Option.bind_some _ _).symm.trans H; with_reducible exact H2_) | with_reducible exact H | (rw [hy213]; exact H) | exact H
                    have Ny213 := Aside0.mk hy213
                    clear hy213
                    have c46b0 := eq_true (ofd : 0 ≤ x10_4)
                    have c47b0 := eq_true (ofd : x10_4 ≤ (x5_1.length : Int))
                    obtain ⟨y216, hy216⟩ : ∃ y_ : List (List Int), y_ = (x5_1.drop (x10_4 : Int).toNat) := ⟨_, rfl⟩
                    replace H : (if y213.length + y216.length < 5864062014805 then (gampref04_Cliques.l0 k4 a0 l1 (y213 ++ y216) (wrap64 (x6_1 + 1))) else (none)) = some r := by first | (rw [hy216]; with_reducible exact H) | (have H2_ := (Option.bind_some _ _).symm.trans H; rw [hy216]; with_reducible exact H2_) | (have H2_ := (Option.bind_some _ _).symm.trans H; with_reducible exact H2_) | with_reducible exact H | (rw [hy216]; exact H) | exact H
                    have Ny216 := Aside0.mk hy216
                    clear hy216
                    by_cases c48 : y213.length + y216.length < 5864062014805
                    ·rw [if_pos c48] at H
                     have LMc48 := Aside0.mk c48
                     clear c48
                     obtain ⟨y221, hy221⟩ : ∃ y_ : List (List Int), y_ = (y213 ++ y216) := ⟨_, rfl⟩
                     replace H : (gampref04_Cliques.l0 k4 a0 l1 y221 (wrap64 (x6_1 + 1))) = some r := by first | (rw [hy221]; with_reducible exact H) | (have H2_ := (Option.bind_some _ _).symm.trans H; rw [hy221]; with_reducible exact H2_) | (have H2_ := (Option.bind_some _ _).symm.trans H; with_reducible exact H2_) | with_reducible exact H | (rw [hy221]; exact H) | exact H
                     have Ny221 := Aside0.mk hy221
                     clear hy221
                     have H' := Aside0.mk H
                     clear H
                     obtain ⟨Ao49, co49, eo49⟩ := Kd.N_slice HO_5.out
                     subst eo49
                     have p200 : 0 ≤ (x10_4 : Int) := ofd
                     have q200 : x10_4 < (x5_1.length : Int) := ofd
                     obtain ⟨ad200, A200_0, c200_0, e200, hx200_0, hl200_0, hi200_0⟩ := at_L2 (Kd.N_reads' HO_5.out).2.2 x10_4 p200 q200
                     cases e200
                     obtain ⟨ce200, hce200, hMe200, hcc200⟩ := Kd.N_get HO_5.out [] x10_4 p200 (by first | exact q200 | exact ofd | (have e_ := (Kd.N_reads' HO_5.out).1; omega))
                     obtain ⟨ua200_0, uc200_0, rfl, ul200_0, ge200_0⟩ := Kd.FK_slice_open hMe200
                     have hv200_0 := hcc200 0 _ rfl
                     rw [Nat.add_zero, show ((Kd.slice 3 (Kd.int .i64))).sz = 1 from rfl, Nat.mul_one] at hv200_0
                     replace hv200_0 := Option.some.inj (hv200_0.symm.trans hx200_0)
                     injection hv200_0 with hva_ hvn_ hvc_
                     rw [hva_] at ge200_0
                     rw [hvc_] at ul200_0
                     have HL200_0 := Aside0.mk (show Kd.V (Kd.int .i64) 3 _ w.heap.size _ _ (rd_L2 x5_1 x10_4) from Kd.V_mk ul200_0 ge200_0)
                     clear hva_ hvn_ hvc_ ge200_0 ul200_0 hcc200 hce200
                     have HR200_0 := Aside0.mk hi200_0
                     have HC200_0 := Aside0.mk hl200_0
                     clear hi200_0 hl200_0
                     replace p200 := eq_true p200
                     replace q200 := eq_true q200
                     go_wp2_with (first | (go_at_call 57; (with_reducible refine (gampref04_less.calls k4 _ _ (rd_L2 x5_1 x10_4) _ _ t186 false _ ?side1 ?side2 ?side3 ?side4 A39.out).mono ?_); (case side1 => exact cl (HR200_0.out)); (case side2 => exact HC200_0.out); (case side3 => exact cl ((Kd.R_reads' HO_7.out).2.2)); (case side4 => exact (Kd.R_reads' HO_7.out).2.1); rintro e w' ⟨rfl, ⟨nd, rfl⟩⟩) | ((with_reducible refine gate_dst (N := 65) rfl ?_); (try (refine gate_guard (by rfl) ?_; dsimp only)); refine Kd.N_lit (Kd.slice 3 (Kd.int .i64)) _ 34 ?hg (N' := 65) ?hd (xs := ([] : List (List Int))) (inner := []) (ok := (fun k_ => (w.heap.size ≤ k_) ∧ some k_ ≠ (.slice (some ad200) x5_1.length co49 : Value).ownBlock ∧ some k_ ≠ (.slice Ao12 t186.length co12 : Value).ownBlock)) (okp := (fun k_ => (w.heap.size ≤ k_) ∧ some k_ ≠ (.slice (some ad200) x5_1.length co49 : Value).ownBlock ∧ some k_ ≠ (.slice Ao12 t186.length co12 : Value).ownBlock)) ?hr ?hp (fun _ hk => hk) ((show ∀ k_, wr.heap.size ≤ k_ → (fun k_ => (w.heap.size ≤ k_) ∧ some k_ ≠ (.slice (some ad200) x5_1.length co49 : Value).ownBlock ∧ some k_ ≠ (.slice Ao12 t186.length co12 : Value).ownBlock) k_ from fun k_ hk => ⟨(Nat.le_trans (below_size (bl HB)) hk), Kd.fresh' (Kd.N_lt (nl HO_5)) k_ hk, Kd.fresh' (Kd.R_lt (rl HO_7)) k_ hk⟩) _ (Nat.le_refl _)) (Below.refl _ _) (Nat.le_refl _) (by simp) ?_; (case hd => rfl); (case hg => rfl); (case hr => first | (go_simp; done) | (go_simp; rfl)); (case hp => exact (Reps.none _ _)); intro v203 w50 ho51 hb hg_ hnew_; clear hg_ hnew_; (first | rw [← Ny202.out] at ho51 | (simp only [Int.reduceToNat] at ho51; rw [← Ny202.out] at ho51)); have n0_ := Aside0.mk (Kd.N_elder' (nl HO_5) (Kd.N_base ho51) hb); have n1_ := Aside0.mk (Kd.R_below (rl HO_7) hb); have n2_ := Aside0.mk (Kd.V_elder' (vl HL200_0) (Kd.N_base ho51) hb); have n3_ := Aside0.mk (Kd.N_lower ho51 (below_size (bl HB))); have n4_ := Aside0.mk (Kd.C_below (cl HR200_0.out) hb); have n5_ := Aside0.mk (below_step (bl HB) hb); clear HO_5; clear HO_7; clear HL200_0; clear HR200_0; clear HB; have HO_5 := n0_; have HO_7 := n1_; have HL200_0 := n2_; have HO204 := n3_; have HR200_0 := n4_; have HB := n5_; clear n0_ n1_ n2_ n3_ n4_ n5_; clear hb ho51; have q52 : (x10_4 : Int) ≤ ((x5_1.length : Int) : Int) := ofd; obtain ⟨i052, hi052, _, hsz52, _⟩ := info_parts info34; have hroom52 : x5_1.length ≤ co49 := (Kd.N_reads' HO_5.out).2.1; have hC52 : Kd.F (Kd.slice 3 (Kd.int .i64)) _ _ (some ad200) x5_1.length x5_1 := (Kd.V_at (base := w.heap.size) (Kd.N_V HO_5.out)).2.2; have hcut52 := cut_to (P := Try.prog) 26 34 .i64 Try.underlying26 hi052 (some ad200) x5_1.length co49 x10_4 (ofd) q52 hroom52; have hr52 := Kd.F_take (m := (x10_4 : Int).toNat) hC52 (by omega); have hy52 : y205.length = (x10_4 : Int).toNat := (by rw [Ny205.out, List.length_take]; omega); rw [← Ny205.out] at hr52; rw [← hy52] at hcut52; have HO209 := Aside0.mk (show Kd.V (Kd.slice 3 (Kd.int .i64)) 34 _ w.heap.size _ (.slice (some ad200) y205.length co49) y205 from Kd.V_mk (by omega) hr52); have HC209 := Aside0.mk (show y205.length ≤ co49 from by omega); clear hr52 hC52 hroom52 hi052 hsz52; have KY52 := Aside0.mk hy52; clear hy52; replace q52 := eq_true q52) | ((with_reducible refine gate_builtin (b := .append) (xs := #[.tmp 65, .tmp 68]) rfl ?_); (try (refine gate_guard (by rfl) ?_; dsimp only)); at_builtin; refine Kd.N_append_rows (Kd.slice 3 (Kd.int .i64)) (w0 := w) w.heap.size rfl (.tmp 65) (.tmp 68) 26 34 (.slice none 0 0) 24 rfl Try.underlying26 info34 rfl (by decide) (by omega) v203 y202 y205 _ _ _ (fun k_ => (w.heap.size ≤ k_) ∧ some k_ ≠ (.slice Ao12 t186.length co12 : Value).ownBlock) (fun k_ => ((fun k_ => (w.heap.size ≤ k_) ∧ some k_ ≠ (.slice Ao12 t186.length co12 : Value).ownBlock)) k_ ∧ some k_ ≠ (v203 : Value).ownBlock) rfl rfl ?aO ?aR (fun _ hk => hk) ?aF ?aB ?aS ?aL ?_; (case aR => exact (by skip; exact Kd.V_F (Kd.V_mono (ok' := (fun k_ => ((fun k_ => (w.heap.size ≤ k_) ∧ some k_ ≠ (.slice Ao12 t186.length co12 : Value).ownBlock)) k_ ∧ some k_ ≠ (v203 : Value).ownBlock)) (HO209.out) (fun k_ hk => ⟨⟨hk.1.1, hk.1.2⟩, hk.2⟩)))); (case aB => exact (bl HB)); (case aF => exact (fun k_ hk => ⟨(Nat.le_trans (below_size (bl HB)) hk), Kd.fresh' (Kd.R_lt (rl HO_7)) k_ hk⟩)); (case aO => exact (by (with_reducible repeat (first | apply Kd.N_alloc | apply Kd.N_drewN | apply Kd.N_drew)); exact Kd.N_mono HO204.out (fun _ hk => ⟨hk.1, hk.2.2⟩))); (case aS => exact (below_size (bl HB))); (case aL => have := LMc44.out; omega); intro v211 w53 ho hb hg hat; rw [← Ny210.out] at ho; have n0_ := Aside0.mk (Kd.N_afterv (ok := (fun k_ => (w.heap.size ≤ k_) ∧ some k_ ≠ (.slice Ao12 t186.length co12 : Value).ownBlock)) (nl HO_5) hg hat); have n1_ := Aside0.mk (Kd.R_over' (rl HO_7) (Kd.N_typed (nl HO204)) (by decide) hg); have n2_ := Aside0.mk (Kd.V_afterv (ok := (fun k_ => (w.heap.size ≤ k_) ∧ some k_ ≠ (.slice (some ad200) x5_1.length co49 : Value).ownBlock ∧ some k_ ≠ (.slice Ao12 t186.length co12 : Value).ownBlock)) (by (with_reducible repeat (first | apply Kd.V_alloc | apply Kd.V_drewN | apply Kd.V_drew)); exact Kd.V_mono HL200_0.out (fun _ hk => ⟨⟨hk.1.1.1, ⟨hk.1.2, hk.1.1.2⟩⟩, hk.2⟩)) hg hat); have n3_ := Aside0.mk (Kd.V_afterv (ok := (fun k_ => (w.heap.size ≤ k_) ∧ some k_ ≠ (.slice Ao12 t186.length co12 : Value).ownBlock)) (vl HO209) hg hat); have n4_ := Aside0.mk (hb); have n5_ := Aside0.mk (ho); clear HO_5; clear HO_7; clear HL200_0; clear HO209; clear HB; clear HO204; have HO_5 := n0_; have HO_7 := n1_; have HL200_0 := n2_; have HO209 := n3_; have HB := n4_; have HO212 := n5_; clear n0_ n1_ n2_ n3_ n4_ n5_; clear ho hb hg hat) | ((with_reducible refine gate_builtin (b := .append) (xs := #[.tmp 70, .tmp 72]) rfl ?_); (try (refine gate_guard (by rfl) ?_; dsimp only)); at_builtin; refine Kd.N_append (Kd.slice 3 (Kd.int .i64)) (w0 := w) w.heap.size rfl (.tmp 70) (.tmp 72) 26 34 (.slice none 0 0) 24 rfl Try.underlying26 info34 rfl (by decide) (by omega) v211 y210 t186 [.slice Ao12 t186.length co12] (fun k_ => (w.heap.size ≤ k_)) (fun k_ => ((fun k_ => (w.heap.size ≤ k_))) k_ ∧ some k_ ≠ (v211 : Value).ownBlock) rfl rfl ?aP (fun _ hk => hk) ?aF ?aO ?aB ?aS ?aL ?_; (case aP => exact (Kd.FK_slice_mk (Kd.R_reads' (Kd.R_mono (ok' := (fun k_ => ((fun k_ => (w.heap.size ≤ k_))) k_ ∧ some k_ ≠ (v211 : Value).ownBlock)) (Kd.R_apart' (HO_7.out) (Kd.N_typed HO212.out) (by decide)) (fun k_ hk => ⟨hk.1, hk.2⟩))).2.1 (Kd.R_F (Kd.R_mono (ok' := (fun k_ => ((fun k_ => (w.heap.size ≤ k_))) k_ ∧ some k_ ≠ (v211 : Value).ownBlock)) (Kd.R_apart' (HO_7.out) (Kd.N_typed HO212.out) (by decide)) (fun k_ hk => ⟨hk.1, hk.2⟩))))); (case aB => exact (bl HB)); (case aF => exact (fun k_ hk => (Nat.le_trans (below_size (bl HB)) hk))); (case aO => exact (by (with_reducible repeat (first | apply Kd.N_alloc | apply Kd.N_drewN | apply Kd.N_drew)); exact Kd.N_mono HO212.out (fun _ hk => hk.1))); (case aS => exact (below_size (bl HB))); (case aL => have := LMc45.out; omega); intro v214 w54 ho hb hg hat; rw [← Ny213.out] at ho; have n0_ := Aside0.mk (Kd.N_afterv (ok := (fun k_ => (w.heap.size ≤ k_) ∧ some k_ ≠ (.slice Ao12 t186.length co12 : Value).ownBlock)) (nl HO_5) hg hat); have n1_ := Aside0.mk (Kd.V_afterv (ok := (fun k_ => (w.heap.size ≤ k_) ∧ some k_ ≠ (.slice (some ad200) x5_1.length co49 : Value).ownBlock ∧ some k_ ≠ (.slice Ao12 t186.length co12 : Value).ownBlock)) (vl HL200_0) hg hat); have n2_ := Aside0.mk (Kd.V_afterv (ok := (fun k_ => (w.heap.size ≤ k_) ∧ some k_ ≠ (.slice Ao12 t186.length co12 : Value).ownBlock)) (vl HO209) hg hat); have n3_ := Aside0.mk (hb); have n4_ := Aside0.mk (ho); clear HO_5; clear HL200_0; clear HO209; clear HB; clear HO212; clear HO_7; have HO_5 := n0_; have HL200_0 := n1_; have HO209 := n2_; have HB := n3_; have HO215 := n4_; clear n0_ n1_ n2_ n3_ n4_; clear ho hb hg hat; have q55 : (x10_4 : Int) ≤ ((x5_1.length : Int) : Int) := ofd; obtain ⟨i055, hi055, _, hsz55, _⟩ := info_parts info34; have hroom55 : x5_1.length ≤ co49 := (Kd.N_reads' HO_5.out).2.1; have hC55 : Kd.F (Kd.slice 3 (Kd.int .i64)) _ _ (some ad200) x5_1.length x5_1 := (Kd.V_at (base := w.heap.size) (Kd.N_V HO_5.out)).2.2; have q055 : (0 : Int) ≤ (x10_4 : Int) := ofd; have hcut55 := cut_from (P := Try.prog) 26 34 .i64 Try.underlying26 hi055 1 hsz55 (some ad200) x5_1.length co49 x10_4 q055 q55; have hr55 := Kd.F_cut (m := (x10_4 : Int).toNat) (c := co49) hC55 (by omega) hroom55; obtain ⟨A55, hA55⟩ : ∃ A1, A1 = (if co49 = (x10_4 : Int).toNat then (some ad200) else ((some ad200) : Option Addr).map (·.add ((x10_4 : Int).toNat * 1))) := ⟨_, rfl⟩; obtain ⟨c55, hc55⟩ : ∃ c1, c1 = co49 - (x10_4 : Int).toNat := ⟨_, rfl⟩; have hy55 : y216.length = x5_1.length - (x10_4 : Int).toNat := (by rw [Ny216.out, List.length_drop] <;> omega); rw [show (x5_1).drop (x10_4 : Int).toNat = y216 from Ny216.out.symm] at hr55; replace hr55 : Kd.F (Kd.slice 3 (Kd.int .i64)) _ _ A55 y216.length y216 := (by rw [hA55]; exact hr55); rw [← hy55, ← hA55, ← hc55] at hcut55; have HO220 := Aside0.mk (show Kd.V (Kd.slice 3 (Kd.int .i64)) 34 _ w.heap.size _ (.slice A55 y216.length c55) y216 from Kd.V_mk (by rw [hy55, hc55]; exact Nat.sub_le_sub_right hroom55 _) hr55); have HC220 := Aside0.mk (show y216.length ≤ c55 from by rw [hy55, hc55]; exact Nat.sub_le_sub_right hroom55 _); clear hr55 hC55 hroom55 hi055 hsz55 hc55; have KY55 := Aside0.mk hy55; have KA55 := Aside0.mk hA55; clear hy55 hA55; replace q55 := eq_true q55) | ((with_reducible refine gate_builtin (b := .append) (xs := #[.tmp 74, .tmp 77]) rfl ?_); (try (refine gate_guard (by rfl) ?_; dsimp only)); at_builtin; refine Kd.N_append_rows (Kd.slice 3 (Kd.int .i64)) (w0 := w) w.heap.size rfl (.tmp 74) (.tmp 77) 26 34 (.slice none 0 0) 24 rfl Try.underlying26 info34 rfl (by decide) (by omega) v214 y213 y216 _ _ _ (fun k_ => (w.heap.size ≤ k_)) (fun k_ => ((fun k_ => (w.heap.size ≤ k_))) k_ ∧ some k_ ≠ (v214 : Value).ownBlock) rfl rfl ?aO ?aR (fun _ hk => hk) ?aF ?aB ?aS ?aL ?_; (case aR => exact (by skip; exact Kd.V_F (Kd.V_mono (ok' := (fun k_ => ((fun k_ => (w.heap.size ≤ k_))) k_ ∧ some k_ ≠ (v214 : Value).ownBlock)) (HO220.out) (fun k_ hk => ⟨hk.1.1, hk.2⟩)))); (case aB => exact (bl HB)); (case aF => exact (fun k_ hk => (Nat.le_trans (below_size (bl HB)) hk))); (case aO => exact (nl HO215)); (case aS => exact (below_size (bl HB))); (case aL => have := LMc48.out; omega); intro v222 w56 ho hb hg hat; rw [← Ny221.out] at ho; have n0_ := Aside0.mk (Kd.N_afterv (ok := (fun k_ => (w.heap.size ≤ k_))) (by (with_reducible repeat (first | apply Kd.N_alloc | apply Kd.N_drewN | apply Kd.N_drew)); exact Kd.N_mono HO_5.out (fun _ hk => ⟨hk.1.1, hk.2⟩)) hg hat); have n1_ := Aside0.mk (Kd.V_afterv (ok := (fun k_ => (w.heap.size ≤ k_) ∧ some k_ ≠ (.slice (some ad200) x5_1.length co49 : Value).ownBlock)) (by (with_reducible repeat (first | apply Kd.V_alloc | apply Kd.V_drewN | apply Kd.V_drew)); exact Kd.V_mono HL200_0.out (fun _ hk => ⟨⟨hk.1.1, hk.1.2.1⟩, hk.2⟩)) hg hat); have n2_ := Aside0.mk (Kd.V_afterv (ok := (fun k_ => (w.heap.size ≤ k_))) (by (with_reducible repeat (first | apply Kd.V_alloc | apply Kd.V_drewN | apply Kd.V_drew)); exact Kd.V_mono HO209.out (fun _ hk => ⟨hk.1.1, hk.2⟩)) hg hat); have n3_ := Aside0.mk (Kd.V_afterv (ok := (fun k_ => (w.heap.size ≤ k_))) (by (with_reducible repeat (first | apply Kd.V_alloc | apply Kd.V_drewN | apply Kd.V_drew)); exact Kd.V_mono HO220.out (fun _ hk => ⟨hk.1.1, hk.2⟩)) hg hat); have n4_ := Aside0.mk (hb); have n5_ := Aside0.mk (ho); clear HO_5; clear HL200_0; clear HO209; clear HO220; clear HB; clear HO215; have HO_5 := n0_; have HL200_0 := n1_; have HO209 := n2_; have HO220 := n3_; have HB := n4_; have HO223 := n5_; clear n0_ n1_ n2_ n3_ n4_ n5_; clear ho hb hg hat))
                     go_roundg k4
                     case measure => have := HK1.out; have := HK2.out; have := HJ13.out; have := HK4.out; omega
                     case rel => exact ⟨(y221), (wrap64 (x6_1 + 1)), (by first | rfl | (simp; done) | (simp [*]; done)), H', ⟨by have := HK1.out; have := HK2.out; have := HJ13.out; have := HK4.out; omega⟩, ⟨nl HO223⟩, ⟨bl HB⟩⟩
                    ·rw [if_neg c48] at H
                     exact absurd H (by simp)
                   ·rw [if_neg c45] at H
                    exact absurd H (by simp)
                  ·rw [if_neg c44] at H
                   exact absurd H (by simp)
                 ·rw [if_neg c43] at H
                  exact absurd H (by simp)
               ·rw [if_neg c38] at H
                exact absurd H (by simp)
              ·rw [if_neg c37] at H
               have c37b0 : decide (x10_4 < (x5_1.length : Int)) = false := decide_eq_false c37
               clear c37
               obtain ⟨y224, hy224⟩ : ∃ y_ : List (List Int), y_ = (([] : List (List Int))) := ⟨_, rfl⟩
               replace H : (if 0 ≤ x10_4 then (if x10_4 ≤ (x5_1.length : Int) then ((some (x5_1.take (x10_4 : Int).toNat : List (List Int))).bind fun y227 => (if y224.length + y227.length < 5864062014805 then ((some (y224 ++ y227 : List (List Int))).bind fun y232 => (if y232.length < 5864062014805 then ((some (y232 ++ [t186] : List (List Int))).bind fun y235 => ((some (x5_1.drop (x10_4 : Int).toNat : List (List Int))).bind fun y238 => (if y235.length + y238.length < 5864062014805 then (gampref04_Cliques.l0 k4 a0 l1 (y235 ++ y238) (wrap64 (x6_1 + 1))) else (none)))) else (none))) else (none))) else (none)) else (none)) = some r := by first | (rw [hy224]; with_reducible exact H) | (have H2_ := (Option.bind_some _ _).symm.trans H; rw [hy224]; with_reducible exact H2_) | (have H2_ := (Option.bind_some _ _).symm.trans H; with_reducible exact H2_) | with_reducible exact H | (rw [hy224]; exact H) | exact H
               have Ny224 := Aside0.mk hy224
               clear hy224
               by_cases c57 : 0 ≤ x10_4
               ·rw [if_pos c57] at H
                have c57b0 := eq_true c57
                have c57b1 : decide (0 ≤ x10_4) = true := decide_eq_true c57
                clear c57
                by_cases c58 : x10_4 ≤ (x5_1.length : Int)
                ·rw [if_pos c58] at H
                 have c58b0 := eq_true c58
                 have c58b1 : decide (x10_4 ≤ (x5_1.length : Int)) = true := decide_eq_true c58
                 clear c58
                 obtain ⟨y227, hy227⟩ : ∃ y_ : List (List Int), y_ = (x5_1.take (x10_4 : Int).toNat) := ⟨_, rfl⟩
                 replace H : (if y224.length + y227.length < 5864062014805 then ((some (y224 ++ y227 : List (List Int))).bind fun y232 => (if y232.length < 5864062014805 then ((some (y232 ++ [t186] : List (List Int))).bind fun y235 => ((some (x5_1.drop (x10_4 : Int).toNat : List (List Int))).bind fun y238 => (if y235.length + y238.length < 5864062014805 then (gampref04_Cliques.l0 k4 a0 l1 (y235 ++ y238) (wrap64 (x6_1 + 1))) else (none)))) else (none))) else (none)) = some r := by first | (rw [hy227]; with_reducible exact H) | (have H2_ := (Option.bind_some _ _).symm.trans H; rw [hy227]; with_reducible exact H2_) | (have H2_ := (Option.bind_some _ _).symm.trans H; with_reducible exact H2_) | with_reducible exact H | (rw [hy227]; exact H) | exact H
                 have Ny227 := Aside0.mk hy227
                 clear hy227
                 by_cases c59 : y224.length + y227.length < 5864062014805
                 ·rw [if_pos c59] at H
                  have LMc59 := Aside0.mk c59
                  clear c59
                  obtain ⟨y232, hy232⟩ : ∃ y_ : List (List Int), y_ = (y224 ++ y227) := ⟨_, rfl⟩
                  replace H : (if y232.length < 5864062014805 then ((some (y232 ++ [t186] : List (List Int))).bind fun y235 => ((some (x5_1.drop (x10_4 : Int).toNat : List (List Int))).bind fun y238 => (if y235.length + y238.length < 5864062014805 then (gampref04_Cliques.l0 k4 a0 l1 (y235 ++ y238) (wrap64 (x6_1 + 1))) else (none)))) else (none)) = some r := by first | (rw [hy232]; with_reducible exact H) | (have H2_ := (Option.bind_some _ _).symm.trans H; rw [hy232]; with_reducible exact H2_) | (have H2_ := (Option.bind_some _ _).symm.trans H; with_reducible exact H2_) | with_reducible exact H | (rw [hy232]; exact H) | exact H
                  have Ny232 := Aside0.mk hy232
                  clear hy232
                  by_cases c60 : y232.length < 5864062014805
                  ·rw [if_pos c60] at H
                   have LMc60 := Aside0.mk c60
                   clear c60
                   obtain ⟨y235, hy235⟩ : ∃ y_ : List (List Int), y_ = (y232 ++ [t186]) := ⟨_, rfl⟩
                   replace H : ((some (x5_1.drop (x10_4 : Int).toNat : List (List Int))).bind fun y238 => (if y235.length + y238.length < 5864062014805 then (gampref04_Cliques.l0 k4 a0 l1 (y235 ++ y238) (wrap64 (x6_1 + 1))) else (none))) = some r := by first | (rw [hy235]; with_reducible exact H) | (have H2_ := (Option.bind_some _ _).symm.trans H; rw [hy235]; with_reducible exact H2_) | (have H2_ := (Option.bind_some _ _).symm.trans H; with_reducible exact H2_) | with_reducible exact H | (rw [hy235]; exact H) | exact H
                   have Ny235 := Aside0.mk hy235
                   clear hy235
                   have c61b0 := eq_true (ofd : 0 ≤ x10_4)
                   have c62b0 := eq_true (ofd : x10_4 ≤ (x5_1.length : Int))
                   obtain ⟨y238, hy238⟩ : ∃ y_ : List (List Int), y_ = (x5_1.drop (x10_4 : Int).toNat) := ⟨_, rfl⟩
                   replace H : (if y235.length + y238.length < 5864062014805 then (gampref04_Cliques.l0 k4 a0 l1 (y235 ++ y238) (wrap64 (x6_1 + 1))) else (none)) = some r := by first | (rw [hy238]; with_reducible exact H) | (have H2_ := (Option.bind_some _ _).symm.trans H; rw [hy238]; with_reducible exact H2_) | (have H2_ := (Option.bind_some _ _).symm.trans H; with_reducible exact H2_) | with_reducible exact H | (rw [hy238]; exact H) | exact H
                   have Ny238 := Aside0.mk hy238
                   clear hy238
                   by_cases c63 : y235.length + y238.length < 5864062014805
                   ·rw [if_pos c63] at H
                    have LMc63 := Aside0.mk c63
                    clear c63
                    obtain ⟨y243, hy243⟩ : ∃ y_ : List (List Int), y_ = (y235 ++ y238) := ⟨_, rfl⟩
                    replace H : (gampref04_Cliques.l0 k4 a0 l1 y243 (wrap64 (x6_1 + 1))) = some r := by first | (rw [hy243]; with_reducible exact H) | (have H2_ := (Option.bind_some _ _).symm.trans H; rw [hy243]; with_reducible exact H2_) | (have H2_ := (Option.bind_some _ _).symm.trans H; with_reducible exact H2_) | with_reducible exact H | (rw [hy243]; exact H) | exact H
                    have Ny243 := Aside0.mk hy243
                    clear hy243
                    have H' := Aside0.mk H
                    clear H
                    obtain ⟨Ao64, co64, eo64⟩ := Kd.N_slice HO_5.out
                    subst eo64
                    go_wp2_with (first | ((with_reducible refine gate_dst (N := 65) rfl ?_); (try (refine gate_guard (by rfl) ?_; dsimp only)); refine Kd.N_lit (Kd.slice 3 (Kd.int .i64)) _ 34 ?hg (N' := 65) ?hd (xs := ([] : List (List Int))) (inner := []) (ok := (fun k_ => (w.heap.size ≤ k_) ∧ some k_ ≠ (.slice Ao64 x5_1.length co64 : Value).ownBlock ∧ some k_ ≠ (.slice Ao12 t186.length co12 : Value).ownBlock)) (okp := (fun k_ => (w.heap.size ≤ k_) ∧ some k_ ≠ (.slice Ao64 x5_1.length co64 : Value).ownBlock ∧ some k_ ≠ (.slice Ao12 t186.length co12 : Value).ownBlock)) ?hr ?hp (fun _ hk => hk) ((show ∀ k_, wr.heap.size ≤ k_ → (fun k_ => (w.heap.size ≤ k_) ∧ some k_ ≠ (.slice Ao64 x5_1.length co64 : Value).ownBlock ∧ some k_ ≠ (.slice Ao12 t186.length co12 : Value).ownBlock) k_ from fun k_ hk => ⟨(Nat.le_trans (below_size (bl HB)) hk), Kd.fresh' (Kd.N_lt (nl HO_5)) k_ hk, Kd.fresh' (Kd.R_lt (rl HO_7)) k_ hk⟩) _ (Nat.le_refl _)) (Below.refl _ _) (Nat.le_refl _) (by simp) ?_; (case hd => rfl); (case hg => rfl); (case hr => first | (go_simp; done) | (go_simp; rfl)); (case hp => exact (Reps.none _ _)); intro v225 w65 ho66 hb hg_ hnew_; clear hg_ hnew_; (first | rw [← Ny224.out] at ho66 | (simp only [Int.reduceToNat] at ho66; rw [← Ny224.out] at ho66)); have n0_ := Aside0.mk (Kd.N_elder' (nl HO_5) (Kd.N_base ho66) hb); have n1_ := Aside0.mk (Kd.R_below (rl HO_7) hb); have n2_ := Aside0.mk (Kd.N_lower ho66 (below_size (bl HB))); have n3_ := Aside0.mk (below_step (bl HB) hb); clear HO_5; clear HO_7; clear HB; have HO_5 := n0_; have HO_7 := n1_; have HO226 := n2_; have HB := n3_; clear n0_ n1_ n2_ n3_; clear hb ho66; have q67 : (x10_4 : Int) ≤ ((x5_1.length : Int) : Int) := ofd; obtain ⟨i067, hi067, _, hsz67, _⟩ := info_parts info34; have hroom67 : x5_1.length ≤ co64 := (Kd.N_reads' HO_5.out).2.1; have hC67 : Kd.F (Kd.slice 3 (Kd.int .i64)) _ _ Ao64 x5_1.length x5_1 := (Kd.V_at (base := w.heap.size) (Kd.N_V HO_5.out)).2.2; have hcut67 := cut_to (P := Try.prog) 26 34 .i64 Try.underlying26 hi067 Ao64 x5_1.length co64 x10_4 (ofd) q67 hroom67; have hr67 := Kd.F_take (m := (x10_4 : Int).toNat) hC67 (by omega); have hy67 : y227.length = (x10_4 : Int).toNat := (by rw [Ny227.out, List.length_take]; omega); rw [← Ny227.out] at hr67; rw [← hy67] at hcut67; have HO231 := Aside0.mk (show Kd.V (Kd.slice 3 (Kd.int .i64)) 34 _ w.heap.size _ (.slice Ao64 y227.length co64) y227 from Kd.V_mk (by omega) hr67); have HC231 := Aside0.mk (show y227.length ≤ co64 from by omega); clear hr67 hC67 hroom67 hi067 hsz67; have KY67 := Aside0.mk hy67; clear hy67; replace q67 := eq_true q67) | ((with_reducible refine gate_builtin (b := .append) (xs := #[.tmp 65, .tmp 68]) rfl ?_); (try (refine gate_guard (by rfl) ?_; dsimp only)); at_builtin; refine Kd.N_append_rows (Kd.slice 3 (Kd.int .i64)) (w0 := w) w.heap.size rfl (.tmp 65) (.tmp 68) 26 34 (.slice none 0 0) 24 rfl Try.underlying26 info34 rfl (by decide) (by omega) v225 y224 y227 _ _ _ (fun k_ => (w.heap.size ≤ k_) ∧ some k_ ≠ (.slice Ao12 t186.length co12 : Value).ownBlock) (fun k_ => ((fun k_ => (w.heap.size ≤ k_) ∧ some k_ ≠ (.slice Ao12 t186.length co12 : Value).ownBlock)) k_ ∧ some k_ ≠ (v225 : Value).ownBlock) rfl rfl ?aO ?aR (fun _ hk => hk) ?aF ?aB ?aS ?aL ?_; (case aR => exact (by skip; exact Kd.V_F (Kd.V_mono (ok' := (fun k_ => ((fun k_ => (w.heap.size ≤ k_) ∧ some k_ ≠ (.slice Ao12 t186.length co12 : Value).ownBlock)) k_ ∧ some k_ ≠ (v225 : Value).ownBlock)) (HO231.out) (fun k_ hk => ⟨⟨hk.1.1, hk.1.2⟩, hk.2⟩)))); (case aB => exact (bl HB)); (case aF => exact (fun k_ hk => ⟨(Nat.le_trans (below_size (bl HB)) hk), Kd.fresh' (Kd.R_lt (rl HO_7)) k_ hk⟩)); (case aO => exact (by (with_reducible repeat (first | apply Kd.N_alloc | apply Kd.N_drewN | apply Kd.N_drew)); exact Kd.N_mono HO226.out (fun _ hk => ⟨hk.1, hk.2.2⟩))); (case aS => exact (below_size (bl HB))); (case aL => have := LMc59.out; omega); intro v233 w68 ho hb hg hat; rw [← Ny232.out] at ho; have n0_ := Aside0.mk (Kd.N_afterv (ok := (fun k_ => (w.heap.size ≤ k_) ∧ some k_ ≠ (.slice Ao12 t186.length co12 : Value).ownBlock)) (nl HO_5) hg hat); have n1_ := Aside0.mk (Kd.R_over' (rl HO_7) (Kd.N_typed (nl HO226)) (by decide) hg); have n2_ := Aside0.mk (Kd.V_afterv (ok := (fun k_ => (w.heap.size ≤ k_) ∧ some k_ ≠ (.slice Ao12 t186.length co12 : Value).ownBlock)) (vl HO231) hg hat); have n3_ := Aside0.mk (hb); have n4_ := Aside0.mk (ho); clear HO_5; clear HO_7; clear HO231; clear HB; clear HO226; have HO_5 := n0_; have HO_7 := n1_; have HO231 := n2_; have HB := n3_; have HO234 := n4_; clear n0_ n1_ n2_ n3_ n4_; clear ho hb hg hat) | ((with_reducible refine gate_builtin (b := .append) (xs := #[.tmp 70, .tmp 72]) rfl ?_); (try (refine gate_guard (by rfl) ?_; dsimp only)); at_builtin; refine Kd.N_append (Kd.slice 3 (Kd.int .i64)) (w0 := w) w.heap.size rfl (.tmp 70) (.tmp 72) 26 34 (.slice none 0 0) 24 rfl Try.underlying26 info34 rfl (by decide) (by omega) v233 y232 t186 [.slice Ao12 t186.length co12] (fun k_ => (w.heap.size ≤ k_)) (fun k_ => ((fun k_ => (w.heap.size ≤ k_))) k_ ∧ some k_ ≠ (v233 : Value).ownBlock) rfl rfl ?aP (fun _ hk => hk) ?aF ?aO ?aB ?aS ?aL ?_; (case aP => exact (Kd.FK_slice_mk (Kd.R_reads' (Kd.R_mono (ok' := (fun k_ => ((fun k_ => (w.heap.size ≤ k_))) k_ ∧ some k_ ≠ (v233 : Value).ownBlock)) (Kd.R_apart' (HO_7.out) (Kd.N_typed HO234.out) (by decide)) (fun k_ hk => ⟨hk.1, hk.2⟩))).2.1 (Kd.R_F (Kd.R_mono (ok' := (fun k_ => ((fun k_ => (w.heap.size ≤ k_))) k_ ∧ some k_ ≠ (v233 : Value).ownBlock)) (Kd.R_apart' (HO_7.out) (Kd.N_typed HO234.out) (by decide)) (fun k_ hk => ⟨hk.1, hk.2⟩))))); (case aB => exact (bl HB)); (case aF => exact (fun k_ hk => (Nat.le_trans (below_size (bl HB)) hk))); (case aO => exact (by (with_reducible repeat (first | apply Kd.N_alloc | apply Kd.N_drewN | apply Kd.N_drew)); exact Kd.N_mono HO234.out (fun _ hk => hk.1))); (case aS => exact (below_size (bl HB))); (case aL => have := LMc60.out; omega); intro v236 w69 ho hb hg hat; rw [← Ny235.out] at ho; have n0_ := Aside0.mk (Kd.N_afterv (ok := (fun k_ => (w.heap.size ≤ k_) ∧ some k_ ≠ (.slice Ao12 t186.length co12 : Value).ownBlock)) (nl HO_5) hg hat); have n1_ := Aside0.mk (Kd.V_afterv (ok := (fun k_ => (w.heap.size ≤ k_) ∧ some k_ ≠ (.slice Ao12 t186.length co12 : Value).ownBlock)) (vl HO231) hg hat); have n2_ := Aside0.mk (hb); have n3_ := Aside0.mk (ho); clear HO_5; clear HO231; clear HB; clear HO234; clear HO_7; have HO_5 := n0_; have HO231 := n1_; have HB := n2_; have HO237 := n3_; clear n0_ n1_ n2_ n3_; clear ho hb hg hat; have q70 : (x10_4 : Int) ≤ ((x5_1.length : Int) : Int) := ofd; obtain ⟨i070, hi070, _, hsz70, _⟩ := info_parts info34; have hroom70 : x5_1.length ≤ co64 := (Kd.N_reads' HO_5.out).2.1; have hC70 : Kd.F (Kd.slice 3 (Kd.int .i64)) _ _ Ao64 x5_1.length x5_1 := (Kd.V_at (base := w.heap.size) (Kd.N_V HO_5.out)).2.2; have q070 : (0 : Int) ≤ (x10_4 : Int) := ofd; have hcut70 := cut_from (P := Try.prog) 26 34 .i64 Try.underlying26 hi070 1 hsz70 Ao64 x5_1.length co64 x10_4 q070 q70; have hr70 := Kd.F_cut (m := (x10_4 : Int).toNat) (c := co64) hC70 (by omega) hroom70; obtain ⟨A70, hA70⟩ : ∃ A1, A1 = (if co64 = (x10_4 : Int).toNat then Ao64 else (Ao64 : Option Addr).map (·.add ((x10_4 : Int).toNat * 1))) := ⟨_, rfl⟩; obtain ⟨c70, hc70⟩ : ∃ c1, c1 = co64 - (x10_4 : Int).toNat := ⟨_, rfl⟩; have hy70 : y238.length = x5_1.length - (x10_4 : Int).toNat := (by rw [Ny238.out, List.length_drop] <;> omega); rw [show (x5_1).drop (x10_4 : Int).toNat = y238 from Ny238.out.symm] at hr70; replace hr70 : Kd.F (Kd.slice 3 (Kd.int .i64)) _ _ A70 y238.length y238 := (by rw [hA70]; exact hr70); rw [← hy70, ← hA70, ← hc70] at hcut70; have HO242 := Aside0.mk (show Kd.V (Kd.slice 3 (Kd.int .i64)) 34 _ w.heap.size _ (.slice A70 y238.length c70) y238 from Kd.V_mk (by rw [hy70, hc70]; exact Nat.sub_le_sub_right hroom70 _) hr70); have HC242 := Aside0.mk (show y238.length ≤ c70 from by rw [hy70, hc70]; exact Nat.sub_le_sub_right hroom70 _); clear hr70 hC70 hroom70 hi070 hsz70 hc70; have KY70 := Aside0.mk hy70; have KA70 := Aside0.mk hA70; clear hy70 hA70; replace q70 := eq_true q70) | ((with_reducible refine gate_builtin (b := .append) (xs := #[.tmp 74, .tmp 77]) rfl ?_); (try (refine gate_guard (by rfl) ?_; dsimp only)); at_builtin; refine Kd.N_append_rows (Kd.slice 3 (Kd.int .i64)) (w0 := w) w.heap.size rfl (.tmp 74) (.tmp 77) 26 34 (.slice none 0 0) 24 rfl Try.underlying26 info34 rfl (by decide) (by omega) v236 y235 y238 _ _ _ (fun k_ => (w.heap.size ≤ k_)) (fun k_ => ((fun k_ => (w.heap.size ≤ k_))) k_ ∧ some k_ ≠ (v236 : Value).ownBlock) rfl rfl ?aO ?aR (fun _ hk => hk) ?aF ?aB ?aS ?aL ?_; (case aR => exact (by skip; exact Kd.V_F (Kd.V_mono (ok' := (fun k_ => ((fun k_ => (w.heap.size ≤ k_))) k_ ∧ some k_ ≠ (v236 : Value).ownBlock)) (HO242.out) (fun k_ hk => ⟨hk.1.1, hk.2⟩)))); (case aB => exact (bl HB)); (case aF => exact (fun k_ hk => (Nat.le_trans (below_size (bl HB)) hk))); (case aO => exact (nl HO237)); (case aS => exact (below_size (bl HB))); (case aL => have := LMc63.out; omega); intro v244 w71 ho hb hg hat; rw [← Ny243.out] at ho; have n0_ := Aside0.mk (Kd.N_afterv (ok := (fun k_ => (w.heap.size ≤ k_))) (by (with_reducible repeat (first | apply Kd.N_alloc | apply Kd.N_drewN | apply Kd.N_drew)); exact Kd.N_mono HO_5.out (fun _ hk => ⟨hk.1.1, hk.2⟩)) hg hat); have n1_ := Aside0.mk (Kd.V_afterv (ok := (fun k_ => (w.heap.size ≤ k_))) (by (with_reducible repeat (first | apply Kd.V_alloc | apply Kd.V_drewN | apply Kd.V_drew)); exact Kd.V_mono HO231.out (fun _ hk => ⟨hk.1.1, hk.2⟩)) hg hat); have n2_ := Aside0.mk (Kd.V_afterv (ok := (fun k_ => (w.heap.size ≤ k_))) (by (with_reducible repeat (first | apply Kd.V_alloc | apply Kd.V_drewN | apply Kd.V_drew)); exact Kd.V_mono HO242.out (fun _ hk => ⟨hk.1.1, hk.2⟩)) hg hat); have n3_ := Aside0.mk (hb); have n4_ := Aside0.mk (ho); clear HO_5; clear HO231; clear HO242; clear HB; clear HO237; have HO_5 := n0_; have HO231 := n1_; have HO242 := n2_; have HB := n3_; have HO245 := n4_; clear n0_ n1_ n2_ n3_ n4_; clear ho hb hg hat))
                    go_roundg k4
                    case measure => have := HK1.out; have := HK2.out; have := HJ13.out; have := HK4.out; omega
                    case rel => exact ⟨(y243), (wrap64 (x6_1 + 1)), (by first | rfl | (simp; done) | (simp [*]; done)), H', ⟨by have := HK1.out; have := HK2.out; have := HJ13.out; have := HK4.out; omega⟩, ⟨nl HO245⟩, ⟨bl HB⟩⟩
                   ·rw [if_neg c63] at H
                    exact absurd H (by simp)
                  ·rw [if_neg c60] at H
                   exact absurd H (by simp)
                 ·rw [if_neg c59] at H
                  exact absurd H (by simp)
                ·rw [if_neg c58] at H
                 exact absurd H (by simp)
               ·rw [if_neg c57] at H
                exact absurd H (by simp)
           ·replace c36 := Bool.eq_false_iff.mpr c36
            subst c36
            have H1 : (gampref04_Cliques.l0 kj13 a0 l1 x5_1 (wrap64 (x6_1 + 1))) = some r := by rw [if_neg (show ¬ (false = true) by decide)] at H; exact H
            clear H
            have H := H1
            clear H1
            have H' := Aside0.mk H
            clear H
            go_wp2
            go_roundg kj13
            case measure => have := HK1.out; have := HK2.out; have := HJ13.out; omega
            case rel => exact ⟨(x5_1), (wrap64 (x6_1 + 1)), (by first | rfl | (simp; done) | (simp [*]; done)), H', ⟨by have := HK1.out; have := HK2.out; have := HJ13.out; omega⟩, ⟨by (with_reducible repeat (first | apply Kd.N_alloc | apply Kd.N_drewN | apply Kd.N_drew)); exact Kd.N_mono HO_5.out (fun _ hk => hk.1)⟩, ⟨bl HB⟩⟩
     ·replace c10 := Bool.eq_false_iff.mpr c10
      subst c10
      have H1 : (gampref04_Cliques.l0 k1 a0 l1 x5_1 (wrap64 (x6_1 + 1))) = some r := by rw [if_neg (show ¬ (false = true) by decide)] at H; exact H
      clear H
      have H := H1
      clear H1
      have H' := Aside0.mk H
      clear H
      go_wp2_with (first | ((with_reducible refine gate_callee (f := 56) rfl ?_); refine gL 21 Try.func56 #[.int .i64 x6_1, .int .i64 a0] ?_; (with_reducible refine (gampref04_bits.calls k1 x6_1 a0 t186 _ A8.out).mono ?_); rintro e w72 ⟨v187, rfl, ho0, hb⟩; refine ⟨_, rfl, ?_⟩; have n0_ := Aside0.mk (Kd.N_elder' (nl HO_5) (Kd.R_base ho0) hb); have n1_ := Aside0.mk (Kd.R_lower (Kd.R_newM (M := fun k_ => (w.heap.size ≤ k_)) ho0 (below_size (bl HB)) (fun k_ h_ => h_)) (below_size (bl HB))); have n2_ := Aside0.mk (below_step (bl HB) hb); clear HO_5; clear HB; have HO_5 := n0_; have HO188 := n1_; have HB := n2_; clear n0_ n1_ n2_; (try clear hb); (try clear hb2); (try clear hk); (try clear hi); (try clear ho0); obtain ⟨Ao73, co73, eo73⟩ := Kd.R_slice HO188.out; subst eo73) | ((with_reducible refine gate_callee (f := 39) rfl ?_); refine gL 24 Try.func39 #[.slice A1 l1.length c1, .slice Ao73 t186.length co73] ?_; (with_reducible refine (gampref04_Clique.calls k1 _ _ l1 _ _ t186 false _ ?side1 ?side2 ?side3 ?side4 A9.out).mono ?_); (case side1 => exact cl (Kd.C_below HR1.out HB.out)); (case side2 => exact HC1.out); (case side3 => exact cl ((Kd.R_reads' HO188.out).2.2)); (case side4 => exact (Kd.R_reads' HO188.out).2.1); rintro e w74 ⟨rfl, hb⟩; refine ⟨_, rfl, ?_⟩; have n0_ := Aside0.mk (Kd.N_below (nl HO_5) hb); have n1_ := Aside0.mk (Kd.R_below (rl HO188) hb); have n2_ := Aside0.mk (below_step (bl HB) hb); clear HO_5; clear HO188; clear HB; have HO_5 := n0_; have HO188 := n1_; have HB := n2_; clear n0_ n1_ n2_; (try clear hb); (try clear hb2); (try clear hk); (try clear hi)))
      go_roundg k1
      case measure => have := HK1.out; omega
      case rel => exact ⟨(x5_1), (wrap64 (x6_1 + 1)), (by first | rfl | (simp; done) | (simp [*]; done)), H', ⟨by have := HK1.out; omega⟩, ⟨by (with_reducible repeat (first | apply Kd.N_alloc | apply Kd.N_drewN | apply Kd.N_drew)); exact Kd.N_mono HO_5.out (fun _ hk => hk.1)⟩, ⟨bl HB⟩⟩
    ·rw [if_neg c7] at H
     have c7b0 : decide (x6_1 < (ji6)) = false := decide_eq_false c7
     clear c7
     obtain rfl := Option.some.inj H
     go_wp2
     go_ret
     exact ⟨_, by first | rfl | (simp [errW_none, errW_some] <;> rfl) | (simp only [← hji6]; first | rfl | (simp [errW_none, errW_some] <;> rfl)) | (simp [*, errW_none, errW_some] <;> rfl), by (with_reducible repeat (first | apply Kd.N_alloc | apply Kd.N_drewN | apply Kd.N_drew)); exact HO_5.out, by repeat (first | (with_reducible first | exact HB.out | apply below_alloc | apply pw_below_drewN | apply below_drew1) | exact HB.out)⟩
   ·rw [if_neg c5] at H
    exact absurd H (by simp)
end Go.Proofs.Ytdpolfflemocaaa.Rx
