/- The declarations of B12 that the claim Qi needs. -/
import Derived.Test.YtdldfdcedjmneaaQiB11
namespace Go.Proofs.Ytdldfdcedjmneaa.Own
open Go.RowKit Go.Proofs.YtdldfdcedjmneaaW.PrintWords Go.Proofs.YtdldfdcedjmneaaW.PrintLast Go.Proofs.YtdldfdcedjmneaaW.PrintMore Go.Proofs.Ytdldfdcedjmneaa.Pb Go.Proofs.Ytdldfdcedjmneaa.Br
set_option linter.unusedVariables false
set_option linter.unusedSimpArgs false
theorem shortF_zero {n : Int} {xs : List Int} (h : shortF n xs = 0) : ∃ m : Nat, n = (m : Int) ∧ 2 ≤ m ∧ m ≤ 8 ∧ Word m xs ∧ xs.length ≤ 24 := by
 unfold shortF at h
 by_cases h1 : checkF n xs = 0 ∧ 24 < xs.length
 ·rw [if_pos h1] at h; cases h
 ·rw [if_neg h1] at h
  obtain ⟨m, e, h2, h3, h4, h5⟩ := checkF_zero h
  exact ⟨m, e, h2, h3, h4, by omega⟩
/-- Between two entries of Alexander: the two matrices, and the boxes. -/
structure AlS (w0 wr : World) (n : Nat) (B2 : Nat) (v1 v2 : Value) (hs1 hs2 : List (Nat × Nat)) (La Lb : List (List Po)) (g4 g8 : Nat) : Prop where
  a : Mat w0.heap.size n wr v1 hs1 La
  b : Mat B2 n wr v2 hs2 Lb
  lt : ∀ i (h : i < hs1.length), hs1[i].1 < B2
  m : ∃ v, Pol wr w0.heap.size g8 v (0, [-1])
  z4 : wr.heap[g4]? = some (.cells #[.int .i64 0, .slice none 0 0] 61 (0, 0))
  bel : Below w0.heap.size w0 wr
  b2 : w0.heap.size ≤ B2
section
variable {w0 wr wr' : World} {n B2 g4 g8 : Nat} {v1 v2 : Value} {hs1 hs2 : List (Nat × Nat)} {La Lb : List (List Po)}
theorem AlS.below (h : AlS w0 wr n B2 v1 v2 hs1 hs2 La Lb g4 g8) (hb : Below wr.heap.size wr wr') : AlS w0 wr' n B2 v1 v2 hs1 hs2 La Lb g4 g8 :=
  ⟨h.a.below hb, h.b.below hb, h.lt, h.m.imp fun _ h => h.below hb, blk_below h.z4 hb, below_step h.bel hb, h.b2⟩
/-- What lies ahead of its base may be written. -/
theorem Mat.low {B n : Nat} {w w' : World} {v : Value} {hs : List (Nat × Nat)} {L : List (List Po)} (h : Mat B n w v hs L) {S : Nat → Prop} (hk : Kept w w' S) (hS : ∀ k, S k → k < B) : Mat B n w' v hs L :=
  ⟨Kd.R_mono (Kd.R_kept (Kd.R_bound h.top) hk (fun k hk1 hs => by have h1 := hS k hs; have h2 := hk1.2.1; omega)) (fun _ _ => trivial), h.len, fun i hi => Kd.R_mono (Kd.R_kept (Kd.R_bound (h.row i hi)) hk (fun k hk1 hs => by have h1 := hS k hs; have h2 := hk1.2.1; omega)) (fun _ _ => trivial), h.nd⟩
theorem AlS.put {gr cr i : Nat} {r : List Po} {x : Po} {z : Value} (h : AlS w0 wr n B2 v1 v2 hs1 hs2 La Lb g4 g8) (hn : 0 < n) (hi : i < hs1.length) (hh : hs1[i] = (gr, cr)) (hr : E2.R 102 wr w0.heap.size (fun _ => True) (.slice (some ⟨gr, 0, none⟩) n cr) r) (q : Nat) (hq : q < n) (hx : Rw wr w0.heap.size z x.2) :
  AlS w0 ((wr.setCell ⟨gr, q * 2, none⟩ (.int .i64 x.1)).setCell ⟨gr, q * 2 + 1, none⟩ z) n B2 v1 v2 hs1 hs2 (La.set i (r.set q x)) Lb g4 g8 := by
 obtain ⟨cs, hc⟩ := h.a.blk hn hi
 have hB := h.a.base hi
 have hl := h.lt i hi
 rw [hh] at hc hB hl
 dsimp only at hc hB hl
 obtain ⟨k1, k2⟩ := row_put (x := x) hr (by decide) q hq hx
 exact ⟨h.a.put (S := fun _ => False) hn hi (by rw [hh]; exact k2) (by rw [hh]; exact k1), h.b.low k2 (fun k hk => by rw [hk]; exact hl), h.lt, h.m.imp fun _ hp => (hp.far hc (by decide) (by decide) _ _).far (blk_set hc _ _) (by decide) (by decide) _ _,
  blk_far (blk_far h.z4 (blk_ne h.z4 hc (by decide)) _) (blk_ne h.z4 hc (by decide)) _, below_set (below_set h.bel hB) hB, h.b2⟩
end
/-- The end of Alexander: the box, its coefficients, and the box of the result. -/
structure AlF (w0 wr : World) (g : Nat) (A : Option Addr) (m d : Nat) (cs : List Int) : Prop where
  box : wr.heap[g]? = some (.cells #[.int .i64 0, .slice A m d] 61 (0, 0))
  row : Kd.R (Kd.int .i64) 3 wr w0.heap.size (fun _ => True) (.slice A m d) cs
  z4 : wr.heap[w0.heap.size]? = some (.cells #[.int .i64 0, .slice none 0 0] 61 (0, 0))
  bel : Below w0.heap.size w0 wr
section
variable {w0 wr wr' : World} {g m d : Nat} {A : Option Addr} {cs : List Int}
theorem AlF.below (h : AlF w0 wr g A m d cs) (hb : Below wr.heap.size wr wr') : AlF w0 wr' g A m d cs := ⟨blk_below h.box hb, Kd.R_below h.row hb, blk_below h.z4 hb, below_step h.bel hb⟩
theorem AlF.put {gz : Nat} (h : AlF w0 wr g (some ⟨gz, 0, none⟩) m d cs) (i : Nat) (x : Int) : AlF w0 (wr.setCell ⟨gz, i, none⟩ (.int .i64 x)) g (some ⟨gz, 0, none⟩) m d (cs.set i x) := by
 have ne : ∀ {k : Nat} {c : Array Value}, wr.heap[k]? = some (.cells c 61 (0, 0)) → k ≠ gz := fun {k c} hb e => Kd.R_ne h.row hb (by decide) (by rw [e]; rfl)
 have h1 := Kd.R_putn h.row (i : Int) x
 exact ⟨blk_far h.box (ne h.box) _, h1, blk_far h.z4 (ne h.z4) _, below_set h.bel (Kd.R_base h.row gz rfl)⟩
theorem AlF.fin (h : AlF w0 wr g A m d cs) : ((wr.setCell ⟨w0.heap.size, 0, none⟩ (.int .i64 0)).setCell ⟨w0.heap.size, 1, none⟩ (.slice A m d)).cell? ⟨w0.heap.size, 0, none⟩ = some (.int .i64 0) ∧ ((wr.setCell ⟨w0.heap.size, 0, none⟩ (.int .i64 0)).setCell ⟨w0.heap.size, 1, none⟩ (.slice A m d)).cell? ⟨w0.heap.size, 1, none⟩ = some (.slice A m d) ∧
  Kd.R (Kd.int .i64) 3 ((wr.setCell ⟨w0.heap.size, 0, none⟩ (.int .i64 0)).setCell ⟨w0.heap.size, 1, none⟩ (.slice A m d)) w0.heap.size (fun _ => True) (.slice A m d) cs ∧ Below w0.heap.size w0 ((wr.setCell ⟨w0.heap.size, 0, none⟩ (.int .i64 0)).setCell ⟨w0.heap.size, 1, none⟩ (.slice A m d)) := by
 have k0 := blk_set h.z4 0 (.int .i64 0)
 have k1 := blk_set k0 1 (.slice A m d)
 exact ⟨(blk_cell k1 0).trans rfl, (blk_cell k1 1).trans rfl, Kd.R_set (Kd.R_set h.row h.z4 (by decide) 0 _) k0 (by decide) 1 _, below_set (below_set h.bel (Nat.le_refl _)) (Nat.le_refl _)⟩
theorem AlF.rd (h : AlF w0 wr g A m d cs) : wr.cell? ⟨g, 0, none⟩ = some (.int .i64 0) ∧ wr.cell? ⟨g, 1, none⟩ = some (.slice A m d) ∧ wr.cell? ⟨w0.heap.size, 0, none⟩ = some (.int .i64 0) ∧ wr.cell? ⟨w0.heap.size, 1, none⟩ = some (.slice none 0 0) ∧ wr.frozen? ⟨w0.heap.size, 0, none⟩ = false ∧ wr.frozen? ⟨w0.heap.size, 1, none⟩ = false :=
  ⟨(blk_cell h.box 0).trans rfl, (blk_cell h.box 1).trans rfl, (blk_cell h.z4 0).trans rfl, (blk_cell h.z4 1).trans rfl, blk_frozen h.z4 0, blk_frozen h.z4 1⟩
end
def negTo (k : Nat) (l : List Int) : List Int := (l.take k).map (fun x => wrap64 (-x)) ++ l.drop k
theorem negTo_at {k : Nat} {l : List Int} (hk : k < l.length) : (negTo k l).getD k 0 = l.getD k 0 := by
 unfold negTo
 rw [List.getD_eq_getElem?_getD, List.getElem?_append_right (by simp; omega)]
 simp [List.getElem?_eq_getElem hk, Nat.min_eq_left (Nat.le_of_lt hk)]
theorem negTo_set {k : Nat} {l : List Int} (hk : k < l.length) : (negTo k l).set k (wrap64 (-(l.getD k 0))) = negTo (k + 1) l := by
 unfold negTo
 rw [List.set_append_right _ _ (by simp; omega)]
 have h1 : k - ((l.take k).map (fun x => wrap64 (-x))).length = 0 := by simp; omega
 have h2 : l.getD k 0 = l[k] := by rw [List.getD_eq_getElem?_getD, List.getElem?_eq_getElem hk]; rfl
 rw [h1, List.drop_eq_getElem_cons hk, List.set_cons_zero, List.take_succ_eq_append_getElem hk, List.map_append, List.append_assoc, h2]
 rfl
theorem negTo_all {k : Nat} {l : List Int} (hk : l.length ≤ k) : negTo k l = l.map (fun x => wrap64 (-x)) := by unfold negTo; rw [List.take_of_length_le hk, List.drop_of_length_le hk, List.append_nil]
theorem negTo_zero (l : List Int) : negTo 0 l = l := by unfold negTo; simp
set_option maxRecDepth 100000 in
set_option maxHeartbeats 8000000 in
theorem strap_Alexander.calls (a0 : Int) (A1 : Option Addr) (c1 : Nat) (l1 : List Int) (r1 : Int) (r2 : List Int) (r3 : Int) (w : World) (hr1 : Kd.C (Kd.int .i64) w A1 l1.length l1) (hc1 : l1.length ≤ c1) (hf : strap_Alexander.f a0 l1 = some (r1, r2, r3)) :
  Calls Try.prog 37 #[.int .i64 a0, .slice A1 l1.length c1] w fun e w' => ∃ v0_ : Value, e = .returned (.tuple #[.agg #[.int .i64 r1, v0_], .int .i64 r3]) ∧ Kd.R (Kd.int .i64) 3 w' w.heap.size (fun _ => True) v0_ r2 ∧ Below w.heap.size w w' := by
 unfold strap_Alexander.f at hf
 injection hf with hf
 have hC1 := Kd.C_below (w1 := w.alloc (.cells #[.int .i64 0, .slice none 0 0] 61)) hr1 (below_alloc (Below.refl _ _) _)
 have h64 := f64_any a0 A1 c1 l1 _ hC1 hc1
 obtain ⟨e1, he1⟩ : ∃ e, shortF a0 l1 = e := ⟨_, rfl⟩
 rw [he1] at h64 hf
 by_cases hz : e1 ≠ 0
 ·rw [if_pos hz] at hf
  injection hf with hf1 hf
  injection hf with hf2 hf3
  subst hf1 hf2 hf3
  have hzb : (e1 != 0) = true := by simpa using hz
  clear hz he1 hC1 hr1
  go_enter Try.func37, Try.ntmps37
  go_wp2_with (go_at_call 64; (with_reducible refine h64.mono ?_); rintro e w5 ⟨rfl, hb5⟩; have HB5 := Aside0.mk hb5; have x4 := blk_below (heap_alloc_new w (.cells #[.int .i64 0, .slice none 0 0] 61)) hb5; obtain ⟨y1, y2⟩ : w5.cell? ⟨w.heap.size, 0, none⟩ = some (.int .i64 0) ∧ w5.cell? ⟨w.heap.size, 1, none⟩ = some (.slice none 0 0) := ⟨(blk_cell x4 0).trans rfl, (blk_cell x4 1).trans rfl⟩; have y3 := blk_frozen x4 0; have y4 := blk_frozen x4 1; have X4 := Aside0.mk x4; clear hb5 x4)
  have k0 := blk_set X4.out 0 (.int .i64 0)
  have k1 := blk_set k0 1 (.slice none 0 0)
  have z1 : ((w5.setCell ⟨w.heap.size, 0, none⟩ (.int .i64 0)).setCell ⟨w.heap.size, 1, none⟩ (.slice none 0 0)).cell? ⟨w.heap.size, 0, none⟩ = some (.int .i64 0) := (blk_cell k1 0).trans rfl
  have z2 : ((w5.setCell ⟨w.heap.size, 0, none⟩ (.int .i64 0)).setCell ⟨w.heap.size, 1, none⟩ (.slice none 0 0)).cell? ⟨w.heap.size, 1, none⟩ = some (.slice none 0 0) := (blk_cell k1 1).trans rfl
  have hbF : Below w.heap.size w ((w5.setCell ⟨w.heap.size, 0, none⟩ (.int .i64 0)).setCell ⟨w.heap.size, 1, none⟩ (.slice none 0 0)) := below_set (below_set (below_step (below_alloc (Below.refl _ _) _) HB5.out) (Nat.le_refl _)) (Nat.le_refl _)
  generalize (w5.setCell ⟨w.heap.size, 0, none⟩ (.int .i64 0)).setCell ⟨w.heap.size, 1, none⟩ (.slice none 0 0) = F at *
  clear k0 k1
  refine bodyPost_ret (v := .tuple #[.agg #[.int .i64 0, .slice none 0 0], .int .i64 e1]) (by simp [results, Try.results37, go_sem, z1, z2]) rfl ⟨_, rfl, Kd.R_nil _ _ _ _ _, hbF⟩
 ·have hz0 : e1 = 0 := by omega
  rw [if_neg hz] at hf
  obtain ⟨n, rfl, hn1, hn8, hw1, hl1⟩ := shortF_zero (he1.trans hz0)
  rw [Int.toNat_natCast] at hf
  injection hf with hf1 hf
  injection hf with hf2 hf3
  subst hf1 hf3
  rw [hz0] at h64
  have HF2 := Aside0.mk hf2
  have HR1 := Aside0.mk hr1
  have HW1 := Aside0.mk hw1
  clear hz he1 hC1 hr1 hz0 hf2 hw1
  go_enter Try.func37, Try.ntmps37
  go_upto_region 5 with (first | (go_at_call 64; (with_reducible refine h64.mono ?_); rintro e w5 ⟨rfl, hb5⟩; have HB5 := Aside0.mk hb5; have X4 := Aside0.mk (blk_below (heap_alloc_new w (.cells #[.int .i64 0, .slice none 0 0] 61)) hb5); clear hb5) | (go_at_call 67; (with_reducible refine (f67_any n (by omega) (by omega) _).mono ?_); rintro e w6 ⟨v1, hs1, rfl, hM1, hlen1, hb6⟩; have HM1 := Aside0.mk hM1; have HB6 := Aside0.mk hb6; have HLEN1 := Aside0.mk hlen1; clear hM1 hb6 hlen1))
  obtain ⟨W7, hW7⟩ : ∃ W, (w6.alloc (.cells #[.int .i64 (-1)] 3)).alloc (.cells #[.int .i64 0, .slice (some ⟨w6.heap.size, 0, none⟩) 1 1] 100) = W := ⟨_, rfl⟩
  have HB7 : Aside0 (Below w6.heap.size w6 W7) := ⟨by rw [← hW7]; exact below_alloc (below_alloc (Below.refl _ _) _) _⟩
  have HBW5 : Aside0 (Below w.heap.size w w5) := ⟨below_step (below_alloc (Below.refl _ _) _) HB5.out⟩
  have HPM : Aside0 (∃ v, Pol W7 w.heap.size (w6.heap.size + 1) v (0, [-1])) := ⟨⟨.slice (some ⟨w6.heap.size, 0, none⟩) 1 1, by rw [← hW7, ← size_alloc w6 (.cells #[.int .i64 (-1)] 3)]; exact heap_alloc_new _ _, by rw [← hW7]; exact row_blk (l := [-1]) (blk_alloc (heap_alloc_new _ _) _) (Nat.le_trans HBW5.out.size HB6.out.size) (by simp) rfl⟩⟩
  rw [hW7]
  clear hW7
  have HC7 : Aside0 (Kd.C (Kd.int .i64) W7 A1 l1.length l1) := ⟨Kd.C_below HR1.out (below_step HBW5.out (below_step HB6.out HB7.out))⟩
  go_upto_region 6 with (go_at_call 65; (with_reducible refine (f65_any n A1 c1 l1 _ HC7.out hn1 (by omega) (by omega) HW1.out).mono ?_); rintro e w8 ⟨v2, hs2, rfl, hM2, hlen2, hb8⟩; have HM2 := Aside0.mk hM2; have HB8 := Aside0.mk hb8; have HLEN2 := Aside0.mk hlen2; clear hM2 hb8 hlen2; obtain ⟨gu, cu, hvu, hzu⟩ := Kd.R_form HM2.out.top (by rw [HLEN2.out]; omega); rw [HLEN2.out] at hvu; subst hvu; clear hzu)
  obtain ⟨gt, ct, hv1, hz1⟩ := Kd.R_form HM1.out.top (by rw [HLEN1.out]; omega)
  rw [HLEN1.out] at hv1
  subst hv1
  clear hz1
  have HLL : Aside0 ((burauF n l1).length = n) := ⟨burauF_len _ _⟩
  have HLB : Aside0 (AllRg 99 (burauF n l1)) := ⟨fun r hr p hp => (burauF_rg n l1 r hr p hp).mono (by omega)⟩
  have HS0 : Aside0 (AlS w w8 n W7.heap.size (.slice (some ⟨gt, 0, none⟩) n ct) (.slice (some ⟨gu, 0, none⟩) n cu) hs1 hs2 (matA (burauF n l1) n 0 0) (burauF n l1) w.heap.size (w6.heap.size + 1)) := ⟨by
   rw [matA_zero]
   refine ⟨(HM1.out.lower HBW5.out.size).below (below_step HB7.out HB8.out), HM2.out, fun i hi => ?_, HPM.out.imp fun _ h => h.below HB8.out, blk_below (blk_below (blk_below X4.out HB6.out) HB7.out) HB8.out, below_step HBW5.out (below_step HB6.out (below_step HB7.out HB8.out)), Nat.le_trans HBW5.out.size (Nat.le_trans HB6.out.size HB7.out.size)⟩
   have h1 : hs1[i].1 < w6.heap.size := Kd.R_lt (HM1.out.row i hi) _ rfl
   exact Nat.lt_of_lt_of_le h1 HB7.out.size⟩
  generalize W7.heap.size = B2 at *
  generalize w6.heap.size + 1 = g8 at *
  obtain ⟨Lb, hLb⟩ : ∃ L, burauF n l1 = L := ⟨_, rfl⟩
  rw [hLb] at HLL HLB HS0
  have HLBE := Aside0.mk hLb
  clear hLb HM1 HM2 HPM HB7 HB8 HB6 HBW5 HB5 X4 HC7
  go_loopg [30] n (fun kq s30 wr => ∃ i : Nat, s30 = .int .i64 i ∧ i ≤ n ∧ n - i ≤ kq ∧ Aside0 (AlS w wr n B2 (.slice (some ⟨gt, 0, none⟩) n ct) (.slice (some ⟨gu, 0, none⟩) n cu) hs1 hs2 (matA Lb n i 0) Lb w.heap.size g8))
  case atStart => exact ⟨0, rfl, Nat.zero_le _, by omega, HS0⟩
  case round =>
   clear HS0
   obtain ⟨i, rfl, hi, hgg, HS⟩ := hrel
   by_cases hlt : i < n
   ·have hlt2 : (i : Int) < (n : Int) := by omega
    have hi0 : (0 : Int) ≤ (i : Int) := by omega
    have hih2 : i < hs2.length := by rw [HLEN2.out]; exact hlt
    have hih1 : i < hs1.length := by rw [HLEN1.out]; exact hlt
    have hhd := HS.out.b.head hih2
    obtain ⟨hb0, hhb0⟩ : ∃ h, hs2[i] = h := ⟨_, rfl⟩
    rw [hhb0] at hhd
    obtain ⟨gb, cb⟩ := hb0
    unfold encH at hhd
    dsimp only at hhd
    obtain ⟨ha0, hha0⟩ : ∃ h, hs1[i] = h := ⟨_, rfl⟩
    obtain ⟨ga, ca⟩ := ha0
    have HHB := Aside0.mk hhb0
    have HHA := Aside0.mk hha0
    clear hhb0 hha0
    obtain ⟨W2, hW2⟩ : ∃ W, wr = W := ⟨_, rfl⟩
    rw [hW2] at HS hhd ⊢
    clear hW2
    go_wp2
    clear hhd
    go_loopg [37] n (fun kq s37 w3 => ∃ j : Nat, s37 = .int .i64 j ∧ j ≤ n ∧ n - j ≤ kq ∧ Aside0 (AlS w w3 n B2 (.slice (some ⟨gt, 0, none⟩) n ct) (.slice (some ⟨gu, 0, none⟩) n cu) hs1 hs2 (matA Lb n i j) Lb w.heap.size g8))
    case atStart => exact ⟨0, rfl, Nat.zero_le _, by omega, HS⟩
    case round =>
     clear HS
     obtain ⟨j, rfl, hj, hgg2, HS⟩ := hrel
     by_cases hltj : j < n
     ·have hj2 : (j : Int) < (n : Int) := by omega
      have hj0 : (0 : Int) ≤ (j : Int) := by omega
      have hrb := HS.out.b.row i hih2
      rw [HHB.out] at hrb
      unfold encH at hrb
      dsimp only at hrb
      obtain ⟨Ap, dp, p1, p2, p3, _, _⟩ := row_elem hrb j hltj
      obtain ⟨p, hp⟩ : ∃ p, (Lb.getD i []).getD j (0, []) = p := ⟨_, rfl⟩
      rw [hp] at p1 p2 p3
      have HP3 := Aside0.mk p3
      have HPE := Aside0.mk hp
      clear hrb hp p3
      go_upto_region 11 with (fail)
      clear p1 p2
      obtain ⟨X0, hX0⟩ : ∃ W, wr.alloc (.cells #[.int .i64 p.1, .slice Ap p.2.length dp] 102) = W := ⟨_, rfl⟩
      have hbX : Below wr.heap.size wr X0 := by rw [← hX0]; exact below_alloc (Below.refl _ _) _
      have hz12 : X0.heap[wr.heap.size]? = some (.cells #[.int .i64 p.1, .slice Ap p.2.length dp] 102 (0, 0)) := by rw [← hX0]; exact heap_alloc_new _ _
      have HSX := Aside0.mk (HS.out.below hbX)
      have HPX := Aside0.mk (Kd.R_below HP3.out hbX)
      have HZ12 := Aside0.mk hz12
      rw [hX0]
      clear hX0 hz12 HS HP3
      generalize wr.heap.size = g12 at *
      have hra := HSX.out.a.row i hih1
      rw [matA_at hlt, HHA.out] at hra
      have hha := HSX.out.a.head hih1
      rw [HHA.out] at hha
      unfold encH at hra hha
      dsimp only at hra hha
      obtain ⟨Aq, dq, k1, k2, k3, _, _⟩ := row_elem hra j hltj
      rw [rowA_at hltj] at k1 k2 k3
      obtain ⟨q, hq⟩ : ∃ q : Po, (if j = i then (0, [1]) else (0, [])) = q := ⟨_, rfl⟩
      rw [hq] at k1 k2 k3
      have hqr : Rg 1 q := by rw [← hq]; split <;> exact ⟨by decide, by decide⟩
      obtain ⟨vm, hm⟩ := HSX.out.m
      have hpr : Rg 99 p := by
       rw [← HPE.out]
       have hr : RowRg 99 (Lb.getD i []) := by
        rw [List.getD_eq_getElem?_getD, List.getElem?_eq_getElem (by rw [HLL.out]; exact hlt)]
        exact HLB.out _ (List.getElem_mem _)
       exact hr.at_ (by decide) j
      obtain ⟨vq, hvq⟩ : ∃ v, Value.slice Aq q.2.length dq = v := ⟨_, rfl⟩
      rw [hvq] at k2 k3
      obtain ⟨wd, hwd⟩ : ∃ W, X0.drew = W := ⟨_, rfl⟩
      have HBD : Aside0 (Below X0.heap.size X0 wd) := ⟨by rw [← hwd]; exact below_drew1 (Below.refl _ _)⟩
      have HALL : Aside0 (∀ w', Below X0.heap.size X0 w' → w'.cell? ⟨gt, i, none⟩ = some (.slice (some ⟨ga, 0, none⟩) n ca) ∧ w'.cell? ⟨ga, j * 2, none⟩ = some (.int .i64 q.1) ∧ w'.cell? ⟨ga, j * 2 + 1, none⟩ = some vq ∧ w'.cell? ⟨g12, 0, none⟩ = some (.int .i64 p.1) ∧ w'.cell? ⟨g12, 1, none⟩ = some (.slice Ap p.2.length dp) ∧ w'.cell? ⟨g8, 0, none⟩ = some (.int .i64 0) ∧ w'.cell? ⟨g8, 1, none⟩ = some vm) := ⟨fun w' hbl => ⟨cell_bel hbl hha, cell_bel hbl k1, cell_bel hbl k2, (blk_cell (blk_below HZ12.out hbl) 0).trans rfl, (blk_cell (blk_below HZ12.out hbl) 1).trans rfl, cell_bel hbl hm.c0, cell_bel hbl hm.c1⟩⟩
      have hS := HALL.out wd HBD.out
      have hBw : w.heap.size ≤ X0.heap.size := HSX.out.bel.size
      have h69 := f69_any (S := 0) (q := (0, [-1])) wd (Nat.le_trans HSX.out.bel.size HBD.out.size) (Kd.R_lower (Kd.R_below HPX.out HBD.out) HSX.out.b2) (Kd.R_below hm.row HBD.out) hpr ⟨by decide, by decide⟩ (by decide) (by decide)
      obtain ⟨y, hy⟩ : ∃ y, timesP p (0, [-1]) = y := ⟨_, rfl⟩
      have hyr : Rg 99 y := by rw [← hy]; exact timesP_rg (S := 0) hpr ⟨by decide, by decide⟩ (by decide) (by decide)
      rw [hy] at h69
      obtain ⟨x, hx⟩ : ∃ x, plusP q y = x := ⟨_, rfl⟩
      have HXE : Aside0 (entA Lb i j = x) := ⟨by unfold entA; rw [HPE.out, hy, hq, hx]⟩
      have H68 : Aside0 (∀ w' z, Below X0.heap.size X0 w' → Rw w' w.heap.size z y.2 → Calls Try.prog 68 #[.agg #[.int .i64 q.1, vq], .agg #[.int .i64 y.1, z]] w' (fun e' w'' => ∃ z, e' = .returned (.agg #[.int .i64 x.1, z]) ∧ Rw w'' w.heap.size z x.2 ∧ Below w'.heap.size w' w'')) := ⟨fun w' z hbl h1 => by
       rw [← hx]
       exact f68_any w' (Nat.le_trans hBw hbl.size) (Kd.R_below k3 hbl) h1 (hqr.mono (by decide)) hyr (R := 99) (by decide)⟩
      have HRA := Aside0.mk hra
      clear hra hha k1 k2 k3 hq hqr hm hpr hvq hy hyr hx hBw hbX
      refine wp_region_T 20 (fun w' => w'.cell? ⟨gt, i, none⟩ = some (.slice (some ⟨ga, 0, none⟩) n ca) ∧ w'.cell? ⟨ga, j * 2, none⟩ = some (.int .i64 q.1) ∧ w'.cell? ⟨ga, j * 2 + 1, none⟩ = some vq ∧ w'.cell? ⟨g12, 0, none⟩ = some (.int .i64 p.1) ∧ w'.cell? ⟨g12, 1, none⟩ = some (.slice Ap p.2.length dp) ∧ w'.cell? ⟨g8, 0, none⟩ = some (.int .i64 0) ∧ w'.cell? ⟨g8, 1, none⟩ = some vm) (by kernel_rfl) ?_
      rw [hwd]
      clear hwd
      refine tk 0 ?_
      refine tk 1 ?_
      refine tk 2 ?_
      refine tk 3 ?_
      refine tk 4 ?_
      refine tk 5 ?_
      refine tk 6 ?_
      refine tk 7 ?_
      refine tk 8 ?_
      refine tk 9 ?_
      refine tk 10 ?_
      refine tk 11 ?_
      refine tk 12 ?_
      refine tk 13 ?_
      refine tk 14 ?_
      refine tk 15 ?_
      refine wpAnyT_one (i := 16) (by kernel_rfl) rfl (fun K hK => ?_)
      go_wp2_with (go_at_call 69; (with_reducible refine h69.mono ?_); rintro e w9 ⟨z9, rfl, hz9, hb9⟩; have HB9 := Aside0.mk (below_step HBD.out hb9); have HZ9 := Aside0.mk hz9; clear hb9 hz9)
      refine hK _ _ (fun _ => ?_) ?_
      ·exact HALL.out _ HB9.out
      clear hK K
      (try simp only [Act.put, List.setIfInBounds_toArray, List.set_cons_zero, List.set_cons_succ])
      clear h69 hS
      refine wpAnyT_one (i := 17) (by kernel_rfl) rfl (fun K hK => ?_)
      go_wp2_with (go_at_call 68; (with_reducible refine (H68.out _ _ HB9.out HZ9.out).mono ?_); rintro e w10 ⟨z10, rfl, hz10, hb10⟩; have HB10 := Aside0.mk (below_step HB9.out hb10); have HZ10 := Aside0.mk hz10; clear hb10 hz10)
      refine hK _ _ (fun _ => ?_) ?_
      ·exact HALL.out _ HB10.out
      clear hK K
      (try simp only [Act.put, List.setIfInBounds_toArray, List.set_cons_zero, List.set_cons_succ])
      obtain ⟨Az, dz, rfl⟩ := Kd.R_slice HZ10.out
      have hS10 := HALL.out _ HB10.out
      refine tk 18 ?_
      have HS10 := Aside0.mk (HSX.out.below HB10.out)
      have HRA10 := Aside0.mk (Kd.R_below HRA.out HB10.out)
      obtain ⟨Aq2, dq2, e1, e2, _, e4, e5⟩ := row_elem HRA10.out j hltj
      refine wpAnyT_one (i := 19) (by kernel_rfl) rfl (fun K hK => ?_)
      go_wp2
      refine hK _ _ (fun _ => ?_) ?_
      ·exact hS10
      clear hK K
      (try simp only [Act.put, List.setIfInBounds_toArray, List.set_cons_zero, List.set_cons_succ])
      clear hS10 HALL H68
      refine wpAnyT_one (i := 20) (by kernel_rfl) rfl (fun K hK => ?_)
      go_wp2
      refine hK _ _ (fun h => absurd rfl h) ?_
      clear hK K
      (try simp only [Act.put, List.setIfInBounds_toArray, List.set_cons_zero, List.set_cons_succ])
      refine wpAnyT_done (by kernel_rfl) ?_ _
      go_wp2
      go_roundg (n - (j + 1))
      case measure => omega
      case rel =>
       refine ⟨j + 1, by go_num, by omega, Nat.le_refl _, ⟨?_⟩⟩
       have h := HS10.out.put (by omega) hih1 HHA.out HRA10.out j hltj HZ10.out
       rw [← HXE.out] at h ⊢
       rw [rowA_set hltj, matA_set hlt] at h
       exact h
     ·have hjn : j = n := by omega
      have HM : Aside0 (matA Lb n i j = matA Lb n (i + 1) 0) := ⟨by rw [hjn]; exact matA_row hlt⟩
      clear hjn
      go_wp2
      go_roundg (n - (i + 1))
      case measure => omega
      case rel => exact ⟨i + 1, by go_num, by omega, Nat.le_refl _, ⟨by rw [← HM.out]; exact HS.out⟩⟩
   ·have hin : i = n := by omega
    have HM : Aside0 (matA Lb n i 0 = alexM Lb n) := ⟨by rw [hin]; rfl⟩
    rw [HM.out] at HS
    clear hin HM
    have HRG : Aside0 (AllRg 100 (alexM Lb n)) := ⟨alexM_rg HLB.out n⟩
    have HDG : Aside0 (Rg 20000 (detF (alexM Lb n) (n - 1))) := ⟨detF_rg HRG.out (by omega)⟩
    have e1n : ((n : Int) - 1) = ((n - 1 : Nat) : Int) := by omega
    have E1N := Aside0.mk e1n
    clear e1n
    go_upto_region 16 with (first | (go_at_call 70; rw [E1N.out]; (with_reducible refine (f70_any (n - 1) _ HS.out.a (by omega) (by omega) HRG.out HS.out.bel.size (by omega) HLEN1.out).mono ?_); rintro e w11 ⟨z11, rfl, hz11, hb11⟩; have HB11 := Aside0.mk (below_step HS.out.bel hb11); have HZ11 := Aside0.mk hz11; have X11 := Aside0.mk (blk_below HS.out.z4 hb11); clear hz11 hb11) | (go_at_call 66; (with_reducible refine (f66_any _ HZ11.out HDG.out (by decide)).mono ?_); rintro e w12 ⟨z12, rfl, hz12, hb12⟩; obtain ⟨A12, d12, rfl⟩ := Kd.R_slice hz12; have HB12 := Aside0.mk (below_step HB11.out hb12); have HZ12 := Aside0.mk hz12; have HL12 := Aside0.mk hb12.size; have X12 := Aside0.mk (blk_below X11.out hb12); clear hz12 hb12))
    obtain ⟨cs, hcs⟩ : ∃ l, (laurentF (detF (alexM Lb n) (n - 1))).2 = l := ⟨_, rfl⟩
    have HNE0 : Aside0 (alexF n l1 = negF cs) := ⟨by unfold alexF; rw [HLBE.out, hcs]⟩
    have HSF : Aside0 (AlF w (w12.alloc (.cells #[.int .i64 0, .slice A12 cs.length d12] 61)) w12.heap.size A12 cs.length d12 cs) := ⟨⟨heap_alloc_new _ _, Kd.R_alloc (Kd.R_lower (by have h := HZ12.out; rw [hcs] at h; exact h) HB11.out.size) _, blk_alloc X12.out _, below_alloc HB12.out _⟩⟩
    have HSZ : Aside0 (cs.length ≤ 1000000) := ⟨by
     have h1 := HDG.out
     rw [← hcs]
     unfold laurentF
     split
     ·simp
     ·show ((_ : List Int).drop _).length ≤ _
      rw [List.length_drop, List.length_take]
      have h2 := h1.lo
      have h3 := h1.hi
      omega⟩
    rw [hcs]
    clear hcs HB11 HZ11 X11 HB12 HZ12 HL12 X12
    obtain ⟨m, hm⟩ : ∃ m, cs.length = m := ⟨_, rfl⟩
    rw [hm] at HSF ⊢
    have HMM := Aside0.mk hm
    clear hm
    generalize w12.heap.size = g13 at *
    generalize w12.alloc (.cells #[.int .i64 0, .slice A12 m d12] 61) = W13 at *
    by_cases h0 : m = 0
    ·have hb : decide ((0 : Int) < (m : Int)) = false := decide_eq_false (by omega)
     have hbn : decide (0 < m) = false := decide_eq_false (by omega)
     have HNEG : Aside0 (alexF n l1 = cs) := ⟨by rw [HNE0.out]; unfold negF; rw [if_neg (fun h => by have := HMM.out; omega)]⟩
     clear h0
     obtain ⟨y1, y2, y3, y4, y5, y6⟩ := HSF.out.rd
     go_wp2
     obtain ⟨z1, z2, z3, z4⟩ := HSF.out.fin
     generalize (W13.setCell ⟨w.heap.size, 0, none⟩ (.int .i64 0)).setCell ⟨w.heap.size, 1, none⟩ (.slice A12 m d12) = F at *
     refine bodyPost_ret (v := .tuple #[.agg #[.int .i64 0, .slice A12 m d12], .int .i64 0]) (by simp [results, Try.results37, go_sem, z1, z2]) rfl ⟨_, rfl, ?_, z4⟩
     rw [← HF2.out, HNEG.out]
     exact z3
    ·have hb : decide ((0 : Int) < (m : Int)) = true := decide_eq_true (by omega)
     obtain ⟨gz, dz, hvz, hzz⟩ := Kd.R_form HSF.out.row (by rw [HMM.out]; omega)
     injection hvz with ha1 ha2 ha3
     subst ha1
     have hc0 := (Kd.R_celln 0 HSF.out.row 0 (by decide) (by omega)).1
     have hr0 : rdOf 0 cs 0 = cs.getD 0 0 := rfl
     rw [hr0] at hc0
     simp only [Int.toNat_zero] at hc0
     obtain ⟨x, hx⟩ : ∃ x, cs.getD 0 0 = x := ⟨_, rfl⟩
     rw [hx] at hc0
     have HX := Aside0.mk hx
     clear hx hr0 ha2 ha3 hzz
     have hm0 : (0 : Int) < (m : Int) := by omega
     by_cases hneg : x < 0
     ·have hb2 : decide (x < 0) = true := decide_eq_true hneg
      have HNEG : Aside0 (alexF n l1 = cs.map (fun x => wrap64 (-x))) := ⟨by rw [HNE0.out]; unfold negF; rw [if_pos ⟨by have := HMM.out; omega, by rw [HX.out]; exact hneg⟩]⟩
      have hmx : m ≤ 1000000 := by have h1 := HSZ.out; rw [HMM.out] at h1; exact h1
      obtain ⟨y1, y2, y3, y4, y5, y6⟩ := HSF.out.rd
      clear hneg
      go_upto_block 4 with (fail)
      clear y1 y2 y3 y4 y5 y6 hc0
      go_wp2
      go_loopg [84] m (fun kq s84 wr => ∃ k : Nat, s84 = .int .i64 k ∧ k ≤ m ∧ m - k ≤ kq ∧ Aside0 (AlF w wr g13 (some ⟨gz, 0, none⟩) m d12 (negTo k cs)))
      case atStart => exact ⟨0, rfl, Nat.zero_le _, by omega, ⟨by rw [negTo_zero]; exact HSF.out⟩⟩
      case round =>
       clear HSF
       obtain ⟨k, rfl, hk, hgg3, HS⟩ := hrel
       by_cases hltk : k < m
       ·have hk2 : (k : Int) < (m : Int) := by omega
        have hk0 : (0 : Int) ≤ (k : Int) := by omega
        have hkl : k < cs.length := by rw [HMM.out]; exact hltk
        go_upto_region 20 with (fail)
        have hSd := HS.out.below (wr' := wr.drew) (below_drew1 (Below.refl _ _))
        obtain ⟨c1', f1'⟩ := Kd.R_celln 0 hSd.row (k : Int) hk0 hk2
        have hrk : rdOf 0 (negTo k cs) (k : Int) = cs.getD k 0 := by unfold rdOf; rw [Int.toNat_natCast]; exact negTo_at hkl
        rw [hrk, Int.toNat_natCast] at c1'
        rw [Int.toNat_natCast] at f1'
        obtain ⟨y, hy⟩ : ∃ y, cs.getD k 0 = y := ⟨_, rfl⟩
        rw [hy] at c1'
        have HY := Aside0.mk hy
        have HSd := Aside0.mk hSd
        have hS : wr.drew.cell? ⟨g13, 1, none⟩ = some (.slice (some ⟨gz, 0, none⟩) m d12) ∧ wr.drew.cell? ⟨gz, k, none⟩ = some (.int .i64 y) := ⟨hSd.rd.2.1, c1'⟩
        clear hy hrk hSd c1'
        refine wp_region_T 10 (fun w' => w'.cell? ⟨g13, 1, none⟩ = some (.slice (some ⟨gz, 0, none⟩) m d12) ∧ w'.cell? ⟨gz, k, none⟩ = some (.int .i64 y)) (by kernel_rfl) ?_
        refine tk 0 ?_
        refine tk 1 ?_
        refine tk 2 ?_
        refine tk 3 ?_
        refine tk 4 ?_
        refine tk 5 ?_
        refine tk 6 ?_
        refine tk 7 ?_
        refine tk 8 ?_
        refine wpAnyT_one (i := 9) (by kernel_rfl) rfl (fun K hK => ?_)
        go_wp2
        refine hK _ _ (fun _ => ?_) ?_
        ·exact hS
        clear hK K
        (try simp only [Act.put, List.setIfInBounds_toArray, List.set_cons_zero, List.set_cons_succ])
        obtain ⟨hS1, hS2⟩ := hS
        refine wpAnyT_one (i := 10) (by kernel_rfl) rfl (fun K hK => ?_)
        go_wp2
        refine hK _ _ (fun h => absurd rfl h) ?_
        clear hK K
        (try simp only [Act.put, List.setIfInBounds_toArray, List.set_cons_zero, List.set_cons_succ])
        refine wpAnyT_done (by kernel_rfl) ?_ _
        go_wp2
        go_roundg (m - (k + 1))
        case measure => omega
        case rel =>
         refine ⟨k + 1, by go_num, by omega, Nat.le_refl _, ⟨?_⟩⟩
         have h := HSd.out.put k (wrap64 (-y))
         rw [← HY.out, negTo_set hkl] at h
         rw [← HY.out]
         exact h
       ·have HNK : Aside0 (negTo k cs = cs.map (fun x => wrap64 (-x))) := ⟨negTo_all (by rw [HMM.out]; omega)⟩
        rw [HNK.out] at HS
        obtain ⟨y1, y2, y3, y4, y5, y6⟩ := HS.out.rd
        go_wp2
        obtain ⟨z1, z2, z3, z4⟩ := HS.out.fin
        generalize (wr.setCell ⟨w.heap.size, 0, none⟩ (.int .i64 0)).setCell ⟨w.heap.size, 1, none⟩ (.slice (some ⟨gz, 0, none⟩) m d12) = F at *
        refine bodyPost_ret (v := .tuple #[.agg #[.int .i64 0, .slice (some ⟨gz, 0, none⟩) m d12], .int .i64 0]) (by simp [results, Try.results37, go_sem, z1, z2]) rfl ⟨_, rfl, ?_, z4⟩
        rw [← HF2.out, HNEG.out]
        exact z3
     ·have hb2 : decide (x < 0) = false := decide_eq_false hneg
      have HNEG : Aside0 (alexF n l1 = cs) := ⟨by rw [HNE0.out]; unfold negF; rw [if_neg (fun h => hneg (by rw [← HX.out]; exact h.2))]⟩
      clear hneg
      obtain ⟨y1, y2, y3, y4, y5, y6⟩ := HSF.out.rd
      go_wp2
      obtain ⟨z1, z2, z3, z4⟩ := HSF.out.fin
      generalize (W13.setCell ⟨w.heap.size, 0, none⟩ (.int .i64 0)).setCell ⟨w.heap.size, 1, none⟩ (.slice (some ⟨gz, 0, none⟩) m d12) = F at *
      refine bodyPost_ret (v := .tuple #[.agg #[.int .i64 0, .slice (some ⟨gz, 0, none⟩) m d12], .int .i64 0]) (by simp [results, Try.results37, go_sem, z1, z2]) rfl ⟨_, rfl, ?_, z4⟩
      rw [← HF2.out, HNEG.out]
      exact z3
end Go.Proofs.Ytdldfdcedjmneaa.Own
