/- The declarations of B10 that the claim Qe needs. -/
import Derived.Test.YtdldfdcedjmneaaQeTC
namespace Go.Proofs.Ytdldfdcedjmneaa.Own
open Go.RowKit Go.Proofs.YtdldfdcedjmneaaW.PrintWords Go.Proofs.YtdldfdcedjmneaaW.PrintLast Go.Proofs.YtdldfdcedjmneaaW.PrintMore Go.Proofs.Ytdldfdcedjmneaa.Pb Go.Proofs.Ytdldfdcedjmneaa.Br
set_option linter.unusedVariables false
set_option linter.unusedSimpArgs false
/-- How many of the first c bits are set. -/
def pc (s : Nat) : Nat → Nat
  | 0 => 0
  | c + 1 => pc s c + (if s.testBit c then 1 else 0)
/-- The columns c - 1 to 0 of a set: what is added to its determinant. -/
def detC (L : List (List Po)) (s row : Nat) : Nat → List Po × Int → List Po × Int
  | 0, x => x
  | c + 1, x => detC L s row c (if s.testBit c then (x.1.set s (plusP (x.1.getD s (0, [])) (timesP (timesP (x.1.getD (s - 2 ^ c) (0, [])) ((L.getD row []).getD c (0, []))) (0, [x.2]))), -x.2) else x)
/-- The determinants of the sets up to k. -/
def detTo (L : List (List Po)) (m : Nat) : Nat → List Po
  | 0 => (List.replicate (2 ^ m) (0, [])).set 0 (0, [1])
  | k + 1 => (detC L (k + 1) (pc (k + 1) m - 1) m (detTo L m k, 1)).1
def detF (L : List (List Po)) (m : Nat) : Po := (detTo L m (2 ^ m - 1)).getD (2 ^ m - 1) (0, [])
/-- The determinants' powers are bounded. -/
def DRg (R : Int) (D : List Po) : Prop := ∀ j : Nat, Rg (R * ((j : Int) + 1)) (D.getD j (0, []))
theorem bit_and0 : ∀ s, s < 128 → ∀ c, c < 8 → bits BinOp.and IntKind.i64 (((s : Nat) : Int) / 2 ^ c) 1 = if s.testBit c then 1 else 0 := by decide +kernel
theorem bit_not0 : ∀ s, s < 128 → ∀ c, c < 8 → s.testBit c = true → bits BinOp.andNot IntKind.i64 ((s : Nat) : Int) (wrap64 (2 ^ c)) = ((s - 2 ^ c : Nat) : Int) := by decide +kernel
theorem bit_and1 {s c : Nat} (hs : s + 1 < 128) (hc : c < 8) : bits BinOp.and IntKind.i64 (((s : Int) + 1) / 2 ^ c) 1 = if (s + 1).testBit c then 1 else 0 := bit_and0 (s + 1) hs c hc
theorem bit_not1 {s c : Nat} (hs : s + 1 < 128) (hc : c < 8) (h : (s + 1).testBit c = true) : bits BinOp.andNot IntKind.i64 ((s : Int) + 1) (wrap64 (2 ^ c)) = ((s + 1 - 2 ^ c : Nat) : Int) := bit_not0 (s + 1) hs c hc h
theorem pc_le (s c : Nat) : pc s c ≤ c := by
 induction c with
 | zero => exact Nat.le_refl _
 | succ c ih => unfold pc; split <;> omega
theorem pc_pos0 : ∀ s, s < 128 → ∀ m, m < 8 → s ≠ 0 → s < 2 ^ m → 1 ≤ pc s m := by decide +kernel
theorem DRg.set {D : List Po} (h : DRg 100 D) {s : Nat} {x : Po} (hx : Rg (100 * ((s : Int) + 1)) x) : DRg 100 (D.set s x) := by
 intro j
 rw [List.getD_eq_getElem?_getD, List.getElem?_set]
 by_cases e : s = j
 ·rw [if_pos e]
  by_cases h2 : s < D.length
  ·rw [if_pos h2, ← e]; exact hx
  ·rw [if_neg h2]; exact Rg.nil (by omega)
 ·rw [if_neg e, ← List.getD_eq_getElem?_getD]
  exact h j
theorem DRg.zero (m : Nat) (L : List (List Po)) : DRg 100 (detTo L m 0) := by
 unfold detTo
 refine DRg.set (fun j => ?_) ⟨by decide, by decide⟩
 rw [List.getD_eq_getElem?_getD, List.getElem?_replicate]
 split <;> exact Rg.nil (by omega)
/-- What region 17 leaves: one new box. -/
structure CutX (B : Nat) (w3 wx : World) (g : Nat) (x : Po) : Prop where
  bel : Below w3.heap.size w3 wx
  px : ∃ v, Pol wx B g v x
structure PreX (B : Nat) (w3 wx : World) (g : Nat) (vx : Value) (x : Po) : Prop where
  bel : Below w3.heap.size w3 wx
  z : wx.heap[g]? = some (.cells #[.int .i64 0, .slice none 0 0] 100 (0, 0))
  rx : Rw wx B vx x.2
  n : w3.heap.size ≤ g
theorem PreX.f {B g : Nat} {w3 wx : World} {vx : Value} {x : Po} (h : PreX B w3 wx g vx x) : wx.cell? ⟨g, 0, none⟩ = some (.int .i64 0) ∧ wx.cell? ⟨g, 1, none⟩ = some (.slice none 0 0) ∧ wx.frozen? ⟨g, 0, none⟩ = false ∧ wx.frozen? ⟨g, 1, none⟩ = false :=
  ⟨(blk_cell h.z 0).trans rfl, (blk_cell h.z 1).trans rfl, blk_frozen h.z 0, blk_frozen h.z 1⟩
theorem PreX.put {B g : Nat} {w3 wx : World} {vx : Value} {x : Po} (h : PreX B w3 wx g vx x) : CutX B w3 ((wx.setCell ⟨g, 0, none⟩ (.int .i64 x.1)).setCell ⟨g, 1, none⟩ vx) g x := by
  have k1 := blk_set h.z 0 (.int .i64 x.1)
  exact ⟨below_set (below_set h.bel h.n) h.n, ⟨vx, blk_set k1 1 _, Rw.off (Rw.off h.rx h.z 0 _) k1 1 _⟩⟩
structure DetS (w0 wr : World) (B n N : Nat) (v : Value) (hs : List (Nat × Nat)) (L : List (List Po)) (gD cD : Nat) (D : List Po) : Prop where
  mat : Mat B n wr v hs L
  tab : E2.R 100 wr B (fun _ => True) (.slice (some ⟨gD, 0, none⟩) N cD) D
  z4 : wr.heap[w0.heap.size]? = some (.cells #[.int .i64 0, .slice none 0 0] 100 (0, 0))
  bel : Below w0.heap.size w0 wr
  gD1 : w0.heap.size + 1 ≤ gD
section
variable {w0 wr wr' : World} {B n N gD cD : Nat} {v z : Value} {hs : List (Nat × Nat)} {L : List (List Po)} {D : List Po} {x : Po}
theorem DetS.below (h : DetS w0 wr B n N v hs L gD cD D) (hb : Below wr.heap.size wr wr') : DetS w0 wr' B n N v hs L gD cD D :=
  ⟨h.mat.below hb, Kd.R_below h.tab hb, blk_below h.z4 hb, below_step h.bel hb, h.gD1⟩
theorem Mat.far {k t : Nat} {cs : Array Value} (h : Mat B n wr v hs L) (hk : wr.heap[k]? = some (.cells cs t (0, 0))) (h1 : t ≠ 98) (h2 : t ≠ 102) (h3 : t ≠ 3) (j : Nat) (u : Value) : Mat B n (wr.setCell ⟨k, j, none⟩ u) v hs L :=
  ⟨Kd.R_set h.top hk (fun q hq => by have : q = 98 := (by simpa [hd, Kd.scalar] using hq); omega) j u, h.len, fun i hi => Kd.R_set (h.row i hi) hk (fun q hq => by rcases E2_E q hq with rfl | rfl <;> omega) j u, h.nd⟩
theorem DetS.put (h : DetS w0 wr B n N v hs L gD cD D) (s : Nat) (hs' : s < N) (hx : Rw wr B z x.2) :
  DetS w0 ((wr.setCell ⟨gD, s * 2, none⟩ (.int .i64 x.1)).setCell ⟨gD, s * 2 + 1, none⟩ z) B n N v hs L gD cD (D.set s x) := by
 obtain ⟨g, c, hv, hge, _, cells, hc⟩ := Kd.R_form h.tab (by have := (Kd.R_reads' h.tab).1; omega)
 injection hv with ha
 injection ha with ha
 injection ha with ha
 subst ha
 obtain ⟨k1, k2⟩ := row_put (x := x) h.tab (by decide) s hs' hx
 have hg := h.gD1
 exact ⟨(h.mat.far hc (by decide) (by decide) (by decide) _ _).far (blk_set hc _ _) (by decide) (by decide) (by decide) _ _, k1, blk_far (blk_far h.z4 (by show w0.heap.size ≠ gD; omega) _) (by show w0.heap.size ≠ gD; omega) _, below_set (below_set h.bel (by show w0.heap.size ≤ gD; omega)) (by show w0.heap.size ≤ gD; omega), h.gD1⟩
end
set_option maxRecDepth 100000 in
set_option maxHeartbeats 8000000 in
theorem f70_any {B n : Nat} (m : Nat) {v : Value} {hs : List (Nat × Nat)} {L : List (List Po)} (w : World) (hM : Mat B n w v hs L) (hm : m ≤ 7) (hn0 : 1 ≤ n) (hRL : AllRg 100 L) (hB : B ≤ w.heap.size) (hn : m ≤ n) (hl : hs.length = n) :
  Calls Try.prog 70 #[v, .int .i64 m] w fun e w' => ∃ z, e = .returned (.agg #[.int .i64 (detF L m).1, z]) ∧ Rw w' B z (detF L m).2 ∧ Below w.heap.size w w' := by
 obtain ⟨N, hN⟩ : ∃ N : Nat, 2 ^ m = N := ⟨_, rfl⟩
 have hN1 : 1 ≤ N := by rw [← hN]; exact Nat.one_le_two_pow
 have hN2 : N ≤ 128 := by rw [← hN]; exact Nat.pow_le_pow_right (by decide) hm
 have e2 : wrap64 (2 ^ m : Int) = (N : Int) := by
  have : ((2 : Int) ^ m) = ((2 ^ m : Nat) : Int) := by rw [Int.natCast_pow]; rfl
  rw [this, hN]; unfold wrap64; omega
 have HM := Aside0.mk hM
 have HL := Aside0.mk hl
 have HN := Aside0.mk hN
 clear hM hl hN
 go_enter Try.func70, Try.ntmps70
 go_upto_region 2 with (((with_reducible refine gate_dst (N := 14) rfl ?_); rw [e2]; refine Kd.R_make E2 _ 100 rfl (N := 14) rfl 129 _ _ rfl (N : Int) rfl rfl Try.underlying129 (.agg #[.int .i64 0, .slice none 0 0]) 32 info100 rfl (by decide) (by omega) (0, []) (ok := fun _ => True) (okp := fun _ => True) ?hz (fun _ hk => hk) trivial (by omega) (by omega) (Below.refl _ _) (Nat.le_refl _) ?_; (case hz => exact E2_M.2 ⟨_, rfl, Kd.R_nil _ _ _ _ _⟩); intro v14 w14 ho hb hg_ hnew_; clear hg_ hnew_; rw [Int.toNat_natCast] at ho; obtain ⟨gD, cD, hvD, hzD⟩ := Kd.R_form ho (by rw [List.length_replicate]; omega); rw [List.length_replicate] at hvD; subst hvD; have HO := Aside0.mk ho; have HB14 := Aside0.mk hb; clear ho hb hzD))
 have hBs : B ≤ w.heap.size + 1 := by omega
 have HT14 : Aside0 (E2.R 100 w14 B (fun _ => True) (.slice (some ⟨gD, 0, none⟩) N cD) (List.replicate N (0, []))) := ⟨Kd.R_lower HO.out (by rw [size_alloc]; exact hBs)⟩
 have HgD : Aside0 (w.heap.size + 1 ≤ gD) := ⟨by have := Kd.R_base HO.out gD rfl; rw [size_alloc] at this; exact this⟩
 have HBW : Aside0 (Below w.heap.size w w14) := ⟨below_step (below_alloc (Below.refl _ _) _) HB14.out⟩
 have HZ4 : Aside0 (w14.heap[w.heap.size]? = some (.cells #[.int .i64 0, .slice none 0 0] 100 (0, 0))) := ⟨blk_below (heap_alloc_new _ _) HB14.out⟩
 obtain ⟨A0, d0, e3, e4, e5, e6, e7⟩ := row_elem (Kd.R_below HT14.out (below_alloc (Below.refl _ _) (.cells #[.int .i64 1] 3))) 0 (by omega)
 simp only [Nat.zero_mul, Nat.zero_add] at e3 e4 e6 e7
 clear e5
 have HS0 : Aside0 (DetS w (((w14.alloc (.cells #[.int .i64 1] 3)).setCell ⟨gD, 0, none⟩ (.int .i64 0)).setCell ⟨gD, 1, none⟩ (.slice (some ⟨w14.heap.size, 0, none⟩) 1 1)) B n N v hs L gD cD (detTo L m 0)) := ⟨by
  have h1 : DetS w w14 B n N v hs L gD cD (List.replicate N (0, [])) := ⟨HM.out.below HBW.out, HT14.out, HZ4.out, HBW.out, HgD.out⟩
  have h2 := (h1.below (below_alloc (Below.refl _ _) (.cells #[.int .i64 1] 3))).put (x := (0, [1])) 0 (by omega) (row_blk (l := [1]) (heap_alloc_new _ _) (Nat.le_trans hB HBW.out.size) (by simp) rfl)
  simp only [Nat.zero_mul, Nat.zero_add] at h2
  rw [← HN.out] at h2 ⊢
  exact h2⟩
 have hv0 := Kd.R_form HM.out.top (by rw [HL.out]; omega)
 obtain ⟨gt, ct, hv, hz⟩ := hv0
 rw [HL.out] at hv
 subst hv
 clear HT14 HgD HBW HZ4 HO HB14 hz
 go_wp2
 clear e3 e4 e6 e7
 generalize ((w14.alloc (.cells #[.int .i64 1] 3)).setCell ⟨gD, 0, none⟩ (.int .i64 0)).setCell ⟨gD, 1, none⟩ (.slice (some ⟨w14.heap.size, 0, none⟩) 1 1) = W1 at *
 go_loopg [6] N (fun kq s6 wr => ∃ s : Nat, s6 = .int .i64 ((s : Int) + 1) ∧ s + 1 ≤ N ∧ N - s ≤ kq ∧ Aside0 (DetS w wr B n N (.slice (some ⟨gt, 0, none⟩) n ct) hs L gD cD (detTo L m s)) ∧ Aside0 (DRg 100 (detTo L m s)))
 case atStart => exact ⟨0, rfl, by omega, by omega, HS0, ⟨DRg.zero _ _⟩⟩
 case round =>
  clear HS0
  obtain ⟨s, rfl, hs1, hgg, HS, HDR⟩ := hrel
  by_cases hlt : s + 1 < N
  ·have hb1 : decide ((s : Int) + 1 < wrap64 (2 ^ m : Int)) = true := decide_eq_true (by rw [e2]; omega)
   go_upto_block 2 with (fail)
   rw [show decide ((s : Int) + 1 < (N : Int)) = true from decide_eq_true (by omega), e2]
   obtain ⟨W2, hW2⟩ : ∃ W, wr = W := ⟨_, rfl⟩
   rw [hW2] at HS ⊢
   clear hW2
   go_wp2
   go_loopg [7, 26] m (fun kq s7 s26 w3 => ∃ c : Nat, s26 = .int .i64 c ∧ c ≤ m ∧ m - c ≤ kq ∧ s7 = .int .i64 ((pc (s + 1) c : Int) - 1) ∧ Aside0 (w3 = W2))
   case atStart => exact ⟨0, rfl, by omega, by omega, rfl, ⟨rfl⟩⟩
   case round =>
    obtain ⟨c, rfl, hc, hgg2, rfl, HW⟩ := hrel
    obtain rfl := HW.out
    clear HW
    by_cases hlt2 : c < m
    ·have hc2 : (c : Int) < (m : Int) := by omega
     have hpc := pc_le (s + 1) c
     have hbit := bit_and1 (s := s) (c := c) (by omega) (by omega)
     by_cases htb : (s + 1).testBit c = true
     ·rw [if_pos htb] at hbit
      have HTB := Aside0.mk htb
      clear htb
      go_wp2
      go_roundg (m - (c + 1))
      case measure => omega
      case rel => exact ⟨c + 1, by go_num, by omega, Nat.le_refl _, by congr 1; simp only [pc]; rw [if_pos HTB.out]; omega, ⟨rfl⟩⟩
     ·rw [if_neg htb] at hbit
      have HTB := Aside0.mk htb
      clear htb
      go_wp2
      go_roundg (m - (c + 1))
      case measure => omega
      case rel => exact ⟨c + 1, by go_num, by omega, Nat.le_refl _, by congr 1; simp only [pc]; rw [if_neg HTB.out]; omega, ⟨rfl⟩⟩
    ·have hcm : c = m := by omega
     subst hcm
     clear hlt2 hc
     have hpc1 := pc_pos0 (s + 1) (by omega) c (by omega) (by omega) (by rw [HN.out]; exact hlt)
     have hpc2 := pc_le (s + 1) c
     rw [show ((pc (s + 1) c : Int) - 1) = ((pc (s + 1) c - 1 : Nat) : Int) by omega]
     obtain ⟨r0, hr0⟩ : ∃ r, pc (s + 1) c - 1 = r := ⟨_, rfl⟩
     rw [hr0]
     have hr1 : r0 < n := by omega
     clear hpc1 hpc2
     have HR0 := Aside0.mk hr0
     clear hr0
     go_wp2
     go_loopg [9, 10] c (fun kq s9 s10 w3 => ∃ (q : Nat) (D : List Po) (sg : Int), s10 = .int .i64 ((q : Int) - 1) ∧ q ≤ c ∧ q ≤ kq ∧ s9 = .int .i64 sg ∧ -1 ≤ sg ∧ sg ≤ 1 ∧ Aside0 (DetS w w3 B n N (.slice (some ⟨gt, 0, none⟩) n ct) hs L gD cD D) ∧ Aside0 (detC L (s + 1) r0 q (D, sg) = detC L (s + 1) r0 c (detTo L c s, 1)) ∧ Aside0 (DRg 100 D))
     case atStart => exact ⟨c, _, 1, rfl, Nat.le_refl _, Nat.le_refl _, rfl, by omega, by omega, HS, ⟨rfl⟩, HDR⟩
     case round =>
      clear HS HDR
      obtain ⟨q, D, sg, rfl, hq, hgg3, rfl, hsg1, hsg2, HS, HE, HDR⟩ := hrel
      cases q with
      | zero =>
       rw [show (((0 : Nat) : Int) - 1) = -1 by decide]
       have HD : Aside0 (D = detTo L c (s + 1)) := ⟨by
        have h := HE.out
        have e : detC L (s + 1) r0 0 (D, sg) = (D, sg) := rfl
        rw [e] at h
        simp only [detTo]
        rw [HR0.out, ← h]⟩
       clear HE
       go_wp2
       go_roundg (N - (s + 1))
       case measure => omega
       case rel => exact ⟨s + 1, by go_num, by omega, Nat.le_refl _, ⟨by rw [← HD.out]; exact HS.out⟩, ⟨by rw [← HD.out]; exact HDR.out⟩⟩
      | succ q =>
       rw [show (((q + 1 : Nat) : Int) - 1) = (q : Int) by omega]
       have hq0 : (0 : Int) ≤ (q : Int) := by omega
       have hbit := bit_and1 (s := s) (c := q) (by omega) (by omega)
       by_cases htb : (s + 1).testBit q = true
       ·rw [if_pos htb] at hbit
        have HTB := Aside0.mk htb
        clear htb
        have hbn := bit_not1 (s := s) (c := q) (by omega) (by omega) HTB.out
        obtain ⟨sub, hsub⟩ : ∃ u, s + 1 - 2 ^ q = u := ⟨_, rfl⟩
        rw [hsub, ← i64_w] at hbn
        have hsub2 : sub ≤ s := by rw [← hsub]; have := Nat.two_pow_pos q; omega
        have HSUB := Aside0.mk hsub
        clear hsub
        go_upto_region 17 with (fail)
        obtain ⟨Ad, dd, k1, k2, k3, _, _⟩ := row_elem HS.out.tab sub (by omega)
        have hd := HDR.out sub
        have hih : r0 < hs.length := by rw [HL.out]; exact hr1
        have hrow := HS.out.mat.row r0 hih
        have hhd := HS.out.mat.head hih
        obtain ⟨h0, hh0⟩ : ∃ h0, hs[r0] = h0 := ⟨_, rfl⟩
        obtain ⟨r, hr⟩ : ∃ r, L.getD r0 [] = r := ⟨_, rfl⟩
        rw [hh0] at hrow hhd
        rw [hr] at hrow
        have hrl : RowRg 100 r := by
         rw [← hr, List.getD_eq_getElem?_getD, List.getElem?_eq_getElem (by rw [← HS.out.mat.len]; exact hih)]
         exact hRL _ (List.getElem_mem _)
        obtain ⟨gr, cr⟩ := h0
        unfold encH at hrow hhd
        dsimp only at hrow hhd
        obtain ⟨Ae, de, k4, k5, k6, _, _⟩ := row_elem hrow q (by omega)
        have he := hrl.at_ (by decide) q
        obtain ⟨d, hdd⟩ : ∃ d, D.getD sub (0, []) = d := ⟨_, rfl⟩
        obtain ⟨e, hee⟩ : ∃ e, r.getD q (0, []) = e := ⟨_, rfl⟩
        rw [hdd] at k1 k2 k3 hd
        rw [hee] at k4 k5 k6 he
        obtain ⟨vd, hvd⟩ : ∃ v, Value.slice Ad d.2.length dd = v := ⟨_, rfl⟩
        obtain ⟨ve, hve⟩ : ∃ v, Value.slice Ae e.2.length de = v := ⟨_, rfl⟩
        rw [hvd] at k2 k3
        rw [hve] at k5 k6
        have HALL : Aside0 (∀ w', Below wr.heap.size wr w' → w'.cell? ⟨gD, sub * 2, none⟩ = some (.int .i64 d.1) ∧ w'.cell? ⟨gD, sub * 2 + 1, none⟩ = some vd ∧ w'.cell? ⟨gt, r0, none⟩ = some (.slice (some ⟨gr, 0, none⟩) n cr) ∧ w'.cell? ⟨gr, q * 2, none⟩ = some (.int .i64 e.1) ∧ w'.cell? ⟨gr, q * 2 + 1, none⟩ = some ve) := ⟨fun w' hbl => ⟨cell_bel hbl k1, cell_bel hbl k2, cell_bel hbl hhd, cell_bel hbl k4, cell_bel hbl k5⟩⟩
        have HBB : Aside0 (B ≤ wr.heap.size) := ⟨Nat.le_trans hB HS.out.bel.size⟩
        obtain ⟨y, hy⟩ : ∃ y, timesP d e = y := ⟨_, rfl⟩
        obtain ⟨x, hx⟩ : ∃ x, timesP y (0, [sg]) = x := ⟨_, rfl⟩
        have hyr : Rg (100 * ((s : Int) + 2)) y := by rw [← hy]; exact (timesP_rg hd he (by omega) (by decide)).mono (by omega)
        have HC1 : Aside0 (∀ w', Below wr.heap.size wr w' → Calls Try.prog 69 #[.agg #[.int .i64 d.1, vd], .agg #[.int .i64 e.1, ve]] w' (fun e' w'' => ∃ z, e' = .returned (.agg #[.int .i64 y.1, z]) ∧ Rw w'' B z y.2 ∧ Below w'.heap.size w' w'')) := ⟨fun w' hbl => by
         rw [← hy]
         exact f69_any w' (Nat.le_trans HBB.out hbl.size) (Kd.R_below k3 hbl) (Kd.R_below k6 hbl) hd he (by omega) (by omega)⟩
        have HC2 : Aside0 (∀ w' z1 zS, Below wr.heap.size wr w' → Rw w' B z1 y.2 → Rw w' B zS [sg] → Calls Try.prog 69 #[.agg #[.int .i64 y.1, z1], .agg #[.int .i64 0, zS]] w' (fun e' w'' => ∃ z, e' = .returned (.agg #[.int .i64 x.1, z]) ∧ Rw w'' B z x.2 ∧ Below w'.heap.size w' w'')) := ⟨fun w' z1 zS hbl h1 h2 => by
         rw [← hx]
         exact f69_any (q := (0, [sg])) w' (Nat.le_trans HBB.out hbl.size) h1 h2 hyr (S := 1) ⟨by show -(1 : Int) ≤ 0; decide, by show (0 : Int) + 1 ≤ 1 + 1; decide⟩ (by omega) (by omega)⟩
        have hxr : Rg (100 * ((s + 1 : Nat) : Int) + 100) x := by
         rw [← hx]
         exact (timesP_rg (S := 0) hyr ⟨by show -(0 : Int) ≤ 0; decide, by show (0 : Int) + 1 ≤ 0 + 1; decide⟩ (by omega) (by decide)).mono (by omega)
        have HXR := Aside0.mk hxr
        have HXX : Aside0 (timesP (timesP (D.getD (s + 1 - 2 ^ q) (0, [])) ((L.getD r0 []).getD q (0, []))) (0, [sg]) = x) := ⟨by rw [HSUB.out, hdd, hr, hee, hy, hx]⟩
        clear hd hrow hhd hh0 hr hrl k1 k2 k3 k4 k5 k6 he hdd hee hvd hve hy hx hyr hxr hih
        go_cut [11] (fun s11 wx => ∃ g11 : Nat, s11 = .pointer (some ⟨g11, 0, none⟩) ∧ Aside0 (CutX B wr wx g11 x))
        case first =>
         obtain ⟨wd, hwd⟩ : ∃ W, wr.drew = W := ⟨_, rfl⟩
         have HB_wd : Aside0 (Below wr.heap.size wr wd) := ⟨by rw [← hwd]; exact below_drew1 (Below.refl _ _)⟩
         have hS := HALL.out wd HB_wd.out
         have hsub3 : (sub : Int) < (N : Int) := by omega
         have hsub4 : (0 : Int) ≤ (sub : Int) := by omega
         have hr2 : (r0 : Int) < (n : Int) := by omega
         have hr3 : (0 : Int) ≤ (r0 : Int) := by omega
         have hq3 : (q : Int) < (n : Int) := by omega
         refine wp_region_T 21 (fun w' => w'.cell? ⟨gD, sub * 2, none⟩ = some (.int .i64 d.1) ∧ w'.cell? ⟨gD, sub * 2 + 1, none⟩ = some vd ∧ w'.cell? ⟨gt, r0, none⟩ = some (.slice (some ⟨gr, 0, none⟩) n cr) ∧ w'.cell? ⟨gr, q * 2, none⟩ = some (.int .i64 e.1) ∧ w'.cell? ⟨gr, q * 2 + 1, none⟩ = some ve) (by kernel_rfl) ?_
         rw [hwd]
         clear hwd
         refine tk 0 ?_
         refine tk 1 ?_
         refine tk 2 ?_
         refine tk 3 ?_
         refine tk 4 ?_
         refine tk 5 ?_
         refine tk 6 ?_
         refine tk 7 ?_
         refine tk 8 ?_
         refine tk 9 ?_
         refine tk 10 ?_
         refine tk 11 ?_
         refine tk 12 ?_
         refine tk 13 ?_
         refine tk 14 ?_
         refine tk 16 ?_
         clear hS
         refine wpAnyT_three (i := 15) (j := 17) (l := 20) (by kernel_rfl) rfl rfl rfl (fun K hK => ?_) (fun K hK => ?_) (fun K hK => ?_)
         ·go_wp2_with (go_at_call 69; (with_reducible refine (HC1.out _ HB_wd.out).mono ?_); rintro e w5 ⟨z1, rfl, hz1, hb5⟩; have HB_w5 := Aside0.mk (below_step HB_wd.out hb5); have HZ1 := Aside0.mk hz1; clear hz1 hb5 HB_wd)
          refine hK _ _ (fun _ => ?_) ?_
          ·exact HALL.out _ HB_w5.out
          clear hK K
          (try simp only [Act.put, List.setIfInBounds_toArray, List.set_cons_zero, List.set_cons_succ])
          refine wpAnyT_two (i := 17) (j := 20) (by kernel_rfl) rfl rfl (fun K hK => ?_) (fun K hK => ?_)
          ·go_wp2
           refine hK _ _ (fun _ => ?_) ?_
           ·exact HALL.out _ (below_alloc HB_w5.out _)
           clear hK K
           (try simp only [Act.put, List.setIfInBounds_toArray, List.set_cons_zero, List.set_cons_succ])
           have HZ1n := Aside0.mk (Kd.R_below HZ1.out (below_alloc (Below.refl _ _) (.cells #[.int .i64 sg] 3)))
           clear HZ1
           have HZ1 := HZ1n
           clear HZ1n
           have HSG : Aside0 (Rw (w5.alloc (.cells #[.int .i64 sg] 3)) B (.slice (some ⟨w5.heap.size, 0, none⟩) 1 1) [sg]) := ⟨row_blk (l := [sg]) (heap_alloc_new w5 (.cells #[.int .i64 sg] 3)) (by have h1 := HB_w5.out.size; have h2 := HBB.out; omega) (by simp) rfl⟩
           have HB_ws := Aside0.mk (below_alloc HB_w5.out (.cells #[.int .i64 sg] 3))
           clear HB_w5
           generalize w5.heap.size = gS at *
           generalize w5.alloc (.cells #[.int .i64 sg] 3) = ws at *
           have hSs := HALL.out _ HB_ws.out
           refine tk 18 ?_
           clear hSs
           refine wpAnyT_two (i := 19) (j := 20) (by kernel_rfl) rfl rfl (fun K hK => ?_) (fun K hK => ?_)
           ·go_wp2_with (go_at_call 69; (with_reducible refine (HC2.out _ _ _ HB_ws.out HZ1.out HSG.out).mono ?_); rintro e w6 ⟨z2, rfl, hz2, hb6⟩; have HB_w6 := Aside0.mk (below_step HB_ws.out hb6); have HX := Aside0.mk hz2; clear hz2 hb6 HB_ws HZ1 HSG)
            refine hK _ _ (fun _ => ?_) ?_
            ·exact HALL.out _ HB_w6.out
            clear hK K
            (try simp only [Act.put, List.setIfInBounds_toArray, List.set_cons_zero, List.set_cons_succ])
            obtain ⟨Ax, dx, rfl⟩ := Kd.R_slice HX.out
            refine wpAnyT_one (i := 20) (by kernel_rfl) rfl (fun K hK => ?_)
            go_wp2
            refine hK _ _ (fun _ => ?_) ?_
            ·exact HALL.out _ (below_alloc HB_w6.out _)
            clear hK K
            (try simp only [Act.put, List.setIfInBounds_toArray, List.set_cons_zero, List.set_cons_succ])
            have HXn := Aside0.mk (Kd.R_below HX.out (below_alloc (Below.refl _ _) (.cells #[.int .i64 0, .slice none 0 0] 100)))
            clear HX
            have HX := HXn
            clear HXn
            have HZ11 := Aside0.mk (heap_alloc_new w6 (.cells #[.int .i64 0, .slice none 0 0] 100))
            have HN11 := Aside0.mk HB_w6.out.size
            have HB_wa := Aside0.mk (below_alloc HB_w6.out (.cells #[.int .i64 0, .slice none 0 0] 100))
            clear HB_w6
            generalize w6.heap.size = g11 at *
            generalize w6.alloc (.cells #[.int .i64 0, .slice none 0 0] 100) = wa at *
            have HP : Aside0 (PreX B wr wa g11 (.slice Ax x.2.length dx) x) := ⟨⟨HB_wa.out, HZ11.out, HX.out, HN11.out⟩⟩
            obtain ⟨y1, y2, y3, y4⟩ := HP.out.f
            refine wpAnyT_one (i := 21) (by kernel_rfl) rfl (fun K hK => ?_)
            go_wp2
            refine hK _ _ (fun h => absurd rfl h) ?_
            clear hK K
            (try simp only [Act.put, List.setIfInBounds_toArray, List.set_cons_zero, List.set_cons_succ])
            refine wpAnyT_done (by kernel_rfl) ?_ _
            go_wp2_with fail
            go_meet
            exact ⟨g11, rfl, ⟨HP.out.put⟩⟩
           ·go_wp2
            refine hK _ _ (fun _ => ?_) ?_
            ·exact HALL.out _ (below_alloc HB_ws.out _)
            clear hK K
            (try simp only [Act.put, List.setIfInBounds_toArray, List.set_cons_zero, List.set_cons_succ])
            have HZ1n := Aside0.mk (Kd.R_below HZ1.out (below_alloc (Below.refl _ _) (.cells #[.int .i64 0, .slice none 0 0] 100)))
            clear HZ1
            have HZ1 := HZ1n
            clear HZ1n
            have HSGn := Aside0.mk (Kd.R_below HSG.out (below_alloc (Below.refl _ _) (.cells #[.int .i64 0, .slice none 0 0] 100)))
            clear HSG
            have HSG := HSGn
            clear HSGn
            have HZ11 := Aside0.mk (heap_alloc_new ws (.cells #[.int .i64 0, .slice none 0 0] 100))
            have HN11 := Aside0.mk HB_ws.out.size
            have HB_wa := Aside0.mk (below_alloc HB_ws.out (.cells #[.int .i64 0, .slice none 0 0] 100))
            clear HB_ws
            generalize ws.heap.size = g11 at *
            generalize ws.alloc (.cells #[.int .i64 0, .slice none 0 0] 100) = wa at *
            refine wpAnyT_one (i := 19) (by kernel_rfl) rfl (fun K hK => ?_)
            go_wp2_with (go_at_call 69; (with_reducible refine (HC2.out _ _ _ HB_wa.out HZ1.out HSG.out).mono ?_); rintro e w6 ⟨z2, rfl, hz2, hb6⟩; have HB_w6 := Aside0.mk (below_step HB_wa.out hb6); have HX := Aside0.mk hz2; have HZ11n := Aside0.mk (blk_below HZ11.out hb6); clear HZ11; have HZ11 := HZ11n; clear HZ11n; clear hz2 hb6 HB_wa HZ1 HSG)
            refine hK _ _ (fun _ => ?_) ?_
            ·exact HALL.out _ HB_w6.out
            clear hK K
            (try simp only [Act.put, List.setIfInBounds_toArray, List.set_cons_zero, List.set_cons_succ])
            obtain ⟨Ax, dx, rfl⟩ := Kd.R_slice HX.out
            have HP : Aside0 (PreX B wr w6 g11 (.slice Ax x.2.length dx) x) := ⟨⟨HB_w6.out, HZ11.out, HX.out, HN11.out⟩⟩
            obtain ⟨y1, y2, y3, y4⟩ := HP.out.f
            refine wpAnyT_one (i := 21) (by kernel_rfl) rfl (fun K hK => ?_)
            go_wp2
            refine hK _ _ (fun h => absurd rfl h) ?_
            clear hK K
            (try simp only [Act.put, List.setIfInBounds_toArray, List.set_cons_zero, List.set_cons_succ])
            refine wpAnyT_done (by kernel_rfl) ?_ _
            go_wp2_with fail
            go_meet
            exact ⟨g11, rfl, ⟨HP.out.put⟩⟩
          ·go_wp2
           refine hK _ _ (fun _ => ?_) ?_
           ·exact HALL.out _ (below_alloc HB_w5.out _)
           clear hK K
           (try simp only [Act.put, List.setIfInBounds_toArray, List.set_cons_zero, List.set_cons_succ])
           have HZ1n := Aside0.mk (Kd.R_below HZ1.out (below_alloc (Below.refl _ _) (.cells #[.int .i64 0, .slice none 0 0] 100)))
           clear HZ1
           have HZ1 := HZ1n
           clear HZ1n
           have HZ11 := Aside0.mk (heap_alloc_new w5 (.cells #[.int .i64 0, .slice none 0 0] 100))
           have HN11 := Aside0.mk HB_w5.out.size
           have HB_wa := Aside0.mk (below_alloc HB_w5.out (.cells #[.int .i64 0, .slice none 0 0] 100))
           clear HB_w5
           generalize w5.heap.size = g11 at *
           generalize w5.alloc (.cells #[.int .i64 0, .slice none 0 0] 100) = wa at *
           refine wpAnyT_one (i := 17) (by kernel_rfl) rfl (fun K hK => ?_)
           go_wp2
           refine hK _ _ (fun _ => ?_) ?_
           ·exact HALL.out _ (below_alloc HB_wa.out _)
           clear hK K
           (try simp only [Act.put, List.setIfInBounds_toArray, List.set_cons_zero, List.set_cons_succ])
           have HZ1n := Aside0.mk (Kd.R_below HZ1.out (below_alloc (Below.refl _ _) (.cells #[.int .i64 sg] 3)))
           clear HZ1
           have HZ1 := HZ1n
           clear HZ1n
           have HZ11n := Aside0.mk (blk_below HZ11.out (below_alloc (Below.refl _ _) (.cells #[.int .i64 sg] 3)))
           clear HZ11
           have HZ11 := HZ11n
           clear HZ11n
           have HSG : Aside0 (Rw (wa.alloc (.cells #[.int .i64 sg] 3)) B (.slice (some ⟨wa.heap.size, 0, none⟩) 1 1) [sg]) := ⟨row_blk (l := [sg]) (heap_alloc_new wa (.cells #[.int .i64 sg] 3)) (by have h1 := HB_wa.out.size; have h2 := HBB.out; omega) (by simp) rfl⟩
           have HB_ws := Aside0.mk (below_alloc HB_wa.out (.cells #[.int .i64 sg] 3))
           clear HB_wa
           generalize wa.heap.size = gS at *
           generalize wa.alloc (.cells #[.int .i64 sg] 3) = ws at *
           have hSs := HALL.out _ HB_ws.out
           refine tk 18 ?_
           clear hSs
           refine wpAnyT_one (i := 19) (by kernel_rfl) rfl (fun K hK => ?_)
           go_wp2_with (go_at_call 69; (with_reducible refine (HC2.out _ _ _ HB_ws.out HZ1.out HSG.out).mono ?_); rintro e w6 ⟨z2, rfl, hz2, hb6⟩; have HB_w6 := Aside0.mk (below_step HB_ws.out hb6); have HX := Aside0.mk hz2; have HZ11n := Aside0.mk (blk_below HZ11.out hb6); clear HZ11; have HZ11 := HZ11n; clear HZ11n; clear hz2 hb6 HB_ws HZ1 HSG)
           refine hK _ _ (fun _ => ?_) ?_
           ·exact HALL.out _ HB_w6.out
           clear hK K
           (try simp only [Act.put, List.setIfInBounds_toArray, List.set_cons_zero, List.set_cons_succ])
           obtain ⟨Ax, dx, rfl⟩ := Kd.R_slice HX.out
           have HP : Aside0 (PreX B wr w6 g11 (.slice Ax x.2.length dx) x) := ⟨⟨HB_w6.out, HZ11.out, HX.out, HN11.out⟩⟩
           obtain ⟨y1, y2, y3, y4⟩ := HP.out.f
           refine wpAnyT_one (i := 21) (by kernel_rfl) rfl (fun K hK => ?_)
           go_wp2
           refine hK _ _ (fun h => absurd rfl h) ?_
           clear hK K
           (try simp only [Act.put, List.setIfInBounds_toArray, List.set_cons_zero, List.set_cons_succ])
           refine wpAnyT_done (by kernel_rfl) ?_ _
           go_wp2_with fail
           go_meet
           exact ⟨g11, rfl, ⟨HP.out.put⟩⟩
         ·go_wp2
          refine hK _ _ (fun _ => ?_) ?_
          ·exact HALL.out _ (below_alloc HB_wd.out _)
          clear hK K
          (try simp only [Act.put, List.setIfInBounds_toArray, List.set_cons_zero, List.set_cons_succ])
          have HSG : Aside0 (Rw (wd.alloc (.cells #[.int .i64 sg] 3)) B (.slice (some ⟨wd.heap.size, 0, none⟩) 1 1) [sg]) := ⟨row_blk (l := [sg]) (heap_alloc_new wd (.cells #[.int .i64 sg] 3)) (by have h1 := HB_wd.out.size; have h2 := HBB.out; omega) (by simp) rfl⟩
          have HB_ws := Aside0.mk (below_alloc HB_wd.out (.cells #[.int .i64 sg] 3))
          clear HB_wd
          generalize wd.heap.size = gS at *
          generalize wd.alloc (.cells #[.int .i64 sg] 3) = ws at *
          have hSs := HALL.out _ HB_ws.out
          refine tk 18 ?_
          clear hSs
          refine wpAnyT_two (i := 15) (j := 20) (by kernel_rfl) rfl rfl (fun K hK => ?_) (fun K hK => ?_)
          ·go_wp2_with (go_at_call 69; (with_reducible refine (HC1.out _ HB_ws.out).mono ?_); rintro e w5 ⟨z1, rfl, hz1, hb5⟩; have HB_w5 := Aside0.mk (below_step HB_ws.out hb5); have HZ1 := Aside0.mk hz1; have HSGn := Aside0.mk (Kd.R_below HSG.out (hb5)); clear HSG; have HSG := HSGn; clear HSGn; clear hz1 hb5 HB_ws)
           refine hK _ _ (fun _ => ?_) ?_
           ·exact HALL.out _ HB_w5.out
           clear hK K
           (try simp only [Act.put, List.setIfInBounds_toArray, List.set_cons_zero, List.set_cons_succ])
           refine wpAnyT_two (i := 19) (j := 20) (by kernel_rfl) rfl rfl (fun K hK => ?_) (fun K hK => ?_)
           ·go_wp2_with (go_at_call 69; (with_reducible refine (HC2.out _ _ _ HB_w5.out HZ1.out HSG.out).mono ?_); rintro e w6 ⟨z2, rfl, hz2, hb6⟩; have HB_w6 := Aside0.mk (below_step HB_w5.out hb6); have HX := Aside0.mk hz2; clear hz2 hb6 HB_w5 HZ1 HSG)
            refine hK _ _ (fun _ => ?_) ?_
            ·exact HALL.out _ HB_w6.out
            clear hK K
            (try simp only [Act.put, List.setIfInBounds_toArray, List.set_cons_zero, List.set_cons_succ])
            obtain ⟨Ax, dx, rfl⟩ := Kd.R_slice HX.out
            refine wpAnyT_one (i := 20) (by kernel_rfl) rfl (fun K hK => ?_)
            go_wp2
            refine hK _ _ (fun _ => ?_) ?_
            ·exact HALL.out _ (below_alloc HB_w6.out _)
            clear hK K
            (try simp only [Act.put, List.setIfInBounds_toArray, List.set_cons_zero, List.set_cons_succ])
            have HXn := Aside0.mk (Kd.R_below HX.out (below_alloc (Below.refl _ _) (.cells #[.int .i64 0, .slice none 0 0] 100)))
            clear HX
            have HX := HXn
            clear HXn
            have HZ11 := Aside0.mk (heap_alloc_new w6 (.cells #[.int .i64 0, .slice none 0 0] 100))
            have HN11 := Aside0.mk HB_w6.out.size
            have HB_wa := Aside0.mk (below_alloc HB_w6.out (.cells #[.int .i64 0, .slice none 0 0] 100))
            clear HB_w6
            generalize w6.heap.size = g11 at *
            generalize w6.alloc (.cells #[.int .i64 0, .slice none 0 0] 100) = wa at *
            have HP : Aside0 (PreX B wr wa g11 (.slice Ax x.2.length dx) x) := ⟨⟨HB_wa.out, HZ11.out, HX.out, HN11.out⟩⟩
            obtain ⟨y1, y2, y3, y4⟩ := HP.out.f
            refine wpAnyT_one (i := 21) (by kernel_rfl) rfl (fun K hK => ?_)
            go_wp2
            refine hK _ _ (fun h => absurd rfl h) ?_
            clear hK K
            (try simp only [Act.put, List.setIfInBounds_toArray, List.set_cons_zero, List.set_cons_succ])
            refine wpAnyT_done (by kernel_rfl) ?_ _
            go_wp2_with fail
            go_meet
            exact ⟨g11, rfl, ⟨HP.out.put⟩⟩
           ·go_wp2
            refine hK _ _ (fun _ => ?_) ?_
            ·exact HALL.out _ (below_alloc HB_w5.out _)
            clear hK K
            (try simp only [Act.put, List.setIfInBounds_toArray, List.set_cons_zero, List.set_cons_succ])
            have HZ1n := Aside0.mk (Kd.R_below HZ1.out (below_alloc (Below.refl _ _) (.cells #[.int .i64 0, .slice none 0 0] 100)))
            clear HZ1
            have HZ1 := HZ1n
            clear HZ1n
            have HSGn := Aside0.mk (Kd.R_below HSG.out (below_alloc (Below.refl _ _) (.cells #[.int .i64 0, .slice none 0 0] 100)))
            clear HSG
            have HSG := HSGn
            clear HSGn
            have HZ11 := Aside0.mk (heap_alloc_new w5 (.cells #[.int .i64 0, .slice none 0 0] 100))
            have HN11 := Aside0.mk HB_w5.out.size
            have HB_wa := Aside0.mk (below_alloc HB_w5.out (.cells #[.int .i64 0, .slice none 0 0] 100))
            clear HB_w5
            generalize w5.heap.size = g11 at *
            generalize w5.alloc (.cells #[.int .i64 0, .slice none 0 0] 100) = wa at *
            refine wpAnyT_one (i := 19) (by kernel_rfl) rfl (fun K hK => ?_)
            go_wp2_with (go_at_call 69; (with_reducible refine (HC2.out _ _ _ HB_wa.out HZ1.out HSG.out).mono ?_); rintro e w6 ⟨z2, rfl, hz2, hb6⟩; have HB_w6 := Aside0.mk (below_step HB_wa.out hb6); have HX := Aside0.mk hz2; have HZ11n := Aside0.mk (blk_below HZ11.out hb6); clear HZ11; have HZ11 := HZ11n; clear HZ11n; clear hz2 hb6 HB_wa HZ1 HSG)
            refine hK _ _ (fun _ => ?_) ?_
            ·exact HALL.out _ HB_w6.out
            clear hK K
            (try simp only [Act.put, List.setIfInBounds_toArray, List.set_cons_zero, List.set_cons_succ])
            obtain ⟨Ax, dx, rfl⟩ := Kd.R_slice HX.out
            have HP : Aside0 (PreX B wr w6 g11 (.slice Ax x.2.length dx) x) := ⟨⟨HB_w6.out, HZ11.out, HX.out, HN11.out⟩⟩
            obtain ⟨y1, y2, y3, y4⟩ := HP.out.f
            refine wpAnyT_one (i := 21) (by kernel_rfl) rfl (fun K hK => ?_)
            go_wp2
            refine hK _ _ (fun h => absurd rfl h) ?_
            clear hK K
            (try simp only [Act.put, List.setIfInBounds_toArray, List.set_cons_zero, List.set_cons_succ])
            refine wpAnyT_done (by kernel_rfl) ?_ _
            go_wp2_with fail
            go_meet
            exact ⟨g11, rfl, ⟨HP.out.put⟩⟩
          ·go_wp2
           refine hK _ _ (fun _ => ?_) ?_
           ·exact HALL.out _ (below_alloc HB_ws.out _)
           clear hK K
           (try simp only [Act.put, List.setIfInBounds_toArray, List.set_cons_zero, List.set_cons_succ])
           have HSGn := Aside0.mk (Kd.R_below HSG.out (below_alloc (Below.refl _ _) (.cells #[.int .i64 0, .slice none 0 0] 100)))
           clear HSG
           have HSG := HSGn
           clear HSGn
           have HZ11 := Aside0.mk (heap_alloc_new ws (.cells #[.int .i64 0, .slice none 0 0] 100))
           have HN11 := Aside0.mk HB_ws.out.size
           have HB_wa := Aside0.mk (below_alloc HB_ws.out (.cells #[.int .i64 0, .slice none 0 0] 100))
           clear HB_ws
           generalize ws.heap.size = g11 at *
           generalize ws.alloc (.cells #[.int .i64 0, .slice none 0 0] 100) = wa at *
           refine wpAnyT_one (i := 15) (by kernel_rfl) rfl (fun K hK => ?_)
           go_wp2_with (go_at_call 69; (with_reducible refine (HC1.out _ HB_wa.out).mono ?_); rintro e w5 ⟨z1, rfl, hz1, hb5⟩; have HB_w5 := Aside0.mk (below_step HB_wa.out hb5); have HZ1 := Aside0.mk hz1; have HSGn := Aside0.mk (Kd.R_below HSG.out (hb5)); clear HSG; have HSG := HSGn; clear HSGn; have HZ11n := Aside0.mk (blk_below HZ11.out (hb5)); clear HZ11; have HZ11 := HZ11n; clear HZ11n; clear hz1 hb5 HB_wa)
           refine hK _ _ (fun _ => ?_) ?_
           ·exact HALL.out _ HB_w5.out
           clear hK K
           (try simp only [Act.put, List.setIfInBounds_toArray, List.set_cons_zero, List.set_cons_succ])
           refine wpAnyT_one (i := 19) (by kernel_rfl) rfl (fun K hK => ?_)
           go_wp2_with (go_at_call 69; (with_reducible refine (HC2.out _ _ _ HB_w5.out HZ1.out HSG.out).mono ?_); rintro e w6 ⟨z2, rfl, hz2, hb6⟩; have HB_w6 := Aside0.mk (below_step HB_w5.out hb6); have HX := Aside0.mk hz2; have HZ11n := Aside0.mk (blk_below HZ11.out hb6); clear HZ11; have HZ11 := HZ11n; clear HZ11n; clear hz2 hb6 HB_w5 HZ1 HSG)
           refine hK _ _ (fun _ => ?_) ?_
           ·exact HALL.out _ HB_w6.out
           clear hK K
           (try simp only [Act.put, List.setIfInBounds_toArray, List.set_cons_zero, List.set_cons_succ])
           obtain ⟨Ax, dx, rfl⟩ := Kd.R_slice HX.out
           have HP : Aside0 (PreX B wr w6 g11 (.slice Ax x.2.length dx) x) := ⟨⟨HB_w6.out, HZ11.out, HX.out, HN11.out⟩⟩
           obtain ⟨y1, y2, y3, y4⟩ := HP.out.f
           refine wpAnyT_one (i := 21) (by kernel_rfl) rfl (fun K hK => ?_)
           go_wp2
           refine hK _ _ (fun h => absurd rfl h) ?_
           clear hK K
           (try simp only [Act.put, List.setIfInBounds_toArray, List.set_cons_zero, List.set_cons_succ])
           refine wpAnyT_done (by kernel_rfl) ?_ _
           go_wp2_with fail
           go_meet
           exact ⟨g11, rfl, ⟨HP.out.put⟩⟩
         ·go_wp2
          refine hK _ _ (fun _ => ?_) ?_
          ·exact HALL.out _ (below_alloc HB_wd.out _)
          clear hK K
          (try simp only [Act.put, List.setIfInBounds_toArray, List.set_cons_zero, List.set_cons_succ])
          have HZ11 := Aside0.mk (heap_alloc_new wd (.cells #[.int .i64 0, .slice none 0 0] 100))
          have HN11 := Aside0.mk HB_wd.out.size
          have HB_wa := Aside0.mk (below_alloc HB_wd.out (.cells #[.int .i64 0, .slice none 0 0] 100))
          clear HB_wd
          generalize wd.heap.size = g11 at *
          generalize wd.alloc (.cells #[.int .i64 0, .slice none 0 0] 100) = wa at *
          refine wpAnyT_two (i := 15) (j := 17) (by kernel_rfl) rfl rfl (fun K hK => ?_) (fun K hK => ?_)
          ·go_wp2_with (go_at_call 69; (with_reducible refine (HC1.out _ HB_wa.out).mono ?_); rintro e w5 ⟨z1, rfl, hz1, hb5⟩; have HB_w5 := Aside0.mk (below_step HB_wa.out hb5); have HZ1 := Aside0.mk hz1; have HZ11n := Aside0.mk (blk_below HZ11.out (hb5)); clear HZ11; have HZ11 := HZ11n; clear HZ11n; clear hz1 hb5 HB_wa)
           refine hK _ _ (fun _ => ?_) ?_
           ·exact HALL.out _ HB_w5.out
           clear hK K
           (try simp only [Act.put, List.setIfInBounds_toArray, List.set_cons_zero, List.set_cons_succ])
           refine wpAnyT_one (i := 17) (by kernel_rfl) rfl (fun K hK => ?_)
           go_wp2
           refine hK _ _ (fun _ => ?_) ?_
           ·exact HALL.out _ (below_alloc HB_w5.out _)
           clear hK K
           (try simp only [Act.put, List.setIfInBounds_toArray, List.set_cons_zero, List.set_cons_succ])
           have HZ1n := Aside0.mk (Kd.R_below HZ1.out (below_alloc (Below.refl _ _) (.cells #[.int .i64 sg] 3)))
           clear HZ1
           have HZ1 := HZ1n
           clear HZ1n
           have HZ11n := Aside0.mk (blk_below HZ11.out (below_alloc (Below.refl _ _) (.cells #[.int .i64 sg] 3)))
           clear HZ11
           have HZ11 := HZ11n
           clear HZ11n
           have HSG : Aside0 (Rw (w5.alloc (.cells #[.int .i64 sg] 3)) B (.slice (some ⟨w5.heap.size, 0, none⟩) 1 1) [sg]) := ⟨row_blk (l := [sg]) (heap_alloc_new w5 (.cells #[.int .i64 sg] 3)) (by have h1 := HB_w5.out.size; have h2 := HBB.out; omega) (by simp) rfl⟩
           have HB_ws := Aside0.mk (below_alloc HB_w5.out (.cells #[.int .i64 sg] 3))
           clear HB_w5
           generalize w5.heap.size = gS at *
           generalize w5.alloc (.cells #[.int .i64 sg] 3) = ws at *
           have hSs := HALL.out _ HB_ws.out
           refine tk 18 ?_
           clear hSs
           refine wpAnyT_one (i := 19) (by kernel_rfl) rfl (fun K hK => ?_)
           go_wp2_with (go_at_call 69; (with_reducible refine (HC2.out _ _ _ HB_ws.out HZ1.out HSG.out).mono ?_); rintro e w6 ⟨z2, rfl, hz2, hb6⟩; have HB_w6 := Aside0.mk (below_step HB_ws.out hb6); have HX := Aside0.mk hz2; have HZ11n := Aside0.mk (blk_below HZ11.out hb6); clear HZ11; have HZ11 := HZ11n; clear HZ11n; clear hz2 hb6 HB_ws HZ1 HSG)
           refine hK _ _ (fun _ => ?_) ?_
           ·exact HALL.out _ HB_w6.out
           clear hK K
           (try simp only [Act.put, List.setIfInBounds_toArray, List.set_cons_zero, List.set_cons_succ])
           obtain ⟨Ax, dx, rfl⟩ := Kd.R_slice HX.out
           have HP : Aside0 (PreX B wr w6 g11 (.slice Ax x.2.length dx) x) := ⟨⟨HB_w6.out, HZ11.out, HX.out, HN11.out⟩⟩
           obtain ⟨y1, y2, y3, y4⟩ := HP.out.f
           refine wpAnyT_one (i := 21) (by kernel_rfl) rfl (fun K hK => ?_)
           go_wp2
           refine hK _ _ (fun h => absurd rfl h) ?_
           clear hK K
           (try simp only [Act.put, List.setIfInBounds_toArray, List.set_cons_zero, List.set_cons_succ])
           refine wpAnyT_done (by kernel_rfl) ?_ _
           go_wp2_with fail
           go_meet
           exact ⟨g11, rfl, ⟨HP.out.put⟩⟩
          ·go_wp2
           refine hK _ _ (fun _ => ?_) ?_
           ·exact HALL.out _ (below_alloc HB_wa.out _)
           clear hK K
           (try simp only [Act.put, List.setIfInBounds_toArray, List.set_cons_zero, List.set_cons_succ])
           have HZ11n := Aside0.mk (blk_below HZ11.out (below_alloc (Below.refl _ _) (.cells #[.int .i64 sg] 3)))
           clear HZ11
           have HZ11 := HZ11n
           clear HZ11n
           have HSG : Aside0 (Rw (wa.alloc (.cells #[.int .i64 sg] 3)) B (.slice (some ⟨wa.heap.size, 0, none⟩) 1 1) [sg]) := ⟨row_blk (l := [sg]) (heap_alloc_new wa (.cells #[.int .i64 sg] 3)) (by have h1 := HB_wa.out.size; have h2 := HBB.out; omega) (by simp) rfl⟩
           have HB_ws := Aside0.mk (below_alloc HB_wa.out (.cells #[.int .i64 sg] 3))
           clear HB_wa
           generalize wa.heap.size = gS at *
           generalize wa.alloc (.cells #[.int .i64 sg] 3) = ws at *
           have hSs := HALL.out _ HB_ws.out
           refine tk 18 ?_
           clear hSs
           refine wpAnyT_one (i := 15) (by kernel_rfl) rfl (fun K hK => ?_)
           go_wp2_with (go_at_call 69; (with_reducible refine (HC1.out _ HB_ws.out).mono ?_); rintro e w5 ⟨z1, rfl, hz1, hb5⟩; have HB_w5 := Aside0.mk (below_step HB_ws.out hb5); have HZ1 := Aside0.mk hz1; have HSGn := Aside0.mk (Kd.R_below HSG.out (hb5)); clear HSG; have HSG := HSGn; clear HSGn; have HZ11n := Aside0.mk (blk_below HZ11.out (hb5)); clear HZ11; have HZ11 := HZ11n; clear HZ11n; clear hz1 hb5 HB_ws)
           refine hK _ _ (fun _ => ?_) ?_
           ·exact HALL.out _ HB_w5.out
           clear hK K
           (try simp only [Act.put, List.setIfInBounds_toArray, List.set_cons_zero, List.set_cons_succ])
           refine wpAnyT_one (i := 19) (by kernel_rfl) rfl (fun K hK => ?_)
           go_wp2_with (go_at_call 69; (with_reducible refine (HC2.out _ _ _ HB_w5.out HZ1.out HSG.out).mono ?_); rintro e w6 ⟨z2, rfl, hz2, hb6⟩; have HB_w6 := Aside0.mk (below_step HB_w5.out hb6); have HX := Aside0.mk hz2; have HZ11n := Aside0.mk (blk_below HZ11.out hb6); clear HZ11; have HZ11 := HZ11n; clear HZ11n; clear hz2 hb6 HB_w5 HZ1 HSG)
           refine hK _ _ (fun _ => ?_) ?_
           ·exact HALL.out _ HB_w6.out
           clear hK K
           (try simp only [Act.put, List.setIfInBounds_toArray, List.set_cons_zero, List.set_cons_succ])
           obtain ⟨Ax, dx, rfl⟩ := Kd.R_slice HX.out
           have HP : Aside0 (PreX B wr w6 g11 (.slice Ax x.2.length dx) x) := ⟨⟨HB_w6.out, HZ11.out, HX.out, HN11.out⟩⟩
           obtain ⟨y1, y2, y3, y4⟩ := HP.out.f
           refine wpAnyT_one (i := 21) (by kernel_rfl) rfl (fun K hK => ?_)
           go_wp2
           refine hK _ _ (fun h => absurd rfl h) ?_
           clear hK K
           (try simp only [Act.put, List.setIfInBounds_toArray, List.set_cons_zero, List.set_cons_succ])
           refine wpAnyT_done (by kernel_rfl) ?_ _
           go_wp2_with fail
           go_meet
           exact ⟨g11, rfl, ⟨HP.out.put⟩⟩
        case rest =>
         obtain ⟨g11, rfl, HC⟩ := hcut
         go_upto_region 18 with (fail)
         obtain ⟨vx, hpx⟩ := HC.out.px
         have HSc := Aside0.mk (HS.out.below HC.out.bel)
         have HPX := Aside0.mk hpx
         clear HC HALL HC1 HC2 hpx HS hbn
         obtain ⟨A2, d2, k1, k2, k3, _, _⟩ := row_elem HSc.out.tab (s + 1) (by omega)
         have hd := HDR.out (s + 1)
         obtain ⟨d, hdd⟩ : ∃ d, D.getD (s + 1) (0, []) = d := ⟨_, rfl⟩
         rw [hdd] at k1 k2 k3 hd
         obtain ⟨vd, hvd⟩ : ∃ v, Value.slice A2 d.2.length d2 = v := ⟨_, rfl⟩
         rw [hvd] at k2 k3
         obtain ⟨wd, hwd⟩ : ∃ W, wc.drew = W := ⟨_, rfl⟩
         have hb_wd : Below wc.heap.size wc wd := by rw [← hwd]; exact below_drew1 (Below.refl _ _)
         have HALL : Aside0 (∀ w', Below wc.heap.size wc w' → w'.cell? ⟨gD, (s + 1) * 2, none⟩ = some (.int .i64 d.1) ∧ w'.cell? ⟨gD, (s + 1) * 2 + 1, none⟩ = some vd ∧ w'.cell? ⟨g11, 0, none⟩ = some (.int .i64 x.1) ∧ w'.cell? ⟨g11, 1, none⟩ = some vx) := ⟨fun w' hbl => ⟨cell_bel hbl k1, cell_bel hbl k2, (HPX.out.below hbl).c0, (HPX.out.below hbl).c1⟩⟩
         have h68 := f68_any wd (Nat.le_trans hB (Nat.le_trans HSc.out.bel.size hb_wd.size)) (Kd.R_below k3 hb_wd) (HPX.out.below hb_wd).row hd (HXR.out.mono (by omega)) (by omega)
         have hS := HALL.out wd hb_wd
         have s2 : ((s : Int) + 1).toNat = s + 1 := by omega
         have s3 : (0 : Int) ≤ (s : Int) + 1 := by omega
         have s4 : (s : Int) + 1 < (N : Int) := by omega
         obtain ⟨p, hp⟩ : ∃ p, plusP d x = p := ⟨_, rfl⟩
         have hpr : Rg (100 * (((s + 1 : Nat) : Int) + 1)) p := by rw [← hp]; exact plusP_rg hd (HXR.out.mono (by omega))
         rw [hp] at h68
         have HP := Aside0.mk hp
         have HPR := Aside0.mk hpr
         have HDD := Aside0.mk hdd
         have HBWD := Aside0.mk hb_wd
         clear hd hdd hvd k1 k2 k3 hp hpr hb_wd
         refine wp_region_T 9 (fun w' => w'.cell? ⟨gD, (s + 1) * 2, none⟩ = some (.int .i64 d.1) ∧ w'.cell? ⟨gD, (s + 1) * 2 + 1, none⟩ = some vd ∧ w'.cell? ⟨g11, 0, none⟩ = some (.int .i64 x.1) ∧ w'.cell? ⟨g11, 1, none⟩ = some vx) (by kernel_rfl) ?_
         rw [hwd]
         clear hwd
         refine tk 0 ?_
         refine tk 1 ?_
         refine tk 2 ?_
         refine tk 3 ?_
         refine tk 4 ?_
         refine tk 5 ?_
         refine tk 6 ?_
         refine wpAnyT_one (i := 7) (by kernel_rfl) rfl (fun K hK => ?_)
         go_wp2_with (go_at_call 68; (with_reducible refine h68.mono ?_); rintro e w5 ⟨z5, rfl, hz5, hb5⟩; have HB5 := Aside0.mk (below_step HBWD.out hb5); have HZ5 := Aside0.mk hz5; clear hb5 hz5)
         refine hK _ _ (fun _ => ?_) ?_
         ·exact HALL.out w5 HB5.out
         clear hK K
         (try simp only [Act.put, List.setIfInBounds_toArray, List.set_cons_zero, List.set_cons_succ])
         clear h68 hS
         have hS5 := HALL.out w5 HB5.out
         obtain ⟨Az, dz, rfl⟩ := Kd.R_slice HZ5.out
         have HS5 := Aside0.mk (HSc.out.below HB5.out)
         obtain ⟨A6, d6, e1, e2', _, e4, e5⟩ := row_elem HS5.out.tab (s + 1) (by omega)
         refine wpAnyT_one (i := 8) (by kernel_rfl) rfl (fun K hK => ?_)
         go_wp2
         refine hK _ _ (fun _ => ?_) ?_
         ·exact hS5
         clear hK K
         (try simp only [Act.put, List.setIfInBounds_toArray, List.set_cons_zero, List.set_cons_succ])
         clear hS5 HALL
         refine wpAnyT_one (i := 9) (by kernel_rfl) rfl (fun K hK => ?_)
         go_wp2
         refine hK _ _ (fun h => absurd rfl h) ?_
         clear hK K
         (try simp only [Act.put, List.setIfInBounds_toArray, List.set_cons_zero, List.set_cons_succ])
         refine wpAnyT_done (by kernel_rfl) ?_ _
         clear s2 s3 s4
         go_wp2
         go_roundg q
         case measure => omega
         case rel =>
          refine ⟨q, D.set (s + 1) p, -sg, rfl, by omega, Nat.le_refl _, rfl, by omega, by omega, ⟨HS5.out.put (s + 1) (by omega) HZ5.out⟩, ⟨?_⟩, ⟨HDR.out.set HPR.out⟩⟩
          have h := HE.out
          simp only [detC] at h
          rw [if_pos HTB.out, HXX.out, HDD.out, HP.out] at h
          exact h
       ·rw [if_neg htb] at hbit
        have HTB := Aside0.mk htb
        clear htb
        go_wp2
        go_roundg q
        case measure => omega
        case rel => exact ⟨q, D, sg, rfl, by omega, Nat.le_refl _, rfl, hsg1, hsg2, HS, ⟨by have h := HE.out; simp only [detC] at h; rw [if_neg HTB.out] at h; exact h⟩, HDR⟩
  ·have hb1 : decide ((s : Int) + 1 < wrap64 (2 ^ m : Int)) = false := decide_eq_false (by rw [e2]; omega)
   have hsN : s + 1 = N := by omega
   obtain ⟨A2, d2, k1, k2, k3, _, _⟩ := row_elem HS.out.tab s (by omega)
   have HDF : Aside0 ((detTo L m s).getD s (0, []) = detF L m) := ⟨by
    unfold detF
    have : 2 ^ m - 1 = s := by rw [HN.out]; omega
    rw [this]⟩
   rw [HDF.out] at k1 k2 k3
   have K3 := Aside0.mk k3
   obtain ⟨y1, y2⟩ : wr.cell? ⟨w.heap.size, 0, none⟩ = some (.int .i64 0) ∧ wr.cell? ⟨w.heap.size, 1, none⟩ = some (.slice none 0 0) := ⟨(blk_cell HS.out.z4 0).trans rfl, (blk_cell HS.out.z4 1).trans rfl⟩
   have y3 := blk_frozen HS.out.z4 0
   have y4 := blk_frozen HS.out.z4 1
   have s1 : IntKind.i64.wrap (wrap64 (2 ^ m) - 1) = (s : Int) := by rw [e2, ← hsN]; exact (IntWalk.i64_in _ (by omega)).trans (by omega)
   have s2 : wrap64 ((N : Int) - 1) = (s : Int) := by rw [← hsN]; unfold wrap64; omega
   have s3 : (s : Int) < (N : Int) := by omega
   have s4 : (0 : Int) ≤ (s : Int) := by omega
   rw [show s * 2 = (N - 1) * 2 by omega] at k1 k2
   clear k3 HDR hsN
   go_wp2
   have k0 := blk_set HS.out.z4 0 (.int .i64 (detF L m).1)
   have k4 := blk_set k0 1 (.slice A2 (detF L m).2.length d2)
   have z1 : ((wr.setCell ⟨w.heap.size, 0, none⟩ (.int .i64 (detF L m).1)).setCell ⟨w.heap.size, 1, none⟩ (.slice A2 (detF L m).2.length d2)).cell? ⟨w.heap.size, 0, none⟩ = some (.int .i64 (detF L m).1) := (blk_cell k4 0).trans rfl
   have z2 : ((wr.setCell ⟨w.heap.size, 0, none⟩ (.int .i64 (detF L m).1)).setCell ⟨w.heap.size, 1, none⟩ (.slice A2 (detF L m).2.length d2)).cell? ⟨w.heap.size, 1, none⟩ = some (.slice A2 (detF L m).2.length d2) := (blk_cell k4 1).trans rfl
   have hbF : Below w.heap.size w ((wr.setCell ⟨w.heap.size, 0, none⟩ (.int .i64 (detF L m).1)).setCell ⟨w.heap.size, 1, none⟩ (.slice A2 (detF L m).2.length d2)) := below_set (below_set HS.out.bel (Nat.le_refl _)) (Nat.le_refl _)
   have hRF : Rw ((wr.setCell ⟨w.heap.size, 0, none⟩ (.int .i64 (detF L m).1)).setCell ⟨w.heap.size, 1, none⟩ (.slice A2 (detF L m).2.length d2)) B (.slice A2 (detF L m).2.length d2) (detF L m).2 := Rw.off (Rw.off K3.out HS.out.z4 0 _) k0 1 _
   generalize (wr.setCell ⟨w.heap.size, 0, none⟩ (.int .i64 (detF L m).1)).setCell ⟨w.heap.size, 1, none⟩ (.slice A2 (detF L m).2.length d2) = F at *
   clear k0 k4
   refine bodyPost_ret (v := .agg #[.int .i64 (detF L m).1, .slice A2 (detF L m).2.length d2]) (by simp [results, Try.results70, go_sem, z1, z2]) rfl ⟨_, rfl, hRF, hbF⟩
end Go.Proofs.Ytdldfdcedjmneaa.Own
