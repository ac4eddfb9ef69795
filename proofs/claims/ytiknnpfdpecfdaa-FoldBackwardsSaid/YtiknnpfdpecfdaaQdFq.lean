/- The declarations of Fq that the claim Qd needs. -/
import Derived.Test.YtiknnpfdpecfdaaQdFn
import Derived.Deep.DeepMust
namespace Go.Proofs.Ytiknnpfdpecfdaa.Own
open Go Go.RowKit Go.Proofs Go.Proofs.YtiknnpfdpecfdaaW.PrintWords Go.Proofs.YtiknnpfdpecfdaaW.PrintLast Go.Proofs.YtiknnpfdpecfdaaW.PrintMore
set_option linter.unusedVariables false
set_option linter.unusedSimpArgs false
def lay9T : Bool × List (List Nat × List Nat) := (true, [([], []), ([0], [0]), ([], []), ([], []), ([2, 3], [2, 3]), ([4], [4]), ([1, 5], [1, 5]), ([], []), ([7], [7]), ([], []), ([], []), ([9, 10], [9, 10]), ([11], [11]), ([8, 12, 6], [8, 12]), ([0, 1, 2, 3, 4, 5, 6, 7, 8], []), ([14, 6, 13, 0, 1, 2, 3, 4, 5, 6, 7, 8], [6, 14]), ([0, 1, 2, 3, 4, 5, 6, 7, 8, 9, 10, 11, 12, 13, 14, 15], []), ([16, 13, 15, 0, 1, 2, 3, 4, 5, 6, 7, 8, 9, 10, 11, 12, 13, 14, 15], [13, 16])])
def lay9B : List Nat := [0, 1, 0, 0, 12, 28, 63, 0, 128, 0, 0, 1536, 3584, 8191, 511, 32767, 65535, 131071]
theorem lay9tab : rtab .any (opsOf Try.f49 9) = lay9T := by kernel_rfl
theorem lay9bits : waitsOk lay9T.2 lay9B = true := by kernel_rfl
set_option maxRecDepth 100000 in
set_option maxHeartbeats 8000000 in
theorem lay49 (Az : Option Addr) (cz : Nat) (sizes : List Int) (w : World) (hC : Kd.C (Kd.int .i64) w Az sizes.length sizes) (hn : sizes.length < 2 ^ 10) :
  Calls Try.prog 49 #[.slice Az sizes.length cz, .bool false] w fun e w' => ∃ vl vh vc : Value, e = .returned (.agg #[vl, vh, vc, .bool false]) ∧ Kd.R (Kd.int .i64) 3 w' w.heap.size (fun _ => True) vl (layR sizes sizes.length).low ∧ Kd.R (Kd.int .i64) 3 w' w.heap.size (fun _ => True) vh (layR sizes sizes.length).high ∧ Kd.R k96 96 w' w.heap.size (fun _ => True) vc (layR sizes sizes.length).cr ∧ Below w.heap.size w w' := by
 have HZ := Aside0.mk hC
 have HN := Aside0.mk hn
 clear hC hn
 go_enter Try.func49, Try.ntmps49
 go_wp2
 obtain ⟨g4, hg4⟩ : ∃ g, w.heap.size = g := ⟨_, rfl⟩
 obtain ⟨gc, hgc⟩ : ∃ g, w.heap.size + 1 = g := ⟨_, rfl⟩
 obtain ⟨w2, hw2⟩ : ∃ W, (w.alloc (.cells #[.slice none 0 0, .slice none 0 0, .slice none 0 0, .bool false] 76)).alloc (.cells #[.slice none 0 0, .slice none 0 0, .slice none 0 0, .bool false] 76) = W := ⟨_, rfl⟩
 have hm0 : Mid w w2 gc g4 (.slice none 0 0) (.slice none 0 0) (.slice none 0 0) false (.slice none 0 0) (.slice none 0 0) (.slice none 0 0) (layR sizes 0).low (layR sizes 0).high (layR sizes 0).cr := by
  rw [← hw2, ← hg4, ← hgc]
  refine ⟨?_, ?_, Kd.R_nil _ _ _ _ _, Kd.R_nil _ _ _ _ _, Kd.R_nil _ _ _ _ _, by omega, by omega, by omega, below_alloc (below_alloc (Below.refl _ _) _) _⟩
  ·have := Go.Deep.blk_alloc_new (w.alloc (.cells #[.slice none 0 0, .slice none 0 0, .slice none 0 0, .bool false] 76)) (.cells #[.slice none 0 0, .slice none 0 0, .slice none 0 0, .bool false] 76)
   rw [Go.Deep.nblk_alloc] at this
   exact this
  ·rw [Go.Deep.blk_alloc_lt _ _ _ (by rw [Go.Deep.nblk_alloc]; omega)]
   exact Go.Deep.blk_alloc_new _ _
 rw [hw2, hgc, hg4]
 have HM0 := Aside0.mk hm0
 clear hm0 hw2 hgc hg4
 go_loopw [6, 12] (fun v6 v12 wr => ∃ (k : Nat) (vl vh vc : Value), v6 = .int .i64 (layR sizes k).at_ ∧ v12 = .int .i64 (k : Int) ∧ k ≤ sizes.length ∧ Aside0 (Mid w wr gc g4 vl vh vc false vl vh vc (layR sizes k).low (layR sizes k).high (layR sizes k).cr)) (fun _ v12 _ => sizes.length - (intOf v12).toNat)
 case atStart => exact ⟨0, _, _, _, rfl, by first | rfl | simp, Nat.zero_le _, HM0⟩
 case round =>
  clear HM0
  obtain ⟨k, vl, vh, vc, rfl, rfl, hk, HM⟩ := hrel
  by_cases hkn : k < sizes.length
  ·obtain ⟨n, hsn⟩ : ∃ n, sizes[k] = n := ⟨_, rfl⟩
   obtain ⟨az, rfl, hxz⟩ := Kd.at_int HZ.out (k : Int) (by omega) (by omega)
   have hrk : rd sizes (k : Int) = n := by rw [← hsn]; simp [rd, hkn]
   rw [hrk, Int.toNat_natCast] at hxz
   have exz := mv HM.out.hb hxz
   have hlen := layR_len sizes k
   obtain ⟨⟨a, low, high, cr⟩, hst⟩ : ∃ st, layR sizes k = st := ⟨_, rfl⟩
   rw [hst] at HM hlen ⊢
   simp only at HM hlen ⊢
   obtain ⟨Al, cl, rfl⟩ := Kd.R_slice HM.out.rl
   obtain ⟨Ah, ch, rfl⟩ := Kd.R_slice HM.out.rh
   obtain ⟨Ac, cc, rfl⟩ := Kd.R_slice HM.out.rc
   have HS : ∀ W, (Mid w W gc g4 (.slice Al low.length cl) (.slice Ah high.length ch) (.slice Ac cr.length cc) false (.slice Al low.length cl) (.slice Ah high.length ch) (.slice Ac cr.length cc) low high cr) → (W.cell? ⟨gc, 0, none⟩ = some (.slice Al low.length cl) ∧ W.cell? ⟨gc, 1, none⟩ = some (.slice Ah high.length ch)) := fun W h => ⟨h.read.1, h.read.2.1⟩
   have HST := Aside0.mk hst
   have HLN := Aside0.mk hlen
   have HRK := Aside0.mk hrk
   clear hst hlen hrk hxz hsn
   obtain ⟨p, hp⟩ : ∃ p, Int.tmod (k : Int) 2 = p := ⟨_, rfl⟩
   by_cases hp1 : p = 1
   ·subst hp1
    go_wp2
    obtain ⟨nx, hnx⟩ : ∃ x, wrap64 (a - n) = x := ⟨_, rfl⟩
    rw [hnx]
    have HNX := Aside0.mk (show nextAt k a n = nx by unfold nextAt; rw [if_pos hp]; exact hnx)
    clear hnx
    refine start_ (n := 18) (S := fun w' => (w'.cell? ⟨gc, 0, none⟩ = some (.slice Al low.length cl) ∧ w'.cell? ⟨gc, 1, none⟩ = some (.slice Ah high.length ch))) (ds := [15, 17]) #[false, false, false, false, false, false, false, false, false, false, false, false, false, false, false, false, false, false] (by kernel_rfl) rfl rfl (HS _ (HM.out.below (below_drew1' (Below.refl _ _)))) (fun hHeld => ?_); refine with_tabW lay9tab lay9bits (fun HT_ HW_ => ?_)
    replace HM := Aside0.mk (HM.out.below (below_drew1' (Below.refl _ _)))
    generalize wr.drew = wa at HM hHeld ⊢
    refine pr 0 26 HT_ ?_
    refine tr 1 27 HT_ HW_ hHeld ?_
    refine pr 2 28 HT_ ?_
    refine pr 3 29 HT_ ?_
    refine pr 4 30 HT_ ?_
    refine pr 7 33 HT_ ?_
    refine tr 8 34 HT_ HW_ hHeld ?_
    refine pr 9 35 HT_ ?_
    refine pr 10 36 HT_ ?_
    refine pr 11 37 HT_ ?_
    have HS' : ∀ (W : World) (vl vh : Value), ∀ {low1 high1 : List Int}, Mid w W gc g4 (.slice Al low.length cl) (.slice Ah high.length ch) (.slice Ac cr.length cc) false vl vh (.slice Ac cr.length cc) low1 high1 cr → (W.cell? ⟨gc, 0, none⟩ = some (.slice Al low.length cl) ∧ W.cell? ⟨gc, 1, none⟩ = some (.slice Ah high.length ch)) := fun W vl vh _ _ h => ⟨h.read.1, h.read.2.1⟩
    refine join_ (σ := Value × Value × Value × Value) 3 #[true, true, true, true, true, true, true, true, true, true, true, true, true, true, true, false, false, false] (fun s_ => [(31, s_.1), (32, s_.2.1), (38, s_.2.2.1), (39, s_.2.2.2), (40, .pointer (some ⟨gc, 0, none⟩))]) (fun s_ w' => Mid w w' gc g4 (.slice Al low.length cl) (.slice Ah high.length ch) (.slice Ac cr.length cc) false s_.2.1 s_.2.2.2 (.slice Ac cr.length cc) (low ++ [min a nx]) (high ++ [max a nx]) cr) ?_ ?_
    rotate_left
    ·intro hCont
     refine two_ (i := 5) (j := 12) (Ni := some 31) (Nj := some 38) #[true, true, true, true, true, true, false, true, true, true, true, true, false, false, false, false, false, false] #[true, true, true, true, true, false, false, true, true, true, true, true, true, false, false, false, false, false] rfl rfl rfl rfl (two_of HT_.out (by kernel_rfl)) (by decide) (by decide) (fun K hK => ?_) (fun K hK => ?_)
     ·refine Kd.R_lit_step (Kd.int .i64) (w0 := wa) wa.heap.size 3 (by rfl) (N := 31) (by rfl) (xs := [min a nx]) (inner := [.int .i64 (min a nx)]) (ok := fun k => some k ≠ Value.ownBlock (.slice Al low.length cl) ∧ some k ≠ Value.ownBlock (.slice Ah high.length ch)) (okp := fun _ => False) ?hr (Reps.one rfl (Reps.none _ _)) (fun _ h => h.elim) ⟨(HM.out.okh _ (Nat.le_refl _)).2, (HM.out.okl _ (Nat.le_refl _)).2⟩ (Below.refl _ _) (Nat.le_refl _) (by simp) ?_
      (case hr => first | (go_simp; done) | (go_simp; rfl))
      intro v31 w31 ho31 hb31 hg31 hat31
      obtain ⟨A31, c31, rfl⟩ := Kd.R_slice ho31
      replace HM := Aside0.mk (HM.out.below hb31)
      have LA := Aside0.mk ho31
      clear ho31 hb31 hg31 hat31
      refine hK.out _ _ (HS' _ _ _ HM.out) (fun hHeld => ?_)
      clear hK K
      refine nr (some 31) ?_
      refine two_ (i := 6) (j := 12) (Ni := some 32) (Nj := some 38) #[true, true, true, true, true, true, true, true, true, true, true, true, false, false, false, false, false, false] #[true, true, true, true, true, true, false, true, true, true, true, true, true, false, false, false, false, false] rfl rfl rfl rfl (two_of HT_.out (by kernel_rfl)) (by decide) (by decide) (fun K hK => ?_) (fun K hK => ?_)
      ·refine Kd.R_append_rows_step (Kd.int .i64) (w0 := w) w.heap.size (by rfl) (.tmp 27) (.tmp 31) 22 3 (.int .i64 0) 8 rfl Try.underlying22 info3 rfl (by decide) (by decide) (.slice Al low.length cl) low [min a nx] _ _ _ (fun k => (k ≠ gc ∧ k ≠ g4) ∧ some k ≠ Value.ownBlock (.slice Ah high.length ch)) (fun _ => False) rfl rfl HM.out.rl (Kd.R_reads' LA.out).2.2 (fun _ _ h => h) (fun _ h => h.elim) HM.out.okl HM.out.hb HM.out.hb.size ?aL ?_
       (case aL => have := HLN.out; have := HN.out; simp only [List.length_cons, List.length_nil]; omega)
       intro v32 w32 ho32 hb32 hg32 hat32
       replace HM := Aside0.mk (HM.out.putLow ho32 hb32 hg32 hat32)
       obtain ⟨A32, c32, rfl⟩ := Kd.R_slice ho32
       clear ho32 hb32 hg32 hat32
       refine hK.out _ _ (HS' _ _ _ HM.out) (fun hHeld => ?_)
       clear hK K
       refine nr (some 32) ?_
       refine pr 14 40 HT_ ?_
       refine on 12 (some 38) HT_ (fun K hK => ?_)
       refine Kd.R_lit_step (Kd.int .i64) (w0 := w32) w32.heap.size 3 (by rfl) (N := 38) (by rfl) (xs := [max a nx]) (inner := [.int .i64 (max a nx)]) (ok := fun k => some k ≠ Value.ownBlock (.slice A32 (low ++ [min a nx]).length c32) ∧ some k ≠ Value.ownBlock (.slice Ah high.length ch)) (okp := fun _ => False) ?hr (Reps.one rfl (Reps.none _ _)) (fun _ h => h.elim) ⟨(HM.out.okh _ (Nat.le_refl _)).2, (HM.out.okl _ (Nat.le_refl _)).2⟩ (Below.refl _ _) (Nat.le_refl _) (by simp) ?_
       (case hr => first | (go_simp; done) | (go_simp; rfl))
       intro v38 w38 ho38 hb38 hg38 hat38
       obtain ⟨A38, c38, rfl⟩ := Kd.R_slice ho38
       replace HM := Aside0.mk (HM.out.below hb38)
       have LB := Aside0.mk ho38
       clear ho38 hb38 hg38 hat38
       refine hK.out _ _ (HS' _ _ _ HM.out) (fun hHeld => ?_)
       clear hK K
       refine nr (some 38) ?_
       refine on 13 (some 39) HT_ (fun K hK => ?_)
       refine Kd.R_append_rows_step (Kd.int .i64) (w0 := w) w.heap.size (by rfl) (.tmp 34) (.tmp 38) 22 3 (.int .i64 0) 8 rfl Try.underlying22 info3 rfl (by decide) (by decide) (.slice Ah high.length ch) high [max a nx] _ _ _ (fun k => (k ≠ gc ∧ k ≠ g4) ∧ some k ≠ Value.ownBlock (.slice A32 (low ++ [min a nx]).length c32)) (fun _ => False) rfl rfl HM.out.rh (Kd.R_reads' LB.out).2.2 (fun _ _ h => h) (fun _ h => h.elim) HM.out.okh HM.out.hb HM.out.hb.size ?aL ?_
       (case aL => have := HLN.out; have := HN.out; simp only [List.length_cons, List.length_nil]; omega)
       intro v39 w39 ho39 hb39 hg39 hat39
       replace HM := Aside0.mk (HM.out.putHigh ho39 hb39 hg39 hat39)
       obtain ⟨A39, c39, rfl⟩ := Kd.R_slice ho39
       clear ho39 hb39 hg39 hat39
       refine hK.out _ _ (HS' _ _ _ HM.out) (fun hHeld => ?_)
       clear hK K
       refine nr (some 39) ?_
       exact norm_ (by simp only [putAll, Act.put, List.setIfInBounds_toArray, List.set_cons_zero, List.set_cons_succ]) (hCont (.slice A31 [min a nx].length c31, (.slice A32 (low ++ [min a nx]).length c32), .slice A38 [max a nx].length c38, (.slice A39 (high ++ [max a nx]).length c39)) _ HM.out)
      ·refine Kd.R_lit_step (Kd.int .i64) (w0 := w31) w31.heap.size 3 (by rfl) (N := 38) (by rfl) (xs := [max a nx]) (inner := [.int .i64 (max a nx)]) (ok := fun k => some k ≠ Value.ownBlock (.slice Al low.length cl) ∧ some k ≠ Value.ownBlock (.slice Ah high.length ch)) (okp := fun _ => False) ?hr (Reps.one rfl (Reps.none _ _)) (fun _ h => h.elim) ⟨(HM.out.okh _ (Nat.le_refl _)).2, (HM.out.okl _ (Nat.le_refl _)).2⟩ (Below.refl _ _) (Nat.le_refl _) (by simp) ?_
       (case hr => first | (go_simp; done) | (go_simp; rfl))
       intro v38 w38 ho38 hb38 hg38 hat38
       obtain ⟨A38, c38, rfl⟩ := Kd.R_slice ho38
       replace HM := Aside0.mk (HM.out.below hb38)
       replace LA := Aside0.mk (Kd.R_below LA.out hb38)
       have LB := Aside0.mk ho38
       clear ho38 hb38 hg38 hat38
       refine hK.out _ _ (HS' _ _ _ HM.out) (fun hHeld => ?_)
       clear hK K
       refine nr (some 38) ?_
       refine on 6 (some 32) HT_ (fun K hK => ?_)
       refine Kd.R_append_rows_step (Kd.int .i64) (w0 := w) w.heap.size (by rfl) (.tmp 27) (.tmp 31) 22 3 (.int .i64 0) 8 rfl Try.underlying22 info3 rfl (by decide) (by decide) (.slice Al low.length cl) low [min a nx] _ _ _ (fun k => (k ≠ gc ∧ k ≠ g4) ∧ some k ≠ Value.ownBlock (.slice Ah high.length ch)) (fun _ => False) rfl rfl HM.out.rl (Kd.R_reads' LA.out).2.2 (fun _ _ h => h) (fun _ h => h.elim) HM.out.okl HM.out.hb HM.out.hb.size ?aL ?_
       (case aL => have := HLN.out; have := HN.out; simp only [List.length_cons, List.length_nil]; omega)
       intro v32 w32 ho32 hb32 hg32 hat32
       replace HM := Aside0.mk (HM.out.putLow ho32 hb32 hg32 hat32)
       replace LB := Aside0.mk (Kd.R_grown LB.out hg32 (fun k hk => hk.1))
       obtain ⟨A32, c32, rfl⟩ := Kd.R_slice ho32
       clear ho32 hb32 hg32 hat32
       refine hK.out _ _ (HS' _ _ _ HM.out) (fun hHeld => ?_)
       clear hK K
       refine nr (some 32) ?_
       refine pr 14 40 HT_ ?_
       refine on 13 (some 39) HT_ (fun K hK => ?_)
       refine Kd.R_append_rows_step (Kd.int .i64) (w0 := w) w.heap.size (by rfl) (.tmp 34) (.tmp 38) 22 3 (.int .i64 0) 8 rfl Try.underlying22 info3 rfl (by decide) (by decide) (.slice Ah high.length ch) high [max a nx] _ _ _ (fun k => (k ≠ gc ∧ k ≠ g4) ∧ some k ≠ Value.ownBlock (.slice A32 (low ++ [min a nx]).length c32)) (fun _ => False) rfl rfl HM.out.rh (Kd.R_reads' LB.out).2.2 (fun _ _ h => h) (fun _ h => h.elim) HM.out.okh HM.out.hb HM.out.hb.size ?aL ?_
       (case aL => have := HLN.out; have := HN.out; simp only [List.length_cons, List.length_nil]; omega)
       intro v39 w39 ho39 hb39 hg39 hat39
       replace HM := Aside0.mk (HM.out.putHigh ho39 hb39 hg39 hat39)
       obtain ⟨A39, c39, rfl⟩ := Kd.R_slice ho39
       clear ho39 hb39 hg39 hat39
       refine hK.out _ _ (HS' _ _ _ HM.out) (fun hHeld => ?_)
       clear hK K
       refine nr (some 39) ?_
       exact norm_ (by simp only [putAll, Act.put, List.setIfInBounds_toArray, List.set_cons_zero, List.set_cons_succ]) (hCont (.slice A31 [min a nx].length c31, (.slice A32 (low ++ [min a nx]).length c32), .slice A38 [max a nx].length c38, (.slice A39 (high ++ [max a nx]).length c39)) _ HM.out)
     ·refine Kd.R_lit_step (Kd.int .i64) (w0 := wa) wa.heap.size 3 (by rfl) (N := 38) (by rfl) (xs := [max a nx]) (inner := [.int .i64 (max a nx)]) (ok := fun k => some k ≠ Value.ownBlock (.slice Al low.length cl) ∧ some k ≠ Value.ownBlock (.slice Ah high.length ch)) (okp := fun _ => False) ?hr (Reps.one rfl (Reps.none _ _)) (fun _ h => h.elim) ⟨(HM.out.okh _ (Nat.le_refl _)).2, (HM.out.okl _ (Nat.le_refl _)).2⟩ (Below.refl _ _) (Nat.le_refl _) (by simp) ?_
      (case hr => first | (go_simp; done) | (go_simp; rfl))
      intro v38 w38 ho38 hb38 hg38 hat38
      obtain ⟨A38, c38, rfl⟩ := Kd.R_slice ho38
      replace HM := Aside0.mk (HM.out.below hb38)
      have LB := Aside0.mk ho38
      clear ho38 hb38 hg38 hat38
      refine hK.out _ _ (HS' _ _ _ HM.out) (fun hHeld => ?_)
      clear hK K
      refine nr (some 38) ?_
      refine on 5 (some 31) HT_ (fun K hK => ?_)
      refine Kd.R_lit_step (Kd.int .i64) (w0 := w38) w38.heap.size 3 (by rfl) (N := 31) (by rfl) (xs := [min a nx]) (inner := [.int .i64 (min a nx)]) (ok := fun k => some k ≠ Value.ownBlock (.slice Al low.length cl) ∧ some k ≠ Value.ownBlock (.slice Ah high.length ch)) (okp := fun _ => False) ?hr (Reps.one rfl (Reps.none _ _)) (fun _ h => h.elim) ⟨(HM.out.okh _ (Nat.le_refl _)).2, (HM.out.okl _ (Nat.le_refl _)).2⟩ (Below.refl _ _) (Nat.le_refl _) (by simp) ?_
      (case hr => first | (go_simp; done) | (go_simp; rfl))
      intro v31 w31 ho31 hb31 hg31 hat31
      obtain ⟨A31, c31, rfl⟩ := Kd.R_slice ho31
      replace HM := Aside0.mk (HM.out.below hb31)
      replace LB := Aside0.mk (Kd.R_below LB.out hb31)
      have LA := Aside0.mk ho31
      clear ho31 hb31 hg31 hat31
      refine hK.out _ _ (HS' _ _ _ HM.out) (fun hHeld => ?_)
      clear hK K
      refine nr (some 31) ?_
      refine on 6 (some 32) HT_ (fun K hK => ?_)
      refine Kd.R_append_rows_step (Kd.int .i64) (w0 := w) w.heap.size (by rfl) (.tmp 27) (.tmp 31) 22 3 (.int .i64 0) 8 rfl Try.underlying22 info3 rfl (by decide) (by decide) (.slice Al low.length cl) low [min a nx] _ _ _ (fun k => (k ≠ gc ∧ k ≠ g4) ∧ some k ≠ Value.ownBlock (.slice Ah high.length ch)) (fun _ => False) rfl rfl HM.out.rl (Kd.R_reads' LA.out).2.2 (fun _ _ h => h) (fun _ h => h.elim) HM.out.okl HM.out.hb HM.out.hb.size ?aL ?_
      (case aL => have := HLN.out; have := HN.out; simp only [List.length_cons, List.length_nil]; omega)
      intro v32 w32 ho32 hb32 hg32 hat32
      replace HM := Aside0.mk (HM.out.putLow ho32 hb32 hg32 hat32)
      replace LB := Aside0.mk (Kd.R_grown LB.out hg32 (fun k hk => hk.1))
      obtain ⟨A32, c32, rfl⟩ := Kd.R_slice ho32
      clear ho32 hb32 hg32 hat32
      refine hK.out _ _ (HS' _ _ _ HM.out) (fun hHeld => ?_)
      clear hK K
      refine nr (some 32) ?_
      refine pr 14 40 HT_ ?_
      refine on 13 (some 39) HT_ (fun K hK => ?_)
      refine Kd.R_append_rows_step (Kd.int .i64) (w0 := w) w.heap.size (by rfl) (.tmp 34) (.tmp 38) 22 3 (.int .i64 0) 8 rfl Try.underlying22 info3 rfl (by decide) (by decide) (.slice Ah high.length ch) high [max a nx] _ _ _ (fun k => (k ≠ gc ∧ k ≠ g4) ∧ some k ≠ Value.ownBlock (.slice A32 (low ++ [min a nx]).length c32)) (fun _ => False) rfl rfl HM.out.rh (Kd.R_reads' LB.out).2.2 (fun _ _ h => h) (fun _ h => h.elim) HM.out.okh HM.out.hb HM.out.hb.size ?aL ?_
      (case aL => have := HLN.out; have := HN.out; simp only [List.length_cons, List.length_nil]; omega)
      intro v39 w39 ho39 hb39 hg39 hat39
      replace HM := Aside0.mk (HM.out.putHigh ho39 hb39 hg39 hat39)
      obtain ⟨A39, c39, rfl⟩ := Kd.R_slice ho39
      clear ho39 hb39 hg39 hat39
      refine hK.out _ _ (HS' _ _ _ HM.out) (fun hHeld => ?_)
      clear hK K
      refine nr (some 39) ?_
      exact norm_ (by simp only [putAll, Act.put, List.setIfInBounds_toArray, List.set_cons_zero, List.set_cons_succ]) (hCont (.slice A31 [min a nx].length c31, (.slice A32 (low ++ [min a nx]).length c32), .slice A38 [max a nx].length c38, (.slice A39 (high ++ [max a nx]).length c39)) _ HM.out)
    clear hHeld HM HS HS'
    generalize wa = wa_
    intro s_ wb hmid
    obtain ⟨s1, s2, s3, s4⟩ := s_
    simp only at hmid
    have HM := Aside0.mk hmid
    clear hmid
    obtain ⟨Aq, cq, rfl⟩ := Kd.R_slice HM.out.rl
    obtain ⟨Ar, cr', rfl⟩ := Kd.R_slice HM.out.rh
    refine norm_ (a' := ?_) ?_ ?_
    rotate_left
    ·simp only [putAll, Act.put, List.setIfInBounds_toArray, List.set_cons_zero, List.set_cons_succ]
     rfl
    have hc0 := HM.out.read.1
    have hf0 := blk_frozen HM.out.bk 0
    refine la 15 none HT_ (fun K hK => ?_)
    refine sk (w1 := wb.setCell ⟨gc, 0, none⟩ (.slice Aq (low ++ [min a nx]).length cq)) (hrun := by first | (go_simp; done) | (go_simp; rfl)) ?_
    refine hK.out _ _ ?_
    clear hK K hc0 hf0
    replace HM := Aside0.mk ((HM.out.set 0 (.slice Aq (low ++ [min a nx]).length cq)).2 _ _ _ _ rfl)
    generalize wb.setCell ⟨gc, 0, none⟩ (.slice Aq (low ++ [min a nx]).length cq) = wc at HM ⊢
    refine pr 16 41 HT_ ?_
    have hc1 := HM.out.read.2.1
    have hf1 := blk_frozen HM.out.bk 1
    refine la 17 none HT_ (fun K hK => ?_)
    refine sk (w1 := wc.setCell ⟨gc, 1, none⟩ (.slice Ar (high ++ [max a nx]).length cr')) (hrun := by first | (go_simp; done) | (go_simp; rfl)) ?_
    refine hK.out _ _ ?_
    clear hK K hc1 hf1
    replace HM := Aside0.mk ((HM.out.set 1 (.slice Ar (high ++ [max a nx]).length cr')).2 _ _ _ _ rfl)
    generalize wc.setCell ⟨gc, 1, none⟩ (.slice Ar (high ++ [max a nx]).length cr') = wd at HM ⊢
    refine dn HT_ ?_
    by_cases hk0 : 0 < k
    ·have hc2 := HM.out.read.2.2.1
     go_wp2_with ((with_reducible refine gate_builtin (b := .append) (xs := #[.tmp 45, .tmp 54]) rfl ?_); at_builtin; refine Kd.R_append k96 (w0 := w) w.heap.size rfl (.tmp 45) (.tmp 54) 74 96 (.agg #[.int .i64 0, .int .i64 0, .int .i64 0, .bool false]) 32 rfl Try.underlying74 info96 rfl (by decide) (by omega) (.slice Ac cr.length cc) cr ⟨wrap64 ((k : Int) - 1), (k : Int), a, true⟩ [.int .i64 (wrap64 ((k : Int) - 1)), .int .i64 (k : Int), .int .i64 a, .bool true] (fun k => k ≠ gc ∧ k ≠ g4) (fun _ => False) rfl rfl (k96_mkM _ _ _ _) (fun _ h => h.elim) HM.out.ok HM.out.rc HM.out.hb HM.out.hb.size ?aL ?_; (case aL => have := HLN.out.2.2; have := HN.out; omega); intro v14 w14 ho14 hb14 hg14 hat14; have HM2 := Aside0.mk (HM.out.putCr ho14 hb14 hg14); clear hc2; have hc2 := HM2.out.read.2.2.1; have hf2 := blk_frozen HM2.out.bk 2; obtain ⟨A14, c14, rfl⟩ := Kd.R_slice ho14; clear ho14 hb14 hg14 hat14)
     have hnx : layR sizes (k + 1) = ⟨nx, low ++ [min a nx], high ++ [max a nx], cr ++ [⟨wrap64 ((k : Int) - 1), (k : Int), a, true⟩]⟩ := by
      rw [layR, HRK.out, HST.out]
      unfold layStep
      simp only [HNX.out]
      rw [if_pos hk0, hp]
      try rw [show ((1 : Int) == 1) = true from rfl]
      try rw [show (p == 1) = false from by simpa using hp1]
     refine ⟨⟨k + 1, (.slice Aq (low ++ [min a nx]).length cq), (.slice Ar (high ++ [max a nx]).length cr'), (.slice A14 (cr ++ [(⟨wrap64 ((k : Int) - 1), (k : Int), a, true⟩ : S96)]).length c14), ?_, up2 (by have := HN.out; omega) hkn, by omega, ?_⟩, up2m (by have := HN.out; omega) hkn⟩
     ·rw [hnx]
     ·rw [hnx]
      exact ⟨(HM2.out.set 2 _).2 _ _ _ _ (by simp)⟩
    ·go_wp2
     have hnx : layR sizes (k + 1) = ⟨nx, low ++ [min a nx], high ++ [max a nx], cr⟩ := by
      rw [layR, HRK.out, HST.out]
      unfold layStep
      simp only [HNX.out]
      rw [if_neg hk0]
     refine ⟨⟨k + 1, (.slice Aq (low ++ [min a nx]).length cq), (.slice Ar (high ++ [max a nx]).length cr'), (.slice Ac cr.length cc), ?_, (by first | exact up2 (by have := HN.out; omega) hkn | rfl), by omega, ?_⟩, (by first | exact up2m (by have := HN.out; omega) hkn | (simp only [intOf]; omega))⟩
     ·rw [hnx]
     ·rw [hnx]
      exact HM
   ·go_wp2
    obtain ⟨nx, hnx⟩ : ∃ x, wrap64 (a + n) = x := ⟨_, rfl⟩
    rw [hnx]
    have HNX := Aside0.mk (show nextAt k a n = nx by unfold nextAt; rw [hp, if_neg hp1]; exact hnx)
    clear hnx
    refine start_ (n := 18) (S := fun w' => (w'.cell? ⟨gc, 0, none⟩ = some (.slice Al low.length cl) ∧ w'.cell? ⟨gc, 1, none⟩ = some (.slice Ah high.length ch))) (ds := [15, 17]) #[false, false, false, false, false, false, false, false, false, false, false, false, false, false, false, false, false, false] (by kernel_rfl) rfl rfl (HS _ (HM.out.below (below_drew1' (Below.refl _ _)))) (fun hHeld => ?_); refine with_tabW lay9tab lay9bits (fun HT_ HW_ => ?_)
    replace HM := Aside0.mk (HM.out.below (below_drew1' (Below.refl _ _)))
    generalize wr.drew = wa at HM hHeld ⊢
    refine pr 0 26 HT_ ?_
    refine tr 1 27 HT_ HW_ hHeld ?_
    refine pr 2 28 HT_ ?_
    refine pr 3 29 HT_ ?_
    refine pr 4 30 HT_ ?_
    refine pr 7 33 HT_ ?_
    refine tr 8 34 HT_ HW_ hHeld ?_
    refine pr 9 35 HT_ ?_
    refine pr 10 36 HT_ ?_
    refine pr 11 37 HT_ ?_
    have HS' : ∀ (W : World) (vl vh : Value), ∀ {low1 high1 : List Int}, Mid w W gc g4 (.slice Al low.length cl) (.slice Ah high.length ch) (.slice Ac cr.length cc) false vl vh (.slice Ac cr.length cc) low1 high1 cr → (W.cell? ⟨gc, 0, none⟩ = some (.slice Al low.length cl) ∧ W.cell? ⟨gc, 1, none⟩ = some (.slice Ah high.length ch)) := fun W vl vh _ _ h => ⟨h.read.1, h.read.2.1⟩
    refine join_ (σ := Value × Value × Value × Value) 3 #[true, true, true, true, true, true, true, true, true, true, true, true, true, true, true, false, false, false] (fun s_ => [(31, s_.1), (32, s_.2.1), (38, s_.2.2.1), (39, s_.2.2.2), (40, .pointer (some ⟨gc, 0, none⟩))]) (fun s_ w' => Mid w w' gc g4 (.slice Al low.length cl) (.slice Ah high.length ch) (.slice Ac cr.length cc) false s_.2.1 s_.2.2.2 (.slice Ac cr.length cc) (low ++ [min a nx]) (high ++ [max a nx]) cr) ?_ ?_
    rotate_left
    ·intro hCont
     refine two_ (i := 5) (j := 12) (Ni := some 31) (Nj := some 38) #[true, true, true, true, true, true, false, true, true, true, true, true, false, false, false, false, false, false] #[true, true, true, true, true, false, false, true, true, true, true, true, true, false, false, false, false, false] rfl rfl rfl rfl (two_of HT_.out (by kernel_rfl)) (by decide) (by decide) (fun K hK => ?_) (fun K hK => ?_)
     ·refine Kd.R_lit_step (Kd.int .i64) (w0 := wa) wa.heap.size 3 (by rfl) (N := 31) (by rfl) (xs := [min a nx]) (inner := [.int .i64 (min a nx)]) (ok := fun k => some k ≠ Value.ownBlock (.slice Al low.length cl) ∧ some k ≠ Value.ownBlock (.slice Ah high.length ch)) (okp := fun _ => False) ?hr (Reps.one rfl (Reps.none _ _)) (fun _ h => h.elim) ⟨(HM.out.okh _ (Nat.le_refl _)).2, (HM.out.okl _ (Nat.le_refl _)).2⟩ (Below.refl _ _) (Nat.le_refl _) (by simp) ?_
      (case hr => first | (go_simp; done) | (go_simp; rfl))
      intro v31 w31 ho31 hb31 hg31 hat31
      obtain ⟨A31, c31, rfl⟩ := Kd.R_slice ho31
      replace HM := Aside0.mk (HM.out.below hb31)
      have LA := Aside0.mk ho31
      clear ho31 hb31 hg31 hat31
      refine hK.out _ _ (HS' _ _ _ HM.out) (fun hHeld => ?_)
      clear hK K
      refine nr (some 31) ?_
      refine two_ (i := 6) (j := 12) (Ni := some 32) (Nj := some 38) #[true, true, true, true, true, true, true, true, true, true, true, true, false, false, false, false, false, false] #[true, true, true, true, true, true, false, true, true, true, true, true, true, false, false, false, false, false] rfl rfl rfl rfl (two_of HT_.out (by kernel_rfl)) (by decide) (by decide) (fun K hK => ?_) (fun K hK => ?_)
      ·refine Kd.R_append_rows_step (Kd.int .i64) (w0 := w) w.heap.size (by rfl) (.tmp 27) (.tmp 31) 22 3 (.int .i64 0) 8 rfl Try.underlying22 info3 rfl (by decide) (by decide) (.slice Al low.length cl) low [min a nx] _ _ _ (fun k => (k ≠ gc ∧ k ≠ g4) ∧ some k ≠ Value.ownBlock (.slice Ah high.length ch)) (fun _ => False) rfl rfl HM.out.rl (Kd.R_reads' LA.out).2.2 (fun _ _ h => h) (fun _ h => h.elim) HM.out.okl HM.out.hb HM.out.hb.size ?aL ?_
       (case aL => have := HLN.out; have := HN.out; simp only [List.length_cons, List.length_nil]; omega)
       intro v32 w32 ho32 hb32 hg32 hat32
       replace HM := Aside0.mk (HM.out.putLow ho32 hb32 hg32 hat32)
       obtain ⟨A32, c32, rfl⟩ := Kd.R_slice ho32
       clear ho32 hb32 hg32 hat32
       refine hK.out _ _ (HS' _ _ _ HM.out) (fun hHeld => ?_)
       clear hK K
       refine nr (some 32) ?_
       refine pr 14 40 HT_ ?_
       refine on 12 (some 38) HT_ (fun K hK => ?_)
       refine Kd.R_lit_step (Kd.int .i64) (w0 := w32) w32.heap.size 3 (by rfl) (N := 38) (by rfl) (xs := [max a nx]) (inner := [.int .i64 (max a nx)]) (ok := fun k => some k ≠ Value.ownBlock (.slice A32 (low ++ [min a nx]).length c32) ∧ some k ≠ Value.ownBlock (.slice Ah high.length ch)) (okp := fun _ => False) ?hr (Reps.one rfl (Reps.none _ _)) (fun _ h => h.elim) ⟨(HM.out.okh _ (Nat.le_refl _)).2, (HM.out.okl _ (Nat.le_refl _)).2⟩ (Below.refl _ _) (Nat.le_refl _) (by simp) ?_
       (case hr => first | (go_simp; done) | (go_simp; rfl))
       intro v38 w38 ho38 hb38 hg38 hat38
       obtain ⟨A38, c38, rfl⟩ := Kd.R_slice ho38
       replace HM := Aside0.mk (HM.out.below hb38)
       have LB := Aside0.mk ho38
       clear ho38 hb38 hg38 hat38
       refine hK.out _ _ (HS' _ _ _ HM.out) (fun hHeld => ?_)
       clear hK K
       refine nr (some 38) ?_
       refine on 13 (some 39) HT_ (fun K hK => ?_)
       refine Kd.R_append_rows_step (Kd.int .i64) (w0 := w) w.heap.size (by rfl) (.tmp 34) (.tmp 38) 22 3 (.int .i64 0) 8 rfl Try.underlying22 info3 rfl (by decide) (by decide) (.slice Ah high.length ch) high [max a nx] _ _ _ (fun k => (k ≠ gc ∧ k ≠ g4) ∧ some k ≠ Value.ownBlock (.slice A32 (low ++ [min a nx]).length c32)) (fun _ => False) rfl rfl HM.out.rh (Kd.R_reads' LB.out).2.2 (fun _ _ h => h) (fun _ h => h.elim) HM.out.okh HM.out.hb HM.out.hb.size ?aL ?_
       (case aL => have := HLN.out; have := HN.out; simp only [List.length_cons, List.length_nil]; omega)
       intro v39 w39 ho39 hb39 hg39 hat39
       replace HM := Aside0.mk (HM.out.putHigh ho39 hb39 hg39 hat39)
       obtain ⟨A39, c39, rfl⟩ := Kd.R_slice ho39
       clear ho39 hb39 hg39 hat39
       refine hK.out _ _ (HS' _ _ _ HM.out) (fun hHeld => ?_)
       clear hK K
       refine nr (some 39) ?_
       exact norm_ (by simp only [putAll, Act.put, List.setIfInBounds_toArray, List.set_cons_zero, List.set_cons_succ]) (hCont (.slice A31 [min a nx].length c31, (.slice A32 (low ++ [min a nx]).length c32), .slice A38 [max a nx].length c38, (.slice A39 (high ++ [max a nx]).length c39)) _ HM.out)
      ·refine Kd.R_lit_step (Kd.int .i64) (w0 := w31) w31.heap.size 3 (by rfl) (N := 38) (by rfl) (xs := [max a nx]) (inner := [.int .i64 (max a nx)]) (ok := fun k => some k ≠ Value.ownBlock (.slice Al low.length cl) ∧ some k ≠ Value.ownBlock (.slice Ah high.length ch)) (okp := fun _ => False) ?hr (Reps.one rfl (Reps.none _ _)) (fun _ h => h.elim) ⟨(HM.out.okh _ (Nat.le_refl _)).2, (HM.out.okl _ (Nat.le_refl _)).2⟩ (Below.refl _ _) (Nat.le_refl _) (by simp) ?_
       (case hr => first | (go_simp; done) | (go_simp; rfl))
       intro v38 w38 ho38 hb38 hg38 hat38
       obtain ⟨A38, c38, rfl⟩ := Kd.R_slice ho38
       replace HM := Aside0.mk (HM.out.below hb38)
       replace LA := Aside0.mk (Kd.R_below LA.out hb38)
       have LB := Aside0.mk ho38
       clear ho38 hb38 hg38 hat38
       refine hK.out _ _ (HS' _ _ _ HM.out) (fun hHeld => ?_)
       clear hK K
       refine nr (some 38) ?_
       refine on 6 (some 32) HT_ (fun K hK => ?_)
       refine Kd.R_append_rows_step (Kd.int .i64) (w0 := w) w.heap.size (by rfl) (.tmp 27) (.tmp 31) 22 3 (.int .i64 0) 8 rfl Try.underlying22 info3 rfl (by decide) (by decide) (.slice Al low.length cl) low [min a nx] _ _ _ (fun k => (k ≠ gc ∧ k ≠ g4) ∧ some k ≠ Value.ownBlock (.slice Ah high.length ch)) (fun _ => False) rfl rfl HM.out.rl (Kd.R_reads' LA.out).2.2 (fun _ _ h => h) (fun _ h => h.elim) HM.out.okl HM.out.hb HM.out.hb.size ?aL ?_
       (case aL => have := HLN.out; have := HN.out; simp only [List.length_cons, List.length_nil]; omega)
       intro v32 w32 ho32 hb32 hg32 hat32
       replace HM := Aside0.mk (HM.out.putLow ho32 hb32 hg32 hat32)
       replace LB := Aside0.mk (Kd.R_grown LB.out hg32 (fun k hk => hk.1))
       obtain ⟨A32, c32, rfl⟩ := Kd.R_slice ho32
       clear ho32 hb32 hg32 hat32
       refine hK.out _ _ (HS' _ _ _ HM.out) (fun hHeld => ?_)
       clear hK K
       refine nr (some 32) ?_
       refine pr 14 40 HT_ ?_
       refine on 13 (some 39) HT_ (fun K hK => ?_)
       refine Kd.R_append_rows_step (Kd.int .i64) (w0 := w) w.heap.size (by rfl) (.tmp 34) (.tmp 38) 22 3 (.int .i64 0) 8 rfl Try.underlying22 info3 rfl (by decide) (by decide) (.slice Ah high.length ch) high [max a nx] _ _ _ (fun k => (k ≠ gc ∧ k ≠ g4) ∧ some k ≠ Value.ownBlock (.slice A32 (low ++ [min a nx]).length c32)) (fun _ => False) rfl rfl HM.out.rh (Kd.R_reads' LB.out).2.2 (fun _ _ h => h) (fun _ h => h.elim) HM.out.okh HM.out.hb HM.out.hb.size ?aL ?_
       (case aL => have := HLN.out; have := HN.out; simp only [List.length_cons, List.length_nil]; omega)
       intro v39 w39 ho39 hb39 hg39 hat39
       replace HM := Aside0.mk (HM.out.putHigh ho39 hb39 hg39 hat39)
       obtain ⟨A39, c39, rfl⟩ := Kd.R_slice ho39
       clear ho39 hb39 hg39 hat39
       refine hK.out _ _ (HS' _ _ _ HM.out) (fun hHeld => ?_)
       clear hK K
       refine nr (some 39) ?_
       exact norm_ (by simp only [putAll, Act.put, List.setIfInBounds_toArray, List.set_cons_zero, List.set_cons_succ]) (hCont (.slice A31 [min a nx].length c31, (.slice A32 (low ++ [min a nx]).length c32), .slice A38 [max a nx].length c38, (.slice A39 (high ++ [max a nx]).length c39)) _ HM.out)
     ·refine Kd.R_lit_step (Kd.int .i64) (w0 := wa) wa.heap.size 3 (by rfl) (N := 38) (by rfl) (xs := [max a nx]) (inner := [.int .i64 (max a nx)]) (ok := fun k => some k ≠ Value.ownBlock (.slice Al low.length cl) ∧ some k ≠ Value.ownBlock (.slice Ah high.length ch)) (okp := fun _ => False) ?hr (Reps.one rfl (Reps.none _ _)) (fun _ h => h.elim) ⟨(HM.out.okh _ (Nat.le_refl _)).2, (HM.out.okl _ (Nat.le_refl _)).2⟩ (Below.refl _ _) (Nat.le_refl _) (by simp) ?_
      (case hr => first | (go_simp; done) | (go_simp; rfl))
      intro v38 w38 ho38 hb38 hg38 hat38
      obtain ⟨A38, c38, rfl⟩ := Kd.R_slice ho38
      replace HM := Aside0.mk (HM.out.below hb38)
      have LB := Aside0.mk ho38
      clear ho38 hb38 hg38 hat38
      refine hK.out _ _ (HS' _ _ _ HM.out) (fun hHeld => ?_)
      clear hK K
      refine nr (some 38) ?_
      refine on 5 (some 31) HT_ (fun K hK => ?_)
      refine Kd.R_lit_step (Kd.int .i64) (w0 := w38) w38.heap.size 3 (by rfl) (N := 31) (by rfl) (xs := [min a nx]) (inner := [.int .i64 (min a nx)]) (ok := fun k => some k ≠ Value.ownBlock (.slice Al low.length cl) ∧ some k ≠ Value.ownBlock (.slice Ah high.length ch)) (okp := fun _ => False) ?hr (Reps.one rfl (Reps.none _ _)) (fun _ h => h.elim) ⟨(HM.out.okh _ (Nat.le_refl _)).2, (HM.out.okl _ (Nat.le_refl _)).2⟩ (Below.refl _ _) (Nat.le_refl _) (by simp) ?_
      (case hr => first | (go_simp; done) | (go_simp; rfl))
      intro v31 w31 ho31 hb31 hg31 hat31
      obtain ⟨A31, c31, rfl⟩ := Kd.R_slice ho31
      replace HM := Aside0.mk (HM.out.below hb31)
      replace LB := Aside0.mk (Kd.R_below LB.out hb31)
      have LA := Aside0.mk ho31
      clear ho31 hb31 hg31 hat31
      refine hK.out _ _ (HS' _ _ _ HM.out) (fun hHeld => ?_)
      clear hK K
      refine nr (some 31) ?_
      refine on 6 (some 32) HT_ (fun K hK => ?_)
      refine Kd.R_append_rows_step (Kd.int .i64) (w0 := w) w.heap.size (by rfl) (.tmp 27) (.tmp 31) 22 3 (.int .i64 0) 8 rfl Try.underlying22 info3 rfl (by decide) (by decide) (.slice Al low.length cl) low [min a nx] _ _ _ (fun k => (k ≠ gc ∧ k ≠ g4) ∧ some k ≠ Value.ownBlock (.slice Ah high.length ch)) (fun _ => False) rfl rfl HM.out.rl (Kd.R_reads' LA.out).2.2 (fun _ _ h => h) (fun _ h => h.elim) HM.out.okl HM.out.hb HM.out.hb.size ?aL ?_
      (case aL => have := HLN.out; have := HN.out; simp only [List.length_cons, List.length_nil]; omega)
      intro v32 w32 ho32 hb32 hg32 hat32
      replace HM := Aside0.mk (HM.out.putLow ho32 hb32 hg32 hat32)
      replace LB := Aside0.mk (Kd.R_grown LB.out hg32 (fun k hk => hk.1))
      obtain ⟨A32, c32, rfl⟩ := Kd.R_slice ho32
      clear ho32 hb32 hg32 hat32
      refine hK.out _ _ (HS' _ _ _ HM.out) (fun hHeld => ?_)
      clear hK K
      refine nr (some 32) ?_
      refine pr 14 40 HT_ ?_
      refine on 13 (some 39) HT_ (fun K hK => ?_)
      refine Kd.R_append_rows_step (Kd.int .i64) (w0 := w) w.heap.size (by rfl) (.tmp 34) (.tmp 38) 22 3 (.int .i64 0) 8 rfl Try.underlying22 info3 rfl (by decide) (by decide) (.slice Ah high.length ch) high [max a nx] _ _ _ (fun k => (k ≠ gc ∧ k ≠ g4) ∧ some k ≠ Value.ownBlock (.slice A32 (low ++ [min a nx]).length c32)) (fun _ => False) rfl rfl HM.out.rh (Kd.R_reads' LB.out).2.2 (fun _ _ h => h) (fun _ h => h.elim) HM.out.okh HM.out.hb HM.out.hb.size ?aL ?_
      (case aL => have := HLN.out; have := HN.out; simp only [List.length_cons, List.length_nil]; omega)
      intro v39 w39 ho39 hb39 hg39 hat39
      replace HM := Aside0.mk (HM.out.putHigh ho39 hb39 hg39 hat39)
      obtain ⟨A39, c39, rfl⟩ := Kd.R_slice ho39
      clear ho39 hb39 hg39 hat39
      refine hK.out _ _ (HS' _ _ _ HM.out) (fun hHeld => ?_)
      clear hK K
      refine nr (some 39) ?_
      exact norm_ (by simp only [putAll, Act.put, List.setIfInBounds_toArray, List.set_cons_zero, List.set_cons_succ]) (hCont (.slice A31 [min a nx].length c31, (.slice A32 (low ++ [min a nx]).length c32), .slice A38 [max a nx].length c38, (.slice A39 (high ++ [max a nx]).length c39)) _ HM.out)
    clear hHeld HM HS HS'
    generalize wa = wa_
    intro s_ wb hmid
    obtain ⟨s1, s2, s3, s4⟩ := s_
    simp only at hmid
    have HM := Aside0.mk hmid
    clear hmid
    obtain ⟨Aq, cq, rfl⟩ := Kd.R_slice HM.out.rl
    obtain ⟨Ar, cr', rfl⟩ := Kd.R_slice HM.out.rh
    refine norm_ (a' := ?_) ?_ ?_
    rotate_left
    ·simp only [putAll, Act.put, List.setIfInBounds_toArray, List.set_cons_zero, List.set_cons_succ]
     rfl
    have hc0 := HM.out.read.1
    have hf0 := blk_frozen HM.out.bk 0
    refine la 15 none HT_ (fun K hK => ?_)
    refine sk (w1 := wb.setCell ⟨gc, 0, none⟩ (.slice Aq (low ++ [min a nx]).length cq)) (hrun := by first | (go_simp; done) | (go_simp; rfl)) ?_
    refine hK.out _ _ ?_
    clear hK K hc0 hf0
    replace HM := Aside0.mk ((HM.out.set 0 (.slice Aq (low ++ [min a nx]).length cq)).2 _ _ _ _ rfl)
    generalize wb.setCell ⟨gc, 0, none⟩ (.slice Aq (low ++ [min a nx]).length cq) = wc at HM ⊢
    refine pr 16 41 HT_ ?_
    have hc1 := HM.out.read.2.1
    have hf1 := blk_frozen HM.out.bk 1
    refine la 17 none HT_ (fun K hK => ?_)
    refine sk (w1 := wc.setCell ⟨gc, 1, none⟩ (.slice Ar (high ++ [max a nx]).length cr')) (hrun := by first | (go_simp; done) | (go_simp; rfl)) ?_
    refine hK.out _ _ ?_
    clear hK K hc1 hf1
    replace HM := Aside0.mk ((HM.out.set 1 (.slice Ar (high ++ [max a nx]).length cr')).2 _ _ _ _ rfl)
    generalize wc.setCell ⟨gc, 1, none⟩ (.slice Ar (high ++ [max a nx]).length cr') = wd at HM ⊢
    refine dn HT_ ?_
    by_cases hk0 : 0 < k
    ·have hc2 := HM.out.read.2.2.1
     go_wp2_with ((with_reducible refine gate_builtin (b := .append) (xs := #[.tmp 45, .tmp 54]) rfl ?_); at_builtin; refine Kd.R_append k96 (w0 := w) w.heap.size rfl (.tmp 45) (.tmp 54) 74 96 (.agg #[.int .i64 0, .int .i64 0, .int .i64 0, .bool false]) 32 rfl Try.underlying74 info96 rfl (by decide) (by omega) (.slice Ac cr.length cc) cr ⟨wrap64 ((k : Int) - 1), (k : Int), a, false⟩ [.int .i64 (wrap64 ((k : Int) - 1)), .int .i64 (k : Int), .int .i64 a, .bool false] (fun k => k ≠ gc ∧ k ≠ g4) (fun _ => False) rfl rfl (k96_mkM _ _ _ _) (fun _ h => h.elim) HM.out.ok HM.out.rc HM.out.hb HM.out.hb.size ?aL ?_; (case aL => have := HLN.out.2.2; have := HN.out; omega); intro v14 w14 ho14 hb14 hg14 hat14; have HM2 := Aside0.mk (HM.out.putCr ho14 hb14 hg14); clear hc2; have hc2 := HM2.out.read.2.2.1; have hf2 := blk_frozen HM2.out.bk 2; obtain ⟨A14, c14, rfl⟩ := Kd.R_slice ho14; clear ho14 hb14 hg14 hat14)
     have hnx : layR sizes (k + 1) = ⟨nx, low ++ [min a nx], high ++ [max a nx], cr ++ [⟨wrap64 ((k : Int) - 1), (k : Int), a, false⟩]⟩ := by
      rw [layR, HRK.out, HST.out]
      unfold layStep
      simp only [HNX.out]
      rw [if_pos hk0, hp]
      try rw [show ((1 : Int) == 1) = true from rfl]
      try rw [show (p == 1) = false from by simpa using hp1]
     refine ⟨⟨k + 1, (.slice Aq (low ++ [min a nx]).length cq), (.slice Ar (high ++ [max a nx]).length cr'), (.slice A14 (cr ++ [(⟨wrap64 ((k : Int) - 1), (k : Int), a, false⟩ : S96)]).length c14), ?_, up2 (by have := HN.out; omega) hkn, by omega, ?_⟩, up2m (by have := HN.out; omega) hkn⟩
     ·rw [hnx]
     ·rw [hnx]
      exact ⟨(HM2.out.set 2 _).2 _ _ _ _ (by simp)⟩
    ·go_wp2
     have hnx : layR sizes (k + 1) = ⟨nx, low ++ [min a nx], high ++ [max a nx], cr⟩ := by
      rw [layR, HRK.out, HST.out]
      unfold layStep
      simp only [HNX.out]
      rw [if_neg hk0]
     refine ⟨⟨k + 1, (.slice Aq (low ++ [min a nx]).length cq), (.slice Ar (high ++ [max a nx]).length cr'), (.slice Ac cr.length cc), ?_, (by first | exact up2 (by have := HN.out; omega) hkn | rfl), by omega, ?_⟩, (by first | exact up2m (by have := HN.out; omega) hkn | (simp only [intOf]; omega))⟩
     ·rw [hnx]
     ·rw [hnx]
      exact HM
  ·obtain rfl : k = sizes.length := by omega
   obtain ⟨A1, c1, rfl⟩ := Kd.R_slice HM.out.rl
   obtain ⟨A2, c2, rfl⟩ := Kd.R_slice HM.out.rh
   obtain ⟨A3, c3, rfl⟩ := Kd.R_slice HM.out.rc
   obtain ⟨f0, f1, f2, f3⟩ := HM.out.read
   have f4 := (heap_cells HM.out.b4 0 (by simp)).1
   have f5 := (heap_cells HM.out.b4 1 (by simp)).1
   have f6 := (heap_cells HM.out.b4 2 (by simp)).1
   have f7 := (heap_cells HM.out.b4 3 (by simp)).1
   have f8 := blk_frozen HM.out.b4
   go_wp2
   have hset : ((((wr.setCell ⟨g4, 0, none⟩ (.slice A1 (layR sizes sizes.length).low.length c1)).setCell ⟨g4, 1, none⟩ (.slice A2 (layR sizes sizes.length).high.length c2)).setCell ⟨g4, 2, none⟩ (.slice A3 (layR sizes sizes.length).cr.length c3)).setCell ⟨g4, 3, none⟩ (.bool false)).heap[g4]? = some (.cells #[.slice A1 (layR sizes sizes.length).low.length c1, .slice A2 (layR sizes sizes.length).high.length c2, .slice A3 (layR sizes sizes.length).cr.length c3, .bool false] 76 (0, 0)) := by
    have := blk_set (blk_set (blk_set (blk_set HM.out.b4 0 (.slice A1 (layR sizes sizes.length).low.length c1)) 1 (.slice A2 (layR sizes sizes.length).high.length c2)) 2 (.slice A3 (layR sizes sizes.length).cr.length c3)) 3 (.bool false)
    simpa using this
   refine bodyPost_ret (results_cell_row rfl _ _ g4 76 _ (0, 0) _ rfl hset rfl rfl (by kernel_rfl)) rfl ?_
   refine ⟨_, _, _, rfl, ?_, ?_, ?_, ?_⟩
   ·exact Kd.R_mono (Kd.R_far (Kd.R_far (Kd.R_far (Kd.R_far HM.out.rl (p := ⟨g4, 0, none⟩) (fun k hk => hk.1.2) _) (p := ⟨g4, 1, none⟩) (fun k hk => hk.1.2) _) (p := ⟨g4, 2, none⟩) (fun k hk => hk.1.2) _) (p := ⟨g4, 3, none⟩) (fun k hk => hk.1.2) _) (fun _ _ => trivial)
   ·exact Kd.R_mono (Kd.R_far (Kd.R_far (Kd.R_far (Kd.R_far HM.out.rh (p := ⟨g4, 0, none⟩) (fun k hk => hk.1.2) _) (p := ⟨g4, 1, none⟩) (fun k hk => hk.1.2) _) (p := ⟨g4, 2, none⟩) (fun k hk => hk.1.2) _) (p := ⟨g4, 3, none⟩) (fun k hk => hk.1.2) _) (fun _ _ => trivial)
   ·exact Kd.R_mono (Kd.R_far (Kd.R_far (Kd.R_far (Kd.R_far HM.out.rc (p := ⟨g4, 0, none⟩) (fun k hk => hk.2) _) (p := ⟨g4, 1, none⟩) (fun k hk => hk.2) _) (p := ⟨g4, 2, none⟩) (fun k hk => hk.2) _) (p := ⟨g4, 3, none⟩) (fun k hk => hk.2) _) (fun _ _ => trivial)
   ·exact below_set (below_set (below_set (below_set HM.out.hb HM.out.h4) HM.out.h4) HM.out.h4) HM.out.h4
end Go.Proofs.Ytiknnpfdpecfdaa.Own
