/- The declarations of Lxx32 that the claim Qn needs. -/
import Derived.Test.YtdldfdcedjmneaaQnTkP
import Derived.Test.YtdldfdcedjmneaaQnLxx8
import Derived.Test.YtdldfdcedjmneaaQnLxx31
namespace Go.Proofs.Ytdldfdcedjmneaa.Lx
open Go.RowKit Go.Proofs.Ytdldfdcedjmneaa.Own Go.Proofs.YtdldfdcedjmneaaW.PrintWords Go.Proofs.YtdldfdcedjmneaaW.PrintLast Go.Proofs.YtdldfdcedjmneaaW.PrintMore
attribute [local go_sem] max2_int min2_int max_two min_two max_three min_three max_four min_four
set_option linter.unusedVariables false
set_option linter.unusedSimpArgs false
def gamplaw05_StrapNormals.T6 : Bool × List (List Nat × List Nat) := (true, [([], []), ([], []), ([], []), ([1, 2], [1, 2]), ([0, 3, 3], [0, 3]), ([4, 4], [4]), ([5], [5]), ([6, 5], [5, 6]), ([5, 7], [5, 7]), ([8, 5], [8]), ([9, 9], [9]), ([9, 10], [9, 10]), ([11, 10, 0, 1, 2, 3, 4, 5, 6, 7, 8, 9, 10, 11], [11])])
def gamplaw05_StrapNormals.B6 : List Nat := [0, 0, 0, 6, 15, 31, 63, 127, 255, 511, 1023, 2047, 4095]
theorem gamplaw05_StrapNormals.tab6 : rtab .any (opsOf Try.f3 6) = gamplaw05_StrapNormals.T6 := by kernel_rfl
theorem gamplaw05_StrapNormals.bits6 : waitsOk gamplaw05_StrapNormals.T6.2 gamplaw05_StrapNormals.B6 = true := by kernel_rfl
set_option maxHeartbeats 8000000 in
set_option maxRecDepth 100000 in
theorem gamplaw05_StrapNormals.calls (k : Nat) (a0 : Int) (A1 : Option Addr) (c1 : Nat) (l1 : List Int) (r : Bool) (w : World) (hr1 : Kd.C (Kd.int .i64) w A1 l1.length l1) (hc1 : l1.length ≤ c1) (h : gamplaw05_StrapNormals.f k a0 l1 = some r) (hrt : r = true) :
  Calls Try.prog 3 #[.int .i64 a0, .slice A1 l1.length c1] w fun e w' => e = .returned (.bool r) ∧ Below w.heap.size w w' := by
 have hu26 := Try.underlying26
 have HR1 := Aside0.mk hr1
 have HC1 := Aside0.mk hc1
 clear hr1 hc1
 have HB := Aside0.mk (Below.refl w.heap.size w)
 have H : ((gamplaw05_cut.f l1 24).bind fun t292 => ((strap_Normal.f a0 t292).bind fun bt295 => ((gampref05_Check.f k a0 t292 60).bind fun t301 => (if t301 = 0 then ((gampref05_Normal.f k a0 t292).bind fun bt302 => ((gampref05_SameBraid.f k bt295.1 bt295.2.1 bt302.1 bt302.2).bind fun t306 => (if t306 = true then (if bt295.2.2 = 0 then ((gamplaw05_lives.f k).bind fun t307 => (some t307)) else (some false)) else (some false)))) else ((gamplaw05_empty.f bt295.1 bt295.2.1).bind fun t308 => (if t308 = true then (if bt295.2.2 = t301 then ((gamplaw05_lives.f k).bind fun t309 => (some t309)) else (some false)) else (some false))))))) = some r := h
 clear h
 replace H := Option.bind_eq_some_iff.mp H
 obtain ⟨t292, A30, H⟩ := H
 replace H : ((strap_Normal.f a0 t292).bind fun bt295 => ((gampref05_Check.f k a0 t292 60).bind fun t301 => (if t301 = 0 then ((gampref05_Normal.f k a0 t292).bind fun bt302 => ((gampref05_SameBraid.f k bt295.1 bt295.2.1 bt302.1 bt302.2).bind fun t306 => (if t306 = true then (if bt295.2.2 = 0 then ((gamplaw05_lives.f k).bind fun t307 => (some t307)) else (some false)) else (some false)))) else ((gamplaw05_empty.f bt295.1 bt295.2.1).bind fun t308 => (if t308 = true then (if bt295.2.2 = t301 then ((gamplaw05_lives.f k).bind fun t309 => (some t309)) else (some false)) else (some false)))))) = some r := H
 have A3 := Aside0.mk A30
 clear A30
 replace H := Option.bind_eq_some_iff.mp H
 obtain ⟨⟨t295, t296, t299⟩, A40, H⟩ := H
 replace H : ((gampref05_Check.f k a0 t292 60).bind fun t301 => (if t301 = 0 then ((gampref05_Normal.f k a0 t292).bind fun bt302 => ((gampref05_SameBraid.f k t295 t296 bt302.1 bt302.2).bind fun t306 => (if t306 = true then (if t299 = 0 then ((gamplaw05_lives.f k).bind fun t307 => (some t307)) else (some false)) else (some false)))) else ((gamplaw05_empty.f t295 t296).bind fun t308 => (if t308 = true then (if t299 = t301 then ((gamplaw05_lives.f k).bind fun t309 => (some t309)) else (some false)) else (some false))))) = some r := H
 have A4 := Aside0.mk A40
 clear A40
 replace H := Option.bind_eq_some_iff.mp H
 obtain ⟨t301, A50, H⟩ := H
 replace H : (if t301 = 0 then ((gampref05_Normal.f k a0 t292).bind fun bt302 => ((gampref05_SameBraid.f k t295 t296 bt302.1 bt302.2).bind fun t306 => (if t306 = true then (if t299 = 0 then ((gamplaw05_lives.f k).bind fun t307 => (some t307)) else (some false)) else (some false)))) else ((gamplaw05_empty.f t295 t296).bind fun t308 => (if t308 = true then (if t299 = t301 then ((gamplaw05_lives.f k).bind fun t309 => (some t309)) else (some false)) else (some false)))) = some r := H
 have A5 := Aside0.mk A50
 clear A50
 by_cases c6 : t301 = 0
 ·rw [if_pos c6] at H
  have c6b0 : (t301 == 0) = true := beq_iff_eq.mpr c6
  have c6b1 : (t301 != 0) = false := bne_eq_false_iff_eq.mpr c6
  clear c6
  replace H := Option.bind_eq_some_iff.mp H
  obtain ⟨⟨t302, t303⟩, A70, H⟩ := H
  replace H : ((gampref05_SameBraid.f k t295 t296 t302 t303).bind fun t306 => (if t306 = true then (if t299 = 0 then ((gamplaw05_lives.f k).bind fun t307 => (some t307)) else (some false)) else (some false))) = some r := H
  have A7 := Aside0.mk A70
  clear A70
  replace H := Option.bind_eq_some_iff.mp H
  obtain ⟨t306, A80, H⟩ := H
  replace H : (if t306 = true then (if t299 = 0 then ((gamplaw05_lives.f k).bind fun t307 => (some t307)) else (some false)) else (some false)) = some r := H
  have A8 := Aside0.mk A80
  clear A80
  by_cases c9 : t306 = true
  ·subst c9
   have H1 : (if t299 = 0 then ((gamplaw05_lives.f k).bind fun t307 => (some t307)) else (some false)) = some r := by rw [if_pos rfl] at H; exact H
   clear H
   have H := H1
   clear H1
   by_cases c10 : t299 = 0
   ·rw [if_pos c10] at H
    have c10b0 : (t299 == 0) = true := beq_iff_eq.mpr c10
    have c10b1 : (t299 != 0) = false := bne_eq_false_iff_eq.mpr c10
    clear c10
    replace H := Option.bind_eq_some_iff.mp H
    obtain ⟨t307, A110, H⟩ := H
    replace H : (some t307) = some r := H
    have A11 := Aside0.mk A110
    clear A110
    obtain rfl := Option.some.inj H
    go_enter Try.func3, Try.ntmps3
    try go_wp2_with (first | ((with_reducible refine gate_callee (f := 16) rfl ?_); refine gL 10 Try.func16 #[.slice A1 l1.length c1, .int .i64 24] ?_; (with_reducible refine (gamplaw05_cut.calls _ _ l1 24 t292 _ ?side1 ?side2 A3.out).mono ?_); (case side1 => exact cl (HR1.out)); (case side2 => exact HC1.out); rintro e w12 ⟨v293, rfl, ho0, hb⟩; refine ⟨_, rfl, ?_⟩; have n0_ := Aside0.mk (Kd.R_lower ho0 (below_size (bl HB))); have n1_ := Aside0.mk (below_step (bl HB) hb); clear HB; have HO294 := n0_; have HB := n1_; clear n0_ n1_; (try clear hb); (try clear hb2); (try clear hk); (try clear hi); (try clear ho0); obtain ⟨Ao13, co13, eo13⟩ := Kd.R_slice HO294.out; subst eo13) | ((with_reducible refine gate_callee (f := 17) rfl ?_); refine gL 14 Try.func17 #[.int .i64 a0, .slice Ao13 t292.length co13] ?_; (with_reducible refine (strap_Normal.calls a0 _ _ t292 t295 t296 t299 _ ?side1 ?side2 A4.out).mono ?_); (case side1 => exact cl ((Kd.R_reads' HO294.out).2.2)); (case side2 => exact (Kd.R_reads' HO294.out).2.1); rintro e w14 ⟨v297, rfl, ho0, hb⟩; refine ⟨_, rfl, ?_⟩; have n0_ := Aside0.mk (Kd.R_below (rl HO294) hb); have n1_ := Aside0.mk (Kd.N_lower (Kd.N_mono (ok' := fun k_ => some k_ ≠ (.slice Ao13 t292.length co13 : Value).ownBlock) (Kd.S_N (Kd.S_bound ho0)) (fun k_ hk_ => (Kd.fresh' (Kd.R_lt (rl HO294)) k_ hk_.2.1))) (below_size (bl HB))); have n2_ := Aside0.mk (below_step (bl HB) hb); clear HO294; clear HB; have HO294 := n0_; have HO298 := n1_; have HB := n2_; clear n0_ n1_ n2_; (try clear hb); (try clear hb2); (try clear hk); (try clear hi); (try clear ho0)) | ((with_reducible refine gate_dst (N := 6) rfl ?_); refine box_event ?hg (N := 6) ?hd (cs := #[.int .i64 0, .slice none 0 0]) (t := 26) ?hr ?_; (case hd => rfl); (case hg => rfl); (case hr => first | (go_simp; done) | (go_simp; rfl)); intro gb300 hg w15 hbox hb; have n0_ := Aside0.mk (Kd.R_below (rl HO294) hb); have n1_ := Aside0.mk (Kd.N_below (Kd.N_elderB (nl HO298) gb300 (Nat.le_of_eq hg.symm)) hb); have n2_ := Aside0.mk (below_step (bl HB) hb); have n3_ := Aside0.mk (hbox); have n4_ := Aside0.mk ((by rw [hg]; exact (below_size (bl HB)) : w.heap.size ≤ gb300)); have n5_ := Aside0.mk ((by rw [hg]; exact (below_size (bl HB)) : w.heap.size ≤ gb300)); clear HO294; clear HO298; clear HB; have HO294 := n0_; have HO298 := n1_; have HB := n2_; have BK300 := n3_; have GW300 := n4_; have GE300 := n5_; clear n0_ n1_ n2_ n3_ n4_ n5_; clear hb hbox hg; have hcz16_0 : w15.cell? ⟨gb300, 0, none⟩ = some (.int .i64 0) := (blk_cell BK300.out 0).trans rfl; have hcz16_1 : w15.cell? ⟨gb300, 1, none⟩ = some (.slice none 0 0) := (blk_cell BK300.out 1).trans rfl; have hfz16_0 := blk_frozen BK300.out 0; have hfz16_1 := blk_frozen BK300.out 1; obtain ⟨Ao17, co17, eo17⟩ := Kd.N_slice HO298.out; subst eo17) | ((with_reducible refine gate_callee (f := 18) rfl ?_); refine gL 19 Try.func18 #[.int .i64 a0, .slice Ao13 t292.length co13, .int .i64 60] ?_; (with_reducible refine (gampref05_Check.calls k a0 _ _ t292 60 t301 _ ?side1 ?side2 A5.out).mono ?_); (case side1 => refine (Kd.R_reads' (e := 3) (base := w.heap.size) (ok := fun k_ => True) (n := t292.length) (c := co13) ?_).2.2; exact (by (with_reducible repeat (first | apply Kd.R_alloc | apply Kd.R_drewN | apply Kd.R_drew)); exact (Kd.R_mono (Kd.R_far (p := ⟨gb300, 1, none⟩) (Kd.R_far (p := ⟨gb300, 0, none⟩) (Kd.R_types HO294.out BK300.out (by decide)) (fun _ hk => hk.2) (.int .i64 t295)) (fun _ hk => hk.2) (.slice Ao17 t296.length co17)) (fun _ h_ => h_.1)))); (case side2 => exact (Kd.R_reads' HO294.out).2.1); rintro e w' ⟨rfl, ⟨nd, rfl⟩⟩; refine ⟨_, rfl, ?_⟩))
    have n0_ : Aside0 (Kd.R (Kd.int .i64) 3 ((w15.setCell ⟨gb300, 0, none⟩ (.int .i64 t295)).setCell ⟨gb300, 1, none⟩ (.slice Ao17 t296.length co17)) w.heap.size (fun _ => True) (.slice Ao13 t292.length co13) t292) := ⟨by (with_reducible repeat (first | apply Kd.R_alloc | apply Kd.R_drewN | apply Kd.R_drew)); exact Kd.R_mono (Kd.R_far (p := ⟨gb300, 1, none⟩) (Kd.R_far (p := ⟨gb300, 0, none⟩) (Kd.R_types HO294.out BK300.out (by decide)) (fun _ hk => hk.2) (.int .i64 t295)) (fun _ hk => hk.2) (.slice Ao17 t296.length co17)) (fun _ hk => trivial)⟩
    have n1_ : Aside0 (Kd.N (Kd.slice 3 (Kd.int .i64)) 22 ((w15.setCell ⟨gb300, 0, none⟩ (.int .i64 t295)).setCell ⟨gb300, 1, none⟩ (.slice Ao17 t296.length co17)) w.heap.size (fun k_ => some k_ ≠ (.slice Ao13 t292.length co13 : Value).ownBlock ∧ k_ ≠ gb300) (.slice Ao17 t296.length co17) t296) := ⟨by (with_reducible repeat (first | apply Kd.N_alloc | apply Kd.N_drewN | apply Kd.N_drew)); exact Kd.N_mono (Kd.N_far (p := ⟨gb300, 1, none⟩) (Kd.N_far (p := ⟨gb300, 0, none⟩) (Kd.N_mono HO298.out (fun k_ hk => (⟨hk, hk.2⟩ : _ ∧ k_ ≠ gb300))) (fun _ hk => hk.2) (.int .i64 t295)) (fun _ hk => hk.2) (.slice Ao17 t296.length co17)) (fun _ hk => ⟨hk.1.1, hk.1.2⟩)⟩
    have n2_ : Aside0 (((w15.setCell ⟨gb300, 0, none⟩ (.int .i64 t295)).setCell ⟨gb300, 1, none⟩ (.slice Ao17 t296.length co17)).heap[gb300]? = some (.cells #[.int .i64 t295, .slice Ao17 t296.length co17] 26 (0, 0))) := ⟨by (with_reducible repeat (first | refine blk_drewN ?_ _ | refine blk_drew ?_ | refine blk_alloc ?_ _)); refine blk_put (cs := #[.int .i64 t295, .slice none 0 0]) ?_ 1 _ rfl; (with_reducible repeat (first | refine blk_drewN ?_ _ | refine blk_drew ?_ | refine blk_alloc ?_ _)); refine blk_put (cs := #[.int .i64 0, .slice none 0 0]) ?_ 0 _ rfl; (with_reducible repeat (first | refine blk_drewN ?_ _ | refine blk_drew ?_ | refine blk_alloc ?_ _)); exact BK300.out⟩
    have n3_ : Aside0 (Below w.heap.size w ((w15.setCell ⟨gb300, 0, none⟩ (.int .i64 t295)).setCell ⟨gb300, 1, none⟩ (.slice Ao17 t296.length co17))) := ⟨bl HB⟩
    (try clear HO294)
    (try clear HO298)
    (try clear BK300)
    (try clear HB)
    generalize ((w15.setCell ⟨gb300, 0, none⟩ (.int .i64 t295)).setCell ⟨gb300, 1, none⟩ (.slice Ao17 t296.length co17)) = w18 at n0_ n1_ n2_ n3_ ⊢
    have HO294 := n0_; have HO298 := n1_; have BK300 := n2_; have HB := n3_
    clear n0_ n1_ n2_ n3_
    (try (rw [drewN_self w18]; generalize hq_ : World.drewN w18 _ = w18; have n0_ : Aside0 (Kd.R (Kd.int .i64) 3 w18 w.heap.size (fun _ => True) (.slice Ao13 t292.length co13) t292) := ⟨by rw [← hq_]; exact (rl HO294)⟩; have n1_ : Aside0 (Kd.N (Kd.slice 3 (Kd.int .i64)) 22 w18 w.heap.size (fun k_ => some k_ ≠ (.slice Ao13 t292.length co13 : Value).ownBlock ∧ k_ ≠ gb300) (.slice Ao17 t296.length co17) t296) := ⟨by rw [← hq_]; exact (nl HO298)⟩; have n2_ : Aside0 (w18.heap[gb300]? = some (.cells #[.int .i64 t295, .slice Ao17 t296.length co17] 26 (0, 0))) := ⟨by rw [← hq_]; exact (bk BK300)⟩; have n3_ : Aside0 (Below w.heap.size w w18) := ⟨by rw [← hq_]; exact (bl HB)⟩; clear HO294 HO298 BK300 HB hq_; have HO294 := n0_; have HO298 := n1_; have BK300 := n2_; have HB := n3_; clear n0_ n1_ n2_ n3_))
    have n0_ := Aside0.mk (Kd.R_drew HO294.out)
    have n1_ := Aside0.mk (Kd.N_drew HO298.out)
    have n2_ := Aside0.mk (blk_drew BK300.out)
    have n3_ := Aside0.mk (below_drew1 HB.out)
    clear HO294 HO298 BK300 HB
    have HO294 := n0_; have HO298 := n1_; have BK300 := n2_; have HB := n3_
    clear n0_ n1_ n2_ n3_
    refine start_ (n := 13) (S := fun w' => w'.cell? ⟨gb300, 0, none⟩ = some (.int .i64 t295) ∧ w'.cell? ⟨gb300, 1, none⟩ = some (.slice Ao17 t296.length co17)) (ds := []) #[false, false, false, false, false, false, false, false, false, false, false, false, false] (by kernel_rfl) rfl rfl ⟨(blk_cell BK300.out 0).trans rfl, (blk_cell BK300.out 1).trans rfl⟩ (fun hHeld => ?_); refine with_tabW gamplaw05_StrapNormals.tab6 gamplaw05_StrapNormals.bits6 (fun HT_ HW_ => ?_)
    generalize w18.drew = w19 at HO294 HO298 BK300 HB hHeld ⊢
    refine pr 1 33 HT_ ?_
    refine pr 2 34 HT_ ?_
    refine tr 0 32 HT_ HW_ hHeld ?_
    refine on 3 (some 35) HT_ (fun K hK => ?_)
    refine gS Try.func22 #[.int .i64 a0, .slice Ao13 t292.length co13] ?_
    with_reducible refine (gampref05_Normal.calls k a0 _ _ t292 t302 t303 _ ?side1 ?side2 A7.out).mono ?_
    (case side1 => exact cl ((Kd.R_reads' HO294.out).2.2))
    (case side2 => exact (Kd.R_reads' HO294.out).2.1)
    rintro e w20 ⟨v304, rfl, ho0, hb⟩
    refine ⟨_, rfl, ?_⟩
    have n0_ := Aside0.mk (Kd.R_below (rl HO294) hb)
    have n1_ := Aside0.mk (Kd.N_elder' (nl HO298) (by first | exact Kd.N_base ho0 | exact Kd.S_base ho0 | exact Kd.R_base ho0) hb)
    have n2_ := Aside0.mk (Kd.N_lower (Kd.N_mono (ok' := fun k_ => some k_ ≠ (.slice Ao13 t292.length co13 : Value).ownBlock ∧ some k_ ≠ (.slice Ao17 t296.length co17 : Value).ownBlock ∧ k_ ≠ gb300) ho0 (fun k_ hk_ => ⟨(Kd.fresh' (Kd.R_lt (rl HO294)) k_ hk_), (Kd.fresh' (Kd.N_lt (nl HO298)) k_ hk_), (Kd.freshB (g := gb300) (o := .cells #[.int .i64 t295, .slice Ao17 t296.length co17] 26 (0, 0)) (bk BK300) k_ hk_)⟩)) (below_size (bl HB)))
    have n3_ := Aside0.mk (blk_below (g := gb300) (o := .cells #[.int .i64 t295, .slice Ao17 t296.length co17] 26 (0, 0)) (bk BK300) hb)
    have n4_ := Aside0.mk (below_step (bl HB) hb)
    clear HO294 HO298 BK300 HB
    have HO294 := n0_; have HO298 := n1_; have HO305 := n2_; have BK300 := n3_; have HB := n4_
    clear n0_ n1_ n2_ n3_ n4_
    (try clear hb)
    (try clear hb2)
    (try clear hk)
    (try clear hi)
    (try clear ho0)
    obtain ⟨Ao21, co21, eo21⟩ := Kd.N_slice HO305.out
    (first | subst eo21 | (injection eo21 with f1_ f2_ f3_; have f4_ := f1_.symm; have f5_ := f3_.symm; clear f1_ f2_ f3_; subst f4_; subst f5_))
    refine hK.out _ _ ⟨(blk_cell BK300.out 0).trans rfl, (blk_cell BK300.out 1).trans rfl⟩ (fun hHeld => ?_)
    clear hK K
    refine nr (some 35) ?_
    refine on 4 (some 36) HT_ (fun K hK => ?_)
    refine gS Try.func21 #[.agg #[.int .i64 t295, .slice Ao17 t296.length co17], .agg #[.int .i64 t302, .slice Ao21 t303.length co21]] ?_
    with_reducible refine (gampref05_SameBraid.calls k t295 _ _ t296 t302 _ _ t303 true _ ?side1 ?side2 ?side3 ?side4 A8.out).mono ?_
    (case side1 => exact cl ((Kd.N_reads' HO298.out).2.2))
    (case side2 => exact (Kd.N_reads' HO298.out).2.1)
    (case side3 => exact cl ((Kd.N_reads' HO305.out).2.2))
    (case side4 => exact (Kd.N_reads' HO305.out).2.1)
    rintro e w22 ⟨rfl, hb⟩
    refine ⟨_, rfl, ?_⟩
    have n0_ := Aside0.mk (Kd.R_below (rl HO294) hb)
    have n1_ := Aside0.mk (Kd.N_below (nl HO298) hb)
    have n2_ := Aside0.mk (Kd.N_below (nl HO305) hb)
    have n3_ := Aside0.mk (blk_below (g := gb300) (o := .cells #[.int .i64 t295, .slice Ao17 t296.length co17] 26 (0, 0)) (bk BK300) hb)
    have n4_ := Aside0.mk (below_step (bl HB) hb)
    clear HO294 HO298 HO305 BK300 HB
    have HO294 := n0_; have HO298 := n1_; have HO305 := n2_; have BK300 := n3_; have HB := n4_
    clear n0_ n1_ n2_ n3_ n4_
    (try clear hb)
    (try clear hb2)
    (try clear hk)
    (try clear hi)
    refine hK.out _ _ ⟨(blk_cell BK300.out 0).trans rfl, (blk_cell BK300.out 1).trans rfl⟩ (fun hHeld => ?_)
    clear hK K
    refine nr (some 36) ?_
    refine pr 5 37 HT_ ?_
    refine pr 6 38 HT_ ?_
    refine pr 7 39 HT_ ?_
    refine pr 8 40 HT_ ?_
    refine pr 9 41 HT_ ?_
    refine on 10 (some 42) HT_ (fun K hK => ?_)
    refine gS Try.func20 #[] ?_
    with_reducible refine (gamplaw05_lives.calls k  t307 _ A11.out).mono ?_
    rintro e w23 ⟨rfl, hb⟩
    refine ⟨_, rfl, ?_⟩
    have n0_ := Aside0.mk (Kd.R_below (rl HO294) hb)
    have n1_ := Aside0.mk (Kd.N_below (nl HO298) hb)
    have n2_ := Aside0.mk (Kd.N_below (nl HO305) hb)
    have n3_ := Aside0.mk (blk_below (g := gb300) (o := .cells #[.int .i64 t295, .slice Ao17 t296.length co17] 26 (0, 0)) (bk BK300) hb)
    have n4_ := Aside0.mk (below_step (bl HB) hb)
    clear HO294 HO298 HO305 BK300 HB
    have HO294 := n0_; have HO298 := n1_; have HO305 := n2_; have BK300 := n3_; have HB := n4_
    clear n0_ n1_ n2_ n3_ n4_
    (try clear hb)
    (try clear hb2)
    (try clear hk)
    (try clear hi)
    refine hK.out _ _ ⟨(blk_cell BK300.out 0).trans rfl, (blk_cell BK300.out 1).trans rfl⟩ (fun hHeld => ?_)
    clear hK K
    refine nr (some 42) ?_
    refine pr 11 43 HT_ ?_
    refine pr 12 4 HT_ ?_
    refine dn HT_ ?_
    try go_wp2
    go_ret
    exact ⟨by first | rfl | (simp [errW_none, errW_some] <;> rfl) | (simp [*, errW_none, errW_some] <;> rfl), by repeat (first | (with_reducible first | exact HB.out | apply below_alloc | apply pw_below_drewN | apply below_drew1 | refine below_set ?_ GE300.out) | exact HB.out)⟩
   ·rw [if_neg c10] at H
    have c10b0 : (t299 == 0) = false := beq_eq_false_iff_ne.mpr c10
    have c10b1 : (t299 != 0) = true := bne_iff_ne.mpr c10
    rw [hrt] at H
    cases H
  ·replace c9 := Bool.eq_false_iff.mpr c9
   subst c9
   have H1 : (some false) = some r := by rw [if_neg (show ¬ (false = true) by decide)] at H; exact H
   clear H
   have H := H1
   clear H1
   rw [hrt] at H
   cases H
 ·rw [if_neg c6] at H
  have c6b0 : (t301 == 0) = false := beq_eq_false_iff_ne.mpr c6
  have c6b1 : (t301 != 0) = true := bne_iff_ne.mpr c6
  replace H := Option.bind_eq_some_iff.mp H
  obtain ⟨t308, A460, H⟩ := H
  replace H : (if t308 = true then (if t299 = t301 then ((gamplaw05_lives.f k).bind fun t309 => (some t309)) else (some false)) else (some false)) = some r := H
  have A46 := Aside0.mk A460
  clear A460
  by_cases c47 : t308 = true
  ·subst c47
   have H1 : (if t299 = t301 then ((gamplaw05_lives.f k).bind fun t309 => (some t309)) else (some false)) = some r := by rw [if_pos rfl] at H; exact H
   clear H
   have H := H1
   clear H1
   by_cases c48 : t299 = t301
   ·rw [if_pos c48] at H
    have c48b0 : (t299 == t301) = true := beq_iff_eq.mpr c48
    have c48b1 : (t299 != t301) = false := bne_eq_false_iff_eq.mpr c48
    clear c48
    replace H := Option.bind_eq_some_iff.mp H
    obtain ⟨t309, A490, H⟩ := H
    replace H : (some t309) = some r := H
    have A49 := Aside0.mk A490
    clear A490
    obtain rfl := Option.some.inj H
    go_enter Try.func3, Try.ntmps3
    go_wp2_with (first | ((with_reducible refine gate_callee (f := 16) rfl ?_); refine gL 10 Try.func16 #[.slice A1 l1.length c1, .int .i64 24] ?_; (with_reducible refine (gamplaw05_cut.calls _ _ l1 24 t292 _ ?side1 ?side2 A3.out).mono ?_); (case side1 => exact cl (HR1.out)); (case side2 => exact HC1.out); rintro e w50 ⟨v293, rfl, ho0, hb⟩; refine ⟨_, rfl, ?_⟩; have n0_ := Aside0.mk (Kd.R_lower ho0 (below_size (bl HB))); have n1_ := Aside0.mk (below_step (bl HB) hb); clear HB; have HO294 := n0_; have HB := n1_; clear n0_ n1_; (try clear hb); (try clear hb2); (try clear hk); (try clear hi); (try clear ho0); obtain ⟨Ao51, co51, eo51⟩ := Kd.R_slice HO294.out; subst eo51) | ((with_reducible refine gate_callee (f := 17) rfl ?_); refine gL 14 Try.func17 #[.int .i64 a0, .slice Ao51 t292.length co51] ?_; (with_reducible refine (strap_Normal.calls a0 _ _ t292 t295 t296 t299 _ ?side1 ?side2 A4.out).mono ?_); (case side1 => exact cl ((Kd.R_reads' HO294.out).2.2)); (case side2 => exact (Kd.R_reads' HO294.out).2.1); rintro e w52 ⟨v297, rfl, ho0, hb⟩; refine ⟨_, rfl, ?_⟩; have n0_ := Aside0.mk (Kd.R_below (rl HO294) hb); have n1_ := Aside0.mk (Kd.N_lower (Kd.N_mono (ok' := fun k_ => some k_ ≠ (.slice Ao51 t292.length co51 : Value).ownBlock) (Kd.S_N (Kd.S_bound ho0)) (fun k_ hk_ => (Kd.fresh' (Kd.R_lt (rl HO294)) k_ hk_.2.1))) (below_size (bl HB))); have n2_ := Aside0.mk (below_step (bl HB) hb); clear HO294; clear HB; have HO294 := n0_; have HO298 := n1_; have HB := n2_; clear n0_ n1_ n2_; (try clear hb); (try clear hb2); (try clear hk); (try clear hi); (try clear ho0)) | ((with_reducible refine gate_dst (N := 6) rfl ?_); refine box_event ?hg (N := 6) ?hd (cs := #[.int .i64 0, .slice none 0 0]) (t := 26) ?hr ?_; (case hd => rfl); (case hg => rfl); (case hr => first | (go_simp; done) | (go_simp; rfl)); intro gb300 hg w53 hbox hb; have n0_ := Aside0.mk (Kd.R_below (rl HO294) hb); have n1_ := Aside0.mk (Kd.N_below (Kd.N_elderB (nl HO298) gb300 (Nat.le_of_eq hg.symm)) hb); have n2_ := Aside0.mk (below_step (bl HB) hb); have n3_ := Aside0.mk (hbox); have n4_ := Aside0.mk ((by rw [hg]; exact (below_size (bl HB)) : w.heap.size ≤ gb300)); have n5_ := Aside0.mk ((by rw [hg]; exact (below_size (bl HB)) : w.heap.size ≤ gb300)); clear HO294; clear HO298; clear HB; have HO294 := n0_; have HO298 := n1_; have HB := n2_; have BK300 := n3_; have GW300 := n4_; have GE300 := n5_; clear n0_ n1_ n2_ n3_ n4_ n5_; clear hb hbox hg; have hcz54_0 : w53.cell? ⟨gb300, 0, none⟩ = some (.int .i64 0) := (blk_cell BK300.out 0).trans rfl; have hcz54_1 : w53.cell? ⟨gb300, 1, none⟩ = some (.slice none 0 0) := (blk_cell BK300.out 1).trans rfl; have hfz54_0 := blk_frozen BK300.out 0; have hfz54_1 := blk_frozen BK300.out 1; obtain ⟨Ao55, co55, eo55⟩ := Kd.N_slice HO298.out; subst eo55) | ((with_reducible refine gate_callee (f := 18) rfl ?_); refine gL 19 Try.func18 #[.int .i64 a0, .slice Ao51 t292.length co51, .int .i64 60] ?_; (with_reducible refine (gampref05_Check.calls k a0 _ _ t292 60 t301 _ ?side1 ?side2 A5.out).mono ?_); (case side1 => refine (Kd.R_reads' (e := 3) (base := w.heap.size) (ok := fun k_ => True) (n := t292.length) (c := co51) ?_).2.2; exact (by (with_reducible repeat (first | apply Kd.R_alloc | apply Kd.R_drewN | apply Kd.R_drew)); exact (Kd.R_mono (Kd.R_far (p := ⟨gb300, 1, none⟩) (Kd.R_far (p := ⟨gb300, 0, none⟩) (Kd.R_types HO294.out BK300.out (by decide)) (fun _ hk => hk.2) (.int .i64 t295)) (fun _ hk => hk.2) (.slice Ao55 t296.length co55)) (fun _ h_ => h_.1)))); (case side2 => exact (Kd.R_reads' HO294.out).2.1); rintro e w' ⟨rfl, ⟨nd, rfl⟩⟩; refine ⟨_, rfl, ?_⟩) | ((with_reducible refine gate_callee (f := 19) rfl ?_); refine gL 23 Try.func19 #[.agg #[.int .i64 t295, .slice Ao55 t296.length co55]] ?_; (with_reducible refine (gamplaw05_empty.calls t295 _ _ t296 true _ ?side1 ?side2 A46.out).mono ?_); (case side1 => refine (Kd.N_reads' (e := 22) (base := w.heap.size) (ok := fun k_ => (some k_ ≠ (.slice Ao51 t292.length co51 : Value).ownBlock ∧ k_ ≠ gb300)) (n := t296.length) (c := co55) ?_).2.2; exact (by (with_reducible repeat (first | apply Kd.N_alloc | apply Kd.N_drewN | apply Kd.N_drew)); exact (Kd.N_mono (Kd.N_far (p := ⟨gb300, 1, none⟩) (Kd.N_far (p := ⟨gb300, 0, none⟩) (Kd.N_mono HO298.out (fun k_ hk => (⟨hk, hk.2⟩ : _ ∧ k_ ≠ gb300))) (fun _ hk => hk.2) (.int .i64 t295)) (fun _ hk => hk.2) (.slice Ao55 t296.length co55)) (fun _ h_ => h_.1)))); (case side2 => exact (Kd.N_reads' HO298.out).2.1); rintro e w56 ⟨rfl, hb⟩; refine ⟨_, rfl, ?_⟩; have n0_ := Aside0.mk (Kd.R_below (by (with_reducible repeat (first | apply Kd.R_alloc | apply Kd.R_drewN | apply Kd.R_drew)); exact (Kd.R_mono (Kd.R_far (p := ⟨gb300, 1, none⟩) (Kd.R_far (p := ⟨gb300, 0, none⟩) (Kd.R_types HO294.out BK300.out (by decide)) (fun _ hk => hk.2) (.int .i64 t295)) (fun _ hk => hk.2) (.slice Ao55 t296.length co55)) (fun _ h_ => h_.1))) hb); have n1_ := Aside0.mk (Kd.N_below (by (with_reducible repeat (first | apply Kd.N_alloc | apply Kd.N_drewN | apply Kd.N_drew)); exact (Kd.N_mono (Kd.N_far (p := ⟨gb300, 1, none⟩) (Kd.N_far (p := ⟨gb300, 0, none⟩) (Kd.N_mono HO298.out (fun k_ hk => (⟨hk, hk.2⟩ : _ ∧ k_ ≠ gb300))) (fun _ hk => hk.2) (.int .i64 t295)) (fun _ hk => hk.2) (.slice Ao55 t296.length co55)) (fun _ h_ => h_.1))) hb); have n2_ := Aside0.mk (blk_below (g := gb300) (o := .cells #[.int .i64 t295, .slice Ao55 t296.length co55] 26 (0, 0)) (by (with_reducible repeat (first | refine blk_drewN ?_ _ | refine blk_drew ?_ | refine blk_alloc ?_ _)); refine blk_put (cs := #[.int .i64 t295, .slice none 0 0]) ?_ 1 _ rfl; (with_reducible repeat (first | refine blk_drewN ?_ _ | refine blk_drew ?_ | refine blk_alloc ?_ _)); refine blk_put (cs := #[.int .i64 0, .slice none 0 0]) ?_ 0 _ rfl; (with_reducible repeat (first | refine blk_drewN ?_ _ | refine blk_drew ?_ | refine blk_alloc ?_ _)); exact BK300.out) hb); have n3_ := Aside0.mk (below_step (bl HB) hb); clear HO294; clear HO298; clear BK300; clear HB; have HO294 := n0_; have HO298 := n1_; have BK300 := n2_; have HB := n3_; clear n0_ n1_ n2_ n3_; (try clear hb); (try clear hb2); (try clear hk); (try clear hi)) | (go_at_call 20; (with_reducible refine (gamplaw05_lives.calls k  t309 _ A49.out).mono ?_); rintro e w57 ⟨rfl, hb⟩; have n0_ := Aside0.mk (Kd.R_below (rl HO294) hb); have n1_ := Aside0.mk (Kd.N_below (nl HO298) hb); have n2_ := Aside0.mk (blk_below (g := gb300) (o := .cells #[.int .i64 t295, .slice Ao55 t296.length co55] 26 (0, 0)) (bk BK300) hb); have n3_ := Aside0.mk (below_step (bl HB) hb); clear HO294; clear HO298; clear BK300; clear HB; have HO294 := n0_; have HO298 := n1_; have BK300 := n2_; have HB := n3_; clear n0_ n1_ n2_ n3_; (try clear hb); (try clear hb2); (try clear hk); (try clear hi)))
    go_ret
    exact ⟨by first | rfl | (simp [errW_none, errW_some] <;> rfl) | (simp [*, errW_none, errW_some] <;> rfl), by repeat (first | (with_reducible first | exact HB.out | apply below_alloc | apply pw_below_drewN | apply below_drew1 | refine below_set ?_ GE300.out) | exact HB.out)⟩
   ·rw [if_neg c48] at H
    have c48b0 : (t299 == t301) = false := beq_eq_false_iff_ne.mpr c48
    have c48b1 : (t299 != t301) = true := bne_iff_ne.mpr c48
    rw [hrt] at H
    cases H
  ·replace c47 := Bool.eq_false_iff.mpr c47
   subst c47
   have H1 : (some false) = some r := by rw [if_neg (show ¬ (false = true) by decide)] at H; exact H
   clear H
   have H := H1
   clear H1
   rw [hrt] at H
   cases H
/-- THE ONE PURE STATEMENT of gamplaw05_StrapNormals: yours. -/
theorem gamplaw05_StrapNormals.walk (P : gamplaw05_StrapNormals.Pure) (a0 : Int) (a1 : Option Addr) (len1 cap1 : Nat) (z1 : List Int) (w : World) (w0 : (Lit.int .i64 a0).wf = true) (w1 : (a1 = none ∧ len1 = 0 ∧ cap1 = 0 ∧ z1 = []) ∨ ∃ x, a1 = some x ∧ len1 ≤ cap1 ∧ cap1 ≤ maxLen ∧ z1.length = cap1 ∧ (∀ i, i < z1.length → w.cell? (x.add i) = some (.int .i64 (z1.getD i 0))) ∧ ∀ n ∈ z1, (Lit.int .i64 n).wf = true) (y1 : len1 * 8 ≤ 140737488351232) :
  Calls Try.prog 3 #[.int .i64 a0, .slice a1 len1 cap1] w fun e w' => e = .returned (.bool true) ∧ Below w.heap.size w w' := by
 obtain ⟨l1, rfl, hr1, hm1, hw1, hc1⟩ := ReadsInt.ofRowC w1
 obtain ⟨k, h⟩ := P a0 l1 w0 hm1 y1 hw1
 refine (gamplaw05_StrapNormals.calls k a0 _ _ l1 true w (Kd.C_of_reads (d := (0 : Int)) (h1 := fun _ => rfl) hr1) hc1 h rfl).mono ?_
 rintro e w' ⟨rfl, hd⟩
 exact ⟨rfl, hd⟩
end Go.Proofs.Ytdldfdcedjmneaa.Lx
