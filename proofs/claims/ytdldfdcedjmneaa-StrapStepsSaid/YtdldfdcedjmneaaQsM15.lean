/- The declarations of M15 that the claim Qs needs. -/
import Derived.Test.YtdldfdcedjmneaaQsM14
namespace Go.Proofs.Ytdldfdcedjmneaa.Lx
open Go.RowKit Go.Proofs.Ytdldfdcedjmneaa.Own Go.Proofs.YtdldfdcedjmneaaW.PrintWords Go.Proofs.YtdldfdcedjmneaaW.PrintLast Go.Proofs.YtdldfdcedjmneaaW.PrintMore
attribute [local go_sem] max2_int min2_int max_two min_two max_three min_three max_four min_four
set_option linter.unusedVariables false
set_option linter.unusedSimpArgs false
set_option maxHeartbeats 8000000 in
set_option maxRecDepth 100000 in
theorem steps_calls (A0 : Option Addr) (c0 : Nat) (l0 : List Int) (st at_ le ot : Int) (mi : Bool) (w : World) (h0 : ∀ x ∈ l0, (Lit.int .i8 x).wf = true) (hst : 0 ≤ st ∧ st ≤ 255) (hat : 0 ≤ at_ ∧ at_ ≤ 255) (hle : 0 ≤ le ∧ le ≤ 255) (hot : 0 ≤ ot ∧ ot ≤ 255)
    (hr0 : Kd.C (Kd.int .i8) w A0 l0.length l0) (hc0 : l0.length ≤ c0) :
    Calls Try.prog 5 #[.slice A0 l0.length c0, .agg #[.int .u8 st, .int .u8 at_, .int .u8 le, .int .u8 ot, .bool mi]] w fun e w' => e = .returned (.bool true) ∧ Below w.heap.size w w' := by
  obtain ⟨n, hs, hn1, hn2⟩ := Pure.strands_eq hst.1 hst.2 (c := 8) (.inl rfl)
  obtain ⟨xs, hw, hl, hev⟩ := Pure.word_ev hn1 (by omega) (l := l0) (L := 40) (by omega) h0
  obtain ⟨kw, ew⟩ := hev.rounds
  obtain ⟨m0, hm0⟩ : ∃ m0 : Int, m0 = (n : Int) := ⟨_, rfl⟩
  rw [← hm0] at hs ew
  have HS := Aside0.mk hs
  have EW : Aside0 (gamplaw05_word.f kw m0 l0 40 = some xs) := ⟨ew⟩
  have HR := Aside0.mk hr0
  have HW := Aside0.mk hw
  have HM := Aside0.mk hm0
  clear hs ew hr0 hw hev hm0 h0
  go_enter Try.func5, Try.ntmps5
  go_upto_region 1 with ((with_reducible refine gate_dst (N := 3) rfl ?_); refine box_event ?hg (N := 3) ?hd (cs := #[.int .u8 st, .int .u8 at_, .int .u8 le, .int .u8 ot, .bool mi]) (t := 41) ?hr ?_; (case hd => rfl); (case hg => rfl); (case hr => first | (go_simp; done) | (go_simp; rfl)); intro gb hgb w1 hbox hb1)
  have HB1 := Aside0.mk hb1
  have HBX := Aside0.mk hbox
  rw [← hgb]
  have hS : w1.drew.cell? ⟨gb, 0, none⟩ = some (.int .u8 st) ∧ w1.drew.cell? ⟨gb, 4, none⟩ = some (.bool mi) := ⟨(blk_cell hbox 0).trans rfl, (blk_cell hbox 4).trans rfl⟩
  clear hbox hb1 hgb
  refine Own.wp_region_T 6 (fun w' => w'.cell? ⟨gb, 0, none⟩ = some (.int .u8 st) ∧ w'.cell? ⟨gb, 4, none⟩ = some (.bool mi)) (by kernel_rfl) ?_
  refine wpAnyT_take (i := 0) (v := ?_) rfl (by kernel_rfl) (by kernel_rfl) (by kernel_rfl) (by kernel_rfl) (fun _ _ _ h => h) (Or.inl ⟨by rfl, ?_⟩) (by assumption) ?_
  rotate_left
  · intro wS hSw; (try dsimp only at hSw); go_simp; try with_reducible rfl
  (try simp only [Act.put, List.getElem_toArray, List.getElem_cons_zero, List.getElem_cons_succ, List.setIfInBounds_toArray, List.set_cons_zero, List.set_cons_succ])
  refine wpAnyT_take (i := 1) (v := ?_) rfl (by kernel_rfl) (by kernel_rfl) (by kernel_rfl) (by kernel_rfl) (fun _ _ _ h => h) (Or.inl ⟨by rfl, ?_⟩) (by assumption) ?_
  rotate_left
  · intro wS hSw; (try dsimp only at hSw); go_simp; try with_reducible rfl
  (try simp only [Act.put, List.getElem_toArray, List.getElem_cons_zero, List.getElem_cons_succ, List.setIfInBounds_toArray, List.set_cons_zero, List.set_cons_succ])
  refine wpAnyT_take (i := 3) (v := ?_) rfl (by kernel_rfl) (by kernel_rfl) (by kernel_rfl) (by kernel_rfl) (fun _ _ _ h => h) (Or.inl ⟨by rfl, ?_⟩) (by assumption) ?_
  rotate_left
  · intro wS hSw; (try dsimp only at hSw); go_simp; try with_reducible rfl
  (try simp only [Act.put, List.getElem_toArray, List.getElem_cons_zero, List.getElem_cons_succ, List.setIfInBounds_toArray, List.set_cons_zero, List.set_cons_succ])
  refine wpAnyT_take (i := 4) (v := ?_) rfl (by kernel_rfl) (by kernel_rfl) (by kernel_rfl) (by kernel_rfl) (fun _ _ _ h => h) (Or.inl ⟨by rfl, ?_⟩) (by assumption) ?_
  rotate_left
  · intro wS hSw; (try dsimp only at hSw); go_simp; try with_reducible rfl
  (try simp only [Act.put, List.getElem_toArray, List.getElem_cons_zero, List.getElem_cons_succ, List.setIfInBounds_toArray, List.set_cons_zero, List.set_cons_succ])
  refine wpAnyT_one (i := 2) (by kernel_rfl) rfl (fun K hK => ?_)
  go_wp2_with (go_at_call 24; (with_reducible refine (gamplaw05_strands.calls st 8 m0 _ HS.out).mono ?_); rintro e w2 ⟨rfl, hb⟩; have HB2 := Aside0.mk (below_step (below_drew1 HB1.out) hb.below); have HBX2 := Aside0.mk (blk_below (blk_drew HBX.out) hb.below); have HR2 := Aside0.mk (Kd.C_below HR.out HB2.out); clear hb)
  refine hK _ _ (fun _ => ?_) ?_
  · exact ⟨(blk_cell HBX2.out 0).trans rfl, (blk_cell HBX2.out 4).trans rfl⟩
  clear hK K
  (try simp only [Act.put, List.getElem_toArray, List.getElem_cons_zero, List.getElem_cons_succ, List.setIfInBounds_toArray, List.set_cons_zero, List.set_cons_succ])
  have hS2 : w2.cell? ⟨gb, 0, none⟩ = some (.int .u8 st) ∧ w2.cell? ⟨gb, 4, none⟩ = some (.bool mi) := ⟨(blk_cell HBX2.out 0).trans rfl, (blk_cell HBX2.out 4).trans rfl⟩
  refine wpAnyT_take (i := 5) (v := ?_) rfl (by kernel_rfl) (by kernel_rfl) (by kernel_rfl) (by kernel_rfl) (fun _ _ _ h => h) (Or.inl ⟨by rfl, ?_⟩) (by assumption) ?_
  rotate_left
  · intro wS hSw; (try dsimp only at hSw); go_simp; try with_reducible rfl
  (try simp only [Act.put, List.getElem_toArray, List.getElem_cons_zero, List.getElem_cons_succ, List.setIfInBounds_toArray, List.set_cons_zero, List.set_cons_succ])
  refine wpAnyT_one (i := 6) (by kernel_rfl) rfl (fun K hK => ?_)
  go_wp2
  refine hK _ _ (fun h => absurd rfl h) ?_
  clear hK K
  (try simp only [Act.put, List.getElem_toArray, List.getElem_cons_zero, List.getElem_cons_succ, List.setIfInBounds_toArray, List.set_cons_zero, List.set_cons_succ])
  refine wpAnyT_done (by kernel_rfl) ?_ _
  clear hS hS2 HB1 HBX HR
  go_upto_region 3 with (go_at_call 25; (with_reducible refine (gamplaw05_word.calls kw m0 _ _ l0 40 xs _ HR2.out hc0 EW.out).mono ?_); rintro e w3 ⟨v3, rfl, ho, hb⟩; obtain ⟨Ax, cx, rfl⟩ := Kd.R_slice ho; have HX := Aside0.mk (Kd.R_reads' ho).2.2; have HXc := Aside0.mk (Kd.R_reads' ho).2.1; have HB3 := Aside0.mk (below_step HB2.out hb); have HBX3 := Aside0.mk (blk_below HBX2.out hb); clear ho hb)
  have y1 : w3.cell? ⟨gb, 1, none⟩ = some (.int .u8 at_) := (blk_cell HBX3.out 1).trans rfl
  go_upto_region 4 with fail
  obtain ⟨i, hi, hil⟩ : ∃ i : Nat, at_ % ((xs.length : Int) + 1) = (i : Int) ∧ i ≤ xs.length := by
    have h1 := Int.emod_nonneg at_ (show ((xs.length : Int) + 1) ≠ 0 by omega)
    have h2 := Int.emod_lt_of_pos at_ (show (0 : Int) < (xs.length : Int) + 1 by omega)
    exact ⟨(at_ % ((xs.length : Int) + 1)).toNat, by omega, by omega⟩
  rw [hi]
  have hxc := HXc.out
  have hi0 : (0 : Int) ≤ (i : Int) := by omega
  have hi1 : (i : Int) ≤ (xs.length : Int) := by omega
  have hi2 : (i : Int) ≤ (cx : Int) := by omega
  have hi3 : (xs.length : Int) ≤ (cx : Int) := by omega
  have hS : True := trivial
  have HBX4 : Aside0 (w3.drew.heap[gb]? = some (.cells #[.int .u8 st, .int .u8 at_, .int .u8 le, .int .u8 ot, .bool mi] 41)) := ⟨blk_drew HBX3.out⟩
  have HB4 : Aside0 (Below w.heap.size w w3.drew) := ⟨below_drew1 HB3.out⟩
  have HX4 : Aside0 (Kd.C (Kd.int .i64) w3.drew Ax xs.length xs) := ⟨Kd.C_drew HX.out⟩
  have HT4 : Aside0 (Kd.C (Kd.int .i64) w3.drew Ax (xs.take i).length (xs.take i)) := ⟨Kd.C_take HX4.out hil⟩
  have HD4 : Aside0 (Kd.C (Kd.int .i64) w3.drew (if cx = i then Ax else Ax.map (·.add (i * (Kd.int .i64).sz))) (xs.drop i).length (xs.drop i)) := ⟨Kd.C_drop HX4.out hil hxc⟩
  have hdl : (xs.drop i).length = xs.length - i := List.length_drop
  have htl : (xs.take i).length = i := by rw [List.length_take]; omega
  have HDL := Aside0.mk hdl
  have HTL := Aside0.mk htl
  clear hdl htl
  obtain ⟨la, hla⟩ : ∃ la, la = xs.take i := ⟨_, rfl⟩
  obtain ⟨lb, hlb⟩ : ∃ lb, lb = xs.drop i := ⟨_, rfl⟩
  rw [← hla] at HT4 HTL
  rw [← hlb] at HD4 HDL
  have HLA := Aside0.mk hla
  have HLB := Aside0.mk hlb
  clear hla hlb
  go_cut [9, 10, 34, 35, 36, 37] (fun v9 v10 v34 v35 v36 v37 wc => ∃ (B : Option Addr) (cb : Nat), v9 = .slice Ax la.length i ∧ v10 = .slice B lb.length cb ∧ lb.length ≤ cb ∧ Aside0 (Kd.C (Kd.int .i64) wc B lb.length lb) ∧ Aside0 (Kd.C (Kd.int .i64) wc Ax la.length la) ∧ Aside0 (Kd.C (Kd.int .i64) wc Ax xs.length xs) ∧ Aside0 (wc.heap[gb]? = some (.cells #[.int .u8 st, .int .u8 at_, .int .u8 le, .int .u8 ot, .bool mi] 41)) ∧ Aside0 (Below w.heap.size w wc))
  case first =>
    by_cases hci : cx = i
    · have HD5 := HD4.out
      rw [if_pos hci] at HD5
      replace hci := eq_true hci
      refine Own.wp_region_T 8 (fun w' => True) (by kernel_rfl) ?_
      refine wpAnyT_take (i := 0) (v := ?_) rfl (by kernel_rfl) (by kernel_rfl) (by kernel_rfl) (by kernel_rfl) (fun _ _ _ h => h) (Or.inl ⟨by rfl, ?_⟩) (by assumption) ?_
      rotate_left
      · intro wS hSw; (try dsimp only at hSw); go_simp; try with_reducible rfl
      (try simp only [Act.put, List.getElem_toArray, List.getElem_cons_zero, List.getElem_cons_succ, List.setIfInBounds_toArray, List.set_cons_zero, List.set_cons_succ])
      refine wpAnyT_take (i := 1) (v := ?_) rfl (by kernel_rfl) (by kernel_rfl) (by kernel_rfl) (by kernel_rfl) (fun _ _ _ h => h) (Or.inl ⟨by rfl, ?_⟩) (by assumption) ?_
      rotate_left
      · intro wS hSw; (try dsimp only at hSw); go_simp; try with_reducible rfl
      (try simp only [Act.put, List.getElem_toArray, List.getElem_cons_zero, List.getElem_cons_succ, List.setIfInBounds_toArray, List.set_cons_zero, List.set_cons_succ])
      refine wpAnyT_take (i := 2) (v := ?_) rfl (by kernel_rfl) (by kernel_rfl) (by kernel_rfl) (by kernel_rfl) (fun _ _ _ h => h) (Or.inl ⟨by rfl, ?_⟩) (by assumption) ?_
      rotate_left
      · intro wS hSw; (try dsimp only at hSw); go_simp; try with_reducible rfl
      (try simp only [Act.put, List.getElem_toArray, List.getElem_cons_zero, List.getElem_cons_succ, List.setIfInBounds_toArray, List.set_cons_zero, List.set_cons_succ])
      refine wpAnyT_take (i := 3) (v := ?_) rfl (by kernel_rfl) (by kernel_rfl) (by kernel_rfl) (by kernel_rfl) (fun _ _ _ h => h) (Or.inl ⟨by rfl, ?_⟩) (by assumption) ?_
      rotate_left
      · intro wS hSw; (try dsimp only at hSw); go_simp; try with_reducible rfl
      (try simp only [Act.put, List.getElem_toArray, List.getElem_cons_zero, List.getElem_cons_succ, List.setIfInBounds_toArray, List.set_cons_zero, List.set_cons_succ])
      refine wpAnyT_take (i := 4) (v := ?_) rfl (by kernel_rfl) (by kernel_rfl) (by kernel_rfl) (by kernel_rfl) (fun _ _ _ h => h) (Or.inl ⟨by rfl, ?_⟩) (by assumption) ?_
      rotate_left
      · intro wS hSw; (try dsimp only at hSw); go_simp; try with_reducible rfl
      (try simp only [Act.put, List.getElem_toArray, List.getElem_cons_zero, List.getElem_cons_succ, List.setIfInBounds_toArray, List.set_cons_zero, List.set_cons_succ])
      refine wpAnyT_take (i := 5) (v := ?_) rfl (by kernel_rfl) (by kernel_rfl) (by kernel_rfl) (by kernel_rfl) (fun _ _ _ h => h) (Or.inl ⟨by rfl, ?_⟩) (by assumption) ?_
      rotate_left
      · intro wS hSw; (try dsimp only at hSw); go_simp; try with_reducible rfl
      (try simp only [Act.put, List.getElem_toArray, List.getElem_cons_zero, List.getElem_cons_succ, List.setIfInBounds_toArray, List.set_cons_zero, List.set_cons_succ])
      refine wpAnyT_take (i := 6) (v := ?_) rfl (by kernel_rfl) (by kernel_rfl) (by kernel_rfl) (by kernel_rfl) (fun _ _ _ h => h) (Or.inl ⟨by rfl, ?_⟩) (by assumption) ?_
      rotate_left
      · intro wS hSw; (try dsimp only at hSw); go_simp; try with_reducible rfl
      (try simp only [Act.put, List.getElem_toArray, List.getElem_cons_zero, List.getElem_cons_succ, List.setIfInBounds_toArray, List.set_cons_zero, List.set_cons_succ])
      refine wpAnyT_take (i := 7) (v := ?_) rfl (by kernel_rfl) (by kernel_rfl) (by kernel_rfl) (by kernel_rfl) (fun _ _ _ h => h) (Or.inl ⟨by rfl, ?_⟩) (by assumption) ?_
      rotate_left
      · intro wS hSw; (try dsimp only at hSw); go_simp; try with_reducible rfl
      (try simp only [Act.put, List.getElem_toArray, List.getElem_cons_zero, List.getElem_cons_succ, List.setIfInBounds_toArray, List.set_cons_zero, List.set_cons_succ])
      refine wpAnyT_one (i := 8) (by kernel_rfl) rfl (fun K hK => ?_)
      go_wp2
      refine hK _ _ (fun h => absurd rfl h) ?_
      clear hK K
      (try simp only [Act.put, List.getElem_toArray, List.getElem_cons_zero, List.getElem_cons_succ, List.setIfInBounds_toArray, List.set_cons_zero, List.set_cons_succ])
      refine wpAnyT_done (by kernel_rfl) ?_ _
      go_wp2_with fail
      go_meet
      exact ⟨Ax, _, by rw [HTL.out], by rw [HDL.out], by rw [HDL.out]; omega, ⟨HD5⟩, HT4, HX4, HBX4, HB4⟩
    · have HD5 := HD4.out
      simp only [if_neg hci, show i * (Kd.int IntKind.i64).sz = i from Nat.mul_one i] at HD5
      replace hci := eq_false hci
      refine Own.wp_region_T 8 (fun w' => True) (by kernel_rfl) ?_
      refine wpAnyT_take (i := 0) (v := ?_) rfl (by kernel_rfl) (by kernel_rfl) (by kernel_rfl) (by kernel_rfl) (fun _ _ _ h => h) (Or.inl ⟨by rfl, ?_⟩) (by assumption) ?_
      rotate_left
      · intro wS hSw; (try dsimp only at hSw); go_simp; try with_reducible rfl
      (try simp only [Act.put, List.getElem_toArray, List.getElem_cons_zero, List.getElem_cons_succ, List.setIfInBounds_toArray, List.set_cons_zero, List.set_cons_succ])
      refine wpAnyT_take (i := 1) (v := ?_) rfl (by kernel_rfl) (by kernel_rfl) (by kernel_rfl) (by kernel_rfl) (fun _ _ _ h => h) (Or.inl ⟨by rfl, ?_⟩) (by assumption) ?_
      rotate_left
      · intro wS hSw; (try dsimp only at hSw); go_simp; try with_reducible rfl
      (try simp only [Act.put, List.getElem_toArray, List.getElem_cons_zero, List.getElem_cons_succ, List.setIfInBounds_toArray, List.set_cons_zero, List.set_cons_succ])
      refine wpAnyT_take (i := 2) (v := ?_) rfl (by kernel_rfl) (by kernel_rfl) (by kernel_rfl) (by kernel_rfl) (fun _ _ _ h => h) (Or.inl ⟨by rfl, ?_⟩) (by assumption) ?_
      rotate_left
      · intro wS hSw; (try dsimp only at hSw); go_simp; try with_reducible rfl
      (try simp only [Act.put, List.getElem_toArray, List.getElem_cons_zero, List.getElem_cons_succ, List.setIfInBounds_toArray, List.set_cons_zero, List.set_cons_succ])
      refine wpAnyT_take (i := 3) (v := ?_) rfl (by kernel_rfl) (by kernel_rfl) (by kernel_rfl) (by kernel_rfl) (fun _ _ _ h => h) (Or.inl ⟨by rfl, ?_⟩) (by assumption) ?_
      rotate_left
      · intro wS hSw; (try dsimp only at hSw); go_simp; try with_reducible rfl
      (try simp only [Act.put, List.getElem_toArray, List.getElem_cons_zero, List.getElem_cons_succ, List.setIfInBounds_toArray, List.set_cons_zero, List.set_cons_succ])
      refine wpAnyT_take (i := 4) (v := ?_) rfl (by kernel_rfl) (by kernel_rfl) (by kernel_rfl) (by kernel_rfl) (fun _ _ _ h => h) (Or.inl ⟨by rfl, ?_⟩) (by assumption) ?_
      rotate_left
      · intro wS hSw; (try dsimp only at hSw); go_simp; try with_reducible rfl
      (try simp only [Act.put, List.getElem_toArray, List.getElem_cons_zero, List.getElem_cons_succ, List.setIfInBounds_toArray, List.set_cons_zero, List.set_cons_succ])
      refine wpAnyT_take (i := 5) (v := ?_) rfl (by kernel_rfl) (by kernel_rfl) (by kernel_rfl) (by kernel_rfl) (fun _ _ _ h => h) (Or.inl ⟨by rfl, ?_⟩) (by assumption) ?_
      rotate_left
      · intro wS hSw; (try dsimp only at hSw); go_simp; try with_reducible rfl
      (try simp only [Act.put, List.getElem_toArray, List.getElem_cons_zero, List.getElem_cons_succ, List.setIfInBounds_toArray, List.set_cons_zero, List.set_cons_succ])
      refine wpAnyT_take (i := 6) (v := ?_) rfl (by kernel_rfl) (by kernel_rfl) (by kernel_rfl) (by kernel_rfl) (fun _ _ _ h => h) (Or.inl ⟨by rfl, ?_⟩) (by assumption) ?_
      rotate_left
      · intro wS hSw; (try dsimp only at hSw); go_simp; try with_reducible rfl
      (try simp only [Act.put, List.getElem_toArray, List.getElem_cons_zero, List.getElem_cons_succ, List.setIfInBounds_toArray, List.set_cons_zero, List.set_cons_succ])
      refine wpAnyT_take (i := 7) (v := ?_) rfl (by kernel_rfl) (by kernel_rfl) (by kernel_rfl) (by kernel_rfl) (fun _ _ _ h => h) (Or.inl ⟨by rfl, ?_⟩) (by assumption) ?_
      rotate_left
      · intro wS hSw; (try dsimp only at hSw); go_simp; try with_reducible rfl
      (try simp only [Act.put, List.getElem_toArray, List.getElem_cons_zero, List.getElem_cons_succ, List.setIfInBounds_toArray, List.set_cons_zero, List.set_cons_succ])
      refine wpAnyT_one (i := 8) (by kernel_rfl) rfl (fun K hK => ?_)
      go_wp2
      refine hK _ _ (fun h => absurd rfl h) ?_
      clear hK K
      (try simp only [Act.put, List.getElem_toArray, List.getElem_cons_zero, List.getElem_cons_succ, List.setIfInBounds_toArray, List.set_cons_zero, List.set_cons_succ])
      refine wpAnyT_done (by kernel_rfl) ?_ _
      go_wp2_with fail
      go_meet
      exact ⟨Ax.map (·.add i), _, by rw [HTL.out], by rw [HDL.out], by rw [HDL.out]; omega, ⟨HD5⟩, HT4, HX4, HBX4, HB4⟩
  case rest =>
    clear HBX4 HB4 HX4 HT4 HD4 HX HB3 HBX3 HB2 HBX2 HR2 y1
    obtain ⟨B, cb, rfl, rfl, hbc, HD, HT, HX, HBX, HB⟩ := hcut
    have y2 := (blk_cell HBX.out 2).trans (show _ = some (Value.int .u8 le) from rfl)
    have y3 := (blk_cell HBX.out 3).trans (show _ = some (Value.int .u8 ot) from rfl)
    have hm1 : 2 ≤ m0 := by have := HM.out; omega
    have hm2 : m0 ≤ 8 := by have := HM.out; omega
    go_upto_region 6 with fail
    obtain ⟨kk, hkk, hk1, hk2⟩ : ∃ kk : Int, wrap64 (le % (m0 - 1) + 1) = kk ∧ 1 ≤ kk ∧ kk < m0 := by
      have h1 := Int.emod_nonneg le (show m0 - 1 ≠ 0 by omega)
      have h2 := Int.emod_lt_of_pos le (show 0 < m0 - 1 by omega)
      exact ⟨_, rfl, by unfold wrap64; omega, by unfold wrap64; omega⟩
    rw [hkk]
    clear hkk y2
    obtain ⟨jj, hjj, hj1, hj2⟩ : ∃ jj : Int, wrap64 (ot % (m0 - 1) + 1) = jj ∧ 1 ≤ jj ∧ jj < m0 := by
      have h1 := Int.emod_nonneg ot (show m0 - 1 ≠ 0 by omega)
      have h2 := Int.emod_lt_of_pos ot (show 0 < m0 - 1 by omega)
      exact ⟨_, rfl, by unfold wrap64; omega, by unfold wrap64; omega⟩
    have HJJ := Aside0.mk hjj
    clear hjj
    cases mi with
    | true =>
      go_upto_region 8 with fail
      have F0 := StF.of (n := n) hn1 (by omega) HW.out hl HLA.out HLB.out (s := -1) (.inr rfl) hk1 (by have := HM.out; omega) hj1 (by have := HM.out; omega)
      rw [← HM.out] at F0
      rw [show (-1 : Int) * kk = -kk by omega, show - (-1 : Int) * kk = kk by omega, show (-1 : Int) * (kk + 1) = -(kk + 1) by omega] at F0
      have F := Aside0.mk F0
      clear F0
      obtain ⟨kj1, ej1'⟩ := F.out.j1
      obtain ⟨ks1, es1'⟩ := F.out.s1
      obtain ⟨kl, el'⟩ := F.out.li
      generalize la ++ [(-kk), kk] ++ lb = J1 at ej1' es1'
      obtain ⟨U1, hU1'⟩ : ∃ L, L = [(-kk), kk] := ⟨_, rfl⟩
      rw [← hU1'] at ej1'
      obtain ⟨L1, hL1'⟩ : ∃ L, L = [la, U1, lb] := ⟨_, rfl⟩
      rw [← hL1'] at ej1'
      have hU1 := Aside0.mk hU1'
      have hL1 := Aside0.mk hL1'
      have ej1 := Aside0.mk ej1'
      have es1 := Aside0.mk es1'
      have el := Aside0.mk el'
      clear hU1' hL1' ej1' es1' el'
      go_upto_region 10 with (first
        | ((with_reducible refine gate_dst (N := 56) rfl ?_); refine Kd.R_lit (Kd.int .i64) _ 3 ?hg (N := 56) ?hd (xs := ([(-kk), kk] : List Int)) (inner := [.int .i64 (-kk), .int .i64 kk]) (ok := fun _ => True) (okp := fun _ => True) ?hr ?hp (fun _ hk => hk) trivial (Below.refl _ _) (Nat.le_refl _) (by simp) ?_; (case hd => rfl); (case hg => rfl); (case hr => first | (go_simp; done) | (go_simp; rfl)); (case hp => exact (Reps.one (show Kd.M (Kd.int .i64) _ _ _ (-kk) [.int .i64 (-kk)] from rfl) (Reps.one (show Kd.M (Kd.int .i64) _ _ _ kk [.int .i64 kk] from rfl) (Reps.none _ _)))); intro v56 w56 ho hb hg_ hnew_; clear hg_ hnew_; rw [← hU1.out] at ho; obtain ⟨A56, c56, rfl⟩ := Kd.R_slice ho; have HU1 := Aside0.mk (Kd.R_reads' ho).2.2; have HU1c := Aside0.mk (Kd.R_reads' ho).2.1; clear ho; have n_HX := Aside0.mk (Kd.C_below HX.out hb); have n_HT := Aside0.mk (Kd.C_below HT.out hb); have n_HD := Aside0.mk (Kd.C_below HD.out hb); have n_HBX := Aside0.mk (blk_below HBX.out hb); have n_HB := Aside0.mk (below_step HB.out hb); clear HX HT HD HBX HB; have HX := n_HX; have HT := n_HT; have HD := n_HD; have HBX := n_HBX; have HB := n_HB; clear n_HX n_HT n_HD n_HBX n_HB; clear hb)
        | ((with_reducible refine gate_dst (N := 58) rfl ?_); refine Kd.N_lit (Kd.slice 3 (Kd.int .i64)) _ 22 ?hg (N' := 58) ?hd (xs := ([la, U1, lb] : List (List Int))) (inner := [.slice Ax la.length i, .slice A56 U1.length c56, .slice B lb.length cb]) (ok := fun _ => True) (okp := fun _ => True) ?hr ?hp (fun _ hk => hk) trivial (Below.refl _ _) (Nat.le_refl _) (by simp) ?_; (case hd => rfl); (case hg => rfl); (case hr => first | (go_simp; done) | (go_simp; rfl)); (case hp => exact (Reps.one (FK_row HT.out (Nat.le_of_eq HTL.out)) (Reps.one (FK_row HU1.out HU1c.out) (Reps.one (FK_row HD.out hbc) (Reps.none _ _))))); intro v58 w58 ho hb hg_ hnew_; clear hg_ hnew_; rw [← hL1.out] at ho; obtain ⟨A58, c58, rfl⟩ := Kd.N_slice ho; have HL1 := Aside0.mk (Kd.N_reads' ho).2.2; have HL1c := Aside0.mk (Kd.N_reads' ho).2.1; clear ho; clear HU1 HU1c; have n_HX := Aside0.mk (Kd.C_below HX.out hb); have n_HT := Aside0.mk (Kd.C_below HT.out hb); have n_HD := Aside0.mk (Kd.C_below HD.out hb); have n_HBX := Aside0.mk (blk_below HBX.out hb); have n_HB := Aside0.mk (below_step HB.out hb); clear HX HT HD HBX HB; have HX := n_HX; have HT := n_HT; have HD := n_HD; have HBX := n_HBX; have HB := n_HB; clear n_HX n_HT n_HD n_HBX n_HB; clear hb)
        | (go_at_call 27; (with_reducible refine (gamplaw05_joined.calls kj1 _ _ L1 J1 _ HL1.out HL1c.out ej1.out).mono ?_); rintro e w59 ⟨v59, rfl, ho, hb⟩; obtain ⟨A59, c59, rfl⟩ := Kd.R_slice ho; have HJ1 := Aside0.mk (Kd.R_reads' ho).2.2; have HJ1c := Aside0.mk (Kd.R_reads' ho).2.1; clear ho; clear HL1 HL1c; have n_HX := Aside0.mk (Kd.C_below HX.out hb); have n_HT := Aside0.mk (Kd.C_below HT.out hb); have n_HD := Aside0.mk (Kd.C_below HD.out hb); have n_HBX := Aside0.mk (blk_below HBX.out hb); have n_HB := Aside0.mk (below_step HB.out hb); clear HX HT HD HBX HB; have HX := n_HX; have HT := n_HT; have HD := n_HD; have HBX := n_HBX; have HB := n_HB; clear n_HX n_HT n_HD n_HBX n_HB; clear hb)
        | (go_at_call 26; (with_reducible refine (gamplaw05_same.calls ks1 m0 _ _ xs _ _ J1 true _ HX.out HXc.out HJ1.out HJ1c.out es1.out rfl).mono ?_); rintro e w60 ⟨rfl, hb⟩; clear HJ1 HJ1c; have n_HX := Aside0.mk (Kd.C_below HX.out hb); have n_HT := Aside0.mk (Kd.C_below HT.out hb); have n_HD := Aside0.mk (Kd.C_below HD.out hb); have n_HBX := Aside0.mk (blk_below HBX.out hb); have n_HB := Aside0.mk (below_step HB.out hb); clear HX HT HD HBX HB; have HX := n_HX; have HT := n_HT; have HD := n_HD; have HBX := n_HBX; have HB := n_HB; clear n_HX n_HT n_HD n_HBX n_HB; clear hb)
        | (go_at_call 20; (with_reducible refine (gamplaw05_lives.calls kl true _ el.out).mono ?_); rintro e w63 ⟨rfl, hb⟩; have n_HX := Aside0.mk (Kd.C_below HX.out hb); have n_HT := Aside0.mk (Kd.C_below HT.out hb); have n_HD := Aside0.mk (Kd.C_below HD.out hb); have n_HBX := Aside0.mk (blk_below HBX.out hb); have n_HB := Aside0.mk (below_step HB.out hb); clear HX HT HD HBX HB; have HX := n_HX; have HT := n_HT; have HD := n_HD; have HBX := n_HBX; have HB := n_HB; clear n_HX n_HT n_HD n_HBX n_HB; clear hb))
      have HC := Aside0.mk F.out.s2
      by_cases hc : kk + 1 < m0
      · have hcb : decide (kk + 1 < m0) = true := decide_eq_true hc
        obtain ⟨kj2, ej2'⟩ := F.out.j2
        obtain ⟨kj3, ej3'⟩ := F.out.j3
        obtain ⟨ks2, es2'⟩ := F.out.s2 hc
        generalize la ++ [(-kk), (-(kk + 1)), (-kk)] ++ lb = J2 at ej2' es2'
        generalize la ++ [(-(kk + 1)), (-kk), (-(kk + 1))] ++ lb = J3 at ej3' es2'
        obtain ⟨U2, hU2'⟩ : ∃ L, L = [(-kk), (-(kk + 1)), (-kk)] := ⟨_, rfl⟩
        rw [← hU2'] at ej2'
        obtain ⟨L2, hL2'⟩ : ∃ L, L = [la, U2, lb] := ⟨_, rfl⟩
        rw [← hL2'] at ej2'
        obtain ⟨U3, hU3'⟩ : ∃ L, L = [(-(kk + 1)), (-kk), (-(kk + 1))] := ⟨_, rfl⟩
        rw [← hU3'] at ej3'
        obtain ⟨L3, hL3'⟩ : ∃ L, L = [la, U3, lb] := ⟨_, rfl⟩
        rw [← hL3'] at ej3'
        have hU2 := Aside0.mk hU2'
        have hL2 := Aside0.mk hL2'
        have ej2 := Aside0.mk ej2'
        have hU3 := Aside0.mk hU3'
        have hL3 := Aside0.mk hL3'
        have ej3 := Aside0.mk ej3'
        have es2 := Aside0.mk es2'
        clear hU2' hL2' ej2' hU3' hL3' ej3' es2' hc HC
        go_upto_region 14 with (first
          | ((with_reducible refine gate_dst (N := 82) rfl ?_); refine Kd.R_lit (Kd.int .i64) _ 3 ?hg (N := 82) ?hd (xs := ([(-kk), (-(kk + 1)), (-kk)] : List Int)) (inner := [.int .i64 (-kk), .int .i64 (-(kk + 1)), .int .i64 (-kk)]) (ok := fun _ => True) (okp := fun _ => True) ?hr ?hp (fun _ hk => hk) trivial (Below.refl _ _) (Nat.le_refl _) (by simp) ?_; (case hd => rfl); (case hg => rfl); (case hr => first | (go_simp; done) | (go_simp; rfl)); (case hp => exact (Reps.one (show Kd.M (Kd.int .i64) _ _ _ (-kk) [.int .i64 (-kk)] from rfl) (Reps.one (show Kd.M (Kd.int .i64) _ _ _ (-(kk + 1)) [.int .i64 (-(kk + 1))] from rfl) (Reps.one (show Kd.M (Kd.int .i64) _ _ _ (-kk) [.int .i64 (-kk)] from rfl) (Reps.none _ _))))); intro v82 w82 ho hb hg_ hnew_; clear hg_ hnew_; rw [← hU2.out] at ho; obtain ⟨A82, c82, rfl⟩ := Kd.R_slice ho; have HU2 := Aside0.mk (Kd.R_reads' ho).2.2; have HU2c := Aside0.mk (Kd.R_reads' ho).2.1; clear ho; have n_HX := Aside0.mk (Kd.C_below HX.out hb); have n_HT := Aside0.mk (Kd.C_below HT.out hb); have n_HD := Aside0.mk (Kd.C_below HD.out hb); have n_HBX := Aside0.mk (blk_below HBX.out hb); have n_HB := Aside0.mk (below_step HB.out hb); clear HX HT HD HBX HB; have HX := n_HX; have HT := n_HT; have HD := n_HD; have HBX := n_HBX; have HB := n_HB; clear n_HX n_HT n_HD n_HBX n_HB; clear hb)
          | ((with_reducible refine gate_dst (N := 84) rfl ?_); refine Kd.N_lit (Kd.slice 3 (Kd.int .i64)) _ 22 ?hg (N' := 84) ?hd (xs := ([la, U2, lb] : List (List Int))) (inner := [.slice Ax la.length i, .slice A82 U2.length c82, .slice B lb.length cb]) (ok := fun _ => True) (okp := fun _ => True) ?hr ?hp (fun _ hk => hk) trivial (Below.refl _ _) (Nat.le_refl _) (by simp) ?_; (case hd => rfl); (case hg => rfl); (case hr => first | (go_simp; done) | (go_simp; rfl)); (case hp => exact (Reps.one (FK_row HT.out (Nat.le_of_eq HTL.out)) (Reps.one (FK_row HU2.out HU2c.out) (Reps.one (FK_row HD.out hbc) (Reps.none _ _))))); intro v84 w84 ho hb hg_ hnew_; clear hg_ hnew_; rw [← hL2.out] at ho; obtain ⟨A84, c84, rfl⟩ := Kd.N_slice ho; have HL2 := Aside0.mk (Kd.N_reads' ho).2.2; have HL2c := Aside0.mk (Kd.N_reads' ho).2.1; clear ho; clear HU2 HU2c; have n_HX := Aside0.mk (Kd.C_below HX.out hb); have n_HT := Aside0.mk (Kd.C_below HT.out hb); have n_HD := Aside0.mk (Kd.C_below HD.out hb); have n_HBX := Aside0.mk (blk_below HBX.out hb); have n_HB := Aside0.mk (below_step HB.out hb); clear HX HT HD HBX HB; have HX := n_HX; have HT := n_HT; have HD := n_HD; have HBX := n_HBX; have HB := n_HB; clear n_HX n_HT n_HD n_HBX n_HB; clear hb)
          | (go_at_call 27; (with_reducible refine (gamplaw05_joined.calls kj2 _ _ L2 J2 _ HL2.out HL2c.out ej2.out).mono ?_); rintro e w85 ⟨v85, rfl, ho, hb⟩; obtain ⟨A85, c85, rfl⟩ := Kd.R_slice ho; have HJ2 := Aside0.mk (Kd.R_reads' ho).2.2; have HJ2c := Aside0.mk (Kd.R_reads' ho).2.1; clear ho; clear HL2 HL2c; have n_HX := Aside0.mk (Kd.C_below HX.out hb); have n_HT := Aside0.mk (Kd.C_below HT.out hb); have n_HD := Aside0.mk (Kd.C_below HD.out hb); have n_HBX := Aside0.mk (blk_below HBX.out hb); have n_HB := Aside0.mk (below_step HB.out hb); clear HX HT HD HBX HB; have HX := n_HX; have HT := n_HT; have HD := n_HD; have HBX := n_HBX; have HB := n_HB; clear n_HX n_HT n_HD n_HBX n_HB; clear hb)
          | ((with_reducible refine gate_dst (N := 90) rfl ?_); refine Kd.R_lit (Kd.int .i64) _ 3 ?hg (N := 90) ?hd (xs := ([(-(kk + 1)), (-kk), (-(kk + 1))] : List Int)) (inner := [.int .i64 (-(kk + 1)), .int .i64 (-kk), .int .i64 (-(kk + 1))]) (ok := fun _ => True) (okp := fun _ => True) ?hr ?hp (fun _ hk => hk) trivial (Below.refl _ _) (Nat.le_refl _) (by simp) ?_; (case hd => rfl); (case hg => rfl); (case hr => first | (go_simp; done) | (go_simp; rfl)); (case hp => exact (Reps.one (show Kd.M (Kd.int .i64) _ _ _ (-(kk + 1)) [.int .i64 (-(kk + 1))] from rfl) (Reps.one (show Kd.M (Kd.int .i64) _ _ _ (-kk) [.int .i64 (-kk)] from rfl) (Reps.one (show Kd.M (Kd.int .i64) _ _ _ (-(kk + 1)) [.int .i64 (-(kk + 1))] from rfl) (Reps.none _ _))))); intro v90 w90 ho hb hg_ hnew_; clear hg_ hnew_; rw [← hU3.out] at ho; obtain ⟨A90, c90, rfl⟩ := Kd.R_slice ho; have HU3 := Aside0.mk (Kd.R_reads' ho).2.2; have HU3c := Aside0.mk (Kd.R_reads' ho).2.1; clear ho; have n_HX := Aside0.mk (Kd.C_below HX.out hb); have n_HT := Aside0.mk (Kd.C_below HT.out hb); have n_HD := Aside0.mk (Kd.C_below HD.out hb); have n_HJ2 := Aside0.mk (Kd.C_below HJ2.out hb); have n_HBX := Aside0.mk (blk_below HBX.out hb); have n_HB := Aside0.mk (below_step HB.out hb); clear HX HT HD HJ2 HBX HB; have HX := n_HX; have HT := n_HT; have HD := n_HD; have HJ2 := n_HJ2; have HBX := n_HBX; have HB := n_HB; clear n_HX n_HT n_HD n_HJ2 n_HBX n_HB; clear hb)
          | ((with_reducible refine gate_dst (N := 92) rfl ?_); refine Kd.N_lit (Kd.slice 3 (Kd.int .i64)) _ 22 ?hg (N' := 92) ?hd (xs := ([la, U3, lb] : List (List Int))) (inner := [.slice Ax la.length i, .slice A90 U3.length c90, .slice B lb.length cb]) (ok := fun _ => True) (okp := fun _ => True) ?hr ?hp (fun _ hk => hk) trivial (Below.refl _ _) (Nat.le_refl _) (by simp) ?_; (case hd => rfl); (case hg => rfl); (case hr => first | (go_simp; done) | (go_simp; rfl)); (case hp => exact (Reps.one (FK_row HT.out (Nat.le_of_eq HTL.out)) (Reps.one (FK_row HU3.out HU3c.out) (Reps.one (FK_row HD.out hbc) (Reps.none _ _))))); intro v92 w92 ho hb hg_ hnew_; clear hg_ hnew_; rw [← hL3.out] at ho; obtain ⟨A92, c92, rfl⟩ := Kd.N_slice ho; have HL3 := Aside0.mk (Kd.N_reads' ho).2.2; have HL3c := Aside0.mk (Kd.N_reads' ho).2.1; clear ho; clear HU3 HU3c; have n_HX := Aside0.mk (Kd.C_below HX.out hb); have n_HT := Aside0.mk (Kd.C_below HT.out hb); have n_HD := Aside0.mk (Kd.C_below HD.out hb); have n_HJ2 := Aside0.mk (Kd.C_below HJ2.out hb); have n_HBX := Aside0.mk (blk_below HBX.out hb); have n_HB := Aside0.mk (below_step HB.out hb); clear HX HT HD HJ2 HBX HB; have HX := n_HX; have HT := n_HT; have HD := n_HD; have HJ2 := n_HJ2; have HBX := n_HBX; have HB := n_HB; clear n_HX n_HT n_HD n_HJ2 n_HBX n_HB; clear hb)
          | (go_at_call 27; (with_reducible refine (gamplaw05_joined.calls kj3 _ _ L3 J3 _ HL3.out HL3c.out ej3.out).mono ?_); rintro e w93 ⟨v93, rfl, ho, hb⟩; obtain ⟨A93, c93, rfl⟩ := Kd.R_slice ho; have HJ3 := Aside0.mk (Kd.R_reads' ho).2.2; have HJ3c := Aside0.mk (Kd.R_reads' ho).2.1; clear ho; clear HL3 HL3c; have n_HX := Aside0.mk (Kd.C_below HX.out hb); have n_HT := Aside0.mk (Kd.C_below HT.out hb); have n_HD := Aside0.mk (Kd.C_below HD.out hb); have n_HJ2 := Aside0.mk (Kd.C_below HJ2.out hb); have n_HBX := Aside0.mk (blk_below HBX.out hb); have n_HB := Aside0.mk (below_step HB.out hb); clear HX HT HD HJ2 HBX HB; have HX := n_HX; have HT := n_HT; have HD := n_HD; have HJ2 := n_HJ2; have HBX := n_HBX; have HB := n_HB; clear n_HX n_HT n_HD n_HJ2 n_HBX n_HB; clear hb)
          | (go_at_call 26; (with_reducible refine (gamplaw05_same.calls ks2 m0 _ _ J2 _ _ J3 true _ HJ2.out HJ2c.out HJ3.out HJ3c.out es2.out rfl).mono ?_); rintro e w94 ⟨rfl, hb⟩; clear HJ2 HJ2c HJ3 HJ3c; have n_HX := Aside0.mk (Kd.C_below HX.out hb); have n_HT := Aside0.mk (Kd.C_below HT.out hb); have n_HD := Aside0.mk (Kd.C_below HD.out hb); have n_HBX := Aside0.mk (blk_below HBX.out hb); have n_HB := Aside0.mk (below_step HB.out hb); clear HX HT HD HBX HB; have HX := n_HX; have HT := n_HT; have HD := n_HD; have HBX := n_HBX; have HB := n_HB; clear n_HX n_HT n_HD n_HBX n_HB; clear hb))
        have y3 := (blk_cell HBX.out 3).trans (show _ = some (Value.int .u8 ot) from rfl)
        go_upto_region 15 with fail
        rw [HJJ.out]
        clear y3
        by_cases c1 : kk + 2 ≤ jj
        · have d1 : decide (jj - kk ≥ 2) = true := decide_eq_true (by omega)
          obtain ⟨kj4, ej4'⟩ := F.out.j4
          obtain ⟨kj5, ej5'⟩ := F.out.j5
          obtain ⟨ks3, es3'⟩ := F.out.s3 (.inl c1)
          generalize la ++ [(-kk), jj] ++ lb = J4 at ej4' es3'
          generalize la ++ [jj, (-kk)] ++ lb = J5 at ej5' es3'
          obtain ⟨U4, hU4'⟩ : ∃ L, L = [(-kk), jj] := ⟨_, rfl⟩
          rw [← hU4'] at ej4'
          obtain ⟨L4, hL4'⟩ : ∃ L, L = [la, U4, lb] := ⟨_, rfl⟩
          rw [← hL4'] at ej4'
          obtain ⟨U5, hU5'⟩ : ∃ L, L = [jj, (-kk)] := ⟨_, rfl⟩
          rw [← hU5'] at ej5'
          obtain ⟨L5, hL5'⟩ : ∃ L, L = [la, U5, lb] := ⟨_, rfl⟩
          rw [← hL5'] at ej5'
          have hU4 := Aside0.mk hU4'
          have hL4 := Aside0.mk hL4'
          have ej4 := Aside0.mk ej4'
          have hU5 := Aside0.mk hU5'
          have hL5 := Aside0.mk hL5'
          have ej5 := Aside0.mk ej5'
          have es3 := Aside0.mk es3'
          clear hU4' hL4' ej4' hU5' hL5' ej5' es3'
          go_wp2_with (first
              | ((with_reducible refine gate_dst (N := 119) rfl ?_); refine Kd.R_lit (Kd.int .i64) _ 3 ?hg (N := 119) ?hd (xs := ([(-kk), jj] : List Int)) (inner := [.int .i64 (-kk), .int .i64 jj]) (ok := fun _ => True) (okp := fun _ => True) ?hr ?hp (fun _ hk => hk) trivial (Below.refl _ _) (Nat.le_refl _) (by simp) ?_; (case hd => rfl); (case hg => rfl); (case hr => first | (go_simp; done) | (go_simp; rfl)); (case hp => exact (Reps.one (show Kd.M (Kd.int .i64) _ _ _ (-kk) [.int .i64 (-kk)] from rfl) (Reps.one (show Kd.M (Kd.int .i64) _ _ _ jj [.int .i64 jj] from rfl) (Reps.none _ _)))); intro v119 w119 ho hb hg_ hnew_; clear hg_ hnew_; rw [← hU4.out] at ho; obtain ⟨A119, c119, rfl⟩ := Kd.R_slice ho; have HU4 := Aside0.mk (Kd.R_reads' ho).2.2; have HU4c := Aside0.mk (Kd.R_reads' ho).2.1; clear ho; have n_HX := Aside0.mk (Kd.C_below HX.out hb); have n_HT := Aside0.mk (Kd.C_below HT.out hb); have n_HD := Aside0.mk (Kd.C_below HD.out hb); have n_HBX := Aside0.mk (blk_below HBX.out hb); have n_HB := Aside0.mk (below_step HB.out hb); clear HX HT HD HBX HB; have HX := n_HX; have HT := n_HT; have HD := n_HD; have HBX := n_HBX; have HB := n_HB; clear n_HX n_HT n_HD n_HBX n_HB; clear hb)
              | ((with_reducible refine gate_dst (N := 121) rfl ?_); refine Kd.N_lit (Kd.slice 3 (Kd.int .i64)) _ 22 ?hg (N' := 121) ?hd (xs := ([la, U4, lb] : List (List Int))) (inner := [.slice Ax la.length i, .slice A119 U4.length c119, .slice B lb.length cb]) (ok := fun _ => True) (okp := fun _ => True) ?hr ?hp (fun _ hk => hk) trivial (Below.refl _ _) (Nat.le_refl _) (by simp) ?_; (case hd => rfl); (case hg => rfl); (case hr => first | (go_simp; done) | (go_simp; rfl)); (case hp => exact (Reps.one (FK_row HT.out (Nat.le_of_eq HTL.out)) (Reps.one (FK_row HU4.out HU4c.out) (Reps.one (FK_row HD.out hbc) (Reps.none _ _))))); intro v121 w121 ho hb hg_ hnew_; clear hg_ hnew_; rw [← hL4.out] at ho; obtain ⟨A121, c121, rfl⟩ := Kd.N_slice ho; have HL4 := Aside0.mk (Kd.N_reads' ho).2.2; have HL4c := Aside0.mk (Kd.N_reads' ho).2.1; clear ho; clear HU4 HU4c; have n_HX := Aside0.mk (Kd.C_below HX.out hb); have n_HT := Aside0.mk (Kd.C_below HT.out hb); have n_HD := Aside0.mk (Kd.C_below HD.out hb); have n_HBX := Aside0.mk (blk_below HBX.out hb); have n_HB := Aside0.mk (below_step HB.out hb); clear HX HT HD HBX HB; have HX := n_HX; have HT := n_HT; have HD := n_HD; have HBX := n_HBX; have HB := n_HB; clear n_HX n_HT n_HD n_HBX n_HB; clear hb)
              | (go_at_call 27; (with_reducible refine (gamplaw05_joined.calls kj4 _ _ L4 J4 _ HL4.out HL4c.out ej4.out).mono ?_); rintro e w122 ⟨v122, rfl, ho, hb⟩; obtain ⟨A122, c122, rfl⟩ := Kd.R_slice ho; have HJ4 := Aside0.mk (Kd.R_reads' ho).2.2; have HJ4c := Aside0.mk (Kd.R_reads' ho).2.1; clear ho; clear HL4 HL4c; have n_HX := Aside0.mk (Kd.C_below HX.out hb); have n_HT := Aside0.mk (Kd.C_below HT.out hb); have n_HD := Aside0.mk (Kd.C_below HD.out hb); have n_HBX := Aside0.mk (blk_below HBX.out hb); have n_HB := Aside0.mk (below_step HB.out hb); clear HX HT HD HBX HB; have HX := n_HX; have HT := n_HT; have HD := n_HD; have HBX := n_HBX; have HB := n_HB; clear n_HX n_HT n_HD n_HBX n_HB; clear hb)
              | ((with_reducible refine gate_dst (N := 128) rfl ?_); refine Kd.R_lit (Kd.int .i64) _ 3 ?hg (N := 128) ?hd (xs := ([jj, (-kk)] : List Int)) (inner := [.int .i64 jj, .int .i64 (-kk)]) (ok := fun _ => True) (okp := fun _ => True) ?hr ?hp (fun _ hk => hk) trivial (Below.refl _ _) (Nat.le_refl _) (by simp) ?_; (case hd => rfl); (case hg => rfl); (case hr => first | (go_simp; done) | (go_simp; rfl)); (case hp => exact (Reps.one (show Kd.M (Kd.int .i64) _ _ _ jj [.int .i64 jj] from rfl) (Reps.one (show Kd.M (Kd.int .i64) _ _ _ (-kk) [.int .i64 (-kk)] from rfl) (Reps.none _ _)))); intro v128 w128 ho hb hg_ hnew_; clear hg_ hnew_; rw [← hU5.out] at ho; obtain ⟨A128, c128, rfl⟩ := Kd.R_slice ho; have HU5 := Aside0.mk (Kd.R_reads' ho).2.2; have HU5c := Aside0.mk (Kd.R_reads' ho).2.1; clear ho; have n_HX := Aside0.mk (Kd.C_below HX.out hb); have n_HT := Aside0.mk (Kd.C_below HT.out hb); have n_HD := Aside0.mk (Kd.C_below HD.out hb); have n_HJ4 := Aside0.mk (Kd.C_below HJ4.out hb); have n_HBX := Aside0.mk (blk_below HBX.out hb); have n_HB := Aside0.mk (below_step HB.out hb); clear HX HT HD HJ4 HBX HB; have HX := n_HX; have HT := n_HT; have HD := n_HD; have HJ4 := n_HJ4; have HBX := n_HBX; have HB := n_HB; clear n_HX n_HT n_HD n_HJ4 n_HBX n_HB; clear hb)
              | ((with_reducible refine gate_dst (N := 130) rfl ?_); refine Kd.N_lit (Kd.slice 3 (Kd.int .i64)) _ 22 ?hg (N' := 130) ?hd (xs := ([la, U5, lb] : List (List Int))) (inner := [.slice Ax la.length i, .slice A128 U5.length c128, .slice B lb.length cb]) (ok := fun _ => True) (okp := fun _ => True) ?hr ?hp (fun _ hk => hk) trivial (Below.refl _ _) (Nat.le_refl _) (by simp) ?_; (case hd => rfl); (case hg => rfl); (case hr => first | (go_simp; done) | (go_simp; rfl)); (case hp => exact (Reps.one (FK_row HT.out (Nat.le_of_eq HTL.out)) (Reps.one (FK_row HU5.out HU5c.out) (Reps.one (FK_row HD.out hbc) (Reps.none _ _))))); intro v130 w130 ho hb hg_ hnew_; clear hg_ hnew_; rw [← hL5.out] at ho; obtain ⟨A130, c130, rfl⟩ := Kd.N_slice ho; have HL5 := Aside0.mk (Kd.N_reads' ho).2.2; have HL5c := Aside0.mk (Kd.N_reads' ho).2.1; clear ho; clear HU5 HU5c; have n_HX := Aside0.mk (Kd.C_below HX.out hb); have n_HT := Aside0.mk (Kd.C_below HT.out hb); have n_HD := Aside0.mk (Kd.C_below HD.out hb); have n_HJ4 := Aside0.mk (Kd.C_below HJ4.out hb); have n_HBX := Aside0.mk (blk_below HBX.out hb); have n_HB := Aside0.mk (below_step HB.out hb); clear HX HT HD HJ4 HBX HB; have HX := n_HX; have HT := n_HT; have HD := n_HD; have HJ4 := n_HJ4; have HBX := n_HBX; have HB := n_HB; clear n_HX n_HT n_HD n_HJ4 n_HBX n_HB; clear hb)
              | (go_at_call 27; (with_reducible refine (gamplaw05_joined.calls kj5 _ _ L5 J5 _ HL5.out HL5c.out ej5.out).mono ?_); rintro e w131 ⟨v131, rfl, ho, hb⟩; obtain ⟨A131, c131, rfl⟩ := Kd.R_slice ho; have HJ5 := Aside0.mk (Kd.R_reads' ho).2.2; have HJ5c := Aside0.mk (Kd.R_reads' ho).2.1; clear ho; clear HL5 HL5c; have n_HX := Aside0.mk (Kd.C_below HX.out hb); have n_HT := Aside0.mk (Kd.C_below HT.out hb); have n_HD := Aside0.mk (Kd.C_below HD.out hb); have n_HJ4 := Aside0.mk (Kd.C_below HJ4.out hb); have n_HBX := Aside0.mk (blk_below HBX.out hb); have n_HB := Aside0.mk (below_step HB.out hb); clear HX HT HD HJ4 HBX HB; have HX := n_HX; have HT := n_HT; have HD := n_HD; have HJ4 := n_HJ4; have HBX := n_HBX; have HB := n_HB; clear n_HX n_HT n_HD n_HJ4 n_HBX n_HB; clear hb)
              | (go_at_call 26; (with_reducible refine (gamplaw05_same.calls ks3 m0 _ _ J4 _ _ J5 true _ HJ4.out HJ4c.out HJ5.out HJ5c.out es3.out rfl).mono ?_); rintro e w132 ⟨rfl, hb⟩; clear HJ4 HJ4c HJ5 HJ5c; have n_HX := Aside0.mk (Kd.C_below HX.out hb); have n_HT := Aside0.mk (Kd.C_below HT.out hb); have n_HD := Aside0.mk (Kd.C_below HD.out hb); have n_HBX := Aside0.mk (blk_below HBX.out hb); have n_HB := Aside0.mk (below_step HB.out hb); clear HX HT HD HBX HB; have HX := n_HX; have HT := n_HT; have HD := n_HD; have HBX := n_HBX; have HB := n_HB; clear n_HX n_HT n_HD n_HBX n_HB; clear hb))
          go_ret
          exact ⟨rfl, HB.out⟩
        · by_cases c2 : jj + 2 ≤ kk
          · have d1 : decide (jj - kk ≥ 2) = false := decide_eq_false (by omega)
            have d2 : decide (kk - jj ≥ 2) = true := decide_eq_true (by omega)
            obtain ⟨kj4, ej4'⟩ := F.out.j4
            obtain ⟨kj5, ej5'⟩ := F.out.j5
            obtain ⟨ks3, es3'⟩ := F.out.s3 (.inr c2)
            generalize la ++ [(-kk), jj] ++ lb = J4 at ej4' es3'
            generalize la ++ [jj, (-kk)] ++ lb = J5 at ej5' es3'
            obtain ⟨U4, hU4'⟩ : ∃ L, L = [(-kk), jj] := ⟨_, rfl⟩
            rw [← hU4'] at ej4'
            obtain ⟨L4, hL4'⟩ : ∃ L, L = [la, U4, lb] := ⟨_, rfl⟩
            rw [← hL4'] at ej4'
            obtain ⟨U5, hU5'⟩ : ∃ L, L = [jj, (-kk)] := ⟨_, rfl⟩
            rw [← hU5'] at ej5'
            obtain ⟨L5, hL5'⟩ : ∃ L, L = [la, U5, lb] := ⟨_, rfl⟩
            rw [← hL5'] at ej5'
            have hU4 := Aside0.mk hU4'
            have hL4 := Aside0.mk hL4'
            have ej4 := Aside0.mk ej4'
            have hU5 := Aside0.mk hU5'
            have hL5 := Aside0.mk hL5'
            have ej5 := Aside0.mk ej5'
            have es3 := Aside0.mk es3'
            clear hU4' hL4' ej4' hU5' hL5' ej5' es3'
            go_wp2_with (first
              | ((with_reducible refine gate_dst (N := 119) rfl ?_); refine Kd.R_lit (Kd.int .i64) _ 3 ?hg (N := 119) ?hd (xs := ([(-kk), jj] : List Int)) (inner := [.int .i64 (-kk), .int .i64 jj]) (ok := fun _ => True) (okp := fun _ => True) ?hr ?hp (fun _ hk => hk) trivial (Below.refl _ _) (Nat.le_refl _) (by simp) ?_; (case hd => rfl); (case hg => rfl); (case hr => first | (go_simp; done) | (go_simp; rfl)); (case hp => exact (Reps.one (show Kd.M (Kd.int .i64) _ _ _ (-kk) [.int .i64 (-kk)] from rfl) (Reps.one (show Kd.M (Kd.int .i64) _ _ _ jj [.int .i64 jj] from rfl) (Reps.none _ _)))); intro v119 w119 ho hb hg_ hnew_; clear hg_ hnew_; rw [← hU4.out] at ho; obtain ⟨A119, c119, rfl⟩ := Kd.R_slice ho; have HU4 := Aside0.mk (Kd.R_reads' ho).2.2; have HU4c := Aside0.mk (Kd.R_reads' ho).2.1; clear ho; have n_HX := Aside0.mk (Kd.C_below HX.out hb); have n_HT := Aside0.mk (Kd.C_below HT.out hb); have n_HD := Aside0.mk (Kd.C_below HD.out hb); have n_HBX := Aside0.mk (blk_below HBX.out hb); have n_HB := Aside0.mk (below_step HB.out hb); clear HX HT HD HBX HB; have HX := n_HX; have HT := n_HT; have HD := n_HD; have HBX := n_HBX; have HB := n_HB; clear n_HX n_HT n_HD n_HBX n_HB; clear hb)
              | ((with_reducible refine gate_dst (N := 121) rfl ?_); refine Kd.N_lit (Kd.slice 3 (Kd.int .i64)) _ 22 ?hg (N' := 121) ?hd (xs := ([la, U4, lb] : List (List Int))) (inner := [.slice Ax la.length i, .slice A119 U4.length c119, .slice B lb.length cb]) (ok := fun _ => True) (okp := fun _ => True) ?hr ?hp (fun _ hk => hk) trivial (Below.refl _ _) (Nat.le_refl _) (by simp) ?_; (case hd => rfl); (case hg => rfl); (case hr => first | (go_simp; done) | (go_simp; rfl)); (case hp => exact (Reps.one (FK_row HT.out (Nat.le_of_eq HTL.out)) (Reps.one (FK_row HU4.out HU4c.out) (Reps.one (FK_row HD.out hbc) (Reps.none _ _))))); intro v121 w121 ho hb hg_ hnew_; clear hg_ hnew_; rw [← hL4.out] at ho; obtain ⟨A121, c121, rfl⟩ := Kd.N_slice ho; have HL4 := Aside0.mk (Kd.N_reads' ho).2.2; have HL4c := Aside0.mk (Kd.N_reads' ho).2.1; clear ho; clear HU4 HU4c; have n_HX := Aside0.mk (Kd.C_below HX.out hb); have n_HT := Aside0.mk (Kd.C_below HT.out hb); have n_HD := Aside0.mk (Kd.C_below HD.out hb); have n_HBX := Aside0.mk (blk_below HBX.out hb); have n_HB := Aside0.mk (below_step HB.out hb); clear HX HT HD HBX HB; have HX := n_HX; have HT := n_HT; have HD := n_HD; have HBX := n_HBX; have HB := n_HB; clear n_HX n_HT n_HD n_HBX n_HB; clear hb)
              | (go_at_call 27; (with_reducible refine (gamplaw05_joined.calls kj4 _ _ L4 J4 _ HL4.out HL4c.out ej4.out).mono ?_); rintro e w122 ⟨v122, rfl, ho, hb⟩; obtain ⟨A122, c122, rfl⟩ := Kd.R_slice ho; have HJ4 := Aside0.mk (Kd.R_reads' ho).2.2; have HJ4c := Aside0.mk (Kd.R_reads' ho).2.1; clear ho; clear HL4 HL4c; have n_HX := Aside0.mk (Kd.C_below HX.out hb); have n_HT := Aside0.mk (Kd.C_below HT.out hb); have n_HD := Aside0.mk (Kd.C_below HD.out hb); have n_HBX := Aside0.mk (blk_below HBX.out hb); have n_HB := Aside0.mk (below_step HB.out hb); clear HX HT HD HBX HB; have HX := n_HX; have HT := n_HT; have HD := n_HD; have HBX := n_HBX; have HB := n_HB; clear n_HX n_HT n_HD n_HBX n_HB; clear hb)
              | ((with_reducible refine gate_dst (N := 128) rfl ?_); refine Kd.R_lit (Kd.int .i64) _ 3 ?hg (N := 128) ?hd (xs := ([jj, (-kk)] : List Int)) (inner := [.int .i64 jj, .int .i64 (-kk)]) (ok := fun _ => True) (okp := fun _ => True) ?hr ?hp (fun _ hk => hk) trivial (Below.refl _ _) (Nat.le_refl _) (by simp) ?_; (case hd => rfl); (case hg => rfl); (case hr => first | (go_simp; done) | (go_simp; rfl)); (case hp => exact (Reps.one (show Kd.M (Kd.int .i64) _ _ _ jj [.int .i64 jj] from rfl) (Reps.one (show Kd.M (Kd.int .i64) _ _ _ (-kk) [.int .i64 (-kk)] from rfl) (Reps.none _ _)))); intro v128 w128 ho hb hg_ hnew_; clear hg_ hnew_; rw [← hU5.out] at ho; obtain ⟨A128, c128, rfl⟩ := Kd.R_slice ho; have HU5 := Aside0.mk (Kd.R_reads' ho).2.2; have HU5c := Aside0.mk (Kd.R_reads' ho).2.1; clear ho; have n_HX := Aside0.mk (Kd.C_below HX.out hb); have n_HT := Aside0.mk (Kd.C_below HT.out hb); have n_HD := Aside0.mk (Kd.C_below HD.out hb); have n_HJ4 := Aside0.mk (Kd.C_below HJ4.out hb); have n_HBX := Aside0.mk (blk_below HBX.out hb); have n_HB := Aside0.mk (below_step HB.out hb); clear HX HT HD HJ4 HBX HB; have HX := n_HX; have HT := n_HT; have HD := n_HD; have HJ4 := n_HJ4; have HBX := n_HBX; have HB := n_HB; clear n_HX n_HT n_HD n_HJ4 n_HBX n_HB; clear hb)
              | ((with_reducible refine gate_dst (N := 130) rfl ?_); refine Kd.N_lit (Kd.slice 3 (Kd.int .i64)) _ 22 ?hg (N' := 130) ?hd (xs := ([la, U5, lb] : List (List Int))) (inner := [.slice Ax la.length i, .slice A128 U5.length c128, .slice B lb.length cb]) (ok := fun _ => True) (okp := fun _ => True) ?hr ?hp (fun _ hk => hk) trivial (Below.refl _ _) (Nat.le_refl _) (by simp) ?_; (case hd => rfl); (case hg => rfl); (case hr => first | (go_simp; done) | (go_simp; rfl)); (case hp => exact (Reps.one (FK_row HT.out (Nat.le_of_eq HTL.out)) (Reps.one (FK_row HU5.out HU5c.out) (Reps.one (FK_row HD.out hbc) (Reps.none _ _))))); intro v130 w130 ho hb hg_ hnew_; clear hg_ hnew_; rw [← hL5.out] at ho; obtain ⟨A130, c130, rfl⟩ := Kd.N_slice ho; have HL5 := Aside0.mk (Kd.N_reads' ho).2.2; have HL5c := Aside0.mk (Kd.N_reads' ho).2.1; clear ho; clear HU5 HU5c; have n_HX := Aside0.mk (Kd.C_below HX.out hb); have n_HT := Aside0.mk (Kd.C_below HT.out hb); have n_HD := Aside0.mk (Kd.C_below HD.out hb); have n_HJ4 := Aside0.mk (Kd.C_below HJ4.out hb); have n_HBX := Aside0.mk (blk_below HBX.out hb); have n_HB := Aside0.mk (below_step HB.out hb); clear HX HT HD HJ4 HBX HB; have HX := n_HX; have HT := n_HT; have HD := n_HD; have HJ4 := n_HJ4; have HBX := n_HBX; have HB := n_HB; clear n_HX n_HT n_HD n_HJ4 n_HBX n_HB; clear hb)
              | (go_at_call 27; (with_reducible refine (gamplaw05_joined.calls kj5 _ _ L5 J5 _ HL5.out HL5c.out ej5.out).mono ?_); rintro e w131 ⟨v131, rfl, ho, hb⟩; obtain ⟨A131, c131, rfl⟩ := Kd.R_slice ho; have HJ5 := Aside0.mk (Kd.R_reads' ho).2.2; have HJ5c := Aside0.mk (Kd.R_reads' ho).2.1; clear ho; clear HL5 HL5c; have n_HX := Aside0.mk (Kd.C_below HX.out hb); have n_HT := Aside0.mk (Kd.C_below HT.out hb); have n_HD := Aside0.mk (Kd.C_below HD.out hb); have n_HJ4 := Aside0.mk (Kd.C_below HJ4.out hb); have n_HBX := Aside0.mk (blk_below HBX.out hb); have n_HB := Aside0.mk (below_step HB.out hb); clear HX HT HD HJ4 HBX HB; have HX := n_HX; have HT := n_HT; have HD := n_HD; have HJ4 := n_HJ4; have HBX := n_HBX; have HB := n_HB; clear n_HX n_HT n_HD n_HJ4 n_HBX n_HB; clear hb)
              | (go_at_call 26; (with_reducible refine (gamplaw05_same.calls ks3 m0 _ _ J4 _ _ J5 true _ HJ4.out HJ4c.out HJ5.out HJ5c.out es3.out rfl).mono ?_); rintro e w132 ⟨rfl, hb⟩; clear HJ4 HJ4c HJ5 HJ5c; have n_HX := Aside0.mk (Kd.C_below HX.out hb); have n_HT := Aside0.mk (Kd.C_below HT.out hb); have n_HD := Aside0.mk (Kd.C_below HD.out hb); have n_HBX := Aside0.mk (blk_below HBX.out hb); have n_HB := Aside0.mk (below_step HB.out hb); clear HX HT HD HBX HB; have HX := n_HX; have HT := n_HT; have HD := n_HD; have HBX := n_HBX; have HB := n_HB; clear n_HX n_HT n_HD n_HBX n_HB; clear hb))
            go_ret
            exact ⟨rfl, HB.out⟩
          · have d1 : decide (jj - kk ≥ 2) = false := decide_eq_false (by omega)
            have d2 : decide (kk - jj ≥ 2) = false := decide_eq_false (by omega)
            go_wp2_with fail
            go_ret
            exact ⟨rfl, HB.out⟩
      · have hcb : decide (kk + 1 < m0) = false := decide_eq_false hc
        clear hc HC
        go_upto_region 14 with fail
        have y3 := (blk_cell HBX.out 3).trans (show _ = some (Value.int .u8 ot) from rfl)
        go_upto_region 15 with fail
        rw [HJJ.out]
        clear y3
        by_cases c1 : kk + 2 ≤ jj
        · have d1 : decide (jj - kk ≥ 2) = true := decide_eq_true (by omega)
          obtain ⟨kj4, ej4'⟩ := F.out.j4
          obtain ⟨kj5, ej5'⟩ := F.out.j5
          obtain ⟨ks3, es3'⟩ := F.out.s3 (.inl c1)
          generalize la ++ [(-kk), jj] ++ lb = J4 at ej4' es3'
          generalize la ++ [jj, (-kk)] ++ lb = J5 at ej5' es3'
          obtain ⟨U4, hU4'⟩ : ∃ L, L = [(-kk), jj] := ⟨_, rfl⟩
          rw [← hU4'] at ej4'
          obtain ⟨L4, hL4'⟩ : ∃ L, L = [la, U4, lb] := ⟨_, rfl⟩
          rw [← hL4'] at ej4'
          obtain ⟨U5, hU5'⟩ : ∃ L, L = [jj, (-kk)] := ⟨_, rfl⟩
          rw [← hU5'] at ej5'
          obtain ⟨L5, hL5'⟩ : ∃ L, L = [la, U5, lb] := ⟨_, rfl⟩
          rw [← hL5'] at ej5'
          have hU4 := Aside0.mk hU4'
          have hL4 := Aside0.mk hL4'
          have ej4 := Aside0.mk ej4'
          have hU5 := Aside0.mk hU5'
          have hL5 := Aside0.mk hL5'
          have ej5 := Aside0.mk ej5'
          have es3 := Aside0.mk es3'
          clear hU4' hL4' ej4' hU5' hL5' ej5' es3'
          go_wp2_with (first
              | ((with_reducible refine gate_dst (N := 119) rfl ?_); refine Kd.R_lit (Kd.int .i64) _ 3 ?hg (N := 119) ?hd (xs := ([(-kk), jj] : List Int)) (inner := [.int .i64 (-kk), .int .i64 jj]) (ok := fun _ => True) (okp := fun _ => True) ?hr ?hp (fun _ hk => hk) trivial (Below.refl _ _) (Nat.le_refl _) (by simp) ?_; (case hd => rfl); (case hg => rfl); (case hr => first | (go_simp; done) | (go_simp; rfl)); (case hp => exact (Reps.one (show Kd.M (Kd.int .i64) _ _ _ (-kk) [.int .i64 (-kk)] from rfl) (Reps.one (show Kd.M (Kd.int .i64) _ _ _ jj [.int .i64 jj] from rfl) (Reps.none _ _)))); intro v119 w119 ho hb hg_ hnew_; clear hg_ hnew_; rw [← hU4.out] at ho; obtain ⟨A119, c119, rfl⟩ := Kd.R_slice ho; have HU4 := Aside0.mk (Kd.R_reads' ho).2.2; have HU4c := Aside0.mk (Kd.R_reads' ho).2.1; clear ho; have n_HX := Aside0.mk (Kd.C_below HX.out hb); have n_HT := Aside0.mk (Kd.C_below HT.out hb); have n_HD := Aside0.mk (Kd.C_below HD.out hb); have n_HBX := Aside0.mk (blk_below HBX.out hb); have n_HB := Aside0.mk (below_step HB.out hb); clear HX HT HD HBX HB; have HX := n_HX; have HT := n_HT; have HD := n_HD; have HBX := n_HBX; have HB := n_HB; clear n_HX n_HT n_HD n_HBX n_HB; clear hb)
              | ((with_reducible refine gate_dst (N := 121) rfl ?_); refine Kd.N_lit (Kd.slice 3 (Kd.int .i64)) _ 22 ?hg (N' := 121) ?hd (xs := ([la, U4, lb] : List (List Int))) (inner := [.slice Ax la.length i, .slice A119 U4.length c119, .slice B lb.length cb]) (ok := fun _ => True) (okp := fun _ => True) ?hr ?hp (fun _ hk => hk) trivial (Below.refl _ _) (Nat.le_refl _) (by simp) ?_; (case hd => rfl); (case hg => rfl); (case hr => first | (go_simp; done) | (go_simp; rfl)); (case hp => exact (Reps.one (FK_row HT.out (Nat.le_of_eq HTL.out)) (Reps.one (FK_row HU4.out HU4c.out) (Reps.one (FK_row HD.out hbc) (Reps.none _ _))))); intro v121 w121 ho hb hg_ hnew_; clear hg_ hnew_; rw [← hL4.out] at ho; obtain ⟨A121, c121, rfl⟩ := Kd.N_slice ho; have HL4 := Aside0.mk (Kd.N_reads' ho).2.2; have HL4c := Aside0.mk (Kd.N_reads' ho).2.1; clear ho; clear HU4 HU4c; have n_HX := Aside0.mk (Kd.C_below HX.out hb); have n_HT := Aside0.mk (Kd.C_below HT.out hb); have n_HD := Aside0.mk (Kd.C_below HD.out hb); have n_HBX := Aside0.mk (blk_below HBX.out hb); have n_HB := Aside0.mk (below_step HB.out hb); clear HX HT HD HBX HB; have HX := n_HX; have HT := n_HT; have HD := n_HD; have HBX := n_HBX; have HB := n_HB; clear n_HX n_HT n_HD n_HBX n_HB; clear hb)
              | (go_at_call 27; (with_reducible refine (gamplaw05_joined.calls kj4 _ _ L4 J4 _ HL4.out HL4c.out ej4.out).mono ?_); rintro e w122 ⟨v122, rfl, ho, hb⟩; obtain ⟨A122, c122, rfl⟩ := Kd.R_slice ho; have HJ4 := Aside0.mk (Kd.R_reads' ho).2.2; have HJ4c := Aside0.mk (Kd.R_reads' ho).2.1; clear ho; clear HL4 HL4c; have n_HX := Aside0.mk (Kd.C_below HX.out hb); have n_HT := Aside0.mk (Kd.C_below HT.out hb); have n_HD := Aside0.mk (Kd.C_below HD.out hb); have n_HBX := Aside0.mk (blk_below HBX.out hb); have n_HB := Aside0.mk (below_step HB.out hb); clear HX HT HD HBX HB; have HX := n_HX; have HT := n_HT; have HD := n_HD; have HBX := n_HBX; have HB := n_HB; clear n_HX n_HT n_HD n_HBX n_HB; clear hb)
              | ((with_reducible refine gate_dst (N := 128) rfl ?_); refine Kd.R_lit (Kd.int .i64) _ 3 ?hg (N := 128) ?hd (xs := ([jj, (-kk)] : List Int)) (inner := [.int .i64 jj, .int .i64 (-kk)]) (ok := fun _ => True) (okp := fun _ => True) ?hr ?hp (fun _ hk => hk) trivial (Below.refl _ _) (Nat.le_refl _) (by simp) ?_; (case hd => rfl); (case hg => rfl); (case hr => first | (go_simp; done) | (go_simp; rfl)); (case hp => exact (Reps.one (show Kd.M (Kd.int .i64) _ _ _ jj [.int .i64 jj] from rfl) (Reps.one (show Kd.M (Kd.int .i64) _ _ _ (-kk) [.int .i64 (-kk)] from rfl) (Reps.none _ _)))); intro v128 w128 ho hb hg_ hnew_; clear hg_ hnew_; rw [← hU5.out] at ho; obtain ⟨A128, c128, rfl⟩ := Kd.R_slice ho; have HU5 := Aside0.mk (Kd.R_reads' ho).2.2; have HU5c := Aside0.mk (Kd.R_reads' ho).2.1; clear ho; have n_HX := Aside0.mk (Kd.C_below HX.out hb); have n_HT := Aside0.mk (Kd.C_below HT.out hb); have n_HD := Aside0.mk (Kd.C_below HD.out hb); have n_HJ4 := Aside0.mk (Kd.C_below HJ4.out hb); have n_HBX := Aside0.mk (blk_below HBX.out hb); have n_HB := Aside0.mk (below_step HB.out hb); clear HX HT HD HJ4 HBX HB; have HX := n_HX; have HT := n_HT; have HD := n_HD; have HJ4 := n_HJ4; have HBX := n_HBX; have HB := n_HB; clear n_HX n_HT n_HD n_HJ4 n_HBX n_HB; clear hb)
              | ((with_reducible refine gate_dst (N := 130) rfl ?_); refine Kd.N_lit (Kd.slice 3 (Kd.int .i64)) _ 22 ?hg (N' := 130) ?hd (xs := ([la, U5, lb] : List (List Int))) (inner := [.slice Ax la.length i, .slice A128 U5.length c128, .slice B lb.length cb]) (ok := fun _ => True) (okp := fun _ => True) ?hr ?hp (fun _ hk => hk) trivial (Below.refl _ _) (Nat.le_refl _) (by simp) ?_; (case hd => rfl); (case hg => rfl); (case hr => first | (go_simp; done) | (go_simp; rfl)); (case hp => exact (Reps.one (FK_row HT.out (Nat.le_of_eq HTL.out)) (Reps.one (FK_row HU5.out HU5c.out) (Reps.one (FK_row HD.out hbc) (Reps.none _ _))))); intro v130 w130 ho hb hg_ hnew_; clear hg_ hnew_; rw [← hL5.out] at ho; obtain ⟨A130, c130, rfl⟩ := Kd.N_slice ho; have HL5 := Aside0.mk (Kd.N_reads' ho).2.2; have HL5c := Aside0.mk (Kd.N_reads' ho).2.1; clear ho; clear HU5 HU5c; have n_HX := Aside0.mk (Kd.C_below HX.out hb); have n_HT := Aside0.mk (Kd.C_below HT.out hb); have n_HD := Aside0.mk (Kd.C_below HD.out hb); have n_HJ4 := Aside0.mk (Kd.C_below HJ4.out hb); have n_HBX := Aside0.mk (blk_below HBX.out hb); have n_HB := Aside0.mk (below_step HB.out hb); clear HX HT HD HJ4 HBX HB; have HX := n_HX; have HT := n_HT; have HD := n_HD; have HJ4 := n_HJ4; have HBX := n_HBX; have HB := n_HB; clear n_HX n_HT n_HD n_HJ4 n_HBX n_HB; clear hb)
              | (go_at_call 27; (with_reducible refine (gamplaw05_joined.calls kj5 _ _ L5 J5 _ HL5.out HL5c.out ej5.out).mono ?_); rintro e w131 ⟨v131, rfl, ho, hb⟩; obtain ⟨A131, c131, rfl⟩ := Kd.R_slice ho; have HJ5 := Aside0.mk (Kd.R_reads' ho).2.2; have HJ5c := Aside0.mk (Kd.R_reads' ho).2.1; clear ho; clear HL5 HL5c; have n_HX := Aside0.mk (Kd.C_below HX.out hb); have n_HT := Aside0.mk (Kd.C_below HT.out hb); have n_HD := Aside0.mk (Kd.C_below HD.out hb); have n_HJ4 := Aside0.mk (Kd.C_below HJ4.out hb); have n_HBX := Aside0.mk (blk_below HBX.out hb); have n_HB := Aside0.mk (below_step HB.out hb); clear HX HT HD HJ4 HBX HB; have HX := n_HX; have HT := n_HT; have HD := n_HD; have HJ4 := n_HJ4; have HBX := n_HBX; have HB := n_HB; clear n_HX n_HT n_HD n_HJ4 n_HBX n_HB; clear hb)
              | (go_at_call 26; (with_reducible refine (gamplaw05_same.calls ks3 m0 _ _ J4 _ _ J5 true _ HJ4.out HJ4c.out HJ5.out HJ5c.out es3.out rfl).mono ?_); rintro e w132 ⟨rfl, hb⟩; clear HJ4 HJ4c HJ5 HJ5c; have n_HX := Aside0.mk (Kd.C_below HX.out hb); have n_HT := Aside0.mk (Kd.C_below HT.out hb); have n_HD := Aside0.mk (Kd.C_below HD.out hb); have n_HBX := Aside0.mk (blk_below HBX.out hb); have n_HB := Aside0.mk (below_step HB.out hb); clear HX HT HD HBX HB; have HX := n_HX; have HT := n_HT; have HD := n_HD; have HBX := n_HBX; have HB := n_HB; clear n_HX n_HT n_HD n_HBX n_HB; clear hb))
          go_ret
          exact ⟨rfl, HB.out⟩
        · by_cases c2 : jj + 2 ≤ kk
          · have d1 : decide (jj - kk ≥ 2) = false := decide_eq_false (by omega)
            have d2 : decide (kk - jj ≥ 2) = true := decide_eq_true (by omega)
            obtain ⟨kj4, ej4'⟩ := F.out.j4
            obtain ⟨kj5, ej5'⟩ := F.out.j5
            obtain ⟨ks3, es3'⟩ := F.out.s3 (.inr c2)
            generalize la ++ [(-kk), jj] ++ lb = J4 at ej4' es3'
            generalize la ++ [jj, (-kk)] ++ lb = J5 at ej5' es3'
            obtain ⟨U4, hU4'⟩ : ∃ L, L = [(-kk), jj] := ⟨_, rfl⟩
            rw [← hU4'] at ej4'
            obtain ⟨L4, hL4'⟩ : ∃ L, L = [la, U4, lb] := ⟨_, rfl⟩
            rw [← hL4'] at ej4'
            obtain ⟨U5, hU5'⟩ : ∃ L, L = [jj, (-kk)] := ⟨_, rfl⟩
            rw [← hU5'] at ej5'
            obtain ⟨L5, hL5'⟩ : ∃ L, L = [la, U5, lb] := ⟨_, rfl⟩
            rw [← hL5'] at ej5'
            have hU4 := Aside0.mk hU4'
            have hL4 := Aside0.mk hL4'
            have ej4 := Aside0.mk ej4'
            have hU5 := Aside0.mk hU5'
            have hL5 := Aside0.mk hL5'
            have ej5 := Aside0.mk ej5'
            have es3 := Aside0.mk es3'
            clear hU4' hL4' ej4' hU5' hL5' ej5' es3'
            go_wp2_with (first
              | ((with_reducible refine gate_dst (N := 119) rfl ?_); refine Kd.R_lit (Kd.int .i64) _ 3 ?hg (N := 119) ?hd (xs := ([(-kk), jj] : List Int)) (inner := [.int .i64 (-kk), .int .i64 jj]) (ok := fun _ => True) (okp := fun _ => True) ?hr ?hp (fun _ hk => hk) trivial (Below.refl _ _) (Nat.le_refl _) (by simp) ?_; (case hd => rfl); (case hg => rfl); (case hr => first | (go_simp; done) | (go_simp; rfl)); (case hp => exact (Reps.one (show Kd.M (Kd.int .i64) _ _ _ (-kk) [.int .i64 (-kk)] from rfl) (Reps.one (show Kd.M (Kd.int .i64) _ _ _ jj [.int .i64 jj] from rfl) (Reps.none _ _)))); intro v119 w119 ho hb hg_ hnew_; clear hg_ hnew_; rw [← hU4.out] at ho; obtain ⟨A119, c119, rfl⟩ := Kd.R_slice ho; have HU4 := Aside0.mk (Kd.R_reads' ho).2.2; have HU4c := Aside0.mk (Kd.R_reads' ho).2.1; clear ho; have n_HX := Aside0.mk (Kd.C_below HX.out hb); have n_HT := Aside0.mk (Kd.C_below HT.out hb); have n_HD := Aside0.mk (Kd.C_below HD.out hb); have n_HBX := Aside0.mk (blk_below HBX.out hb); have n_HB := Aside0.mk (below_step HB.out hb); clear HX HT HD HBX HB; have HX := n_HX; have HT := n_HT; have HD := n_HD; have HBX := n_HBX; have HB := n_HB; clear n_HX n_HT n_HD n_HBX n_HB; clear hb)
              | ((with_reducible refine gate_dst (N := 121) rfl ?_); refine Kd.N_lit (Kd.slice 3 (Kd.int .i64)) _ 22 ?hg (N' := 121) ?hd (xs := ([la, U4, lb] : List (List Int))) (inner := [.slice Ax la.length i, .slice A119 U4.length c119, .slice B lb.length cb]) (ok := fun _ => True) (okp := fun _ => True) ?hr ?hp (fun _ hk => hk) trivial (Below.refl _ _) (Nat.le_refl _) (by simp) ?_; (case hd => rfl); (case hg => rfl); (case hr => first | (go_simp; done) | (go_simp; rfl)); (case hp => exact (Reps.one (FK_row HT.out (Nat.le_of_eq HTL.out)) (Reps.one (FK_row HU4.out HU4c.out) (Reps.one (FK_row HD.out hbc) (Reps.none _ _))))); intro v121 w121 ho hb hg_ hnew_; clear hg_ hnew_; rw [← hL4.out] at ho; obtain ⟨A121, c121, rfl⟩ := Kd.N_slice ho; have HL4 := Aside0.mk (Kd.N_reads' ho).2.2; have HL4c := Aside0.mk (Kd.N_reads' ho).2.1; clear ho; clear HU4 HU4c; have n_HX := Aside0.mk (Kd.C_below HX.out hb); have n_HT := Aside0.mk (Kd.C_below HT.out hb); have n_HD := Aside0.mk (Kd.C_below HD.out hb); have n_HBX := Aside0.mk (blk_below HBX.out hb); have n_HB := Aside0.mk (below_step HB.out hb); clear HX HT HD HBX HB; have HX := n_HX; have HT := n_HT; have HD := n_HD; have HBX := n_HBX; have HB := n_HB; clear n_HX n_HT n_HD n_HBX n_HB; clear hb)
              | (go_at_call 27; (with_reducible refine (gamplaw05_joined.calls kj4 _ _ L4 J4 _ HL4.out HL4c.out ej4.out).mono ?_); rintro e w122 ⟨v122, rfl, ho, hb⟩; obtain ⟨A122, c122, rfl⟩ := Kd.R_slice ho; have HJ4 := Aside0.mk (Kd.R_reads' ho).2.2; have HJ4c := Aside0.mk (Kd.R_reads' ho).2.1; clear ho; clear HL4 HL4c; have n_HX := Aside0.mk (Kd.C_below HX.out hb); have n_HT := Aside0.mk (Kd.C_below HT.out hb); have n_HD := Aside0.mk (Kd.C_below HD.out hb); have n_HBX := Aside0.mk (blk_below HBX.out hb); have n_HB := Aside0.mk (below_step HB.out hb); clear HX HT HD HBX HB; have HX := n_HX; have HT := n_HT; have HD := n_HD; have HBX := n_HBX; have HB := n_HB; clear n_HX n_HT n_HD n_HBX n_HB; clear hb)
              | ((with_reducible refine gate_dst (N := 128) rfl ?_); refine Kd.R_lit (Kd.int .i64) _ 3 ?hg (N := 128) ?hd (xs := ([jj, (-kk)] : List Int)) (inner := [.int .i64 jj, .int .i64 (-kk)]) (ok := fun _ => True) (okp := fun _ => True) ?hr ?hp (fun _ hk => hk) trivial (Below.refl _ _) (Nat.le_refl _) (by simp) ?_; (case hd => rfl); (case hg => rfl); (case hr => first | (go_simp; done) | (go_simp; rfl)); (case hp => exact (Reps.one (show Kd.M (Kd.int .i64) _ _ _ jj [.int .i64 jj] from rfl) (Reps.one (show Kd.M (Kd.int .i64) _ _ _ (-kk) [.int .i64 (-kk)] from rfl) (Reps.none _ _)))); intro v128 w128 ho hb hg_ hnew_; clear hg_ hnew_; rw [← hU5.out] at ho; obtain ⟨A128, c128, rfl⟩ := Kd.R_slice ho; have HU5 := Aside0.mk (Kd.R_reads' ho).2.2; have HU5c := Aside0.mk (Kd.R_reads' ho).2.1; clear ho; have n_HX := Aside0.mk (Kd.C_below HX.out hb); have n_HT := Aside0.mk (Kd.C_below HT.out hb); have n_HD := Aside0.mk (Kd.C_below HD.out hb); have n_HJ4 := Aside0.mk (Kd.C_below HJ4.out hb); have n_HBX := Aside0.mk (blk_below HBX.out hb); have n_HB := Aside0.mk (below_step HB.out hb); clear HX HT HD HJ4 HBX HB; have HX := n_HX; have HT := n_HT; have HD := n_HD; have HJ4 := n_HJ4; have HBX := n_HBX; have HB := n_HB; clear n_HX n_HT n_HD n_HJ4 n_HBX n_HB; clear hb)
              | ((with_reducible refine gate_dst (N := 130) rfl ?_); refine Kd.N_lit (Kd.slice 3 (Kd.int .i64)) _ 22 ?hg (N' := 130) ?hd (xs := ([la, U5, lb] : List (List Int))) (inner := [.slice Ax la.length i, .slice A128 U5.length c128, .slice B lb.length cb]) (ok := fun _ => True) (okp := fun _ => True) ?hr ?hp (fun _ hk => hk) trivial (Below.refl _ _) (Nat.le_refl _) (by simp) ?_; (case hd => rfl); (case hg => rfl); (case hr => first | (go_simp; done) | (go_simp; rfl)); (case hp => exact (Reps.one (FK_row HT.out (Nat.le_of_eq HTL.out)) (Reps.one (FK_row HU5.out HU5c.out) (Reps.one (FK_row HD.out hbc) (Reps.none _ _))))); intro v130 w130 ho hb hg_ hnew_; clear hg_ hnew_; rw [← hL5.out] at ho; obtain ⟨A130, c130, rfl⟩ := Kd.N_slice ho; have HL5 := Aside0.mk (Kd.N_reads' ho).2.2; have HL5c := Aside0.mk (Kd.N_reads' ho).2.1; clear ho; clear HU5 HU5c; have n_HX := Aside0.mk (Kd.C_below HX.out hb); have n_HT := Aside0.mk (Kd.C_below HT.out hb); have n_HD := Aside0.mk (Kd.C_below HD.out hb); have n_HJ4 := Aside0.mk (Kd.C_below HJ4.out hb); have n_HBX := Aside0.mk (blk_below HBX.out hb); have n_HB := Aside0.mk (below_step HB.out hb); clear HX HT HD HJ4 HBX HB; have HX := n_HX; have HT := n_HT; have HD := n_HD; have HJ4 := n_HJ4; have HBX := n_HBX; have HB := n_HB; clear n_HX n_HT n_HD n_HJ4 n_HBX n_HB; clear hb)
              | (go_at_call 27; (with_reducible refine (gamplaw05_joined.calls kj5 _ _ L5 J5 _ HL5.out HL5c.out ej5.out).mono ?_); rintro e w131 ⟨v131, rfl, ho, hb⟩; obtain ⟨A131, c131, rfl⟩ := Kd.R_slice ho; have HJ5 := Aside0.mk (Kd.R_reads' ho).2.2; have HJ5c := Aside0.mk (Kd.R_reads' ho).2.1; clear ho; clear HL5 HL5c; have n_HX := Aside0.mk (Kd.C_below HX.out hb); have n_HT := Aside0.mk (Kd.C_below HT.out hb); have n_HD := Aside0.mk (Kd.C_below HD.out hb); have n_HJ4 := Aside0.mk (Kd.C_below HJ4.out hb); have n_HBX := Aside0.mk (blk_below HBX.out hb); have n_HB := Aside0.mk (below_step HB.out hb); clear HX HT HD HJ4 HBX HB; have HX := n_HX; have HT := n_HT; have HD := n_HD; have HJ4 := n_HJ4; have HBX := n_HBX; have HB := n_HB; clear n_HX n_HT n_HD n_HJ4 n_HBX n_HB; clear hb)
              | (go_at_call 26; (with_reducible refine (gamplaw05_same.calls ks3 m0 _ _ J4 _ _ J5 true _ HJ4.out HJ4c.out HJ5.out HJ5c.out es3.out rfl).mono ?_); rintro e w132 ⟨rfl, hb⟩; clear HJ4 HJ4c HJ5 HJ5c; have n_HX := Aside0.mk (Kd.C_below HX.out hb); have n_HT := Aside0.mk (Kd.C_below HT.out hb); have n_HD := Aside0.mk (Kd.C_below HD.out hb); have n_HBX := Aside0.mk (blk_below HBX.out hb); have n_HB := Aside0.mk (below_step HB.out hb); clear HX HT HD HBX HB; have HX := n_HX; have HT := n_HT; have HD := n_HD; have HBX := n_HBX; have HB := n_HB; clear n_HX n_HT n_HD n_HBX n_HB; clear hb))
            go_ret
            exact ⟨rfl, HB.out⟩
          · have d1 : decide (jj - kk ≥ 2) = false := decide_eq_false (by omega)
            have d2 : decide (kk - jj ≥ 2) = false := decide_eq_false (by omega)
            go_wp2_with fail
            go_ret
            exact ⟨rfl, HB.out⟩
    | false =>
      go_upto_region 8 with fail
      have F0 := StF.of (n := n) hn1 (by omega) HW.out hl HLA.out HLB.out (s := 1) (.inl rfl) hk1 (by have := HM.out; omega) hj1 (by have := HM.out; omega)
      rw [← HM.out] at F0
      rw [show (1 : Int) * kk = kk by omega, show - (1 : Int) * kk = -kk by omega, show (1 : Int) * (kk + 1) = kk + 1 by omega] at F0
      have F := Aside0.mk F0
      clear F0
      obtain ⟨kj1, ej1'⟩ := F.out.j1
      obtain ⟨ks1, es1'⟩ := F.out.s1
      obtain ⟨kl, el'⟩ := F.out.li
      generalize la ++ [kk, (-kk)] ++ lb = J1 at ej1' es1'
      obtain ⟨U1, hU1'⟩ : ∃ L, L = [kk, (-kk)] := ⟨_, rfl⟩
      rw [← hU1'] at ej1'
      obtain ⟨L1, hL1'⟩ : ∃ L, L = [la, U1, lb] := ⟨_, rfl⟩
      rw [← hL1'] at ej1'
      have hU1 := Aside0.mk hU1'
      have hL1 := Aside0.mk hL1'
      have ej1 := Aside0.mk ej1'
      have es1 := Aside0.mk es1'
      have el := Aside0.mk el'
      clear hU1' hL1' ej1' es1' el'
      go_upto_region 10 with (first
        | ((with_reducible refine gate_dst (N := 56) rfl ?_); refine Kd.R_lit (Kd.int .i64) _ 3 ?hg (N := 56) ?hd (xs := ([kk, (-kk)] : List Int)) (inner := [.int .i64 kk, .int .i64 (-kk)]) (ok := fun _ => True) (okp := fun _ => True) ?hr ?hp (fun _ hk => hk) trivial (Below.refl _ _) (Nat.le_refl _) (by simp) ?_; (case hd => rfl); (case hg => rfl); (case hr => first | (go_simp; done) | (go_simp; rfl)); (case hp => exact (Reps.one (show Kd.M (Kd.int .i64) _ _ _ kk [.int .i64 kk] from rfl) (Reps.one (show Kd.M (Kd.int .i64) _ _ _ (-kk) [.int .i64 (-kk)] from rfl) (Reps.none _ _)))); intro v56 w56 ho hb hg_ hnew_; clear hg_ hnew_; rw [← hU1.out] at ho; obtain ⟨A56, c56, rfl⟩ := Kd.R_slice ho; have HU1 := Aside0.mk (Kd.R_reads' ho).2.2; have HU1c := Aside0.mk (Kd.R_reads' ho).2.1; clear ho; have n_HX := Aside0.mk (Kd.C_below HX.out hb); have n_HT := Aside0.mk (Kd.C_below HT.out hb); have n_HD := Aside0.mk (Kd.C_below HD.out hb); have n_HBX := Aside0.mk (blk_below HBX.out hb); have n_HB := Aside0.mk (below_step HB.out hb); clear HX HT HD HBX HB; have HX := n_HX; have HT := n_HT; have HD := n_HD; have HBX := n_HBX; have HB := n_HB; clear n_HX n_HT n_HD n_HBX n_HB; clear hb)
        | ((with_reducible refine gate_dst (N := 58) rfl ?_); refine Kd.N_lit (Kd.slice 3 (Kd.int .i64)) _ 22 ?hg (N' := 58) ?hd (xs := ([la, U1, lb] : List (List Int))) (inner := [.slice Ax la.length i, .slice A56 U1.length c56, .slice B lb.length cb]) (ok := fun _ => True) (okp := fun _ => True) ?hr ?hp (fun _ hk => hk) trivial (Below.refl _ _) (Nat.le_refl _) (by simp) ?_; (case hd => rfl); (case hg => rfl); (case hr => first | (go_simp; done) | (go_simp; rfl)); (case hp => exact (Reps.one (FK_row HT.out (Nat.le_of_eq HTL.out)) (Reps.one (FK_row HU1.out HU1c.out) (Reps.one (FK_row HD.out hbc) (Reps.none _ _))))); intro v58 w58 ho hb hg_ hnew_; clear hg_ hnew_; rw [← hL1.out] at ho; obtain ⟨A58, c58, rfl⟩ := Kd.N_slice ho; have HL1 := Aside0.mk (Kd.N_reads' ho).2.2; have HL1c := Aside0.mk (Kd.N_reads' ho).2.1; clear ho; clear HU1 HU1c; have n_HX := Aside0.mk (Kd.C_below HX.out hb); have n_HT := Aside0.mk (Kd.C_below HT.out hb); have n_HD := Aside0.mk (Kd.C_below HD.out hb); have n_HBX := Aside0.mk (blk_below HBX.out hb); have n_HB := Aside0.mk (below_step HB.out hb); clear HX HT HD HBX HB; have HX := n_HX; have HT := n_HT; have HD := n_HD; have HBX := n_HBX; have HB := n_HB; clear n_HX n_HT n_HD n_HBX n_HB; clear hb)
        | (go_at_call 27; (with_reducible refine (gamplaw05_joined.calls kj1 _ _ L1 J1 _ HL1.out HL1c.out ej1.out).mono ?_); rintro e w59 ⟨v59, rfl, ho, hb⟩; obtain ⟨A59, c59, rfl⟩ := Kd.R_slice ho; have HJ1 := Aside0.mk (Kd.R_reads' ho).2.2; have HJ1c := Aside0.mk (Kd.R_reads' ho).2.1; clear ho; clear HL1 HL1c; have n_HX := Aside0.mk (Kd.C_below HX.out hb); have n_HT := Aside0.mk (Kd.C_below HT.out hb); have n_HD := Aside0.mk (Kd.C_below HD.out hb); have n_HBX := Aside0.mk (blk_below HBX.out hb); have n_HB := Aside0.mk (below_step HB.out hb); clear HX HT HD HBX HB; have HX := n_HX; have HT := n_HT; have HD := n_HD; have HBX := n_HBX; have HB := n_HB; clear n_HX n_HT n_HD n_HBX n_HB; clear hb)
        | (go_at_call 26; (with_reducible refine (gamplaw05_same.calls ks1 m0 _ _ xs _ _ J1 true _ HX.out HXc.out HJ1.out HJ1c.out es1.out rfl).mono ?_); rintro e w60 ⟨rfl, hb⟩; clear HJ1 HJ1c; have n_HX := Aside0.mk (Kd.C_below HX.out hb); have n_HT := Aside0.mk (Kd.C_below HT.out hb); have n_HD := Aside0.mk (Kd.C_below HD.out hb); have n_HBX := Aside0.mk (blk_below HBX.out hb); have n_HB := Aside0.mk (below_step HB.out hb); clear HX HT HD HBX HB; have HX := n_HX; have HT := n_HT; have HD := n_HD; have HBX := n_HBX; have HB := n_HB; clear n_HX n_HT n_HD n_HBX n_HB; clear hb)
        | (go_at_call 20; (with_reducible refine (gamplaw05_lives.calls kl true _ el.out).mono ?_); rintro e w63 ⟨rfl, hb⟩; have n_HX := Aside0.mk (Kd.C_below HX.out hb); have n_HT := Aside0.mk (Kd.C_below HT.out hb); have n_HD := Aside0.mk (Kd.C_below HD.out hb); have n_HBX := Aside0.mk (blk_below HBX.out hb); have n_HB := Aside0.mk (below_step HB.out hb); clear HX HT HD HBX HB; have HX := n_HX; have HT := n_HT; have HD := n_HD; have HBX := n_HBX; have HB := n_HB; clear n_HX n_HT n_HD n_HBX n_HB; clear hb))
      have HC := Aside0.mk F.out.s2
      by_cases hc : kk + 1 < m0
      · have hcb : decide (kk + 1 < m0) = true := decide_eq_true hc
        obtain ⟨kj2, ej2'⟩ := F.out.j2
        obtain ⟨kj3, ej3'⟩ := F.out.j3
        obtain ⟨ks2, es2'⟩ := F.out.s2 hc
        generalize la ++ [kk, (kk + 1), kk] ++ lb = J2 at ej2' es2'
        generalize la ++ [(kk + 1), kk, (kk + 1)] ++ lb = J3 at ej3' es2'
        obtain ⟨U2, hU2'⟩ : ∃ L, L = [kk, (kk + 1), kk] := ⟨_, rfl⟩
        rw [← hU2'] at ej2'
        obtain ⟨L2, hL2'⟩ : ∃ L, L = [la, U2, lb] := ⟨_, rfl⟩
        rw [← hL2'] at ej2'
        obtain ⟨U3, hU3'⟩ : ∃ L, L = [(kk + 1), kk, (kk + 1)] := ⟨_, rfl⟩
        rw [← hU3'] at ej3'
        obtain ⟨L3, hL3'⟩ : ∃ L, L = [la, U3, lb] := ⟨_, rfl⟩
        rw [← hL3'] at ej3'
        have hU2 := Aside0.mk hU2'
        have hL2 := Aside0.mk hL2'
        have ej2 := Aside0.mk ej2'
        have hU3 := Aside0.mk hU3'
        have hL3 := Aside0.mk hL3'
        have ej3 := Aside0.mk ej3'
        have es2 := Aside0.mk es2'
        clear hU2' hL2' ej2' hU3' hL3' ej3' es2' hc HC
        go_upto_region 14 with (first
          | ((with_reducible refine gate_dst (N := 82) rfl ?_); refine Kd.R_lit (Kd.int .i64) _ 3 ?hg (N := 82) ?hd (xs := ([kk, (kk + 1), kk] : List Int)) (inner := [.int .i64 kk, .int .i64 (kk + 1), .int .i64 kk]) (ok := fun _ => True) (okp := fun _ => True) ?hr ?hp (fun _ hk => hk) trivial (Below.refl _ _) (Nat.le_refl _) (by simp) ?_; (case hd => rfl); (case hg => rfl); (case hr => first | (go_simp; done) | (go_simp; rfl)); (case hp => exact (Reps.one (show Kd.M (Kd.int .i64) _ _ _ kk [.int .i64 kk] from rfl) (Reps.one (show Kd.M (Kd.int .i64) _ _ _ (kk + 1) [.int .i64 (kk + 1)] from rfl) (Reps.one (show Kd.M (Kd.int .i64) _ _ _ kk [.int .i64 kk] from rfl) (Reps.none _ _))))); intro v82 w82 ho hb hg_ hnew_; clear hg_ hnew_; rw [← hU2.out] at ho; obtain ⟨A82, c82, rfl⟩ := Kd.R_slice ho; have HU2 := Aside0.mk (Kd.R_reads' ho).2.2; have HU2c := Aside0.mk (Kd.R_reads' ho).2.1; clear ho; have n_HX := Aside0.mk (Kd.C_below HX.out hb); have n_HT := Aside0.mk (Kd.C_below HT.out hb); have n_HD := Aside0.mk (Kd.C_below HD.out hb); have n_HBX := Aside0.mk (blk_below HBX.out hb); have n_HB := Aside0.mk (below_step HB.out hb); clear HX HT HD HBX HB; have HX := n_HX; have HT := n_HT; have HD := n_HD; have HBX := n_HBX; have HB := n_HB; clear n_HX n_HT n_HD n_HBX n_HB; clear hb)
          | ((with_reducible refine gate_dst (N := 84) rfl ?_); refine Kd.N_lit (Kd.slice 3 (Kd.int .i64)) _ 22 ?hg (N' := 84) ?hd (xs := ([la, U2, lb] : List (List Int))) (inner := [.slice Ax la.length i, .slice A82 U2.length c82, .slice B lb.length cb]) (ok := fun _ => True) (okp := fun _ => True) ?hr ?hp (fun _ hk => hk) trivial (Below.refl _ _) (Nat.le_refl _) (by simp) ?_; (case hd => rfl); (case hg => rfl); (case hr => first | (go_simp; done) | (go_simp; rfl)); (case hp => exact (Reps.one (FK_row HT.out (Nat.le_of_eq HTL.out)) (Reps.one (FK_row HU2.out HU2c.out) (Reps.one (FK_row HD.out hbc) (Reps.none _ _))))); intro v84 w84 ho hb hg_ hnew_; clear hg_ hnew_; rw [← hL2.out] at ho; obtain ⟨A84, c84, rfl⟩ := Kd.N_slice ho; have HL2 := Aside0.mk (Kd.N_reads' ho).2.2; have HL2c := Aside0.mk (Kd.N_reads' ho).2.1; clear ho; clear HU2 HU2c; have n_HX := Aside0.mk (Kd.C_below HX.out hb); have n_HT := Aside0.mk (Kd.C_below HT.out hb); have n_HD := Aside0.mk (Kd.C_below HD.out hb); have n_HBX := Aside0.mk (blk_below HBX.out hb); have n_HB := Aside0.mk (below_step HB.out hb); clear HX HT HD HBX HB; have HX := n_HX; have HT := n_HT; have HD := n_HD; have HBX := n_HBX; have HB := n_HB; clear n_HX n_HT n_HD n_HBX n_HB; clear hb)
          | (go_at_call 27; (with_reducible refine (gamplaw05_joined.calls kj2 _ _ L2 J2 _ HL2.out HL2c.out ej2.out).mono ?_); rintro e w85 ⟨v85, rfl, ho, hb⟩; obtain ⟨A85, c85, rfl⟩ := Kd.R_slice ho; have HJ2 := Aside0.mk (Kd.R_reads' ho).2.2; have HJ2c := Aside0.mk (Kd.R_reads' ho).2.1; clear ho; clear HL2 HL2c; have n_HX := Aside0.mk (Kd.C_below HX.out hb); have n_HT := Aside0.mk (Kd.C_below HT.out hb); have n_HD := Aside0.mk (Kd.C_below HD.out hb); have n_HBX := Aside0.mk (blk_below HBX.out hb); have n_HB := Aside0.mk (below_step HB.out hb); clear HX HT HD HBX HB; have HX := n_HX; have HT := n_HT; have HD := n_HD; have HBX := n_HBX; have HB := n_HB; clear n_HX n_HT n_HD n_HBX n_HB; clear hb)
          | ((with_reducible refine gate_dst (N := 90) rfl ?_); refine Kd.R_lit (Kd.int .i64) _ 3 ?hg (N := 90) ?hd (xs := ([(kk + 1), kk, (kk + 1)] : List Int)) (inner := [.int .i64 (kk + 1), .int .i64 kk, .int .i64 (kk + 1)]) (ok := fun _ => True) (okp := fun _ => True) ?hr ?hp (fun _ hk => hk) trivial (Below.refl _ _) (Nat.le_refl _) (by simp) ?_; (case hd => rfl); (case hg => rfl); (case hr => first | (go_simp; done) | (go_simp; rfl)); (case hp => exact (Reps.one (show Kd.M (Kd.int .i64) _ _ _ (kk + 1) [.int .i64 (kk + 1)] from rfl) (Reps.one (show Kd.M (Kd.int .i64) _ _ _ kk [.int .i64 kk] from rfl) (Reps.one (show Kd.M (Kd.int .i64) _ _ _ (kk + 1) [.int .i64 (kk + 1)] from rfl) (Reps.none _ _))))); intro v90 w90 ho hb hg_ hnew_; clear hg_ hnew_; rw [← hU3.out] at ho; obtain ⟨A90, c90, rfl⟩ := Kd.R_slice ho; have HU3 := Aside0.mk (Kd.R_reads' ho).2.2; have HU3c := Aside0.mk (Kd.R_reads' ho).2.1; clear ho; have n_HX := Aside0.mk (Kd.C_below HX.out hb); have n_HT := Aside0.mk (Kd.C_below HT.out hb); have n_HD := Aside0.mk (Kd.C_below HD.out hb); have n_HJ2 := Aside0.mk (Kd.C_below HJ2.out hb); have n_HBX := Aside0.mk (blk_below HBX.out hb); have n_HB := Aside0.mk (below_step HB.out hb); clear HX HT HD HJ2 HBX HB; have HX := n_HX; have HT := n_HT; have HD := n_HD; have HJ2 := n_HJ2; have HBX := n_HBX; have HB := n_HB; clear n_HX n_HT n_HD n_HJ2 n_HBX n_HB; clear hb)
          | ((with_reducible refine gate_dst (N := 92) rfl ?_); refine Kd.N_lit (Kd.slice 3 (Kd.int .i64)) _ 22 ?hg (N' := 92) ?hd (xs := ([la, U3, lb] : List (List Int))) (inner := [.slice Ax la.length i, .slice A90 U3.length c90, .slice B lb.length cb]) (ok := fun _ => True) (okp := fun _ => True) ?hr ?hp (fun _ hk => hk) trivial (Below.refl _ _) (Nat.le_refl _) (by simp) ?_; (case hd => rfl); (case hg => rfl); (case hr => first | (go_simp; done) | (go_simp; rfl)); (case hp => exact (Reps.one (FK_row HT.out (Nat.le_of_eq HTL.out)) (Reps.one (FK_row HU3.out HU3c.out) (Reps.one (FK_row HD.out hbc) (Reps.none _ _))))); intro v92 w92 ho hb hg_ hnew_; clear hg_ hnew_; rw [← hL3.out] at ho; obtain ⟨A92, c92, rfl⟩ := Kd.N_slice ho; have HL3 := Aside0.mk (Kd.N_reads' ho).2.2; have HL3c := Aside0.mk (Kd.N_reads' ho).2.1; clear ho; clear HU3 HU3c; have n_HX := Aside0.mk (Kd.C_below HX.out hb); have n_HT := Aside0.mk (Kd.C_below HT.out hb); have n_HD := Aside0.mk (Kd.C_below HD.out hb); have n_HJ2 := Aside0.mk (Kd.C_below HJ2.out hb); have n_HBX := Aside0.mk (blk_below HBX.out hb); have n_HB := Aside0.mk (below_step HB.out hb); clear HX HT HD HJ2 HBX HB; have HX := n_HX; have HT := n_HT; have HD := n_HD; have HJ2 := n_HJ2; have HBX := n_HBX; have HB := n_HB; clear n_HX n_HT n_HD n_HJ2 n_HBX n_HB; clear hb)
          | (go_at_call 27; (with_reducible refine (gamplaw05_joined.calls kj3 _ _ L3 J3 _ HL3.out HL3c.out ej3.out).mono ?_); rintro e w93 ⟨v93, rfl, ho, hb⟩; obtain ⟨A93, c93, rfl⟩ := Kd.R_slice ho; have HJ3 := Aside0.mk (Kd.R_reads' ho).2.2; have HJ3c := Aside0.mk (Kd.R_reads' ho).2.1; clear ho; clear HL3 HL3c; have n_HX := Aside0.mk (Kd.C_below HX.out hb); have n_HT := Aside0.mk (Kd.C_below HT.out hb); have n_HD := Aside0.mk (Kd.C_below HD.out hb); have n_HJ2 := Aside0.mk (Kd.C_below HJ2.out hb); have n_HBX := Aside0.mk (blk_below HBX.out hb); have n_HB := Aside0.mk (below_step HB.out hb); clear HX HT HD HJ2 HBX HB; have HX := n_HX; have HT := n_HT; have HD := n_HD; have HJ2 := n_HJ2; have HBX := n_HBX; have HB := n_HB; clear n_HX n_HT n_HD n_HJ2 n_HBX n_HB; clear hb)
          | (go_at_call 26; (with_reducible refine (gamplaw05_same.calls ks2 m0 _ _ J2 _ _ J3 true _ HJ2.out HJ2c.out HJ3.out HJ3c.out es2.out rfl).mono ?_); rintro e w94 ⟨rfl, hb⟩; clear HJ2 HJ2c HJ3 HJ3c; have n_HX := Aside0.mk (Kd.C_below HX.out hb); have n_HT := Aside0.mk (Kd.C_below HT.out hb); have n_HD := Aside0.mk (Kd.C_below HD.out hb); have n_HBX := Aside0.mk (blk_below HBX.out hb); have n_HB := Aside0.mk (below_step HB.out hb); clear HX HT HD HBX HB; have HX := n_HX; have HT := n_HT; have HD := n_HD; have HBX := n_HBX; have HB := n_HB; clear n_HX n_HT n_HD n_HBX n_HB; clear hb))
        have y3 := (blk_cell HBX.out 3).trans (show _ = some (Value.int .u8 ot) from rfl)
        go_upto_region 15 with fail
        rw [HJJ.out]
        clear y3
        by_cases c1 : kk + 2 ≤ jj
        · have d1 : decide (jj - kk ≥ 2) = true := decide_eq_true (by omega)
          obtain ⟨kj4, ej4'⟩ := F.out.j4
          obtain ⟨kj5, ej5'⟩ := F.out.j5
          obtain ⟨ks3, es3'⟩ := F.out.s3 (.inl c1)
          generalize la ++ [kk, jj] ++ lb = J4 at ej4' es3'
          generalize la ++ [jj, kk] ++ lb = J5 at ej5' es3'
          obtain ⟨U4, hU4'⟩ : ∃ L, L = [kk, jj] := ⟨_, rfl⟩
          rw [← hU4'] at ej4'
          obtain ⟨L4, hL4'⟩ : ∃ L, L = [la, U4, lb] := ⟨_, rfl⟩
          rw [← hL4'] at ej4'
          obtain ⟨U5, hU5'⟩ : ∃ L, L = [jj, kk] := ⟨_, rfl⟩
          rw [← hU5'] at ej5'
          obtain ⟨L5, hL5'⟩ : ∃ L, L = [la, U5, lb] := ⟨_, rfl⟩
          rw [← hL5'] at ej5'
          have hU4 := Aside0.mk hU4'
          have hL4 := Aside0.mk hL4'
          have ej4 := Aside0.mk ej4'
          have hU5 := Aside0.mk hU5'
          have hL5 := Aside0.mk hL5'
          have ej5 := Aside0.mk ej5'
          have es3 := Aside0.mk es3'
          clear hU4' hL4' ej4' hU5' hL5' ej5' es3'
          go_wp2_with (first
              | ((with_reducible refine gate_dst (N := 119) rfl ?_); refine Kd.R_lit (Kd.int .i64) _ 3 ?hg (N := 119) ?hd (xs := ([kk, jj] : List Int)) (inner := [.int .i64 kk, .int .i64 jj]) (ok := fun _ => True) (okp := fun _ => True) ?hr ?hp (fun _ hk => hk) trivial (Below.refl _ _) (Nat.le_refl _) (by simp) ?_; (case hd => rfl); (case hg => rfl); (case hr => first | (go_simp; done) | (go_simp; rfl)); (case hp => exact (Reps.one (show Kd.M (Kd.int .i64) _ _ _ kk [.int .i64 kk] from rfl) (Reps.one (show Kd.M (Kd.int .i64) _ _ _ jj [.int .i64 jj] from rfl) (Reps.none _ _)))); intro v119 w119 ho hb hg_ hnew_; clear hg_ hnew_; rw [← hU4.out] at ho; obtain ⟨A119, c119, rfl⟩ := Kd.R_slice ho; have HU4 := Aside0.mk (Kd.R_reads' ho).2.2; have HU4c := Aside0.mk (Kd.R_reads' ho).2.1; clear ho; have n_HX := Aside0.mk (Kd.C_below HX.out hb); have n_HT := Aside0.mk (Kd.C_below HT.out hb); have n_HD := Aside0.mk (Kd.C_below HD.out hb); have n_HBX := Aside0.mk (blk_below HBX.out hb); have n_HB := Aside0.mk (below_step HB.out hb); clear HX HT HD HBX HB; have HX := n_HX; have HT := n_HT; have HD := n_HD; have HBX := n_HBX; have HB := n_HB; clear n_HX n_HT n_HD n_HBX n_HB; clear hb)
              | ((with_reducible refine gate_dst (N := 121) rfl ?_); refine Kd.N_lit (Kd.slice 3 (Kd.int .i64)) _ 22 ?hg (N' := 121) ?hd (xs := ([la, U4, lb] : List (List Int))) (inner := [.slice Ax la.length i, .slice A119 U4.length c119, .slice B lb.length cb]) (ok := fun _ => True) (okp := fun _ => True) ?hr ?hp (fun _ hk => hk) trivial (Below.refl _ _) (Nat.le_refl _) (by simp) ?_; (case hd => rfl); (case hg => rfl); (case hr => first | (go_simp; done) | (go_simp; rfl)); (case hp => exact (Reps.one (FK_row HT.out (Nat.le_of_eq HTL.out)) (Reps.one (FK_row HU4.out HU4c.out) (Reps.one (FK_row HD.out hbc) (Reps.none _ _))))); intro v121 w121 ho hb hg_ hnew_; clear hg_ hnew_; rw [← hL4.out] at ho; obtain ⟨A121, c121, rfl⟩ := Kd.N_slice ho; have HL4 := Aside0.mk (Kd.N_reads' ho).2.2; have HL4c := Aside0.mk (Kd.N_reads' ho).2.1; clear ho; clear HU4 HU4c; have n_HX := Aside0.mk (Kd.C_below HX.out hb); have n_HT := Aside0.mk (Kd.C_below HT.out hb); have n_HD := Aside0.mk (Kd.C_below HD.out hb); have n_HBX := Aside0.mk (blk_below HBX.out hb); have n_HB := Aside0.mk (below_step HB.out hb); clear HX HT HD HBX HB; have HX := n_HX; have HT := n_HT; have HD := n_HD; have HBX := n_HBX; have HB := n_HB; clear n_HX n_HT n_HD n_HBX n_HB; clear hb)
              | (go_at_call 27; (with_reducible refine (gamplaw05_joined.calls kj4 _ _ L4 J4 _ HL4.out HL4c.out ej4.out).mono ?_); rintro e w122 ⟨v122, rfl, ho, hb⟩; obtain ⟨A122, c122, rfl⟩ := Kd.R_slice ho; have HJ4 := Aside0.mk (Kd.R_reads' ho).2.2; have HJ4c := Aside0.mk (Kd.R_reads' ho).2.1; clear ho; clear HL4 HL4c; have n_HX := Aside0.mk (Kd.C_below HX.out hb); have n_HT := Aside0.mk (Kd.C_below HT.out hb); have n_HD := Aside0.mk (Kd.C_below HD.out hb); have n_HBX := Aside0.mk (blk_below HBX.out hb); have n_HB := Aside0.mk (below_step HB.out hb); clear HX HT HD HBX HB; have HX := n_HX; have HT := n_HT; have HD := n_HD; have HBX := n_HBX; have HB := n_HB; clear n_HX n_HT n_HD n_HBX n_HB; clear hb)
              | ((with_reducible refine gate_dst (N := 128) rfl ?_); refine Kd.R_lit (Kd.int .i64) _ 3 ?hg (N := 128) ?hd (xs := ([jj, kk] : List Int)) (inner := [.int .i64 jj, .int .i64 kk]) (ok := fun _ => True) (okp := fun _ => True) ?hr ?hp (fun _ hk => hk) trivial (Below.refl _ _) (Nat.le_refl _) (by simp) ?_; (case hd => rfl); (case hg => rfl); (case hr => first | (go_simp; done) | (go_simp; rfl)); (case hp => exact (Reps.one (show Kd.M (Kd.int .i64) _ _ _ jj [.int .i64 jj] from rfl) (Reps.one (show Kd.M (Kd.int .i64) _ _ _ kk [.int .i64 kk] from rfl) (Reps.none _ _)))); intro v128 w128 ho hb hg_ hnew_; clear hg_ hnew_; rw [← hU5.out] at ho; obtain ⟨A128, c128, rfl⟩ := Kd.R_slice ho; have HU5 := Aside0.mk (Kd.R_reads' ho).2.2; have HU5c := Aside0.mk (Kd.R_reads' ho).2.1; clear ho; have n_HX := Aside0.mk (Kd.C_below HX.out hb); have n_HT := Aside0.mk (Kd.C_below HT.out hb); have n_HD := Aside0.mk (Kd.C_below HD.out hb); have n_HJ4 := Aside0.mk (Kd.C_below HJ4.out hb); have n_HBX := Aside0.mk (blk_below HBX.out hb); have n_HB := Aside0.mk (below_step HB.out hb); clear HX HT HD HJ4 HBX HB; have HX := n_HX; have HT := n_HT; have HD := n_HD; have HJ4 := n_HJ4; have HBX := n_HBX; have HB := n_HB; clear n_HX n_HT n_HD n_HJ4 n_HBX n_HB; clear hb)
              | ((with_reducible refine gate_dst (N := 130) rfl ?_); refine Kd.N_lit (Kd.slice 3 (Kd.int .i64)) _ 22 ?hg (N' := 130) ?hd (xs := ([la, U5, lb] : List (List Int))) (inner := [.slice Ax la.length i, .slice A128 U5.length c128, .slice B lb.length cb]) (ok := fun _ => True) (okp := fun _ => True) ?hr ?hp (fun _ hk => hk) trivial (Below.refl _ _) (Nat.le_refl _) (by simp) ?_; (case hd => rfl); (case hg => rfl); (case hr => first | (go_simp; done) | (go_simp; rfl)); (case hp => exact (Reps.one (FK_row HT.out (Nat.le_of_eq HTL.out)) (Reps.one (FK_row HU5.out HU5c.out) (Reps.one (FK_row HD.out hbc) (Reps.none _ _))))); intro v130 w130 ho hb hg_ hnew_; clear hg_ hnew_; rw [← hL5.out] at ho; obtain ⟨A130, c130, rfl⟩ := Kd.N_slice ho; have HL5 := Aside0.mk (Kd.N_reads' ho).2.2; have HL5c := Aside0.mk (Kd.N_reads' ho).2.1; clear ho; clear HU5 HU5c; have n_HX := Aside0.mk (Kd.C_below HX.out hb); have n_HT := Aside0.mk (Kd.C_below HT.out hb); have n_HD := Aside0.mk (Kd.C_below HD.out hb); have n_HJ4 := Aside0.mk (Kd.C_below HJ4.out hb); have n_HBX := Aside0.mk (blk_below HBX.out hb); have n_HB := Aside0.mk (below_step HB.out hb); clear HX HT HD HJ4 HBX HB; have HX := n_HX; have HT := n_HT; have HD := n_HD; have HJ4 := n_HJ4; have HBX := n_HBX; have HB := n_HB; clear n_HX n_HT n_HD n_HJ4 n_HBX n_HB; clear hb)
              | (go_at_call 27; (with_reducible refine (gamplaw05_joined.calls kj5 _ _ L5 J5 _ HL5.out HL5c.out ej5.out).mono ?_); rintro e w131 ⟨v131, rfl, ho, hb⟩; obtain ⟨A131, c131, rfl⟩ := Kd.R_slice ho; have HJ5 := Aside0.mk (Kd.R_reads' ho).2.2; have HJ5c := Aside0.mk (Kd.R_reads' ho).2.1; clear ho; clear HL5 HL5c; have n_HX := Aside0.mk (Kd.C_below HX.out hb); have n_HT := Aside0.mk (Kd.C_below HT.out hb); have n_HD := Aside0.mk (Kd.C_below HD.out hb); have n_HJ4 := Aside0.mk (Kd.C_below HJ4.out hb); have n_HBX := Aside0.mk (blk_below HBX.out hb); have n_HB := Aside0.mk (below_step HB.out hb); clear HX HT HD HJ4 HBX HB; have HX := n_HX; have HT := n_HT; have HD := n_HD; have HJ4 := n_HJ4; have HBX := n_HBX; have HB := n_HB; clear n_HX n_HT n_HD n_HJ4 n_HBX n_HB; clear hb)
              | (go_at_call 26; (with_reducible refine (gamplaw05_same.calls ks3 m0 _ _ J4 _ _ J5 true _ HJ4.out HJ4c.out HJ5.out HJ5c.out es3.out rfl).mono ?_); rintro e w132 ⟨rfl, hb⟩; clear HJ4 HJ4c HJ5 HJ5c; have n_HX := Aside0.mk (Kd.C_below HX.out hb); have n_HT := Aside0.mk (Kd.C_below HT.out hb); have n_HD := Aside0.mk (Kd.C_below HD.out hb); have n_HBX := Aside0.mk (blk_below HBX.out hb); have n_HB := Aside0.mk (below_step HB.out hb); clear HX HT HD HBX HB; have HX := n_HX; have HT := n_HT; have HD := n_HD; have HBX := n_HBX; have HB := n_HB; clear n_HX n_HT n_HD n_HBX n_HB; clear hb))
          go_ret
          exact ⟨rfl, HB.out⟩
        · by_cases c2 : jj + 2 ≤ kk
          · have d1 : decide (jj - kk ≥ 2) = false := decide_eq_false (by omega)
            have d2 : decide (kk - jj ≥ 2) = true := decide_eq_true (by omega)
            obtain ⟨kj4, ej4'⟩ := F.out.j4
            obtain ⟨kj5, ej5'⟩ := F.out.j5
            obtain ⟨ks3, es3'⟩ := F.out.s3 (.inr c2)
            generalize la ++ [kk, jj] ++ lb = J4 at ej4' es3'
            generalize la ++ [jj, kk] ++ lb = J5 at ej5' es3'
            obtain ⟨U4, hU4'⟩ : ∃ L, L = [kk, jj] := ⟨_, rfl⟩
            rw [← hU4'] at ej4'
            obtain ⟨L4, hL4'⟩ : ∃ L, L = [la, U4, lb] := ⟨_, rfl⟩
            rw [← hL4'] at ej4'
            obtain ⟨U5, hU5'⟩ : ∃ L, L = [jj, kk] := ⟨_, rfl⟩
            rw [← hU5'] at ej5'
            obtain ⟨L5, hL5'⟩ : ∃ L, L = [la, U5, lb] := ⟨_, rfl⟩
            rw [← hL5'] at ej5'
            have hU4 := Aside0.mk hU4'
            have hL4 := Aside0.mk hL4'
            have ej4 := Aside0.mk ej4'
            have hU5 := Aside0.mk hU5'
            have hL5 := Aside0.mk hL5'
            have ej5 := Aside0.mk ej5'
            have es3 := Aside0.mk es3'
            clear hU4' hL4' ej4' hU5' hL5' ej5' es3'
            go_wp2_with (first
              | ((with_reducible refine gate_dst (N := 119) rfl ?_); refine Kd.R_lit (Kd.int .i64) _ 3 ?hg (N := 119) ?hd (xs := ([kk, jj] : List Int)) (inner := [.int .i64 kk, .int .i64 jj]) (ok := fun _ => True) (okp := fun _ => True) ?hr ?hp (fun _ hk => hk) trivial (Below.refl _ _) (Nat.le_refl _) (by simp) ?_; (case hd => rfl); (case hg => rfl); (case hr => first | (go_simp; done) | (go_simp; rfl)); (case hp => exact (Reps.one (show Kd.M (Kd.int .i64) _ _ _ kk [.int .i64 kk] from rfl) (Reps.one (show Kd.M (Kd.int .i64) _ _ _ jj [.int .i64 jj] from rfl) (Reps.none _ _)))); intro v119 w119 ho hb hg_ hnew_; clear hg_ hnew_; rw [← hU4.out] at ho; obtain ⟨A119, c119, rfl⟩ := Kd.R_slice ho; have HU4 := Aside0.mk (Kd.R_reads' ho).2.2; have HU4c := Aside0.mk (Kd.R_reads' ho).2.1; clear ho; have n_HX := Aside0.mk (Kd.C_below HX.out hb); have n_HT := Aside0.mk (Kd.C_below HT.out hb); have n_HD := Aside0.mk (Kd.C_below HD.out hb); have n_HBX := Aside0.mk (blk_below HBX.out hb); have n_HB := Aside0.mk (below_step HB.out hb); clear HX HT HD HBX HB; have HX := n_HX; have HT := n_HT; have HD := n_HD; have HBX := n_HBX; have HB := n_HB; clear n_HX n_HT n_HD n_HBX n_HB; clear hb)
              | ((with_reducible refine gate_dst (N := 121) rfl ?_); refine Kd.N_lit (Kd.slice 3 (Kd.int .i64)) _ 22 ?hg (N' := 121) ?hd (xs := ([la, U4, lb] : List (List Int))) (inner := [.slice Ax la.length i, .slice A119 U4.length c119, .slice B lb.length cb]) (ok := fun _ => True) (okp := fun _ => True) ?hr ?hp (fun _ hk => hk) trivial (Below.refl _ _) (Nat.le_refl _) (by simp) ?_; (case hd => rfl); (case hg => rfl); (case hr => first | (go_simp; done) | (go_simp; rfl)); (case hp => exact (Reps.one (FK_row HT.out (Nat.le_of_eq HTL.out)) (Reps.one (FK_row HU4.out HU4c.out) (Reps.one (FK_row HD.out hbc) (Reps.none _ _))))); intro v121 w121 ho hb hg_ hnew_; clear hg_ hnew_; rw [← hL4.out] at ho; obtain ⟨A121, c121, rfl⟩ := Kd.N_slice ho; have HL4 := Aside0.mk (Kd.N_reads' ho).2.2; have HL4c := Aside0.mk (Kd.N_reads' ho).2.1; clear ho; clear HU4 HU4c; have n_HX := Aside0.mk (Kd.C_below HX.out hb); have n_HT := Aside0.mk (Kd.C_below HT.out hb); have n_HD := Aside0.mk (Kd.C_below HD.out hb); have n_HBX := Aside0.mk (blk_below HBX.out hb); have n_HB := Aside0.mk (below_step HB.out hb); clear HX HT HD HBX HB; have HX := n_HX; have HT := n_HT; have HD := n_HD; have HBX := n_HBX; have HB := n_HB; clear n_HX n_HT n_HD n_HBX n_HB; clear hb)
              | (go_at_call 27; (with_reducible refine (gamplaw05_joined.calls kj4 _ _ L4 J4 _ HL4.out HL4c.out ej4.out).mono ?_); rintro e w122 ⟨v122, rfl, ho, hb⟩; obtain ⟨A122, c122, rfl⟩ := Kd.R_slice ho; have HJ4 := Aside0.mk (Kd.R_reads' ho).2.2; have HJ4c := Aside0.mk (Kd.R_reads' ho).2.1; clear ho; clear HL4 HL4c; have n_HX := Aside0.mk (Kd.C_below HX.out hb); have n_HT := Aside0.mk (Kd.C_below HT.out hb); have n_HD := Aside0.mk (Kd.C_below HD.out hb); have n_HBX := Aside0.mk (blk_below HBX.out hb); have n_HB := Aside0.mk (below_step HB.out hb); clear HX HT HD HBX HB; have HX := n_HX; have HT := n_HT; have HD := n_HD; have HBX := n_HBX; have HB := n_HB; clear n_HX n_HT n_HD n_HBX n_HB; clear hb)
              | ((with_reducible refine gate_dst (N := 128) rfl ?_); refine Kd.R_lit (Kd.int .i64) _ 3 ?hg (N := 128) ?hd (xs := ([jj, kk] : List Int)) (inner := [.int .i64 jj, .int .i64 kk]) (ok := fun _ => True) (okp := fun _ => True) ?hr ?hp (fun _ hk => hk) trivial (Below.refl _ _) (Nat.le_refl _) (by simp) ?_; (case hd => rfl); (case hg => rfl); (case hr => first | (go_simp; done) | (go_simp; rfl)); (case hp => exact (Reps.one (show Kd.M (Kd.int .i64) _ _ _ jj [.int .i64 jj] from rfl) (Reps.one (show Kd.M (Kd.int .i64) _ _ _ kk [.int .i64 kk] from rfl) (Reps.none _ _)))); intro v128 w128 ho hb hg_ hnew_; clear hg_ hnew_; rw [← hU5.out] at ho; obtain ⟨A128, c128, rfl⟩ := Kd.R_slice ho; have HU5 := Aside0.mk (Kd.R_reads' ho).2.2; have HU5c := Aside0.mk (Kd.R_reads' ho).2.1; clear ho; have n_HX := Aside0.mk (Kd.C_below HX.out hb); have n_HT := Aside0.mk (Kd.C_below HT.out hb); have n_HD := Aside0.mk (Kd.C_below HD.out hb); have n_HJ4 := Aside0.mk (Kd.C_below HJ4.out hb); have n_HBX := Aside0.mk (blk_below HBX.out hb); have n_HB := Aside0.mk (below_step HB.out hb); clear HX HT HD HJ4 HBX HB; have HX := n_HX; have HT := n_HT; have HD := n_HD; have HJ4 := n_HJ4; have HBX := n_HBX; have HB := n_HB; clear n_HX n_HT n_HD n_HJ4 n_HBX n_HB; clear hb)
              | ((with_reducible refine gate_dst (N := 130) rfl ?_); refine Kd.N_lit (Kd.slice 3 (Kd.int .i64)) _ 22 ?hg (N' := 130) ?hd (xs := ([la, U5, lb] : List (List Int))) (inner := [.slice Ax la.length i, .slice A128 U5.length c128, .slice B lb.length cb]) (ok := fun _ => True) (okp := fun _ => True) ?hr ?hp (fun _ hk => hk) trivial (Below.refl _ _) (Nat.le_refl _) (by simp) ?_; (case hd => rfl); (case hg => rfl); (case hr => first | (go_simp; done) | (go_simp; rfl)); (case hp => exact (Reps.one (FK_row HT.out (Nat.le_of_eq HTL.out)) (Reps.one (FK_row HU5.out HU5c.out) (Reps.one (FK_row HD.out hbc) (Reps.none _ _))))); intro v130 w130 ho hb hg_ hnew_; clear hg_ hnew_; rw [← hL5.out] at ho; obtain ⟨A130, c130, rfl⟩ := Kd.N_slice ho; have HL5 := Aside0.mk (Kd.N_reads' ho).2.2; have HL5c := Aside0.mk (Kd.N_reads' ho).2.1; clear ho; clear HU5 HU5c; have n_HX := Aside0.mk (Kd.C_below HX.out hb); have n_HT := Aside0.mk (Kd.C_below HT.out hb); have n_HD := Aside0.mk (Kd.C_below HD.out hb); have n_HJ4 := Aside0.mk (Kd.C_below HJ4.out hb); have n_HBX := Aside0.mk (blk_below HBX.out hb); have n_HB := Aside0.mk (below_step HB.out hb); clear HX HT HD HJ4 HBX HB; have HX := n_HX; have HT := n_HT; have HD := n_HD; have HJ4 := n_HJ4; have HBX := n_HBX; have HB := n_HB; clear n_HX n_HT n_HD n_HJ4 n_HBX n_HB; clear hb)
              | (go_at_call 27; (with_reducible refine (gamplaw05_joined.calls kj5 _ _ L5 J5 _ HL5.out HL5c.out ej5.out).mono ?_); rintro e w131 ⟨v131, rfl, ho, hb⟩; obtain ⟨A131, c131, rfl⟩ := Kd.R_slice ho; have HJ5 := Aside0.mk (Kd.R_reads' ho).2.2; have HJ5c := Aside0.mk (Kd.R_reads' ho).2.1; clear ho; clear HL5 HL5c; have n_HX := Aside0.mk (Kd.C_below HX.out hb); have n_HT := Aside0.mk (Kd.C_below HT.out hb); have n_HD := Aside0.mk (Kd.C_below HD.out hb); have n_HJ4 := Aside0.mk (Kd.C_below HJ4.out hb); have n_HBX := Aside0.mk (blk_below HBX.out hb); have n_HB := Aside0.mk (below_step HB.out hb); clear HX HT HD HJ4 HBX HB; have HX := n_HX; have HT := n_HT; have HD := n_HD; have HJ4 := n_HJ4; have HBX := n_HBX; have HB := n_HB; clear n_HX n_HT n_HD n_HJ4 n_HBX n_HB; clear hb)
              | (go_at_call 26; (with_reducible refine (gamplaw05_same.calls ks3 m0 _ _ J4 _ _ J5 true _ HJ4.out HJ4c.out HJ5.out HJ5c.out es3.out rfl).mono ?_); rintro e w132 ⟨rfl, hb⟩; clear HJ4 HJ4c HJ5 HJ5c; have n_HX := Aside0.mk (Kd.C_below HX.out hb); have n_HT := Aside0.mk (Kd.C_below HT.out hb); have n_HD := Aside0.mk (Kd.C_below HD.out hb); have n_HBX := Aside0.mk (blk_below HBX.out hb); have n_HB := Aside0.mk (below_step HB.out hb); clear HX HT HD HBX HB; have HX := n_HX; have HT := n_HT; have HD := n_HD; have HBX := n_HBX; have HB := n_HB; clear n_HX n_HT n_HD n_HBX n_HB; clear hb))
            go_ret
            exact ⟨rfl, HB.out⟩
          · have d1 : decide (jj - kk ≥ 2) = false := decide_eq_false (by omega)
            have d2 : decide (kk - jj ≥ 2) = false := decide_eq_false (by omega)
            go_wp2_with fail
            go_ret
            exact ⟨rfl, HB.out⟩
      · have hcb : decide (kk + 1 < m0) = false := decide_eq_false hc
        clear hc HC
        go_upto_region 14 with fail
        have y3 := (blk_cell HBX.out 3).trans (show _ = some (Value.int .u8 ot) from rfl)
        go_upto_region 15 with fail
        rw [HJJ.out]
        clear y3
        by_cases c1 : kk + 2 ≤ jj
        · have d1 : decide (jj - kk ≥ 2) = true := decide_eq_true (by omega)
          obtain ⟨kj4, ej4'⟩ := F.out.j4
          obtain ⟨kj5, ej5'⟩ := F.out.j5
          obtain ⟨ks3, es3'⟩ := F.out.s3 (.inl c1)
          generalize la ++ [kk, jj] ++ lb = J4 at ej4' es3'
          generalize la ++ [jj, kk] ++ lb = J5 at ej5' es3'
          obtain ⟨U4, hU4'⟩ : ∃ L, L = [kk, jj] := ⟨_, rfl⟩
          rw [← hU4'] at ej4'
          obtain ⟨L4, hL4'⟩ : ∃ L, L = [la, U4, lb] := ⟨_, rfl⟩
          rw [← hL4'] at ej4'
          obtain ⟨U5, hU5'⟩ : ∃ L, L = [jj, kk] := ⟨_, rfl⟩
          rw [← hU5'] at ej5'
          obtain ⟨L5, hL5'⟩ : ∃ L, L = [la, U5, lb] := ⟨_, rfl⟩
          rw [← hL5'] at ej5'
          have hU4 := Aside0.mk hU4'
          have hL4 := Aside0.mk hL4'
          have ej4 := Aside0.mk ej4'
          have hU5 := Aside0.mk hU5'
          have hL5 := Aside0.mk hL5'
          have ej5 := Aside0.mk ej5'
          have es3 := Aside0.mk es3'
          clear hU4' hL4' ej4' hU5' hL5' ej5' es3'
          go_wp2_with (first
              | ((with_reducible refine gate_dst (N := 119) rfl ?_); refine Kd.R_lit (Kd.int .i64) _ 3 ?hg (N := 119) ?hd (xs := ([kk, jj] : List Int)) (inner := [.int .i64 kk, .int .i64 jj]) (ok := fun _ => True) (okp := fun _ => True) ?hr ?hp (fun _ hk => hk) trivial (Below.refl _ _) (Nat.le_refl _) (by simp) ?_; (case hd => rfl); (case hg => rfl); (case hr => first | (go_simp; done) | (go_simp; rfl)); (case hp => exact (Reps.one (show Kd.M (Kd.int .i64) _ _ _ kk [.int .i64 kk] from rfl) (Reps.one (show Kd.M (Kd.int .i64) _ _ _ jj [.int .i64 jj] from rfl) (Reps.none _ _)))); intro v119 w119 ho hb hg_ hnew_; clear hg_ hnew_; rw [← hU4.out] at ho; obtain ⟨A119, c119, rfl⟩ := Kd.R_slice ho; have HU4 := Aside0.mk (Kd.R_reads' ho).2.2; have HU4c := Aside0.mk (Kd.R_reads' ho).2.1; clear ho; have n_HX := Aside0.mk (Kd.C_below HX.out hb); have n_HT := Aside0.mk (Kd.C_below HT.out hb); have n_HD := Aside0.mk (Kd.C_below HD.out hb); have n_HBX := Aside0.mk (blk_below HBX.out hb); have n_HB := Aside0.mk (below_step HB.out hb); clear HX HT HD HBX HB; have HX := n_HX; have HT := n_HT; have HD := n_HD; have HBX := n_HBX; have HB := n_HB; clear n_HX n_HT n_HD n_HBX n_HB; clear hb)
              | ((with_reducible refine gate_dst (N := 121) rfl ?_); refine Kd.N_lit (Kd.slice 3 (Kd.int .i64)) _ 22 ?hg (N' := 121) ?hd (xs := ([la, U4, lb] : List (List Int))) (inner := [.slice Ax la.length i, .slice A119 U4.length c119, .slice B lb.length cb]) (ok := fun _ => True) (okp := fun _ => True) ?hr ?hp (fun _ hk => hk) trivial (Below.refl _ _) (Nat.le_refl _) (by simp) ?_; (case hd => rfl); (case hg => rfl); (case hr => first | (go_simp; done) | (go_simp; rfl)); (case hp => exact (Reps.one (FK_row HT.out (Nat.le_of_eq HTL.out)) (Reps.one (FK_row HU4.out HU4c.out) (Reps.one (FK_row HD.out hbc) (Reps.none _ _))))); intro v121 w121 ho hb hg_ hnew_; clear hg_ hnew_; rw [← hL4.out] at ho; obtain ⟨A121, c121, rfl⟩ := Kd.N_slice ho; have HL4 := Aside0.mk (Kd.N_reads' ho).2.2; have HL4c := Aside0.mk (Kd.N_reads' ho).2.1; clear ho; clear HU4 HU4c; have n_HX := Aside0.mk (Kd.C_below HX.out hb); have n_HT := Aside0.mk (Kd.C_below HT.out hb); have n_HD := Aside0.mk (Kd.C_below HD.out hb); have n_HBX := Aside0.mk (blk_below HBX.out hb); have n_HB := Aside0.mk (below_step HB.out hb); clear HX HT HD HBX HB; have HX := n_HX; have HT := n_HT; have HD := n_HD; have HBX := n_HBX; have HB := n_HB; clear n_HX n_HT n_HD n_HBX n_HB; clear hb)
              | (go_at_call 27; (with_reducible refine (gamplaw05_joined.calls kj4 _ _ L4 J4 _ HL4.out HL4c.out ej4.out).mono ?_); rintro e w122 ⟨v122, rfl, ho, hb⟩; obtain ⟨A122, c122, rfl⟩ := Kd.R_slice ho; have HJ4 := Aside0.mk (Kd.R_reads' ho).2.2; have HJ4c := Aside0.mk (Kd.R_reads' ho).2.1; clear ho; clear HL4 HL4c; have n_HX := Aside0.mk (Kd.C_below HX.out hb); have n_HT := Aside0.mk (Kd.C_below HT.out hb); have n_HD := Aside0.mk (Kd.C_below HD.out hb); have n_HBX := Aside0.mk (blk_below HBX.out hb); have n_HB := Aside0.mk (below_step HB.out hb); clear HX HT HD HBX HB; have HX := n_HX; have HT := n_HT; have HD := n_HD; have HBX := n_HBX; have HB := n_HB; clear n_HX n_HT n_HD n_HBX n_HB; clear hb)
              | ((with_reducible refine gate_dst (N := 128) rfl ?_); refine Kd.R_lit (Kd.int .i64) _ 3 ?hg (N := 128) ?hd (xs := ([jj, kk] : List Int)) (inner := [.int .i64 jj, .int .i64 kk]) (ok := fun _ => True) (okp := fun _ => True) ?hr ?hp (fun _ hk => hk) trivial (Below.refl _ _) (Nat.le_refl _) (by simp) ?_; (case hd => rfl); (case hg => rfl); (case hr => first | (go_simp; done) | (go_simp; rfl)); (case hp => exact (Reps.one (show Kd.M (Kd.int .i64) _ _ _ jj [.int .i64 jj] from rfl) (Reps.one (show Kd.M (Kd.int .i64) _ _ _ kk [.int .i64 kk] from rfl) (Reps.none _ _)))); intro v128 w128 ho hb hg_ hnew_; clear hg_ hnew_; rw [← hU5.out] at ho; obtain ⟨A128, c128, rfl⟩ := Kd.R_slice ho; have HU5 := Aside0.mk (Kd.R_reads' ho).2.2; have HU5c := Aside0.mk (Kd.R_reads' ho).2.1; clear ho; have n_HX := Aside0.mk (Kd.C_below HX.out hb); have n_HT := Aside0.mk (Kd.C_below HT.out hb); have n_HD := Aside0.mk (Kd.C_below HD.out hb); have n_HJ4 := Aside0.mk (Kd.C_below HJ4.out hb); have n_HBX := Aside0.mk (blk_below HBX.out hb); have n_HB := Aside0.mk (below_step HB.out hb); clear HX HT HD HJ4 HBX HB; have HX := n_HX; have HT := n_HT; have HD := n_HD; have HJ4 := n_HJ4; have HBX := n_HBX; have HB := n_HB; clear n_HX n_HT n_HD n_HJ4 n_HBX n_HB; clear hb)
              | ((with_reducible refine gate_dst (N := 130) rfl ?_); refine Kd.N_lit (Kd.slice 3 (Kd.int .i64)) _ 22 ?hg (N' := 130) ?hd (xs := ([la, U5, lb] : List (List Int))) (inner := [.slice Ax la.length i, .slice A128 U5.length c128, .slice B lb.length cb]) (ok := fun _ => True) (okp := fun _ => True) ?hr ?hp (fun _ hk => hk) trivial (Below.refl _ _) (Nat.le_refl _) (by simp) ?_; (case hd => rfl); (case hg => rfl); (case hr => first | (go_simp; done) | (go_simp; rfl)); (case hp => exact (Reps.one (FK_row HT.out (Nat.le_of_eq HTL.out)) (Reps.one (FK_row HU5.out HU5c.out) (Reps.one (FK_row HD.out hbc) (Reps.none _ _))))); intro v130 w130 ho hb hg_ hnew_; clear hg_ hnew_; rw [← hL5.out] at ho; obtain ⟨A130, c130, rfl⟩ := Kd.N_slice ho; have HL5 := Aside0.mk (Kd.N_reads' ho).2.2; have HL5c := Aside0.mk (Kd.N_reads' ho).2.1; clear ho; clear HU5 HU5c; have n_HX := Aside0.mk (Kd.C_below HX.out hb); have n_HT := Aside0.mk (Kd.C_below HT.out hb); have n_HD := Aside0.mk (Kd.C_below HD.out hb); have n_HJ4 := Aside0.mk (Kd.C_below HJ4.out hb); have n_HBX := Aside0.mk (blk_below HBX.out hb); have n_HB := Aside0.mk (below_step HB.out hb); clear HX HT HD HJ4 HBX HB; have HX := n_HX; have HT := n_HT; have HD := n_HD; have HJ4 := n_HJ4; have HBX := n_HBX; have HB := n_HB; clear n_HX n_HT n_HD n_HJ4 n_HBX n_HB; clear hb)
              | (go_at_call 27; (with_reducible refine (gamplaw05_joined.calls kj5 _ _ L5 J5 _ HL5.out HL5c.out ej5.out).mono ?_); rintro e w131 ⟨v131, rfl, ho, hb⟩; obtain ⟨A131, c131, rfl⟩ := Kd.R_slice ho; have HJ5 := Aside0.mk (Kd.R_reads' ho).2.2; have HJ5c := Aside0.mk (Kd.R_reads' ho).2.1; clear ho; clear HL5 HL5c; have n_HX := Aside0.mk (Kd.C_below HX.out hb); have n_HT := Aside0.mk (Kd.C_below HT.out hb); have n_HD := Aside0.mk (Kd.C_below HD.out hb); have n_HJ4 := Aside0.mk (Kd.C_below HJ4.out hb); have n_HBX := Aside0.mk (blk_below HBX.out hb); have n_HB := Aside0.mk (below_step HB.out hb); clear HX HT HD HJ4 HBX HB; have HX := n_HX; have HT := n_HT; have HD := n_HD; have HJ4 := n_HJ4; have HBX := n_HBX; have HB := n_HB; clear n_HX n_HT n_HD n_HJ4 n_HBX n_HB; clear hb)
              | (go_at_call 26; (with_reducible refine (gamplaw05_same.calls ks3 m0 _ _ J4 _ _ J5 true _ HJ4.out HJ4c.out HJ5.out HJ5c.out es3.out rfl).mono ?_); rintro e w132 ⟨rfl, hb⟩; clear HJ4 HJ4c HJ5 HJ5c; have n_HX := Aside0.mk (Kd.C_below HX.out hb); have n_HT := Aside0.mk (Kd.C_below HT.out hb); have n_HD := Aside0.mk (Kd.C_below HD.out hb); have n_HBX := Aside0.mk (blk_below HBX.out hb); have n_HB := Aside0.mk (below_step HB.out hb); clear HX HT HD HBX HB; have HX := n_HX; have HT := n_HT; have HD := n_HD; have HBX := n_HBX; have HB := n_HB; clear n_HX n_HT n_HD n_HBX n_HB; clear hb))
          go_ret
          exact ⟨rfl, HB.out⟩
        · by_cases c2 : jj + 2 ≤ kk
          · have d1 : decide (jj - kk ≥ 2) = false := decide_eq_false (by omega)
            have d2 : decide (kk - jj ≥ 2) = true := decide_eq_true (by omega)
            obtain ⟨kj4, ej4'⟩ := F.out.j4
            obtain ⟨kj5, ej5'⟩ := F.out.j5
            obtain ⟨ks3, es3'⟩ := F.out.s3 (.inr c2)
            generalize la ++ [kk, jj] ++ lb = J4 at ej4' es3'
            generalize la ++ [jj, kk] ++ lb = J5 at ej5' es3'
            obtain ⟨U4, hU4'⟩ : ∃ L, L = [kk, jj] := ⟨_, rfl⟩
            rw [← hU4'] at ej4'
            obtain ⟨L4, hL4'⟩ : ∃ L, L = [la, U4, lb] := ⟨_, rfl⟩
            rw [← hL4'] at ej4'
            obtain ⟨U5, hU5'⟩ : ∃ L, L = [jj, kk] := ⟨_, rfl⟩
            rw [← hU5'] at ej5'
            obtain ⟨L5, hL5'⟩ : ∃ L, L = [la, U5, lb] := ⟨_, rfl⟩
            rw [← hL5'] at ej5'
            have hU4 := Aside0.mk hU4'
            have hL4 := Aside0.mk hL4'
            have ej4 := Aside0.mk ej4'
            have hU5 := Aside0.mk hU5'
            have hL5 := Aside0.mk hL5'
            have ej5 := Aside0.mk ej5'
            have es3 := Aside0.mk es3'
            clear hU4' hL4' ej4' hU5' hL5' ej5' es3'
            go_wp2_with (first
              | ((with_reducible refine gate_dst (N := 119) rfl ?_); refine Kd.R_lit (Kd.int .i64) _ 3 ?hg (N := 119) ?hd (xs := ([kk, jj] : List Int)) (inner := [.int .i64 kk, .int .i64 jj]) (ok := fun _ => True) (okp := fun _ => True) ?hr ?hp (fun _ hk => hk) trivial (Below.refl _ _) (Nat.le_refl _) (by simp) ?_; (case hd => rfl); (case hg => rfl); (case hr => first | (go_simp; done) | (go_simp; rfl)); (case hp => exact (Reps.one (show Kd.M (Kd.int .i64) _ _ _ kk [.int .i64 kk] from rfl) (Reps.one (show Kd.M (Kd.int .i64) _ _ _ jj [.int .i64 jj] from rfl) (Reps.none _ _)))); intro v119 w119 ho hb hg_ hnew_; clear hg_ hnew_; rw [← hU4.out] at ho; obtain ⟨A119, c119, rfl⟩ := Kd.R_slice ho; have HU4 := Aside0.mk (Kd.R_reads' ho).2.2; have HU4c := Aside0.mk (Kd.R_reads' ho).2.1; clear ho; have n_HX := Aside0.mk (Kd.C_below HX.out hb); have n_HT := Aside0.mk (Kd.C_below HT.out hb); have n_HD := Aside0.mk (Kd.C_below HD.out hb); have n_HBX := Aside0.mk (blk_below HBX.out hb); have n_HB := Aside0.mk (below_step HB.out hb); clear HX HT HD HBX HB; have HX := n_HX; have HT := n_HT; have HD := n_HD; have HBX := n_HBX; have HB := n_HB; clear n_HX n_HT n_HD n_HBX n_HB; clear hb)
              | ((with_reducible refine gate_dst (N := 121) rfl ?_); refine Kd.N_lit (Kd.slice 3 (Kd.int .i64)) _ 22 ?hg (N' := 121) ?hd (xs := ([la, U4, lb] : List (List Int))) (inner := [.slice Ax la.length i, .slice A119 U4.length c119, .slice B lb.length cb]) (ok := fun _ => True) (okp := fun _ => True) ?hr ?hp (fun _ hk => hk) trivial (Below.refl _ _) (Nat.le_refl _) (by simp) ?_; (case hd => rfl); (case hg => rfl); (case hr => first | (go_simp; done) | (go_simp; rfl)); (case hp => exact (Reps.one (FK_row HT.out (Nat.le_of_eq HTL.out)) (Reps.one (FK_row HU4.out HU4c.out) (Reps.one (FK_row HD.out hbc) (Reps.none _ _))))); intro v121 w121 ho hb hg_ hnew_; clear hg_ hnew_; rw [← hL4.out] at ho; obtain ⟨A121, c121, rfl⟩ := Kd.N_slice ho; have HL4 := Aside0.mk (Kd.N_reads' ho).2.2; have HL4c := Aside0.mk (Kd.N_reads' ho).2.1; clear ho; clear HU4 HU4c; have n_HX := Aside0.mk (Kd.C_below HX.out hb); have n_HT := Aside0.mk (Kd.C_below HT.out hb); have n_HD := Aside0.mk (Kd.C_below HD.out hb); have n_HBX := Aside0.mk (blk_below HBX.out hb); have n_HB := Aside0.mk (below_step HB.out hb); clear HX HT HD HBX HB; have HX := n_HX; have HT := n_HT; have HD := n_HD; have HBX := n_HBX; have HB := n_HB; clear n_HX n_HT n_HD n_HBX n_HB; clear hb)
              | (go_at_call 27; (with_reducible refine (gamplaw05_joined.calls kj4 _ _ L4 J4 _ HL4.out HL4c.out ej4.out).mono ?_); rintro e w122 ⟨v122, rfl, ho, hb⟩; obtain ⟨A122, c122, rfl⟩ := Kd.R_slice ho; have HJ4 := Aside0.mk (Kd.R_reads' ho).2.2; have HJ4c := Aside0.mk (Kd.R_reads' ho).2.1; clear ho; clear HL4 HL4c; have n_HX := Aside0.mk (Kd.C_below HX.out hb); have n_HT := Aside0.mk (Kd.C_below HT.out hb); have n_HD := Aside0.mk (Kd.C_below HD.out hb); have n_HBX := Aside0.mk (blk_below HBX.out hb); have n_HB := Aside0.mk (below_step HB.out hb); clear HX HT HD HBX HB; have HX := n_HX; have HT := n_HT; have HD := n_HD; have HBX := n_HBX; have HB := n_HB; clear n_HX n_HT n_HD n_HBX n_HB; clear hb)
              | ((with_reducible refine gate_dst (N := 128) rfl ?_); refine Kd.R_lit (Kd.int .i64) _ 3 ?hg (N := 128) ?hd (xs := ([jj, kk] : List Int)) (inner := [.int .i64 jj, .int .i64 kk]) (ok := fun _ => True) (okp := fun _ => True) ?hr ?hp (fun _ hk => hk) trivial (Below.refl _ _) (Nat.le_refl _) (by simp) ?_; (case hd => rfl); (case hg => rfl); (case hr => first | (go_simp; done) | (go_simp; rfl)); (case hp => exact (Reps.one (show Kd.M (Kd.int .i64) _ _ _ jj [.int .i64 jj] from rfl) (Reps.one (show Kd.M (Kd.int .i64) _ _ _ kk [.int .i64 kk] from rfl) (Reps.none _ _)))); intro v128 w128 ho hb hg_ hnew_; clear hg_ hnew_; rw [← hU5.out] at ho; obtain ⟨A128, c128, rfl⟩ := Kd.R_slice ho; have HU5 := Aside0.mk (Kd.R_reads' ho).2.2; have HU5c := Aside0.mk (Kd.R_reads' ho).2.1; clear ho; have n_HX := Aside0.mk (Kd.C_below HX.out hb); have n_HT := Aside0.mk (Kd.C_below HT.out hb); have n_HD := Aside0.mk (Kd.C_below HD.out hb); have n_HJ4 := Aside0.mk (Kd.C_below HJ4.out hb); have n_HBX := Aside0.mk (blk_below HBX.out hb); have n_HB := Aside0.mk (below_step HB.out hb); clear HX HT HD HJ4 HBX HB; have HX := n_HX; have HT := n_HT; have HD := n_HD; have HJ4 := n_HJ4; have HBX := n_HBX; have HB := n_HB; clear n_HX n_HT n_HD n_HJ4 n_HBX n_HB; clear hb)
              | ((with_reducible refine gate_dst (N := 130) rfl ?_); refine Kd.N_lit (Kd.slice 3 (Kd.int .i64)) _ 22 ?hg (N' := 130) ?hd (xs := ([la, U5, lb] : List (List Int))) (inner := [.slice Ax la.length i, .slice A128 U5.length c128, .slice B lb.length cb]) (ok := fun _ => True) (okp := fun _ => True) ?hr ?hp (fun _ hk => hk) trivial (Below.refl _ _) (Nat.le_refl _) (by simp) ?_; (case hd => rfl); (case hg => rfl); (case hr => first | (go_simp; done) | (go_simp; rfl)); (case hp => exact (Reps.one (FK_row HT.out (Nat.le_of_eq HTL.out)) (Reps.one (FK_row HU5.out HU5c.out) (Reps.one (FK_row HD.out hbc) (Reps.none _ _))))); intro v130 w130 ho hb hg_ hnew_; clear hg_ hnew_; rw [← hL5.out] at ho; obtain ⟨A130, c130, rfl⟩ := Kd.N_slice ho; have HL5 := Aside0.mk (Kd.N_reads' ho).2.2; have HL5c := Aside0.mk (Kd.N_reads' ho).2.1; clear ho; clear HU5 HU5c; have n_HX := Aside0.mk (Kd.C_below HX.out hb); have n_HT := Aside0.mk (Kd.C_below HT.out hb); have n_HD := Aside0.mk (Kd.C_below HD.out hb); have n_HJ4 := Aside0.mk (Kd.C_below HJ4.out hb); have n_HBX := Aside0.mk (blk_below HBX.out hb); have n_HB := Aside0.mk (below_step HB.out hb); clear HX HT HD HJ4 HBX HB; have HX := n_HX; have HT := n_HT; have HD := n_HD; have HJ4 := n_HJ4; have HBX := n_HBX; have HB := n_HB; clear n_HX n_HT n_HD n_HJ4 n_HBX n_HB; clear hb)
              | (go_at_call 27; (with_reducible refine (gamplaw05_joined.calls kj5 _ _ L5 J5 _ HL5.out HL5c.out ej5.out).mono ?_); rintro e w131 ⟨v131, rfl, ho, hb⟩; obtain ⟨A131, c131, rfl⟩ := Kd.R_slice ho; have HJ5 := Aside0.mk (Kd.R_reads' ho).2.2; have HJ5c := Aside0.mk (Kd.R_reads' ho).2.1; clear ho; clear HL5 HL5c; have n_HX := Aside0.mk (Kd.C_below HX.out hb); have n_HT := Aside0.mk (Kd.C_below HT.out hb); have n_HD := Aside0.mk (Kd.C_below HD.out hb); have n_HJ4 := Aside0.mk (Kd.C_below HJ4.out hb); have n_HBX := Aside0.mk (blk_below HBX.out hb); have n_HB := Aside0.mk (below_step HB.out hb); clear HX HT HD HJ4 HBX HB; have HX := n_HX; have HT := n_HT; have HD := n_HD; have HJ4 := n_HJ4; have HBX := n_HBX; have HB := n_HB; clear n_HX n_HT n_HD n_HJ4 n_HBX n_HB; clear hb)
              | (go_at_call 26; (with_reducible refine (gamplaw05_same.calls ks3 m0 _ _ J4 _ _ J5 true _ HJ4.out HJ4c.out HJ5.out HJ5c.out es3.out rfl).mono ?_); rintro e w132 ⟨rfl, hb⟩; clear HJ4 HJ4c HJ5 HJ5c; have n_HX := Aside0.mk (Kd.C_below HX.out hb); have n_HT := Aside0.mk (Kd.C_below HT.out hb); have n_HD := Aside0.mk (Kd.C_below HD.out hb); have n_HBX := Aside0.mk (blk_below HBX.out hb); have n_HB := Aside0.mk (below_step HB.out hb); clear HX HT HD HBX HB; have HX := n_HX; have HT := n_HT; have HD := n_HD; have HBX := n_HBX; have HB := n_HB; clear n_HX n_HT n_HD n_HBX n_HB; clear hb))
            go_ret
            exact ⟨rfl, HB.out⟩
          · have d1 : decide (jj - kk ≥ 2) = false := decide_eq_false (by omega)
            have d2 : decide (kk - jj ≥ 2) = false := decide_eq_false (by omega)
            go_wp2_with fail
            go_ret
            exact ⟨rfl, HB.out⟩
theorem steps_walk (a1 : Option Addr) (len1 cap1 : Nat) (z1 : List Int) (st at_ le ot : Int) (mi : Bool) (w : World) (hst : 0 ≤ st ∧ st ≤ 255) (hat : 0 ≤ at_ ∧ at_ ≤ 255) (hle : 0 ≤ le ∧ le ≤ 255) (hot : 0 ≤ ot ∧ ot ≤ 255) (w1 : (a1 = none ∧ len1 = 0 ∧ cap1 = 0 ∧ z1 = []) ∨ ∃ x, a1 = some x ∧ len1 ≤ cap1 ∧ cap1 ≤ maxLen ∧ z1.length = cap1 ∧ (∀ i, i < z1.length → w.cell? (x.add i) = some (.int .i8 (z1.getD i 0))) ∧ ∀ n ∈ z1, (Lit.int .i8 n).wf = true) :
  Calls Try.prog 5 #[.slice a1 len1 cap1, .agg #[.int .u8 st, .int .u8 at_, .int .u8 le, .int .u8 ot, .bool mi]] w fun e w' => e = .returned (.bool true) ∧ Below w.heap.size w w' := by
 obtain ⟨l1, rfl, hr1, hm1, hw1, hc1⟩ := ReadsInt.ofRowC w1
 exact steps_calls _ _ l1 st at_ le ot mi w hw1 hst hat hle hot (Kd.C_of_reads (d := (0 : Int)) (h1 := fun _ => rfl) hr1) hc1
end Go.Proofs.Ytdldfdcedjmneaa.Lx
