/- The declarations of Lxx18 that the claim Qi needs. -/
import Derived.Test.YtdldfdcedjmneaaQiTkP
import Derived.Test.YtdldfdcedjmneaaQiLxx0
import Derived.Test.YtdldfdcedjmneaaQiLxx3
import Derived.Test.YtdldfdcedjmneaaQiLxx11
import Derived.Test.YtdldfdcedjmneaaQiLxx17
namespace Go.Proofs.Ytdldfdcedjmneaa.Lx
open Go.RowKit Go.Proofs.Ytdldfdcedjmneaa.Own Go.Proofs.YtdldfdcedjmneaaW.PrintWords Go.Proofs.YtdldfdcedjmneaaW.PrintLast Go.Proofs.YtdldfdcedjmneaaW.PrintMore
attribute [local go_sem] max2_int min2_int max_two min_two max_three min_three max_four min_four
set_option linter.unusedVariables false
set_option linter.unusedSimpArgs false
mutual
def gampref05_Word.l0 : Nat → List Int → Int → Int → Int → List (List Int) → Option (List Int × Bool)
  | 0, _, _, _, _, _ => none
  | k + 1, x6, x7, x8, x482000, x482001 => if x8 < (x482001.length : Int) then (if 0 ≤ x8 then ((gampref05_Crossings.f k (rd_L1 x482001 x8)).bind fun t489 => (gampref05_Word.l0 k x6 (wrap64 (x7 + t489)) (wrap64 (x8 + 1)) x482000 x482001)) else (none)) else (if x482000 > 10000 then (gampref05_Word.j1 k x6 true x482000 x482001) else (if x482000 < (-10000) then (gampref05_Word.j1 k x6 true x482000 x482001) else (gampref05_Word.j1 k x6 (decide ((wrap64 ((wrap64 ((mx x482000 (wrap64 (-x482000))) * (x6.length : Int))) + x7)) > 10000)) x482000 x482001)))
def gampref05_Word.j1 : Nat → List Int → Bool → Int → List (List Int) → Option (List Int × Bool)
  | 0, _, _, _, _ => none
  | k + 1, x6, x52, x482000, x482001 => if x52 = true then (some (([] : List Int), false)) else (gampref05_Word.l1 k x6 (([] : List Int)) 0 x482000 x482001)
def gampref05_Word.l1 : Nat → List Int → List Int → Int → Int → List (List Int) → Option (List Int × Bool)
  | 0, _, _, _, _, _ => none
  | k + 1, x6, x9, x10, x482000, x482001 => if x10 < x482000 then (if x9.length + x6.length < 17592186044416 then (gampref05_Word.l1 k x6 (x9 ++ x6) (wrap64 (x10 + 1)) x482000 x482001) else (none)) else (gampref05_Word.l2 k x6 x9 0 x482000 x482001)
def gampref05_Word.l2 : Nat → List Int → List Int → Int → Int → List (List Int) → Option (List Int × Bool)
  | 0, _, _, _, _, _ => none
  | k + 1, x6, x9, x11, x482000, x482001 => if x11 < (wrap64 (-x482000)) then ((gampref05_Inverse.f k x6).bind fun t496 => (if x9.length + t496.length < 17592186044416 then (gampref05_Word.l2 k x6 (x9 ++ t496) (wrap64 (x11 + 1)) x482000 x482001) else (none))) else (gampref05_Word.l3 k x9 0 x482000 x482001)
def gampref05_Word.l3 : Nat → List Int → Int → Int → List (List Int) → Option (List Int × Bool)
  | 0, _, _, _, _ => none
  | k + 1, x9, x12, x482000, x482001 => if x12 < (x482001.length : Int) then (if 0 ≤ x12 then ((gampref05_Simple.f k (rd_L1 x482001 x12)).bind fun t503 => (if x9.length + t503.length < 17592186044416 then (gampref05_Word.l3 k (x9 ++ t503) (wrap64 (x12 + 1)) x482000 x482001) else (none))) else (none)) else (some (x9, true))
end
def gampref05_Word.f (k : Nat) (a0 : Int) (a1_0 : Int) (l1_1 : List (List Int)) : Option (List Int × Bool) := (gampref05_Half.f k a0).bind fun t482 => ((gampref05_Simple.f k t482).bind fun t485 => (gampref05_Word.l0 k t485 0 0 a1_0 l1_1))
set_option maxHeartbeats 8000000 in
set_option maxRecDepth 100000 in
theorem gampref05_Word.calls (k : Nat) (a0 : Int) (a1_0 : Int) (A1_1 : Option Addr) (c1_1 : Nat) (l1_1 : List (List Int)) (r1 : List Int) (r2 : Bool) (w : World) (hr1_1 : Kd.C (Kd.slice 3 (Kd.int .i64)) w A1_1 l1_1.length l1_1) (hc1_1 : l1_1.length ≤ c1_1) (h : gampref05_Word.f k a0 a1_0 l1_1 = some (r1, r2)) :
  Calls Try.prog 34 #[.int .i64 a0, .agg #[.int .i64 a1_0, .slice A1_1 l1_1.length c1_1]] w fun e w' => ∃ v0_ : Value, e = .returned (.tuple #[v0_, .bool r2]) ∧ Kd.R (Kd.int .i64) 3 w' w.heap.size (fun _ => True) v0_ r1 ∧ Below w.heap.size w w' := by
 have hu26 := Try.underlying26
 have HR1_1 := Aside0.mk hr1_1
 have HC1_1 := Aside0.mk hc1_1
 clear hr1_1 hc1_1
 have HB := Aside0.mk (Below.refl w.heap.size w)
 have H : ((gampref05_Half.f k a0).bind fun t482 => ((gampref05_Simple.f k t482).bind fun t485 => (gampref05_Word.l0 k t485 0 0 a1_0 l1_1))) = some (r1, r2) := h
 clear h
 replace H := Option.bind_eq_some_iff.mp H
 obtain ⟨t482, A30, H⟩ := H
 replace H : ((gampref05_Simple.f k t482).bind fun t485 => (gampref05_Word.l0 k t485 0 0 a1_0 l1_1)) = some (r1, r2) := H
 have A3 := Aside0.mk A30
 clear A30
 replace H := Option.bind_eq_some_iff.mp H
 obtain ⟨t485, A40, H⟩ := H
 replace H : (gampref05_Word.l0 k t485 0 0 a1_0 l1_1) = some (r1, r2) := H
 have A4 := Aside0.mk A40
 clear A40
 have H' := Aside0.mk H
 clear H
 go_enter Try.func34, Try.ntmps34
 go_wp2_with (first | ((with_reducible refine gate_dst (N := 3) rfl ?_); (try (refine gate_guard (by rfl) ?_; dsimp only)); refine box_event ?hg (N := 3) ?hd (cs := #[.int .i64 a1_0, .slice A1_1 l1_1.length c1_1]) (t := 26) ?hr ?_; (case hd => rfl); (case hg => rfl); (case hr => first | (go_simp; done) | (go_simp; rfl)); intro gb481 hg w5 hbox hb; have n0_ := Aside0.mk (below_step (bl HB) hb); have n1_ := Aside0.mk (hbox); have n2_ := Aside0.mk ((by rw [hg]; exact (below_size (bl HB)) : w.heap.size ≤ gb481)); have n3_ := Aside0.mk ((by rw [hg]; exact (below_size (bl HB)) : w.heap.size ≤ gb481)); clear HB; have HB := n0_; have BK481 := n1_; have GW481 := n2_; have GE481 := n3_; clear n0_ n1_ n2_ n3_; clear hb hbox hg) | ((with_reducible refine gate_callee (f := 29) rfl ?_); refine gL 14 Try.func29 #[.int .i64 a0] ?_; (with_reducible refine (gampref05_Half.calls k a0 t482 _ A3.out).mono ?_); rintro e w6 ⟨v483, rfl, ho0, hb⟩; refine ⟨_, rfl, ?_⟩; have n0_ := Aside0.mk (Kd.R_lower ho0 (below_size (bl HB))); have n1_ := Aside0.mk (blk_below (g := gb481) (o := .cells #[.int .i64 a1_0, .slice A1_1 l1_1.length c1_1] 26 (0, 0)) (bk BK481) hb); have n2_ := Aside0.mk (below_step (bl HB) hb); clear BK481; clear HB; have HO484 := n0_; have BK481 := n1_; have HB := n2_; clear n0_ n1_ n2_; (try clear hb); (try clear hb2); (try clear hk); (try clear hi); (try clear ho0); obtain ⟨Ao7, co7, eo7⟩ := Kd.R_slice HO484.out; subst eo7) | ((with_reducible refine gate_callee (f := 28) rfl ?_); refine gL 15 Try.func28 #[.slice Ao7 t482.length co7] ?_; (with_reducible refine (gampref05_Simple.calls k _ _ t482 t485 _ ?side1 ?side2 A4.out).mono ?_); (case side1 => exact cl ((Kd.R_reads' HO484.out).2.2)); (case side2 => exact (Kd.R_reads' HO484.out).2.1); rintro e w8 ⟨v486, rfl, ho0, hb⟩; refine ⟨_, rfl, ?_⟩; have n0_ := Aside0.mk (Kd.R_elder' (rl HO484) (Kd.R_base ho0) hb); have n1_ := Aside0.mk (Kd.R_lower (Kd.R_new' ho0 (Kd.R_lt (rl HO484))) (below_size (bl HB))); have n2_ := Aside0.mk (blk_below (g := gb481) (o := .cells #[.int .i64 a1_0, .slice A1_1 l1_1.length c1_1] 26 (0, 0)) (bk BK481) hb); have n3_ := Aside0.mk (below_step (bl HB) hb); clear HO484; clear BK481; clear HB; have HO484 := n0_; have HO487 := n1_; have BK481 := n2_; have HB := n3_; clear n0_ n1_ n2_ n3_; (try clear hb); (try clear hb2); (try clear hk); (try clear hi); (try clear ho0)))
 go_loopg [7, 8] k (fun kq v7 v8 w' => ∃ (x7_1 : Int) (x8_1 : Int), v7 = .int .i64 x7_1 ∧ v8 = .int .i64 x8_1 ∧ Aside0 (gampref05_Word.l0 kq t485 x7_1 x8_1 a1_0 l1_1 = some (r1, r2)) ∧ Aside0 (kq ≤ k) ∧ Aside0 (Kd.R (Kd.int .i64) 3 w' w.heap.size (fun _ => True) v486 t485) ∧ Aside0 (w'.heap[gb481]? = some (.cells #[.int .i64 a1_0, (.slice A1_1 l1_1.length c1_1)] 26 (0, 0))) ∧ Aside0 (Below w.heap.size w w'))
 case atStart => exact ⟨(0), (0), (by first | rfl | (simp; done) | (simp [*]; done)), (by first | rfl | (simp; done) | (simp [*]; done)), H', ⟨Nat.le_refl _⟩, ⟨by (with_reducible repeat (first | apply Kd.R_alloc | apply Kd.R_drewN | apply Kd.R_drew)); exact Kd.R_mono HO487.out (fun _ hk => trivial)⟩, ⟨bk BK481⟩, ⟨bl HB⟩⟩
 case round =>
  clear H'
  try clear c1
  try clear c2
  try clear p2
  try clear c3
  obtain ⟨x7_1, x8_1, rfl, rfl, HA, HK1, HO_6, BK481, HB⟩ := hrel
  cases gk with
  | zero => exact absurd HA.out (by simp [gampref05_Word.l0])
  | succ k1 =>
   have H := HA.out
   clear HA
   simp only [gampref05_Word.l0] at H
   by_cases c9 : x8_1 < (l1_1.length : Int)
   ·rw [if_pos c9] at H
    have c9b0 : decide (x8_1 < (l1_1.length : Int)) = true := decide_eq_true c9
    clear c9
    by_cases c10 : 0 ≤ x8_1
    ·rw [if_pos c10] at H
     have c10b0 : decide (0 ≤ x8_1) = true := decide_eq_true c10
     clear c10
     replace H := Option.bind_eq_some_iff.mp H
     obtain ⟨t489, A110, H⟩ := H
     replace H : (gampref05_Word.l0 k1 t485 (wrap64 (x7_1 + t489)) (wrap64 (x8_1 + 1)) a1_0 l1_1) = some (r1, r2) := H
     have A11 := Aside0.mk A110
     clear A110
     have H' := Aside0.mk H
     clear H
     have hcz12_0 : wr.cell? ⟨gb481, 0, none⟩ = some (.int .i64 a1_0) := (blk_cell BK481.out 0).trans rfl
     have hcz12_1 : wr.cell? ⟨gb481, 1, none⟩ = some (.slice A1_1 l1_1.length c1_1) := (blk_cell BK481.out 1).trans rfl
     have hfz12_0 := blk_frozen BK481.out 0
     have hfz12_1 := blk_frozen BK481.out 1
     have p488 : 0 ≤ (x8_1 : Int) := ofd
     have q488 : x8_1 < (l1_1.length : Int) := ofd
     obtain ⟨ad488, A488_0, c488_0, e488, hx488_0, hl488_0, hi488_0⟩ := at_L1 HR1_1.out x8_1 p488 q488
     cases e488
     replace hx488_0 := (HB.out.cell (World.block_lt_of_cell? w _ hx488_0)).trans hx488_0
     have HR488_0 := Aside0.mk hi488_0
     have HC488_0 := Aside0.mk hl488_0
     clear hi488_0 hl488_0
     replace p488 := eq_true p488
     replace q488 := eq_true q488
     go_wp2_with (first | ((with_reducible refine gate_callee (f := 31) rfl ?_); refine gL 29 Try.func31 #[.slice A488_0 (rd_L1 l1_1 x8_1).length c488_0] ?_; (with_reducible refine (gampref05_Crossings.calls k1 _ _ (rd_L1 l1_1 x8_1) t489 _ ?side1 ?side2 A11.out).mono ?_); (case side1 => exact cl (Kd.C_below HR488_0.out HB.out)); (case side2 => exact HC488_0.out); rintro e w' ⟨rfl, ⟨nd, rfl⟩⟩; refine ⟨_, rfl, ?_⟩))
     go_roundg k1
     case measure => have := HK1.out; omega
     case rel => exact ⟨(wrap64 (x7_1 + t489)), (wrap64 (x8_1 + 1)), (by first | rfl | (simp; done) | (simp [*]; done)), (by first | rfl | (simp; done) | (simp [*]; done)), H', ⟨by have := HK1.out; omega⟩, ⟨rl HO_6⟩, ⟨bk BK481⟩, ⟨bl HB⟩⟩
    ·rw [if_neg c10] at H
     exact absurd H (by simp)
   ·rw [if_neg c9] at H
    have c9b0 : decide (x8_1 < (l1_1.length : Int)) = false := decide_eq_false c9
    clear c9
    have HC13 := Aside0.mk H
    clear H
    have hcz14_0 : wr.cell? ⟨gb481, 0, none⟩ = some (.int .i64 a1_0) := (blk_cell BK481.out 0).trans rfl
    have hcz14_1 : wr.cell? ⟨gb481, 1, none⟩ = some (.slice A1_1 l1_1.length c1_1) := (blk_cell BK481.out 1).trans rfl
    have hfz14_0 := blk_frozen BK481.out 0
    have hfz14_1 := blk_frozen BK481.out 1
    go_upto_region 6 with (fail)
    go_cut [52] (fun v52 wc => ∃ (kq : Nat) (x52_12 : Bool), v52 = .bool x52_12 ∧ Aside0 (gampref05_Word.j1 kq t485 x52_12 a1_0 l1_1 = some (r1, r2)) ∧ Aside0 (kq ≤ k1) ∧ Aside0 (Kd.R (Kd.int .i64) 3 wc w.heap.size (fun _ => True) v486 t485) ∧ Aside0 (wc.heap[gb481]? = some (.cells #[.int .i64 a1_0, (.slice A1_1 l1_1.length c1_1)] 26 (0, 0))) ∧ Aside0 (Below w.heap.size w wc))
    case first =>
     have H := HC13.out
     clear HC13
     by_cases c15 : a1_0 > 10000
     ·rw [if_pos c15] at H
      have c15b0 : decide (10000 < a1_0) = true := decide_eq_true c15
      clear c15
      (first | rw [c15b0] | (simp only [i64_w, i32_w]; rw [c15b0]) | skip)
      have H' := Aside0.mk H
      clear H
      have hcz16_0 : wr.cell? ⟨gb481, 0, none⟩ = some (.int .i64 a1_0) := (blk_cell BK481.out 0).trans rfl
      have hcz16_1 : wr.cell? ⟨gb481, 1, none⟩ = some (.slice A1_1 l1_1.length c1_1) := (blk_cell BK481.out 1).trans rfl
      have hfz16_0 := blk_frozen BK481.out 0
      have hfz16_1 := blk_frozen BK481.out 1
      go_wp2
      go_meet
      case rel => exact ⟨_, (true), (by first | rfl | (simp; done) | (simp [*]; done)), H', ⟨by have := HK1.out; first | omega | exact Nat.le_refl _⟩, ⟨rl HO_6⟩, ⟨bk BK481⟩, ⟨bl HB⟩⟩
     ·rw [if_neg c15] at H
      have c15b0 : decide (10000 < a1_0) = false := decide_eq_false c15
      clear c15
      (first | rw [c15b0] | (simp only [i64_w, i32_w]; rw [c15b0]) | skip)
      by_cases c17 : a1_0 < (-10000)
      ·rw [if_pos c17] at H
       have c17b0 : decide (a1_0 < (-10000)) = true := decide_eq_true c17
       clear c17
       have H' := Aside0.mk H
       clear H
       have hcz18_0 : wr.cell? ⟨gb481, 0, none⟩ = some (.int .i64 a1_0) := (blk_cell BK481.out 0).trans rfl
       have hcz18_1 : wr.cell? ⟨gb481, 1, none⟩ = some (.slice A1_1 l1_1.length c1_1) := (blk_cell BK481.out 1).trans rfl
       have hfz18_0 := blk_frozen BK481.out 0
       have hfz18_1 := blk_frozen BK481.out 1
       go_wp2
       go_meet
       case rel => exact ⟨_, (true), (by first | rfl | (simp; done) | (simp [*]; done)), H', ⟨by have := HK1.out; first | omega | exact Nat.le_refl _⟩, ⟨rl HO_6⟩, ⟨bk BK481⟩, ⟨bl HB⟩⟩
      ·rw [if_neg c17] at H
       have c17b0 : decide (a1_0 < (-10000)) = false := decide_eq_false c17
       clear c17
       obtain ⟨ji19, hji19⟩ : ∃ j_ : Int, (mx a1_0 (wrap64 (-a1_0))) = j_ := ⟨_, rfl⟩
       replace H : (gampref05_Word.j1 k1 t485 (decide ((wrap64 ((wrap64 ((ji19) * (t485.length : Int))) + x7_1)) > 10000)) a1_0 l1_1) = some (r1, r2) := by first | (rw [hji19] at H; exact H) | (simp only [hji19] at H ⊢; exact H)
       have hji19_ : (if a1_0 < (wrap64 (-a1_0)) then (wrap64 (-a1_0)) else a1_0) = ji19 := hji19
       have H' := Aside0.mk H
       clear H
       have hcz20_0 : wr.cell? ⟨gb481, 0, none⟩ = some (.int .i64 a1_0) := (blk_cell BK481.out 0).trans rfl
       have hcz20_1 : wr.cell? ⟨gb481, 1, none⟩ = some (.slice A1_1 l1_1.length c1_1) := (blk_cell BK481.out 1).trans rfl
       have hfz20_0 := blk_frozen BK481.out 0
       have hfz20_1 := blk_frozen BK481.out 1
       obtain ⟨Ao21, co21, eo21⟩ := Kd.R_slice HO_6.out
       subst eo21
       go_wp2
       go_meet
       case rel => exact ⟨_, (decide ((wrap64 ((wrap64 ((ji19) * (t485.length : Int))) + x7_1)) > 10000)), (by first | rfl | (simp; done) | (simp only [← hji19] <;> (first | rfl | simp)) | (simp [*]; done)), H', ⟨by have := HK1.out; first | omega | exact Nat.le_refl _⟩, ⟨rl HO_6⟩, ⟨bk BK481⟩, ⟨bl HB⟩⟩
    case rest =>
     clear HC13
     try clear c1
     try clear c2
     try clear p2
     try clear c3
     try clear c4
     try clear p4
     try clear q4
     try clear hx4
     try clear p6
     try clear c9
     try clear c9b0
     try clear c10
     try clear c10b0
     try clear c15
     try clear c15b0
     try clear c17
     try clear c17b0
     try clear hcz12_0
     try clear hcz12_1
     try clear hcz14_0
     try clear hcz14_1
     try clear hcz16_0
     try clear hcz16_1
     try clear hcz18_0
     try clear hcz18_1
     try clear hcz20_0
     try clear hcz20_1
     try clear hfz12_0
     try clear hfz12_1
     try clear hfz14_0
     try clear hfz14_1
     try clear hfz16_0
     try clear hfz16_1
     try clear hfz18_0
     try clear hfz18_1
     try clear hfz20_0
     try clear hfz20_1
     try clear hx488_0
     try clear p2
     try clear p488
     try clear q488
     obtain ⟨kq, x52_12, rfl, HA, HJ12, HO_6, BK481, HB⟩ := hcut
     cases kq with
     | zero => exact absurd HA.out (by simp [gampref05_Word.j1])
     | succ kj12 =>
      have H := HA.out
      clear HA
      simp only [gampref05_Word.j1] at H
      by_cases c22 : x52_12 = true
      ·subst c22
       have H1 : (some (([] : List Int), false)) = some (r1, r2) := by rw [if_pos rfl] at H; exact H
       clear H
       have H := H1
       clear H1
       simp only [Option.some.injEq, Prod.mk.injEq] at H
       obtain ⟨rfl, rfl⟩ := H
       go_wp2
       go_ret2
       exact ⟨_, by first | rfl | (simp [errW_none, errW_some] <;> rfl) | (simp [*, errW_none, errW_some] <;> rfl), by first | exact Kd.R_nil _ _ _ _ _ | exact Kd.N_nil _ _ _ _ _ | exact Kd.V_nil _ _ _ _ _ | exact Kd.Q_nil _ _ _ _ _ | exact Kd.S_nil _ _ _ _ _, by repeat (first | (with_reducible first | exact HB.out | apply below_alloc | apply pw_below_drewN | apply below_drew1 | refine below_set ?_ GE481.out) | exact HB.out)⟩
      ·replace c22 := Bool.eq_false_iff.mpr c22
       subst c22
       have H1 : (gampref05_Word.l1 kj12 t485 (([] : List Int)) 0 a1_0 l1_1) = some (r1, r2) := by rw [if_neg (show ¬ (false = true) by decide)] at H; exact H
       clear H
       have H := H1
       clear H1
       obtain ⟨y490, hy490⟩ : ∃ y_ : List Int, y_ = (([] : List Int)) := ⟨_, rfl⟩
       replace H : (gampref05_Word.l1 kj12 t485 y490 0 a1_0 l1_1) = some (r1, r2) := by first | (rw [hy490]; with_reducible exact H) | (have H2_ := (Option.bind_some _ _).symm.trans H; rw [hy490]; with_reducible exact H2_) | (have H2_ := (Option.bind_some _ _).symm.trans H; with_reducible exact H2_) | with_reducible exact H | (rw [hy490]; exact H) | exact H
       have Ny490 := Aside0.mk hy490
       clear hy490
       have H' := Aside0.mk H
       clear H
       go_wp2_with (first | ((with_reducible refine gate_dst (N := 53) rfl ?_); (try (refine gate_guard (by rfl) ?_; dsimp only)); refine Kd.R_lit (Kd.int .i64) _ 3 ?hg (N := 53) ?hd (xs := ([] : List Int)) (inner := []) (ok := fun _ => True) (okp := fun _ => True) ?hr ?hp (fun _ hk => hk) trivial (Below.refl _ _) (Nat.le_refl _) (by simp) ?_; (case hd => rfl); (case hg => rfl); (case hr => first | (go_simp; done) | (go_simp; rfl)); (case hp => exact (Reps.none _ _)); intro v491 w23 ho24 hb hg_ hnew_; clear hg_ hnew_; (first | rw [← Ny490.out] at ho24 | (simp only [Int.reduceToNat] at ho24; rw [← Ny490.out] at ho24)); have n0_ := Aside0.mk (Kd.R_elder' (rl HO_6) (Kd.R_base ho24) hb); have n1_ := Aside0.mk (Kd.R_lower (Kd.R_new' ho24 (Kd.R_lt (rl HO_6))) (below_size (bl HB))); have n2_ := Aside0.mk (blk_below (g := gb481) (o := .cells #[.int .i64 a1_0, .slice A1_1 l1_1.length c1_1] 26 (0, 0)) (bk BK481) hb); have n3_ := Aside0.mk (below_step (bl HB) hb); clear HO_6; clear BK481; clear HB; have HO_6 := n0_; have HO492 := n1_; have BK481 := n2_; have HB := n3_; clear n0_ n1_ n2_ n3_; clear hb ho24))
       go_loopg [9, 10] kj12 (fun kq v9 v10 w' => ∃ (x9_3 : List Int) (x10_3 : Int), v10 = .int .i64 x10_3 ∧ Aside0 (gampref05_Word.l1 kq t485 x9_3 x10_3 a1_0 l1_1 = some (r1, r2)) ∧ Aside0 (kq ≤ kj12) ∧ Aside0 (Kd.R (Kd.int .i64) 3 w' w.heap.size (fun k_ => some k_ ≠ (v9 : Value).ownBlock) v486 t485) ∧ Aside0 (Kd.R (Kd.int .i64) 3 w' w.heap.size (fun k_ => some k_ ≠ (v486 : Value).ownBlock) v9 x9_3) ∧ Aside0 (w'.heap[gb481]? = some (.cells #[.int .i64 a1_0, (.slice A1_1 l1_1.length c1_1)] 26 (0, 0))) ∧ Aside0 (Below w.heap.size w w'))
       case atStart => exact ⟨(y490), (0), (by first | rfl | (simp; done) | (simp [*]; done)), H', ⟨Nat.le_refl _⟩, ⟨by (with_reducible repeat (first | apply Kd.R_alloc | apply Kd.R_drewN | apply Kd.R_drew)); exact Kd.R_mono HO_6.out (fun _ hk => hk.2)⟩, ⟨by (with_reducible repeat (first | apply Kd.R_alloc | apply Kd.R_drewN | apply Kd.R_drew)); exact Kd.R_mono HO492.out (fun _ hk => hk.2)⟩, ⟨bk BK481⟩, ⟨bl HB⟩⟩
       case round =>
        clear H'
        try clear c1
        try clear c2
        try clear p2
        try clear c3
        try clear c4
        try clear p4
        try clear q4
        try clear hx4
        try clear p6
        try clear c9
        try clear c9b0
        try clear c10
        try clear c10b0
        try clear c15
        try clear c15b0
        try clear c17
        try clear c17b0
        try clear c22
        try clear hcz12_0
        try clear hcz12_1
        try clear hcz14_0
        try clear hcz14_1
        try clear hcz16_0
        try clear hcz16_1
        try clear hcz18_0
        try clear hcz18_1
        try clear hcz20_0
        try clear hcz20_1
        try clear hfz12_0
        try clear hfz12_1
        try clear hfz14_0
        try clear hfz14_1
        try clear hfz16_0
        try clear hfz16_1
        try clear hfz18_0
        try clear hfz18_1
        try clear hfz20_0
        try clear hfz20_1
        try clear hx488_0
        try clear p2
        try clear p4
        try clear p488
        try clear p6
        try clear q4
        try clear q488
        obtain ⟨x9_3, x10_3, rfl, HA, HK3, HO_6, HO_9, BK481, HB⟩ := hrel
        cases gk with
        | zero => exact absurd HA.out (by simp [gampref05_Word.l1])
        | succ k3 =>
         have H := HA.out
         clear HA
         simp only [gampref05_Word.l1] at H
         by_cases c25 : x10_3 < a1_0
         ·rw [if_pos c25] at H
          have c25b0 : decide (x10_3 < a1_0) = true := decide_eq_true c25
          clear c25
          by_cases c26 : x9_3.length + t485.length < 17592186044416
          ·rw [if_pos c26] at H
           have LMc26 := Aside0.mk c26
           clear c26
           obtain ⟨y493, hy493⟩ : ∃ y_ : List Int, y_ = (x9_3 ++ t485) := ⟨_, rfl⟩
           replace H : (gampref05_Word.l1 k3 t485 y493 (wrap64 (x10_3 + 1)) a1_0 l1_1) = some (r1, r2) := by first | (rw [hy493]; with_reducible exact H) | (have H2_ := (Option.bind_some _ _).symm.trans H; rw [hy493]; with_reducible exact H2_) | (have H2_ := (Option.bind_some _ _).symm.trans H; with_reducible exact H2_) | with_reducible exact H | (rw [hy493]; exact H) | exact H
           have Ny493 := Aside0.mk hy493
           clear hy493
           have H' := Aside0.mk H
           clear H
           have hcz27_0 : wr.cell? ⟨gb481, 0, none⟩ = some (.int .i64 a1_0) := (blk_cell BK481.out 0).trans rfl
           have hcz27_1 : wr.cell? ⟨gb481, 1, none⟩ = some (.slice A1_1 l1_1.length c1_1) := (blk_cell BK481.out 1).trans rfl
           have hfz27_0 := blk_frozen BK481.out 0
           have hfz27_1 := blk_frozen BK481.out 1
           obtain ⟨Ao29, co29, eo29⟩ := Kd.R_slice HO_6.out
           subst eo29
           go_wp2_with (first | ((with_reducible refine gate_builtin (b := .append) (xs := #[.tmp 60, .tmp 61]) rfl ?_); (try (refine gate_guard (by rfl) ?_; dsimp only)); at_builtin; refine Kd.R_append_rows (Kd.int .i64) (w0 := w) w.heap.size rfl (.tmp 60) (.tmp 61) 22 3 (.int .i64 0) 8 rfl Try.underlying22 info3 rfl (by decide) (by omega) u9 x9_3 t485 _ _ _ (fun k_ => some k_ ≠ (.slice Ao29 t485.length co29 : Value).ownBlock) (fun _ => False) rfl rfl ?aO ?aR (fun _ _ h => h) (fun _ h => h.elim) ?aF ?aB ?aS ?aL ?_; (case aR => exact cl ((Kd.R_reads' HO_6.out).2.2)); (case aB => exact (bl HB)); (case aF => exact (fun k_ hk => Kd.fresh' (Kd.R_lt (rl HO_6)) k_ hk)); (case aO => exact (rl HO_9)); (case aS => exact (below_size (bl HB))); (case aL => have := LMc26.out; omega); intro v494 w28 ho hb hg hat; rw [← Ny493.out] at ho; have n0_ := Aside0.mk (Kd.R_after (ok := (fun _ => True)) (by (with_reducible repeat (first | apply Kd.R_alloc | apply Kd.R_drewN | apply Kd.R_drew)); exact Kd.R_mono HO_6.out (fun _ hk => ⟨trivial, hk⟩)) hg hat); have n1_ := Aside0.mk (blk_grown (g := gb481) (o := .cells #[.int .i64 a1_0, .slice A1_1 l1_1.length c1_1] 26 (0, 0)) (bk BK481) hg (Kd.R_ne HO_9.out BK481.out (by decide))); have n2_ := Aside0.mk (hb); have n3_ := Aside0.mk (ho); clear HO_6; clear BK481; clear HB; clear HO_9; have HO_6 := n0_; have BK481 := n1_; have HB := n2_; have HO495 := n3_; clear n0_ n1_ n2_ n3_; clear ho hb hg hat))
           go_roundg k3
           case measure => have := HK1.out; have := HJ12.out; have := HK3.out; omega
           case rel => exact ⟨(y493), (wrap64 (x10_3 + 1)), (by first | rfl | (simp; done) | (simp [*]; done)), H', ⟨by have := HK1.out; have := HJ12.out; have := HK3.out; omega⟩, ⟨by (with_reducible repeat (first | apply Kd.R_alloc | apply Kd.R_drewN | apply Kd.R_drew)); exact Kd.R_mono HO_6.out (fun _ hk => hk.2)⟩, ⟨rl HO495⟩, ⟨bk BK481⟩, ⟨bl HB⟩⟩
          ·rw [if_neg c26] at H
           exact absurd H (by simp)
         ·rw [if_neg c25] at H
          have c25b0 : decide (x10_3 < a1_0) = false := decide_eq_false c25
          clear c25
          have H' := Aside0.mk H
          clear H
          have hcz30_0 : wr.cell? ⟨gb481, 0, none⟩ = some (.int .i64 a1_0) := (blk_cell BK481.out 0).trans rfl
          have hcz30_1 : wr.cell? ⟨gb481, 1, none⟩ = some (.slice A1_1 l1_1.length c1_1) := (blk_cell BK481.out 1).trans rfl
          have hfz30_0 := blk_frozen BK481.out 0
          have hfz30_1 := blk_frozen BK481.out 1
          go_wp2
          go_loopg [9, 11] k3 (fun kq v9 v11 w' => ∃ (x9_4 : List Int) (x11_4 : Int), v11 = .int .i64 x11_4 ∧ Aside0 (gampref05_Word.l2 kq t485 x9_4 x11_4 a1_0 l1_1 = some (r1, r2)) ∧ Aside0 (kq ≤ k3) ∧ Aside0 (Kd.R (Kd.int .i64) 3 w' w.heap.size (fun k_ => some k_ ≠ (v9 : Value).ownBlock) v486 t485) ∧ Aside0 (Kd.R (Kd.int .i64) 3 w' w.heap.size (fun k_ => some k_ ≠ (v486 : Value).ownBlock) v9 x9_4) ∧ Aside0 (w'.heap[gb481]? = some (.cells #[.int .i64 a1_0, (.slice A1_1 l1_1.length c1_1)] 26 (0, 0))) ∧ Aside0 (Below w.heap.size w w'))
          case atStart => exact ⟨(x9_3), (0), (by first | rfl | (simp; done) | (simp [*]; done)), H', ⟨Nat.le_refl _⟩, ⟨rl HO_6⟩, ⟨rl HO_9⟩, ⟨bk BK481⟩, ⟨bl HB⟩⟩
          case round =>
           clear H'
           try clear c1
           try clear c2
           try clear p2
           try clear c3
           try clear c4
           try clear p4
           try clear q4
           try clear hx4
           try clear p6
           try clear c9
           try clear c9b0
           try clear c10
           try clear c10b0
           try clear c15
           try clear c15b0
           try clear c17
           try clear c17b0
           try clear c22
           try clear c25
           try clear c25b0
           try clear c26
           try clear c28
           try clear c29
           try clear hcz12_0
           try clear hcz12_1
           try clear hcz14_0
           try clear hcz14_1
           try clear hcz16_0
           try clear hcz16_1
           try clear hcz18_0
           try clear hcz18_1
           try clear hcz20_0
           try clear hcz20_1
           try clear hcz27_0
           try clear hcz27_1
           try clear hcz30_0
           try clear hcz30_1
           try clear hfz12_0
           try clear hfz12_1
           try clear hfz14_0
           try clear hfz14_1
           try clear hfz16_0
           try clear hfz16_1
           try clear hfz18_0
           try clear hfz18_1
           try clear hfz20_0
           try clear hfz20_1
           try clear hfz27_0
           try clear hfz27_1
           try clear hfz30_0
           try clear hfz30_1
           try clear hx488_0
           try clear p2
           try clear p4
           try clear p488
           try clear p6
           try clear q4
           try clear q488
           obtain ⟨x9_4, x11_4, rfl, HA, HK4, HO_6, HO_9, BK481, HB⟩ := hrel
           cases gk with
           | zero => exact absurd HA.out (by simp [gampref05_Word.l2])
           | succ k4 =>
            have H := HA.out
            clear HA
            simp only [gampref05_Word.l2] at H
            by_cases c31 : x11_4 < (wrap64 (-a1_0))
            ·rw [if_pos c31] at H
             have c31b0 : decide (x11_4 < (wrap64 (-a1_0))) = true := decide_eq_true c31
             clear c31
             replace H := Option.bind_eq_some_iff.mp H
             obtain ⟨t496, A320, H⟩ := H
             replace H : (if x9_4.length + t496.length < 17592186044416 then (gampref05_Word.l2 k4 t485 (x9_4 ++ t496) (wrap64 (x11_4 + 1)) a1_0 l1_1) else (none)) = some (r1, r2) := H
             have A32 := Aside0.mk A320
             clear A320
             by_cases c33 : x9_4.length + t496.length < 17592186044416
             ·rw [if_pos c33] at H
              have LMc33 := Aside0.mk c33
              clear c33
              obtain ⟨y499, hy499⟩ : ∃ y_ : List Int, y_ = (x9_4 ++ t496) := ⟨_, rfl⟩
              replace H : (gampref05_Word.l2 k4 t485 y499 (wrap64 (x11_4 + 1)) a1_0 l1_1) = some (r1, r2) := by first | (rw [hy499]; with_reducible exact H) | (have H2_ := (Option.bind_some _ _).symm.trans H; rw [hy499]; with_reducible exact H2_) | (have H2_ := (Option.bind_some _ _).symm.trans H; with_reducible exact H2_) | with_reducible exact H | (rw [hy499]; exact H) | exact H
              have Ny499 := Aside0.mk hy499
              clear hy499
              have H' := Aside0.mk H
              clear H
              have hcz34_0 : wr.cell? ⟨gb481, 0, none⟩ = some (.int .i64 a1_0) := (blk_cell BK481.out 0).trans rfl
              have hcz34_1 : wr.cell? ⟨gb481, 1, none⟩ = some (.slice A1_1 l1_1.length c1_1) := (blk_cell BK481.out 1).trans rfl
              have hfz34_0 := blk_frozen BK481.out 0
              have hfz34_1 := blk_frozen BK481.out 1
              obtain ⟨Ao35, co35, eo35⟩ := Kd.R_slice HO_6.out
              subst eo35
              go_wp2_with (first | ((with_reducible refine gate_callee (f := 32) rfl ?_); refine gL 72 Try.func32 #[.slice Ao35 t485.length co35] ?_; (with_reducible refine (gampref05_Inverse.calls k4 _ _ t485 t496 _ ?side1 ?side2 A32.out).mono ?_); (case side1 => exact cl ((Kd.R_reads' HO_6.out).2.2)); (case side2 => exact (Kd.R_reads' HO_6.out).2.1); rintro e w36 ⟨v497, rfl, ho0, hb⟩; refine ⟨_, rfl, ?_⟩; have n0_ := Aside0.mk (Kd.R_elder' (rl HO_6) (Kd.R_base ho0) hb); have n1_ := Aside0.mk (Kd.R_elder' (rl HO_9) (Kd.R_base ho0) hb); have n2_ := Aside0.mk (Kd.R_lower (Kd.R_new' (Kd.R_new' ho0 (Kd.R_lt (rl HO_6))) (Kd.R_lt (rl HO_9))) (below_size (bl HB))); have n3_ := Aside0.mk (blk_below (g := gb481) (o := .cells #[.int .i64 a1_0, .slice A1_1 l1_1.length c1_1] 26 (0, 0)) (bk BK481) hb); have n4_ := Aside0.mk (below_step (bl HB) hb); clear HO_6; clear HO_9; clear BK481; clear HB; have HO_6 := n0_; have HO_9 := n1_; have HO498 := n2_; have BK481 := n3_; have HB := n4_; clear n0_ n1_ n2_ n3_ n4_; (try clear hb); (try clear hb2); (try clear hk); (try clear hi); (try clear ho0); obtain ⟨Ao38, co38, eo38⟩ := Kd.R_slice HO498.out; subst eo38) | ((with_reducible refine gate_builtin (b := .append) (xs := #[.tmp 70, .tmp 72]) rfl ?_); (try (refine gate_guard (by rfl) ?_; dsimp only)); at_builtin; refine Kd.R_append_rows (Kd.int .i64) (w0 := w) w.heap.size rfl (.tmp 70) (.tmp 72) 22 3 (.int .i64 0) 8 rfl Try.underlying22 info3 rfl (by decide) (by omega) u9 x9_4 t496 _ _ _ (fun k_ => some k_ ≠ (.slice Ao35 t485.length co35 : Value).ownBlock ∧ some k_ ≠ (.slice Ao38 t496.length co38 : Value).ownBlock) (fun _ => False) rfl rfl ?aO ?aR (fun _ _ h => h) (fun _ h => h.elim) ?aF ?aB ?aS ?aL ?_; (case aR => exact cl ((Kd.R_reads' HO498.out).2.2)); (case aB => exact (bl HB)); (case aF => exact (fun k_ hk => ⟨Kd.fresh' (Kd.R_lt (rl HO_6)) k_ hk, Kd.fresh' (Kd.R_lt (rl HO498)) k_ hk⟩)); (case aO => exact (rl HO_9)); (case aS => exact (below_size (bl HB))); (case aL => have := LMc33.out; omega); intro v500 w37 ho hb hg hat; rw [← Ny499.out] at ho; have n0_ := Aside0.mk (Kd.R_after (ok := (fun k_ => some k_ ≠ (.slice Ao38 t496.length co38 : Value).ownBlock)) (by (with_reducible repeat (first | apply Kd.R_alloc | apply Kd.R_drewN | apply Kd.R_drew)); exact Kd.R_mono HO_6.out (fun _ hk => ⟨hk.2, hk.1⟩)) hg hat); have n1_ := Aside0.mk (blk_grown (g := gb481) (o := .cells #[.int .i64 a1_0, .slice A1_1 l1_1.length c1_1] 26 (0, 0)) (bk BK481) hg (Kd.R_ne HO_9.out BK481.out (by decide))); have n2_ := Aside0.mk (Kd.R_after (ok := (fun k_ => some k_ ≠ (.slice Ao35 t485.length co35 : Value).ownBlock)) (by (with_reducible repeat (first | apply Kd.R_alloc | apply Kd.R_drewN | apply Kd.R_drew)); exact Kd.R_mono HO498.out (fun _ hk => ⟨hk.1.2, hk.2⟩)) hg hat); have n3_ := Aside0.mk (hb); have n4_ := Aside0.mk (ho); clear HO_6; clear BK481; clear HO498; clear HB; clear HO_9; have HO_6 := n0_; have BK481 := n1_; have HO498 := n2_; have HB := n3_; have HO501 := n4_; clear n0_ n1_ n2_ n3_ n4_; clear ho hb hg hat))
              go_roundg k4
              case measure => have := HK1.out; have := HJ12.out; have := HK3.out; have := HK4.out; omega
              case rel => exact ⟨(y499), (wrap64 (x11_4 + 1)), (by first | rfl | (simp; done) | (simp [*]; done)), H', ⟨by have := HK1.out; have := HJ12.out; have := HK3.out; have := HK4.out; omega⟩, ⟨by (with_reducible repeat (first | apply Kd.R_alloc | apply Kd.R_drewN | apply Kd.R_drew)); exact Kd.R_mono HO_6.out (fun _ hk => hk.2)⟩, ⟨by (with_reducible repeat (first | apply Kd.R_alloc | apply Kd.R_drewN | apply Kd.R_drew)); exact Kd.R_mono HO501.out (fun _ hk => hk.1)⟩, ⟨bk BK481⟩, ⟨bl HB⟩⟩
             ·rw [if_neg c33] at H
              exact absurd H (by simp)
            ·rw [if_neg c31] at H
             have c31b0 : decide (x11_4 < (wrap64 (-a1_0))) = false := decide_eq_false c31
             clear c31
             have H' := Aside0.mk H
             clear H
             have hcz39_0 : wr.cell? ⟨gb481, 0, none⟩ = some (.int .i64 a1_0) := (blk_cell BK481.out 0).trans rfl
             have hcz39_1 : wr.cell? ⟨gb481, 1, none⟩ = some (.slice A1_1 l1_1.length c1_1) := (blk_cell BK481.out 1).trans rfl
             have hfz39_0 := blk_frozen BK481.out 0
             have hfz39_1 := blk_frozen BK481.out 1
             go_wp2
             go_loopg [9, 12] k4 (fun kq v9 v12 w' => ∃ (x9_5 : List Int) (x12_5 : Int), v12 = .int .i64 x12_5 ∧ Aside0 (gampref05_Word.l3 kq x9_5 x12_5 a1_0 l1_1 = some (r1, r2)) ∧ Aside0 (kq ≤ k4) ∧ Aside0 (Kd.R (Kd.int .i64) 3 w' w.heap.size (fun _ => True) v9 x9_5) ∧ Aside0 (w'.heap[gb481]? = some (.cells #[.int .i64 a1_0, (.slice A1_1 l1_1.length c1_1)] 26 (0, 0))) ∧ Aside0 (Below w.heap.size w w'))
             case atStart => exact ⟨(x9_4), (0), (by first | rfl | (simp; done) | (simp [*]; done)), H', ⟨Nat.le_refl _⟩, ⟨by (with_reducible repeat (first | apply Kd.R_alloc | apply Kd.R_drewN | apply Kd.R_drew)); exact Kd.R_mono HO_9.out (fun _ hk => trivial)⟩, ⟨bk BK481⟩, ⟨bl HB⟩⟩
             case round =>
              clear H'
              try clear c1
              try clear c2
              try clear p2
              try clear c3
              try clear c4
              try clear p4
              try clear q4
              try clear hx4
              try clear p6
              try clear c9
              try clear c9b0
              try clear c10
              try clear c10b0
              try clear c15
              try clear c15b0
              try clear c17
              try clear c17b0
              try clear c22
              try clear c25
              try clear c25b0
              try clear c26
              try clear c28
              try clear c29
              try clear c31
              try clear c31b0
              try clear c32
              try clear c33
              try clear c34
              try clear hcz12_0
              try clear hcz12_1
              try clear hcz14_0
              try clear hcz14_1
              try clear hcz16_0
              try clear hcz16_1
              try clear hcz18_0
              try clear hcz18_1
              try clear hcz20_0
              try clear hcz20_1
              try clear hcz27_0
              try clear hcz27_1
              try clear hcz30_0
              try clear hcz30_1
              try clear hcz34_0
              try clear hcz34_1
              try clear hcz39_0
              try clear hcz39_1
              try clear hfz12_0
              try clear hfz12_1
              try clear hfz14_0
              try clear hfz14_1
              try clear hfz16_0
              try clear hfz16_1
              try clear hfz18_0
              try clear hfz18_1
              try clear hfz20_0
              try clear hfz20_1
              try clear hfz27_0
              try clear hfz27_1
              try clear hfz30_0
              try clear hfz30_1
              try clear hfz34_0
              try clear hfz34_1
              try clear hfz39_0
              try clear hfz39_1
              try clear hx488_0
              try clear p2
              try clear p4
              try clear p488
              try clear p6
              try clear q4
              try clear q488
              obtain ⟨x9_5, x12_5, rfl, HA, HK5, HO_9, BK481, HB⟩ := hrel
              cases gk with
              | zero => exact absurd HA.out (by simp [gampref05_Word.l3])
              | succ k5 =>
               have H := HA.out
               clear HA
               simp only [gampref05_Word.l3] at H
               by_cases c40 : x12_5 < (l1_1.length : Int)
               ·rw [if_pos c40] at H
                have c40b0 : decide (x12_5 < (l1_1.length : Int)) = true := decide_eq_true c40
                clear c40
                by_cases c41 : 0 ≤ x12_5
                ·rw [if_pos c41] at H
                 have c41b0 : decide (0 ≤ x12_5) = true := decide_eq_true c41
                 clear c41
                 replace H := Option.bind_eq_some_iff.mp H
                 obtain ⟨t503, A420, H⟩ := H
                 replace H : (if x9_5.length + t503.length < 17592186044416 then (gampref05_Word.l3 k5 (x9_5 ++ t503) (wrap64 (x12_5 + 1)) a1_0 l1_1) else (none)) = some (r1, r2) := H
                 have A42 := Aside0.mk A420
                 clear A420
                 by_cases c43 : x9_5.length + t503.length < 17592186044416
                 ·rw [if_pos c43] at H
                  have LMc43 := Aside0.mk c43
                  clear c43
                  obtain ⟨y506, hy506⟩ : ∃ y_ : List Int, y_ = (x9_5 ++ t503) := ⟨_, rfl⟩
                  replace H : (gampref05_Word.l3 k5 y506 (wrap64 (x12_5 + 1)) a1_0 l1_1) = some (r1, r2) := by first | (rw [hy506]; with_reducible exact H) | (have H2_ := (Option.bind_some _ _).symm.trans H; rw [hy506]; with_reducible exact H2_) | (have H2_ := (Option.bind_some _ _).symm.trans H; with_reducible exact H2_) | with_reducible exact H | (rw [hy506]; exact H) | exact H
                  have Ny506 := Aside0.mk hy506
                  clear hy506
                  have H' := Aside0.mk H
                  clear H
                  have hcz44_0 : wr.cell? ⟨gb481, 0, none⟩ = some (.int .i64 a1_0) := (blk_cell BK481.out 0).trans rfl
                  have hcz44_1 : wr.cell? ⟨gb481, 1, none⟩ = some (.slice A1_1 l1_1.length c1_1) := (blk_cell BK481.out 1).trans rfl
                  have hfz44_0 := blk_frozen BK481.out 0
                  have hfz44_1 := blk_frozen BK481.out 1
                  have p502 : 0 ≤ (x12_5 : Int) := ofd
                  have q502 : x12_5 < (l1_1.length : Int) := ofd
                  obtain ⟨ad502, A502_0, c502_0, e502, hx502_0, hl502_0, hi502_0⟩ := at_L1 HR1_1.out x12_5 p502 q502
                  cases e502
                  replace hx502_0 := (HB.out.cell (World.block_lt_of_cell? w _ hx502_0)).trans hx502_0
                  have HR502_0 := Aside0.mk hi502_0
                  have HC502_0 := Aside0.mk hl502_0
                  clear hi502_0 hl502_0
                  replace p502 := eq_true p502
                  replace q502 := eq_true q502
                  go_wp2_with (first | ((with_reducible refine gate_callee (f := 28) rfl ?_); refine gL 87 Try.func28 #[.slice A502_0 (rd_L1 l1_1 x12_5).length c502_0] ?_; (with_reducible refine (gampref05_Simple.calls k5 _ _ (rd_L1 l1_1 x12_5) t503 _ ?side1 ?side2 A42.out).mono ?_); (case side1 => exact cl (Kd.C_below HR502_0.out HB.out)); (case side2 => exact HC502_0.out); rintro e w45 ⟨v504, rfl, ho0, hb⟩; refine ⟨_, rfl, ?_⟩; have n0_ := Aside0.mk (Kd.R_elder' (rl HO_9) (Kd.R_base ho0) hb); have n1_ := Aside0.mk (Kd.R_lower (Kd.R_new' ho0 (Kd.R_lt (rl HO_9))) (below_size (bl HB))); have n2_ := Aside0.mk (blk_below (g := gb481) (o := .cells #[.int .i64 a1_0, .slice (some ad502) l1_1.length c1_1] 26 (0, 0)) (bk BK481) hb); have n3_ := Aside0.mk (below_step (bl HB) hb); clear HO_9; clear BK481; clear HB; have HO_9 := n0_; have HO505 := n1_; have BK481 := n2_; have HB := n3_; clear n0_ n1_ n2_ n3_; (try clear hb); (try clear hb2); (try clear hk); (try clear hi); (try clear ho0); obtain ⟨Ao47, co47, eo47⟩ := Kd.R_slice HO505.out; subst eo47) | ((with_reducible refine gate_builtin (b := .append) (xs := #[.tmp 81, .tmp 87]) rfl ?_); (try (refine gate_guard (by rfl) ?_; dsimp only)); at_builtin; refine Kd.R_append_rows (Kd.int .i64) (w0 := w) w.heap.size rfl (.tmp 81) (.tmp 87) 22 3 (.int .i64 0) 8 rfl Try.underlying22 info3 rfl (by decide) (by omega) u9 x9_5 t503 _ _ _ (fun k_ => some k_ ≠ (.slice Ao47 t503.length co47 : Value).ownBlock) (fun _ => False) rfl rfl ?aO ?aR (fun _ _ h => h) (fun _ h => h.elim) ?aF ?aB ?aS ?aL ?_; (case aR => exact cl ((Kd.R_reads' HO505.out).2.2)); (case aB => exact (bl HB)); (case aF => exact (fun k_ hk => Kd.fresh' (Kd.R_lt (rl HO505)) k_ hk)); (case aO => exact (by (with_reducible repeat (first | apply Kd.R_alloc | apply Kd.R_drewN | apply Kd.R_drew)); exact Kd.R_mono HO_9.out (fun _ hk => hk.2))); (case aS => exact (below_size (bl HB))); (case aL => have := LMc43.out; omega); intro v507 w46 ho hb hg hat; rw [← Ny506.out] at ho; have n0_ := Aside0.mk (blk_grown (g := gb481) (o := .cells #[.int .i64 a1_0, .slice (some ad502) l1_1.length c1_1] 26 (0, 0)) (bk BK481) hg (Kd.R_ne HO_9.out BK481.out (by decide))); have n1_ := Aside0.mk (Kd.R_after (ok := (fun _ => True)) (rl HO505) hg hat); have n2_ := Aside0.mk (hb); have n3_ := Aside0.mk (ho); clear BK481; clear HO505; clear HB; clear HO_9; have BK481 := n0_; have HO505 := n1_; have HB := n2_; have HO508 := n3_; clear n0_ n1_ n2_ n3_; clear ho hb hg hat))
                  go_roundg k5
                  case measure => have := HK1.out; have := HJ12.out; have := HK3.out; have := HK4.out; have := HK5.out; omega
                  case rel => exact ⟨(y506), (wrap64 (x12_5 + 1)), (by first | rfl | (simp; done) | (simp [*]; done)), H', ⟨by have := HK1.out; have := HJ12.out; have := HK3.out; have := HK4.out; have := HK5.out; omega⟩, ⟨by (with_reducible repeat (first | apply Kd.R_alloc | apply Kd.R_drewN | apply Kd.R_drew)); exact Kd.R_mono HO508.out (fun _ hk => trivial)⟩, ⟨bk BK481⟩, ⟨bl HB⟩⟩
                 ·rw [if_neg c43] at H
                  exact absurd H (by simp)
                ·rw [if_neg c41] at H
                 exact absurd H (by simp)
               ·rw [if_neg c40] at H
                have c40b0 : decide (x12_5 < (l1_1.length : Int)) = false := decide_eq_false c40
                clear c40
                simp only [Option.some.injEq, Prod.mk.injEq] at H
                obtain ⟨rfl, rfl⟩ := H
                have hcz48_0 : wr.cell? ⟨gb481, 0, none⟩ = some (.int .i64 a1_0) := (blk_cell BK481.out 0).trans rfl
                have hcz48_1 : wr.cell? ⟨gb481, 1, none⟩ = some (.slice A1_1 l1_1.length c1_1) := (blk_cell BK481.out 1).trans rfl
                have hfz48_0 := blk_frozen BK481.out 0
                have hfz48_1 := blk_frozen BK481.out 1
                go_wp2
                go_ret2
                exact ⟨_, by first | rfl | (simp [errW_none, errW_some] <;> rfl) | (simp [*, errW_none, errW_some] <;> rfl), by (with_reducible repeat (first | apply Kd.R_alloc | apply Kd.R_drewN | apply Kd.R_drew)); exact HO_9.out, by repeat (first | (with_reducible first | exact HB.out | apply below_alloc | apply pw_below_drewN | apply below_drew1 | refine below_set ?_ GE481.out) | exact HB.out)⟩
end Go.Proofs.Ytdldfdcedjmneaa.Lx
