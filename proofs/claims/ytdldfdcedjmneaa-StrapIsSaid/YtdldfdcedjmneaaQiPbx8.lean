/- The declarations of Pbx8 that the claim Qi needs. -/
import Derived.Test.YtdldfdcedjmneaaQiTkP
import Derived.Test.YtdldfdcedjmneaaQiPbx0
import Derived.Test.YtdldfdcedjmneaaQiPbx1
import Derived.Test.YtdldfdcedjmneaaQiPbx2
import Derived.Test.YtdldfdcedjmneaaQiPbx7
namespace Go.Proofs.Ytdldfdcedjmneaa.Pb
open Go.RowKit Go.Proofs.Ytdldfdcedjmneaa.Own Go.Proofs.YtdldfdcedjmneaaW.PrintWords Go.Proofs.YtdldfdcedjmneaaW.PrintLast Go.Proofs.YtdldfdcedjmneaaW.PrintMore
attribute [local go_sem] max2_int min2_int max_two min_two max_three min_three max_four min_four
set_option linter.unusedVariables false
set_option linter.unusedSimpArgs false
mutual
def strap_formed.l0 : Nat → Int → List (List Int) → Int → Int → Int → List (List Int) → Option (Bool)
  | 0, _, _, _, _, _, _ => none
  | k + 1, x0, x9, x10, x11, x249000, x249001 => if x11 < x10 then (if 0 ≤ x11 then (if x11 < (x9.length : Int) then ((strap_valid.f k (rd_L1 x9 x11) x0).bind fun t250 => (if t250 = true then ((strap_identity.f k x0).bind fun t251 => ((strap_perm_is.f k t251 (rd_L1 x9 x11)).bind fun t254 => (if t254 = true then (strap_formed.j1 k x0 x11 (rd_L1 x9 x11) x9 x10 x11 true x249000 x249001) else ((strap_twist.f k x0).bind fun t255 => ((strap_perm_is.f k t255 (rd_L1 x9 x11)).bind fun t258 => (strap_formed.j1 k x0 x11 (rd_L1 x9 x11) x9 x10 x11 t258 x249000 x249001)))))) else (strap_formed.j1 k x0 x11 (rd_L1 x9 x11) x9 x10 x11 true x249000 x249001))) else (none)) else (none)) else (some true)
def strap_formed.j1 : Nat → Int → Int → List Int → List (List Int) → Int → Int → Bool → Int → List (List Int) → Option (Bool)
  | 0, _, _, _, _, _, _, _, _, _ => none
  | k + 1, x0, x5, x6, x9, x10, x11, x31, x249000, x249001 => if x31 = true then (some false) else (strap_formed.l1 k x0 x5 x6 x9 x10 x11 (wrap64 (x0 - 1)) 0 x249000 x249001)
def strap_formed.l1 : Nat → Int → Int → List Int → List (List Int) → Int → Int → Int → Int → Int → List (List Int) → Option (Bool)
  | 0, _, _, _, _, _, _, _, _, _, _ => none
  | k + 1, x0, x5, x6, x9, x10, x11, x33, x34, x249000, x249001 => if x34 < x33 then (if x5 > 0 then ((strap_perm_begins.f x6 x34).bind fun t259 => (if t259 = true then (if 0 ≤ (wrap64 (x5 - 1)) then (if (wrap64 (x5 - 1)) < (x249001.length : Int) then ((strap_perm_ends.f k (rd_L1 x249001 (wrap64 (x5 - 1))) x34).bind fun t261 => (if t261 = true then (strap_formed.l1 k x0 x5 x6 x9 x10 x11 x33 (wrap64 (x34 + 1)) x249000 x249001) else (some false))) else (none)) else (none)) else (strap_formed.l1 k x0 x5 x6 x9 x10 x11 x33 (wrap64 (x34 + 1)) x249000 x249001))) else (strap_formed.l1 k x0 x5 x6 x9 x10 x11 x33 (wrap64 (x34 + 1)) x249000 x249001)) else (strap_formed.l0 k x0 x9 x10 (wrap64 (x11 + 1)) x249000 x249001)
end
def strap_formed.f (k : Nat) (a0 : Int) (a1_0 : Int) (l1_1 : List (List Int)) : Option (Bool) := strap_formed.l0 k a0 l1_1 (l1_1.length : Int) 0 a1_0 l1_1
set_option maxHeartbeats 8000000 in
set_option maxRecDepth 100000 in
theorem strap_formed.calls (k : Nat) (a0 : Int) (a1_0 : Int) (A1_1 : Option Addr) (c1_1 : Nat) (l1_1 : List (List Int)) (r : Bool) (w : World) (hr1_1 : Kd.C (Kd.slice 3 (Kd.int .i64)) w A1_1 l1_1.length l1_1) (hc1_1 : l1_1.length ≤ c1_1) (h : strap_formed.f k a0 a1_0 l1_1 = some r) :
  Calls Try.prog 77 #[.int .i64 a0, .agg #[.int .i64 a1_0, .slice A1_1 l1_1.length c1_1]] w fun e w' => e = .returned (.bool r) ∧ Below w.heap.size w w' := by
 have hu26 := Try.underlying26
 have HR1_1 := Aside0.mk hr1_1
 have HC1_1 := Aside0.mk hc1_1
 clear hr1_1 hc1_1
 have HB := Aside0.mk (Below.refl w.heap.size w)
 have H : (strap_formed.l0 k a0 l1_1 (l1_1.length : Int) 0 a1_0 l1_1) = some r := h
 clear h
 have H' := Aside0.mk H
 clear H
 go_enter Try.func77, Try.ntmps77
 go_wp2_with (first | ((with_reducible refine gate_dst (N := 3) rfl ?_); refine box_event ?hg (N := 3) ?hd (cs := #[.int .i64 a1_0, .slice A1_1 l1_1.length c1_1]) (t := 26) ?hr ?_; (case hd => rfl); (case hg => rfl); (case hr => first | (go_simp; done) | (go_simp; rfl)); intro gb248 hg w3 hbox hb; have n0_ := Aside0.mk (below_step (bl HB) hb); have n1_ := Aside0.mk (hbox); have n2_ := Aside0.mk ((by rw [hg]; exact (below_size (bl HB)) : w.heap.size ≤ gb248)); have n3_ := Aside0.mk ((by rw [hg]; exact (below_size (bl HB)) : w.heap.size ≤ gb248)); clear HB; have HB := n0_; have BK248 := n1_; have GW248 := n2_; have GE248 := n3_; clear n0_ n1_ n2_ n3_; clear hb hbox hg; have hcz4_0 : w3.cell? ⟨gb248, 0, none⟩ = some (.int .i64 a1_0) := (blk_cell BK248.out 0).trans rfl; have hcz4_1 : w3.cell? ⟨gb248, 1, none⟩ = some (.slice A1_1 l1_1.length c1_1) := (blk_cell BK248.out 1).trans rfl; have hfz4_0 := blk_frozen BK248.out 0; have hfz4_1 := blk_frozen BK248.out 1))
 go_loopg [11] k (fun kq v11 w' => ∃ (x11_1 : Int), v11 = .int .i64 x11_1 ∧ Aside0 (strap_formed.l0 kq a0 l1_1 (l1_1.length : Int) x11_1 a1_0 l1_1 = some r) ∧ Aside0 (kq ≤ k) ∧ Aside0 (w'.heap[gb248]? = some (.cells #[.int .i64 a1_0, (.slice A1_1 l1_1.length c1_1)] 26 (0, 0))) ∧ Aside0 (Below w.heap.size w w'))
 case atStart => exact ⟨(0), (by first | rfl | (simp; done) | (simp [*]; done)), H', ⟨Nat.le_refl _⟩, ⟨bk BK248⟩, ⟨bl HB⟩⟩
 case round =>
  clear H'
  try clear c1
  try clear p2
  try clear hcz4_0
  try clear hcz4_1
  try clear hfz4_0
  try clear hfz4_1
  obtain ⟨x11_1, rfl, HA, HK1, BK248, HB⟩ := hrel
  cases gk with
  | zero => exact absurd HA.out (by simp [strap_formed.l0])
  | succ k1 =>
   have H := HA.out
   clear HA
   simp only [strap_formed.l0] at H
   by_cases c5 : x11_1 < (l1_1.length : Int)
   ·rw [if_pos c5] at H
    have c5b0 : decide (x11_1 < (l1_1.length : Int)) = true := decide_eq_true c5
    clear c5
    by_cases c6 : 0 ≤ x11_1
    ·rw [if_pos c6] at H
     have c6b0 : decide (0 ≤ x11_1) = true := decide_eq_true c6
     clear c6
     by_cases c7 : x11_1 < (l1_1.length : Int)
     ·rw [if_pos c7] at H
      have c7b0 : decide (x11_1 < (l1_1.length : Int)) = true := decide_eq_true c7
      clear c7
      have HC8 := Aside0.mk H
      clear H
      have p249 : 0 ≤ (x11_1 : Int) := ofd
      have q249 : x11_1 < (l1_1.length : Int) := ofd
      obtain ⟨ad249, A249_0, c249_0, e249, hx249_0, hl249_0, hi249_0⟩ := at_L1 HR1_1.out x11_1 p249 q249
      cases e249
      replace hx249_0 := (HB.out.cell (World.block_lt_of_cell? w _ hx249_0)).trans hx249_0
      have HR249_0 := Aside0.mk hi249_0
      have HC249_0 := Aside0.mk hl249_0
      clear hi249_0 hl249_0
      replace p249 := eq_true p249
      replace q249 := eq_true q249
      go_upto_region 4 with (fail)
      go_cut [31] (fun v31 wc => ∃ (kq : Nat) (x31_7 : Bool), v31 = .bool x31_7 ∧ Aside0 (strap_formed.j1 kq a0 x11_1 (rd_L1 l1_1 x11_1) l1_1 (l1_1.length : Int) x11_1 x31_7 a1_0 l1_1 = some r) ∧ Aside0 (kq ≤ k1) ∧ Aside0 (wc.heap[gb248]? = some (.cells #[.int .i64 a1_0, (.slice (some ad249) l1_1.length c1_1)] 26 (0, 0))) ∧ Aside0 (Below w.heap.size w wc))
      case first =>
       have H := HC8.out
       clear HC8
       replace H := Option.bind_eq_some_iff.mp H
       obtain ⟨t250, A90, H⟩ := H
       replace H : (if t250 = true then ((strap_identity.f k1 a0).bind fun t251 => ((strap_perm_is.f k1 t251 (rd_L1 l1_1 x11_1)).bind fun t254 => (if t254 = true then (strap_formed.j1 k1 a0 x11_1 (rd_L1 l1_1 x11_1) l1_1 (l1_1.length : Int) x11_1 true a1_0 l1_1) else ((strap_twist.f k1 a0).bind fun t255 => ((strap_perm_is.f k1 t255 (rd_L1 l1_1 x11_1)).bind fun t258 => (strap_formed.j1 k1 a0 x11_1 (rd_L1 l1_1 x11_1) l1_1 (l1_1.length : Int) x11_1 t258 a1_0 l1_1)))))) else (strap_formed.j1 k1 a0 x11_1 (rd_L1 l1_1 x11_1) l1_1 (l1_1.length : Int) x11_1 true a1_0 l1_1)) = some r := H
       have A9 := Aside0.mk A90
       clear A90
       by_cases c10 : t250 = true
       ·subst c10
        have H1 : ((strap_identity.f k1 a0).bind fun t251 => ((strap_perm_is.f k1 t251 (rd_L1 l1_1 x11_1)).bind fun t254 => (if t254 = true then (strap_formed.j1 k1 a0 x11_1 (rd_L1 l1_1 x11_1) l1_1 (l1_1.length : Int) x11_1 true a1_0 l1_1) else ((strap_twist.f k1 a0).bind fun t255 => ((strap_perm_is.f k1 t255 (rd_L1 l1_1 x11_1)).bind fun t258 => (strap_formed.j1 k1 a0 x11_1 (rd_L1 l1_1 x11_1) l1_1 (l1_1.length : Int) x11_1 t258 a1_0 l1_1)))))) = some r := by rw [if_pos rfl] at H; exact H
        clear H
        have H := H1
        clear H1
        replace H := Option.bind_eq_some_iff.mp H
        obtain ⟨t251, A110, H⟩ := H
        replace H : ((strap_perm_is.f k1 t251 (rd_L1 l1_1 x11_1)).bind fun t254 => (if t254 = true then (strap_formed.j1 k1 a0 x11_1 (rd_L1 l1_1 x11_1) l1_1 (l1_1.length : Int) x11_1 true a1_0 l1_1) else ((strap_twist.f k1 a0).bind fun t255 => ((strap_perm_is.f k1 t255 (rd_L1 l1_1 x11_1)).bind fun t258 => (strap_formed.j1 k1 a0 x11_1 (rd_L1 l1_1 x11_1) l1_1 (l1_1.length : Int) x11_1 t258 a1_0 l1_1))))) = some r := H
        have A11 := Aside0.mk A110
        clear A110
        replace H := Option.bind_eq_some_iff.mp H
        obtain ⟨t254, A120, H⟩ := H
        replace H : (if t254 = true then (strap_formed.j1 k1 a0 x11_1 (rd_L1 l1_1 x11_1) l1_1 (l1_1.length : Int) x11_1 true a1_0 l1_1) else ((strap_twist.f k1 a0).bind fun t255 => ((strap_perm_is.f k1 t255 (rd_L1 l1_1 x11_1)).bind fun t258 => (strap_formed.j1 k1 a0 x11_1 (rd_L1 l1_1 x11_1) l1_1 (l1_1.length : Int) x11_1 t258 a1_0 l1_1)))) = some r := H
        have A12 := Aside0.mk A120
        clear A120
        by_cases c13 : t254 = true
        ·subst c13
         have H1 : (strap_formed.j1 k1 a0 x11_1 (rd_L1 l1_1 x11_1) l1_1 (l1_1.length : Int) x11_1 true a1_0 l1_1) = some r := by rw [if_pos rfl] at H; exact H
         clear H
         have H := H1
         clear H1
         have H' := Aside0.mk H
         clear H
         go_wp2_with (first | ((with_reducible refine gate_callee (f := 94) rfl ?_); refine gL 18 Try.func94 #[.slice A249_0 (rd_L1 l1_1 x11_1).length c249_0, .int .i64 a0] ?_; (with_reducible refine (strap_valid.calls k1 _ _ (rd_L1 l1_1 x11_1) a0 true _ ?side1 ?side2 A9.out).mono ?_); (case side1 => exact cl (Kd.C_below HR249_0.out HB.out)); (case side2 => exact HC249_0.out); rintro e w14 ⟨rfl, hb⟩; refine ⟨_, rfl, ?_⟩; have n0_ := Aside0.mk (blk_below (g := gb248) (o := .cells #[.int .i64 a1_0, .slice (some ad249) l1_1.length c1_1] 26 (0, 0)) (bk BK248) hb); have n1_ := Aside0.mk (below_step (bl HB) hb); clear BK248; clear HB; have BK248 := n0_; have HB := n1_; clear n0_ n1_; (try clear hb); (try clear hb2); (try clear hk); (try clear hi)) | (go_at_call 92; (with_reducible refine (strap_identity.calls k1 a0 t251 _ A11.out).mono ?_); rintro e w15 ⟨v252, rfl, ho0, hb⟩; have n0_ := Aside0.mk (Kd.R_lower ho0 (below_size (bl HB))); have n1_ := Aside0.mk (blk_below (g := gb248) (o := .cells #[.int .i64 a1_0, .slice (some ad249) l1_1.length c1_1] 26 (0, 0)) (bk BK248) hb); have n2_ := Aside0.mk (below_step (bl HB) hb); clear BK248; clear HB; have HO253 := n0_; have BK248 := n1_; have HB := n2_; clear n0_ n1_ n2_; (try clear hb); (try clear hb2); (try clear hk); (try clear hi); (try clear ho0); obtain ⟨Ao16, co16, eo16⟩ := Kd.R_slice HO253.out; subst eo16) | (go_at_call 60; (with_reducible refine (strap_perm_is.calls k1 _ _ t251 _ _ (rd_L1 l1_1 x11_1) true _ ?side1 ?side2 ?side3 ?side4 A12.out).mono ?_); (case side1 => exact cl ((Kd.R_reads' HO253.out).2.2)); (case side2 => exact (Kd.R_reads' HO253.out).2.1); (case side3 => exact cl (Kd.C_below HR249_0.out HB.out)); (case side4 => exact HC249_0.out); rintro e w' ⟨rfl, ⟨nd, rfl⟩⟩))
         go_meet
         case rel => exact ⟨_, (true), (by first | rfl | (simp; done) | (simp [*]; done)), H', ⟨by have := HK1.out; first | omega | exact Nat.le_refl _⟩, ⟨bk BK248⟩, ⟨bl HB⟩⟩
        ·replace c13 := Bool.eq_false_iff.mpr c13
         subst c13
         have H1 : ((strap_twist.f k1 a0).bind fun t255 => ((strap_perm_is.f k1 t255 (rd_L1 l1_1 x11_1)).bind fun t258 => (strap_formed.j1 k1 a0 x11_1 (rd_L1 l1_1 x11_1) l1_1 (l1_1.length : Int) x11_1 t258 a1_0 l1_1))) = some r := by rw [if_neg (show ¬ (false = true) by decide)] at H; exact H
         clear H
         have H := H1
         clear H1
         replace H := Option.bind_eq_some_iff.mp H
         obtain ⟨t255, A170, H⟩ := H
         replace H : ((strap_perm_is.f k1 t255 (rd_L1 l1_1 x11_1)).bind fun t258 => (strap_formed.j1 k1 a0 x11_1 (rd_L1 l1_1 x11_1) l1_1 (l1_1.length : Int) x11_1 t258 a1_0 l1_1)) = some r := H
         have A17 := Aside0.mk A170
         clear A170
         replace H := Option.bind_eq_some_iff.mp H
         obtain ⟨t258, A180, H⟩ := H
         replace H : (strap_formed.j1 k1 a0 x11_1 (rd_L1 l1_1 x11_1) l1_1 (l1_1.length : Int) x11_1 t258 a1_0 l1_1) = some r := H
         have A18 := Aside0.mk A180
         clear A180
         have H' := Aside0.mk H
         clear H
         go_wp2_with (first | ((with_reducible refine gate_callee (f := 94) rfl ?_); refine gL 18 Try.func94 #[.slice A249_0 (rd_L1 l1_1 x11_1).length c249_0, .int .i64 a0] ?_; (with_reducible refine (strap_valid.calls k1 _ _ (rd_L1 l1_1 x11_1) a0 true _ ?side1 ?side2 A9.out).mono ?_); (case side1 => exact cl (Kd.C_below HR249_0.out HB.out)); (case side2 => exact HC249_0.out); rintro e w19 ⟨rfl, hb⟩; refine ⟨_, rfl, ?_⟩; have n0_ := Aside0.mk (blk_below (g := gb248) (o := .cells #[.int .i64 a1_0, .slice (some ad249) l1_1.length c1_1] 26 (0, 0)) (bk BK248) hb); have n1_ := Aside0.mk (below_step (bl HB) hb); clear BK248; clear HB; have BK248 := n0_; have HB := n1_; clear n0_ n1_; (try clear hb); (try clear hb2); (try clear hk); (try clear hi)) | (go_at_call 92; (with_reducible refine (strap_identity.calls k1 a0 t251 _ A11.out).mono ?_); rintro e w20 ⟨v252, rfl, ho0, hb⟩; have n0_ := Aside0.mk (Kd.R_lower ho0 (below_size (bl HB))); have n1_ := Aside0.mk (blk_below (g := gb248) (o := .cells #[.int .i64 a1_0, .slice (some ad249) l1_1.length c1_1] 26 (0, 0)) (bk BK248) hb); have n2_ := Aside0.mk (below_step (bl HB) hb); clear BK248; clear HB; have HO253 := n0_; have BK248 := n1_; have HB := n2_; clear n0_ n1_ n2_; (try clear hb); (try clear hb2); (try clear hk); (try clear hi); (try clear ho0); obtain ⟨Ao21, co21, eo21⟩ := Kd.R_slice HO253.out; subst eo21) | (go_at_call 60; (with_reducible refine (strap_perm_is.calls k1 _ _ t251 _ _ (rd_L1 l1_1 x11_1) false _ ?side1 ?side2 ?side3 ?side4 A12.out).mono ?_); (case side1 => exact cl ((Kd.R_reads' HO253.out).2.2)); (case side2 => exact (Kd.R_reads' HO253.out).2.1); (case side3 => exact cl (Kd.C_below HR249_0.out HB.out)); (case side4 => exact HC249_0.out); rintro e w' ⟨rfl, ⟨nd, rfl⟩⟩) | (go_at_call 78; (with_reducible refine (strap_twist.calls k1 a0 t255 _ A17.out).mono ?_); rintro e w22 ⟨v256, rfl, ho0, hb⟩; have n0_ := Aside0.mk (Kd.R_elder' (rl HO253) (Kd.R_base ho0) hb); have n1_ := Aside0.mk (Kd.R_lower (Kd.R_new' ho0 (Kd.R_lt (rl HO253))) (below_size (bl HB))); have n2_ := Aside0.mk (blk_below (g := gb248) (o := .cells #[.int .i64 a1_0, .slice (some ad249) l1_1.length c1_1] 26 (0, 0)) (bk BK248) hb); have n3_ := Aside0.mk (below_step (bl HB) hb); clear HO253; clear BK248; clear HB; have HO253 := n0_; have HO257 := n1_; have BK248 := n2_; have HB := n3_; clear n0_ n1_ n2_ n3_; (try clear hb); (try clear hb2); (try clear hk); (try clear hi); (try clear ho0); obtain ⟨Ao23, co23, eo23⟩ := Kd.R_slice HO257.out; subst eo23) | (go_at_call 60; (with_reducible refine (strap_perm_is.calls k1 _ _ t255 _ _ (rd_L1 l1_1 x11_1) t258 _ ?side1 ?side2 ?side3 ?side4 A18.out).mono ?_); (case side1 => exact cl ((Kd.R_reads' HO257.out).2.2)); (case side2 => exact (Kd.R_reads' HO257.out).2.1); (case side3 => exact cl (Kd.C_below HR249_0.out HB.out)); (case side4 => exact HC249_0.out); rintro e w' ⟨rfl, ⟨nd, rfl⟩⟩))
         go_meet
         case rel => exact ⟨_, (t258), (by first | rfl | (simp; done) | (simp [*]; done)), H', ⟨by have := HK1.out; first | omega | exact Nat.le_refl _⟩, ⟨bk BK248⟩, ⟨bl HB⟩⟩
       ·replace c10 := Bool.eq_false_iff.mpr c10
        subst c10
        have H1 : (strap_formed.j1 k1 a0 x11_1 (rd_L1 l1_1 x11_1) l1_1 (l1_1.length : Int) x11_1 true a1_0 l1_1) = some r := by rw [if_neg (show ¬ (false = true) by decide)] at H; exact H
        clear H
        have H := H1
        clear H1
        have H' := Aside0.mk H
        clear H
        go_wp2_with (first | ((with_reducible refine gate_callee (f := 94) rfl ?_); refine gL 18 Try.func94 #[.slice A249_0 (rd_L1 l1_1 x11_1).length c249_0, .int .i64 a0] ?_; (with_reducible refine (strap_valid.calls k1 _ _ (rd_L1 l1_1 x11_1) a0 false _ ?side1 ?side2 A9.out).mono ?_); (case side1 => exact cl (Kd.C_below HR249_0.out HB.out)); (case side2 => exact HC249_0.out); rintro e w24 ⟨rfl, hb⟩; refine ⟨_, rfl, ?_⟩; have n0_ := Aside0.mk (blk_below (g := gb248) (o := .cells #[.int .i64 a1_0, .slice (some ad249) l1_1.length c1_1] 26 (0, 0)) (bk BK248) hb); have n1_ := Aside0.mk (below_step (bl HB) hb); clear BK248; clear HB; have BK248 := n0_; have HB := n1_; clear n0_ n1_; (try clear hb); (try clear hb2); (try clear hk); (try clear hi)))
        go_meet
        case rel => exact ⟨_, (true), (by first | rfl | (simp; done) | (simp [*]; done)), H', ⟨by have := HK1.out; first | omega | exact Nat.le_refl _⟩, ⟨bk BK248⟩, ⟨bl HB⟩⟩
      case rest =>
       clear HC8
       try clear c1
       try clear c2
       try clear p2
       try clear q2
       try clear hx2
       try clear c5
       try clear c5b0
       try clear c6
       try clear c6b0
       try clear c7
       try clear c7b0
       try clear c9
       try clear c10
       try clear c13
       try clear c24
       try clear p24
       try clear q24
       try clear hx24
       try clear hcz4_0
       try clear hcz4_1
       try clear hfz4_0
       try clear hfz4_1
       try clear hx249_0
       try clear p2
       try clear p249
       try clear q249
       obtain ⟨kq, x31_7, rfl, HA, HJ7, BK248, HB⟩ := hcut
       cases kq with
       | zero => exact absurd HA.out (by simp [strap_formed.j1])
       | succ kj7 =>
        have H := HA.out
        clear HA
        simp only [strap_formed.j1] at H
        by_cases c25 : x31_7 = true
        ·subst c25
         have H1 : (some false) = some r := by rw [if_pos rfl] at H; exact H
         clear H
         have H := H1
         clear H1
         obtain rfl := Option.some.inj H
         go_wp2
         go_ret
         exact ⟨by first | rfl | (simp [errW_none, errW_some] <;> rfl) | (simp [*, errW_none, errW_some] <;> rfl), by repeat (first | (with_reducible first | exact HB.out | apply below_alloc | apply pw_below_drewN | apply below_drew1 | refine below_set ?_ GE248.out) | exact HB.out)⟩
        ·replace c25 := Bool.eq_false_iff.mpr c25
         subst c25
         have H1 : (strap_formed.l1 kj7 a0 x11_1 (rd_L1 l1_1 x11_1) l1_1 (l1_1.length : Int) x11_1 (wrap64 (a0 - 1)) 0 a1_0 l1_1) = some r := by rw [if_neg (show ¬ (false = true) by decide)] at H; exact H
         clear H
         have H := H1
         clear H1
         have H' := Aside0.mk H
         clear H
         go_wp2
         go_loopg [34] kj7 (fun kq v34 w' => ∃ (x34_3 : Int), v34 = .int .i64 x34_3 ∧ Aside0 (strap_formed.l1 kq a0 x11_1 (rd_L1 l1_1 x11_1) l1_1 (l1_1.length : Int) x11_1 (wrap64 (a0 - 1)) x34_3 a1_0 l1_1 = some r) ∧ Aside0 (kq ≤ kj7) ∧ Aside0 (w'.heap[gb248]? = some (.cells #[.int .i64 a1_0, (.slice (some ad249) l1_1.length c1_1)] 26 (0, 0))) ∧ Aside0 (Below w.heap.size w w'))
         case atStart => exact ⟨(0), (by first | rfl | (simp; done) | (simp [*]; done)), H', ⟨Nat.le_refl _⟩, ⟨bk BK248⟩, ⟨bl HB⟩⟩
         case round =>
          clear H'
          try clear c1
          try clear c2
          try clear p2
          try clear q2
          try clear hx2
          try clear c5
          try clear c5b0
          try clear c6
          try clear c6b0
          try clear p6
          try clear c7
          try clear c7b0
          try clear c9
          try clear c10
          try clear c13
          try clear c24
          try clear p24
          try clear q24
          try clear hx24
          try clear c25
          try clear hcz4_0
          try clear hcz4_1
          try clear hfz4_0
          try clear hfz4_1
          try clear hx249_0
          try clear p2
          try clear p24
          try clear p249
          try clear q2
          try clear q24
          try clear q249
          obtain ⟨x34_3, rfl, HA, HK3, BK248, HB⟩ := hrel
          cases gk with
          | zero => exact absurd HA.out (by simp [strap_formed.l1])
          | succ k3 =>
           have H := HA.out
           clear HA
           simp only [strap_formed.l1] at H
           by_cases c26 : x34_3 < (wrap64 (a0 - 1))
           ·rw [if_pos c26] at H
            have c26b0 : decide (x34_3 < (wrap64 (a0 - 1))) = true := decide_eq_true c26
            clear c26
            by_cases c27 : x11_1 > 0
            ·rw [if_pos c27] at H
             have c27b0 : decide (0 < x11_1) = true := decide_eq_true c27
             clear c27
             replace H := Option.bind_eq_some_iff.mp H
             obtain ⟨t259, A280, H⟩ := H
             replace H : (if t259 = true then (if 0 ≤ (wrap64 (x11_1 - 1)) then (if (wrap64 (x11_1 - 1)) < (l1_1.length : Int) then ((strap_perm_ends.f k3 (rd_L1 l1_1 (wrap64 (x11_1 - 1))) x34_3).bind fun t261 => (if t261 = true then (strap_formed.l1 k3 a0 x11_1 (rd_L1 l1_1 x11_1) l1_1 (l1_1.length : Int) x11_1 (wrap64 (a0 - 1)) (wrap64 (x34_3 + 1)) a1_0 l1_1) else (some false))) else (none)) else (none)) else (strap_formed.l1 k3 a0 x11_1 (rd_L1 l1_1 x11_1) l1_1 (l1_1.length : Int) x11_1 (wrap64 (a0 - 1)) (wrap64 (x34_3 + 1)) a1_0 l1_1)) = some r := H
             have A28 := Aside0.mk A280
             clear A280
             by_cases c29 : t259 = true
             ·subst c29
              have H1 : (if 0 ≤ (wrap64 (x11_1 - 1)) then (if (wrap64 (x11_1 - 1)) < (l1_1.length : Int) then ((strap_perm_ends.f k3 (rd_L1 l1_1 (wrap64 (x11_1 - 1))) x34_3).bind fun t261 => (if t261 = true then (strap_formed.l1 k3 a0 x11_1 (rd_L1 l1_1 x11_1) l1_1 (l1_1.length : Int) x11_1 (wrap64 (a0 - 1)) (wrap64 (x34_3 + 1)) a1_0 l1_1) else (some false))) else (none)) else (none)) = some r := by rw [if_pos rfl] at H; exact H
              clear H
              have H := H1
              clear H1
              obtain ⟨ji30, hji30⟩ : ∃ j_ : Int, (wrap64 (x11_1 - 1)) = j_ := ⟨_, rfl⟩
              replace H : (if 0 ≤ (ji30) then (if (ji30) < (l1_1.length : Int) then ((strap_perm_ends.f k3 (rd_L1 l1_1 (ji30)) x34_3).bind fun t261 => (if t261 = true then (strap_formed.l1 k3 a0 x11_1 (rd_L1 l1_1 x11_1) l1_1 (l1_1.length : Int) x11_1 (wrap64 (a0 - 1)) (wrap64 (x34_3 + 1)) a1_0 l1_1) else (some false))) else (none)) else (none)) = some r := by first | (rw [hji30] at H; exact H) | (simp only [hji30] at H ⊢; exact H)
              (try rw [hji30] at A28)
              have hji30w : (IntKind.i64.wrap (x11_1 - 1)) = ji30 := (i64_w _).trans hji30
              by_cases c31 : 0 ≤ (ji30)
              ·rw [if_pos c31] at H
               have c31b0 : decide (0 ≤ (ji30)) = true := decide_eq_true c31
               clear c31
               by_cases c32 : (ji30) < (l1_1.length : Int)
               ·rw [if_pos c32] at H
                have c32b0 : decide ((ji30) < (l1_1.length : Int)) = true := decide_eq_true c32
                clear c32
                replace H := Option.bind_eq_some_iff.mp H
                obtain ⟨t261, A330, H⟩ := H
                replace H : (if t261 = true then (strap_formed.l1 k3 a0 x11_1 (rd_L1 l1_1 x11_1) l1_1 (l1_1.length : Int) x11_1 (wrap64 (a0 - 1)) (wrap64 (x34_3 + 1)) a1_0 l1_1) else (some false)) = some r := H
                have A33 := Aside0.mk A330
                clear A330
                by_cases c34 : t261 = true
                ·subst c34
                 have H1 : (strap_formed.l1 k3 a0 x11_1 (rd_L1 l1_1 x11_1) l1_1 (l1_1.length : Int) x11_1 (wrap64 (a0 - 1)) (wrap64 (x34_3 + 1)) a1_0 l1_1) = some r := by rw [if_pos rfl] at H; exact H
                 clear H
                 have H := H1
                 clear H1
                 have H' := Aside0.mk H
                 clear H
                 go_wp2_with (first | (go_at_call 95; (with_reducible refine (strap_perm_begins.calls _ _ (rd_L1 l1_1 x11_1) x34_3 true _ ?side1 ?side2 A28.out).mono ?_); (case side1 => exact cl (Kd.C_below HR249_0.out HB.out)); (case side2 => exact HC249_0.out); rintro e w' ⟨rfl, ⟨nd, rfl⟩⟩; have hcz35_0 : wr.cell? ⟨gb248, 0, none⟩ = some (.int .i64 a1_0) := (blk_cell BK248.out 0).trans rfl; have hcz35_1 : wr.cell? ⟨gb248, 1, none⟩ = some (.slice (some ad249) l1_1.length c1_1) := (blk_cell BK248.out 1).trans rfl; have hfz35_0 := blk_frozen BK248.out 0; have hfz35_1 := blk_frozen BK248.out 1; have p260 : 0 ≤ ((ji30) : Int) := ofd; have q260 : (ji30) < (l1_1.length : Int) := ofd; obtain ⟨ad260, A260_0, c260_0, e260, hx260_0, hl260_0, hi260_0⟩ := at_L1 HR1_1.out (ji30) p260 q260; obtain rfl : ad249 = ad260 := (by injection e260); replace hx260_0 := (HB.out.cell (World.block_lt_of_cell? w _ hx260_0)).trans hx260_0; have HR260_0 := Aside0.mk hi260_0; have HC260_0 := Aside0.mk hl260_0; clear hi260_0 hl260_0; replace p260 := eq_true p260; replace q260 := eq_true q260) | (go_at_call 96; (with_reducible refine (strap_perm_ends.calls k3 _ _ (rd_L1 l1_1 (ji30)) x34_3 true _ ?side1 ?side2 A33.out).mono ?_); (case side1 => exact cl (Kd.C_below HR260_0.out (bl HB))); (case side2 => exact HC260_0.out); rintro e w36 ⟨rfl, hb⟩; have n0_ := Aside0.mk (blk_below (g := gb248) (o := .cells #[.int .i64 a1_0, .slice (some ad249) l1_1.length c1_1] 26 (0, 0)) (bk BK248) hb); have n1_ := Aside0.mk (below_step (bl HB) hb); clear BK248; clear HB; have BK248 := n0_; have HB := n1_; clear n0_ n1_; (try clear hb); (try clear hb2); (try clear hk); (try clear hi)))
                 go_roundg k3
                 case measure => have := HK1.out; have := HJ7.out; have := HK3.out; omega
                 case rel => exact ⟨(wrap64 (x34_3 + 1)), (by first | rfl | (simp; done) | (simp [*]; done)), H', ⟨by have := HK1.out; have := HJ7.out; have := HK3.out; omega⟩, ⟨bk BK248⟩, ⟨bl HB⟩⟩
                ·replace c34 := Bool.eq_false_iff.mpr c34
                 subst c34
                 have H1 : (some false) = some r := by rw [if_neg (show ¬ (false = true) by decide)] at H; exact H
                 clear H
                 have H := H1
                 clear H1
                 obtain rfl := Option.some.inj H
                 go_wp2_with (first | (go_at_call 95; (with_reducible refine (strap_perm_begins.calls _ _ (rd_L1 l1_1 x11_1) x34_3 true _ ?side1 ?side2 A28.out).mono ?_); (case side1 => exact cl (Kd.C_below HR249_0.out HB.out)); (case side2 => exact HC249_0.out); rintro e w' ⟨rfl, ⟨nd, rfl⟩⟩; have hcz37_0 : wr.cell? ⟨gb248, 0, none⟩ = some (.int .i64 a1_0) := (blk_cell BK248.out 0).trans rfl; have hcz37_1 : wr.cell? ⟨gb248, 1, none⟩ = some (.slice (some ad249) l1_1.length c1_1) := (blk_cell BK248.out 1).trans rfl; have hfz37_0 := blk_frozen BK248.out 0; have hfz37_1 := blk_frozen BK248.out 1; have p260 : 0 ≤ ((ji30) : Int) := ofd; have q260 : (ji30) < (l1_1.length : Int) := ofd; obtain ⟨ad260, A260_0, c260_0, e260, hx260_0, hl260_0, hi260_0⟩ := at_L1 HR1_1.out (ji30) p260 q260; obtain rfl : ad249 = ad260 := (by injection e260); replace hx260_0 := (HB.out.cell (World.block_lt_of_cell? w _ hx260_0)).trans hx260_0; have HR260_0 := Aside0.mk hi260_0; have HC260_0 := Aside0.mk hl260_0; clear hi260_0 hl260_0; replace p260 := eq_true p260; replace q260 := eq_true q260) | (go_at_call 96; (with_reducible refine (strap_perm_ends.calls k3 _ _ (rd_L1 l1_1 (ji30)) x34_3 false _ ?side1 ?side2 A33.out).mono ?_); (case side1 => exact cl (Kd.C_below HR260_0.out (bl HB))); (case side2 => exact HC260_0.out); rintro e w38 ⟨rfl, hb⟩; have n0_ := Aside0.mk (blk_below (g := gb248) (o := .cells #[.int .i64 a1_0, .slice (some ad249) l1_1.length c1_1] 26 (0, 0)) (bk BK248) hb); have n1_ := Aside0.mk (below_step (bl HB) hb); clear BK248; clear HB; have BK248 := n0_; have HB := n1_; clear n0_ n1_; (try clear hb); (try clear hb2); (try clear hk); (try clear hi)))
                 go_ret
                 exact ⟨by first | rfl | (simp [errW_none, errW_some] <;> rfl) | (simp only [← hji30]; first | rfl | (simp [errW_none, errW_some] <;> rfl)) | (simp [*, errW_none, errW_some] <;> rfl), by repeat (first | (with_reducible first | exact HB.out | apply below_alloc | apply pw_below_drewN | apply below_drew1 | refine below_set ?_ GE248.out) | exact HB.out)⟩
               ·rw [if_neg c32] at H
                exact absurd H (by simp)
              ·rw [if_neg c31] at H
               exact absurd H (by simp)
             ·replace c29 := Bool.eq_false_iff.mpr c29
              subst c29
              have H1 : (strap_formed.l1 k3 a0 x11_1 (rd_L1 l1_1 x11_1) l1_1 (l1_1.length : Int) x11_1 (wrap64 (a0 - 1)) (wrap64 (x34_3 + 1)) a1_0 l1_1) = some r := by rw [if_neg (show ¬ (false = true) by decide)] at H; exact H
              clear H
              have H := H1
              clear H1
              have H' := Aside0.mk H
              clear H
              go_wp2_with (first | (go_at_call 95; (with_reducible refine (strap_perm_begins.calls _ _ (rd_L1 l1_1 x11_1) x34_3 false _ ?side1 ?side2 A28.out).mono ?_); (case side1 => exact cl (Kd.C_below HR249_0.out HB.out)); (case side2 => exact HC249_0.out); rintro e w' ⟨rfl, ⟨nd, rfl⟩⟩))
              go_roundg k3
              case measure => have := HK1.out; have := HJ7.out; have := HK3.out; omega
              case rel => exact ⟨(wrap64 (x34_3 + 1)), (by first | rfl | (simp; done) | (simp [*]; done)), H', ⟨by have := HK1.out; have := HJ7.out; have := HK3.out; omega⟩, ⟨bk BK248⟩, ⟨bl HB⟩⟩
            ·rw [if_neg c27] at H
             have c27b0 : decide (0 < x11_1) = false := decide_eq_false c27
             clear c27
             have H' := Aside0.mk H
             clear H
             go_wp2
             go_roundg k3
             case measure => have := HK1.out; have := HJ7.out; have := HK3.out; omega
             case rel => exact ⟨(wrap64 (x34_3 + 1)), (by first | rfl | (simp; done) | (simp [*]; done)), H', ⟨by have := HK1.out; have := HJ7.out; have := HK3.out; omega⟩, ⟨bk BK248⟩, ⟨bl HB⟩⟩
           ·rw [if_neg c26] at H
            have c26b0 : decide (x34_3 < (wrap64 (a0 - 1))) = false := decide_eq_false c26
            clear c26
            have H' := Aside0.mk H
            clear H
            go_wp2
            go_roundg k3
            case measure => have := HK1.out; have := HJ7.out; have := HK3.out; omega
            case rel => exact ⟨(wrap64 (x11_1 + 1)), (by first | rfl | (simp; done) | (simp [*]; done)), H', ⟨by have := HK1.out; have := HJ7.out; have := HK3.out; omega⟩, ⟨bk BK248⟩, ⟨bl HB⟩⟩
     ·rw [if_neg c7] at H
      exact absurd H (by simp)
    ·rw [if_neg c6] at H
     exact absurd H (by simp)
   ·rw [if_neg c5] at H
    have c5b0 : decide (x11_1 < (l1_1.length : Int)) = false := decide_eq_false c5
    clear c5
    obtain rfl := Option.some.inj H
    go_wp2
    go_ret
    exact ⟨by first | rfl | (simp [errW_none, errW_some] <;> rfl) | (simp [*, errW_none, errW_some] <;> rfl), by repeat (first | (with_reducible first | exact HB.out | apply below_alloc | apply pw_below_drewN | apply below_drew1 | refine below_set ?_ GE248.out) | exact HB.out)⟩
def strap_Is.f (k : Nat) (a0 : Int) (a1_0 : Int) (l1_1 : List (List Int)) : Option (Bool × Int) := if a0 < 2 then (some (false, 1)) else (if a0 > 8 then (some (false, 1)) else ((strap_formed.f k a0 a1_0 l1_1).bind fun t263 => (some (t263, 0))))
set_option maxHeartbeats 8000000 in
set_option maxRecDepth 100000 in
theorem strap_Is.calls (k : Nat) (a0 : Int) (a1_0 : Int) (A1_1 : Option Addr) (c1_1 : Nat) (l1_1 : List (List Int)) (r1 : Bool) (r2 : Int) (w : World) (hr1_1 : Kd.C (Kd.slice 3 (Kd.int .i64)) w A1_1 l1_1.length l1_1) (hc1_1 : l1_1.length ≤ c1_1) (h : strap_Is.f k a0 a1_0 l1_1 = some (r1, r2)) :
  Calls Try.prog 50 #[.int .i64 a0, .agg #[.int .i64 a1_0, .slice A1_1 l1_1.length c1_1]] w fun e w' => e = .returned (.tuple #[.bool r1, .int .i64 r2]) ∧ Below w.heap.size w w' := by
 have hu26 := Try.underlying26
 have HR1_1 := Aside0.mk hr1_1
 have HC1_1 := Aside0.mk hc1_1
 clear hr1_1 hc1_1
 have HB := Aside0.mk (Below.refl w.heap.size w)
 have H : (if a0 < 2 then (some (false, 1)) else (if a0 > 8 then (some (false, 1)) else ((strap_formed.f k a0 a1_0 l1_1).bind fun t263 => (some (t263, 0))))) = some (r1, r2) := h
 clear h
 by_cases c3 : a0 < 2
 ·rw [if_pos c3] at H
  have c3b0 : decide (a0 < 2) = true := decide_eq_true c3
  clear c3
  simp only [Option.some.injEq, Prod.mk.injEq] at H
  obtain ⟨rfl, rfl⟩ := H
  go_enter Try.func50, Try.ntmps50
  go_wp2_with (first | ((with_reducible refine gate_dst (N := 3) rfl ?_); refine box_event ?hg (N := 3) ?hd (cs := #[.int .i64 a1_0, .slice A1_1 l1_1.length c1_1]) (t := 26) ?hr ?_; (case hd => rfl); (case hg => rfl); (case hr => first | (go_simp; done) | (go_simp; rfl)); intro gb262 hg w4 hbox hb; have n0_ := Aside0.mk (below_step (bl HB) hb); have n1_ := Aside0.mk (hbox); have n2_ := Aside0.mk ((by rw [hg]; exact (below_size (bl HB)) : w.heap.size ≤ gb262)); have n3_ := Aside0.mk ((by rw [hg]; exact (below_size (bl HB)) : w.heap.size ≤ gb262)); clear HB; have HB := n0_; have BK262 := n1_; have GW262 := n2_; have GE262 := n3_; clear n0_ n1_ n2_ n3_; clear hb hbox hg))
  go_ret2
  exact ⟨by first | rfl | (simp [errW_none, errW_some] <;> rfl) | (simp [*, errW_none, errW_some] <;> rfl), by repeat (first | (with_reducible first | exact HB.out | apply below_alloc | apply pw_below_drewN | apply below_drew1 | refine below_set ?_ GE262.out) | exact HB.out)⟩
 ·rw [if_neg c3] at H
  have c3b0 : decide (a0 < 2) = false := decide_eq_false c3
  clear c3
  by_cases c5 : a0 > 8
  ·rw [if_pos c5] at H
   have c5b0 : decide (8 < a0) = true := decide_eq_true c5
   clear c5
   simp only [Option.some.injEq, Prod.mk.injEq] at H
   obtain ⟨rfl, rfl⟩ := H
   go_enter Try.func50, Try.ntmps50
   go_wp2_with (first | ((with_reducible refine gate_dst (N := 3) rfl ?_); refine box_event ?hg (N := 3) ?hd (cs := #[.int .i64 a1_0, .slice A1_1 l1_1.length c1_1]) (t := 26) ?hr ?_; (case hd => rfl); (case hg => rfl); (case hr => first | (go_simp; done) | (go_simp; rfl)); intro gb262 hg w6 hbox hb; have n0_ := Aside0.mk (below_step (bl HB) hb); have n1_ := Aside0.mk (hbox); have n2_ := Aside0.mk ((by rw [hg]; exact (below_size (bl HB)) : w.heap.size ≤ gb262)); have n3_ := Aside0.mk ((by rw [hg]; exact (below_size (bl HB)) : w.heap.size ≤ gb262)); clear HB; have HB := n0_; have BK262 := n1_; have GW262 := n2_; have GE262 := n3_; clear n0_ n1_ n2_ n3_; clear hb hbox hg))
   go_ret2
   exact ⟨by first | rfl | (simp [errW_none, errW_some] <;> rfl) | (simp [*, errW_none, errW_some] <;> rfl), by repeat (first | (with_reducible first | exact HB.out | apply below_alloc | apply pw_below_drewN | apply below_drew1 | refine below_set ?_ GE262.out) | exact HB.out)⟩
  ·rw [if_neg c5] at H
   have c5b0 : decide (8 < a0) = false := decide_eq_false c5
   clear c5
   replace H := Option.bind_eq_some_iff.mp H
   obtain ⟨t263, A70, H⟩ := H
   replace H : (some (t263, 0)) = some (r1, r2) := H
   have A7 := Aside0.mk A70
   clear A70
   simp only [Option.some.injEq, Prod.mk.injEq] at H
   obtain ⟨rfl, rfl⟩ := H
   go_enter Try.func50, Try.ntmps50
   go_wp2_with (first | ((with_reducible refine gate_dst (N := 3) rfl ?_); refine box_event ?hg (N := 3) ?hd (cs := #[.int .i64 a1_0, .slice A1_1 l1_1.length c1_1]) (t := 26) ?hr ?_; (case hd => rfl); (case hg => rfl); (case hr => first | (go_simp; done) | (go_simp; rfl)); intro gb262 hg w8 hbox hb; have n0_ := Aside0.mk (below_step (bl HB) hb); have n1_ := Aside0.mk (hbox); have n2_ := Aside0.mk ((by rw [hg]; exact (below_size (bl HB)) : w.heap.size ≤ gb262)); have n3_ := Aside0.mk ((by rw [hg]; exact (below_size (bl HB)) : w.heap.size ≤ gb262)); clear HB; have HB := n0_; have BK262 := n1_; have GW262 := n2_; have GE262 := n3_; clear n0_ n1_ n2_ n3_; clear hb hbox hg; have hcz9_0 : w8.cell? ⟨gb262, 0, none⟩ = some (.int .i64 a1_0) := (blk_cell BK262.out 0).trans rfl; have hcz9_1 : w8.cell? ⟨gb262, 1, none⟩ = some (.slice A1_1 l1_1.length c1_1) := (blk_cell BK262.out 1).trans rfl; have hfz9_0 := blk_frozen BK262.out 0; have hfz9_1 := blk_frozen BK262.out 1) | ((with_reducible refine gate_callee (f := 77) rfl ?_); refine gL 14 Try.func77 #[.int .i64 a0, .agg #[.int .i64 a1_0, .slice A1_1 l1_1.length c1_1]] ?_; (with_reducible refine (strap_formed.calls k a0 a1_0 _ _ l1_1 t263 _ ?side1 ?side2 A7.out).mono ?_); (case side1 => exact cl (Kd.C_below HR1_1.out HB.out)); (case side2 => exact HC1_1.out); rintro e w10 ⟨rfl, hb⟩; refine ⟨_, rfl, ?_⟩; have n0_ := Aside0.mk (blk_below (g := gb262) (o := .cells #[.int .i64 a1_0, .slice A1_1 l1_1.length c1_1] 26 (0, 0)) (bk BK262) hb); have n1_ := Aside0.mk (below_step (bl HB) hb); clear BK262; clear HB; have BK262 := n0_; have HB := n1_; clear n0_ n1_; (try clear hb); (try clear hb2); (try clear hk); (try clear hi)))
   go_ret2
   exact ⟨by first | rfl | (simp [errW_none, errW_some] <;> rfl) | (simp [*, errW_none, errW_some] <;> rfl), by repeat (first | (with_reducible first | exact HB.out | apply below_alloc | apply pw_below_drewN | apply below_drew1 | refine below_set ?_ GE262.out) | exact HB.out)⟩
def slices_Reverse_int_int.l0 : Nat → List Int → Int → Int → Option (List Int)
  | 0, _, _, _ => none
  | k + 1, x0, x2, x3 => if x2 < x3 then (if 0 ≤ x3 then (if x3 < (x0.length : Int) then (if 0 ≤ x2 then (if x2 < (x0.length : Int) then (slices_Reverse_int_int.l0 k ((x0.set (x2 : Int).toNat (rd x0 x3)).set (x3 : Int).toNat (rd x0 x2)) (wrap64 (x2 + 1)) (wrap64 (x3 - 1))) else (none)) else (none)) else (none)) else (none)) else (some x0)
def slices_Reverse_int_int.f (k : Nat) (l0 : List Int) : Option (List Int) := slices_Reverse_int_int.l0 k l0 0 (wrap64 ((l0.length : Int) - 1))
def slices_Reverse_int_int.T3 : Bool × List (List Nat × List Nat) := (true, [([], []), ([], []), ([], []), ([], []), ([], []), ([], []), ([4, 5], [4, 5]), ([6], [6]), ([], []), ([], []), ([8, 9], [8, 9]), ([10], [10]), ([0, 1, 0, 1, 4, 5, 6, 7, 11], [0, 1]), ([12, 7, 0, 1, 4, 5, 6, 7, 11], [7, 12]), ([2, 3, 0, 1, 2, 3, 4, 5, 6, 7, 8, 9, 10, 11, 12, 13], [2, 3]), ([14, 11, 13, 0, 1, 2, 3, 4, 5, 6, 7, 8, 9, 10, 11, 12, 13], [11, 14])])
def slices_Reverse_int_int.B3 : List Nat := [0, 0, 0, 0, 0, 0, 48, 112, 0, 0, 768, 1792, 4083, 8179, 16383, 32767]
theorem slices_Reverse_int_int.tab3 : rtab .any (opsOf Try.f80 3) = slices_Reverse_int_int.T3 := by kernel_rfl
theorem slices_Reverse_int_int.bits3 : waitsOk slices_Reverse_int_int.T3.2 slices_Reverse_int_int.B3 = true := by kernel_rfl
set_option maxHeartbeats 8000000 in
set_option maxRecDepth 100000 in
theorem slices_Reverse_int_int.calls (k : Nat) (P0_ : Nat → Prop) (u9000_ : Value) (l0 : List Int) (r : List Int) (w0 w : World) (hB : Below w0.heap.size w0 w) (ho0 : Kd.R (Kd.int .i64) 3 w w0.heap.size P0_ u9000_ l0) (h : slices_Reverse_int_int.f k l0 = some r) :
  Calls Try.prog 80 #[u9000_] w fun e w' => e = .returned (.tuple #[]) ∧ Kd.R (Kd.int .i64) 3 w' w0.heap.size (fun k_ => (P0_ k_ ∨ w.heap.size ≤ k_)) u9000_ r ∧ Below w0.heap.size w0 w' ∧ Kept w w' (fun k_ => P0_ k_) := by
 have HO0 := Aside0.mk (show Kd.R (Kd.int .i64) 3 w w0.heap.size (fun k_ => (P0_ k_ ∨ w.heap.size ≤ k_)) u9000_ l0 from Kd.R_mono ho0 (fun k_ hk => (.inl hk)))
 have HK := Aside0.mk (Kept.refl w (fun k_ => P0_ k_))
 have HW0 := Aside0.mk hB.size
 have HB := Aside0.mk hB
 clear hB
 have H : (slices_Reverse_int_int.l0 k l0 0 (wrap64 ((l0.length : Int) - 1))) = some r := h
 clear h
 have H' := Aside0.mk H
 clear H
 obtain ⟨Ao2, co2, eo2⟩ := Kd.R_slice HO0.out
 subst eo2
 go_enter Try.func80, Try.ntmps80
 go_wp2
 go_loopg [2, 3] k (fun kq v2 v3 w' => ∃ (x0_1 : List Int) (x2_1 : Int) (x3_1 : Int), v2 = .int .i64 x2_1 ∧ v3 = .int .i64 x3_1 ∧ Aside0 (slices_Reverse_int_int.l0 kq x0_1 x2_1 x3_1 = some r) ∧ Aside0 (kq ≤ k) ∧ Aside0 (Kd.R (Kd.int .i64) 3 w' w0.heap.size (fun k_ => (P0_ k_ ∨ w.heap.size ≤ k_)) (.slice Ao2 l0.length co2) x0_1) ∧ Aside0 (Kept w w' (fun k_ => P0_ k_)) ∧ Aside0 (Below w0.heap.size w0 w'))
 case atStart => exact ⟨(l0), (0), (wrap64 ((l0.length : Int) - 1)), (by first | rfl | (simp; done) | (simp [*]; done)), (by first | rfl | (simp; done) | (simp [*]; done)), H', ⟨Nat.le_refl _⟩, ⟨rl HO0⟩, ⟨by repeat (first | (with_reducible first | exact HK.out | apply Kept.alloc | apply Kept.drewN | apply Kept.drew) | exact HK.out)⟩, ⟨bl HB⟩⟩
 case round =>
  clear H'
  try clear p2
  obtain ⟨x0_1, x2_1, x3_1, rfl, rfl, HA, HK1, HO_0, HK, HB⟩ := hrel
  have hl0_1 := (Kd.R_reads' HO_0.out).1
  rw [hl0_1] at HO_0
  (try simp only [hl0_1])
  cases gk with
  | zero => exact absurd HA.out (by simp [slices_Reverse_int_int.l0])
  | succ k1 =>
   have H := HA.out
   clear HA
   simp only [slices_Reverse_int_int.l0] at H
   by_cases c3 : x2_1 < x3_1
   ·rw [if_pos c3] at H
    have c3b0 : decide (x2_1 < x3_1) = true := decide_eq_true c3
    clear c3
    by_cases c4 : 0 ≤ x3_1
    ·rw [if_pos c4] at H
     have c4b0 : decide (0 ≤ x3_1) = true := decide_eq_true c4
     clear c4
     by_cases c5 : x3_1 < (x0_1.length : Int)
     ·rw [if_pos c5] at H
      have c5b0 : decide (x3_1 < (x0_1.length : Int)) = true := decide_eq_true c5
      (try simp only [hl0_1] at c5b0)
      clear c5
      by_cases c6 : 0 ≤ x2_1
      ·rw [if_pos c6] at H
       have c6b0 : decide (0 ≤ x2_1) = true := decide_eq_true c6
       clear c6
       by_cases c7 : x2_1 < (x0_1.length : Int)
       ·rw [if_pos c7] at H
        have c7b0 : decide (x2_1 < (x0_1.length : Int)) = true := decide_eq_true c7
        (try simp only [hl0_1] at c7b0)
        clear c7
        obtain ⟨y266, hy266⟩ : ∃ y_ : List Int, y_ = (x0_1.set (x2_1 : Int).toNat (rd x0_1 x3_1)) := ⟨_, rfl⟩
        replace H : (slices_Reverse_int_int.l0 k1 (y266.set (x3_1 : Int).toNat (rd x0_1 x2_1)) (wrap64 (x2_1 + 1)) (wrap64 (x3_1 - 1))) = some r := by first | (rw [hy266]; with_reducible exact H) | (have H2_ := (Option.bind_some _ _).symm.trans H; rw [hy266]; with_reducible exact H2_) | (have H2_ := (Option.bind_some _ _).symm.trans H; with_reducible exact H2_) | with_reducible exact H | (rw [hy266]; exact H) | exact H
        have Ny266 := Aside0.mk hy266
        clear hy266
        obtain ⟨y267, hy267⟩ : ∃ y_ : List Int, y_ = (y266.set (x3_1 : Int).toNat (rd x0_1 x2_1)) := ⟨_, rfl⟩
        replace H : (slices_Reverse_int_int.l0 k1 y267 (wrap64 (x2_1 + 1)) (wrap64 (x3_1 - 1))) = some r := by first | (rw [hy267]; with_reducible exact H) | (have H2_ := (Option.bind_some _ _).symm.trans H; rw [hy267]; with_reducible exact H2_) | (have H2_ := (Option.bind_some _ _).symm.trans H; with_reducible exact H2_) | with_reducible exact H | (rw [hy267]; exact H) | exact H
        have Ny267 := Aside0.mk hy267
        clear hy267
        have H' := Aside0.mk H
        clear H
        try go_wp2
        have n0_ := Aside0.mk (Kd.R_drew HO_0.out)
        have n1_ := Aside0.mk (Kept.drew HK.out)
        have n2_ := Aside0.mk (below_drew1 HB.out)
        clear HO_0 HK HB
        have HO_0 := n0_; have HK := n1_; have HB := n2_
        clear n0_ n1_ n2_
        have p264 : 0 ≤ (x3_1 : Int) := ofd
        have q264 : x3_1 < (x0_1.length : Int) := ofd
        obtain ⟨ad264, e264, hx264_0⟩ := Kd.at_int (Kd.R_reads' HO_0.out).2.2 x3_1 p264 q264
        cases e264
        replace p264 := eq_true p264
        replace q264 := eq_true q264
        have p265 : 0 ≤ (x2_1 : Int) := ofd
        have q265 : x2_1 < (x0_1.length : Int) := ofd
        obtain ⟨ad265, e265, hx265_0⟩ := Kd.at_int (Kd.R_reads' HO_0.out).2.2 x2_1 p265 q265
        obtain rfl : ad264 = ad265 := (by injection e265)
        replace p265 := eq_true p265
        replace q265 := eq_true q265
        have p8 : 0 ≤ (x2_1 : Int) := ofd
        have q8 : (x2_1 : Int) < ((x0_1.length : Int) : Int) := ofd
        obtain ⟨go8, co8, eo8, gb8, gl8, cl8, HG8⟩ := Kd.R_form HO_0.out (by omega)
        (first | cases eo8 | (injection eo8 with ea_ en_ ec_; (first | subst ea_ | (injection ea_ with ea_; subst ea_)); subst ec_; clear en_))
        have GB8 := Aside0.mk gb8
        have GG8 := Aside0.mk HG8
        clear gb8 gl8 HG8
        have HMgo8 := Aside0.mk (show (P0_ go8 ∨ w.heap.size ≤ go8) from (HO_0.out.1 _ rfl))
        (first | simp only [add_plain] at hx264_0 | skip)
        (first | simp only [add_plain] at hx265_0 | skip)
        obtain ⟨hx8_0, hf8_0⟩ := Kd.R_celln 0 HO_0.out (x2_1 : Int) p8 q8
        replace p8 := eq_true p8
        replace q8 := eq_true q8
        have HP11 := Kd.R_putn HO_0.out (x2_1 : Int) (rd x0_1 x3_1)
        rw [← Ny266.out] at HP11
        have HQ11 := Aside0.mk HP11
        clear HP11
        have p9 : 0 ≤ (x3_1 : Int) := ofd
        have q9 : (x3_1 : Int) < ((x0_1.length : Int) : Int) := ofd
        obtain ⟨hx9_0, hf9_0⟩ := Kd.R_celln 0 HQ11.out (x3_1 : Int) p9 q9
        replace p9 := eq_true p9
        replace q9 := eq_true q9
        have HP12 := Kd.R_putn HQ11.out (x3_1 : Int) (rd x0_1 x2_1)
        rw [← Ny267.out] at HP12
        have HQ12 := Aside0.mk HP12
        clear HP12
        refine start_ (n := 16) (S := fun w' => w'.cell? ⟨go8, (x3_1).toNat, none⟩ = some (.int .i64 (rd x0_1 x3_1)) ∧ w'.cell? ⟨go8, (x2_1).toNat, none⟩ = some (.int .i64 (rd x0_1 x2_1))) (ds := [13, 15]) #[false, false, false, false, false, false, false, false, false, false, false, false, false, false, false, false] (by kernel_rfl) rfl rfl ⟨hx264_0, hx265_0⟩ (fun hHeld => ?_); refine with_tabW slices_Reverse_int_int.tab3 slices_Reverse_int_int.bits3 (fun HT_ HW_ => ?_)
        generalize wr.drew = w10 at HO_0 HK HB GG8 HQ11 HQ12 hf8_0 hf9_0 hx264_0 hx265_0 hx8_0 hx9_0 hHeld ⊢
        refine pr 0 14 HT_ ?_
        refine pr 1 15 HT_ ?_
        refine pr 2 16 HT_ ?_
        refine pr 3 17 HT_ ?_
        refine pr 4 18 HT_ ?_
        refine pr 5 19 HT_ ?_
        refine pr 6 20 HT_ ?_
        refine pr 8 22 HT_ ?_
        refine pr 9 23 HT_ ?_
        refine pr 10 24 HT_ ?_
        refine tr 7 21 HT_ HW_ hHeld ?_
        refine tr 11 25 HT_ HW_ hHeld ?_
        refine pr 12 26 HT_ ?_
        refine la 13 (none) HT_ (fun K hK => ?_)
        refine sk ?_
        refine hK.out _ _ ?_
        clear hK K
        refine pr 14 27 HT_ ?_
        refine la 15 (none) HT_ (fun K hK => ?_)
        refine sk ?_
        refine hK.out _ _ ?_
        clear hK K
        refine dn HT_ ?_
        try go_wp2
        (try simp only [← hl0_1])
        go_roundg k1
        case measure => have := HK1.out; omega
        case rel => exact ⟨(y267), (wrap64 (x2_1 + 1)), (wrap64 (x3_1 - 1)), (by first | rfl | (simp; done) | (simp [*]; done)), (by first | rfl | (simp; done) | (simp [*]; done)), H', ⟨by have := HK1.out; omega⟩, ⟨by (try simp only [hl0_1]); (with_reducible repeat (first | apply Kd.R_alloc | apply Kd.R_drewN | apply Kd.R_drew)); exact HQ12.out⟩, ⟨by repeat (first | (with_reducible first | exact HK.out | apply Kept.alloc | apply Kept.drewN | apply Kept.drew | refine Kept.setCell ?_ HMgo8.out _ | refine Kept.setCell ?_ HMgo8.out _) | exact HK.out)⟩, ⟨bl HB⟩⟩
       ·rw [if_neg c7] at H
        exact absurd H (by simp)
      ·rw [if_neg c6] at H
       exact absurd H (by simp)
     ·rw [if_neg c5] at H
      exact absurd H (by simp)
    ·rw [if_neg c4] at H
     exact absurd H (by simp)
   ·rw [if_neg c3] at H
    have c3b0 : decide (x2_1 < x3_1) = false := decide_eq_false c3
    clear c3
    obtain rfl := Option.some.inj H
    go_wp2
    first | go_end0 | ((try simp only [Exit.inBlock, Exit.then]); refine bodyPost_ret (results_none rfl _ _ _) rfl ?_)
    exact ⟨by first | rfl | (simp [errW_none, errW_some] <;> rfl) | (simp [*, errW_none, errW_some] <;> rfl), (by first | exact (rl HO_0) | (simp only [hl0_1]; exact (rl HO_0))), by repeat (first | (with_reducible first | exact HB.out | apply below_alloc | apply pw_below_drewN | apply below_drew1) | exact HB.out), by repeat (first | (with_reducible first | exact HK.out | apply Kept.alloc | apply Kept.drewN | apply Kept.drew) | exact HK.out)⟩
end Go.Proofs.Ytdldfdcedjmneaa.Pb
