/- The declarations of Rk that the claim Qc needs. -/
import Derived.Test.YtdpolfflemocaaaQcT1
namespace Go.Proofs.Ytdpolfflemocaaa.Own
open Go.RowKit Go.Proofs.Ytdpolfflemocaaa.Own Go.Proofs.YtdpolfflemocaaaW.PrintWords Go.Proofs.YtdpolfflemocaaaW.PrintLast Go.Proofs.YtdpolfflemocaaaW.PrintMore
set_option linter.unusedVariables false
set_option linter.unusedSimpArgs false
set_option maxHeartbeats 8000000 in
set_option maxRecDepth 100000 in
theorem rib_cmp.calls (kx ky kc : Nat) (x y : Int) (lx ly : List Int) (r : Int) (w : World) (hx : rib_set_list.f kx x = some lx) (hy : rib_set_list.f ky y = some ly) (hc : slices_Compare_int_int.f kc lx ly = some r) :
  Calls Try.prog 90 #[.int .u32 x, .int .u32 y] w fun e w' => e = .returned (.int .i64 r) ∧ ∃ q os, w' = Go.Sort.grow (w.drewN q) os := by
 have HB := Aside0.mk (Below.refl w.heap.size w)
 have HD := Aside0.mk (Nat.le_refl w.drawn)
 have HX := Aside0.mk hx
 have HY := Aside0.mk hy
 have HC := Aside0.mk hc
 clear hx hy hc
 suffices h : Calls Try.prog 90 #[.int .u32 x, .int .u32 y] w fun e w' => e = .returned (.int .i64 r) ∧ Below w.heap.size w w' ∧ w.drawn ≤ w'.drawn from h.mono fun e w' ⟨he, hb, hd⟩ => ⟨he, grown_of_below hb hd⟩
 go_enter Try.func90, Try.ntmps90
 go_wp2_with (first
  | ((with_reducible refine gate_callee (f := 74) rfl ?_); refine gL 6 Try.func74 #[.int .u32 x] ?_; (with_reducible refine (rib_set_list.laid kx x lx _ HX.out).mono ?_); rintro e w7 ⟨v1, rfl, ho0, hb, hd⟩; refine ⟨_, rfl, ?_⟩; have n1_ := Aside0.mk ho0; have n2_ := Aside0.mk (below_step (bl HB) hb); have n3_ := Aside0.mk (show w.drawn ≤ w7.drawn by (have h_ := HD.out; (try simp only [drawn_drewN, drawn_drew, drawn_alloc] at hd); omega)); clear HB HD ho0 hb hd; have HO1 := n1_; have HB := n2_; have HD := n3_; clear n1_ n2_ n3_)
  | ((with_reducible refine gate_callee (f := 74) rfl ?_); refine gL 8 Try.func74 #[.int .u32 y] ?_; (with_reducible refine (rib_set_list.laid ky y ly _ HY.out).mono ?_); rintro e w8 ⟨v2, rfl, ho0, hb, hd⟩; refine ⟨_, rfl, ?_⟩; have n0_ := Aside0.mk (Kd.R_below HO1.out hb); have n1_ := Aside0.mk ho0; have n2_ := Aside0.mk (below_step (bl HB) hb); have n3_ := Aside0.mk (show w.drawn ≤ w8.drawn by (have h_ := HD.out; (try simp only [drawn_drewN, drawn_drew, drawn_alloc] at hd); omega)); clear HB HD HO1 ho0 hb hd; have HO1 := n0_; have HO2 := n1_; have HB := n2_; have HD := n3_; clear n0_ n1_ n2_ n3_; obtain ⟨A1, c1, e1⟩ := Kd.R_slice HO1.out; subst e1; obtain ⟨A2, c2, e2⟩ := Kd.R_slice HO2.out; subst e2)
  | ((with_reducible refine gate_callee (f := 91) rfl ?_); refine gL 9 Try.func91 #[.slice A1 lx.length c1, .slice A2 ly.length c2] ?_; (with_reducible refine (slices_Compare_int_int.calls kc A1 c1 lx A2 c2 ly r _ (Kd.R_reads' HO1.out).2.2 (Kd.R_reads' HO1.out).2.1 (Kd.R_reads' HO2.out).2.2 (Kd.R_reads' HO2.out).2.1 HC.out).mono ?_); rintro e w9 ⟨rfl, ⟨nd, rfl⟩⟩; refine ⟨_, rfl, ?_⟩))
 go_ret
 exact ⟨rfl, bl HB, by (have h_ := Aside0.out HD; first | exact h_ | (simp only [drawn_drewN, drawn_drew, drawn_alloc]; omega))⟩
end Go.Proofs.Ytdpolfflemocaaa.Own
