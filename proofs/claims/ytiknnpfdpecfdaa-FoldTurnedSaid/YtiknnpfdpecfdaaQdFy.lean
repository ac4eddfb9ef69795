/- The declarations of Fy that the claim Qd needs. -/
import Derived.Test.YtiknnpfdpecfdaaQdFw
import Derived.Deep.DeepMust
import Derived.RangeFuncKeeps
import Derived.RangeFuncBound
import Derived.WalkKit
import Derived.OwnWalkIn
import Derived.TacticsInMore
import Derived.LoopIn
import Derived.Stop.RegionWithIn
namespace Go.Proofs.Ytiknnpfdpecfdaa.Own
open Go Go.RowKit Go.Proofs Go.Proofs.YtiknnpfdpecfdaaW.PrintWords Go.Proofs.YtiknnpfdpecfdaaW.PrintLast Go.Proofs.YtiknnpfdpecfdaaW.PrintMore
set_option linter.unusedVariables false
set_option linter.unusedSimpArgs false
attribute [local go_sem] Oper.semAt_some
theorem two_ends {e : Ending} {A B : Prop} (h : (e = .returned (.bool true) ∧ A) ∨ (e = .returned (.bool false) ∧ B)) : ∃ bv : Bool, e = .returned (.bool bv) ∧ ((bv = true ∧ A) ∨ (bv = false ∧ B)) := by
 rcases h with ⟨h1, h2⟩ | ⟨h1, h2⟩
 ·exact ⟨_, h1, .inl ⟨rfl, h2⟩⟩
 ·exact ⟨_, h1, .inr ⟨rfl, h2⟩⟩
/-- An order that is handed out: where its row lies, its room, what it holds. -/
structure Ord where
  A : Option Addr
  cap : Nat
  xs : List Int
def Ord.enc (x : Ord) : Array Value := #[.slice x.A x.xs.length x.cap]
def Ord.px (c : Nat) (x : Ord) (W : World) : Prop := Kd.R (Kd.int .i64) 3 W c (fun _ => True) (.slice x.A x.xs.length x.cap) x.xs
section
variable (b : Nat → Prop) (c B gs gl capl bo by_ bs bg bc l cl ch cc : Nat) (Al Ah Ac : Option Addr) (low high : List Int) (cr : List S96) (pat : ByteArray) (N M : Nat) (J Jx : List Ord → World → Prop)
/-- What grow says. -/
def GrowPost (d : Nat) (order ws : List Int) (Ao Aw : Option Addr) (co cw : Nat) (pre : List Ord) (W : World) (e : Ending) (W' : World) : Prop :=
 ∃ (bv : Bool) (xs : List Ord) (A2 : Option Addr) (c2 : Nat), e = .returned (.bool bv) ∧ Grw W' b c B gs gl capl bo by_ bs bg bc l cl ch cc Al Ah Ac low high cr pat order (layerOf low.length order) ws A2 Aw c2 cw ∧
  Stay b c B (fun k => k = gs ∨ k = gl ∨ k = bo ∨ some k = Value.ownBlock (.slice Ao order.length co)) W W' ∧ (Value.ownBlock (.slice A2 order.length c2) = Value.ownBlock (.slice Ao order.length co) ∨ ∃ k, Value.ownBlock (.slice A2 order.length c2) = some k ∧ W.heap.size ≤ k) ∧
  ((bv = true ∧ xs.map (·.xs) = growF low high cr pat d order ws ∧ J (pre ++ xs) W') ∨ (bv = false ∧ xs.map (·.xs) <+: growF low high cr pat d order ws ∧ Jx (pre ++ xs) W'))
set_option maxRecDepth 100000 in
set_option maxHeartbeats 4000000 in
theorem grow0 (hY : ∀ m pre x W1, J pre W1 → Ord.px M x W1 → pre.length < N → YieldAt Fence.wide m Try.prog l (Ord.enc x) W1 fun e W' => (e = .returned (.bool true) ∧ J (pre ++ [x]) W' ∧ Rf.Above B W1 W' ∧ Rf.Keep b c W1 W') ∨ (e = .returned (.bool false) ∧ Jx (pre ++ [x]) W' ∧ Rf.Above B W1 W' ∧ Rf.Keep b c W1 W'))
  (hJ : ∀ s A C, J s A → Below B A C → J s C) (order ws : List Int) (Ao Aw : Option Addr) (co cw : Nat) (pre : List Ord) (W : World)
  (hG : Grw W b c B gs gl capl bo by_ bs bg bc l cl ch cc Al Ah Ac low high cr pat order (layerOf low.length order) ws Ao Aw co cw) (hlen : order.length = low.length) (hn : order.length < 2 ^ 20) (hp : J pre W) (hN : pre.length < N) (hM : M ≤ W.heap.size) :
  Calls Try.prog 74 #[.pointer (some ⟨bo, 0, none⟩), .pointer (some ⟨bc, 0, none⟩), .pointer (some ⟨by_, 0, none⟩), .pointer (some ⟨bs, 0, none⟩), .pointer (some ⟨bg, 0, none⟩)] W fun e W' => GrowPost b c B gs gl capl bo by_ bs bg bc l cl ch cc Al Ah Ac low high cr pat J Jx 0 order ws Ao Aw co cw pre W e W' := by
 have HG := Aside0.mk hG
 have e0 := (heap_cells hG.ho 0 (by simp)).1
 have e1 := (heap_cells hG.hc 0 (by simp)).1
 have e2 := (heap_cells hG.hy 0 (by simp)).1
 have HY := Aside0.mk hY
 have HJ := Aside0.mk hJ
 have HP := Aside0.mk hp
 have HNN := Aside0.mk hN
 have HM := Aside0.mk hM
 have hcl : ∀ V : World, Kd.C (Kd.int .i64) V Ao order.length order → Calls Try.prog 51 #[.slice Ao low.length co] V fun e w' => ∃ v0_ : Value, e = .returned v0_ ∧ Kd.R (Kd.int .i64) 3 w' V.heap.size (fun _ => True) v0_ order ∧ Below V.heap.size V w' := by
  intro V hC
  rw [← hlen]
  exact fold_Clone.calls Ao co order order V hC (Kd.R_reads' hG.ro).2.1 (by unfold fold_Clone.f; rw [if_pos]; omega)
 have HCL := Aside0.mk hcl
 clear hcl
 have HC := Aside0.mk (show c ≤ W.heap.size from by have := hG.n2; have := hG.st.hb; have := hG.st.lt; omega)
 have HBW : B ≤ W.heap.size := by have := hG.st.hb; have := hG.st.lt; omega
 have HBW := Aside0.mk HBW
 clear hG hY hJ hp hN hM
 refine (callsIn_wide (n := 9)).1 ?_
 refine callsIn_of_wp Try.func74 rfl trivial ?_ rfl
 simp only [Try.ntmps74, List.size_toArray, List.length_cons, List.length_nil, Nat.reduceAdd, Nat.reduceSub, Array.replicate_succ, Array.replicate_zero, List.push_toArray, List.append_toArray, List.nil_append, List.cons_append]
 gi_wp2
 gi_region_with (first
  | ((try refine ⟨trivial, ?_⟩); gi_at_call 51; go_must (refine (callsIn_wide.2 (HCL.out _ (Kd.C_drew (Kd.R_reads' HG.out.ro).2.2))).mono ?_; rintro e w2 ⟨v2, rfl, hr2, hb2⟩; obtain ⟨A2, c2, rfl⟩ := Kd.R_slice hr2; have HR2 := Aside0.mk hr2; have HB2 := Aside0.mk (below_step (below_drew1' (Below.refl W.heap.size W)) hb2); obtain ⟨fn, tm, asg, bd, hy, hR⟩ := HY.out 8 pre ⟨A2, c2, order⟩ w2 (HJ.out _ _ _ HP.out (HB2.out.mono HBW.out)) (Kd.R_lower HR2.out HM.out) HNN.out; simp only [Ord.enc, hlen] at hy; rw [hlen]; have e22 := mv HB2.out e2; clear hr2 hb2))
  | ((first | refine hR.mono ?_ | (refine ⟨trivial, ?_⟩; refine hR.mono ?_)); go_must (clear hR; intro e w3 hw3; obtain ⟨bv, rfl, h3⟩ := two_ends hw3; clear hw3)))
 all_goals (
  gi_wp2
  go_ret
  have hk3 : Rf.Above B w2 w3 ∧ Rf.Keep b c w2 w3 := h3.elim (fun h => h.2.2) (fun h => h.2.2)
  have hs : ∀ no : Nat → Prop, Stay b c B no W w3 := fun no => (Stay.of_below HB2.out HC.out).trans ⟨hk3.1.1, hk3.2, fun k h1 h2 _ => hk3.1.2 k h1 h2⟩
  exact ⟨bv, [⟨A2, c2, order⟩], Ao, co, rfl, HG.out.stay (hs (fun _ => False)) (fun _ h => h), hs _, .inl rfl, h3.elim (fun h => .inl ⟨h.1, rfl, h.2.1⟩) (fun h => .inr ⟨h.1, List.prefix_refl _, h.2.1⟩)⟩)
end
end Go.Proofs.Ytiknnpfdpecfdaa.Own
