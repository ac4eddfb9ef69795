/- The declarations of Fk that the claim Qd needs. -/
import Derived.Test.YtiknnpfdpecfdaaQdFp
import Derived.Test.YtiknnpfdpecfdaaQdFr
import Derived.Test.YtiknnpfdpecfdaaQdTkP
import Derived.Deep.DeepMust
namespace Go.Proofs.Ytiknnpfdpecfdaa.Own
open Go Go.RowKit Go.Proofs Go.Proofs.YtiknnpfdpecfdaaW.PrintWords Go.Proofs.YtiknnpfdpecfdaaW.PrintLast Go.Proofs.YtiknnpfdpecfdaaW.PrintMore
set_option linter.unusedVariables false
set_option linter.unusedSimpArgs false
def beg1T : Bool × List (List Nat × List Nat) := (true, [([], []), ([], []), ([], []), ([], []), ([3], [3]), ([4], [4]), ([2, 5], [2, 5]), ([0, 1, 6], [0, 1, 6]), ([7], [7]), ([8, 6, 0, 1, 2, 3, 4, 5, 6, 7, 8], [8])])
def beg1B : List Nat := [0, 0, 0, 0, 8, 24, 60, 127, 255, 511]
theorem beg1tab : rtab .any (opsOf Try.f73 1) = beg1T := by kernel_rfl
theorem beg1bits : waitsOk beg1T.2 beg1B = true := by kernel_rfl
theorem al {P : Program} {ops : Array Oper} {Q : Exit → Act → World → Prop} {oi : Oper} {N : Option Tmp} {a : Act} {w w1 : World} {v : Value} {K : Act → World → Prop} (h : K (a.put N v) w1) (hw : Region.wanted oi (yielded ops a.tmps) = true := by rfl) (hN : oi.dst = N := by rfl)
  (hrun : (execOp a.eval oi).run P w = .ok (.value v) w1 := by first | (go_simp; done) | (go_simp; rfl)) : if Region.wanted oi (yielded ops a.tmps) = true then Oper.wp P oi a w K Q else K (a.put N undef) w := by
 rw [if_pos hw]
 unfold Oper.wp
 rw [hrun]
 show K (a.put oi.dst v) w1
 rw [hN]
 exact h
set_option maxRecDepth 100000 in
set_option maxHeartbeats 4000000 in
theorem begin73 (Al Ah Ac : Option Addr) (n nh nc cl ch cc : Nat) (rd : Bool) (pat : ByteArray) (w : World) (hn1 : 1 ≤ n) (hn2 : n < 13) :
  Calls Try.prog 73 #[.agg #[.slice Al n cl, .slice Ah nh ch, .slice Ac nc cc, .bool rd], .string pat] w fun e w' => ∃ (gs : Nat) (v : Value), e = .returned (.pointer (some ⟨gs, 0, none⟩)) ∧ w'.heap[gs]? = some (.cells #[.slice Al n cl, .slice Ah nh ch, .slice Ac nc cc, .bool rd, .string pat, v, .slice none 0 0] 101 (0, 0)) ∧ Kd.R (Kd.int .i64) 3 w' w.heap.size (fun k => k ≠ gs) v (List.replicate n (-1)) ∧ Below w.heap.size w w' ∧ w.heap.size ≤ gs := by
 go_enter Try.func73, Try.ntmps73
 go_wp2
 obtain ⟨w7, hw7⟩ : ∃ w7, w.alloc (.cells #[.slice Al n cl, .slice Ah nh ch, .slice Ac nc cc, .bool rd] 76) = w7 := ⟨_, rfl⟩
 obtain ⟨bx, hbxe⟩ : ∃ bx, w.heap.size = bx := ⟨_, rfl⟩
 have hb7 : Below w.heap.size w w7 := hw7 ▸ below_alloc (Below.refl _ _) _
 have hx : ∀ j u, #[Value.slice Al n cl, .slice Ah nh ch, .slice Ac nc cc, .bool rd][j]? = some u → w7.cell? ⟨bx, j, none⟩ = some u := by
  intro j u hj
  rw [← hw7, ← hbxe, World.cell?_alloc_mark]
  exact hj
 rw [hw7, hbxe]
 have HS : ∀ W, Below w7.heap.size w7 W → (W.cell? ⟨bx, 0, none⟩ = some (.slice Al n cl) ∧ W.cell? ⟨bx, 1, none⟩ = some (.slice Ah nh ch) ∧ W.cell? ⟨bx, 2, none⟩ = some (.slice Ac nc cc) ∧ W.cell? ⟨bx, 3, none⟩ = some (.bool rd)) :=
  fun W hW => ⟨mv hW (hx 0 _ rfl), mv hW (hx 1 _ rfl), mv hW (hx 2 _ rfl), mv hW (hx 3 _ rfl)⟩
 have hcell : (w7.drew.alloc (.cells #[.int .i64 (-1)] 3)).cell? ⟨w7.heap.size, 0, none⟩ = some (.int .i64 (-1)) := by
  rw [show w7.heap.size = w7.drew.heap.size from rfl, World.cell?_alloc_mark]
  rfl
 refine start_ (n := 10) (S := fun w' => (w'.cell? ⟨bx, 0, none⟩ = some (.slice Al n cl) ∧ w'.cell? ⟨bx, 1, none⟩ = some (.slice Ah nh ch) ∧ w'.cell? ⟨bx, 2, none⟩ = some (.slice Ac nc cc) ∧ w'.cell? ⟨bx, 3, none⟩ = some (.bool rd))) (ds := []) #[false, false, false, false, false, false, false, false, false, false] (by kernel_rfl) rfl rfl (HS _ (below_drew1' (Below.refl _ _))) (fun hHeld => ?_); refine with_tabW beg1tab beg1bits (fun HT_ HW_ => ?_)
 refine tr 0 5 HT_ HW_ hHeld ?_
 refine pr 1 6 HT_ ?_
 refine pr 3 8 HT_ ?_
 refine tr 4 9 HT_ HW_ hHeld ?_
 refine pr 5 10 HT_ ?_
 refine on 2 (some 7) HT_ (fun K hK => ?_)
 refine al (v := .slice (some ⟨w7.heap.size, 0, none⟩) 1 1) (w1 := w7.drew.alloc (.cells #[.int .i64 (-1)] 3)) ?_
 have hb8 : Below w7.heap.size w7 _ := below_alloc (below_drew1' (Below.refl _ _)) (.cells #[.int .i64 (-1)] 3)
 refine hK.out _ _ (HS _ hb8) (fun hHeld => ?_)
 clear hK K
 refine nr (some 7) ?_
 refine on 6 (some 11) HT_ (fun K hK => ?_)
 refine gS Try.func86 #[.slice (some ⟨w7.heap.size, 0, none⟩) 1 1, .int .i64 (n : Int)] ?_
 refine (rep86 w7.heap.size (-1) n hn1 hn2 _ ?_).mono ?_
 ·exact hcell
 rintro e w9 ⟨v9, rfl, hr9, hb9⟩
 obtain ⟨A9, c9, rfl⟩ := Kd.R_slice hr9
 refine ⟨_, rfl, ?_⟩
 have hb79 : Below w7.heap.size w7 w9 := below_step hb8 hb9
 refine hK.out _ _ (HS w9 hb79) (fun hHeld => ?_)
 clear hK K
 refine nr (some 11) ?_
 refine pr 7 12 HT_ ?_
 refine on 8 (some 13) HT_ (fun K hK => ?_)
 refine al (v := .pointer (some ⟨w9.heap.size, 0, none⟩)) (w1 := w9.alloc (.cells #[.slice Al n cl, .slice Ah nh ch, .slice Ac nc cc, .bool rd, .string pat, .slice A9 (List.replicate n (-1 : Int)).length c9, .slice none 0 0] 101)) ?_
 have hb10 : Below w7.heap.size w7 _ := below_alloc hb79 (.cells #[.slice Al n cl, .slice Ah nh ch, .slice Ac nc cc, .bool rd, .string pat, .slice A9 (List.replicate n (-1 : Int)).length c9, .slice none 0 0] 101)
 refine hK.out _ _ (HS _ hb10) (fun hHeld => ?_)
 clear hK K
 refine nr (some 13) ?_
 refine pr 9 4 HT_ ?_
 refine dn HT_ ?_
 go_wp2
 go_ret
 refine ⟨w9.heap.size, .slice A9 (List.replicate n (-1 : Int)).length c9, rfl, Go.Deep.blk_alloc_new _ _, ?_, below_step hb7 (below_alloc hb79 _), ?_⟩
 ·exact Kd.R_mono (Kd.R_lower (Kd.R_alloc (Kd.R_bound hr9) _) (Nat.le_trans hb7.size hb8.size)) (fun k hk => Nat.ne_of_lt hk.2.2.1)
 ·exact Nat.le_trans hb7.size hb79.size
end Go.Proofs.Ytiknnpfdpecfdaa.Own
