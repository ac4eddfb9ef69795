/- The declarations of Fr that the claim Qd needs. -/
import Derived.Test.YtiknnpfdpecfdaaQdFo0
import Derived.Test.YtiknnpfdpecfdaaQdTkP
import Derived.Laws.CopyOwn
import Derived.Deep.DeepMust
import Derived.BigQuiet
import Derived.Deep.QuietTactic
namespace Go.Proofs.Ytiknnpfdpecfdaa.Own
open Go Go.RowKit Go.Proofs Go.Proofs.YtiknnpfdpecfdaaW.PrintWords Go.Proofs.YtiknnpfdpecfdaaW.PrintLast Go.Proofs.YtiknnpfdpecfdaaW.PrintMore
set_option linter.unusedVariables false
set_option linter.unusedSimpArgs false
set_option maxHeartbeats 2000000 in
theorem mul113 (y : Nat) (hy : y < 13) (w : World) : Calls Try.prog 113 #[.int .u64 1, .int .u64 (y : Int)] w fun e w' => e = .returned (.tuple #[.int .u64 0, .int .u64 (y : Int)]) ∧ w' = w := by
 match y, hy with
 | 0, _ | 1, _ | 2, _ | 3, _ | 4, _ | 5, _ | 6, _ | 7, _ | 8, _ | 9, _ | 10, _ | 11, _ | 12, _ =>
  go_enter Try.func113, Try.ntmps113
  go_wp2
  go_ret2
  exact ⟨rfl, rfl⟩
set_option maxHeartbeats 2000000 in
theorem mul104 (y : Nat) (hy : y < 13) (w : World) : Calls Try.prog 104 #[.int .u64 1, .int .u64 (y : Int)] w fun e w' => e = .returned (.tuple #[.int .u64 0, .int .u64 (y : Int)]) ∧ w' = w := by
 go_enter Try.func104, Try.ntmps104
 go_wp2_with (go_at_call 113; refine (mul113 y hy _).mono ?_; rintro e w' ⟨rfl, rfl⟩)
 go_ret2
 exact ⟨rfl, rfl⟩
/-- The row half filled: m of n cells. -/
def rowL (n m : Nat) (x : Int) : List Value := List.replicate m (.int .i64 x) ++ List.replicate (n - m) (.int .i64 0)
theorem rowL_len {n m : Nat} {x : Int} (h : m ≤ n) : (rowL n m x).length = n := by simp [rowL]; omega
theorem rowL_get {n m j : Nat} {x : Int} (h : j < m) (hj : j < (rowL n m x).length) : (rowL n m x)[j] = .int .i64 x := by
  simp [rowL, List.getElem_append, h]
theorem splice_zero (n : Nat) (x : Int) (h : 1 ≤ n) : splice (List.replicate n (Value.int .i64 0)) 0 [.int .i64 x] = rowL n 1 x := by
  unfold splice rowL
  simp
theorem splice_row (n m k : Nat) (x : Int) (h : m + k ≤ n) : splice (rowL n m x) m (List.replicate k (.int .i64 x)) = rowL n (m + k) x := by
 unfold splice rowL
 rw [List.take_append_of_le_length (by simp), List.take_of_length_le (by simp), List.drop_append, List.drop_of_length_le (by simp), List.nil_append, List.drop_replicate, ← List.append_assoc, List.replicate_append_replicate]
 congr 2
 simp
 omega
theorem info3R : (Try.prog.info? 3).map (fun i => (i.zero, i.size, i.bytes)) = some (some (.int .i64 0), 1, 8) := by kernel_rfl
theorem sz3R : (Try.prog.info? 3).map (·.size) = some 1 := by kernel_rfl
theorem heap_cell {W : World} {g j : Nat} {cs : List Value} {e : TypeId} (h : W.heap[g]? = some (.cells cs.toArray e (0, 0))) (hj : j < cs.length) : W.cell? ⟨g, j, none⟩ = some cs[j] := by
 unfold World.cell?
 rw [show ({ block := g, off := j, spot := none } : Addr).block = g from rfl, h]
 simp [hj]
def T9 : Bool × List (List Nat × List Nat) := (true, [([], []), ([], []), ([], []), ([1, 2], [1, 2]), ([], []), ([], []), ([4, 5], [4, 5]), ([3, 6], [3, 6]), ([0, 7], [0, 7]), ([8, 7, 0, 1, 2, 3, 4, 5, 6, 7, 8], [0, 2, 5, 8])])
theorem tab9 : rtab .any (opsOf Try.f86 9) = T9 := by kernel_rfl
theorem cutf (g n k : Nat) (hk : k < n) : ∀ W : World, (Instr.slice 22 (.slice (some ⟨g, 0, none⟩) n n) (some (.int .i64 (k : Int))) none none).run Try.prog W = .ok (.slice (some ⟨g, k, none⟩) (n - k) (n - k)) W := by
 intro W
 obtain ⟨i, hi, hz⟩ := Option.map_eq_some_iff.1 sz3R
 have h := cut_from (P := Try.prog) 22 3 .i64 Try.underlying22 hi 1 hz (some ⟨g, 0, none⟩) n n (k : Int) (by omega) (by omega) W
 rw [h, Int.toNat_natCast, if_neg (by omega)]
 simp [Addr.add]
 omega
theorem cutt (g n k : Nat) (hk : k < n) : ∀ W : World, (Instr.slice 22 (.slice (some ⟨g, 0, none⟩) n n) none (some (.int .i64 (k : Int))) none).run Try.prog W = .ok (.slice (some ⟨g, 0, none⟩) k n) W := by
 intro W
 obtain ⟨i, hi, hz⟩ := Option.map_eq_some_iff.1 sz3R
 have h := cut_to (P := Try.prog) 22 3 .i64 Try.underlying22 hi (some ⟨g, 0, none⟩) n n (k : Int) (by omega) (by omega) (Nat.le_refl _) W
 rw [h, Int.toNat_natCast]
theorem copyRow (g n k : Nat) (x : Int) (h1 : 1 ≤ k) (hk : k < n) (W : World) (hg : W.heap[g]? = some (.cells (rowL n k x).toArray 3 (0, 0))) : ∃ W' : World, (Builtin.copy_ #[22, 22] 3 #[.slice (some ⟨g, k, none⟩) (n - k) (n - k), .slice (some ⟨g, 0, none⟩) k n]).run Try.prog W =
  .ok (.int .i64 ((min k (n - k) : Nat) : Int)) W' ∧ W'.heap[g]? = some (.cells (rowL n (k + min k (n - k)) x).toArray 3 (0, 0)) ∧ ∀ (B : Nat) (w : World), B ≤ g → Below B w W → Below B w W' := by
 have hr := run_copy_row (P := Try.prog) W 22 22 3 3 g k (n - k) (n - k) ⟨g, 0, none⟩ k n (rowL n k x).toArray 3 (List.replicate (min k (n - k)) (.int .i64 x)) Try.underlying22 sz3R hg (by simp)
  (by
   intro j v hj
   have hl : j < min k (n - k) := by
    have := (List.getElem?_eq_some_iff.1 hj).1
    simpa using this
   have hv : v = .int .i64 x := by
    rw [List.getElem?_replicate, if_pos hl] at hj
    exact (Option.some.inj hj).symm
   subst hv
   have hlen := rowL_len (n := n) (m := k) (x := x) (by omega)
   have hjk : j < (rowL n k x).length := by omega
   have hc := heap_cell hg hjk
   rw [show ((⟨g, 0, none⟩ : Addr).add j) = ⟨g, j, none⟩ from by simp [Addr.add]; omega, hc, rowL_get (by omega)])
  (by simp [rowL_len (n := n) (m := k) (x := x) (by omega)]; omega)
  (by intro v hv; rw [List.eq_of_mem_replicate hv]; rfl)
 obtain ⟨W', hW'⟩ : ∃ W', W' = W.setRow g (List.take k (rowL n k x).toArray.toList ++ List.replicate (min k (n - k)) (Value.int .i64 x) ++ List.drop (k + (List.replicate (min k (n - k)) (Value.int .i64 x)).length) (rowL n k x).toArray.toList).toArray := ⟨_, rfl⟩
 rw [← hW'] at hr
 refine ⟨W', by rw [hr]; simp [goInt], ?_, fun B w hB hb => by rw [hW']; exact below_setRow hb hB _⟩
 have hgl : g < W.heap.size := (Array.getElem?_eq_some_iff.1 hg).1
 have e := splice_row n k (min k (n - k)) x (by omega)
 unfold splice at e
 rw [← e, hW', setRow_heap W g _ _ _ _ hg]
 simp
theorem row_R {W : World} {g base n : Nat} {x : Int} (hg : W.heap[g]? = some (.cells (rowL n n x).toArray 3 (0, 0))) (hb : base ≤ g) (hn : n < 13) : Kd.R (Kd.int .i64) 3 W base (fun _ => True) (.slice (some ⟨g, 0, none⟩) n n) (List.replicate n x) := by
 have e : (Value.slice (some ⟨g, 0, none⟩) n n) = .slice (some ⟨g, 0, none⟩) (List.replicate n x).length n := by simp
 rw [e]
 refine Kd.R_of_own ⟨by simp [encs], Or.inr ⟨g, n, (rowL n n x).toArray, rfl, hb, hg, by simp, by simp only [maxLen]; omega, by simp [rowL], ?_⟩⟩ (fun _ _ => trivial)
 simp [rowL, encs]
set_option maxRecDepth 100000 in
set_option maxHeartbeats 2000000 in
theorem rep86 (b : Nat) (x : Int) (n : Nat) (h1 : 1 ≤ n) (hn : n < 13) (w : World) (hc : w.cell? ⟨b, 0, none⟩ = some (.int .i64 x)) :
  Calls Try.prog 86 #[.slice (some ⟨b, 0, none⟩) 1 1, .int .i64 (n : Int)] w fun e w' => ∃ v0_, e = .returned v0_ ∧ Kd.R (Kd.int .i64) 3 w' w.heap.size (fun _ => True) v0_ (List.replicate n x) ∧ Below w.heap.size w w' := by
 obtain ⟨m, hm⟩ : ∃ m : Int, m = n := ⟨_, rfl⟩
 have m1 : 1 ≤ m := by omega
 have m2 : m < 13 := by omega
 have w1 : IntKind.u64.wrap m = m := by rw [hm]; match n, h1, hn with | 1, _, _ | 2, _, _ | 3, _, _ | 4, _, _ | 5, _, _ | 6, _, _ | 7, _, _ | 8, _, _ | 9, _, _ | 10, _, _ | 11, _, _ | 12, _, _ => rfl
 have w2 : IntKind.i64.wrap m = m := by rw [hm]; match n, h1, hn with | 1, _, _ | 2, _, _ | 3, _, _ | 4, _, _ | 5, _, _ | 6, _, _ | 7, _, _ | 8, _, _ | 9, _, _ | 10, _, _ | 11, _, _ | 12, _, _ => rfl
 have hmul := fun W => mul104 n hn W
 have hmk : ∀ W : World, (Instr.makeSlice 22 (.int .i64 m) (.int .i64 m)).run Try.prog W = .ok (.slice (some ⟨W.heap.size, 0, none⟩) n n) (W.alloc (.cells (List.replicate n (Value.int .i64 0)).toArray 3)) := by
  intro W
  rw [print_make_int 22 3 (.int .i64 0) 8 Try.underlying22 info3R rfl (by decide) m (by omega) (by omega) W, hm, Int.toNat_natCast, ← toList_madeCells_one]
 rw [← hm] at hmul ⊢
 have hn1 : [Value.int .i64 x].length = Nat.min 1 n := by show 1 = min 1 n; omega
 have hp1 : ∀ j v, [Value.int .i64 x][j]? = some v → (w.alloc (.cells (Array.replicate n (Value.int .i64 0)) 3)).cell? ((⟨b, 0, none⟩ : Addr).add j) = some v := by
  intro j v hj
  cases j with
  | zero =>
   simp at hj
   subst hj
   rw [show ((⟨b, 0, none⟩ : Addr).add 0) = ⟨b, 0, none⟩ from by simp [Addr.add]]
   exact ((below_alloc (Below.refl w.heap.size w) _).cell (World.block_lt_of_cell? w _ hc)).trans hc
  | succ j => simp at hj
 have HN1 := Aside0.mk hn1
 have HP1 := Aside0.mk hp1
 clear hn1 hp1
 have hN := Aside0.mk hm
 have H1 := Aside0.mk h1
 have HN := Aside0.mk hn
 have HC := Aside0.mk hc
 clear hm h1 hn hc
 go_enter Try.func86, Try.ntmps86
 go_wp2_with (first
  | (go_at_call 104; refine (hmul _).mono ?_; rintro e w' ⟨rfl, hw'⟩; subst w')
  | ((with_reducible refine gate_dst (N := 33) rfl ?_); go_must (refine wpList_copy_splice rfl (.tmp 31) (.tmp 32) 22 22 rfl 3 Try.underlying22 sz3R _ _ _ _ _ _ rfl rfl w.heap.size 0 (List.replicate n (.int .i64 0)) 3 ?hg [.int .i64 x] ?hn ?hpos ?hfit ?h1 w.heap.size w ?hb (Nat.le_refl _) ?_; (case hg => exact (blk_new w _).trans (by simp)); (case hn => exact HN1.out); (case hpos => exact fun _ => ⟨rfl, _, rfl, HP1.out⟩); (case hfit => simp; exact H1.out); (case h1 => simp [Value.oneCell']); (case hb => exact below_alloc (Below.refl w.heap.size w) _); intro w2 HG2 hB2)))
 rw [splice_zero n x H1.out] at HG2
 go_loopw [8] (fun v8 wr => ∃ k : Nat, v8 = .int .i64 (k : Int) ∧ 1 ≤ k ∧ k ≤ n ∧ Aside0 (wr.heap[w.heap.size]? = some (.cells (rowL n k x).toArray 3 (0, 0))) ∧ Aside0 (Below w.heap.size w wr)) (fun v8 _ => n - (intOf v8).toNat)
 case atStart => exact ⟨1, by first | rfl | simp, Nat.le_refl _, H1.out, ⟨HG2⟩, ⟨hB2⟩⟩
 case round =>
  obtain ⟨k, rfl, k1, k2, HG, HB⟩ := hrel
  by_cases hkn : k < n
  ·go_wp2
   have hcf := cutf w.heap.size n k hkn
   have hct := cutt w.heap.size n k hkn
   refine start_ (n := 10) (S := fun _ => True) (ds := [7]) #[false, false, false, false, false, false, false, false, false, false] (by kernel_rfl) rfl rfl trivial (fun hHeld => ?_); refine with_tab tab9 (fun HT_ => ?_)
   refine pr 0 38 HT_ ?_
   refine pr 1 39 HT_ ?_
   refine pr 2 40 HT_ ?_
   refine pr 3 41 HT_ ?_
   refine pr 4 42 HT_ ?_
   refine pr 5 43 HT_ ?_
   refine pr 6 44 HT_ ?_
   refine la 7 (some 45) HT_ (fun K hK => ?_)
   obtain ⟨W', hrun, hG', hB'⟩ := copyRow w.heap.size n k x k1 hkn wr.drew HG.out
   refine event_step (by rfl) (v := .int .i64 ((min k (n - k) : Nat) : Int)) (w1 := W') (by go_simp) ?_
   refine hK.out _ _ ?_
   clear hK K
   refine nr (some 45) ?_
   refine pr 8 46 HT_ ?_
   refine pr 9 8 HT_ ?_
   refine dn HT_ ?_
   try go_wp2
   have hwr : wrap64 ((k : Int) + ((min k (n - k) : Nat) : Int)) = ((k + min k (n - k) : Nat) : Int) := by have := HN.out; unfold wrap64; omega
   go_roundw
   case rel => exact ⟨k + min k (n - k), by rw [hwr], by omega, by omega, ⟨hG'⟩, ⟨hB' _ _ (Nat.le_refl _) (below_drew HB.out)⟩⟩
   case measure => rw [hwr]; simp only [intOf]; omega
  ·obtain rfl : k = n := by omega
   go_wp2
   go_ret
   exact ⟨_, rfl, row_R HG.out (Nat.le_refl _) HN.out, HB.out⟩
end Go.Proofs.Ytiknnpfdpecfdaa.Own
