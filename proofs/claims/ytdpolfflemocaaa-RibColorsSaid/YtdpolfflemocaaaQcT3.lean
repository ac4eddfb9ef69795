/- The declarations of T3 that the claim Qc needs. -/
import Derived.Test.YtdpolfflemocaaaQcT1
import Derived.Test.YtdpolfflemocaaaQcTkP
import Derived.Laws.CopyOwn
import Derived.Deep.DeepMust
import Derived.BigQuiet
import Derived.Deep.QuietTactic
import Derived.Test.YtdpolfflemocaaaQcRc
import Derived.Shelf.GgClosure.Gives
import Derived.RangeFuncNested
import Derived.RangeFuncBound
import Derived.RangeFuncCalls
import Derived.RangeFuncLeaves
import Derived.Shelf.Abstract
import Derived.WalkKit
import Derived.OwnWalkIn
import Derived.TacticsInMore
import Derived.LoopNIn
import Derived.LoopIn
import Derived.Test.YtdpolfflemocaaaProg
namespace Go.Proofs.Ytdpolfflemocaaa.Bk
open Go Go.RowKit Go.Proofs Go.Proofs.YtdpolfflemocaaaW.PrintWords Go.Proofs.YtdpolfflemocaaaW.PrintLast Go.Proofs.YtdpolfflemocaaaW.PrintMore
set_option linter.unusedVariables false
set_option linter.unusedSimpArgs false
set_option maxHeartbeats 2000000 in
theorem mul105 (y : Nat) (hy : y < 13) (w : World) : Calls Try.prog 105 #[.int .u64 1, .int .u64 (y : Int)] w fun e w' => e = .returned (.tuple #[.int .u64 0, .int .u64 (y : Int)]) ∧ w' = w := by
 match y, hy with
 | 0, _ | 1, _ | 2, _ | 3, _ | 4, _ | 5, _ | 6, _ | 7, _ | 8, _ | 9, _ | 10, _ | 11, _ | 12, _ =>
  go_enter Try.func105, Try.ntmps105
  go_wp2
  go_ret2
  exact ⟨rfl, rfl⟩
set_option maxHeartbeats 2000000 in
theorem mul95 (y : Nat) (hy : y < 13) (w : World) : Calls Try.prog 95 #[.int .u64 1, .int .u64 (y : Int)] w fun e w' => e = .returned (.tuple #[.int .u64 0, .int .u64 (y : Int)]) ∧ w' = w := by
 go_enter Try.func95, Try.ntmps95
 go_wp2_with (go_at_call 105; refine (mul105 y hy _).mono ?_; rintro e w' ⟨rfl, rfl⟩)
 go_ret2
 exact ⟨rfl, rfl⟩
/-- The row half filled: m of n cells. -/
def rowL (n m : Nat) (x : Int) : List Value := List.replicate m (.int .i64 x) ++ List.replicate (n - m) (.int .i64 0)
theorem rowL_len {n m : Nat} {x : Int} (h : m ≤ n) : (rowL n m x).length = n := by simp [rowL]; omega
theorem rowL_get {n m j : Nat} {x : Int} (h : j < m) (hj : j < (rowL n m x).length) : (rowL n m x)[j] = .int .i64 x := by
  simp [rowL, List.getElem_append, h]
theorem splice_zero (n : Nat) (x : Int) (h : 1 ≤ n) : splice (List.replicate n (Value.int .i64 0)) 0 [.int .i64 x] = rowL n 1 x := by
  unfold splice rowL
  simp
theorem splice_row (n m k : Nat) (x : Int) (h : m + k ≤ n) : splice (rowL n m x) m (List.replicate k (.int .i64 x)) = rowL n (m + k) x := by
 unfold splice rowL
 rw [List.take_append_of_le_length (by simp), List.take_of_length_le (by simp), List.drop_append, List.drop_of_length_le (by simp), List.nil_append, List.drop_replicate, ← List.append_assoc, List.replicate_append_replicate]
 congr 2
 simp
 omega
theorem info3R : (Try.prog.info? 3).map (fun i => (i.zero, i.size, i.bytes)) = some (some (.int .i64 0), 1, 8) := by kernel_rfl
theorem sz3R : (Try.prog.info? 3).map (·.size) = some 1 := by kernel_rfl
theorem heap_cell {W : World} {g j : Nat} {cs : List Value} {e : TypeId} (h : W.heap[g]? = some (.cells cs.toArray e (0, 0))) (hj : j < cs.length) : W.cell? ⟨g, j, none⟩ = some cs[j] := by
 unfold World.cell?
 rw [show ({ block := g, off := j, spot := none } : Addr).block = g from rfl, h]
 simp [hj]
def T9 : Bool × List (List Nat × List Nat) := (true, [([], []), ([], []), ([], []), ([1, 2], [1, 2]), ([], []), ([], []), ([4, 5], [4, 5]), ([3, 6], [3, 6]), ([0, 7], [0, 7]), ([8, 7, 0, 1, 2, 3, 4, 5, 6, 7, 8], [0, 2, 5, 8])])
theorem tab9 : rtab .any (opsOf Try.f72 9) = T9 := by kernel_rfl
theorem cutf (g n k : Nat) (hk : k < n) : ∀ W : World, (Instr.slice 34 (.slice (some ⟨g, 0, none⟩) n n) (some (.int .i64 (k : Int))) none none).run Try.prog W = .ok (.slice (some ⟨g, k, none⟩) (n - k) (n - k)) W := by
 intro W
 obtain ⟨i, hi, hz⟩ := Option.map_eq_some_iff.1 sz3R
 have h := cut_from (P := Try.prog) 34 3 .i64 Try.underlying34 hi 1 hz (some ⟨g, 0, none⟩) n n (k : Int) (by omega) (by omega) W
 rw [h, Int.toNat_natCast, if_neg (by omega)]
 simp [Addr.add]
 omega
theorem cutt (g n k : Nat) (hk : k < n) : ∀ W : World, (Instr.slice 34 (.slice (some ⟨g, 0, none⟩) n n) none (some (.int .i64 (k : Int))) none).run Try.prog W = .ok (.slice (some ⟨g, 0, none⟩) k n) W := by
 intro W
 obtain ⟨i, hi, hz⟩ := Option.map_eq_some_iff.1 sz3R
 have h := cut_to (P := Try.prog) 34 3 .i64 Try.underlying34 hi (some ⟨g, 0, none⟩) n n (k : Int) (by omega) (by omega) (Nat.le_refl _) W
 rw [h, Int.toNat_natCast]
theorem copyRow (g n k : Nat) (x : Int) (h1 : 1 ≤ k) (hk : k < n) (W : World) (hg : W.heap[g]? = some (.cells (rowL n k x).toArray 3 (0, 0))) : ∃ W' : World, (Builtin.copy_ #[34, 34] 3 #[.slice (some ⟨g, k, none⟩) (n - k) (n - k), .slice (some ⟨g, 0, none⟩) k n]).run Try.prog W =
  .ok (.int .i64 ((min k (n - k) : Nat) : Int)) W' ∧ W'.heap[g]? = some (.cells (rowL n (k + min k (n - k)) x).toArray 3 (0, 0)) ∧ ∀ (B : Nat) (w : World), B ≤ g → Below B w W → Below B w W' := by
 have hr := run_copy_row (P := Try.prog) W 34 34 3 3 g k (n - k) (n - k) ⟨g, 0, none⟩ k n (rowL n k x).toArray 3 (List.replicate (min k (n - k)) (.int .i64 x)) Try.underlying34 sz3R hg (by simp)
  (by
   intro j v hj
   have hl : j < min k (n - k) := by
    have := (List.getElem?_eq_some_iff.1 hj).1
    simpa using this
   have hv : v = .int .i64 x := by
    rw [List.getElem?_replicate, if_pos hl] at hj
    exact (Option.some.inj hj).symm
   subst hv
   have hlen := rowL_len (n := n) (m := k) (x := x) (by omega)
   have hjk : j < (rowL n k x).length := by omega
   have hc := heap_cell hg hjk
   rw [show ((⟨g, 0, none⟩ : Addr).add j) = ⟨g, j, none⟩ from by simp [Addr.add]; omega, hc, rowL_get (by omega)])
  (by simp [rowL_len (n := n) (m := k) (x := x) (by omega)]; omega)
  (by intro v hv; rw [List.eq_of_mem_replicate hv]; rfl)
 obtain ⟨W', hW'⟩ : ∃ W', W' = W.setRow g (List.take k (rowL n k x).toArray.toList ++ List.replicate (min k (n - k)) (Value.int .i64 x) ++ List.drop (k + (List.replicate (min k (n - k)) (Value.int .i64 x)).length) (rowL n k x).toArray.toList).toArray := ⟨_, rfl⟩
 rw [← hW'] at hr
 refine ⟨W', by rw [hr]; simp [goInt], ?_, fun B w hB hb => by rw [hW']; exact below_setRow hb hB _⟩
 have hgl : g < W.heap.size := (Array.getElem?_eq_some_iff.1 hg).1
 have e := splice_row n k (min k (n - k)) x (by omega)
 unfold splice at e
 rw [← e, hW', setRow_heap W g _ _ _ _ hg]
 simp
theorem row_R {W : World} {g base n : Nat} {x : Int} (hg : W.heap[g]? = some (.cells (rowL n n x).toArray 3 (0, 0))) (hb : base ≤ g) (hn : n < 13) : Kd.R (Kd.int .i64) 3 W base (fun _ => True) (.slice (some ⟨g, 0, none⟩) n n) (List.replicate n x) := by
 have e : (Value.slice (some ⟨g, 0, none⟩) n n) = .slice (some ⟨g, 0, none⟩) (List.replicate n x).length n := by simp
 rw [e]
 refine Kd.R_of_own ⟨by simp [encs], Or.inr ⟨g, n, (rowL n n x).toArray, rfl, hb, hg, by simp, by simp only [maxLen]; omega, by simp [rowL], ?_⟩⟩ (fun _ _ => trivial)
 simp [rowL, encs]
set_option maxRecDepth 100000 in
set_option maxHeartbeats 2000000 in
theorem rep72 (b : Nat) (x : Int) (n : Nat) (h1 : 1 ≤ n) (hn : n < 13) (w : World) (hc : w.cell? ⟨b, 0, none⟩ = some (.int .i64 x)) :
  Calls Try.prog 72 #[.slice (some ⟨b, 0, none⟩) 1 1, .int .i64 (n : Int)] w fun e w' => ∃ v0_, e = .returned v0_ ∧ Kd.R (Kd.int .i64) 3 w' w.heap.size (fun _ => True) v0_ (List.replicate n x) ∧ Below w.heap.size w w' := by
 obtain ⟨m, hm⟩ : ∃ m : Int, m = n := ⟨_, rfl⟩
 have m1 : 1 ≤ m := by omega
 have m2 : m < 13 := by omega
 have w1 : IntKind.u64.wrap m = m := by rw [hm]; match n, h1, hn with | 1, _, _ | 2, _, _ | 3, _, _ | 4, _, _ | 5, _, _ | 6, _, _ | 7, _, _ | 8, _, _ | 9, _, _ | 10, _, _ | 11, _, _ | 12, _, _ => rfl
 have w2 : IntKind.i64.wrap m = m := by rw [hm]; match n, h1, hn with | 1, _, _ | 2, _, _ | 3, _, _ | 4, _, _ | 5, _, _ | 6, _, _ | 7, _, _ | 8, _, _ | 9, _, _ | 10, _, _ | 11, _, _ | 12, _, _ => rfl
 have hmul := fun W => mul95 n hn W
 have hmk : ∀ W : World, (Instr.makeSlice 34 (.int .i64 m) (.int .i64 m)).run Try.prog W = .ok (.slice (some ⟨W.heap.size, 0, none⟩) n n) (W.alloc (.cells (List.replicate n (Value.int .i64 0)).toArray 3)) := by
  intro W
  rw [print_make_int 34 3 (.int .i64 0) 8 Try.underlying34 info3R rfl (by decide) m (by omega) (by omega) W, hm, Int.toNat_natCast, ← toList_madeCells_one]
 rw [← hm] at hmul ⊢
 have hn1 : [Value.int .i64 x].length = Nat.min 1 n := by show 1 = min 1 n; omega
 have hp1 : ∀ j v, [Value.int .i64 x][j]? = some v → (w.alloc (.cells (Array.replicate n (Value.int .i64 0)) 3)).cell? ((⟨b, 0, none⟩ : Addr).add j) = some v := by
  intro j v hj
  cases j with
  | zero =>
   simp at hj
   subst hj
   rw [show ((⟨b, 0, none⟩ : Addr).add 0) = ⟨b, 0, none⟩ from by simp [Addr.add]]
   exact ((below_alloc (Below.refl w.heap.size w) _).cell (World.block_lt_of_cell? w _ hc)).trans hc
  | succ j => simp at hj
 have HN1 := Aside0.mk hn1
 have HP1 := Aside0.mk hp1
 clear hn1 hp1
 have hN := Aside0.mk hm
 have H1 := Aside0.mk h1
 have HN := Aside0.mk hn
 have HC := Aside0.mk hc
 clear hm h1 hn hc
 go_enter Try.func72, Try.ntmps72
 go_wp2_with (first
  | (go_at_call 95; refine (hmul _).mono ?_; rintro e w' ⟨rfl, hw'⟩; subst w')
  | ((with_reducible refine gate_dst (N := 33) rfl ?_); go_must (refine wpList_copy_splice rfl (.tmp 31) (.tmp 32) 34 34 rfl 3 Try.underlying34 sz3R _ _ _ _ _ _ rfl rfl w.heap.size 0 (List.replicate n (.int .i64 0)) 3 ?hg [.int .i64 x] ?hn ?hpos ?hfit ?h1 w.heap.size w ?hb (Nat.le_refl _) ?_; (case hg => exact (blk_new w _).trans (by simp)); (case hn => exact HN1.out); (case hpos => exact fun _ => ⟨rfl, _, rfl, HP1.out⟩); (case hfit => simp; exact H1.out); (case h1 => simp [Value.oneCell']); (case hb => exact below_alloc (Below.refl w.heap.size w) _); intro w2 HG2 hB2)))
 rw [splice_zero n x H1.out] at HG2
 go_loopw [8] (fun v8 wr => ∃ k : Nat, v8 = .int .i64 (k : Int) ∧ 1 ≤ k ∧ k ≤ n ∧ Aside0 (wr.heap[w.heap.size]? = some (.cells (rowL n k x).toArray 3 (0, 0))) ∧ Aside0 (Below w.heap.size w wr)) (fun v8 _ => n - (intOf v8).toNat)
 case atStart => exact ⟨1, by first | rfl | simp, Nat.le_refl _, H1.out, ⟨HG2⟩, ⟨hB2⟩⟩
 case round =>
  obtain ⟨k, rfl, k1, k2, HG, HB⟩ := hrel
  by_cases hkn : k < n
  ·go_wp2
   have hcf := cutf w.heap.size n k hkn
   have hct := cutt w.heap.size n k hkn
   refine start_ (n := 10) (S := fun _ => True) (ds := [7]) #[false, false, false, false, false, false, false, false, false, false] (by kernel_rfl) rfl rfl trivial (fun hHeld => ?_); refine with_tab tab9 (fun HT_ => ?_)
   refine pr 0 38 HT_ ?_
   refine pr 1 39 HT_ ?_
   refine pr 2 40 HT_ ?_
   refine pr 3 41 HT_ ?_
   refine pr 4 42 HT_ ?_
   refine pr 5 43 HT_ ?_
   refine pr 6 44 HT_ ?_
   refine la 7 (some 45) HT_ (fun K hK => ?_)
   obtain ⟨W', hrun, hG', hB'⟩ := copyRow w.heap.size n k x k1 hkn wr.drew HG.out
   refine event_step (by rfl) (v := .int .i64 ((min k (n - k) : Nat) : Int)) (w1 := W') (by go_simp) ?_
   refine hK.out _ _ ?_
   clear hK K
   refine nr (some 45) ?_
   refine pr 8 46 HT_ ?_
   refine pr 9 8 HT_ ?_
   refine dn HT_ ?_
   try go_wp2
   have hwr : wrap64 ((k : Int) + ((min k (n - k) : Nat) : Int)) = ((k + min k (n - k) : Nat) : Int) := by have := HN.out; unfold wrap64; omega
   go_roundw
   case rel => exact ⟨k + min k (n - k), by rw [hwr], by omega, by omega, ⟨hG'⟩, ⟨hB' _ _ (Nat.le_refl _) (below_drew HB.out)⟩⟩
   case measure => rw [hwr]; simp only [intOf]; omega
  ·obtain rfl : k = n := by omega
   go_wp2
   go_ret
   exact ⟨_, rfl, row_R HG.out (Nat.le_refl _) HN.out, HB.out⟩
end Go.Proofs.Ytdpolfflemocaaa.Bk
namespace Go.Proofs.Ytdpolfflemocaaa.Bk
open Go Go.RowKit Go.Proofs Go.Proofs.Ytdpolfflemocaaa.Own Go.Proofs.YtdpolfflemocaaaW.PrintWords Go.Proofs.YtdpolfflemocaaaW.PrintLast Go.Proofs.YtdpolfflemocaaaW.PrintMore
set_option linter.unusedVariables false
set_option linter.unusedSimpArgs false
def hasCol (out : List Int) (c : Int) (j : Fin out.length) : Bool := out[j.val]! == c
set_option maxHeartbeats 2000000 in
theorem col75 (out : List Int) (c : Int) (cap g BO BC : Nat) (w : World) (hO : w.cell? ⟨BO, 0, none⟩ = some (.slice (some ⟨g, 0, none⟩) out.length cap)) (hC : w.cell? ⟨BC, 0, none⟩ = some (.int .i64 c))
  (hr : ∀ j, j < out.length → w.cell? ⟨g, j, none⟩ = some (.int .i64 out[j]!)) (hBO : BO < w.heap.size) (hBC : BC < w.heap.size) (hg : g < w.heap.size) (hlen : out.length < 2 ^ 40) :
  PredAt Try.prog 75 #[.pointer (some ⟨BO, 0, none⟩), .pointer (some ⟨BC, 0, none⟩)] (fun x : Fin out.length => .int .i64 (x.val : Int)) (hasCol out c) w := by
 intro W x hb
 have hO' := (hb.cell (p := ⟨BO, 0, none⟩) hBO).trans hO
 have hC' := (hb.cell (p := ⟨BC, 0, none⟩) hBC).trans hC
 obtain ⟨j, hx⟩ := x
 have hr' := (hb.cell (p := ⟨g, j, none⟩) hg).trans (hr j hx)
 obtain ⟨v, hv⟩ : ∃ v, out[j]! = v := ⟨_, rfl⟩
 show Calls Try.prog 75 #[.int .i64 (j : Int), .pointer (some ⟨BO, 0, none⟩), .pointer (some ⟨BC, 0, none⟩)] W fun e w' => e = .returned (.bool (out[j]! == c)) ∧ ∃ q, w' = W.drewN q
 rw [hv] at hr' ⊢
 clear hv hr
 by_cases h1 : v = c
 ·subst h1
  rw [beq_self_eq_true]
  go_enter Try.func75, Try.ntmps75
  go_wp2
  repeat (go_quiet (fail); try go_wp2)
  go_ret
  exact ⟨rfl, _, rfl⟩
 ·have d1 : (v == c) = false := by simpa using h1
  rw [d1]
  go_enter Try.func75, Try.ntmps75
  go_wp2
  repeat (go_quiet (fail); try go_wp2)
  go_ret
  exact ⟨rfl, _, rfl⟩
theorem colAny (out : List Int) (c : Int) (cap g BO BC : Nat) (ns : List Int) (A : Option Addr) (cc : Nat) (w : World) (hns : ∀ j ∈ ns, 0 ≤ j ∧ j < out.length) (hrow : Kd.C (Kd.int .i64) w A ns.length ns)
  (hO : w.cell? ⟨BO, 0, none⟩ = some (.slice (some ⟨g, 0, none⟩) out.length cap)) (hC : w.cell? ⟨BC, 0, none⟩ = some (.int .i64 c))
  (hr : ∀ j, j < out.length → w.cell? ⟨g, j, none⟩ = some (.int .i64 out[j]!)) (hBO : BO < w.heap.size) (hBC : BC < w.heap.size) (hg : g < w.heap.size) (hlen : out.length < 2 ^ 40) :
  Calls Try.prog 68 #[.slice A ns.length cc, .func (.func 75) #[] #[.pointer (some ⟨BO, 0, none⟩), .pointer (some ⟨BC, 0, none⟩)]] w fun e w' => e = .returned (.bool (decide (c ∈ ns.map fun j => out[j.toNat]!))) ∧ Drawn0 w w' := by
 by_cases h0 : ns.length = 0
 ·obtain rfl : ns = [] := List.length_eq_zero_iff.1 h0
  exact (AnyE.slices_ContainsFunc_empty Rib.contL A cc _ w).mono fun e w' ⟨he, hw⟩ => ⟨by simpa using he, ⟨0, hw⟩⟩
 ·obtain ⟨b, off, rfl, hcell⟩ := row_plain hrow (by omega)
  have hl : ns.length ≤ 9223372036854775807 := hrow.2.1
  have hpos : 0 < out.length := by
   obtain ⟨j, hj⟩ := List.exists_mem_of_length_pos (l := ns) (by omega)
   have := hns j hj
   omega
  haveI : Inhabited (Fin out.length) := ⟨⟨0, hpos⟩⟩
  have h := AnyE.slices_ContainsFunc Rib.contL (fun x : Fin out.length => .int .i64 (x.val : Int)) (hasCol out c) 75 #[.pointer (some ⟨BO, 0, none⟩), .pointer (some ⟨BC, 0, none⟩)] (enters_of Try.func75 (by kernel_rfl) rfl) b off ns.length cc
   (ns.pmap (fun (j : Int) (h : 0 ≤ j ∧ j < out.length) => (⟨j.toNat, by omega⟩ : Fin out.length)) hns) w (col75 out c cap g BO BC w hO hC hr hBO hBC hg hlen) (by simp) hl
   (by
    intro j hj
    have hj' : j < ns.length := by simpa using hj
    have e1 : ns[j]! = ns[j] := getElem!_pos ns j hj'
    have e2 := getElem!_pos (ns.pmap (fun (j : Int) (h : 0 ≤ j ∧ j < out.length) => (⟨j.toNat, by omega⟩ : Fin out.length)) hns) j hj
    rw [hcell j hj', e1, e2]
    have h1 := (hns ns[j] (List.getElem_mem hj')).1
    simp
    omega)
  refine h.mono fun e w' ⟨he, q, hw⟩ => ⟨?_, ⟨q, hw⟩⟩
  rw [he, List.take_of_length_le (by simp)]
  congr 2
  rw [Bool.eq_iff_iff]
  simp only [List.any_eq_true, List.mem_pmap, hasCol, beq_iff_eq, decide_eq_true_eq, List.mem_map]
  constructor
  ·rintro ⟨x, ⟨a, ha, rfl⟩, hx⟩
   exact ⟨a, ha, hx⟩
  ·rintro ⟨a, ha, hx⟩
   exact ⟨_, ⟨a, ha, rfl⟩, hx⟩
end Go.Proofs.Ytdpolfflemocaaa.Bk
namespace Go.Proofs.Ytdpolfflemocaaa.Bk
open Go Go.RowKit Go.Shelf Go.Proofs
attribute [local go_sem] Oper.semAt_some
set_option linter.unusedVariables false
set_option linter.unusedSimpArgs false
/-- Some blocks lie as they lay. -/
def KeepAt (K : List Nat) (W W' : World) : Prop := ∀ k ∈ K, W'.heap[k]? = W.heap[k]?
theorem KeepAt.refl (K : List Nat) (W : World) : KeepAt K W W := fun _ _ => rfl
theorem KeepAt.trans {K : List Nat} {A B C : World} (h : KeepAt K A B) (k : KeepAt K B C) : KeepAt K A C := fun i hi => (k i hi).trans (h i hi)
theorem KeepAt.putObj {K : List Nat} {w : World} (hK : ∀ k ∈ K, k < w.heap.size) (W : World) (l : Nat) (o o' : Obj) (hl : w.heap.size ≤ l) (_ : W.heap[l]? = some o) (_ : o.isCells = false) (_ : o.isWalk = false) : KeepAt K W (W.putObj l o') :=
  fun k hk => World.putObj_heap_other (by have := hK k hk; omega)
theorem cell_of_heap {W W' : World} {b o : Nat} (h : W'.heap[b]? = W.heap[b]?) : W'.cell? ⟨b, o, none⟩ = W.cell? ⟨b, o, none⟩ := by
  unfold World.cell?
  rw [show ({ block := b, off := o, spot := none } : Addr).block = b from rfl, h]
theorem KeepAt.cell {K : List Nat} {W W' : World} (h : KeepAt K W W') {b o : Nat} (hb : b ∈ K) : W'.cell? ⟨b, o, none⟩ = W.cell? ⟨b, o, none⟩ := cell_of_heap (h b hb)
theorem KeepAt.below {K : List Nat} {n : Nat} {W W' : World} (h : Below n W W') (hK : ∀ k ∈ K, k < n) : KeepAt K W W' := fun k hk => h.block k (hK k hk)
theorem KeepAt.grown {K : List Nat} {W0 W W' : World} {row : Option Nat} (h : KeepAt K W0 W) (hsz : ∀ k ∈ K, k < W.heap.size) (hg : W.grownBy W' row) (hr : ∀ r, row = some r → r ∉ K) : KeepAt K W0 W' :=
  fun k hk => (hg.block k (hsz k hk) (fun e => hr k e.symm hk)).trans (h k hk)
theorem KeepsOthers.of_below {W W' : World} (h : Below W.heap.size W W') : KeepsOthers W W' :=
  ⟨h.size, fun k o hk _ => (h.block k (Array.getElem?_eq_some_iff.1 hk).1).trans hk⟩
/-- The indices that have come when those from k on are done, from the last one down. -/
def dn (n k : Nat) : List (Fin n) := ((List.finRange n).drop k).reverse
theorem dn_all (n : Nat) : dn n 0 = (List.finRange n).reverse := by simp [dn]
theorem dn_none (n : Nat) : dn n n = [] := by simp [dn]
theorem dn_step (n k : Nat) (h : k < n) : dn n k = dn n (k + 1) ++ [⟨k, h⟩] := by
 unfold dn
 rw [List.drop_eq_getElem_cons (by simp; exact h), List.reverse_cons]
 simp
theorem dn_len (n k : Nat) : (dn n k).length = n - k := by simp [dn]
set_option maxRecDepth 100000 in
set_option maxHeartbeats 2000000 in
/-- slices.Backward's closure: 'for i := len(s) - 1; i >= 0; i-- { if !yield(i, s[i]) { return } }'. -/
theorem back1_in (F : Fence) (n : Nat) (h96 : F.fn 96) (hro : F.round = none) (hn : 1 ≤ n) (l B b off len cap : Nat) (zs : List Int) (hlen : len < 2 ^ 40) (J Jx : List (Fin len) → World → Prop)
  (hY : ∀ pre x W, J pre W → pre.length < len → YieldAt F (n - 1) Try.prog l #[.int .i64 (x.val : Int), .int .i64 (zs[x.val]?.getD 0)] W fun e W' =>
   (e = .returned (.bool true) ∧ J (pre ++ [x]) W' ∧ KeepAt [B, b] W W') ∨ (e = .returned (.bool false) ∧ Jx (pre ++ [x]) W'))
  (W : World) (hBs : W.cell? ⟨B, 0, none⟩ = some (.slice (some ⟨b, off, none⟩) len cap)) (hc : ∀ j, j < len → W.cell? ⟨b, off + j, none⟩ = some (.int .i64 (zs[j]?.getD 0))) (h0 : J [] W) :
  CallsIn F n Try.prog 96 #[.func (.yield l) #[] #[], .pointer (some ⟨B, 0, none⟩)] W fun e W' => (∃ v, e = .returned v) ∧
   ((∃ ys, ys = (List.finRange len).reverse ∧ J ys W') ∨ (∃ pre, True ∧ Jx pre W')) := by
 refine callsIn_of_wp Try.func96 rfl h96 ?_ hro
 simp only [Try.ntmps96, List.size_toArray, List.length_cons, List.length_nil, Nat.reduceAdd, Nat.reduceSub, Array.replicate_succ, Array.replicate_zero, List.push_toArray, List.append_toArray, List.nil_append, List.cons_append]
 gi_wp2
 gi_loopw [3] (fun i wr => ∃ k : Nat, k ≤ len ∧ i = .int .i64 ((k : Int) - 1) ∧ J (dn len k) wr ∧ KeepAt [B, b] W wr)
  (fun i _ => (intOf i + 1).toNat)
 case atStart => exact ⟨len, Nat.le_refl _, by first | rfl | simp, by rw [dn_none]; exact h0, KeepAt.refl _ _⟩
 case round =>
  obtain ⟨k, hk, rfl, hJs, hnx⟩ := hrel
  have hBx : wr.cell? ⟨B, 0, none⟩ = some (.slice (some ⟨b, off, none⟩) len cap) := (hnx.cell (by simp)).trans hBs
  cases k with
  | zero =>
   gi_wp2
   go_end0
   exact ⟨⟨_, rfl⟩, .inl ⟨_, rfl, by rw [← dn_all]; exact hJs⟩⟩
  | succ k =>
   have hcx : wr.cell? ⟨b, off + k, none⟩ = some (.int .i64 (zs[k]?.getD 0)) := (hnx.cell (by simp)).trans (hc k (by omega))
   obtain ⟨fn, tmps, assign, body, hy, hR⟩ := hY _ ⟨k, by omega⟩ wr hJs (by rw [dn_len]; omega)
   dsimp only at hy
   have e1 : (((k + 1 : Nat) : Int) - 1) = (k : Int) := by omega
   rw [e1]
   gi_wp2
   refine hR.mono ?_
   rintro e W3 (⟨rfl, hJ3, hk3⟩ | ⟨rfl, hJx3⟩)
   ·gi_wp2
    go_roundw
    case rel => exact ⟨k, by omega, by first | rfl | simp, by rw [dn_step len k (by omega)]; exact hJ3, hnx.trans hk3⟩
    case measure => simp [intOf]
   ·gi_wp2
    refine bodyPost_ret (results_none rfl _ _ _) rfl ?_
    exact ⟨⟨_, rfl⟩, .inr ⟨_, trivial, hJx3⟩⟩
set_option maxHeartbeats 1000000 in
/-- slices.Backward(s): the slice is boxed; the function value captures the box. -/
theorem back_in (F : Fence) (n : Nat) (h : F.fn 73) (hro : F.round = none) (a : Option Addr) (len cap : Nat) (w : World) :
  CallsIn F n Try.prog 73 #[.slice a len cap] w fun e w' => e = .returned (.func (.func 96) #[] #[.pointer (some ⟨w.heap.size, 0, none⟩)]) ∧ w' = w.alloc (.cells #[.slice a len cap] 34) := by
 refine callsIn_of_wp Try.func73 rfl h ?_ hro
 simp only [Try.ntmps73, List.size_toArray, List.length_cons, List.length_nil, Nat.reduceAdd, Nat.reduceSub, Array.replicate_succ, Array.replicate_zero, List.push_toArray, List.append_toArray, List.nil_append, List.cons_append]
 gi_wp2
 go_ret
 exact ⟨rfl, rfl⟩
end Go.Proofs.Ytdpolfflemocaaa.Bk
