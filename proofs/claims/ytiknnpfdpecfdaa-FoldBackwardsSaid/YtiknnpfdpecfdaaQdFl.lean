/- The declarations of Fl that the claim Qd needs. -/
import Derived.Shelf.SlicesE.IndexFunc
import Derived.Shelf.SlicesE.Clone
import Derived.Shelf.SlicesE.Delete
import Derived.Ground.SlgfProg
import Derived.Shelf.SlGeneric
import Derived.Test.YtiknnpfdpecfdaaQdFo0
namespace Go.Proofs
open Go.Shelf
def Fold.contL_ren : Go.Shelf.Ren := ⟨fun | 8 => 69 | 6 => 83 | n => n, fun | 22 => 22 | 23 => 3 | 25 => 94 | 4 => 4 | 3 => 3 | 0 => 0 | n => n, fun | n => n⟩
theorem Fold.contL : Go.Proofs.SlLaysH.n8 Try.prog Fold.contL_ren := {
 mixed := by kernel_rfl
 f6 := ⟨Try.f83.name, by decide, Try.func83.trans (congrArg some (by kernel_rfl))⟩
 f8 := ⟨Try.f69.name, by decide, Try.func69.trans (congrArg some (by kernel_rfl))⟩
 t0 := Try.underlying0
 a0 := Try.isAgg0
 z0 := Try.sizeOf0
 v0 := Try.zeroValue0
 t3 := Try.underlying3
 a3 := Try.isAgg3
 z3 := Try.sizeOf3
 v3 := Try.zeroValue3
 t4 := Try.underlying4
 a4 := Try.isAgg4
 z4 := Try.sizeOf4
 v4 := Try.zeroValue4
 t22 := Try.underlying22
 a22 := Try.isAgg22
 z22 := Try.sizeOf22
 v22 := Try.zeroValue22
 a23 := Try.isAgg3
 z23 := Try.sizeOf3
 t25 := Try.underlying94
 a25 := Try.isAgg94
 z25 := Try.sizeOf94
 v25 := Try.zeroValue94 }
def Fold.cloneL_ren : Go.Shelf.Ren := ⟨fun | 41 => 51 | n => n, fun | 22 => 22 | 23 => 3 | 4 => 4 | n => n, fun | n => n⟩
theorem Fold.cloneL : Go.Proofs.SlLaysE0.n41 Try.prog Fold.cloneL_ren := {
 mixed := by kernel_rfl
 f41 := ⟨Try.f51.name, by decide, Try.func51.trans (congrArg some (by kernel_rfl))⟩
 t4 := Try.underlying4
 a4 := Try.isAgg4
 z4 := Try.sizeOf4
 v4 := Try.zeroValue4
 t22 := Try.underlying22
 a22 := Try.isAgg22
 z22 := Try.sizeOf22
 v22 := Try.zeroValue22 }
def Fold.delL_ren : Go.Shelf.Ren := ⟨fun | 45 => 90 | n => n, fun | 22 => 22 | 23 => 3 | 4 => 4 | 3 => 3 | 0 => 0 | n => n, fun | n => n⟩
theorem Fold.delL : Go.Proofs.SlLaysE.n45 Try.prog Fold.delL_ren := {
 mixed := by kernel_rfl
 f45 := ⟨Try.f90.name, by decide, Try.func90.trans (congrArg some (by kernel_rfl))⟩
 t0 := Try.underlying0
 a0 := Try.isAgg0
 z0 := Try.sizeOf0
 v0 := Try.zeroValue0
 t3 := Try.underlying3
 a3 := Try.isAgg3
 z3 := Try.sizeOf3
 v3 := Try.zeroValue3
 t4 := Try.underlying4
 a4 := Try.isAgg4
 z4 := Try.sizeOf4
 v4 := Try.zeroValue4
 t22 := Try.underlying22
 a22 := Try.isAgg22
 z22 := Try.sizeOf22
 v22 := Try.zeroValue22
 a23 := Try.isAgg3
 z23 := Try.sizeOf3 }
end Go.Proofs
namespace Go.Proofs.Ytiknnpfdpecfdaa.Own
open Go Go.RowKit Go.Proofs Go.Proofs.YtiknnpfdpecfdaaW.PrintWords Go.Proofs.YtiknnpfdpecfdaaW.PrintLast Go.Proofs.YtiknnpfdpecfdaaW.PrintMore
set_option linter.unusedVariables false
set_option linter.unusedSimpArgs false
theorem row_plain {w : World} {A : Option Addr} {l : List Int} (h : Kd.C (Kd.int .i64) w A l.length l) (h0 : 0 < l.length) : ∃ b off, A = some ⟨b, off, none⟩ ∧ ∀ j, j < l.length → w.cell? ⟨b, off + j, none⟩ = some (.int .i64 l[j]!) := by
 obtain ⟨ad, hA, hc⟩ := h.2.2 h0
 have cell : ∀ j, (hj : j < l.length) → w.cell? (ad.add j) = some (.int .i64 l[j]) := by
  intro j hj
  obtain ⟨c, hs, hr, hu⟩ := hc j l[j] (List.getElem?_eq_getElem hj)
  obtain rfl : c = [.int .i64 l[j]] := hr
  have := hu 0 _ rfl
  have e : j * (Kd.int .i64).sz + 0 = j := by show j * 1 + 0 = j; omega
  rw [e] at this
  exact this
 have hsp : ad.spot = none := by
  have h1 := cell 0 h0
  unfold World.cell? at h1
  have e : ad.add 0 = ad := by unfold Addr.add; simp
  rw [e] at h1
  split at h1
  ·cases hs : ad.spot with
   | none => rfl
   | some s => rw [hs] at h1; simp at h1
  ·cases h1
 obtain ⟨b, off, spot⟩ := ad
 dsimp only at hsp
 subst hsp
 refine ⟨b, off, hA, fun j hj => ?_⟩
 have h1 := cell j hj
 have e : (⟨b, off, none⟩ : Addr).add j = ⟨b, off + j, none⟩ := by unfold Addr.add; split <;> simp_all
 rw [e] at h1
 rw [h1]
 simp [hj]
def fold_Clone.f (l : List Int) : Option (List Int) := if l.length < 17592186044416 then some l else none
theorem fold_Clone.calls (A0 : Option Addr) (c0 : Nat) (l0 : List Int) (r : List Int) (w : World) (hr0 : Kd.C (Kd.int .i64) w A0 l0.length l0) (hc0 : l0.length ≤ c0) (h : fold_Clone.f l0 = some r) :
  Calls Try.prog 51 #[.slice A0 l0.length c0] w fun e w' => ∃ v0_ : Value, e = .returned (v0_) ∧ Kd.R (Kd.int .i64) 3 w' w.heap.size (fun _ => True) v0_ r ∧ Below w.heap.size w w' := by
 unfold fold_Clone.f at h
 split at h
 ·rename_i hlen
  obtain rfl := Option.some.inj h
  by_cases h0 : l0.length = 0
  ·obtain rfl : l0 = [] := List.length_eq_zero_iff.1 h0
   cases A0 with
   | none => exact (AnyE.slices_Clone_nil Fold.cloneL 0 c0 w).mono fun e w' ⟨he, hw⟩ => ⟨_, he, Kd.R_nil _ _ _ _ _, hw ▸ Below.refl _ _⟩
   | some ad =>
    obtain ⟨i0, hi, hzz⟩ := Option.map_eq_some_iff.1 info3
    simp only [Prod.mk.injEq] at hzz
    obtain ⟨hz0, hz1, hz2⟩ := hzz
    have q22 : ∀ (w : World) (a : Option Addr) (n c n' c' : Nat), (binOp .eql 22 (.slice a n c) (.slice none n' c')).run Try.prog w = .ok (.bool a.isNone) w := fun w a n c n' c' => Lib.run_eql_slice_nil w _ _ a n c n' c' Try.underlying22
    go_enter Try.func51, Try.ntmps51
    go_wp2_with (at_builtin; refine wpList_append_own _ rfl _ _ 22 rfl w.heap.size 3 i0 (.int .i64 0) 1 8 Try.underlying22 hi hz0 hz1 hz2 rfl (by decide) _ _ _ rfl (World.ownsRow_made w #[] 0 (Nat.le_refl _) (Nat.zero_le _) (by simp)) ad 0 c0 [] rfl ?qc1 ?qc2 ?qc3 ?qc4 ?qc5 ?qc6 ?_)
    intro v' w1 hown hgrow hnil
    go_wp2
    go_ret
    exact ⟨v', rfl, Kd.R_of_own (by simpa [encs] using hown) (fun _ _ => trivial), ((Below.refl _ w).alloc (Nat.le_refl _) _).grown hgrow (by simp) (by intro k hk; simp [Value.ownBlock] at hk; omega)⟩
  ·obtain ⟨b, off, rfl, hcell⟩ := row_plain hr0 (by omega)
   obtain ⟨i0, hi, hzz⟩ := Option.map_eq_some_iff.1 info3
   simp only [Prod.mk.injEq] at hzz
   obtain ⟨hz0, hz1, hz2⟩ := hzz
   have h := AnyE.slices_Clone Fold.cloneL i0 (.int .i64 0) 1 8 hi hz0 hz1 hz2 rfl (by decide) Try.sizeOf3 b off l0.length c0 (encs (Value.int .i64) l0) w (by simp [encs]) (by simp only [maxLen]; omega) (by omega)
    (by
     intro j u hj
     have hjl : j < l0.length := by
      have := (List.getElem?_eq_some_iff.1 hj).1
      simpa [encs] using this
     rw [hcell j hjl]
     simp only [encs, List.getElem?_map, List.getElem?_eq_getElem hjl] at hj
     rw [getElem!_pos l0 j hjl]
     exact hj)
    (by
     intro u hu
     obtain ⟨x, _, rfl⟩ := List.mem_map.1 hu
     rfl)
   refine h.mono fun e w' ⟨v', he, ho, hn, hb⟩ => ⟨v', he, Kd.R_of_own (show w'.ownsRow w.heap.size 3 1 v' l0.length _ from ho) (fun _ _ => trivial), hb⟩
 ·cases h
theorem heap_cells {W : World} {g : Nat} {cs : Array Value} {e : TypeId} (h : W.heap[g]? = some (.cells cs e (0, 0))) (j : Nat) (hj : j < cs.size) : W.cell? ⟨g, j, none⟩ = some cs[j] ∧ W.frozen? ⟨g, j, none⟩ = false := by
 constructor
 ·unfold World.cell?
  rw [show ({ block := g, off := j, spot := none } : Addr).block = g from rfl, h]
  simp [hj]
 ·unfold World.frozen?
  rw [show ({ block := g, off := j, spot := none } : Addr).block = g from rfl, h]
  simp
open Go.Sort in
theorem del90 (g cap i : Nat) (xs : List Int) (base : Nat) (w : World) (hr : Kd.R (Kd.int .i64) 3 w base (fun _ => True) (.slice (some ⟨g, 0, none⟩) xs.length cap) xs) (hi : i < xs.length) :
  Calls Try.prog 90 #[.slice (some ⟨g, 0, none⟩) xs.length cap, .int .i64 (i : Int), .int .i64 ((i + 1 : Nat) : Int)] w fun e w' => e = .returned (.slice (some ⟨g, 0, none⟩) (xs.eraseIdx i).length cap) ∧ Kd.R (Kd.int .i64) 3 w' base (fun _ => True) (.slice (some ⟨g, 0, none⟩) (xs.eraseIdx i).length cap) (xs.eraseIdx i) ∧ w.grownBy w' (some g) := by
 have ho := Kd.own_of_R hr
 obtain ⟨hlen, hform⟩ := ho
 rcases hform with ⟨hv, h0⟩ | ⟨g', cap', cur, hv, hb, hh, hnc, hcm, hcs, htk⟩
 ·simp at hv
 ·injection hv with e1 e2 e3
  injection e1 with e4
  injection e4 with e5
  subst e5
  subst e3
  obtain ⟨i0, hinf, hzz⟩ := Option.map_eq_some_iff.1 info3
  simp only [Prod.mk.injEq] at hzz
  obtain ⟨hz0, hz1, hz2⟩ := hzz
  have hcur : ∀ j, j < xs.length → ∃ h : j < cur.size, cur[j] = .int .i64 xs[j]! := by
   intro j hj
   have hjc : j < cur.size := by omega
   refine ⟨hjc, ?_⟩
   have h1 : (cur.toList.take (xs.length * 1))[j]? = (encs (Value.int .i64) xs)[j]? := by rw [htk]
   rw [Nat.mul_one, List.getElem?_take_of_lt hj] at h1
   simp only [encs, List.getElem?_map, List.getElem?_eq_getElem hj, Array.getElem?_toList, Array.getElem?_eq_getElem hjc, Option.map_some, Option.some.injEq] at h1
   rw [h1, getElem!_pos xs j hj]
  have hH : Holds (Value.int .i64) w g 0 xs.toArray := by
   intro j hj
   have hj' : j < xs.length := by simpa using hj
   obtain ⟨hjc, hce⟩ := hcur j hj'
   obtain ⟨h1, h2⟩ := heap_cells hh j hjc
   rw [Nat.zero_add]
   refine ⟨?_, h2⟩
   rw [h1, hce]
   simp
  have h := AnyE.slices_Delete Fold.delL (Value.int .i64) (fun _ => rfl) 0 Try.zeroValue3 i0 hinf hz1 g 0 cap i (i + 1) xs.toArray w hH (by simpa using hnc) (by simpa [maxLen] using hcm) (by omega) (by simp; omega)
  simp only [List.size_toArray] at h
  refine h.mono ?_
  rintro e w' ⟨he, q, hw⟩
  have hel : (xs.eraseIdx i).length = xs.length - 1 := by rw [List.length_eraseIdx, if_pos hi]
  have hes : xs.eraseIdx i = xs.take i ++ xs.drop (i + 1) := List.eraseIdx_eq_take_drop_succ xs i
  obtain ⟨D, hD⟩ : ∃ D, D = (xs.take i ++ xs.drop (i + 1) ++ List.replicate (i + 1 - i) (0 : Int)).toArray := ⟨_, rfl⟩
  have hDs : D.size = xs.length := by rw [hD]; simp; omega
  rw [← hD] at hw
  have hDj : ∀ j, j < (xs.eraseIdx i).length → D[j]! = (xs.eraseIdx i)[j]! := by
   intro j hj
   have hj2 : j < D.size := by omega
   rw [getElem!_pos D j hj2, getElem!_pos _ j hj]
   simp only [hD, List.getElem_toArray, hes]
   rw [List.getElem_append_left]
  have hgl : g < w.heap.size := (Array.getElem?_eq_some_iff.1 hh).1
  have hh' : w'.heap[g]? = some (.cells (putCells (Value.int .i64) 0 D cur) 3 (0, 0)) := by
   rw [hw]
   show ((Sort.ahead w q).heap.modify g _)[g]? = _
   rw [Array.getElem?_modify, if_pos rfl, show (Sort.ahead w q).heap = w.heap from rfl, hh]
   rfl
  have hps : (putCells (Value.int .i64) 0 D cur).size = cur.size := by simp [putCells]
  refine ⟨by rw [he, hel, show xs.length - (i + 1 - i) = xs.length - 1 by omega], Kd.R_of_own ⟨by simp [encs], Or.inr ⟨g, cap, _, rfl, hb, hh', by omega, hcm, by rw [hps]; exact hcs, ?_⟩⟩ (fun _ _ => trivial), ⟨by rw [hw]; rfl, by rw [hw]; rfl, by rw [hw]; rfl, ?_, fun k hk hne => ?_⟩⟩
  ·apply List.ext_getElem
   ·simp [encs, hps]
    omega
   ·intro j h1 h2
    have hj : j < (xs.eraseIdx i).length := by simpa [encs] using h2
    have hjc : j < cur.size := by omega
    simp only [List.getElem_take, Array.getElem_toList, putCells, Array.getElem_mapIdx, encs, List.getElem_map]
    rw [if_pos (by omega), Nat.sub_zero, hDj j hj, getElem!_pos _ j hj]
  ·rw [hw]
   show _ ≤ ((Sort.ahead w q).heap.modify g _).size
   rw [Array.size_modify]
   exact Nat.le_refl _
  ·rw [hw]
   show ((Sort.ahead w q).heap.modify g _)[k]? = _
   rw [Array.getElem?_modify, if_neg (fun e => hne (by rw [e]))]
   rfl
def outS (n : Int) : Bool := decide (n < 1) || decide (1000 < n)
theorem out70 (w : World) : PredAt Try.prog 70 #[] (fun x : Int => .int .i64 x) outS w := by
 intro W x hb
 unfold FnGives outS
 by_cases h1 : x < 1
 ·rw [decide_eq_true h1, Bool.true_or]
  go_enter Try.func70, Try.ntmps70
  go_wp2
  go_ret
  exact ⟨rfl, 0, rfl⟩
 ·rw [decide_eq_false h1, Bool.false_or]
  go_enter Try.func70, Try.ntmps70
  go_wp2
  go_ret
  exact ⟨rfl, 0, rfl⟩
theorem outs69 (A : Option Addr) (c : Nat) (l : List Int) (w : World) (hr : Kd.C (Kd.int .i64) w A l.length l) :
  Calls Try.prog 69 #[.slice A l.length c, .func (.func 70) #[] #[]] w fun e w' => e = .returned (.bool (l.any outS)) ∧ Drawn0 w w' := by
 by_cases h0 : l.length = 0
 ·obtain rfl : l = [] := List.length_eq_zero_iff.1 h0
  exact (AnyE.slices_ContainsFunc_empty Fold.contL A c _ w).mono fun e w' ⟨he, hw⟩ => ⟨he, ⟨0, hw⟩⟩
 ·obtain ⟨b, off, rfl, hcell⟩ := row_plain hr (by omega)
  have hlen : l.length ≤ 9223372036854775807 := hr.2.1
  have h := AnyE.slices_ContainsFunc Fold.contL (fun x : Int => .int .i64 x) outS 70 #[] (enters_of Try.func70 (by kernel_rfl) rfl) b off l.length c l w (out70 w) (Nat.le_refl _) hlen hcell
  rw [List.take_of_length_le (Nat.le_refl _)] at h
  exact h.mono fun e w' ⟨he, q, hw⟩ => ⟨he, ⟨q, hw⟩⟩
def fold_sizes.f (l : List Int) (a b : Int) : Option Bool := some (decide ((l.length : Int) ≥ a) && decide ((l.length : Int) ≤ b) && !(l.any outS))
theorem fold_sizes.calls (A0 : Option Addr) (c0 : Nat) (l0 : List Int) (a1 : Int) (a2 : Int) (r : Bool) (w : World) (hr0 : Kd.C (Kd.int .i64) w A0 l0.length l0) (hc0 : l0.length ≤ c0) (h : fold_sizes.f l0 a1 a2 = some r) :
  Calls Try.prog 47 #[.slice A0 l0.length c0, .int .i64 a1, .int .i64 a2] w fun e w' => e = .returned (.bool r) ∧ Drawn0 w w' := by
 obtain rfl := Option.some.inj h
 by_cases h1 : (l0.length : Int) ≥ a1
 ·by_cases h2 : (l0.length : Int) ≤ a2
  ·rw [decide_eq_true h1, decide_eq_true h2, Bool.true_and, Bool.true_and]
   go_enter Try.func47, Try.ntmps47
   go_wp2_with (go_at_call 69; refine (outs69 _ _ l0 _ hr0).mono ?_; rintro e w' ⟨rfl, ⟨nd, rfl⟩⟩)
   go_ret
   exact ⟨rfl, ⟨_, rfl⟩⟩
  ·rw [decide_eq_true h1, decide_eq_false h2, Bool.true_and, Bool.false_and]
   go_enter Try.func47, Try.ntmps47
   go_wp2
   go_ret
   exact ⟨rfl, ⟨0, rfl⟩⟩
 ·rw [decide_eq_false h1, Bool.false_and, Bool.false_and]
  go_enter Try.func47, Try.ntmps47
  go_wp2
  go_ret
  exact ⟨rfl, ⟨0, rfl⟩⟩
end Go.Proofs.Ytiknnpfdpecfdaa.Own
