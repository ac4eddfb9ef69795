/- The declarations of Rt that the claim Qc needs. -/
import Derived.Test.YtdpolfflemocaaaQcRs
import Derived.Test.YtdpolfflemocaaaQcRk
import Derived.Test.YtdpolfflemocaaaQcT0
import Derived.Test.YtdpolfflemocaaaQcT1
namespace Go.Proofs.Ytdpolfflemocaaa.Own
open Go Go.Shelf Go.Lib Go.Sort Go.RowKit Go.Proofs.YtdpolfflemocaaaW.PrintWords Go.Proofs.YtdpolfflemocaaaW.PrintLast Go.Proofs.YtdpolfflemocaaaW.PrintMore
abbrev S32 := { n : Nat // n < 4294967296 }
instance : Inhabited S32 := ⟨⟨0, by decide⟩⟩
def encS (a : S32) : Value := .int .u32 (a.1 : Int)
def cfS (a b : S32) : Int := cmpL (nodes (a.1 : Int)) (nodes (b.1 : Int))
def leS (x y : Int) : Bool := !decide (cmpL (nodes y) (nodes x) < 0)
def sortS (ws : List Int) : List Int := ws.mergeSort leS
theorem ltS (x y : S32) : ltOf cfS x y = decide (cmpL (nodes (x.1 : Int)) (nodes (y.1 : Int)) < 0) := rfl
theorem swoS : SWO (ltOf cfS) where
 irrefl x := by rw [ltS, cmpL_self]; rfl
 trans x y z h1 h2 := by
  rw [ltS] at *
  simp only [decide_eq_true_eq] at *
  exact (cmpL_trans _ _ _ (by omega) (by omega)).2 (.inl h1)
 ntrans x y z h1 h2 := by
  rw [ltS] at *
  simp only [decide_eq_false_iff_not] at *
  have e1 := cmpL_anti (nodes (x.1 : Int)) (nodes (y.1 : Int))
  have e2 := cmpL_anti (nodes (y.1 : Int)) (nodes (z.1 : Int))
  have e3 := cmpL_anti (nodes (x.1 : Int)) (nodes (z.1 : Int))
  have h := (cmpL_trans (nodes (z.1 : Int)) (nodes (y.1 : Int)) (nodes (x.1 : Int)) (by omega) (by omega)).1
  omega
theorem totS (x y : S32) (h1 : ltOf cfS x y = false) (h2 : ltOf cfS y x = false) : x = y := by
 rw [ltS] at *
 simp only [decide_eq_false_iff_not] at *
 have e1 := cmpL_anti (nodes (x.1 : Int)) (nodes (y.1 : Int))
 exact Subtype.ext (nodes_inj _ _ x.2 y.2 (cmpL_zero _ _ (by omega)))
theorem lays90 (blk off size : Nat) (w : World) : CmpLays1 Try.prog 90 #[] encS cfS blk off size w := by
 intro m os dk _ x y
 have hl : (nodes (x.1 : Int)).length ≤ 32 := nodesFrom_len _ 32
 exact (rib_cmp.calls 40 40 40 _ _ _ _ _ _ (list_f _ 40 (by omega)) (list_f _ 40 (by omega)) (compare_f _ _ (by omega) 40 (by omega))).mono fun e w' ⟨he, q, os', hw⟩ => ⟨he, q, os', hw⟩
theorem to_S32 : ∀ (ws : List Int), (∀ x ∈ ws, 0 ≤ x ∧ x < 4294967296) → ∃ ss : List S32, ws = ss.map fun a => (a.1 : Int)
 | [], _ => ⟨[], rfl⟩
 | x :: ws, h => by
  obtain ⟨ss, rfl⟩ := to_S32 ws fun y hy => h y (List.mem_cons_of_mem _ hy)
  have hx := h x (List.mem_cons_self ..)
  exact ⟨⟨x.toNat, by omega⟩ :: ss, by simp [Int.toNat_of_nonneg hx.1]⟩
set_option maxHeartbeats 4000000 in
theorem rib_sort.calls (ws : List Int) (hr : ∀ x ∈ ws, 0 ≤ x ∧ x < 4294967296) (hlen : ws.length < 4611686018427387904) (v : Value) (W w0 : World) (base : Nat) (ok : Nat → Prop) (HO : (Kd.int .u32).R 86 W base ok v ws) (HB : Below base w0 W) :
  Calls Try.prog 89 #[v, .func (.func 90) #[] #[]] W fun e w' => e = .returned (.tuple #[]) ∧ (Kd.int .u32).R 86 w' base ok v (sortS ws) ∧ Below base w0 w' := by
 obtain ⟨ss, rfl⟩ := to_S32 ws hr
 have hown := Kd.own_of_R HO
 rcases hown.2 with ⟨rfl, h0⟩ | ⟨g, cap, cur, rfl, hbg, hg, hnc, hcm, hcs, htake⟩
 ·have hn : ss = [] := by simpa using h0
  subst hn
  have hS := AnyF.slices_SortFunc_none (P := Try.prog) (ρ := Rib.sortL_ren) { Rib.sortL with } none 0 (.func (.func 90) #[] #[]) W
  exact hS.mono fun e w' ⟨he, hw⟩ => by
   subst hw
   exact ⟨he, by simpa [sortS] using HO, HB⟩
 ·have eg : ∀ args w, (callFunc 90 args).run Try.prog w = .ok (.enter 90 args) w := enters_of Try.func90 (by kernel_rfl) rfl
  have hH : Holds encS W g 0 ss.toArray := sorted_holds hg (by have h := htake; simp only [encs, List.map_map, List.length_map, Nat.mul_one] at h; exact h)
  have hgs : g < W.heap.size := (Array.getElem?_eq_some_iff.1 hg).1
  have hS := Any.slices_SortFunc_total Rib.sortL encS (fun _ => rfl) cfS swoS 90 #[] g 0 cap ss.toArray W eg (lays90 g 0 _ W) hH hgs (by simpa using hlen) totS
  have hm : (ss.mergeSort fun x y => !(ltOf cfS) y x).map (fun a => (a.1 : Int)) = sortS (ss.map fun a => (a.1 : Int)) := List.map_mergeSort fun a _ b _ => rfl
  have hml : (ss.mergeSort fun x y => !(ltOf cfS) y x).length = ss.length := List.length_mergeSort ss
  change Calls Try.prog 89 _ _ _ at hS
  simp only [List.size_toArray] at hS
  simp only [List.length_map]
  refine hS.mono fun e w' ⟨he, n, os, hw⟩ => ⟨he, ?_, ?_⟩
  ·subst hw
   refine Kd.R_of_own ?_ HO.1
   rw [← hm, List.length_map, hml]
   refine ⟨by simp [encs, hml], .inr ⟨g, cap, _, rfl, hbg, sorted_heap _ hg, by simpa using hnc, hcm, by simp [putCells, hcs], ?_⟩⟩
   rw [Nat.mul_one, ← hml, sorted_take cur _ (by rw [hml]; have := hcs; simp only [List.length_map] at hnc; omega)]
   simp [encs, encS]
  ·subst hw
   have hg2 := sorted_grown (enc := encS) (w := W) (g := g) (n := n) (os := os) ((ss.mergeSort fun x y => !(ltOf cfS) y x).toArray)
   exact ⟨hg2.os.trans HB.os, hg2.tape.trans HB.tape, hg2.output.trans HB.output, Nat.le_trans HB.size hg2.size, fun k hk => (hg2.block k (by omega) (by intro e; injection e with e; omega)).trans (HB.block k hk)⟩
end Go.Proofs.Ytdpolfflemocaaa.Own
