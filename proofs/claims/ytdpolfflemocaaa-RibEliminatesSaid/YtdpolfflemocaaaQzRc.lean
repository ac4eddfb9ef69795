/- The declarations of Rc that the claim Qz needs. -/
import Derived.Test.YtdpolfflemocaaaQzT1
import Derived.Test.YtdpolfflemocaaaQzRcl
import Derived.Shelf.SlicesE.IndexFunc
namespace Go.Proofs.Ytdpolfflemocaaa.Own
open Go Go.RowKit Go.Proofs.Ytdpolfflemocaaa.Own Go.Proofs.YtdpolfflemocaaaW.PrintWords Go.Proofs.YtdpolfflemocaaaW.PrintLast Go.Proofs.YtdpolfflemocaaaW.PrintMore
set_option linter.unusedVariables false
set_option linter.unusedSimpArgs false
theorem row_plain {w : World} {A : Option Addr} {l : List Int} (h : Kd.C (Kd.int .i64) w A l.length l) (h0 : 0 < l.length) : ∃ b off, A = some ⟨b, off, none⟩ ∧ ∀ j, j < l.length → w.cell? ⟨b, off + j, none⟩ = some (.int .i64 l[j]!) := by
 obtain ⟨ad, hA, hc⟩ := h.2.2 h0
 have cell : ∀ j, (hj : j < l.length) → w.cell? (ad.add j) = some (.int .i64 l[j]) := by
  intro j hj
  obtain ⟨c, hs, hr, hu⟩ := hc j l[j] (List.getElem?_eq_getElem hj)
  obtain rfl : c = [.int .i64 l[j]] := hr
  have := hu 0 _ rfl
  have e : j * (Kd.int .i64).sz + 0 = j := by show j * 1 + 0 = j; omega
  rw [e] at this
  exact this
 have hsp : ad.spot = none := by
  have h1 := cell 0 h0
  unfold World.cell? at h1
  have e : ad.add 0 = ad := by unfold Addr.add; simp
  rw [e] at h1
  split at h1
  ·cases hs : ad.spot with
   | none => rfl
   | some s => rw [hs] at h1; simp at h1
  ·cases h1
 obtain ⟨b, off, spot⟩ := ad
 dsimp only at hsp
 subst hsp
 refine ⟨b, off, hA, fun j hj => ?_⟩
 have h1 := cell j hj
 have e : (⟨b, off, none⟩ : Addr).add j = ⟨b, off + j, none⟩ := by unfold Addr.add; split <;> simp_all
 rw [e] at h1
 rw [h1]
 simp [hj]
def outB (n : Int) (i : Int) : Bool := decide (i < 0) || decide (n ≤ i)
def rib_out.f (l : List Int) (n : Int) : Option Bool := some (l.any (outB n))
theorem out69 (n : Int) (B : Nat) (w : World) (hB : B < w.heap.size) (hc : w.cell? ⟨B, 0, none⟩ = some (.int .i64 n)) : PredAt Try.prog 69 #[.pointer (some ⟨B, 0, none⟩)] (fun x : Int => .int .i64 x) (outB n) w := by
 intro W x hb
 have hc' := (hb.cell (p := ⟨B, 0, none⟩) hB).trans hc
 unfold FnGives outB
 by_cases h1 : x < 0
 ·have d1 : decide (x < 0) = true := decide_eq_true h1
  rw [d1, Bool.true_or]
  go_enter Try.func69, Try.ntmps69
  go_wp2
  go_ret
  exact ⟨rfl, 0, rfl⟩
 ·have d1 : decide (x < 0) = false := decide_eq_false h1
  rw [d1, Bool.false_or]
  go_enter Try.func69, Try.ntmps69
  go_wp2
  go_ret
  exact ⟨rfl, 0, rfl⟩
theorem rib_out.calls (n : Int) (B : Nat) (A : Option Addr) (c : Nat) (l : List Int) (w : World) (hr : Kd.C (Kd.int .i64) w A l.length l) (hB : B < w.heap.size) (hc : w.cell? ⟨B, 0, none⟩ = some (.int .i64 n)) :
  Calls Try.prog 68 #[.slice A l.length c, .func (.func 69) #[] #[.pointer (some ⟨B, 0, none⟩)]] w fun e w' => e = .returned (.bool (l.any (outB n))) ∧ Drawn0 w w' := by
 by_cases h0 : l.length = 0
 ·obtain rfl : l = [] := List.length_eq_zero_iff.1 h0
  exact (AnyE.slices_ContainsFunc_empty Rib.contL A c _ w).mono fun e w' ⟨he, hw⟩ => ⟨he, ⟨0, hw⟩⟩
 ·obtain ⟨b, off, rfl, hcell⟩ := row_plain hr (by omega)
  have hlen : l.length ≤ 9223372036854775807 := hr.2.1
  have h := AnyE.slices_ContainsFunc Rib.contL (fun x : Int => .int .i64 x) (outB n) 69 #[.pointer (some ⟨B, 0, none⟩)] (enters_of Try.func69 (by kernel_rfl) rfl) b off l.length c l w (out69 n B w hB hc) (Nat.le_refl _) hlen hcell
  rw [List.take_of_length_le (Nat.le_refl _)] at h
  exact h.mono fun e w' ⟨he, q, hw⟩ => ⟨he, ⟨q, hw⟩⟩
theorem rib_out.call2 (n : Int) (B : Nat) (A : Option Addr) (c : Nat) (l : List Int) (r : Bool) (w : World) (hr : Kd.C (Kd.int .i64) w A l.length l) (hB : B < w.heap.size) (hc : w.cell? ⟨B, 0, none⟩ = some (.int .i64 n)) (h : rib_out.f l n = some r) :
  Calls Try.prog 68 #[.slice A l.length c, .func (.func 69) #[] #[.pointer (some ⟨B, 0, none⟩)]] w fun e w' => e = .returned (.bool r) ∧ Drawn0 w w' := by
 obtain rfl := Option.some.inj h
 exact rib_out.calls n B A c l w hr hB hc
end Go.Proofs.Ytdpolfflemocaaa.Own
