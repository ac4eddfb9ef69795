/- The declarations of Rc that the claim Qc needs. -/
import Derived.Test.YtdpolfflemocaaaQcT1
import Derived.Test.YtdpolfflemocaaaQcRcl
import Derived.Shelf.SlicesE.IndexFunc
namespace Go.Proofs.Ytdpolfflemocaaa.Own
open Go Go.RowKit Go.Proofs.Ytdpolfflemocaaa.Own Go.Proofs.YtdpolfflemocaaaW.PrintWords Go.Proofs.YtdpolfflemocaaaW.PrintLast Go.Proofs.YtdpolfflemocaaaW.PrintMore
set_option linter.unusedVariables false
set_option linter.unusedSimpArgs false
theorem row_plain {w : World} {A : Option Addr} {l : List Int} (h : Kd.C (Kd.int .i64) w A l.length l) (h0 : 0 < l.length) : ∃ b off, A = some ⟨b, off, none⟩ ∧ ∀ j, j < l.length → w.cell? ⟨b, off + j, none⟩ = some (.int .i64 l[j]!) := by
 obtain ⟨ad, hA, hc⟩ := h.2.2 h0
 have cell : ∀ j, (hj : j < l.length) → w.cell? (ad.add j) = some (.int .i64 l[j]) := by
  intro j hj
  obtain ⟨c, hs, hr, hu⟩ := hc j l[j] (List.getElem?_eq_getElem hj)
  obtain rfl : c = [.int .i64 l[j]] := hr
  have := hu 0 _ rfl
  have e : j * (Kd.int .i64).sz + 0 = j := by show j * 1 + 0 = j; omega
  rw [e] at this
  exact this
 have hsp : ad.spot = none := by
  have h1 := cell 0 h0
  unfold World.cell? at h1
  have e : ad.add 0 = ad := by unfold Addr.add; simp
  rw [e] at h1
  split at h1
  ·cases hs : ad.spot with
   | none => rfl
   | some s => rw [hs] at h1; simp at h1
  ·cases h1
 obtain ⟨b, off, spot⟩ := ad
 dsimp only at hsp
 subst hsp
 refine ⟨b, off, hA, fun j hj => ?_⟩
 have h1 := cell j hj
 have e : (⟨b, off, none⟩ : Addr).add j = ⟨b, off + j, none⟩ := by unfold Addr.add; split <;> simp_all
 rw [e] at h1
 rw [h1]
 simp [hj]
end Go.Proofs.Ytdpolfflemocaaa.Own
