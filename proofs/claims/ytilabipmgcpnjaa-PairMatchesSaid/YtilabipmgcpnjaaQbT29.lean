/- The declarations of T29 that the claim Qb needs. -/
import Derived.Test.YtilabipmgcpnjaaQbTA
import Derived.Deep.Matrix
import Derived.ChangeOld
import Derived.ProofKit
import Derived.OpenShut
namespace Go.Proofs.Ytilabipmgcpnjaa.Own
open Go.ChangeShapes Go.WideShapes Go.ChangeAt
open Go.RowKit Go.Proofs.YtilabipmgcpnjaaW.PrintWords Go.Proofs.YtilabipmgcpnjaaW.PrintLast Go.Proofs.YtilabipmgcpnjaaW.PrintMore
set_option linter.unusedVariables false
set_option linter.unusedSimpArgs false
theorem rows_read {H : Type} {enc : TypeId × Value → H} {W : World} {a : Option Addr} {len cap fuel : Nat} {x : DataW H × List MemPlace} (hf : DataW.trod enc Try.prog W 0 (fun _ => true) true fuel 22 (Value.slice a len cap).cells.toList = some x) :
    ∃ zs : List (List Int), zs.length = len ∧ len ≤ cap ∧ Kd.C (Kd.slice 3 (Kd.int .i64)) W a len zs ∧ ∀ z ∈ zs, ∀ n ∈ z, (Lit.int .i64 n).wf = true := by
  rcases Go.Deep.open_int_rows Try.underlying22 Try.underlying24 Try.underlying3 (by kernel_rfl) (by kernel_rfl) hf with ⟨hcs, _⟩ | ⟨ad, len', cap', A, L, C, Z, hcs, _, hl, hm, _, hcell⟩
  · simp [Value.cells] at hcs
    obtain ⟨rfl, rfl, rfl⟩ := hcs
    exact ⟨[], rfl, Nat.le_refl _, ⟨rfl, by omega, fun h => absurd h (by omega)⟩, fun z hz => by cases hz⟩
  · simp [Value.cells] at hcs
    obtain ⟨rfl, rfl, rfl⟩ := hcs
    have hm' : cap ≤ 9223372036854775807 := by simpa [maxLen] using hm
    refine ⟨(List.range len).map fun r => (Z r).take (L r), by simp, hl, ⟨by simp, by omega, fun _ => ⟨ad, rfl, fun j p hj => ?_⟩⟩, fun z hz n hn => ?_⟩
    · have hjl : j < len := by
        have := (List.getElem?_eq_some_iff.1 hj).1
        simpa using this
      rw [List.getElem?_map, List.getElem?_range hjl] at hj
      injection hj with hj
      subst hj
      obtain ⟨h1, h2, h3, h4, h5, h6, h7⟩ := hcell j (by omega)
      have hlen : ((Z j).take (L j)).length = L j := by rw [List.length_take]; omega
      refine ⟨[.slice (A j) (L j) (C j)], rfl, ⟨A j, C j, by rw [hlen], by rw [hlen]; exact h2, ?_⟩, fun i u hi => ?_⟩
      · rw [hlen]
        refine ⟨hlen, by have h3' : C j ≤ 9223372036854775807 := by simpa [maxLen] using h3
                         omega, fun hpos => ?_⟩
        rcases hA : A j with _ | a'
        · have := h6 hA; omega
        · obtain ⟨_, hc⟩ := h7 a' hA
          refine ⟨a', rfl, fun c p hp => ?_⟩
          have hcl : c < L j := by
            have := (List.getElem?_eq_some_iff.1 hp).1
            rw [hlen] at this
            exact this
          refine ⟨[.int .i64 p], rfl, rfl, fun i u hi => ?_⟩
          have hi0 : i = 0 := by
            have := (List.getElem?_eq_some_iff.1 hi).1
            simp at this
            exact this
          subst hi0
          simp at hi
          subst hi
          have e := hc c (by omega)
          have hp2 : (Z j).getD c 0 = p := by
            rw [List.getElem?_take_of_lt hcl] at hp
            rw [List.getD_eq_getElem?_getD, hp]; rfl
          rw [hp2] at e
          have : c * (Kd.int .i64).sz + 0 = c := by show c * 1 + 0 = c; omega
          rw [this]
          exact e
      · have hi0 : i = 0 := by
          have := (List.getElem?_eq_some_iff.1 hi).1
          simp at this
          exact this
        subst hi0
        simp at hi
        subst hi
        have : j * (Kd.slice 3 (Kd.int .i64)).sz + 0 = j := by show j * 1 + 0 = j; omega
        rw [this]
        exact h1
    · rw [List.mem_map] at hz
      obtain ⟨r, hr, rfl⟩ := hz
      exact (hcell r (by have := List.mem_range.1 hr; omega)).2.2.2.2.1 n (List.mem_of_mem_take hn)
end Go.Proofs.Ytilabipmgcpnjaa.Own
