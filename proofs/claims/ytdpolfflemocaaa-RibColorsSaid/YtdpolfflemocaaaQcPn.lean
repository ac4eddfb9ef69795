/- The declarations of Pn that the claim Qc needs. -/
import Derived.Test.YtdpolfflemocaaaRows
import Derived.Test.YtdpolfflemocaaaQcOwx0
import Derived.WalkKit
import Derived.ProofKit
import Derived.OpenShut
import Derived.ChangeOld
import Derived.Below
import Derived.Deep.Matrix
namespace Go.Proofs.Ytdpolfflemocaaa.Own
open Go.ChangeShapes Go.WideShapes Go.ChangeAt Go.RowKit Go.Proofs.YtdpolfflemocaaaW.PrintWords Go.Proofs.YtdpolfflemocaaaW.PrintLast Go.Proofs.YtdpolfflemocaaaW.PrintMore
set_option linter.unusedVariables false
set_option linter.unusedSimpArgs false
/-- A slice of structs of two ints. -/
theorem pairs_read {H : Type} {enc : TypeId × Value → H} {W : World} {t u fuel : Nat} {fa fb : Field} {a0 : Option Addr} {l0 c0 : Nat} {x : DataW H × List MemPlace} (ht : Try.prog.underlying t = some (.slice u)) (hu : Try.prog.underlying u = some (.struct #[fa, fb]))
    (h2 : Try.prog.cellsOf u = 2) (ha : fa.type = 3) (hb : fb.type = 3) (oa : fa.offset = 0) (ob : fb.offset = 1) (hf : DataW.trod enc Try.prog W 0 (fun _ => true) true fuel t (Value.slice a0 l0 c0).cells.toList = some x) :
    ∃ zs : List S52, zs.length = l0 ∧ l0 ≤ c0 ∧ Kd.C k52 W a0 l0 zs := by
  have e3 : Try.prog.cellsOf 3 = 1 := by kernel_rfl
  rcases Go.Deep.open_slice ht hf with ⟨hcs, _⟩ | ⟨a, len, cap, m, n, D, Pl, hcs, _, hl, hm, hmm, _, hx⟩
  · simp [Value.cells] at hcs
    obtain ⟨rfl, rfl, rfl⟩ := hcs
    exact ⟨[], rfl, Nat.le_refl _, ⟨rfl, by omega, fun h => absurd h (by omega)⟩⟩
  · simp only [if_true] at hmm
    subst hmm
    simp [Value.cells] at hcs
    obtain ⟨rfl, rfl, rfl⟩ := hcs
    have each : ∀ i, i < c0 → ∃ y : Int × Int, W.cell? (a.add (i * 2)) = some (.int .i64 y.1) ∧ W.cell? (a.add (i * 2 + 1)) = some (.int .i64 y.2) := by
      intro i hi
      obtain ⟨cs', hc, ht'⟩ := hx i hi
      rw [h2] at hc
      obtain ⟨_, hlen, hcell⟩ := World.cells?_some hc
      match cs', hlen with
      | [c0, c1], _ =>
        obtain ⟨xs, n', _, _, _, hxl, hfld⟩ := DataW.trod_struct hu ht'
        match xs, hxl with
        | [y0, y1], _ =>
          have f0 := hfld 0 fa rfl
          have f1 := hfld 1 fb rfl
          rw [ha, oa, e3] at f0
          rw [hb, ob, e3] at f1
          obtain ⟨s0, hs0, _⟩ := DataW.trod_int Try.underlying3 f0
          obtain ⟨s1, hs1, _⟩ := DataW.trod_int Try.underlying3 f1
          simp at hs0 hs1
          have q0 := hcell 0 (by omega)
          have q1 := hcell 1 (by omega)
          rw [Go.Deep.add_add] at q0 q1
          refine ⟨(s0, s1), ?_, ?_⟩
          · rw [show i * 2 = i * 2 + 0 from rfl, q0, hs0]; rfl
          · rw [q1, hs1]; rfl
    obtain ⟨f, hf⟩ := Go.Deep.choose_lt each
    have hcap : c0 ≤ 9223372036854775807 := by simpa [maxLen] using hm
    refine ⟨(List.range l0).map fun i => (⟨(f i).1, (f i).2⟩ : S52), by simp, hl, ⟨by simp, by omega, fun _ => ⟨a, rfl, fun j p hj => ?_⟩⟩⟩
    · have hjl : j < l0 := by
        have := (List.getElem?_eq_some_iff.1 hj).1
        simpa using this
      rw [List.getElem?_map, List.getElem?_range hjl] at hj
      injection hj with hj
      subst hj
      obtain ⟨q0, q1⟩ := hf j (by omega)
      refine ⟨[.int .i64 (f j).1, .int .i64 (f j).2], rfl, k52_mk _ _, fun i w hi => ?_⟩
      match i, hi with
      | 0, hi => simp at hi; subst hi; exact q0
      | 1, hi => simp at hi; subst hi; exact q1
set_option maxRecDepth 100000 in
theorem net_open {H : Type} {enc : TypeId × Value → H} {W : World} {b0 : Nat} {v : Value} {d : DataW H} {p : List MemPlace} (hv : Value.okWide Try.prog W .any b0 24 v) (h : DataW.Trod enc Try.prog W 0 (fun _ => true) true 24 v d p) :
  ∃ (n : Int) (A : Option Addr) (c : Nat) (L : List S52), v = .agg #[.int .i64 n, .slice A L.length c] ∧ L.length ≤ c ∧ Kd.C k52 W A L.length L := by
 obtain ⟨cs, rfl, hsz⟩ := okWide_struct Try.underlying24 hv
 rw [show Try.prog.cellsOf 24 = 2 by kernel_rfl] at hsz
 obtain ⟨l⟩ := cs
 match l, hsz with
 | [c0, c1], _ =>
  obtain ⟨fuel, hf⟩ := h
  obtain ⟨xs, n, _, _, _, hlen, hfld⟩ := DataW.trod_struct Try.underlying24 hf
  match xs, hlen with
  | [y0, y1], _ =>
   have e3 : Try.prog.cellsOf 3 = 1 := by kernel_rfl
   have e22 : Try.prog.cellsOf 22 = 1 := by kernel_rfl
   obtain ⟨pw, hs, _, ws⟩ := DataW.trod_int Try.underlying3 (hfld 0 _ rfl)
   simp [Value.cells, e3] at hs
   have h1 := hfld 1 _ rfl
   simp [Value.cells, e22] at h1
   subst hs
   obtain ⟨A, len, c, rfl⟩ : ∃ A len c, c1 = .slice A len c := by
    rcases Go.Deep.open_slice Try.underlying22 h1 with ⟨hcs, _⟩ | ⟨a, len, cap, m, n, D, Pl, hcs, _⟩
    ·exact ⟨_, _, _, by simpa using hcs⟩
    ·exact ⟨_, _, _, by simpa using hcs⟩
   obtain ⟨zs, rfl, hc, hr⟩ := pairs_read (enc := enc) (W := W) (fuel := n) (a0 := A) (l0 := len) (c0 := c) Try.underlying22 Try.underlying52 (by kernel_rfl) rfl rfl rfl rfl h1
   exact ⟨pw, A, c, zs, rfl, hc, hr⟩
end Go.Proofs.Ytdpolfflemocaaa.Own
