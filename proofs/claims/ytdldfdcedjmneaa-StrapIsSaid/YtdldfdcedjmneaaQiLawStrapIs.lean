/- The declarations of LawStrapIs that the claim Qi needs. -/
import Derived.Test.YtdldfdcedjmneaaRows
import Derived.Test.YtdldfdcedjmneaaQiM92
import Derived.WalkKit
import Derived.ProofKit
import Derived.OpenShut
import Derived.ShutString
import Derived.ChangeOld
import Derived.Below
import Derived.SizedLaws
import Derived.ChangeSlices
namespace Go.Proofs.Ytdldfdcedjmneaa.strapIs
open Go.ChangeShapes Go.WideShapes Go.ChangeAt Go.RowKit
open Go.ChangeMaps (open_string shut_string)
open Go.Proofs.YtdldfdcedjmneaaW.PrintWords
set_option linter.unusedVariables false
theorem own : ownKnob Try.prog.godebug = none := by kernel_rfl
theorem laidOut : laidOutB Try.prog = true := by kernel_rfl
def IsRow (k : IntKind) (w : World) (a : Option Addr) (len cap : Nat) (zs : List Int) : Prop :=
  (a = none ∧ len = 0 ∧ cap = 0 ∧ zs = []) ∨
  ∃ x, a = some x ∧ len ≤ cap ∧ cap ≤ maxLen ∧ zs.length = cap ∧ (∀ i, i < zs.length → w.cell? (x.add i) = some (.int k (zs.getD i 0))) ∧ ∀ n ∈ zs, (Lit.int k n).wf = true
set_option maxRecDepth 100000 in
theorem braid_open {H : Type} {enc : TypeId × Value → H} {W : World} {b0 : Nat} {v : Value} {d : DataW H} {p : List MemPlace} (hv : Value.okWide Try.prog W .any b0 26 v) (h : DataW.Trod enc Try.prog W 0 (fun _ => true) true 26 v d p) :
  ∃ (pw : Int) (A : Option Addr) (c : Nat) (L : List (List Int)), v = .agg #[.int .i64 pw, .slice A L.length c] ∧ L.length ≤ c ∧ Kd.C (Kd.slice 3 (Kd.int .i64)) W A L.length L := by
 obtain ⟨cs, rfl, hsz⟩ := okWide_struct Try.underlying26 hv
 rw [show Try.prog.cellsOf 26 = 2 by kernel_rfl] at hsz
 obtain ⟨l⟩ := cs
 match l, hsz with
 | [c0, c1], _ =>
  obtain ⟨fuel, hf⟩ := h
  obtain ⟨xs, n, _, _, _, hlen, hfld⟩ := DataW.trod_struct Try.underlying26 hf
  match xs, hlen with
  | [y0, y1], _ =>
   have e3 : Try.prog.cellsOf 3 = 1 := by kernel_rfl
   have e24 : Try.prog.cellsOf 24 = 1 := by kernel_rfl
   obtain ⟨pw, hs, _, ws⟩ := DataW.trod_int Try.underlying3 (hfld 0 _ rfl)
   simp [Value.cells, e3] at hs
   have h1 := hfld 1 _ rfl
   simp [Value.cells, e24] at h1
   subst hs
   obtain ⟨A, len, c, rfl⟩ : ∃ A len c, c1 = .slice A len c := by
    rcases Go.Deep.open_int_rows Try.underlying24 Try.underlying22 Try.underlying3 (by kernel_rfl) (by kernel_rfl) h1 with ⟨hcs, _⟩ | ⟨ad, len', cap', A, L, C, Z, hcs, _⟩
    ·exact ⟨_, _, _, by simpa using hcs⟩
    ·exact ⟨_, _, _, by simpa using hcs⟩
   obtain ⟨zs, rfl, hc, hr, _⟩ := Own.rows_read (enc := enc) (W := W) (fuel := n) (a := A) (len := len) (cap := c) (x := y1) h1
   exact ⟨pw, A, c, zs, rfl, hc, hr⟩
set_option maxRecDepth 100000 in
theorem lifted (os : Os) (started : os.Started) (H : Type) (enc : TypeId × Value → H) :
  ReturnsInHanded {} Try.checked os 14 .any (Rows.strapIsSpec.pre6 enc Try.prog Try.f14 Rows.strapIsRow.domain false) (Rows.strapIsSpec.post enc Try.prog Try.f14 false true false false) := by
 refine returnsInHanded_of_change_sized (C := Try.checked) own started (by kernel_rfl) Try.func14
  (ChangeSpec.witness6 (enc := enc) (C := Try.checked) false ⟨#[], #[.int .i64 0, .agg #[.int .i64 0, .slice none 0 0]], []⟩ 8 (by kernel_rfl) (by kernel_rfl) (by kernel_rfl) (by kernel_rfl)) ?_
 intro W base args ds gs before hval0 hW hcnd hsz0 _
 have hsz : (DataW.weightsEach Try.prog (Try.f14.params.toList ++ Rows.strapIsSpec.plain.varTypes Try.prog) (ds ++ gs)).all (· ≤ reachBytes) = true := hsz0
 have hval : ∀ (j : Nat) t v, Try.f14.params[j]? = some t → args[j]? = some v → Value.okWide Try.prog W .any base t v := hval0
 have hW' := hW
 obtain ⟨p, q, hA0, hV, rfl, hfz, hnd⟩ := hW
 have hA : DataW.TrodAll enc Try.prog W 0 (fun _ => true) true Try.f14.params.toList args.toList ds p := hA0
 rw [Try.params14] at hA hval hsz
 obtain ⟨v0, vs0, d0, ds0, p0, q0, hargs, rfl, rfl, h0, r0⟩ := trodAll_cons hA
 obtain ⟨v1, vs1, d1, ds1, p1, q1, rfl, rfl, rfl, h1, r1⟩ := trodAll_cons r0
 obtain ⟨rfl, rfl, rfl⟩ := trodAll_nil r1
 obtain rfl : args = #[v0, v1] := by cases args; simp_all
 obtain ⟨rfl, rfl⟩ := trodVars_none hV
 obtain ⟨a0, rfl, rfl, rfl, w0⟩ := open_int Try.underlying3 (hval 0 3 v0 rfl rfl) h0
 have k1 := h1
 have lt1 : ∀ x ∈ p1, x.block < W.heap.size := by obtain ⟨m, hm⟩ := k1; exact DataW.trod_lt m _ _ _ hm
 obtain ⟨pw, A1, c1, L1, rfl, hc1, hr1⟩ := braid_open (hval 1 26 v1 rfl rfl) h1
 clear hA0 hval0 hsz0 hsz
 obtain ⟨k, hk⟩ := (Pure.strapIs_ev a0 pw L1).rounds
 refine (Lx.gamplaw05_StrapIs.calls k a0 pw A1 c1 L1 true W hr1 hc1 hk rfl).mono fun e W' ⟨he, bel⟩ => ?_
 subst he
 exact ⟨_, rfl, _, _, _, [], _, [], hW', trodAll_mk1 (shut_bool Try.underlying4 _), (trodAll_cons_mk (shut_int Try.underlying3 w0) (trodAll_cons_mk (Below.trod laidOut (by kernel_rfl) (of_decide_eq_true (by kernel_rfl)) k1 bel lt1) trodAll_mk0)), rfl, bel.frame _, fun h => by cases h⟩
theorem over : Rows.strapIsRow.holds Try.pinned (OpenSpec.ofChange Rows.strapIsSpec) :=
 OpenClaim.holds_of_wide 14 Try.f14 rfl rfl rfl rfl rfl rfl rfl ⟨rfl, rfl, rfl, rfl, rfl⟩ rfl rfl rfl rfl rfl (by kernel_rfl) Try.func14 (by kernel_rfl)
  (of_decide_eq_true (by kernel_rfl)) (by unfold Func.isWrapper; first | (rw [if_pos (by decide +kernel)]; kernel_rfl) | (rw [if_neg (by decide +kernel)]; exact ⟨rfl, rfl⟩))
  (fun os started H enc _ => lifted os started H enc)
theorem proved : Rows.StrapIsSaid := over
#print axioms proved
end Go.Proofs.Ytdldfdcedjmneaa.strapIs
namespace Go.Proofs.Ytdldfdcedjmneaa
/-- The row, under a short name, for the claim. -/
theorem strapIs_holds : Rows.StrapIsSaid := strapIs.proved
end Go.Proofs.Ytdldfdcedjmneaa
