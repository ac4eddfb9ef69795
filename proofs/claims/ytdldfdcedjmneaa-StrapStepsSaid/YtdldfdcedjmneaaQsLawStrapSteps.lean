/- The declarations of LawStrapSteps that the claim Qs needs. -/
import Derived.Test.YtdldfdcedjmneaaRows
import Derived.Test.YtdldfdcedjmneaaQsM15
import Derived.WalkKit
import Derived.ProofKit
import Derived.OpenShut
import Derived.ShutString
import Derived.ChangeOld
import Derived.Below
import Derived.SizedLaws
import Derived.ChangeSlices
namespace Go.Proofs.Ytdldfdcedjmneaa.strapSteps
open Go.ChangeShapes Go.WideShapes Go.ChangeAt Go.RowKit
open Go.ChangeMaps (open_string shut_string)
set_option linter.unusedVariables false
theorem own : ownKnob Try.prog.godebug = none := by kernel_rfl
theorem laidOut : laidOutB Try.prog = true := by kernel_rfl
def IsRow (k : IntKind) (w : World) (a : Option Addr) (len cap : Nat) (zs : List Int) : Prop :=
  (a = none ∧ len = 0 ∧ cap = 0 ∧ zs = []) ∨
  ∃ x, a = some x ∧ len ≤ cap ∧ cap ≤ maxLen ∧ zs.length = cap ∧ (∀ i, i < zs.length → w.cell? (x.add i) = some (.int k (zs.getD i 0))) ∧ ∀ n ∈ zs, (Lit.int k n).wf = true
set_option maxRecDepth 100000 in
theorem place_open {H : Type} {enc : TypeId × Value → H} {W : World} {b0 base : Nat} {spare : Nat → Bool} {held : Bool} {v : Value} {d : DataW H} {p : List MemPlace} (hv : Value.okWide Try.prog W .any b0 41 v) (h : DataW.Trod enc Try.prog W base spare held 41 v d p) :
  ∃ (s a l o : Int) (m : Bool), v = .agg #[.int .u8 s, .int .u8 a, .int .u8 l, .int .u8 o, .bool m] ∧ (0 ≤ s ∧ s ≤ 255) ∧ (0 ≤ a ∧ a ≤ 255) ∧ (0 ≤ l ∧ l ≤ 255) ∧ (0 ≤ o ∧ o ≤ 255) := by
 obtain ⟨cs, rfl, hsz⟩ := okWide_struct Try.underlying41 hv
 rw [show Try.prog.cellsOf 41 = 5 by kernel_rfl] at hsz
 obtain ⟨l⟩ := cs
 match l, hsz with
 | [c0, c1, c2, c3, c4], _ =>
  obtain ⟨fuel, hf⟩ := h
  obtain ⟨xs, n, _, _, _, hlen, hfld⟩ := DataW.trod_struct Try.underlying41 hf
  match xs, hlen with
  | [y0, y1, y2, y3, y4], _ =>
   have e5 : Try.prog.cellsOf 5 = 1 := by kernel_rfl
   have e4 : Try.prog.cellsOf 4 = 1 := by kernel_rfl
   obtain ⟨s, hs, _, ws⟩ := DataW.trod_int Try.underlying5 (hfld 0 _ rfl)
   obtain ⟨a, ha, _, wa⟩ := DataW.trod_int Try.underlying5 (hfld 1 _ rfl)
   obtain ⟨l, hl, _, wl⟩ := DataW.trod_int Try.underlying5 (hfld 2 _ rfl)
   obtain ⟨o, ho, _, wo⟩ := DataW.trod_int Try.underlying5 (hfld 3 _ rfl)
   obtain ⟨m, hm, _⟩ := DataW.trod_bool Try.underlying4 (hfld 4 _ rfl)
   simp [Value.cells, e5] at hs
   simp [Value.cells, e5] at ha
   simp [Value.cells, e5] at hl
   simp [Value.cells, e5] at ho
   simp [Value.cells, e4] at hm
   subst hs ha hl ho hm
   exact ⟨s, a, l, o, m, rfl, Pure.u8_of ws, Pure.u8_of wa, Pure.u8_of wl, Pure.u8_of wo⟩
set_option maxRecDepth 100000 in
theorem lifted (os : Os) (started : os.Started) (H : Type) (enc : TypeId × Value → H) :
  ReturnsInHanded {} Try.checked os 5 .any (Rows.strapStepsSpec.pre6 enc Try.prog Try.f5 Rows.strapStepsRow.domain false) (Rows.strapStepsSpec.post enc Try.prog Try.f5 false true false false) := by
 refine returnsInHanded_of_change_sized (C := Try.checked) own started (by kernel_rfl) Try.func5
  (ChangeSpec.witness6 (enc := enc) (C := Try.checked) false ⟨#[], #[.slice none 0 0, .agg #[.int .u8 0, .int .u8 0, .int .u8 0, .int .u8 0, .bool false]], []⟩ 8 (by kernel_rfl) (by kernel_rfl) (by kernel_rfl) (by kernel_rfl)) ?_
 intro W base args ds gs before hval0 hW hcnd hsz0 _
 have hsz : (DataW.weightsEach Try.prog (Try.f5.params.toList ++ Rows.strapStepsSpec.plain.varTypes Try.prog) (ds ++ gs)).all (· ≤ reachBytes) = true := hsz0
 have hval : ∀ (j : Nat) t v, Try.f5.params[j]? = some t → args[j]? = some v → Value.okWide Try.prog W .any base t v := hval0
 have hW' := hW
 obtain ⟨p, q, hA0, hV, rfl, hfz, hnd⟩ := hW
 have hA : DataW.TrodAll enc Try.prog W 0 (fun _ => true) true Try.f5.params.toList args.toList ds p := hA0
 rw [Try.params5] at hA hval hsz
 obtain ⟨v0, vs0, d0, ds0, p0, q0, hargs, rfl, rfl, h0, r0⟩ := trodAll_cons hA
 obtain ⟨v1, vs1, d1, ds1, p1, q1, rfl, rfl, rfl, h1, r1⟩ := trodAll_cons r0
 obtain ⟨rfl, rfl, rfl⟩ := trodAll_nil r1
 obtain rfl : args = #[v0, v1] := by cases args; simp_all
 obtain ⟨rfl, rfl⟩ := trodVars_none hV
 obtain ⟨a1, len1, cap1, rfl⟩ := okWide_slice Try.underlying39 (hval 0 39 v0 rfl rfl)
 have k0 := h0
 have lt0 : ∀ x ∈ p0, x.block < W.heap.size := by obtain ⟨m, hm⟩ := k0; exact DataW.trod_lt m _ _ _ hm
 have k1 := h1
 have lt1 : ∀ x ∈ p1, x.block < W.heap.size := by obtain ⟨m, hm⟩ := k1; exact DataW.trod_lt m _ _ _ hm
 obtain ⟨st, at_, le, ot, mi, rfl, hst, hat, hle, hot⟩ := place_open (hval 1 41 v1 rfl rfl) h1
 obtain ⟨z1, w1⟩ : ∃ zs, IsRow .i8 W a1 len1 cap1 zs := by
  obtain ⟨fuel, hf⟩ := h0
  rcases open_ints Try.underlying39 Try.underlying92 (by kernel_rfl) hf with ⟨hcs, _⟩ | ⟨x, l, c, zs, hcs, _, hl, hm, hz, _, hcell, hwz⟩
  ·simp [Value.cells] at hcs
   obtain ⟨rfl, rfl, rfl⟩ := hcs
   exact ⟨[], .inl ⟨rfl, rfl, rfl, rfl⟩⟩
  ·simp [Value.cells] at hcs
   obtain ⟨rfl, rfl, rfl⟩ := hcs
   exact ⟨zs, .inr ⟨_, rfl, hl, hm, by simpa using hz, hcell, hwz⟩⟩
 clear hA0 hval0 hsz0 hsz
 refine (Lx.steps_walk a1 len1 cap1 z1 st at_ le ot mi W hst hat hle hot w1).mono fun e W' ⟨he, bel⟩ => ?_
 subst he
 exact ⟨_, rfl, _, _, _, [], _, [], hW', trodAll_mk1 (shut_bool Try.underlying4 _), (trodAll_cons_mk (Below.trod laidOut (by kernel_rfl) (of_decide_eq_true (by kernel_rfl)) k0 bel lt0) (trodAll_cons_mk (Below.trod laidOut (by kernel_rfl) (of_decide_eq_true (by kernel_rfl)) k1 bel lt1) trodAll_mk0)), rfl, bel.frame _, fun h => by cases h⟩
theorem over : Rows.strapStepsRow.holds Try.pinned (OpenSpec.ofChange Rows.strapStepsSpec) :=
 OpenClaim.holds_of_wide 5 Try.f5 rfl rfl rfl rfl rfl rfl rfl ⟨rfl, rfl, rfl, rfl, rfl⟩ rfl rfl rfl rfl rfl (by kernel_rfl) Try.func5 (by kernel_rfl)
  (of_decide_eq_true (by kernel_rfl)) (by unfold Func.isWrapper; first | (rw [if_pos (by decide +kernel)]; kernel_rfl) | (rw [if_neg (by decide +kernel)]; exact ⟨rfl, rfl⟩))
  (fun os started H enc _ => lifted os started H enc)
theorem proved : Rows.StrapStepsSaid := over
#print axioms proved
end Go.Proofs.Ytdldfdcedjmneaa.strapSteps
namespace Go.Proofs.Ytdldfdcedjmneaa
/-- The row, under a short name, for the claim. -/
theorem strapSteps_holds : Rows.StrapStepsSaid := strapSteps.proved
end Go.Proofs.Ytdldfdcedjmneaa
