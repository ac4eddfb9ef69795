/- The declarations of R0 that the claim Qc needs. -/
import Derived.Test.YtdpolfflemocaaaQcRt
import Derived.Test.YtdpolfflemocaaaQcOwx6
namespace Go.Proofs.Ytdpolfflemocaaa.Own
open Go.RowKit Go.Proofs.Ytdpolfflemocaaa.Own Go.Proofs.YtdpolfflemocaaaW.PrintWords Go.Proofs.YtdpolfflemocaaaW.PrintLast Go.Proofs.YtdpolfflemocaaaW.PrintMore
set_option linter.unusedVariables false
set_option linter.unusedSimpArgs false
def isSet (x : Int) : Bool := decide (0 ≤ x) && decide (x < 4294967296)
def rib_maximal.f (k : Nat) (l0 : List Int) : Option (List Int) := (rib_graph_all.f l0).bind fun a => (rib_graph_cliques.f k l0 0 a 0).bind fun r => if r.all isSet = true then (if r.length < 4611686018427387904 then some (sortS r) else none) else none
set_option maxHeartbeats 8000000 in
set_option maxRecDepth 100000 in
theorem rib_maximal.calls (k : Nat) (A0 : Option Addr) (c0 : Nat) (l0 : List Int) (r : List Int) (w : World) (hr0 : Kd.C (Kd.int .u32) w A0 l0.length l0) (hc0 : l0.length ≤ c0) (h : rib_maximal.f k l0 = some r) :
  Calls Try.prog 54 #[.slice A0 l0.length c0] w fun e w' => ∃ v0_ : Value, e = .returned (v0_) ∧ Kd.R (Kd.int .u32) 86 w' w.heap.size (fun _ => True) v0_ r ∧ Below w.heap.size w w' := by
 have HB := Aside0.mk (Below.refl w.heap.size w)
 have HR0 := Aside0.mk hr0
 have HC0 := Aside0.mk hc0
 clear hr0 hc0
 unfold rib_maximal.f at h
 replace h := Option.bind_eq_some_iff.mp h
 obtain ⟨a, A1, h⟩ := h
 replace h := Option.bind_eq_some_iff.mp h
 obtain ⟨rr, A2, h⟩ := h
 have A1 := Aside0.mk A1
 have A2 := Aside0.mk A2
 split at h
 ·rename_i ha
  split at h
  ·rename_i hl
   obtain rfl := Option.some.inj h
   clear h
   have HA := Aside0.mk ha
   have HL := Aside0.mk hl
   clear ha hl
   go_enter Try.func54, Try.ntmps54
   go_wp2_with (first
    | ((with_reducible refine gate_callee (f := 65) rfl ?_); refine gL 6 Try.func65 #[.slice A0 l0.length c0] ?_; (with_reducible refine (rib_graph_all.calls A0 c0 l0 a _ (Kd.C_below HR0.out (bl HB)) HC0.out A1.out).mono ?_); rintro e w' ⟨rfl, ⟨nd, rfl⟩⟩; refine ⟨_, rfl, ?_⟩)
    | ((with_reducible refine gate_callee (f := 88) rfl ?_); refine gL 7 Try.func88 #[.slice A0 l0.length c0, .int .u32 0, .int .u32 a, .int .u32 0] ?_; (with_reducible refine (rib_graph_cliques.calls k A0 c0 l0 0 a 0 rr _ (Kd.C_below HR0.out (bl HB)) HC0.out A2.out).mono ?_); rintro e w8 ⟨v1, rfl, ho0, hb⟩; refine ⟨_, rfl, ?_⟩; have n1_ := Aside0.mk (Kd.R_lower ho0 (below_size (bl HB))); have n2_ := Aside0.mk (below_step (bl HB) hb); clear HB ho0 hb; have HO1 := n1_; have HB := n2_; clear n1_ n2_)
    | ((with_reducible refine gate_callee (f := 89) rfl ?_); refine gL 9 Try.func89 #[v1, .func (.func 90) #[] #[]] ?_; (with_reducible refine (rib_sort.calls rr (fun x hx => by have h_ := List.all_eq_true.1 HA.out x hx; simpa [isSet] using h_) HL.out v1 _ w w.heap.size (fun _ => True) (rl HO1) (bl HB)).mono ?_); rintro e w9 ⟨rfl, ho0, hb⟩; refine ⟨_, rfl, ?_⟩; have n1_ := Aside0.mk ho0; have n2_ := Aside0.mk hb; clear HB HO1 ho0 hb; have HO1 := n1_; have HB := n2_; clear n1_ n2_))
   go_ret
   exact ⟨_, rfl, rl HO1, bl HB⟩
  ·cases h
 ·cases h
end Go.Proofs.Ytdpolfflemocaaa.Own
