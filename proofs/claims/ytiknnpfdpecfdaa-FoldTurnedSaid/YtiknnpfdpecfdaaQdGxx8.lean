/- The declarations of Gxx8 that the claim Qd needs. -/
import Derived.Test.YtiknnpfdpecfdaaQdTkP
import Derived.Test.YtiknnpfdpecfdaaQdGxx0
import Derived.Test.YtiknnpfdpecfdaaQdGxx1
import Derived.Test.YtiknnpfdpecfdaaQdZ1
import Derived.Test.YtiknnpfdpecfdaaQdGxx6
namespace Go.Proofs.Ytiknnpfdpecfdaa.Gx
open Go.RowKit Go.Proofs.Ytiknnpfdpecfdaa.Own Go.Proofs.Ytiknnpfdpecfdaa.Fey Go.Proofs.Ytiknnpfdpecfdaa.Fe Go.Proofs.YtiknnpfdpecfdaaW.PrintWords Go.Proofs.YtiknnpfdpecfdaaW.PrintLast Go.Proofs.YtiknnpfdpecfdaaW.PrintMore
attribute [local go_sem] max2_int min2_int max_two min_two max_three min_three max_four min_four
set_option linter.unusedVariables false
set_option linter.unusedSimpArgs false
def gamplaw01_fold1.f (a0 : Int) (a1 : Int) : Option (Int) := if a1 = 0 then (none) else (some (wrap64 ((Int.tmod (wrap64 ((Int.tmod a0 a1) + a1)) a1) + 1)))
set_option maxHeartbeats 8000000 in
set_option maxRecDepth 100000 in
theorem gamplaw01_fold1.calls (a0 : Int) (a1 : Int) (r : Int) (w : World) (h : gamplaw01_fold1.f a0 a1 = some r) :
  Calls Try.prog 24 #[.int .i64 a0, .int .i64 a1] w fun e w' => e = .returned (.int .i64 r) ∧ Drawn0 w w' := by
 have H : (if a1 = 0 then (none) else (some (wrap64 ((Int.tmod (wrap64 ((Int.tmod a0 a1) + a1)) a1) + 1)))) = some r := h
 clear h
 by_cases c3 : a1 = 0
 ·rw [if_pos c3] at H
  exact absurd H (by simp)
 ·rw [if_neg c3] at H
  have c3b0 : (a1 == 0) = false := beq_eq_false_iff_ne.mpr c3
  have c3b1 : (a1 != 0) = true := bne_iff_ne.mpr c3
  obtain rfl := Option.some.inj H
  go_enter Try.func24, Try.ntmps24
  go_wp2
  go_ret
  exact ⟨by first | rfl | (simp; done) | (simp [*]; done), by repeat (first | exact Drawn0.refl _ | apply Drawn0.step)⟩
end Go.Proofs.Ytiknnpfdpecfdaa.Gx
