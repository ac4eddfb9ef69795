/- The declarations of Mk that the claim Qb needs. -/
import Derived.Test.YtiknnpfdpecfdaaQbMj
namespace Go.Proofs.Ytiknnpfdpecfdaa.Own
theorem c90 : cntAt 9 8 0 = 504 := by decide +kernel
theorem c91 : cntAt 9 8 1 = 504 := by decide +kernel
theorem c92 : cntAt 9 8 2 = 504 := by decide +kernel
theorem c93 : cntAt 9 8 3 = 504 := by decide +kernel
theorem c94 : cntAt 9 8 4 = 504 := by decide +kernel
theorem c95 : cntAt 9 8 5 = 504 := by decide +kernel
theorem c96 : cntAt 9 8 6 = 504 := by decide +kernel
theorem c97 : cntAt 9 8 7 = 504 := by decide +kernel
theorem c98 : cntAt 9 8 8 = 504 := by decide +kernel
theorem cn9 : cnt 9 9 [] ([], []) = 4536 := by
  rw [cnt_at, show List.range 9 = [0, 1, 2, 3, 4, 5, 6, 7, 8] from rfl]
  simp only [List.foldr_cons, List.foldr_nil, c90, c91, c92, c93, c94, c95, c96, c97, c98]
end Go.Proofs.Ytiknnpfdpecfdaa.Own
