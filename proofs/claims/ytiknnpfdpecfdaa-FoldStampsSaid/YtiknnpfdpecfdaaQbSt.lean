/- The declarations of St that the claim Qb needs. -/
import Derived.Test.YtiknnpfdpecfdaaQbFn
namespace Go.Proofs.Ytiknnpfdpecfdaa.Own
open Go Go.RowKit Go.Proofs Go.Proofs.YtiknnpfdpecfdaaW.PrintWords
def stampAt.f (k : Int) : Option Int := if 0 ≤ k ∧ k < 9 then some (([1, 2, 6, 16, 50, 144, 462, 1392, 4536] : List Int).getD k.toNat 0) else none
theorem stamp_cases {k v : Int} (h : stampAt.f k = some v) : (k = 0 ∧ v = 1) ∨ (k = 1 ∧ v = 2) ∨ (k = 2 ∧ v = 6) ∨ (k = 3 ∧ v = 16) ∨ (k = 4 ∧ v = 50) ∨ (k = 5 ∧ v = 144) ∨ (k = 6 ∧ v = 462) ∨ (k = 7 ∧ v = 1392) ∨ (k = 8 ∧ v = 4536) := by
 unfold stampAt.f at h
 split at h
 ·rename_i hk
  have hc : k = 0 ∨ k = 1 ∨ k = 2 ∨ k = 3 ∨ k = 4 ∨ k = 5 ∨ k = 6 ∨ k = 7 ∨ k = 8 := by omega
  rcases hc with rfl | rfl | rfl | rfl | rfl | rfl | rfl | rfl | rfl <;> (obtain rfl := Option.some.inj h; decide)
 ·cases h
theorem stamp_ix0 (w : World) : Sem.run Try.prog (Instr.index 41 (.agg #[.int .i64 1, .int .i64 2, .int .i64 6, .int .i64 16, .int .i64 50, .int .i64 144, .int .i64 462, .int .i64 1392, .int .i64 4536]) (.int .i64 0)) w = .ok (.int .i64 1) w := by kernel_rfl
theorem stamp_ix1 (w : World) : Sem.run Try.prog (Instr.index 41 (.agg #[.int .i64 1, .int .i64 2, .int .i64 6, .int .i64 16, .int .i64 50, .int .i64 144, .int .i64 462, .int .i64 1392, .int .i64 4536]) (.int .i64 1)) w = .ok (.int .i64 2) w := by kernel_rfl
theorem stamp_ix2 (w : World) : Sem.run Try.prog (Instr.index 41 (.agg #[.int .i64 1, .int .i64 2, .int .i64 6, .int .i64 16, .int .i64 50, .int .i64 144, .int .i64 462, .int .i64 1392, .int .i64 4536]) (.int .i64 2)) w = .ok (.int .i64 6) w := by kernel_rfl
theorem stamp_ix3 (w : World) : Sem.run Try.prog (Instr.index 41 (.agg #[.int .i64 1, .int .i64 2, .int .i64 6, .int .i64 16, .int .i64 50, .int .i64 144, .int .i64 462, .int .i64 1392, .int .i64 4536]) (.int .i64 3)) w = .ok (.int .i64 16) w := by kernel_rfl
theorem stamp_ix4 (w : World) : Sem.run Try.prog (Instr.index 41 (.agg #[.int .i64 1, .int .i64 2, .int .i64 6, .int .i64 16, .int .i64 50, .int .i64 144, .int .i64 462, .int .i64 1392, .int .i64 4536]) (.int .i64 4)) w = .ok (.int .i64 50) w := by kernel_rfl
theorem stamp_ix5 (w : World) : Sem.run Try.prog (Instr.index 41 (.agg #[.int .i64 1, .int .i64 2, .int .i64 6, .int .i64 16, .int .i64 50, .int .i64 144, .int .i64 462, .int .i64 1392, .int .i64 4536]) (.int .i64 5)) w = .ok (.int .i64 144) w := by kernel_rfl
theorem stamp_ix6 (w : World) : Sem.run Try.prog (Instr.index 41 (.agg #[.int .i64 1, .int .i64 2, .int .i64 6, .int .i64 16, .int .i64 50, .int .i64 144, .int .i64 462, .int .i64 1392, .int .i64 4536]) (.int .i64 6)) w = .ok (.int .i64 462) w := by kernel_rfl
theorem stamp_ix7 (w : World) : Sem.run Try.prog (Instr.index 41 (.agg #[.int .i64 1, .int .i64 2, .int .i64 6, .int .i64 16, .int .i64 50, .int .i64 144, .int .i64 462, .int .i64 1392, .int .i64 4536]) (.int .i64 7)) w = .ok (.int .i64 1392) w := by kernel_rfl
theorem stamp_ix8 (w : World) : Sem.run Try.prog (Instr.index 41 (.agg #[.int .i64 1, .int .i64 2, .int .i64 6, .int .i64 16, .int .i64 50, .int .i64 144, .int .i64 462, .int .i64 1392, .int .i64 4536]) (.int .i64 8)) w = .ok (.int .i64 4536) w := by kernel_rfl
end Go.Proofs.Ytiknnpfdpecfdaa.Own
