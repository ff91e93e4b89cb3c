/- '==' and '!=' of two ballots, as one step. -/
import Derived.Test.YtpgejomhcojppaaBallotLess
namespace Go.Proofs.Ytpgejomhcojppaa
open Go.RowKit

namespace Bl
theorem same_beq (r p r' p' : Int) : (if r = r' then (p == p') else false) = sameB ⟨r, p⟩ ⟨r', p'⟩ := by
  unfold sameB
  by_cases h : r = r' <;> simp [h, Bool.beq_eq_decide_eq]
theorem eql_ba (r p r' p' : Int) (w : World) : (binOp .eql 27 (.agg #[.int .i64 r, .int .i64 p]) (.agg #[.int .i64 r', .int .i64 p'])).run Try.prog w = .ok (.bool (sameB ⟨r, p⟩ ⟨r', p'⟩)) w := by
  rw [← same_beq]
  simp [go_sem]
  by_cases h : r = r' <;> by_cases k : p = p' <;> simp [h, k]
theorem neq_ba (r p r' p' : Int) (w : World) : (binOp .neq 27 (.agg #[.int .i64 r, .int .i64 p]) (.agg #[.int .i64 r', .int .i64 p'])).run Try.prog w = .ok (.bool (!sameB ⟨r, p⟩ ⟨r', p'⟩)) w := by
  rw [← same_beq]
  simp [go_sem]
  by_cases h : r = r' <;> by_cases k : p = p' <;> simp [h, k]
end Bl
end Go.Proofs.Ytpgejomhcojppaa
