/- What the program's functions on ballots return (package ballot), and the document's (sextonref14), function by function. -/
import Derived.Test.YtpgejomhcojppaaBallotLess
namespace Go.Proofs.Ytpgejomhcojppaa
open Go.RowKit

namespace Bl

set_option maxHeartbeats 400000 in
theorem crowd_any (n : Int) (w : World) :
    Calls Try.prog 55 #[.int .i64 n] w fun e w' => e = .returned (.bool (crowdB n)) ∧ w = w' := by
  have N : Hid (crowdB n = (decide (n = 3) || decide (n = 5) || decide (n = 7))) := rfl
  go_enter Try.func55, Try.ntmps55
  go_wp2
  all_goals go_ret
  all_goals refine ⟨ret_bool ?_, rfl⟩
  all_goals rw [N.out]
  all_goals simp_all [Bool.beq_eq_decide_eq]

set_option maxHeartbeats 400000 in
theorem rcrowd_any (n : Int) (w : World) :
    Calls Try.prog 32 #[.int .i64 n] w fun e w' => e = .returned (.bool (crowdB n)) ∧ w = w' := by
  have N : Hid (crowdB n = (decide (n = 3) || decide (n = 5) || decide (n = 7))) := rfl
  go_enter Try.func32, Try.ntmps32
  go_wp2
  all_goals go_ret
  all_goals refine ⟨ret_bool ?_, rfl⟩
  all_goals rw [N.out]
  all_goals simp_all [Bool.beq_eq_decide_eq]

set_option maxHeartbeats 1000000 in
theorem may_any (b : Ba) (n : Int) (w : World) :
    Calls Try.prog 45 #[.agg b.cells.toArray, .int .i64 n] w fun e w' => e = .returned (.bool (mayB b n)) ∧ Below w.heap.size w w' := by
  obtain ⟨r, p⟩ := b
  have N : Hid (mayB ⟨r, p⟩ n = (crowdB n && ((decide (r = 0) && decide (p = 0)) || (decide (1 ≤ r) && decide (r ≤ 1099511627776) && decide (0 ≤ p) && decide (p < n))))) := rfl
  have C := Lib.hid (crowd_any n)
  unfold Ba.cells
  generalize mayB ⟨r, p⟩ n = m at *
  generalize crowdB n = c at *
  by_cases hz : r = 0 ∧ p = 0
  · obtain ⟨rfl, rfl⟩ := hz
    go_enter Try.func45, Try.ntmps45
    go_wp2_with (refine (C.out _).mono ?_; rintro e w' ⟨rfl, rfl⟩)
    go_ret
    refine ⟨ret_bool ?_, (Below.refl _ _).alloc (Nat.le_refl _) _⟩
    rw [N.out]; simp
  · have hz' : (decide (r = 0) && decide (p = 0)) = false := by simpa using hz
    rw [hz', Bool.false_or] at N
    clear hz'
    cases c
    all_goals
      go_enter Try.func45, Try.ntmps45
      go_wp2_with (refine (C.out _).mono ?_; rintro e w' ⟨rfl, rfl⟩)
      all_goals go_ret
      all_goals refine ⟨ret_bool ?_, (Below.refl _ _).alloc (Nat.le_refl _) _⟩
      all_goals rw [N.out]
      all_goals clear N C hz
      all_goals first | (simp_all; done) | (simp_all; omega)


end Bl
end Go.Proofs.Ytpgejomhcojppaa
