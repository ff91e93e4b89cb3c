/- Whether a set is a majority: Enough, where the program has no Members. -/
import Derived.Test.YtpgejomhcojppaaQuorumWalks
import Derived.WalkKit
import Derived.Lib.Hide
namespace Go.Proofs.Ytpgejomhcojppaa
open Go.RowKit

namespace Qm

set_option maxHeartbeats 400000 in
theorem enough_any (s : Nat) (hs : s < 256) (n : Int) (w : World) :
    Calls Try.prog 31 #[.int .u8 s, .int .i64 n] w fun e w' => e = .returned (.bool (enoughB s n)) ∧ w = w' := by
  have hb := belowN_lt hs n
  have hm := most_le n
  have hE : Hid (enoughB s n = (decide (0 < mostN n) && decide (mostN n ≤ (bitsOf (belowN s n)).length))) := rfl
  go_enter Try.func31, Try.ntmps31
  by_cases h0 : 0 < mostN n
  all_goals
    go_wp2_with (first
      | (go_at_call 18; refine (most_any _ _).mono ?_; rintro e w' ⟨rfl, rfl⟩)
      | (go_at_call 48; refine (below_any _ hs _ _).mono ?_; rintro e w' ⟨rfl, rfl⟩)
      | (go_at_call 47; refine (ones_any _ hb _).mono ?_; rintro e w' ⟨rfl, rfl⟩))
    go_ret
    refine ⟨?_, rfl⟩
    rw [hE.out]
    simp [h0]

end Qm
end Go.Proofs.Ytpgejomhcojppaa
