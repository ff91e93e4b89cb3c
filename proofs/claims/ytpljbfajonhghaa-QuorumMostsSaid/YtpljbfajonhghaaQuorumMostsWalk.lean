/- QuorumMosts: the walk. -/
import Derived.Test.YtpljbfajonhghaaQuorumRef
namespace Go.Proofs.Ytpljbfajonhghaa
open Go.RowKit

namespace Qm

theorem ints_cast (l : List Nat) : (l.map fun x => Value.int .i64 (x : Nat)) = ints (l.map fun x : Nat => (x : Int)) := by simp [ints]

set_option maxHeartbeats 1000000 in
theorem mosts_any (s : Nat) (hs : s < 256) (n : Int) (w : World) :
    Calls Try.prog 3 #[.int .u8 s, .int .i64 n] w fun e w' => e = .returned (.bool true) ∧ Below w.heap.size w w' := by
  have hm := most_le n
  go_enter Try.func3, Try.ntmps3
  go_wp2_with (first
    | (go_at_call 8; refine (most_any _ _).mono ?_; rintro e w' ⟨rfl, rfl⟩)
    | (go_at_call 9; refine (rmost_any _ _).mono ?_; rintro e w' ⟨rfl, rfl⟩))
  refine (members_any _ hs _ _).mono ?_
  rintro e w1 ⟨v1, rfl, ⟨hown1, _⟩, hb1⟩
  rw [ints_cast] at hown1
  have hr1 := Row.of_own hown1
  clear hown1
  go_wp2_with fail
  refine (rmembers_any _ hs _ _).mono ?_
  rintro e w2 ⟨v2, rfl, ⟨hown2, _⟩, hb2⟩
  rw [ints_cast] at hown2
  have hr2 := Row.of_own hown2
  have hr1' := hr1.below hb2
  clear hown2 hr1
  go_wp2_with fail
  refine (same_any ((membersN s n).map fun x : Nat => (x : Int)) ((membersN s n).map fun x : Nat => (x : Int)) v1 v2 _ _ _ (by simpa using hr1') (by simpa using hr2)).mono ?_
  rintro e w3 ⟨rfl, m, rfl⟩
  clear hr1' hr2
  have hb3 : Below w.heap.size w (w2.drewN m) := below_drewN' (hb1.trans (hb2.mono hb1.size)) m
  clear hb1 hb2
  go_wp2_with fail
  refine (enough_any _ hs _ _).mono ?_
  rintro e w4 ⟨rfl, rfl⟩
  go_wp2_with fail
  refine (renough_any _ hs _ _).mono ?_
  rintro e w5 ⟨rfl, hb5⟩
  go_wp2_with fail
  go_ret
  exact ⟨by simp, hb3.trans (hb5.mono hb3.size)⟩

end Qm
end Go.Proofs.Ytpljbfajonhghaa
