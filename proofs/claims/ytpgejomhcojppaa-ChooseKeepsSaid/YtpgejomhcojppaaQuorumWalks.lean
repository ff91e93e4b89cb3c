/- What each of the program's functions on sets of replicas returns (package quorum), function by function. -/
import Derived.Test.YtpgejomhcojppaaQuorumPlain
import Derived.Test.YtpgejomhcojppaaRows
import Derived.WalkKit
import Derived.WalkSpells
import Derived.WalkLawsBesides
namespace Go.Proofs.Ytpgejomhcojppaa
open Go.RowKit

namespace Qm

set_option maxHeartbeats 400000 in
theorem one_any (i : Int) (w : World) :
    Calls Try.prog 46 #[.int .i64 i] w fun e w' => e = .returned (.int .u8 (oneN i)) ∧ w = w' := by
  by_cases h0 : i < 0
  · have h : oneN i = 0 := by unfold oneN; rw [if_neg (by omega)]
    rw [h]; clear h
    go_enter Try.func46, Try.ntmps46
    go_wp2
    go_ret
    exact ⟨rfl, rfl⟩
  · by_cases h7 : 7 ≤ i
    · have h : oneN i = 0 := by unfold oneN; rw [if_neg (by omega)]
      rw [h]; clear h
      go_enter Try.func46, Try.ntmps46
      go_wp2
      go_ret
      exact ⟨rfl, rfl⟩
    · have hi : i = 0 ∨ i = 1 ∨ i = 2 ∨ i = 3 ∨ i = 4 ∨ i = 5 ∨ i = 6 := by omega
      clear h0 h7
      rcases hi with rfl | rfl | rfl | rfl | rfl | rfl | rfl
      all_goals
        go_enter Try.func46, Try.ntmps46
        go_wp2
        go_ret
        exact ⟨rfl, rfl⟩

set_option maxHeartbeats 400000 in
theorem most_any (n : Int) (w : World) :
    Calls Try.prog 18 #[.int .i64 n] w fun e w' => e = .returned (.int .i64 (mostN n)) ∧ w = w' := by
  by_cases h0 : n < 3
  · have h : mostN n = 0 := by rcases most_cases n with h | h | h | h <;> omega
    rw [h]; clear h
    go_enter Try.func18, Try.ntmps18
    go_wp2
    go_ret
    exact ⟨rfl, rfl⟩
  · by_cases h7 : 7 < n
    · have h : mostN n = 0 := by rcases most_cases n with h | h | h | h <;> omega
      rw [h]; clear h
      go_enter Try.func18, Try.ntmps18
      go_wp2
      go_ret
      exact ⟨rfl, rfl⟩
    · have hi : n = 3 ∨ n = 4 ∨ n = 5 ∨ n = 6 ∨ n = 7 := by omega
      clear h0 h7
      rcases hi with rfl | rfl | rfl | rfl | rfl
      all_goals
        go_enter Try.func18, Try.ntmps18
        go_wp2
        go_ret
        exact ⟨rfl, rfl⟩

theorem byte_getD (b : ByteArray) (x : Nat) (h : x < b.size) : b[x] = b.data.getD x 0 := by
  rw [Array.getD_eq_getD_getElem?, Array.getElem?_eq_getElem (by simpa using h)]; rfl
theorem wrap64_u8 (b : UInt8) : wrap64 (b.toNat : Int) = (b.toNat : Int) := IntWalk.wrap64_in _ (by have := b.toNat_lt; omega)
set_option maxRecDepth 100000 in
set_option maxHeartbeats 400000 in
theorem ones_any (x : Nat) (hx : x < 256) (w : World) :
    Calls Try.prog 47 #[.int .u8 x] w fun e w' => e = .returned (.int .i64 (bitsOf x).length) ∧ w = w' := by
  go_enter Try.func47, Try.ntmps47
  go_wp2
  go_ret
  refine ⟨congrArg Ending.returned (congrArg (Value.int IntKind.i64) ?_), rfl⟩
  rw [wrap64_u8]
  congr 1
  rw [byte_getD]
  rename_i h
  clear h w
  revert x
  decide +kernel

set_option maxHeartbeats 400000 in
theorem add_any (s : Nat) (hs : s < 256) (i : Int) (w : World) :
    Calls Try.prog 29 #[.int .u8 s, .int .i64 i] w fun e w' => e = .returned (.int .u8 (addN s i)) ∧ w = w' := by
  have hb : Hid (bits .or .u8 (s : Int) (oneN i : Int) = ((addN s i : Nat) : Int)) := u8_or_nat s (oneN i) hs (oneN_lt i)
  go_enter Try.func29, Try.ntmps29
  go_wp2_with (go_at_call 46; refine (one_any _ _).mono ?_; rintro e w' ⟨rfl, rfl⟩)
  go_ret
  exact ⟨congrArg (fun z => Ending.returned (Value.int IntKind.u8 z)) hb.out, rfl⟩

set_option maxHeartbeats 400000 in
theorem has_any (s : Nat) (hs : s < 256) (i : Int) (w : World) :
    Calls Try.prog 30 #[.int .u8 s, .int .i64 i] w fun e w' => e = .returned (.bool (hasB s i)) ∧ w = w' := by
  have hb : Hid (bits .and .u8 (s : Int) (oneN i : Int) = ((s &&& oneN i : Nat) : Int)) := u8_and_nat s (oneN i) hs (oneN_lt i)
  have hh : Hid (decide (0 < s &&& oneN i) = hasB s i) := has_spec hs i
  go_enter Try.func30, Try.ntmps30
  go_wp2_with (go_at_call 46; refine (one_any _ _).mono ?_; rintro e w' ⟨rfl, rfl⟩)
  go_ret
  refine ⟨congrArg (fun z => Ending.returned (Value.bool z)) ?_, rfl⟩
  rw [← hh.out]
  simp [hb.out]

set_option maxHeartbeats 400000 in
theorem below_any (s : Nat) (hs : s < 256) (n : Int) (w : World) :
    Calls Try.prog 48 #[.int .u8 s, .int .i64 n] w fun e w' => e = .returned (.int .u8 (belowN s n)) ∧ w = w' := by
  rcases most_cases n with ⟨rfl, h⟩ | ⟨rfl, h⟩ | ⟨rfl, h⟩ | ⟨_, _, _, h⟩
  · have hr : belowN s 3 = s % 8 := by unfold belowN; rw [h]; rfl
    rw [hr]; clear hr
    go_enter Try.func48, Try.ntmps48
    go_wp2_with (go_at_call 18; refine (most_any _ _).mono ?_; rintro e w' ⟨rfl, rfl⟩)
    go_ret
    exact ⟨by simp, rfl⟩
  · have hr : belowN s 5 = s % 32 := by unfold belowN; rw [h]; rfl
    rw [hr]; clear hr
    go_enter Try.func48, Try.ntmps48
    go_wp2_with (go_at_call 18; refine (most_any _ _).mono ?_; rintro e w' ⟨rfl, rfl⟩)
    go_ret
    exact ⟨by simp, rfl⟩
  · have hr : belowN s 7 = s % 128 := by unfold belowN; rw [h]; rfl
    have hb : Hid (bits .and .u8 (s : Int) 127 = ((s % 128 : Nat) : Int)) := (u8_and_nat s 127 hs (by omega)).trans (by rw [Nat.and_two_pow_sub_one_eq_mod s 7])
    rw [hr]; clear hr
    go_enter Try.func48, Try.ntmps48
    go_wp2_with (go_at_call 18; refine (most_any _ _).mono ?_; rintro e w' ⟨rfl, rfl⟩)
    go_ret
    exact ⟨congrArg (fun z => Ending.returned (Value.int IntKind.u8 z)) hb.out, rfl⟩
  · have hr : belowN s n = 0 := by unfold belowN; rw [if_pos h]
    rw [hr]; clear hr
    go_enter Try.func48, Try.ntmps48
    go_wp2_with (go_at_call 18; refine (most_any _ _).mono ?_; rintro e w' ⟨rfl, rfl⟩)
    go_ret
    exact ⟨rfl, rfl⟩

end Qm
end Go.Proofs.Ytpgejomhcojppaa
