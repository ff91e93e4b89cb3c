/- The walk of ClockNil. -/
import Derived.Test.YtgjcenmjjjkigaaClockAwake
namespace Go.Proofs.Ytgjcenmjjjkigaa
open Go.RowKit

namespace Ck

/-- A clock that nobody made: nil, or one of zeros. -/
def Unmade (w : World) (p : Option Addr) : Prop :=
  p = none ∨ ∃ g, p = some ⟨g, 0, none⟩ ∧ Whole w g 44 [.int .i64 0, .int .i64 0, .int .i64 0, .int .i64 0]

set_option maxHeartbeats 400000 in
theorem none_un (p : Option Addr) (w : World) (h : Unmade w p) :
    Calls Try.prog 19 #[.pointer p] w fun e w' => e = .returned (.bool true) ∧ w = w' := by
  rcases h with rfl | ⟨g, rfl, hw⟩
  · go_enter Try.func19, Try.ntmps19
    go_wp2
    go_ret
    exact ⟨rfl, rfl⟩
  · have c1 := hw.cell 1
    simp only [List.getElem?_cons_zero, List.getElem?_cons_succ] at c1
    clear hw
    go_enter Try.func19, Try.ntmps19
    go_wp2
    go_ret
    exact ⟨rfl, rfl⟩
set_option maxHeartbeats 400000 in
theorem tick_un (p : Option Addr) (leads : Bool) (w : World) (h : Unmade w p) :
    Calls Try.prog 14 #[.pointer p, .bool leads] w fun e w' => e = .returned (.tuple #[.bool false, .bool false]) ∧ w = w' := by
  have h1 := Lib.hid (none_un p w h)
  clear h
  go_enter Try.func14, Try.ntmps14
  go_wp2_with (go_at_call 19; refine h1.out.mono ?_; rintro e w' ⟨rfl, rfl⟩)
  go_ret2
  exact ⟨rfl, rfl⟩
set_option maxHeartbeats 400000 in
theorem hear_un (p : Option Addr) (w : World) (h : Unmade w p) :
    Calls Try.prog 12 #[.pointer p] w fun e w' => e = .returned (.tuple #[]) ∧ w = w' := by
  have h1 := Lib.hid (none_un p w h)
  clear h
  go_enter Try.func12, Try.ntmps12
  go_wp2_with (go_at_call 19; refine h1.out.mono ?_; rintro e w' ⟨rfl, rfl⟩)
  go_end0
  exact ⟨rfl, rfl⟩
set_option maxHeartbeats 400000 in
theorem silent_un (p : Option Addr) (w : World) (h : Unmade w p) :
    Calls Try.prog 16 #[.pointer p] w fun e w' => e = .returned (.int .i64 0) ∧ w = w' := by
  have h1 := Lib.hid (none_un p w h)
  clear h
  go_enter Try.func16, Try.ntmps16
  go_wp2_with (go_at_call 19; refine h1.out.mono ?_; rintro e w' ⟨rfl, rfl⟩)
  go_ret
  exact ⟨rfl, rfl⟩

set_option maxHeartbeats 1000000 in
theorem nil_any (leads : Bool) (n : Nat) (hn : n < 256) (w : World) :
    Calls Try.prog 4 #[.bool leads, .int .u8 n] w fun e w' => e = .returned (.bool true) ∧ Below w.heap.size w w' := by
  go_enter Try.func4, Try.ntmps4
  go_wp2_with fail
  have h0 : Unmade ((w.alloc (.cells #[.int .i64 0, .int .i64 0, .int .i64 0, .int .i64 0] 44)).alloc (.cells #[.pointer none, .pointer (some ⟨w.heap.size, 0, none⟩)] 23)) none := .inl rfl
  have h1 : Unmade ((w.alloc (.cells #[.int .i64 0, .int .i64 0, .int .i64 0, .int .i64 0] 44)).alloc (.cells #[.pointer none, .pointer (some ⟨w.heap.size, 0, none⟩)] 23)) (some ⟨w.heap.size, 0, none⟩) :=
    .inr ⟨_, rfl, (Whole.new w 44 [.int .i64 0, .int .i64 0, .int .i64 0, .int .i64 0]).alloc _⟩
  have hs := Whole.new (w.alloc (.cells #[.int .i64 0, .int .i64 0, .int .i64 0, .int .i64 0] 44)) 23 [.pointer none, .pointer (some ⟨w.heap.size, 0, none⟩)]
  rw [World.size_alloc] at hs
  have c0 := hs.cell 0
  have c1 := hs.cell 1
  simp only [List.getElem?_cons_zero, List.getElem?_cons_succ] at c0 c1
  have hb : Below w.heap.size w ((w.alloc (.cells #[.int .i64 0, .int .i64 0, .int .i64 0, .int .i64 0] 44)).alloc (.cells #[.pointer none, .pointer (some ⟨w.heap.size, 0, none⟩)] 23)) :=
    ((Below.refl _ _).alloc (Nat.le_refl _) _).alloc (by simp) _
  clear hs
  generalize (w.alloc (.cells #[.int .i64 0, .int .i64 0, .int .i64 0, .int .i64 0] 44)).alloc (.cells #[.pointer none, .pointer (some ⟨w.heap.size, 0, none⟩)] 23) = W at *
  have H0 := Lib.hid h0; clear h0
  have H1 := Lib.hid h1; clear h1
  go_loop [7] (fun i => ∃ k : Nat, k ≤ 2 ∧ i = .int .i64 k) (fun i => 2 - (intOf i).toNat)
  case atStart => exact ⟨0, by omega, rfl⟩
  case round =>
    obtain ⟨k, hk, rfl⟩ := hrel
    have hk3 : k = 0 ∨ k = 1 ∨ k = 2 := by omega
    rcases hk3 with rfl | rfl | rfl
    · go_wp2_with fail
      go_loop [8] (fun j => ∃ m : Nat, m ≤ n ∧ j = .int .i64 m) (fun j => n - (intOf j).toNat)
      case atStart => exact ⟨0, by omega, rfl⟩
      case round =>
        obtain ⟨m, hm, rfl⟩ := hrel
        by_cases hlt : m < n
        · go_wp2_with (go_at_call 14; refine (tick_un _ _ _ H0.out).mono ?_; rintro e w' ⟨rfl, rfl⟩)
          go_round
          case rel => exact ⟨m + 1, by omega, by go_num⟩
          case measure => simp [intOf]; omega
        · go_wp2_with (first
            | (go_at_call 12; refine (hear_un _ _ H0.out).mono ?_; rintro e w' ⟨rfl, rfl⟩)
            | (go_at_call 16; refine (silent_un _ _ H0.out).mono ?_; rintro e w' ⟨rfl, rfl⟩))
          go_round
          case rel => exact ⟨1, by omega, by go_num⟩
          case measure => simp [intOf]
    · go_wp2_with fail
      go_loop [8] (fun j => ∃ m : Nat, m ≤ n ∧ j = .int .i64 m) (fun j => n - (intOf j).toNat)
      case atStart => exact ⟨0, by omega, rfl⟩
      case round =>
        obtain ⟨m, hm, rfl⟩ := hrel
        by_cases hlt : m < n
        · go_wp2_with (go_at_call 14; refine (tick_un _ _ _ H1.out).mono ?_; rintro e w' ⟨rfl, rfl⟩)
          go_round
          case rel => exact ⟨m + 1, by omega, by go_num⟩
          case measure => simp [intOf]; omega
        · go_wp2_with (first
            | (go_at_call 12; refine (hear_un _ _ H1.out).mono ?_; rintro e w' ⟨rfl, rfl⟩)
            | (go_at_call 16; refine (silent_un _ _ H1.out).mono ?_; rintro e w' ⟨rfl, rfl⟩))
          go_round
          case rel => exact ⟨2, by omega, by go_num⟩
          case measure => simp [intOf]
    · go_wp2_with (go_at_call 17; refine (awake_any _).mono ?_; rintro e w1 ⟨rfl, hb1⟩)
      go_ret
      exact ⟨rfl, hb.trans (hb1.mono hb.size)⟩

end Ck
end Go.Proofs.Ytgjcenmjjjkigaa
