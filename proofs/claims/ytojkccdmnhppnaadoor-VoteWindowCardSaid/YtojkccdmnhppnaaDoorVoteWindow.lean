/- The walk of the statement on which slots are inside. -/
import Derived.Test.YtojkccdmnhppnaaDoorVoteAwake
set_option linter.unusedSimpArgs false
set_option linter.unusedVariables false
namespace Go.Proofs.YtojkccdmnhppnaaDoor
open Go.RowKit

namespace Vo
open Bl

set_option maxHeartbeats 4000000 in
theorem window_out (s m i : Int) (w : World) (ht : Tab w) (h : s < 0 ∨ (0 ≤ s ∧ 1099511627676 < s) ∨ (0 ≤ s ∧ s ≤ 1099511627676 ∧ m < 0) ∨ (0 ≤ s ∧ s ≤ 1099511627676 ∧ 0 ≤ m ∧ 60 < m)) :
    Calls Tryd.prog 5 #[.int .i64 s, .int .i64 m, .int .i64 i] w fun e w' => e = .returned (.bool true) ∧ Below w.heap.size w w' := by
  have AW := Lib.hid (awake_any w ht)
  clear ht
  rcases h with h | ⟨h, h1⟩ | ⟨h, h1, h2⟩ | ⟨h, h1, h2, h3⟩
  all_goals
    go_enter Tryd.func5, Tryd.ntmps5
    go_wp2_with fail
    refine AW.out.mono ?_
    rintro e u ⟨rfl, hb⟩
    have HB := Lib.hid hb; clear hb
    go_wp2_with fail
    go_ret
    exact ⟨rfl, HB.out⟩

set_option maxHeartbeats 4000000 in
theorem window_bad (s m i : Int) (w : World) (ht : Tab w) (g1 : 0 ≤ s) (g2 : s ≤ 1099511627676) (g3 : 0 ≤ m) (g4 : m ≤ 60)  (hA : whereZ s i = (0, 2)) (hB : whereZ (s + m) i = (0, 2)) :
    Calls Tryd.prog 5 #[.int .i64 s, .int .i64 m, .int .i64 i] w fun e w' => e = .returned (.bool true) ∧ Below w.heap.size w w' := by
  have AW := Lib.hid (awake_any w ht)
  have A := where_any s i
  have B := where_any (s + m) i
  rw [hA] at A
  rw [hB] at B
  have A := Lib.hid A
  have B := Lib.hid B
  clear ht hA hB
  go_enter Tryd.func5, Tryd.ntmps5
  go_wp2_with fail
  refine AW.out.mono ?_
  rintro e u ⟨rfl, hb⟩
  have HB := Lib.hid hb; clear hb
  go_wp2_with fail
  go_loop [7, 8] (fun n j => ∃ k : Nat, 1 ≤ k ∧ k ≤ 41 ∧ j = .int .i64 k ∧ n = .int .i64 ((min (k - 1) 24 : Nat) : Int)) (fun _ j => (41 - intOf j).toNat)
  case atStart => exact ⟨1, by omega, by omega, rfl, rfl⟩
  case round =>
    obtain ⟨k, hk1, hk2, rfl, rfl⟩ := hrel
    by_cases h40 : k ≤ 40
    · have h40' : (k : Int) ≤ 40 := by omega
      have hk1' : (1 : Int) ≤ (k : Int) := by omega
      have W := where_any (s + k) (s + k)
      have W := where_any s (s + k)
      by_cases h24 : k ≤ 24
      · have h24' : (k : Int) ≤ 24 := by omega
        have hw : whereZ s (s + k) = (1, 0) := by
          rcases where_cases s (s + k) with ⟨hb, _⟩ | ⟨_, h1, _⟩ | ⟨_, _, _, h⟩ | ⟨_, _, h2, _⟩
          · have : badW s (s + k) = false := badW_false.2 ⟨by omega, by omega, by omega, by omega⟩
            rw [this] at hb; cases hb
          · omega
          · exact h
          · omega
        rw [hw] at W
        have W := Lib.hid W
        have e1 : ((min (k - 1) 24 : Nat) : Int) = (k : Int) - 1 := by omega
        have e2 : ((min (k + 1 - 1) 24 : Nat) : Int) = (k : Int) := by omega
        have e1 := Lib.hid e1
        have e2 := Lib.hid e2
        clear hw
        rw [e1.out]
        go_wp2_with fail
        refine (W.out _).mono ?_
        rintro e u1 ⟨rfl, rfl⟩
        go_wp2_with fail
        go_round
        case rel => exact ⟨k + 1, by omega, by omega, by go_num, by first | (rw [e2.out]; done) | (rw [e2.out]; congr 1; omega)⟩
        case measure => simp [intOf]; omega
      · have h24' : (24 : Int) < (k : Int) := by omega
        have hw : whereZ s (s + k) = (2, 0) := by
          rcases where_cases s (s + k) with ⟨hb, _⟩ | ⟨_, h1, _⟩ | ⟨_, _, h2, _⟩ | ⟨_, _, _, h⟩
          · have : badW s (s + k) = false := badW_false.2 ⟨by omega, by omega, by omega, by omega⟩
            rw [this] at hb; cases hb
          · omega
          · omega
          · exact h
        rw [hw] at W
        have W := Lib.hid W
        have e1 : ((min (k - 1) 24 : Nat) : Int) = 24 := by omega
        have e2 : ((min (k + 1 - 1) 24 : Nat) : Int) = 24 := by omega
        have e1 := Lib.hid e1
        have e2 := Lib.hid e2
        clear hw
        rw [e1.out]
        go_wp2_with fail
        refine (W.out _).mono ?_
        rintro e u1 ⟨rfl, rfl⟩
        go_wp2_with fail
        go_round
        case rel => exact ⟨k + 1, by omega, by omega, by go_num, by rw [e2.out]⟩
        case measure => simp [intOf]; omega
    · have e : k = 41 := by omega
      subst e
      have e1 : ((min (41 - 1) 24 : Nat) : Int) = 24 := by omega
      rw [e1]
      clear e1
      go_wp2_with fail
      refine (A.out _).mono ?_
      rintro e u1 ⟨rfl, rfl⟩
      go_wp2_with fail
      refine (B.out _).mono ?_
      rintro e u1 ⟨rfl, rfl⟩
      go_wp2_with fail
      go_ret
      exact ⟨by first | rfl | (simp; done) | (simp; omega), HB.out⟩

set_option maxHeartbeats 4000000 in
theorem window_cov (s m i : Int) (w : World) (ht : Tab w) (g1 : 0 ≤ s) (g2 : s ≤ 1099511627676) (g3 : 0 ≤ m) (g4 : m ≤ 60) (c1 : i ≤ s) (hA : whereZ s i = (0, 0)) (hB : whereZ (s + m) i = (0, 0)) :
    Calls Tryd.prog 5 #[.int .i64 s, .int .i64 m, .int .i64 i] w fun e w' => e = .returned (.bool true) ∧ Below w.heap.size w w' := by
  have AW := Lib.hid (awake_any w ht)
  have A := where_any s i
  have B := where_any (s + m) i
  rw [hA] at A
  rw [hB] at B
  have A := Lib.hid A
  have B := Lib.hid B
  clear ht hA hB
  go_enter Tryd.func5, Tryd.ntmps5
  go_wp2_with fail
  refine AW.out.mono ?_
  rintro e u ⟨rfl, hb⟩
  have HB := Lib.hid hb; clear hb
  go_wp2_with fail
  go_loop [7, 8] (fun n j => ∃ k : Nat, 1 ≤ k ∧ k ≤ 41 ∧ j = .int .i64 k ∧ n = .int .i64 ((min (k - 1) 24 : Nat) : Int)) (fun _ j => (41 - intOf j).toNat)
  case atStart => exact ⟨1, by omega, by omega, rfl, rfl⟩
  case round =>
    obtain ⟨k, hk1, hk2, rfl, rfl⟩ := hrel
    by_cases h40 : k ≤ 40
    · have h40' : (k : Int) ≤ 40 := by omega
      have hk1' : (1 : Int) ≤ (k : Int) := by omega
      have W := where_any (s + k) (s + k)
      have W := where_any s (s + k)
      by_cases h24 : k ≤ 24
      · have h24' : (k : Int) ≤ 24 := by omega
        have hw : whereZ s (s + k) = (1, 0) := by
          rcases where_cases s (s + k) with ⟨hb, _⟩ | ⟨_, h1, _⟩ | ⟨_, _, _, h⟩ | ⟨_, _, h2, _⟩
          · have : badW s (s + k) = false := badW_false.2 ⟨by omega, by omega, by omega, by omega⟩
            rw [this] at hb; cases hb
          · omega
          · exact h
          · omega
        rw [hw] at W
        have W := Lib.hid W
        have e1 : ((min (k - 1) 24 : Nat) : Int) = (k : Int) - 1 := by omega
        have e2 : ((min (k + 1 - 1) 24 : Nat) : Int) = (k : Int) := by omega
        have e1 := Lib.hid e1
        have e2 := Lib.hid e2
        clear hw
        rw [e1.out]
        go_wp2_with fail
        refine (W.out _).mono ?_
        rintro e u1 ⟨rfl, rfl⟩
        go_wp2_with fail
        go_round
        case rel => exact ⟨k + 1, by omega, by omega, by go_num, by first | (rw [e2.out]; done) | (rw [e2.out]; congr 1; omega)⟩
        case measure => simp [intOf]; omega
      · have h24' : (24 : Int) < (k : Int) := by omega
        have hw : whereZ s (s + k) = (2, 0) := by
          rcases where_cases s (s + k) with ⟨hb, _⟩ | ⟨_, h1, _⟩ | ⟨_, _, h2, _⟩ | ⟨_, _, _, h⟩
          · have : badW s (s + k) = false := badW_false.2 ⟨by omega, by omega, by omega, by omega⟩
            rw [this] at hb; cases hb
          · omega
          · omega
          · exact h
        rw [hw] at W
        have W := Lib.hid W
        have e1 : ((min (k - 1) 24 : Nat) : Int) = 24 := by omega
        have e2 : ((min (k + 1 - 1) 24 : Nat) : Int) = 24 := by omega
        have e1 := Lib.hid e1
        have e2 := Lib.hid e2
        clear hw
        rw [e1.out]
        go_wp2_with fail
        refine (W.out _).mono ?_
        rintro e u1 ⟨rfl, rfl⟩
        go_wp2_with fail
        go_round
        case rel => exact ⟨k + 1, by omega, by omega, by go_num, by rw [e2.out]⟩
        case measure => simp [intOf]; omega
    · have e : k = 41 := by omega
      subst e
      have e1 : ((min (41 - 1) 24 : Nat) : Int) = 24 := by omega
      rw [e1]
      clear e1
      go_wp2_with fail
      refine (A.out _).mono ?_
      rintro e u1 ⟨rfl, rfl⟩
      go_wp2_with fail
      refine (B.out _).mono ?_
      rintro e u1 ⟨rfl, rfl⟩
      go_wp2_with fail
      go_ret
      exact ⟨by first | rfl | (simp; done) | (simp; omega), HB.out⟩

set_option maxHeartbeats 4000000 in
theorem window_ins0 (s m i : Int) (w : World) (ht : Tab w) (g1 : 0 ≤ s) (g2 : s ≤ 1099511627676) (g3 : 0 ≤ m) (g4 : m ≤ 60) (c1 : s < i) (hA : whereZ s i = (1, 0)) (hB : whereZ (s + m) i = (0, 0)) :
    Calls Tryd.prog 5 #[.int .i64 s, .int .i64 m, .int .i64 i] w fun e w' => e = .returned (.bool true) ∧ Below w.heap.size w w' := by
  have AW := Lib.hid (awake_any w ht)
  have A := where_any s i
  have B := where_any (s + m) i
  rw [hA] at A
  rw [hB] at B
  have A := Lib.hid A
  have B := Lib.hid B
  clear ht hA hB
  go_enter Tryd.func5, Tryd.ntmps5
  go_wp2_with fail
  refine AW.out.mono ?_
  rintro e u ⟨rfl, hb⟩
  have HB := Lib.hid hb; clear hb
  go_wp2_with fail
  go_loop [7, 8] (fun n j => ∃ k : Nat, 1 ≤ k ∧ k ≤ 41 ∧ j = .int .i64 k ∧ n = .int .i64 ((min (k - 1) 24 : Nat) : Int)) (fun _ j => (41 - intOf j).toNat)
  case atStart => exact ⟨1, by omega, by omega, rfl, rfl⟩
  case round =>
    obtain ⟨k, hk1, hk2, rfl, rfl⟩ := hrel
    by_cases h40 : k ≤ 40
    · have h40' : (k : Int) ≤ 40 := by omega
      have hk1' : (1 : Int) ≤ (k : Int) := by omega
      have W := where_any (s + k) (s + k)
      have W := where_any s (s + k)
      by_cases h24 : k ≤ 24
      · have h24' : (k : Int) ≤ 24 := by omega
        have hw : whereZ s (s + k) = (1, 0) := by
          rcases where_cases s (s + k) with ⟨hb, _⟩ | ⟨_, h1, _⟩ | ⟨_, _, _, h⟩ | ⟨_, _, h2, _⟩
          · have : badW s (s + k) = false := badW_false.2 ⟨by omega, by omega, by omega, by omega⟩
            rw [this] at hb; cases hb
          · omega
          · exact h
          · omega
        rw [hw] at W
        have W := Lib.hid W
        have e1 : ((min (k - 1) 24 : Nat) : Int) = (k : Int) - 1 := by omega
        have e2 : ((min (k + 1 - 1) 24 : Nat) : Int) = (k : Int) := by omega
        have e1 := Lib.hid e1
        have e2 := Lib.hid e2
        clear hw
        rw [e1.out]
        go_wp2_with fail
        refine (W.out _).mono ?_
        rintro e u1 ⟨rfl, rfl⟩
        go_wp2_with fail
        go_round
        case rel => exact ⟨k + 1, by omega, by omega, by go_num, by first | (rw [e2.out]; done) | (rw [e2.out]; congr 1; omega)⟩
        case measure => simp [intOf]; omega
      · have h24' : (24 : Int) < (k : Int) := by omega
        have hw : whereZ s (s + k) = (2, 0) := by
          rcases where_cases s (s + k) with ⟨hb, _⟩ | ⟨_, h1, _⟩ | ⟨_, _, h2, _⟩ | ⟨_, _, _, h⟩
          · have : badW s (s + k) = false := badW_false.2 ⟨by omega, by omega, by omega, by omega⟩
            rw [this] at hb; cases hb
          · omega
          · omega
          · exact h
        rw [hw] at W
        have W := Lib.hid W
        have e1 : ((min (k - 1) 24 : Nat) : Int) = 24 := by omega
        have e2 : ((min (k + 1 - 1) 24 : Nat) : Int) = 24 := by omega
        have e1 := Lib.hid e1
        have e2 := Lib.hid e2
        clear hw
        rw [e1.out]
        go_wp2_with fail
        refine (W.out _).mono ?_
        rintro e u1 ⟨rfl, rfl⟩
        go_wp2_with fail
        go_round
        case rel => exact ⟨k + 1, by omega, by omega, by go_num, by rw [e2.out]⟩
        case measure => simp [intOf]; omega
    · have e : k = 41 := by omega
      subst e
      have e1 : ((min (41 - 1) 24 : Nat) : Int) = 24 := by omega
      rw [e1]
      clear e1
      go_wp2_with fail
      refine (A.out _).mono ?_
      rintro e u1 ⟨rfl, rfl⟩
      go_wp2_with fail
      refine (B.out _).mono ?_
      rintro e u1 ⟨rfl, rfl⟩
      go_wp2_with fail
      go_ret
      exact ⟨by first | rfl | (simp; done) | (simp; omega), HB.out⟩

set_option maxHeartbeats 4000000 in
theorem window_ins1 (s m i : Int) (w : World) (ht : Tab w) (g1 : 0 ≤ s) (g2 : s ≤ 1099511627676) (g3 : 0 ≤ m) (g4 : m ≤ 60) (c1 : s < i) (hA : whereZ s i = (1, 0)) (hB : whereZ (s + m) i = (1, 0)) :
    Calls Tryd.prog 5 #[.int .i64 s, .int .i64 m, .int .i64 i] w fun e w' => e = .returned (.bool true) ∧ Below w.heap.size w w' := by
  have AW := Lib.hid (awake_any w ht)
  have A := where_any s i
  have B := where_any (s + m) i
  rw [hA] at A
  rw [hB] at B
  have A := Lib.hid A
  have B := Lib.hid B
  clear ht hA hB
  go_enter Tryd.func5, Tryd.ntmps5
  go_wp2_with fail
  refine AW.out.mono ?_
  rintro e u ⟨rfl, hb⟩
  have HB := Lib.hid hb; clear hb
  go_wp2_with fail
  go_loop [7, 8] (fun n j => ∃ k : Nat, 1 ≤ k ∧ k ≤ 41 ∧ j = .int .i64 k ∧ n = .int .i64 ((min (k - 1) 24 : Nat) : Int)) (fun _ j => (41 - intOf j).toNat)
  case atStart => exact ⟨1, by omega, by omega, rfl, rfl⟩
  case round =>
    obtain ⟨k, hk1, hk2, rfl, rfl⟩ := hrel
    by_cases h40 : k ≤ 40
    · have h40' : (k : Int) ≤ 40 := by omega
      have hk1' : (1 : Int) ≤ (k : Int) := by omega
      have W := where_any (s + k) (s + k)
      have W := where_any s (s + k)
      by_cases h24 : k ≤ 24
      · have h24' : (k : Int) ≤ 24 := by omega
        have hw : whereZ s (s + k) = (1, 0) := by
          rcases where_cases s (s + k) with ⟨hb, _⟩ | ⟨_, h1, _⟩ | ⟨_, _, _, h⟩ | ⟨_, _, h2, _⟩
          · have : badW s (s + k) = false := badW_false.2 ⟨by omega, by omega, by omega, by omega⟩
            rw [this] at hb; cases hb
          · omega
          · exact h
          · omega
        rw [hw] at W
        have W := Lib.hid W
        have e1 : ((min (k - 1) 24 : Nat) : Int) = (k : Int) - 1 := by omega
        have e2 : ((min (k + 1 - 1) 24 : Nat) : Int) = (k : Int) := by omega
        have e1 := Lib.hid e1
        have e2 := Lib.hid e2
        clear hw
        rw [e1.out]
        go_wp2_with fail
        refine (W.out _).mono ?_
        rintro e u1 ⟨rfl, rfl⟩
        go_wp2_with fail
        go_round
        case rel => exact ⟨k + 1, by omega, by omega, by go_num, by first | (rw [e2.out]; done) | (rw [e2.out]; congr 1; omega)⟩
        case measure => simp [intOf]; omega
      · have h24' : (24 : Int) < (k : Int) := by omega
        have hw : whereZ s (s + k) = (2, 0) := by
          rcases where_cases s (s + k) with ⟨hb, _⟩ | ⟨_, h1, _⟩ | ⟨_, _, h2, _⟩ | ⟨_, _, _, h⟩
          · have : badW s (s + k) = false := badW_false.2 ⟨by omega, by omega, by omega, by omega⟩
            rw [this] at hb; cases hb
          · omega
          · omega
          · exact h
        rw [hw] at W
        have W := Lib.hid W
        have e1 : ((min (k - 1) 24 : Nat) : Int) = 24 := by omega
        have e2 : ((min (k + 1 - 1) 24 : Nat) : Int) = 24 := by omega
        have e1 := Lib.hid e1
        have e2 := Lib.hid e2
        clear hw
        rw [e1.out]
        go_wp2_with fail
        refine (W.out _).mono ?_
        rintro e u1 ⟨rfl, rfl⟩
        go_wp2_with fail
        go_round
        case rel => exact ⟨k + 1, by omega, by omega, by go_num, by rw [e2.out]⟩
        case measure => simp [intOf]; omega
    · have e : k = 41 := by omega
      subst e
      have e1 : ((min (41 - 1) 24 : Nat) : Int) = 24 := by omega
      rw [e1]
      clear e1
      go_wp2_with fail
      refine (A.out _).mono ?_
      rintro e u1 ⟨rfl, rfl⟩
      go_wp2_with fail
      refine (B.out _).mono ?_
      rintro e u1 ⟨rfl, rfl⟩
      go_wp2_with fail
      go_ret
      exact ⟨by first | rfl | (simp; done) | (simp; omega), HB.out⟩

set_option maxHeartbeats 4000000 in
theorem window_bey0 (s m i : Int) (w : World) (ht : Tab w) (g1 : 0 ≤ s) (g2 : s ≤ 1099511627676) (g3 : 0 ≤ m) (g4 : m ≤ 60) (c1 : s < i) (hA : whereZ s i = (2, 0)) (hB : whereZ (s + m) i = (0, 0)) :
    Calls Tryd.prog 5 #[.int .i64 s, .int .i64 m, .int .i64 i] w fun e w' => e = .returned (.bool true) ∧ Below w.heap.size w w' := by
  have AW := Lib.hid (awake_any w ht)
  have A := where_any s i
  have B := where_any (s + m) i
  rw [hA] at A
  rw [hB] at B
  have A := Lib.hid A
  have B := Lib.hid B
  clear ht hA hB
  go_enter Tryd.func5, Tryd.ntmps5
  go_wp2_with fail
  refine AW.out.mono ?_
  rintro e u ⟨rfl, hb⟩
  have HB := Lib.hid hb; clear hb
  go_wp2_with fail
  go_loop [7, 8] (fun n j => ∃ k : Nat, 1 ≤ k ∧ k ≤ 41 ∧ j = .int .i64 k ∧ n = .int .i64 ((min (k - 1) 24 : Nat) : Int)) (fun _ j => (41 - intOf j).toNat)
  case atStart => exact ⟨1, by omega, by omega, rfl, rfl⟩
  case round =>
    obtain ⟨k, hk1, hk2, rfl, rfl⟩ := hrel
    by_cases h40 : k ≤ 40
    · have h40' : (k : Int) ≤ 40 := by omega
      have hk1' : (1 : Int) ≤ (k : Int) := by omega
      have W := where_any (s + k) (s + k)
      have W := where_any s (s + k)
      by_cases h24 : k ≤ 24
      · have h24' : (k : Int) ≤ 24 := by omega
        have hw : whereZ s (s + k) = (1, 0) := by
          rcases where_cases s (s + k) with ⟨hb, _⟩ | ⟨_, h1, _⟩ | ⟨_, _, _, h⟩ | ⟨_, _, h2, _⟩
          · have : badW s (s + k) = false := badW_false.2 ⟨by omega, by omega, by omega, by omega⟩
            rw [this] at hb; cases hb
          · omega
          · exact h
          · omega
        rw [hw] at W
        have W := Lib.hid W
        have e1 : ((min (k - 1) 24 : Nat) : Int) = (k : Int) - 1 := by omega
        have e2 : ((min (k + 1 - 1) 24 : Nat) : Int) = (k : Int) := by omega
        have e1 := Lib.hid e1
        have e2 := Lib.hid e2
        clear hw
        rw [e1.out]
        go_wp2_with fail
        refine (W.out _).mono ?_
        rintro e u1 ⟨rfl, rfl⟩
        go_wp2_with fail
        go_round
        case rel => exact ⟨k + 1, by omega, by omega, by go_num, by first | (rw [e2.out]; done) | (rw [e2.out]; congr 1; omega)⟩
        case measure => simp [intOf]; omega
      · have h24' : (24 : Int) < (k : Int) := by omega
        have hw : whereZ s (s + k) = (2, 0) := by
          rcases where_cases s (s + k) with ⟨hb, _⟩ | ⟨_, h1, _⟩ | ⟨_, _, h2, _⟩ | ⟨_, _, _, h⟩
          · have : badW s (s + k) = false := badW_false.2 ⟨by omega, by omega, by omega, by omega⟩
            rw [this] at hb; cases hb
          · omega
          · omega
          · exact h
        rw [hw] at W
        have W := Lib.hid W
        have e1 : ((min (k - 1) 24 : Nat) : Int) = 24 := by omega
        have e2 : ((min (k + 1 - 1) 24 : Nat) : Int) = 24 := by omega
        have e1 := Lib.hid e1
        have e2 := Lib.hid e2
        clear hw
        rw [e1.out]
        go_wp2_with fail
        refine (W.out _).mono ?_
        rintro e u1 ⟨rfl, rfl⟩
        go_wp2_with fail
        go_round
        case rel => exact ⟨k + 1, by omega, by omega, by go_num, by rw [e2.out]⟩
        case measure => simp [intOf]; omega
    · have e : k = 41 := by omega
      subst e
      have e1 : ((min (41 - 1) 24 : Nat) : Int) = 24 := by omega
      rw [e1]
      clear e1
      go_wp2_with fail
      refine (A.out _).mono ?_
      rintro e u1 ⟨rfl, rfl⟩
      go_wp2_with fail
      refine (B.out _).mono ?_
      rintro e u1 ⟨rfl, rfl⟩
      go_wp2_with fail
      go_ret
      exact ⟨by first | rfl | (simp; done) | (simp; omega), HB.out⟩

set_option maxHeartbeats 4000000 in
theorem window_bey1 (s m i : Int) (w : World) (ht : Tab w) (g1 : 0 ≤ s) (g2 : s ≤ 1099511627676) (g3 : 0 ≤ m) (g4 : m ≤ 60) (c1 : s < i) (hA : whereZ s i = (2, 0)) (hB : whereZ (s + m) i = (1, 0)) :
    Calls Tryd.prog 5 #[.int .i64 s, .int .i64 m, .int .i64 i] w fun e w' => e = .returned (.bool true) ∧ Below w.heap.size w w' := by
  have AW := Lib.hid (awake_any w ht)
  have A := where_any s i
  have B := where_any (s + m) i
  rw [hA] at A
  rw [hB] at B
  have A := Lib.hid A
  have B := Lib.hid B
  clear ht hA hB
  go_enter Tryd.func5, Tryd.ntmps5
  go_wp2_with fail
  refine AW.out.mono ?_
  rintro e u ⟨rfl, hb⟩
  have HB := Lib.hid hb; clear hb
  go_wp2_with fail
  go_loop [7, 8] (fun n j => ∃ k : Nat, 1 ≤ k ∧ k ≤ 41 ∧ j = .int .i64 k ∧ n = .int .i64 ((min (k - 1) 24 : Nat) : Int)) (fun _ j => (41 - intOf j).toNat)
  case atStart => exact ⟨1, by omega, by omega, rfl, rfl⟩
  case round =>
    obtain ⟨k, hk1, hk2, rfl, rfl⟩ := hrel
    by_cases h40 : k ≤ 40
    · have h40' : (k : Int) ≤ 40 := by omega
      have hk1' : (1 : Int) ≤ (k : Int) := by omega
      have W := where_any (s + k) (s + k)
      have W := where_any s (s + k)
      by_cases h24 : k ≤ 24
      · have h24' : (k : Int) ≤ 24 := by omega
        have hw : whereZ s (s + k) = (1, 0) := by
          rcases where_cases s (s + k) with ⟨hb, _⟩ | ⟨_, h1, _⟩ | ⟨_, _, _, h⟩ | ⟨_, _, h2, _⟩
          · have : badW s (s + k) = false := badW_false.2 ⟨by omega, by omega, by omega, by omega⟩
            rw [this] at hb; cases hb
          · omega
          · exact h
          · omega
        rw [hw] at W
        have W := Lib.hid W
        have e1 : ((min (k - 1) 24 : Nat) : Int) = (k : Int) - 1 := by omega
        have e2 : ((min (k + 1 - 1) 24 : Nat) : Int) = (k : Int) := by omega
        have e1 := Lib.hid e1
        have e2 := Lib.hid e2
        clear hw
        rw [e1.out]
        go_wp2_with fail
        refine (W.out _).mono ?_
        rintro e u1 ⟨rfl, rfl⟩
        go_wp2_with fail
        go_round
        case rel => exact ⟨k + 1, by omega, by omega, by go_num, by first | (rw [e2.out]; done) | (rw [e2.out]; congr 1; omega)⟩
        case measure => simp [intOf]; omega
      · have h24' : (24 : Int) < (k : Int) := by omega
        have hw : whereZ s (s + k) = (2, 0) := by
          rcases where_cases s (s + k) with ⟨hb, _⟩ | ⟨_, h1, _⟩ | ⟨_, _, h2, _⟩ | ⟨_, _, _, h⟩
          · have : badW s (s + k) = false := badW_false.2 ⟨by omega, by omega, by omega, by omega⟩
            rw [this] at hb; cases hb
          · omega
          · omega
          · exact h
        rw [hw] at W
        have W := Lib.hid W
        have e1 : ((min (k - 1) 24 : Nat) : Int) = 24 := by omega
        have e2 : ((min (k + 1 - 1) 24 : Nat) : Int) = 24 := by omega
        have e1 := Lib.hid e1
        have e2 := Lib.hid e2
        clear hw
        rw [e1.out]
        go_wp2_with fail
        refine (W.out _).mono ?_
        rintro e u1 ⟨rfl, rfl⟩
        go_wp2_with fail
        go_round
        case rel => exact ⟨k + 1, by omega, by omega, by go_num, by rw [e2.out]⟩
        case measure => simp [intOf]; omega
    · have e : k = 41 := by omega
      subst e
      have e1 : ((min (41 - 1) 24 : Nat) : Int) = 24 := by omega
      rw [e1]
      clear e1
      go_wp2_with fail
      refine (A.out _).mono ?_
      rintro e u1 ⟨rfl, rfl⟩
      go_wp2_with fail
      refine (B.out _).mono ?_
      rintro e u1 ⟨rfl, rfl⟩
      go_wp2_with fail
      go_ret
      exact ⟨by first | rfl | (simp; done) | (simp; omega), HB.out⟩

set_option maxHeartbeats 4000000 in
theorem window_bey2 (s m i : Int) (w : World) (ht : Tab w) (g1 : 0 ≤ s) (g2 : s ≤ 1099511627676) (g3 : 0 ≤ m) (g4 : m ≤ 60) (c1 : s < i) (hA : whereZ s i = (2, 0)) (hB : whereZ (s + m) i = (2, 0)) :
    Calls Tryd.prog 5 #[.int .i64 s, .int .i64 m, .int .i64 i] w fun e w' => e = .returned (.bool true) ∧ Below w.heap.size w w' := by
  have AW := Lib.hid (awake_any w ht)
  have A := where_any s i
  have B := where_any (s + m) i
  rw [hA] at A
  rw [hB] at B
  have A := Lib.hid A
  have B := Lib.hid B
  clear ht hA hB
  go_enter Tryd.func5, Tryd.ntmps5
  go_wp2_with fail
  refine AW.out.mono ?_
  rintro e u ⟨rfl, hb⟩
  have HB := Lib.hid hb; clear hb
  go_wp2_with fail
  go_loop [7, 8] (fun n j => ∃ k : Nat, 1 ≤ k ∧ k ≤ 41 ∧ j = .int .i64 k ∧ n = .int .i64 ((min (k - 1) 24 : Nat) : Int)) (fun _ j => (41 - intOf j).toNat)
  case atStart => exact ⟨1, by omega, by omega, rfl, rfl⟩
  case round =>
    obtain ⟨k, hk1, hk2, rfl, rfl⟩ := hrel
    by_cases h40 : k ≤ 40
    · have h40' : (k : Int) ≤ 40 := by omega
      have hk1' : (1 : Int) ≤ (k : Int) := by omega
      have W := where_any (s + k) (s + k)
      have W := where_any s (s + k)
      by_cases h24 : k ≤ 24
      · have h24' : (k : Int) ≤ 24 := by omega
        have hw : whereZ s (s + k) = (1, 0) := by
          rcases where_cases s (s + k) with ⟨hb, _⟩ | ⟨_, h1, _⟩ | ⟨_, _, _, h⟩ | ⟨_, _, h2, _⟩
          · have : badW s (s + k) = false := badW_false.2 ⟨by omega, by omega, by omega, by omega⟩
            rw [this] at hb; cases hb
          · omega
          · exact h
          · omega
        rw [hw] at W
        have W := Lib.hid W
        have e1 : ((min (k - 1) 24 : Nat) : Int) = (k : Int) - 1 := by omega
        have e2 : ((min (k + 1 - 1) 24 : Nat) : Int) = (k : Int) := by omega
        have e1 := Lib.hid e1
        have e2 := Lib.hid e2
        clear hw
        rw [e1.out]
        go_wp2_with fail
        refine (W.out _).mono ?_
        rintro e u1 ⟨rfl, rfl⟩
        go_wp2_with fail
        go_round
        case rel => exact ⟨k + 1, by omega, by omega, by go_num, by first | (rw [e2.out]; done) | (rw [e2.out]; congr 1; omega)⟩
        case measure => simp [intOf]; omega
      · have h24' : (24 : Int) < (k : Int) := by omega
        have hw : whereZ s (s + k) = (2, 0) := by
          rcases where_cases s (s + k) with ⟨hb, _⟩ | ⟨_, h1, _⟩ | ⟨_, _, h2, _⟩ | ⟨_, _, _, h⟩
          · have : badW s (s + k) = false := badW_false.2 ⟨by omega, by omega, by omega, by omega⟩
            rw [this] at hb; cases hb
          · omega
          · omega
          · exact h
        rw [hw] at W
        have W := Lib.hid W
        have e1 : ((min (k - 1) 24 : Nat) : Int) = 24 := by omega
        have e2 : ((min (k + 1 - 1) 24 : Nat) : Int) = 24 := by omega
        have e1 := Lib.hid e1
        have e2 := Lib.hid e2
        clear hw
        rw [e1.out]
        go_wp2_with fail
        refine (W.out _).mono ?_
        rintro e u1 ⟨rfl, rfl⟩
        go_wp2_with fail
        go_round
        case rel => exact ⟨k + 1, by omega, by omega, by go_num, by rw [e2.out]⟩
        case measure => simp [intOf]; omega
    · have e : k = 41 := by omega
      subst e
      have e1 : ((min (41 - 1) 24 : Nat) : Int) = 24 := by omega
      rw [e1]
      clear e1
      go_wp2_with fail
      refine (A.out _).mono ?_
      rintro e u1 ⟨rfl, rfl⟩
      go_wp2_with fail
      refine (B.out _).mono ?_
      rintro e u1 ⟨rfl, rfl⟩
      go_wp2_with fail
      go_ret
      exact ⟨by first | rfl | (simp; done) | (simp; omega), HB.out⟩

theorem window_any (s m i : Int) (w : World) (ht : Tab w) :
    Calls Tryd.prog 5 #[.int .i64 s, .int .i64 m, .int .i64 i] w fun e w' => e = .returned (.bool true) ∧ Below w.heap.size w w' := by
  by_cases a : s < 0
  · exact window_out s m i w ht (.inl a)
  by_cases b : 1099511627676 < s
  · exact window_out s m i w ht (.inr (.inl ⟨by omega, b⟩))
  by_cases c : m < 0
  · exact window_out s m i w ht (.inr (.inr (.inl ⟨by omega, by omega, c⟩)))
  by_cases d : 60 < m
  · exact window_out s m i w ht (.inr (.inr (.inr ⟨by omega, by omega, by omega, d⟩)))
  have g1 : 0 ≤ s := by omega
  have g2 : s ≤ 1099511627676 := by omega
  have g3 : 0 ≤ m := by omega
  have g4 : m ≤ 60 := by omega
  rcases where_cases s i with ⟨hb, h⟩ | ⟨hb, h1, h⟩ | ⟨hb, h1, h2, h⟩ | ⟨hb, h1, h2, h⟩
  · rcases where_cases (s + m) i with ⟨hb', h'⟩ | ⟨hb', _⟩ | ⟨hb', _⟩ | ⟨hb', _⟩
    · exact window_bad s m i w ht g1 g2 g3 g4 h h'
    all_goals
      have := badW_false.1 hb'
      have : badW s i = false := badW_false.2 ⟨by omega, by omega, by omega, by omega⟩
      rw [this] at hb; cases hb
  all_goals
    have hbb := badW_false.1 hb
    rcases where_cases (s + m) i with ⟨hb', h'⟩ | ⟨hb', k1, h'⟩ | ⟨hb', k1, k2, h'⟩ | ⟨hb', k1, k2, h'⟩
  all_goals first
    | (exfalso; have hq : badW (s + m) i = false := badW_false.2 ⟨by omega, by omega, by omega, by omega⟩; rw [hq] at hb'; cases hb'; done)
    | (exfalso; omega)
    | exact window_cov s m i w ht g1 g2 g3 g4 h1 h h'
    | exact window_ins0 s m i w ht g1 g2 g3 g4 h1 h h'
    | exact window_ins1 s m i w ht g1 g2 g3 g4 h1 h h'
    | exact window_bey0 s m i w ht g1 g2 g3 g4 h1 h h'
    | exact window_bey1 s m i w ht g1 g2 g3 g4 h1 h h'
    | exact window_bey2 s m i w ht g1 g2 g3 g4 h1 h h'

end Vo
end Go.Proofs.YtojkccdmnhppnaaDoor
