/- What the queue's small functions return (packages queue and kv), function by function. -/
import Derived.Test.YtinnpeonokdljaaQueuePlain
import Derived.Test.YtinnpeonokdljaaQuorumEnough
set_option linter.unusedSimpArgs false
set_option linter.unusedVariables false
namespace Go.Proofs.Ytinnpeonokdljaa
open Go.RowKit

namespace Qu

set_option maxHeartbeats 1000000 in
theorem number1_any (n least : Int) (g : Nat) (w : World) (hc : w.cell? ⟨g, 0, none⟩ = some (.int .i64 least)) :
    Calls Try.prog 53 #[.int .i64 n, .pointer (some ⟨g, 0, none⟩)] w fun e w' => e = .returned (.bool (!numB least n)) ∧ w = w' := by
  go_enter Try.func53, Try.ntmps53
  by_cases h1 : n < least
  · go_wp2_with fail
    go_ret
    exact ⟨by unfold numB; rw [decide_eq_false (by omega)]; first | rfl | simp [h1], rfl⟩
  · go_wp2_with fail
    go_ret
    refine ⟨?_, rfl⟩
    unfold numB
    by_cases h2 : 1099511627776 < n
    · rw [decide_eq_false (by omega : ¬ n ≤ 1099511627776)]; simp [h1, h2]
    · rw [decide_eq_true (by omega : n ≤ 1099511627776), decide_eq_true (by omega : least ≤ n)]; simp [h1, h2]

set_option maxHeartbeats 1000000 in
theorem indexInt1 (b g : Nat) (least n : Int) (w : World) (hb : w.cell? ⟨b, 0, none⟩ = some (.int .i64 n)) (hg : w.cell? ⟨g, 0, none⟩ = some (.int .i64 least)) :
    Calls Try.prog 63 #[.slice (some ⟨b, 0, none⟩) 1 1, .func (.func 53) #[] #[.pointer (some ⟨g, 0, none⟩)]] w fun e w' =>
      (∃ i : Int, e = .returned (.int .i64 i) ∧ decide (0 ≤ i) = !numB least n) ∧ w = w' := by
  have N := Lib.hid (number1_any n least g)
  cases hq : numB least n with
  | true =>
    rw [hq] at N
    go_enter Try.func63, Try.ntmps63
    go_wp2_with fail
    go_loopw [8] (fun i wr => ∃ k : Nat, k ≤ 1 ∧ i = .int .i64 k ∧ w = wr) (fun i _ => 1 - (intOf i).toNat)
    case atStart => exact ⟨0, by omega, rfl, rfl⟩
    case round =>
      obtain ⟨k, hk, rfl, rfl⟩ := hrel
      obtain rfl | rfl : k = 0 ∨ k = 1 := by omega
      · go_wp2_with fail
        refine (N.out w hg).mono ?_
        rintro e u ⟨rfl, rfl⟩
        go_wp2_with fail
        go_roundw
        case rel => first | exact ⟨1, by omega, rfl, rfl⟩ | exact ⟨1, by omega, rfl, trivial⟩
        case measure => simp [intOf]
      · go_wp2_with fail
        go_ret
        exact ⟨⟨-1, rfl, rfl⟩, rfl⟩
  | false =>
    rw [hq] at N
    go_enter Try.func63, Try.ntmps63
    go_wp2_with fail
    go_loopw [8] (fun i wr => i = .int .i64 (0 : Nat) ∧ w = wr) (fun i _ => 0)
    case atStart => exact ⟨rfl, rfl⟩
    case round =>
      obtain ⟨rfl, rfl⟩ := hrel
      go_wp2_with fail
      refine (N.out w hg).mono ?_
      rintro e u ⟨rfl, rfl⟩
      go_wp2_with fail
      go_ret
      exact ⟨⟨0, rfl, rfl⟩, rfl⟩

set_option maxHeartbeats 1000000 in
theorem containsInt1 (b g : Nat) (least n : Int) (w : World) (hb : w.cell? ⟨b, 0, none⟩ = some (.int .i64 n)) (hg : w.cell? ⟨g, 0, none⟩ = some (.int .i64 least)) :
    Calls Try.prog 52 #[.slice (some ⟨b, 0, none⟩) 1 1, .func (.func 53) #[] #[.pointer (some ⟨g, 0, none⟩)]] w fun e w' =>
      e = .returned (.bool (!numB least n)) ∧ w = w' := by
  have N := Lib.hid (indexInt1 b g least n w hb hg)
  clear hb hg
  go_enter Try.func52, Try.ntmps52
  go_wp2_with fail
  refine N.out.mono ?_
  rintro e u ⟨⟨i, rfl, hi⟩, rfl⟩
  have HI := Lib.hid hi
  clear hi
  go_wp2_with fail
  go_ret
  exact ⟨by rw [← HI.out]; rfl, rfl⟩

set_option maxHeartbeats 1000000 in
theorem number_any (b : Nat) (least n : Int) (w : World) (hb : w.cell? ⟨b, 0, none⟩ = some (.int .i64 n)) :
    Calls Try.prog 34 #[.int .i64 least, .slice (some ⟨b, 0, none⟩) 1 1] w fun e w' =>
      e = .returned (.bool (numB least n)) ∧ Below w.heap.size w w' := by
  have hlt := World.block_lt_of_cell? w ⟨b, 0, none⟩ hb
  have H0 := Whole.new w 3 [.int .i64 least]
  have N := Lib.hid (containsInt1 b w.heap.size least n (w.alloc (.cells #[.int .i64 least] 3)) ((World.cell?_alloc_lt w _ ⟨b, 0, none⟩ hlt).trans hb) (H0.cell 0))
  have HB := Lib.hid (be1 w (.cells #[.int .i64 least] 3))
  clear H0
  go_enter Try.func34, Try.ntmps34
  go_wp2_with fail
  refine N.out.mono ?_
  rintro e u ⟨rfl, rfl⟩
  go_wp2_with fail
  go_ret
  exact ⟨rfl, HB.out⟩

set_option maxHeartbeats 1000000 in
theorem key_any (s : ByteArray) (w : World) : Calls Try.prog 60 #[.string s] w fun e w' => e = .returned (.bool (decide (1 ≤ s.size) && decide (s.size ≤ 8))) ∧ w = w' := by
  go_enter Try.func60, Try.ntmps60
  by_cases h : 1 ≤ (s.size : Int)
  · go_wp2_with fail
    go_ret
    refine ⟨?_, rfl⟩
    congr 2
    rw [decide_eq_true (by omega : 1 ≤ s.size)]
    by_cases h2 : s.size ≤ 8
    · simp [h2]; omega
    · simp [h2]; omega
  · go_wp2_with fail
    go_ret
    refine ⟨?_, rfl⟩
    rw [decide_eq_false (by omega : ¬ 1 ≤ s.size)]; rfl
set_option maxHeartbeats 1000000 in
theorem value_any (s : ByteArray) (w : World) : Calls Try.prog 61 #[.string s] w fun e w' => e = .returned (.bool (decide (s.size ≤ 16))) ∧ w = w' := by
  go_enter Try.func61, Try.ntmps61
  go_wp2_with fail
  go_ret
  refine ⟨?_, rfl⟩
  congr 2
  by_cases h2 : s.size ≤ 16
  · simp [h2]; omega
  · simp [h2]; omega

end Qu
end Go.Proofs.Ytinnpeonokdljaa
