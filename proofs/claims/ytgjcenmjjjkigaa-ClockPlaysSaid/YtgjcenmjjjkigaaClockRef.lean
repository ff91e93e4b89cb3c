/- What the document's functions on clocks (sextonref19), and the laws' helpers, return and do. -/
import Derived.Test.YtgjcenmjjjkigaaClockWalks
namespace Go.Proofs.Ytgjcenmjjjkigaa
open Go.RowKit

namespace Ck

/-- Block g is the document's clock: whose it is, the ticks without a word, those that were led. -/
def IsRef (w : World) (g : Nat) (r : Int) (s l : Nat) : Prop := Whole w g 35 [.int .i64 r, .int .i64 s, .int .i64 l]

set_option maxHeartbeats 400000 in
theorem rpat_any (r : Int) (w : World) :
    Calls Try.prog 11 #[.int .i64 r] w fun e w' => e = .returned (.int .i64 (patN r)) ∧ w = w' := by
  by_cases h0 : r < 0
  · have h : patN r = 0 := by unfold patN; rw [if_neg (by omega)]
    rw [h]; clear h
    go_enter Try.func11, Try.ntmps11
    go_wp2
    go_ret
    exact ⟨rfl, rfl⟩
  by_cases h7 : 6 < r
  · have h : patN r = 0 := by unfold patN; rw [if_neg (by omega)]
    rw [h]; clear h
    go_enter Try.func11, Try.ntmps11
    go_wp2
    go_ret
    exact ⟨rfl, rfl⟩
  obtain ⟨m, rfl⟩ := Int.eq_ofNat_of_zero_le (show 0 ≤ r by omega)
  have h : ((patN (m : Int) : Nat) : Int) = 10 + 4 * m := by unfold patN; rw [if_pos (by omega)]; omega
  have hm : m ≤ 6 := by omega
  rw [h]; clear h h0 h7
  go_enter Try.func11, Try.ntmps11
  go_wp2_with fail
  go_loop [3, 4] (fun v i => ∃ k : Nat, k ≤ m ∧ i = .int .i64 k ∧ v = .int .i64 (10 + 4 * (k : Int))) (fun _ i => m - (intOf i).toNat)
  case atStart => exact ⟨0, Nat.zero_le _, rfl, rfl⟩
  case round =>
    obtain ⟨k, hk, rfl, rfl⟩ := hrel
    by_cases hlt : k < m
    · go_wp2_with fail
      go_round
      case rel => exact ⟨k + 1, by omega, by go_num, by go_num⟩
      case measure => simp [intOf]; omega
    · have e : k = m := by omega
      subst e
      go_wp2_with fail
      go_ret
      exact ⟨rfl, rfl⟩

set_option maxHeartbeats 400000 in
theorem rnew_any (r : Int) (w : World) :
    Calls Try.prog 9 #[.int .i64 r] w fun e w' => e = .returned (.tuple #[.pointer (some ⟨w.heap.size, 0, none⟩), .bool (decide (0 < patN r))]) ∧ w.alloc (.cells #[.int .i64 r, .int .i64 0, .int .i64 0] 35) = w' := by
  go_enter Try.func9, Try.ntmps9
  go_wp2_with (go_at_call 11; refine (rpat_any _ _).mono ?_; rintro e w' ⟨rfl, rfl⟩)
  go_ret2
  exact ⟨by simp, rfl⟩

set_option maxHeartbeats 400000 in
theorem rhear_any (g : Nat) (r : Int) (s l : Nat) (w : World) (hw : IsRef w g r s l) :
    Calls Try.prog 13 #[.pointer (some ⟨g, 0, none⟩)] w fun e w' => e = .returned (.tuple #[]) ∧ IsRef w' g r 0 l ∧ Only g w w' := by
  have c1 := hw.cell 1
  have f1 := hw.free 1
  simp only [List.getElem?_cons_zero, List.getElem?_cons_succ] at c1
  have h2 := Lib.hid (hw.set 1 (.int .i64 0))
  clear hw
  go_enter Try.func13, Try.ntmps13
  go_wp2
  go_end0
  exact ⟨rfl, h2.out, (Only.refl _ _).set _ _⟩

def rlead (l : Nat) : Nat := l + 1
def rwait (r : Int) (s : Nat) : Nat := if s + 1 = patN r then 0 else s + 1

set_option maxHeartbeats 400000 in
theorem rtick_leads (g : Nat) (r : Int) (s l : Nat) (hl : l < 100000) (w : World) (hw : IsRef w g r s l) :
    Calls Try.prog 15 #[.pointer (some ⟨g, 0, none⟩), .bool true] w fun e w' =>
      e = .returned (.tuple #[.bool false, .bool (decide ((l + 1) % 3 = 0))]) ∧ IsRef w' g r 0 (l + 1) ∧ Only g w w' := by
  have c1 := hw.cell 1
  have c2 := hw.cell 2
  have f1 := hw.free 1
  have f2 := hw.free 2
  simp only [List.getElem?_cons_zero, List.getElem?_cons_succ] at c1 c2
  have h2 := Lib.hid ((hw.set 1 (.int .i64 0)).set 2 (.int .i64 ((l : Int) + 1)))
  clear hw
  by_cases h0 : (l + 1) % 3 = 0
  · have e1 : (((l : Int) + 1) % 3 == 0) = true := by simp; omega
    have e2 : decide ((l + 1) % 3 = 0) = true := decide_eq_true h0
    rw [e2]; clear e2 h0
    go_enter Try.func15, Try.ntmps15
    go_wp2
    go_quiet (fail)
    go_wp2
    go_ret2
    exact ⟨rfl, h2.out.drewN _, (((Only.refl _ _).set _ _).set _ _).drewN _⟩
  · have e1 : (((l : Int) + 1) % 3 == 0) = false := by simp; omega
    have e2 : decide ((l + 1) % 3 = 0) = false := decide_eq_false h0
    rw [e2]; clear e2 h0
    go_enter Try.func15, Try.ntmps15
    go_wp2
    go_quiet (fail)
    go_wp2
    go_ret2
    exact ⟨rfl, h2.out.drewN _, (((Only.refl _ _).set _ _).set _ _).drewN _⟩

set_option maxHeartbeats 400000 in
theorem rtick_waits (g : Nat) (r : Int) (s l : Nat) (hs : s < 100000) (w : World) (hw : IsRef w g r s l) :
    Calls Try.prog 15 #[.pointer (some ⟨g, 0, none⟩), .bool false] w fun e w' =>
      e = .returned (.tuple #[.bool (decide (s + 1 = patN r)), .bool false]) ∧ IsRef w' g r (rwait r s) 0 ∧ Only g w w' := by
  have c0 := hw.cell 0
  have c1 := hw.cell 1
  have c2 := hw.cell 2
  have f1 := hw.free 1
  have f2 := hw.free 2
  simp only [List.getElem?_cons_zero, List.getElem?_cons_succ] at c0 c1 c2
  have h2 := Lib.hid ((hw.set 2 (.int .i64 0)).set 1 (.int .i64 ((s : Int) + 1)))
  clear hw
  by_cases h0 : s + 1 = patN r
  · have e1 : (((s : Int) + 1) == (patN r : Int)) = true := by simp; omega
    have e2 : decide (s + 1 = patN r) = true := decide_eq_true h0
    have e3 : rwait r s = 0 := by unfold rwait; rw [if_pos h0]
    rw [e2, e3]; clear e2 e3 h0
    go_enter Try.func15, Try.ntmps15
    go_wp2
    go_quiet ((go_at_call 11; exact Calls.quiet_of_same ((rpat_any _ _).mono fun _ _ h => ⟨h.1, h.2.symm⟩)))
    go_wp2
    go_ret2
    refine ⟨rfl, ?_, ((((Only.refl _ _).set _ _).set _ _).drewN _).set _ _⟩
    have := (h2.out.drewN nq).set 1 (.int .i64 0)
    rwa [List.set_set] at this
  · have e1 : (((s : Int) + 1) == (patN r : Int)) = false := by simp; omega
    have e2 : decide (s + 1 = patN r) = false := decide_eq_false h0
    have e3 : rwait r s = s + 1 := by unfold rwait; rw [if_neg h0]
    rw [e2, e3]; clear e2 e3 h0
    go_enter Try.func15, Try.ntmps15
    go_wp2
    go_quiet ((go_at_call 11; exact Calls.quiet_of_same ((rpat_any _ _).mono fun _ _ h => ⟨h.1, h.2.symm⟩)))
    go_wp2
    go_ret2
    exact ⟨rfl, h2.out.drewN _, (((Only.refl _ _).set _ _).set _ _).drewN _⟩

end Ck
end Go.Proofs.Ytgjcenmjjjkigaa
