/- What the program's functions on clocks return, and do (package clock), function by function. -/
import Derived.Test.YtgjcenmjjjkigaaClockPlain
import Derived.Test.YtgjcenmjjjkigaaBlocks
import Derived.Test.YtgjcenmjjjkigaaRows
import Derived.WalkKit
import Derived.WalkSpells
import Derived.WalkLawsBesides
import Derived.Deep.QuietTactic
import Derived.BigQuiet
namespace Go.Proofs.Ytgjcenmjjjkigaa
open Go.RowKit

namespace Ck

def St.cells (c : St) : List Value := [.int .i64 c.at_, .int .i64 c.most, .int .i64 c.beat, .int .i64 3]
/-- Block g is the clock c. -/
def IsClock (w : World) (g : Nat) (c : St) : Prop := Whole w g 44 c.cells

set_option maxHeartbeats 400000 in
theorem pat_any (r : Int) (w : World) :
    Calls Try.prog 10 #[.int .i64 r] w fun e w' => e = .returned (.int .i64 (patN r)) ∧ w = w' := by
  by_cases h0 : r < 0
  · have h : patN r = 0 := by unfold patN; rw [if_neg (by omega)]
    rw [h]; clear h
    go_enter Try.func10, Try.ntmps10
    go_wp2
    go_ret
    exact ⟨rfl, rfl⟩
  by_cases h7 : 7 ≤ r
  · have h : patN r = 0 := by unfold patN; rw [if_neg (by omega)]
    rw [h]; clear h
    go_enter Try.func10, Try.ntmps10
    go_wp2
    go_ret
    exact ⟨rfl, rfl⟩
  · have h : ((patN r : Nat) : Int) = 10 + 4 * r := by unfold patN; rw [if_pos (by omega)]; omega
    rw [h]; clear h
    go_enter Try.func10, Try.ntmps10
    go_wp2
    go_ret
    exact ⟨rfl, rfl⟩

set_option maxHeartbeats 400000 in
theorem new_bad (r : Int) (h : ¬(0 ≤ r ∧ r < 7)) (w : World) :
    Calls Try.prog 8 #[.int .i64 r] w fun e w' => e = .returned (.tuple #[.pointer none, .int .i64 2]) ∧ w = w' := by
  have hp : patN r = 0 := by unfold patN; rw [if_neg h]
  go_enter Try.func8, Try.ntmps8
  go_wp2_with (go_at_call 10; refine (pat_any _ _).mono ?_; rintro e w' ⟨rfl, rfl⟩)
  go_ret2
  exact ⟨rfl, rfl⟩

set_option maxHeartbeats 400000 in
theorem new_good (r : Int) (h : 0 ≤ r ∧ r < 7) (w : World) :
    Calls Try.prog 8 #[.int .i64 r] w fun e w' => e = .returned (.tuple #[.pointer (some ⟨w.heap.size, 0, none⟩), .int .i64 0]) ∧ w.alloc (.cells (new r).cells.toArray 44) = w' := by
  have hp : ((patN r : Nat) == (0 : Int)) = false := by have := patN_pos.2 h; simp; omega
  go_enter Try.func8, Try.ntmps8
  go_wp2_with (go_at_call 10; refine (pat_any _ _).mono ?_; rintro e w' ⟨rfl, rfl⟩)
  go_ret2
  exact ⟨rfl, rfl⟩

set_option maxHeartbeats 400000 in
theorem none_some (g : Nat) (c : St) (hc : c.ok) (w : World) (hw : IsClock w g c) :
    Calls Try.prog 19 #[.pointer (some ⟨g, 0, none⟩)] w fun e w' => e = .returned (.bool false) ∧ w = w' := by
  have c1 := hw.cell 1
  simp only [St.cells, List.getElem?_cons_zero, List.getElem?_cons_succ] at c1
  have hm : ((c.most : Int) == 0) = false := by have := hc.1; simp; omega
  clear hw hc
  go_enter Try.func19, Try.ntmps19
  go_wp2
  go_ret
  exact ⟨rfl, rfl⟩

set_option maxHeartbeats 400000 in
theorem phear_any (g : Nat) (t : TypeId) (cs : List Value) (w : World) (hw : Whole w g t cs) (v : Value) (h0 : cs[0]? = some v) (h1 : ∃ n, v = .int .i64 n) :
    Calls Try.prog 20 #[.pointer (some ⟨g, 0, none⟩)] w fun e w' => e = .returned (.tuple #[]) ∧ Whole w' g t (cs.set 0 (.int .i64 0)) ∧ Only g w w' := by
  obtain ⟨n, rfl⟩ := h1
  have c0 := (hw.cell 0).trans h0
  have f0 := hw.free 0
  have h2 := Lib.hid (hw.set 0 (.int .i64 0))
  clear hw h0
  go_enter Try.func20, Try.ntmps20
  go_wp2
  go_end0
  exact ⟨rfl, h2.out, (Only.refl _ _).set 0 _⟩

set_option maxHeartbeats 400000 in
theorem step_any (g o : Nat) (t : TypeId) (cs : List Value) (a m : Nat) (ha : a < 100) (w : World) (hw : Whole w g t cs) (h0 : cs[o]? = some (.int .i64 a)) (h1 : cs[o + 1]? = some (.int .i64 m)) :
    Calls Try.prog 21 #[.pointer (some ⟨g, o, none⟩)] w fun e w' => e = .returned (.bool (decide (m ≤ a + 1))) ∧
      Whole w' g t (cs.set o (.int .i64 ((if a + 1 < m then a + 1 else 0 : Nat) : Int))) ∧ Only g w w' := by
  have c0 := (hw.cell o).trans h0
  have c1 := (hw.cell (o + 1)).trans h1
  have f0 := hw.free o
  have h2 := Lib.hid (hw.set o (.int .i64 ((a : Int) + 1)))
  have Hw := Lib.hid hw
  clear hw h0 h1
  by_cases hlt : a + 1 < m
  · have e1 : decide (m ≤ a + 1) = false := decide_eq_false (by omega)
    rw [e1, if_pos hlt]; clear e1
    have hlt' : (a : Int) + 1 < (m : Int) := by omega
    go_enter Try.func21, Try.ntmps21
    go_wp2
    go_quiet (fail)
    go_wp2
    go_ret
    exact ⟨rfl, h2.out.drewN _, ((Only.refl _ _).set _ _).drewN _⟩
  · have e1 : decide (m ≤ a + 1) = true := decide_eq_true (by omega)
    rw [e1, if_neg hlt]; clear e1
    have hlt' : (m : Int) ≤ (a : Int) + 1 := by omega
    go_enter Try.func21, Try.ntmps21
    go_wp2
    go_quiet (fail)
    go_wp2
    go_ret
    refine ⟨rfl, ?_, (((Only.refl _ _).set _ _).drewN _).set _ _⟩
    have := (h2.out.drewN nq).set o (.int .i64 0)
    rwa [List.set_set] at this

set_option maxHeartbeats 400000 in
theorem hear_any (g : Nat) (c : St) (hc : c.ok) (w : World) (hw : IsClock w g c) :
    Calls Try.prog 12 #[.pointer (some ⟨g, 0, none⟩)] w fun e w' => e = .returned (.tuple #[]) ∧ IsClock w' g (hear c) ∧ Only g w w' := by
  have Hw := Lib.hid hw; clear hw
  have Hc := Lib.hid hc; clear hc
  go_enter Try.func12, Try.ntmps12
  go_wp2_with fail
  refine (none_some g c Hc.out _ Hw.out).mono ?_
  rintro e w' ⟨rfl, rfl⟩
  go_wp2_with fail
  refine (phear_any g _ _ _ Hw.out _ rfl ⟨_, rfl⟩).mono ?_
  rintro e w' ⟨rfl, hw', ho⟩
  have Hw' := Lib.hid hw'; clear hw'
  go_wp2_with fail
  go_end0
  exact ⟨rfl, Hw'.out, ho⟩

set_option maxHeartbeats 400000 in
theorem silent_any (g : Nat) (c : St) (hc : c.ok) (w : World) (hw : IsClock w g c) :
    Calls Try.prog 16 #[.pointer (some ⟨g, 0, none⟩)] w fun e w' => e = .returned (.int .i64 c.at_) ∧ w = w' := by
  have c0 := hw.cell 0
  simp only [St.cells, List.getElem?_cons_zero] at c0
  have Hw := Lib.hid hw; clear hw
  have Hc := Lib.hid hc; clear hc
  go_enter Try.func16, Try.ntmps16
  go_wp2_with fail
  refine (none_some g c Hc.out _ Hw.out).mono ?_
  rintro e w' ⟨rfl, rfl⟩
  go_wp2_with fail
  go_ret
  exact ⟨rfl, rfl⟩

set_option maxHeartbeats 400000 in
theorem tick_any (g : Nat) (c : St) (hc : c.ok) (leads : Bool) (w : World) (hw : IsClock w g c) :
    Calls Try.prog 14 #[.pointer (some ⟨g, 0, none⟩), .bool leads] w fun e w' =>
      e = .returned (.tuple #[.bool (stands c leads), .bool (beats c leads)]) ∧ IsClock w' g (tick c leads) ∧ Only g w w' := by
  have c2 := hw.cell 2
  have f2 := hw.free 2
  simp only [St.cells, List.getElem?_cons_zero, List.getElem?_cons_succ] at c2
  have Hw := Lib.hid hw; clear hw
  have Hc := Lib.hid hc; clear hc
  cases leads
  · have h2 := Lib.hid (Hw.out.set 2 (.int .i64 0))
    go_enter Try.func14, Try.ntmps14
    go_wp2_with fail
    refine (none_some g c Hc.out _ Hw.out).mono ?_
    rintro e w' ⟨rfl, rfl⟩
    go_wp2_with fail
    refine (step_any g 0 _ _ c.at_ c.most (by have := Hc.out.1; have := Hc.out.2.1; omega) _ h2.out rfl rfl).mono ?_
    rintro e w' ⟨rfl, hw', ho⟩
    have Hw' := Lib.hid hw'; clear hw'
    go_wp2_with fail
    go_ret2
    exact ⟨by simp [stands, beats], Hw'.out, ((Only.refl _ _).set _ _).trans ho⟩
  · go_enter Try.func14, Try.ntmps14
    go_wp2_with fail
    refine (none_some g c Hc.out _ Hw.out).mono ?_
    rintro e w' ⟨rfl, rfl⟩
    go_wp2_with fail
    refine (phear_any g _ _ _ Hw.out _ rfl ⟨_, rfl⟩).mono ?_
    rintro e w1 ⟨rfl, hw1, ho1⟩
    have Hw1 := Lib.hid hw1; clear hw1
    go_wp2_with fail
    refine (step_any g 2 _ _ c.beat 3 (by have := Hc.out.2.2; omega) _ Hw1.out rfl rfl).mono ?_
    rintro e w2 ⟨rfl, hw2, ho2⟩
    have Hw2 := Lib.hid hw2; clear hw2
    go_wp2_with fail
    go_ret2
    exact ⟨by simp [stands, beats], Hw2.out, ho1.trans ho2⟩

end Ck
end Go.Proofs.Ytgjcenmjjjkigaa
