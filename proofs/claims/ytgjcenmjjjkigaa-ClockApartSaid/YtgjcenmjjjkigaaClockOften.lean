/- The walk of ClockOften. -/
import Derived.Test.YtgjcenmjjjkigaaClockAwake
namespace Go.Proofs.Ytgjcenmjjjkigaa
open Go.RowKit

namespace Ck

def repZ (n : Int) : Int := n % 18446744073709551616 % 7
theorem repZ_bd (n : Int) : 0 ≤ repZ n ∧ repZ n < 7 := by unfold repZ; omega
theorem rep_conv (n : Int) : wrap64 ((IntKind.u64.wrap n).tmod 7) = repZ n := by
  unfold repZ wrap64
  rw [IntKind.wrap_u64, Int.tmod_eq_emod_of_nonneg (by omega)]
  omega
def cntN (n : Int) : Nat := (n % 18446744073709551616 % 501).toNat
theorem cnt_conv (n : Int) : wrap64 ((IntKind.u64.wrap n).tmod 501) = (cntN n : Int) := by
  unfold cntN wrap64
  rw [IntKind.wrap_u64, Int.tmod_eq_emod_of_nonneg (by omega)]
  omega
theorem cntN_le (n : Int) : cntN n ≤ 500 := by unfold cntN; omega

/-- The clock behind k ticks of one kind. -/
def led (m k : Nat) (leads : Bool) : St := if leads then ⟨0, m, k % 3⟩ else ⟨k % m, m, 0⟩
theorem led_ok {m k : Nat} (leads : Bool) (h : 0 < m) (hm : m ≤ 34) : (led m k leads).ok := by
  unfold led St.ok
  have := Nat.mod_lt k h
  cases leads <;> simp <;> omega
theorem led_tick {m k : Nat} (leads : Bool) (h : 0 < m) : tick (led m k leads) leads = led m (k + 1) leads := by
  unfold led tick
  have := Nat.mod_lt k h
  cases leads
  · simp only [Bool.false_eq_true, if_false]
    by_cases hlt : k % m + 1 < m
    · rw [if_pos hlt, Nat.add_mod, Nat.mod_eq_of_lt (b := m) (a := k % m + 1 % m)]
      · by_cases h1 : m = 1
        · omega
        · rw [Nat.mod_eq_of_lt (show 1 < m by omega)]
      · by_cases h1 : m = 1
        · omega
        · rw [Nat.mod_eq_of_lt (show 1 < m by omega)]; exact hlt
    · rw [if_neg hlt]
      have e : (k + 1) % m = 0 := by
        have e1 : k % m + 1 = m := by omega
        have := Nat.div_add_mod k m
        have e2 : k + 1 = m * (k / m) + m := by omega
        rw [e2, ← Nat.mul_succ]
        exact Nat.mul_mod_right _ _
      rw [e]
  · simp only [if_true]
    congr 1
    split <;> omega
theorem led_stands {m k : Nat} (leads : Bool) (h : 0 < m) : stands (led m k leads) leads = (!leads && decide ((k + 1) % m = 0)) := by
  unfold led stands
  have := Nat.mod_lt k h
  cases leads
  · simp only [Bool.not_false, Bool.true_and, Bool.false_eq_true, if_false]
    apply decide_eq_decide.2
    constructor
    · intro hle
      have e1 : k % m + 1 = m := by omega
      have := Nat.div_add_mod k m
      have e2 : k + 1 = m * (k / m) + m := by omega
      rw [e2, ← Nat.mul_succ]
      exact Nat.mul_mod_right _ _
    · intro h0
      apply Nat.le_of_not_lt
      intro hlt
      have := Nat.div_add_mod k m
      have e2 : k + 1 = m * (k / m) + (k % m + 1) := by omega
      rw [e2, Nat.mul_add_mod, Nat.mod_eq_of_lt hlt] at h0
      omega
  · simp
theorem led_beats {m k : Nat} (leads : Bool) : beats (led m k leads) leads = (leads && decide ((k + 1) % 3 = 0)) := by
  unfold led beats
  cases leads
  · simp
  · simp only [Bool.true_and, if_true]
    apply decide_eq_decide.2
    omega

theorem run_rem_pos (P : Program) (w : World) (a b : Int) (h0 : 0 ≤ a) (hb : 0 < b) : (Op.intDiv .rem .i64 a b).run P w = .ok (.int .i64 (a % b)) w := by
  have hne : ¬ b = 0 := by omega
  simp [Op.intDiv, hne, go_sem, Int.tmod_eq_emod_of_nonneg h0]

set_option maxHeartbeats 1000000 in
theorem often_any (r n : Int) (leads : Bool) (w : World) :
    Calls Try.prog 5 #[.int .i64 r, .int .i64 n, .bool leads] w fun e w' => e = .returned (.bool true) ∧ Below w.heap.size w w' := by
  have er := rep_conv r
  have en := cnt_conv n
  have hr := repZ_bd r
  have hn := cntN_le n
  have hp := patN_le (repZ r)
  have hp0 : 0 < patN (repZ r) := by have := patN_pos.2 hr; omega
  have hpi : (0 : Int) < (patN (repZ r) : Int) := by omega
  go_enter Try.func5, Try.ntmps5
  go_wp2_with fail
  refine (awake_any _).mono ?_
  rintro e w1 ⟨rfl, hb1⟩
  go_wp2_with fail
  simp only [er, en]
  refine (new_good _ hr _).mono ?_
  rintro e w2 ⟨rfl, rfl⟩
  have hw : IsClock (w1.alloc (.cells (new (repZ r)).cells.toArray 44)) w1.heap.size (new (repZ r)) := Whole.new _ _ _
  have hb : Below w.heap.size w (w1.alloc (.cells (new (repZ r)).cells.toArray 44)) := hb1.alloc hb1.size _
  have hg : w1.heap.size < (w1.alloc (.cells (new (repZ r)).cells.toArray 44)).heap.size := hw.lt
  have hg1 := hb1.size
  generalize w1.alloc (.cells (new (repZ r)).cells.toArray 44) = w2 at *
  have hw' : IsClock w2 w1.heap.size (led (patN (repZ r)) 0 leads) := by
    have : led (patN (repZ r)) 0 leads = new (repZ r) := by unfold led new; cases leads <;> simp
    rw [this]; exact hw
  have HW := Lib.hid hw'; clear hw hw'
  have ER := Lib.hid er; clear er
  have EN := Lib.hid en; clear en
  generalize w1.heap.size = g at *
  cases leads
  · have hst := fun k => led_stands (m := patN (repZ r)) (k := k) false hp0
    have hbt := fun k => led_beats (m := patN (repZ r)) (k := k) false
    have Hst := Lib.hid hst; clear hst
    have Hbt := Lib.hid hbt; clear hbt
    go_wp2_with (go_at_call 10; refine (pat_any _ _).mono ?_; rintro e w' ⟨rfl, rfl⟩)
    go_loopw [10] (fun i wr => ∃ j : Nat, j ≤ cntN n ∧ i = .int .i64 ((j : Int) + 1) ∧ IsClock wr g (led (patN (repZ r)) j false) ∧ Only g w2 wr) (fun i _ => cntN n + 1 - (intOf i).toNat)
    case atStart => exact ⟨0, Nat.zero_le _, rfl, HW.out, Only.refl _ _⟩
    case round =>
      obtain ⟨j, hj, rfl, hwr, ho⟩ := hrel
      have Hwr := Lib.hid hwr; clear hwr
      by_cases hlt : j < cntN n
      · have ht := @tick_any g (led (patN (repZ r)) j false) (led_ok false hp0 hp) false wr Hwr.out
        rw [led_tick false hp0, Hst.out, Hbt.out] at ht
        have hsil := @silent_any g (led (patN (repZ r)) (j + 1) false) (led_ok false hp0 hp)
        have eAt : ((led (patN (repZ r)) (j + 1) false).at_ : Int) = ((j : Int) + 1) % (patN (repZ r) : Int) := by simp [led]
        rw [eAt] at hsil; clear eAt
        have HT := Lib.hid ht; clear ht
        have HS := Lib.hid hsil; clear hsil
        have htm := Int.tmod_eq_emod_of_nonneg (a := (j : Int) + 1) (b := (patN (repZ r) : Int)) (by omega)
        by_cases h0 : (j + 1) % (patN (repZ r)) = 0
        · have e1 : (((j : Int) + 1) % (patN (repZ r) : Int) == 0) = true := by
            have : ((j : Int) + 1) % (patN (repZ r) : Int) = 0 := by exact_mod_cast h0
            simpa using this
          have e2 : decide ((j + 1) % (patN (repZ r)) = 0) = true := decide_eq_true h0
          rw [e2] at HT; clear e2 h0
          simp at HT
          go_wp2_with (go_at_call 14; refine HT.out.mono ?_; clear HT; rintro e w3 ⟨rfl, hw3, ho3⟩; have Hw3 := Lib.hid hw3; clear hw3)
          go_quiet ((go_at_call 16; exact Calls.quiet_of_same ((HS.out _ (Hw3.out.drewN _)).mono fun _ _ h => ⟨h.1, h.2.symm⟩)))
          go_wp2_with fail
          refine ⟨⟨j + 1, by omega, by go_num, Hw3.out.drewN _, (ho.trans ho3).drewN _⟩, by simp [intOf]; omega⟩
        · have e1 : (((j : Int) + 1) % (patN (repZ r) : Int) == 0) = false := by
            have : ¬ ((j : Int) + 1) % (patN (repZ r) : Int) = 0 := by exact_mod_cast h0
            simpa using this
          have e2 : decide ((j + 1) % (patN (repZ r)) = 0) = false := decide_eq_false h0
          rw [e2] at HT; clear e2 h0
          simp at HT
          go_wp2_with (go_at_call 14; refine HT.out.mono ?_; clear HT; rintro e w3 ⟨rfl, hw3, ho3⟩; have Hw3 := Lib.hid hw3; clear hw3)
          go_quiet ((go_at_call 16; exact Calls.quiet_of_same ((HS.out _ (Hw3.out.drewN _)).mono fun _ _ h => ⟨h.1, h.2.symm⟩)))
          go_wp2_with fail
          refine ⟨⟨j + 1, by omega, by go_num, Hw3.out.drewN _, (ho.trans ho3).drewN _⟩, by simp [intOf]; omega⟩
      · have e : j = cntN n := by omega
        subst e
        go_wp2_with fail
        go_ret
        exact ⟨rfl, Only.below hb ho (by omega) hg1⟩
  · have hst := fun k => led_stands (m := patN (repZ r)) (k := k) true hp0
    have hbt := fun k => led_beats (m := patN (repZ r)) (k := k) true
    have Hst := Lib.hid hst; clear hst
    have Hbt := Lib.hid hbt; clear hbt
    go_wp2_with (go_at_call 10; refine (pat_any _ _).mono ?_; rintro e w' ⟨rfl, rfl⟩)
    go_loopw [10] (fun i wr => ∃ j : Nat, j ≤ cntN n ∧ i = .int .i64 ((j : Int) + 1) ∧ IsClock wr g (led (patN (repZ r)) j true) ∧ Only g w2 wr) (fun i _ => cntN n + 1 - (intOf i).toNat)
    case atStart => exact ⟨0, Nat.zero_le _, rfl, HW.out, Only.refl _ _⟩
    case round =>
      obtain ⟨j, hj, rfl, hwr, ho⟩ := hrel
      have Hwr := Lib.hid hwr; clear hwr
      by_cases hlt : j < cntN n
      · have ht := @tick_any g (led (patN (repZ r)) j true) (led_ok true hp0 hp) true wr Hwr.out
        rw [led_tick true hp0, Hst.out, Hbt.out] at ht
        have hsil := @silent_any g (led (patN (repZ r)) (j + 1) true) (led_ok true hp0 hp)
        have eAt : ((led (patN (repZ r)) (j + 1) true).at_ : Int) = 0 := by simp [led]
        rw [eAt] at hsil; clear eAt
        have HT := Lib.hid ht; clear ht
        have HS := Lib.hid hsil; clear hsil
        have htm := Int.tmod_eq_emod_of_nonneg (a := (j : Int) + 1) (b := 3) (by omega)
        by_cases h0 : (j + 1) % 3 = 0
        · have e1 : (((j : Int) + 1) % 3 == 0) = true := by
            have : ((j : Int) + 1) % 3 = 0 := by exact_mod_cast h0
            simpa using this
          have e2 : decide ((j + 1) % 3 = 0) = true := decide_eq_true h0
          rw [e2] at HT; clear e2 h0
          simp at HT
          go_wp2_with (go_at_call 14; refine HT.out.mono ?_; clear HT; rintro e w3 ⟨rfl, hw3, ho3⟩; have Hw3 := Lib.hid hw3; clear hw3)
          go_quiet ((go_at_call 16; exact Calls.quiet_of_same ((HS.out _ (Hw3.out.drewN _)).mono fun _ _ h => ⟨h.1, h.2.symm⟩)))
          go_wp2_with fail
          refine ⟨⟨j + 1, by omega, by go_num, Hw3.out.drewN _, (ho.trans ho3).drewN _⟩, by simp [intOf]; omega⟩
        · have e1 : (((j : Int) + 1) % 3 == 0) = false := by
            have : ¬ ((j : Int) + 1) % 3 = 0 := by exact_mod_cast h0
            simpa using this
          have e2 : decide ((j + 1) % 3 = 0) = false := decide_eq_false h0
          rw [e2] at HT; clear e2 h0
          simp at HT
          go_wp2_with (go_at_call 14; refine HT.out.mono ?_; clear HT; rintro e w3 ⟨rfl, hw3, ho3⟩; have Hw3 := Lib.hid hw3; clear hw3)
          go_quiet ((go_at_call 16; exact Calls.quiet_of_same ((HS.out _ (Hw3.out.drewN _)).mono fun _ _ h => ⟨h.1, h.2.symm⟩)))
          go_wp2_with fail
          refine ⟨⟨j + 1, by omega, by go_num, Hw3.out.drewN _, (ho.trans ho3).drewN _⟩, by simp [intOf]; omega⟩
      · have e : j = cntN n := by omega
        subst e
        go_wp2_with fail
        go_ret
        exact ⟨rfl, Only.below hb ho (by omega) hg1⟩

end Ck
end Go.Proofs.Ytgjcenmjjjkigaa
