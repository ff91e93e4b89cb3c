/- The walk of ClockApart. -/
import Derived.Test.YtgjcenmjjjkigaaClockOften
namespace Go.Proofs.Ytgjcenmjjjkigaa
open Go.RowKit

namespace Ck

theorem run_led {P : Nat} (hP : 0 < P) : ∀ k, (run (led P 0 false) false k).1 = led P k false
  | 0 => rfl
  | k + 1 => by
    show tick (run (led P 0 false) false k).1 false = _
    rw [run_led hP k, led_tick false hP]
theorem led_zero (P : Nat) : led P 0 false = ⟨0, P, 0⟩ := by unfold led; simp
/-- When the first stood, of k ticks. -/
def fst (P k : Nat) : Nat := if P ≤ k then P else 0
theorem patN_eq {r : Int} (h : 0 ≤ r ∧ r < 7) : (patN r : Int) = 10 + 4 * r := by unfold patN; rw [if_pos h]; omega

/-- How a tick changes 'when it first stood'. -/
theorem fst_cases (P k : Nat) (hP : 0 < P) :
    (fst P k = 0 ∧ fst P (k + 1) = 0 ∧ decide ((k + 1) % P = 0) = false) ∨ (fst P k = 0 ∧ fst P (k + 1) = k + 1 ∧ decide ((k + 1) % P = 0) = true) ∨
    (0 < fst P k ∧ fst P (k + 1) = fst P k) := by
  unfold fst
  rcases Nat.lt_trichotomy (k + 1) P with h | h | h
  · left
    refine ⟨by rw [if_neg (by omega)], by rw [if_neg (by omega)], decide_eq_false ?_⟩
    rw [Nat.mod_eq_of_lt h]; omega
  · right; left
    refine ⟨by rw [if_neg (by omega)], by rw [if_pos (by omega), h], decide_eq_true (by rw [h]; exact Nat.mod_self _)⟩
  · right; right
    refine ⟨by rw [if_pos (by omega)]; exact hP, by rw [if_pos (by omega), if_pos (by omega)]⟩

set_option maxHeartbeats 4000000 in
theorem apart_any (one two : Int) (ahead : Nat) (ha : ahead < 256) (w : World) :
    Calls Try.prog 7 #[.int .i64 one, .int .i64 two, .int .u8 ahead] w fun e w' => e = .returned (.bool true) ∧ Below w.heap.size w w' := by
  have e1 := rep_conv one
  have e2 := rep_conv two
  have h1 := repZ_bd one
  have h2 := repZ_bd two
  have q1 := patN_eq h1
  have q2 := patN_eq h2
  generalize hP1 : patN (repZ one) = P1 at *
  generalize hP2 : patN (repZ two) = P2 at *
  have n1 : new (repZ one) = led P1 0 false := by rw [led_zero, ← hP1]; rfl
  have n2 : new (repZ two) = led P2 0 false := by rw [led_zero, ← hP2]; rfl
  clear hP1 hP2
  have N1 := Lib.hid n1; clear n1
  have N2 := Lib.hid n2; clear n2
  have Q1 := Lib.hid q1
  have Q2 := Lib.hid q2
  have p1 : 0 < P1 ∧ P1 ≤ 34 := by omega
  have p2 : 0 < P2 ∧ P2 ≤ 34 := by omega
  clear q1 q2
  go_enter Try.func7, Try.ntmps7
  go_wp2_with fail
  refine (awake_any _).mono ?_
  rintro e w1 ⟨rfl, hb1⟩
  go_wp2_with fail
  simp only [e1, e2]
  refine (new_good _ h1 _).mono ?_
  rintro e w2 ⟨rfl, rfl⟩
  have hw : IsClock (w1.alloc (.cells (new (repZ one)).cells.toArray 44)) w1.heap.size (led P1 0 false) := by rw [← N1.out]; exact Whole.new _ _ _
  have hb : Below w.heap.size w (w1.alloc (.cells (new (repZ one)).cells.toArray 44)) := hb1.alloc hb1.size _
  have hg1 := hb1.size
  have hg1' : w1.heap.size < (w1.alloc (.cells (new (repZ one)).cells.toArray 44)).heap.size := hw.lt
  generalize w1.alloc (.cells (new (repZ one)).cells.toArray 44) = w2 at *
  generalize w1.heap.size = g1 at *
  have HW := Lib.hid hw; clear hw hb1
  go_wp2_with fail
  refine (new_good _ h2 _).mono ?_
  rintro e w3 ⟨rfl, rfl⟩
  have hv : IsClock (w2.alloc (.cells (new (repZ two)).cells.toArray 44)) w2.heap.size (led P2 0 false) := by rw [← N2.out]; exact Whole.new _ _ _
  have hw3 := HW.out.alloc (.cells (new (repZ two)).cells.toArray 44)
  have hb3 : Below w.heap.size w (w2.alloc (.cells (new (repZ two)).cells.toArray 44)) := hb.alloc hb.size _
  have hg2 := hb.size
  generalize w2.alloc (.cells (new (repZ two)).cells.toArray 44) = w3 at *
  generalize w2.heap.size = g2 at *
  have HV := Lib.hid hv; clear hv HW hb
  have HW := Lib.hid hw3; clear hw3 N1 N2
  have hgg : g1 ≠ g2 := by omega
  have hgg' : g2 ≠ g1 := by omega
  have HG := Lib.hid hgg; clear hgg
  have HG' := Lib.hid hgg'; clear hgg'
  go_wp2_with fail
  refine (ticks_any g1 _ (led_ok false p1.1 p1.2) false _ (ahead % 60) (by omega) (by omega) _ HW.out).mono ?_
  rintro e w4 ⟨rfl, hw4, ho4⟩
  rw [run_led p1.1] at hw4
  have HV4 := Lib.hid (ho4.whole HV.out HG'.out); clear HV
  have hb4 := Only.below hb3 ho4 hb3.size (by omega)
  have HW4 := Lib.hid hw4; clear hw4 HW hb3
  go_wp2_with fail
  refine (ticks_any g2 _ (led_ok false p2.1 p2.2) false _ (ahead % 60) (by omega) (by omega) _ HV4.out).mono ?_
  rintro e w5 ⟨rfl, hv5, ho5⟩
  rw [run_led p2.1] at hv5
  have HW5 := Lib.hid (ho5.whole HW4.out HG.out); clear HW4
  have hb5 := Only.below hb4 ho5 hb4.size (by omega)
  have HV5 := Lib.hid hv5; clear hv5 HV4 hb4
  go_wp2_with fail
  refine (hear_any g1 _ (led_ok false p1.1 p1.2) _ HW5.out).mono ?_
  rintro e w6 ⟨rfl, hw6, ho6⟩
  have HV6 := Lib.hid (ho6.whole HV5.out HG'.out); clear HV5
  have hb6 := Only.below hb5 ho6 hb5.size (by omega)
  have HW6 := Lib.hid hw6; clear hw6 HW5 hb5
  go_wp2_with fail
  refine (hear_any g2 _ (led_ok false p2.1 p2.2) _ HV6.out).mono ?_
  rintro e w7 ⟨rfl, hv7, ho7⟩
  have HW7 := Lib.hid (ho7.whole HW6.out HG.out); clear HW6
  have hb7 := Only.below hb6 ho7 hb6.size (by omega)
  have HV7 := Lib.hid hv7; clear hv7 HV6 hb6
  have W7 : Hid (IsClock w7 g1 (led P1 0 false)) := by rw [led_zero]; exact HW7.out
  have V7 : Hid (IsClock w7 g2 (led P2 0 false)) := by rw [led_zero]; exact HV7.out
  clear HW7 HV7 ho4 ho5 ho6 ho7
  go_wp2_with fail
  go_loopw [11, 12, 13] (fun f s i wr => ∃ j : Nat, j ≤ 40 ∧ i = .int .i64 ((j : Int) + 1) ∧ f = .int .i64 (fst P1 j) ∧ s = .int .i64 (fst P2 j) ∧ IsClock wr g1 (led P1 j false) ∧ IsClock wr g2 (led P2 j false) ∧ Below w.heap.size w wr) (fun _ _ i _ => 41 - (intOf i).toNat)
  case atStart => exact ⟨0, by omega, rfl, by unfold fst; rw [if_neg (by omega)]; rfl, by unfold fst; rw [if_neg (by omega)]; rfl, W7.out, V7.out, hb7⟩
  case round =>
    obtain ⟨j, hj, rfl, rfl, rfl, hwr, hvr, hbr⟩ := hrel
    have Wr := Lib.hid hwr; clear hwr
    have Vr := Lib.hid hvr; clear hvr
    by_cases hlt : j < 40
    · have ht1 := @tick_is g1 (led P1 j false) (led P1 (j + 1) false) (led_ok false p1.1 p1.2) false (decide ((j + 1) % P1 = 0)) false (led_tick false p1.1) (by rw [led_stands false p1.1]; rfl) (led_beats false) _ Wr.out
      have ht2 := @tick_is g2 (led P2 j false) (led P2 (j + 1) false) (led_ok false p2.1 p2.2) false (decide ((j + 1) % P2 = 0)) false (led_tick false p2.1) (by rw [led_stands false p2.1]; rfl) (led_beats false)
      have hc1 := fst_cases P1 j p1.1
      have hc2 := fst_cases P2 j p2.1
      generalize fst P1 j = x1 at *
      generalize fst P2 j = x2 at *
      generalize hy1 : fst P1 (j + 1) = y1 at *
      generalize hy2 : fst P2 (j + 1) = y2 at *
      have HY1 := Lib.hid hy1; clear hy1
      have HY2 := Lib.hid hy2; clear hy2
      generalize decide ((j + 1) % P1 = 0) = s1 at *
      generalize decide ((j + 1) % P2 = 0) = s2 at *
      have HT1 := Lib.hid ht1; clear ht1
      have HT2 := Lib.hid ht2; clear ht2
      have hs1 : (x1 = 0 ∧ y1 = 0 ∧ s1 = false) ∨ (x1 = 0 ∧ y1 = j + 1 ∧ s1 = true) ∨ (0 < x1 ∧ y1 = x1 ∧ s1 = false) ∨ (0 < x1 ∧ y1 = x1 ∧ s1 = true) := by
        cases s1 <;> rcases hc1 with h | h | h <;> simp_all
      have hs2 : (x2 = 0 ∧ y2 = 0 ∧ s2 = false) ∨ (x2 = 0 ∧ y2 = j + 1 ∧ s2 = true) ∨ (0 < x2 ∧ y2 = x2 ∧ s2 = false) ∨ (0 < x2 ∧ y2 = x2 ∧ s2 = true) := by
        cases s2 <;> rcases hc2 with h | h | h <;> simp_all
      clear hc1 hc2
      rcases hs1 with ⟨rfl, rfl, rfl⟩ | ⟨rfl, rfl, rfl⟩ | ⟨hp1, rfl, rfl⟩ | ⟨hp1, rfl, rfl⟩
      all_goals rcases hs2 with ⟨rfl, rfl, rfl⟩ | ⟨rfl, rfl, rfl⟩ | ⟨hp2, rfl, rfl⟩ | ⟨hp2, rfl, rfl⟩
      all_goals
        go_wp2_with fail
        refine HT1.out.mono ?_
        rintro e wa ⟨rfl, hwa, hoa⟩
        have Wa := Lib.hid hwa; clear hwa
        have Va := Lib.hid (hoa.whole Vr.out HG'.out)
        have hba := Only.below hbr hoa hbr.size hg1
        clear HT1 hoa
        go_wp2_with fail
        refine (HT2.out _ Va.out).mono ?_
        rintro e wb ⟨rfl, hvb, hob⟩
        have Vb := Lib.hid hvb; clear hvb
        have Wb := Lib.hid (hob.whole Wa.out HG.out)
        have hbb := Only.below hba hob hba.size hg2
        clear HT2 hob
        go_wp2_with fail
        refine ⟨⟨j + 1, by omega, by go_num, by rw [HY1.out]; try go_num, by rw [HY2.out]; try go_num, Wb.out, Vb.out, hbb⟩, by simp [intOf]; omega⟩
    · have e : j = 40 := by omega
      subst e
      have f1 : fst P1 40 = P1 := by unfold fst; rw [if_pos (by omega)]
      have f2 : fst P2 40 = P2 := by unfold fst; rw [if_pos (by omega)]
      rw [f1, f2]
      go_wp2_with fail
      go_ret
      refine ⟨?_, hbr⟩
      have := Q1.out
      have := Q2.out
      have hq : ((P2 : Int) - (P1 : Int) == 4 * (repZ two - repZ one)) = true := by simp; omega
      simp [hq]

end Ck
end Go.Proofs.Ytgjcenmjjjkigaa
