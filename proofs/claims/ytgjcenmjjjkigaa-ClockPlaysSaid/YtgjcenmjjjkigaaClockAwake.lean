/- The laws' helper ticks, and the chapter's examples, which the outright laws on clocks begin with. -/
import Derived.Test.YtgjcenmjjjkigaaClockRef
namespace Go.Proofs.Ytgjcenmjjjkigaa
open Go.RowKit

namespace Ck

/-- So many ticks: the clock behind them, how many stood, how many beat. -/
def run (c : St) (leads : Bool) : Nat → St × Nat × Nat
  | 0 => (c, 0, 0)
  | k + 1 => (tick (run c leads k).1 leads, (run c leads k).2.1 + (stands (run c leads k).1 leads).toNat, (run c leads k).2.2 + (beats (run c leads k).1 leads).toNat)

theorem run_ok {c : St} (h : c.ok) (leads : Bool) : ∀ k, (run c leads k).1.ok ∧ (run c leads k).2.1 ≤ k ∧ (run c leads k).2.2 ≤ k
  | 0 => ⟨h, Nat.le_refl _, Nat.le_refl _⟩
  | k + 1 => by
    obtain ⟨h1, h2, h3⟩ := run_ok h leads k
    refine ⟨tick_ok h1 leads, ?_, ?_⟩
    · show (run c leads k).2.1 + (stands (run c leads k).1 leads).toNat ≤ k + 1
      cases stands (run c leads k).1 leads <;> simp <;> omega
    · show (run c leads k).2.2 + (beats (run c leads k).1 leads).toNat ≤ k + 1
      cases beats (run c leads k).1 leads <;> simp <;> omega

set_option maxHeartbeats 1000000 in
theorem ticks_any (g : Nat) (c : St) (hc : c.ok) (leads : Bool) (N : Int) (n : Nat) (hN : N = n) (hn : n ≤ 100000) (w : World) (hw : IsClock w g c) :
    Calls Try.prog 18 #[.pointer (some ⟨g, 0, none⟩), .bool leads, .int .i64 N] w fun e w' =>
      e = .returned (.tuple #[.int .i64 (run c leads n).2.1, .int .i64 (run c leads n).2.2]) ∧ IsClock w' g (run c leads n).1 ∧ Only g w w' := by
  subst hN
  have Hw := Lib.hid hw; clear hw
  have Hc := Lib.hid hc; clear hc
  go_enter Try.func18, Try.ntmps18
  go_wp2_with fail
  go_loopw [8, 9, 10] (fun s b i wr => ∃ k : Nat, k ≤ n ∧ i = .int .i64 k ∧ s = .int .i64 (run c leads k).2.1 ∧ b = .int .i64 (run c leads k).2.2 ∧ IsClock wr g (run c leads k).1 ∧ Only g w wr) (fun _ _ i _ => n - (intOf i).toNat)
  case atStart => exact ⟨0, Nat.zero_le _, rfl, rfl, rfl, Hw.out, Only.refl _ _⟩
  case round =>
    obtain ⟨k, hk, rfl, rfl, rfl, hwr, ho⟩ := hrel
    obtain ⟨hok, hle1, hle2⟩ := run_ok Hc.out leads k
    have HR := Lib.hid (show run c leads (k + 1) = (tick (run c leads k).1 leads, (run c leads k).2.1 + (stands (run c leads k).1 leads).toNat, (run c leads k).2.2 + (beats (run c leads k).1 leads).toNat) from rfl)
    generalize hx : run c leads k = x at *
    have HX := Lib.hid hx; clear hx
    have Hwr := Lib.hid hwr; clear hwr
    have Hok := Lib.hid hok; clear hok
    by_cases hlt : k < n
    · have ht := @tick_any g x.1 Hok.out leads wr Hwr.out
      cases hs : stands x.1 leads
      all_goals cases hb : beats x.1 leads
      all_goals
        rw [hs, hb] at HR
        rw [hs, hb] at ht
        have HT := Lib.hid ht
        clear ht hs hb
        go_wp2_with (go_at_call 14; refine HT.out.mono ?_; clear HT; rintro e w' ⟨rfl, hw', ho'⟩; have Hw' := Lib.hid hw'; clear hw')
        go_roundw
        case rel => exact ⟨k + 1, by omega, by go_num, by rw [HR.out]; go_num, by rw [HR.out]; go_num, by rw [HR.out]; exact Hw'.out, ho.trans ho'⟩
        case measure => simp [intOf]; omega
    · have e : k = n := by omega
      subst e
      go_wp2_with fail
      go_ret2
      rw [HX.out]
      exact ⟨rfl, Hwr.out, ho⟩

/-- 'ticks' and 'Tick' of closed clocks: what they come to is reckoned. -/
theorem ticks_is (g : Nat) (c c' : St) (hc : c.ok) (leads : Bool) (N : Int) (n a b : Nat) (hN : N = n) (hn : n ≤ 100000) (hr : run c leads n = (c', a, b)) (w : World) (hw : IsClock w g c) :
    Calls Try.prog 18 #[.pointer (some ⟨g, 0, none⟩), .bool leads, .int .i64 N] w fun e w' =>
      e = .returned (.tuple #[.int .i64 a, .int .i64 b]) ∧ IsClock w' g c' ∧ Only g w w' := by
  have h := ticks_any g c hc leads N n hN hn w hw
  rw [hr] at h
  exact h
theorem tick_is (g : Nat) (c c' : St) (hc : c.ok) (leads s b : Bool) (h1 : tick c leads = c') (h2 : stands c leads = s) (h3 : beats c leads = b) (w : World) (hw : IsClock w g c) :
    Calls Try.prog 14 #[.pointer (some ⟨g, 0, none⟩), .bool leads] w fun e w' =>
      e = .returned (.tuple #[.bool s, .bool b]) ∧ IsClock w' g c' ∧ Only g w w' := by
  have h := tick_any g c hc leads w hw
  rw [h1, h2, h3] at h
  exact h

set_option maxHeartbeats 1000000 in
theorem awake_any (w : World) :
    Calls Try.prog 17 #[] w fun e w' => e = .returned (.bool true) ∧ Below w.heap.size w w' := by
  have p0 : patN 0 = 10 := rfl
  have p3 : patN 3 = 22 := rfl
  have p6 : patN 6 = 34 := rfl
  have p7 : patN 7 = 0 := rfl
  have ok0 : St.ok ⟨0, 10, 0⟩ := by unfold St.ok; decide
  have ok1 : St.ok ⟨1, 10, 0⟩ := by unfold St.ok; decide
  have ok2 : St.ok ⟨0, 10, 2⟩ := by unfold St.ok; decide
  have ok9 : St.ok ⟨9, 10, 0⟩ := by unfold St.ok; decide
  have OK0 := Lib.hid ok0
  have OK1 := Lib.hid ok1
  have OK2 := Lib.hid ok2
  have OK9 := Lib.hid ok9
  clear ok0 ok1 ok2 ok9
  go_enter Try.func17, Try.ntmps17
  go_wp2_with fail
  refine (new_good 0 (by omega) _).mono ?_
  rintro e w0 ⟨rfl, rfl⟩
  have hw : IsClock (w.alloc (.cells (new 0).cells.toArray 44)) w.heap.size ⟨0, 10, 0⟩ := Whole.new _ _ _
  have hb : Below w.heap.size w (w.alloc (.cells (new 0).cells.toArray 44)) := (Below.refl _ _).alloc (Nat.le_refl _) _
  have hg : w.heap.size < (w.alloc (.cells (new 0).cells.toArray 44)).heap.size := hw.lt
  generalize w.alloc (.cells (new 0).cells.toArray 44) = w0 at *
  have HW := Lib.hid hw; clear hw
  go_wp2_with fail
  refine (new_bad 7 (by omega) _).mono ?_
  rintro e w1 ⟨rfl, rfl⟩
  go_wp2_with (go_at_call 10; refine (pat_any _ _).mono ?_; rintro e w' ⟨rfl, rfl⟩)
  refine (ticks_is _ ⟨0, 10, 0⟩ ⟨9, 10, 0⟩ OK0.out false 9 9 0 0 rfl (by omega) rfl _ HW.out).mono ?_
  rintro e w1 ⟨rfl, hw, ho1⟩
  have HW1 := Lib.hid hw; clear hw HW
  go_wp2_with fail
  refine (tick_is _ ⟨9, 10, 0⟩ ⟨0, 10, 0⟩ OK9.out false true false rfl rfl rfl _ HW1.out).mono ?_
  rintro e w2 ⟨rfl, hw, ho2⟩
  have HW2 := Lib.hid hw; clear hw HW1
  go_wp2_with fail
  refine (silent_any _ ⟨0, 10, 0⟩ OK0.out _ HW2.out).mono ?_
  rintro e w' ⟨rfl, rfl⟩
  go_wp2_with fail
  refine (ticks_is _ ⟨0, 10, 0⟩ ⟨0, 10, 2⟩ OK0.out true 2 2 0 0 rfl (by omega) rfl _ HW2.out).mono ?_
  rintro e w3 ⟨rfl, hw, ho3⟩
  have HW3 := Lib.hid hw; clear hw HW2
  go_wp2_with fail
  refine (tick_is _ ⟨0, 10, 2⟩ ⟨0, 10, 0⟩ OK2.out true false true rfl rfl rfl _ HW3.out).mono ?_
  rintro e w4 ⟨rfl, hw, ho4⟩
  have HW4 := Lib.hid hw; clear hw HW3
  go_wp2_with fail
  refine (tick_is _ ⟨0, 10, 0⟩ ⟨1, 10, 0⟩ OK0.out false false false rfl rfl rfl _ HW4.out).mono ?_
  rintro e w5 ⟨rfl, hw, ho5⟩
  have HW5 := Lib.hid hw; clear hw HW4
  go_wp2_with fail
  refine (ticks_is _ ⟨1, 10, 0⟩ ⟨0, 10, 2⟩ OK1.out true 2 2 0 0 rfl (by omega) rfl _ HW5.out).mono ?_
  rintro e w6 ⟨rfl, hw, ho6⟩
  have HW6 := Lib.hid hw; clear hw HW5
  go_wp2_with fail
  refine (tick_is _ ⟨0, 10, 2⟩ ⟨0, 10, 0⟩ OK2.out true false true rfl rfl rfl _ HW6.out).mono ?_
  rintro e w7 ⟨rfl, hw, ho7⟩
  have HW7 := Lib.hid hw; clear hw HW6
  go_wp2_with fail
  refine (ticks_is _ ⟨0, 10, 0⟩ ⟨9, 10, 0⟩ OK0.out false 9 9 0 0 rfl (by omega) rfl _ HW7.out).mono ?_
  rintro e w8 ⟨rfl, hw, ho8⟩
  have HW8 := Lib.hid hw; clear hw HW7
  go_wp2_with fail
  refine (hear_any _ ⟨9, 10, 0⟩ OK9.out _ HW8.out).mono ?_
  rintro e w9 ⟨rfl, hw, ho9⟩
  have hw : IsClock w9 w.heap.size ⟨0, 10, 0⟩ := hw
  have HW9 := Lib.hid hw; clear hw HW8
  go_wp2_with fail
  refine (ticks_is _ ⟨0, 10, 0⟩ ⟨9, 10, 0⟩ OK0.out false 9 9 0 0 rfl (by omega) rfl _ HW9.out).mono ?_
  rintro e w10 ⟨rfl, hw, ho10⟩
  have HW10 := Lib.hid hw; clear hw HW9
  go_wp2_with fail
  refine (tick_is _ ⟨9, 10, 0⟩ ⟨0, 10, 0⟩ OK9.out false true false rfl rfl rfl _ HW10.out).mono ?_
  rintro e w11 ⟨rfl, hw, ho11⟩
  have HW11 := Lib.hid hw; clear hw HW10
  go_wp2_with fail
  go_ret
  exact ⟨rfl, Only.below hb (((((((((((ho1).trans ho2).trans ho3).trans ho4).trans ho5).trans ho6).trans ho7).trans ho8).trans ho9).trans ho10).trans ho11) (by omega) (Nat.le_refl _)⟩

end Ck
end Go.Proofs.Ytgjcenmjjjkigaa
