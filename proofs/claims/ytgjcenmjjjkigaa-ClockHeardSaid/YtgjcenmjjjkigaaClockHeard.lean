/- The walk of ClockHeard. -/
import Derived.Test.YtgjcenmjjjkigaaClockOften
import Derived.Test.YtgjcenmjjjkigaaWords
import Derived.Deep.RegionWith
namespace Go.Proofs.Ytgjcenmjjjkigaa
open Go.RowKit

namespace Ck

theorem run_wait {P b : Nat} : ∀ k, k < P → run ⟨0, P, b⟩ false k = (⟨k, P, if k = 0 then b else 0⟩, 0, 0)
  | 0, _ => rfl
  | k + 1, h => by
    have ih := run_wait (P := P) (b := b) k (by omega)
    show (tick (run ⟨0, P, b⟩ false k).1 false, (run ⟨0, P, b⟩ false k).2.1 + (stands (run ⟨0, P, b⟩ false k).1 false).toNat, (run ⟨0, P, b⟩ false k).2.2 + (beats (run ⟨0, P, b⟩ false k).1 false).toNat) = _
    rw [ih]
    have h1 : stands ⟨k, P, if k = 0 then b else 0⟩ false = false := by unfold stands; simp; omega
    have h2 : beats ⟨k, P, if k = 0 then b else 0⟩ false = false := by unfold beats; simp
    rw [h1, h2]
    unfold tick
    simp [h]

set_option maxHeartbeats 1000000 in
theorem heard_any (r : Int) (ws : List Nat) (hws : ∀ x ∈ ws, x < 256) (v : Value) (ls : List Bool) (u : Value) (w : World) (hv : Row w w.heap.size v ws.length (ws.map fun x : Nat => Value.int .u8 x)) (hu : Row w w.heap.size u ls.length (ls.map Value.bool)) :
    Calls Try.prog 6 #[.int .i64 r, v, u] w fun e w' => e = .returned (.bool true) ∧ Below w.heap.size w w' := by
  obtain ⟨A, c, rfl, hn, hc⟩ := hv.slice
  obtain ⟨A', c', rfl, hn', hc'⟩ := hu.slice
  unfold maxLen at hc hc'
  have er := rep_conv r
  have hr := repZ_bd r
  have hp := patN_le (repZ r)
  have hp0 : 0 < patN (repZ r) := by have := patN_pos.2 hr; omega
  have hpi : (0 : Int) < (patN (repZ r) : Int) := by omega
  have hneN : ¬ patN (repZ r) = 0 := by omega
  by_cases hl : 100 < ws.length
  · go_enter Try.func6, Try.ntmps6
    go_wp2_with fail
    refine (awake_any _).mono ?_
    rintro e w1 ⟨rfl, hb1⟩
    go_wp2_with fail
    go_ret
    exact ⟨rfl, hb1⟩
  go_enter Try.func6, Try.ntmps6
  go_wp2_with fail
  refine (awake_any _).mono ?_
  rintro e w1 ⟨rfl, hb1⟩
  go_wp2_with fail
  simp only [er]
  refine (new_good _ hr _).mono ?_
  rintro e w2 ⟨rfl, rfl⟩
  have hw : IsClock (w1.alloc (.cells (new (repZ r)).cells.toArray 44)) w1.heap.size (new (repZ r)) := Whole.new _ _ _
  have hb : Below w.heap.size w (w1.alloc (.cells (new (repZ r)).cells.toArray 44)) := hb1.alloc hb1.size _
  have hg : w1.heap.size < (w1.alloc (.cells (new (repZ r)).cells.toArray 44)).heap.size := hw.lt
  have hg1 := hb1.size
  generalize w1.alloc (.cells (new (repZ r)).cells.toArray 44) = w2 at *
  have HW := Lib.hid hw; clear hw
  have ER := Lib.hid er; clear er
  generalize w1.heap.size = g at *
  have HV := Lib.hid hv; clear hv
  have HU := Lib.hid hu; clear hu
  clear hb1
  go_wp2_with fail
  go_loopw [9] (fun i wr => ∃ k : Nat, k ≤ ws.length ∧ i = .int .i64 k ∧ ∃ b, b < 3 ∧ IsClock wr g ⟨0, patN (repZ r), b⟩ ∧ Only g w2 wr) (fun i _ => ws.length - (intOf i).toNat)
  case atStart => exact ⟨0, Nat.zero_le _, rfl, 0, by omega, HW.out, Only.refl _ _⟩
  case round =>
    obtain ⟨k, hk, rfl, b, hb3, hwr, ho⟩ := hrel
    have Hwr := Lib.hid hwr; clear hwr
    have hbr : Below w.heap.size w wr := Only.below hb ho (by omega) hg1
    by_cases hlt : k < ws.length
    · obtain ⟨ba, off, rfl, hba, hx⟩ := HV.out.at_ (j := k) (by simpa using hlt)
      have hcell := (hbr.cell (p := ⟨ba, off + k, none⟩) hba).trans (hx k (.int .u8 (ws[k] : Nat)) (by simp [List.getElem?_eq_getElem hlt]))
      have hlt256 := hws ws[k] (List.getElem_mem hlt)
      clear hx
      have hrm := Nat.mod_lt ws[k] hp0
      have hok : St.ok ⟨0, patN (repZ r), b⟩ := ⟨hp0, hp, hb3⟩
      have hN : (IntKind.i64.wrap (ws[k] : Int)).tmod (patN (repZ r) : Int) = ((ws[k] % patN (repZ r) : Nat) : Int) := by
        rw [IntWalk.i64_in _ (by omega), Int.tmod_eq_emod_of_nonneg (by omega)]
        omega
      have HT := Lib.hid (@ticks_is g ⟨0, patN (repZ r), b⟩ _ hok false _ (ws[k] % patN (repZ r)) 0 0 hN (by omega) (run_wait _ hrm))
      clear hN hok
      go_wp2_with fail
      go_region_with (first
        | (go_at_call 10; refine (pat_any _ _).mono ?_; rintro e w' ⟨rfl, rfl⟩)
        | (go_at_call 18; refine (HT.out _ Hwr.out.drew).mono ?_; rintro e w3 ⟨rfl, hw3, ho3⟩))
      all_goals
        have ho4 : Only g w2 w3 := ho.drew.trans ho3
        have hbr3 : Below w.heap.size w w3 := Only.below hb ho4 (by omega) hg1
        have Hw3 := Lib.hid hw3; clear hw3
        have hb4 : (if ws[k] % patN (repZ r) = 0 then b else 0) < 3 := by split <;> omega
        generalize (if ws[k] % patN (repZ r) = 0 then b else 0) = b4 at *
        have hok4 : St.ok ⟨ws[k] % patN (repZ r), patN (repZ r), b4⟩ := ⟨hrm, hp, hb4⟩
        have hT := @tick_is g ⟨ws[k] % patN (repZ r), patN (repZ r), b4⟩ ⟨0, patN (repZ r), if b4 + 1 < 3 then b4 + 1 else 0⟩ hok4 true false _ rfl rfl rfl _ Hw3.out
        have hH := @hear_any g ⟨ws[k] % patN (repZ r), patN (repZ r), b4⟩ hok4 _ Hw3.out
        have hS := fun b hb3 => @silent_any g ⟨0, patN (repZ r), b⟩ ⟨hp0, hp, hb3⟩
        have HT4 := Lib.hid hT; clear hT
        have HH4 := Lib.hid hH; clear hH
        have HS4 := Lib.hid hS; clear hS
        clear hok4
        by_cases hl2 : k < ls.length
        · obtain ⟨bb, off2, rfl, hbb, hx2⟩ := HU.out.at_ (j := k) (by simpa using hl2)
          have hcell2 := (hbr3.cell (p := ⟨bb, off2 + k, none⟩) hbb).trans (hx2 k (.bool ls[k]) (by simp [List.getElem?_eq_getElem hl2]))
          clear hx2
          cases hlk : ls[k]
          all_goals rw [hlk] at hcell2
          · go_wp2_with (first
              | (go_at_call 12; refine HH4.out.mono ?_; rintro e w5 ⟨rfl, hw5, ho5⟩; have Hw5 := Lib.hid hw5; clear hw5)
              | (go_at_call 16; refine (HS4.out b4 hb4 _ Hw5.out).mono ?_; rintro e w6 ⟨rfl, rfl⟩))
            exact ⟨⟨k + 1, by omega, by go_num, b4, hb4, Hw5.out, ho4.trans ho5⟩, by simp [intOf]; omega⟩
          · go_wp2_with (first
              | (go_at_call 14; refine HT4.out.mono ?_; rintro e w5 ⟨rfl, hw5, ho5⟩; have Hw5 := Lib.hid hw5; clear hw5)
              | (go_at_call 16; refine (HS4.out _ (by split <;> omega) _ Hw5.out).mono ?_; rintro e w6 ⟨rfl, rfl⟩))
            exact ⟨⟨k + 1, by omega, by go_num, _, by split <;> omega, Hw5.out, ho4.trans ho5⟩, by simp [intOf]; omega⟩
        · go_wp2_with (first
            | (go_at_call 12; refine HH4.out.mono ?_; rintro e w5 ⟨rfl, hw5, ho5⟩; have Hw5 := Lib.hid hw5; clear hw5)
            | (go_at_call 16; refine (HS4.out b4 hb4 _ Hw5.out).mono ?_; rintro e w6 ⟨rfl, rfl⟩))
          exact ⟨⟨k + 1, by omega, by go_num, b4, hb4, Hw5.out, ho4.trans ho5⟩, by simp [intOf]; omega⟩
    · have e : k = ws.length := by omega
      subst e
      go_wp2_with fail
      go_ret
      exact ⟨rfl, hbr⟩

end Ck
end Go.Proofs.Ytgjcenmjjjkigaa
