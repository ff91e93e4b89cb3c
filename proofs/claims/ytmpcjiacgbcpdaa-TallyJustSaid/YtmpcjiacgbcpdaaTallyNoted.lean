/- What the tally's laws share: of, near, noted. -/
import Derived.Test.YtmpcjiacgbcpdaaTallyDrop
set_option linter.unusedSimpArgs false
set_option linter.unusedVariables false
namespace Go.Proofs.Ytmpcjiacgbcpdaa
open Go.RowKit
open Qm

namespace Ta

abbrev Pairs := List (Int × Int)
def pc (p : Int × Int) : List Value := [.int .i64 p.1, .int .i64 p.2]
theorem pc_len (p : Int × Int) : (pc p).length = 2 := rfl
def okP (n : Int) (p : Int × Int) : Bool := decide (1 ≤ p.1) && decide (p.1 ≤ 60) && decide (0 ≤ p.2) && decide (p.2 < n)
def nearB (n : Int) (l : Pairs) : Bool := decide (l.length ≤ 300) && l.all (okP n)
def noteR (R : Rows) (p : Int × Int) : Rows := put R p.1 (addN (setOf R p.1) p.2)
def noteL (R : Rows) (l : Pairs) : Rows := l.foldl noteR R

theorem okP_iff {n : Int} {p : Int × Int} : okP n p = true ↔ 1 ≤ p.1 ∧ p.1 ≤ 60 ∧ 0 ≤ p.2 ∧ p.2 < n := by
  unfold okP
  simp only [Bool.and_eq_true, decide_eq_true_eq, and_assoc]

set_option maxHeartbeats 400000 in
theorem of_any (n : Int) (w : World) : Calls Try.prog 20 #[.int .i64 n] w fun e w' => (∃ m : Int, e = .returned (.int .i64 m) ∧ (m = 3 ∨ m = 5 ∨ m = 7)) ∧ w = w' := by
  go_enter Try.func20, Try.ntmps20
  go_wp2_with fail
  go_ret
  refine ⟨⟨_, rfl, ?_⟩, rfl⟩
  have h0 := Int.emod_nonneg n (b := 18446744073709551616) (by omega)
  rw [IntKind.wrap_u64] at *
  rw [Int.tmod_eq_emod_of_nonneg h0]
  simp only [wrap64]
  omega

set_option maxHeartbeats 2000000 in
theorem near_any (n : Int) (l : Pairs) (v : Value) (w : World) (hr : Row w w.heap.size v l.length (l.flatMap pc)) :
    Calls Try.prog 21 #[.int .i64 n, v] w fun e w' => e = .returned (.bool (nearB n l)) ∧ w = w' := by
  obtain ⟨A, c, rfl, _, _⟩ := hr.slice
  have hlen := hr.bound
  have HR := Lib.hid hr
  clear hr
  by_cases hbig : (300 : Int) < (l.length : Int)
  · have hn : nearB n l = false := by unfold nearB; rw [decide_eq_false (by omega), Bool.false_and]
    rw [hn]
    clear hn
    go_enter Try.func21, Try.ntmps21
    go_wp2_with fail
    go_ret
    exact ⟨rfl, rfl⟩
  · have hsm : (l.length : Int) ≤ 300 := by omega
    have hn : nearB n l = l.all (okP n) := by unfold nearB; rw [decide_eq_true (by omega), Bool.true_and]
    rw [hn]
    clear hn hbig
    go_enter Try.func21, Try.ntmps21
    go_wp2_with fail
    go_loop [5] (fun iv => ∃ k : Nat, k ≤ l.length ∧ iv = .int .i64 k ∧ (l.take k).all (okP n) = true) (fun iv => l.length - (intOf iv).toNat)
    case atStart => exact ⟨0, Nat.zero_le _, rfl, by simp⟩
    case round =>
      obtain ⟨k, hk, rfl, hall⟩ := hrel
      have HA := Lib.hid hall
      clear hall
      by_cases hlt : k < l.length
      · have hri := HR.out
        obtain ⟨b, off, rfl, _, hx⟩ := hri.elem pc_len (by omega) hlt
        have x0 := hx 0 _ rfl
        have x1 := hx 1 _ rfl
        simp only [Nat.add_zero] at x0
        rw [← Nat.add_assoc] at x1
        clear hx hri
        have HS := Lib.hid (show (l.take (k + 1)).all (okP n) = ((l.take k).all (okP n) && okP n l[k]) by rw [List.take_succ_eq_append_getElem hlt, List.all_append]; simp)
        have HM := Lib.hid (List.getElem_mem hlt)
        generalize l[k] = p at *
        have hno : ¬ (1 ≤ p.1 ∧ p.1 ≤ 60 ∧ 0 ≤ p.2 ∧ p.2 < n) → l.all (okP n) = false := by
          intro h
          cases hq : l.all (okP n)
          · rfl
          · exact absurd (okP_iff.1 (List.all_eq_true.1 hq p HM.out)) h
        by_cases q : 1 ≤ p.1 ∧ p.1 ≤ 60 ∧ 0 ≤ p.2 ∧ p.2 < n
        · have HQ := Lib.hid (okP_iff.2 q)
          obtain ⟨q1, q2, q3, q4⟩ := q
          clear hno
          go_wp2_with fail
          go_round
          case rel => exact ⟨k + 1, by omega, by go_num, by rw [HS.out, HA.out, HQ.out]; rfl⟩
          case measure => simp [intOf]; omega
        · have HN := Lib.hid (hno q)
          clear hno
          by_cases q1 : p.1 < 1
          · go_wp2_with fail
            go_ret
            exact ⟨by rw [HN.out]; rfl, rfl⟩
          have q1' : 1 ≤ p.1 := by omega
          by_cases q2 : 60 < p.1
          · go_wp2_with fail
            go_ret
            exact ⟨by rw [HN.out]; rfl, rfl⟩
          have q2' : p.1 ≤ 60 := by omega
          by_cases q3 : p.2 < 0
          · go_wp2_with fail
            go_ret
            exact ⟨by rw [HN.out]; rfl, rfl⟩
          have q3' : 0 ≤ p.2 := by omega
          have q4' : n ≤ p.2 := by omega
          clear q q1 q2 q3
          go_wp2_with fail
          go_ret
          exact ⟨by rw [HN.out]; rfl, rfl⟩
      · have e : k = l.length := by omega
        subst e
        rw [List.take_length] at HA
        go_wp2_with fail
        go_ret
        exact ⟨by rw [HA.out]; rfl, rfl⟩

end Ta
end Go.Proofs.Ytmpcjiacgbcpdaa
