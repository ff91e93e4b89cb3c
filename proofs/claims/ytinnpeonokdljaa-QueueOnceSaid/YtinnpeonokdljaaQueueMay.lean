/- What may be an operation (kv.MayOp); Reads; queues that nobody made; New. -/
import Derived.Test.YtinnpeonokdljaaQueueWalks
set_option linter.unusedSimpArgs false
set_option linter.unusedVariables false
namespace Go.Proofs.Ytinnpeonokdljaa
open Go.RowKit

namespace Qu
attribute [local go_sem ↓] eql_po neq_rq eql_rq

theorem mayOp_of {k : Nat} {a b c : ByteArray} {s x y z : Bool} (hs : bareB ⟨k, a, b, c⟩ = s) (hx : (decide (1 ≤ a.size) && decide (a.size ≤ 8)) = x) (hy : decide (b.size ≤ 16) = y) (hz : decide (c.size ≤ 16) = z) :
    mayOpB ⟨k, a, b, c⟩ = (s && (x && y && z)) := by unfold mayOpB sizeB; rw [hs, hx, hy, hz]
theorem bare1 (a b c : ByteArray) : bareB ⟨1, a, b, c⟩ = samePo 1 a b c 1 a { data := #[] } { data := #[] } := by
  unfold bareB samePo em
  simp
theorem bare3 (a b c : ByteArray) : bareB ⟨3, a, b, c⟩ = samePo 3 a b c 3 a { data := #[] } { data := #[] } := by
  unfold bareB samePo em
  simp
theorem bare2 (a b c : ByteArray) : bareB ⟨2, a, b, c⟩ = samePo 2 a b c 2 a { data := #[] } c := by
  unfold bareB samePo em
  simp
theorem bare4 (a b c : ByteArray) : bareB ⟨4, a, b, c⟩ = samePo 4 a b c 4 a b c := by
  unfold bareB samePo
  simp
theorem bare0 {k : Nat} (a b c : ByteArray) (h1 : k ≠ 1) (h2 : k ≠ 2) (h3 : k ≠ 3) (h4 : k ≠ 4) : bareB ⟨k, a, b, c⟩ = false := by
  unfold bareB
  simp [h1, h2, h3, h4]

set_option maxHeartbeats 4000000 in
theorem mayOp_any (k : Nat) (a b c : ByteArray) (w : World) :
    Calls Try.prog 49 #[.agg #[.int .u8 (k : Nat), .string a, .string b, .string c]] w fun e w' => e = .returned (.bool (mayOpB ⟨k, a, b, c⟩)) ∧ Below w.heap.size w w' := by
  have K1 := key_any a
  have K2 := value_any b
  have K3 := value_any c
  have HM : ∀ s x y z, bareB ⟨k, a, b, c⟩ = s → (decide (1 ≤ a.size) && decide (a.size ≤ 8)) = x → decide (b.size ≤ 16) = y → decide (c.size ≤ 16) = z → mayOpB ⟨k, a, b, c⟩ = (s && (x && y && z)) := fun s x y z => mayOp_of
  generalize (decide (1 ≤ a.size) && decide (a.size ≤ 8)) = x at *
  generalize decide (b.size ≤ 16) = y at *
  generalize decide (c.size ≤ 16) = z at *
  have HM := Lib.hid HM
  have K1 := Lib.hid K1
  have K2 := Lib.hid K2
  have K3 := Lib.hid K3
  go_enter Try.func49, Try.ntmps49
  by_cases k1 : k = 1
  · subst k1
    cases hs : samePo 1 a b c 1 a { data := #[] } { data := #[] }
    · go_wp2_with (first
      | (go_at_call 60; refine (K1.out _).mono ?_; rintro e w' ⟨rfl, rfl⟩)
      | (go_at_call 61; refine (K2.out _).mono ?_; rintro e w' ⟨rfl, rfl⟩)
      | (go_at_call 61; refine (K3.out _).mono ?_; rintro e w' ⟨rfl, rfl⟩))
      go_ret
      exact ⟨by rw [HM.out _ _ _ _ ((bare1 a b c).trans hs) rfl rfl rfl]; rfl, be2 _ _ _⟩
    cases x
    · go_wp2_with (first
      | (go_at_call 60; refine (K1.out _).mono ?_; rintro e w' ⟨rfl, rfl⟩)
      | (go_at_call 61; refine (K2.out _).mono ?_; rintro e w' ⟨rfl, rfl⟩)
      | (go_at_call 61; refine (K3.out _).mono ?_; rintro e w' ⟨rfl, rfl⟩))
      go_ret
      exact ⟨by rw [HM.out _ _ _ _ ((bare1 a b c).trans hs) rfl rfl rfl]; rfl, be2 _ _ _⟩
    cases y
    · go_wp2_with (first
      | (go_at_call 60; refine (K1.out _).mono ?_; rintro e w' ⟨rfl, rfl⟩)
      | (go_at_call 61; refine (K2.out _).mono ?_; rintro e w' ⟨rfl, rfl⟩)
      | (go_at_call 61; refine (K3.out _).mono ?_; rintro e w' ⟨rfl, rfl⟩))
      go_ret
      exact ⟨by rw [HM.out _ _ _ _ ((bare1 a b c).trans hs) rfl rfl rfl]; rfl, be2 _ _ _⟩
    · go_wp2_with (first
      | (go_at_call 60; refine (K1.out _).mono ?_; rintro e w' ⟨rfl, rfl⟩)
      | (go_at_call 61; refine (K2.out _).mono ?_; rintro e w' ⟨rfl, rfl⟩)
      | (go_at_call 61; refine (K3.out _).mono ?_; rintro e w' ⟨rfl, rfl⟩))
      go_ret
      exact ⟨by rw [HM.out _ _ _ _ ((bare1 a b c).trans hs) rfl rfl rfl]; rfl, be2 _ _ _⟩
  by_cases k2 : k = 2
  · subst k2
    cases hs : samePo 2 a b c 2 a { data := #[] } c
    · go_wp2_with (first
      | (go_at_call 60; refine (K1.out _).mono ?_; rintro e w' ⟨rfl, rfl⟩)
      | (go_at_call 61; refine (K2.out _).mono ?_; rintro e w' ⟨rfl, rfl⟩)
      | (go_at_call 61; refine (K3.out _).mono ?_; rintro e w' ⟨rfl, rfl⟩))
      go_ret
      exact ⟨by rw [HM.out _ _ _ _ ((bare2 a b c).trans hs) rfl rfl rfl]; rfl, be2 _ _ _⟩
    cases x
    · go_wp2_with (first
      | (go_at_call 60; refine (K1.out _).mono ?_; rintro e w' ⟨rfl, rfl⟩)
      | (go_at_call 61; refine (K2.out _).mono ?_; rintro e w' ⟨rfl, rfl⟩)
      | (go_at_call 61; refine (K3.out _).mono ?_; rintro e w' ⟨rfl, rfl⟩))
      go_ret
      exact ⟨by rw [HM.out _ _ _ _ ((bare2 a b c).trans hs) rfl rfl rfl]; rfl, be2 _ _ _⟩
    cases y
    · go_wp2_with (first
      | (go_at_call 60; refine (K1.out _).mono ?_; rintro e w' ⟨rfl, rfl⟩)
      | (go_at_call 61; refine (K2.out _).mono ?_; rintro e w' ⟨rfl, rfl⟩)
      | (go_at_call 61; refine (K3.out _).mono ?_; rintro e w' ⟨rfl, rfl⟩))
      go_ret
      exact ⟨by rw [HM.out _ _ _ _ ((bare2 a b c).trans hs) rfl rfl rfl]; rfl, be2 _ _ _⟩
    · go_wp2_with (first
      | (go_at_call 60; refine (K1.out _).mono ?_; rintro e w' ⟨rfl, rfl⟩)
      | (go_at_call 61; refine (K2.out _).mono ?_; rintro e w' ⟨rfl, rfl⟩)
      | (go_at_call 61; refine (K3.out _).mono ?_; rintro e w' ⟨rfl, rfl⟩))
      go_ret
      exact ⟨by rw [HM.out _ _ _ _ ((bare2 a b c).trans hs) rfl rfl rfl]; rfl, be2 _ _ _⟩
  by_cases k3 : k = 3
  · subst k3
    cases hs : samePo 3 a b c 3 a { data := #[] } { data := #[] }
    · go_wp2_with (first
      | (go_at_call 60; refine (K1.out _).mono ?_; rintro e w' ⟨rfl, rfl⟩)
      | (go_at_call 61; refine (K2.out _).mono ?_; rintro e w' ⟨rfl, rfl⟩)
      | (go_at_call 61; refine (K3.out _).mono ?_; rintro e w' ⟨rfl, rfl⟩))
      go_ret
      exact ⟨by rw [HM.out _ _ _ _ ((bare3 a b c).trans hs) rfl rfl rfl]; rfl, be2 _ _ _⟩
    cases x
    · go_wp2_with (first
      | (go_at_call 60; refine (K1.out _).mono ?_; rintro e w' ⟨rfl, rfl⟩)
      | (go_at_call 61; refine (K2.out _).mono ?_; rintro e w' ⟨rfl, rfl⟩)
      | (go_at_call 61; refine (K3.out _).mono ?_; rintro e w' ⟨rfl, rfl⟩))
      go_ret
      exact ⟨by rw [HM.out _ _ _ _ ((bare3 a b c).trans hs) rfl rfl rfl]; rfl, be2 _ _ _⟩
    cases y
    · go_wp2_with (first
      | (go_at_call 60; refine (K1.out _).mono ?_; rintro e w' ⟨rfl, rfl⟩)
      | (go_at_call 61; refine (K2.out _).mono ?_; rintro e w' ⟨rfl, rfl⟩)
      | (go_at_call 61; refine (K3.out _).mono ?_; rintro e w' ⟨rfl, rfl⟩))
      go_ret
      exact ⟨by rw [HM.out _ _ _ _ ((bare3 a b c).trans hs) rfl rfl rfl]; rfl, be2 _ _ _⟩
    · go_wp2_with (first
      | (go_at_call 60; refine (K1.out _).mono ?_; rintro e w' ⟨rfl, rfl⟩)
      | (go_at_call 61; refine (K2.out _).mono ?_; rintro e w' ⟨rfl, rfl⟩)
      | (go_at_call 61; refine (K3.out _).mono ?_; rintro e w' ⟨rfl, rfl⟩))
      go_ret
      exact ⟨by rw [HM.out _ _ _ _ ((bare3 a b c).trans hs) rfl rfl rfl]; rfl, be2 _ _ _⟩
  by_cases k4 : k = 4
  · subst k4
    cases hs : samePo 4 a b c 4 a b c
    · go_wp2_with (first
      | (go_at_call 60; refine (K1.out _).mono ?_; rintro e w' ⟨rfl, rfl⟩)
      | (go_at_call 61; refine (K2.out _).mono ?_; rintro e w' ⟨rfl, rfl⟩)
      | (go_at_call 61; refine (K3.out _).mono ?_; rintro e w' ⟨rfl, rfl⟩))
      go_ret
      exact ⟨by rw [HM.out _ _ _ _ ((bare4 a b c).trans hs) rfl rfl rfl]; rfl, be2 _ _ _⟩
    cases x
    · go_wp2_with (first
      | (go_at_call 60; refine (K1.out _).mono ?_; rintro e w' ⟨rfl, rfl⟩)
      | (go_at_call 61; refine (K2.out _).mono ?_; rintro e w' ⟨rfl, rfl⟩)
      | (go_at_call 61; refine (K3.out _).mono ?_; rintro e w' ⟨rfl, rfl⟩))
      go_ret
      exact ⟨by rw [HM.out _ _ _ _ ((bare4 a b c).trans hs) rfl rfl rfl]; rfl, be2 _ _ _⟩
    cases y
    · go_wp2_with (first
      | (go_at_call 60; refine (K1.out _).mono ?_; rintro e w' ⟨rfl, rfl⟩)
      | (go_at_call 61; refine (K2.out _).mono ?_; rintro e w' ⟨rfl, rfl⟩)
      | (go_at_call 61; refine (K3.out _).mono ?_; rintro e w' ⟨rfl, rfl⟩))
      go_ret
      exact ⟨by rw [HM.out _ _ _ _ ((bare4 a b c).trans hs) rfl rfl rfl]; rfl, be2 _ _ _⟩
    · go_wp2_with (first
      | (go_at_call 60; refine (K1.out _).mono ?_; rintro e w' ⟨rfl, rfl⟩)
      | (go_at_call 61; refine (K2.out _).mono ?_; rintro e w' ⟨rfl, rfl⟩)
      | (go_at_call 61; refine (K3.out _).mono ?_; rintro e w' ⟨rfl, rfl⟩))
      go_ret
      exact ⟨by rw [HM.out _ _ _ _ ((bare4 a b c).trans hs) rfl rfl rfl]; rfl, be2 _ _ _⟩
  have n1 : ((k : Int) == 1) = false := by simp; omega
  have n2 : ((k : Int) == 2) = false := by simp; omega
  have n3 : ((k : Int) == 3) = false := by simp; omega
  have n4 : ((k : Int) == 4) = false := by simp; omega
  go_wp2_with fail
  go_ret
  exact ⟨by rw [HM.out _ _ _ _ (bare0 a b c k1 k2 k3 k4) rfl rfl rfl]; rfl, be2 _ _ _⟩


set_option maxHeartbeats 400000 in
theorem reads_any (k : Nat) (a b c : ByteArray) (w : World) :
    Calls Try.prog 33 #[.agg #[.int .u8 (k : Nat), .string a, .string b, .string c]] w fun e w' => e = .returned (.bool (readsB ⟨k, a, b, c⟩)) ∧ Below w.heap.size w w' := by
  go_enter Try.func33, Try.ntmps33
  go_wp2_with fail
  go_ret
  refine ⟨ret_bool ?_, be1 _ _⟩
  unfold readsB
  by_cases h : k = 1
  · subst h; rfl
  · have : ¬ (k : Int) = 1 := by omega
    simp [h, this]

/-- A queue of n replicas, of one's own number, whose slice is v. -/
def QS (w : World) (g : Nat) (n own : Int) (v : Value) : Prop := Whole w g 33 [.int .i64 n, .int .i64 own, v]

set_option maxHeartbeats 400000 in
theorem none_nil (w : World) : Calls Try.prog 35 #[.pointer none] w fun e w' => e = .returned (.bool true) ∧ w = w' := by
  go_enter Try.func35, Try.ntmps35
  go_wp2
  go_ret
  exact ⟨rfl, rfl⟩
set_option maxHeartbeats 400000 in
theorem none_zero (g : Nat) (own : Int) (v : Value) (w : World) (h : QS w g 0 own v) : Calls Try.prog 35 #[.pointer (some ⟨g, 0, none⟩)] w fun e w' => e = .returned (.bool true) ∧ w = w' := by
  have c0 := Whole.cell h 0
  simp only [List.getElem?_cons_zero] at c0
  clear h
  go_enter Try.func35, Try.ntmps35
  go_wp2
  go_ret
  exact ⟨rfl, rfl⟩
set_option maxHeartbeats 400000 in
theorem none_false (g : Nat) (n own : Int) (hn : n ≠ 0) (v : Value) (w : World) (h : QS w g n own v) : Calls Try.prog 35 #[.pointer (some ⟨g, 0, none⟩)] w fun e w' => e = .returned (.bool false) ∧ w = w' := by
  have c0 := Whole.cell h 0
  simp only [List.getElem?_cons_zero] at c0
  have hn' : (n == 0) = false := by simpa using hn
  clear h
  go_enter Try.func35, Try.ntmps35
  go_wp2
  go_ret
  exact ⟨by first | rfl | simp [hn], rfl⟩
/-- May there be such a queue? -/
def madeB (n own : Int) : Bool := decide (0 < Qm.mostN n) && decide (0 ≤ own) && decide (own < n)
set_option maxHeartbeats 1000000 in
theorem new_bad (n own : Int) (h : madeB n own = false) (w : World) : Calls Try.prog 17 #[.int .i64 n, .int .i64 own] w fun e w' => e = .returned (.tuple #[.pointer none, .int .i64 2]) ∧ w = w' := by
  have M := Lib.hid (Qm.most_any n)
  unfold madeB at h
  go_enter Try.func17, Try.ntmps17
  by_cases h0 : Qm.mostN n = 0
  · have h0' : ((Qm.mostN n : Int) == 0) = true := by simp [h0]
    rw [h0] at M
    clear h h0'
    go_wp2_with (refine (M.out _).mono ?_; rintro e w' ⟨rfl, rfl⟩)
    go_ret2
    exact ⟨rfl, rfl⟩
  have h0' : ((Qm.mostN n : Int) == 0) = false := by simp [h0]
  by_cases h1 : own < 0
  · clear h
    go_wp2_with (refine (M.out _).mono ?_; rintro e w' ⟨rfl, rfl⟩)
    go_ret2
    exact ⟨rfl, rfl⟩
  have h1' : 0 ≤ own := by omega
  by_cases h2 : n ≤ own
  · clear h h1
    go_wp2_with (refine (M.out _).mono ?_; rintro e w' ⟨rfl, rfl⟩)
    go_ret2
    exact ⟨rfl, rfl⟩
  · rw [decide_eq_true (by omega : 0 < Qm.mostN n), decide_eq_true h1', decide_eq_true (by omega : own < n)] at h
    cases h
set_option maxHeartbeats 1000000 in
theorem new_ok (n own : Int) (h : madeB n own = true) (w : World) : Calls Try.prog 17 #[.int .i64 n, .int .i64 own] w fun e w' =>
    e = .returned (.tuple #[.pointer (some ⟨w.heap.size, 0, none⟩), .int .i64 0]) ∧ QS w' w.heap.size n own (.slice none 0 0) ∧ Below w.heap.size w w' := by
  have M := Lib.hid (Qm.most_any n)
  unfold madeB at h
  simp only [Bool.and_eq_true, decide_eq_true_eq] at h
  obtain ⟨⟨h0, h1⟩, h2⟩ := h
  have h0' : ((Qm.mostN n : Int) == 0) = false := by simp; omega
  go_enter Try.func17, Try.ntmps17
  go_wp2_with (refine (M.out _).mono ?_; rintro e w' ⟨rfl, rfl⟩)
  go_ret2
  exact ⟨rfl, Whole.new _ _ [.int .i64 n, .int .i64 own, .slice none 0 0], be1 _ _⟩

end Qu
end Go.Proofs.Ytinnpeonokdljaa
