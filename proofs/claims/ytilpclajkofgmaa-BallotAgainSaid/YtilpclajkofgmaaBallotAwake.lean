/- The chapter's examples of ballots, which the outright laws begin with. -/
import Derived.Test.YtilpclajkofgmaaBallotNext
import Derived.Test.YtilpclajkofgmaaBallotMax
set_option linter.unusedSimpArgs false
set_option linter.unusedVariables false
namespace Go.Proofs.Ytilpclajkofgmaa
open Go.RowKit

namespace Bl

set_option maxHeartbeats 400000 in
theorem of_any (r p : Int) (w : World) :
    Calls Try.prog 18 #[.int .i64 r, .int .i64 p] w fun e w' => e = .returned (.agg #[.int .i64 r, .int .i64 p]) ∧ Below w.heap.size w w' := by
  have h := (wh0_1 w 23 [.int .i64 r, .int .i64 p]).two
  obtain ⟨⟨c0, c1⟩, f0, f1⟩ := h
  go_enter Try.func18, Try.ntmps18
  go_wp2_with fail
  refine bodyPost_ret (v := .agg #[.int .i64 r, .int .i64 p]) (by simp [results, Try.results18, go_sem]) rfl ⟨rfl, ?_⟩
  exact be1 _ _

/-- The bare chain of what a call leaves as it was. -/
theorem chain0 {B : Nat} {a c u : World} (h : Hid (Below B a c)) (hB : B ≤ a.heap.size) (k : Below c.heap.size c u) : Hid (Below B a u) := h.out.trans (k.mono (Nat.le_trans hB h.out.size))
theorem chain1 {B : Nat} {a c u : World} {o : Obj} (h : Hid (Below B a c)) (hB : B ≤ a.heap.size) (k : Below (c.alloc o).heap.size (c.alloc o) u) : Hid (Below B a u) :=
  (h.out.alloc (Nat.le_trans hB h.out.size) o).trans (k.mono (by have := h.out.size; simp; omega))
theorem chain2 {B : Nat} {a c u : World} {o o' : Obj} (h : Hid (Below B a c)) (hB : B ≤ a.heap.size) (k : Below ((c.alloc o).alloc o').heap.size ((c.alloc o).alloc o') u) : Hid (Below B a u) :=
  ((h.out.alloc (Nat.le_trans hB h.out.size) o).alloc (by have := h.out.size; simp; omega) o').trans (k.mono (by have := h.out.size; simp; omega))

set_option maxHeartbeats 400000 in
theorem lnext_true (b want : Ba) (i : Int) (h : nextZ b i 3 = (want, 0)) (w : World) :
    Calls Try.prog 22 #[.agg b.cells.toArray, .int .i64 i, .agg want.cells.toArray] w fun e w' => e = .returned (.bool true) ∧ Below w.heap.size w w' := by
  have C := next_any b i 3
  rw [h] at C
  clear h
  obtain ⟨r, p⟩ := b
  obtain ⟨r', p'⟩ := want
  simp only [Ba.cells] at C
  have C := Lib.hid C
  have H1 := Lib.hid (wh1_2 w (.cells #[.int .i64 r, .int .i64 p] 23) 23 [.int .i64 r', .int .i64 p'])
  have HB := Lib.hid (be2 w (.cells #[.int .i64 r, .int .i64 p] 23) (.cells #[.int .i64 r', .int .i64 p'] 23))
  unfold Ba.cells
  go_enter Try.func22, Try.ntmps22
  go_wp2_with fail
  refine (C.out _).mono ?_
  rintro e w1 ⟨rfl, hb1⟩
  have H1 := H1.out.below hb1 (by simp)
  have HB := HB.out.trans (hb1.mono (by simp; omega))
  obtain ⟨⟨c0, c1⟩, -⟩ := H1.two
  have hl := H1.lt
  have HB' := Lib.hid HB
  have hz := HB.size
  clear hb1 H1 HB
  go_wp2_with fail
  go_ret
  exact ⟨by simp, HB'.out.alloc hz _⟩

theorem less_is (a b : Ba) (x : Bool) (h : lessB a b = x) (w : World) :
    Calls Try.prog 10 #[.agg a.cells.toArray, .agg b.cells.toArray] w fun e w' => e = .returned (.bool x) ∧ Below w.heap.size w w' := by
  rw [← h]; exact less_any a b w
theorem next_is (b : Ba) (i n : Int) (zr zp : Int) (k : Int) (h : nextZ b i n = (⟨zr, zp⟩, k)) (w : World) :
    Calls Try.prog 13 #[.agg b.cells.toArray, .int .i64 i, .int .i64 n] w fun e w' => e = .returned (.tuple #[.agg #[.int .i64 zr, .int .i64 zp], .int .i64 k]) ∧ Below w.heap.size w w' := by
  have C := next_any b i n w
  rw [h] at C
  exact C
theorem max_nil (w : World) : Calls Try.prog 9 #[.slice none 0 0] w fun e w' => e = .returned (.agg #[.int .i64 0, .int .i64 0]) ∧ Below w.heap.size w w' :=
  max_any [] (.slice none 0 0) w (Row.nil _ _)
theorem max_three (w : World) (a b c : Ba) (mr mp : Int) (h : maxL [a, b, c] = ⟨mr, mp⟩) :
    Calls Try.prog 9 #[.slice (some ⟨w.heap.size, 0, none⟩) 3 3] (w.alloc (.cells #[.int .i64 a.r, .int .i64 a.p, .int .i64 b.r, .int .i64 b.p, .int .i64 c.r, .int .i64 c.p] 23)) fun e w' => e = .returned (.agg #[.int .i64 mr, .int .i64 mp]) ∧ Below (w.heap.size + 1) (w.alloc (.cells #[.int .i64 a.r, .int .i64 a.p, .int .i64 b.r, .int .i64 b.p, .int .i64 c.r, .int .i64 c.p] 23)) w' := by
  have := max_any [a, b, c] (.slice (some ⟨w.heap.size, 0, none⟩) 3 3) (w.alloc (.cells #[.int .i64 a.r, .int .i64 a.p, .int .i64 b.r, .int .i64 b.p, .int .i64 c.r, .int .i64 c.p] 23)) (Row.blk (Whole.new w 23 [.int .i64 a.r, .int .i64 a.p, .int .i64 b.r, .int .i64 b.p, .int .i64 c.r, .int .i64 c.p]) rfl (by simp) (by unfold maxLen; omega))
  rw [World.size_alloc, h] at this
  exact this

set_option maxHeartbeats 4000000 in
theorem awake_any (w : World) : Calls Try.prog 17 #[] w fun e w' => e = .returned (.bool true) ∧ Below w.heap.size w w' := by
  have HB := Lib.hid (Below.refl w.heap.size w)
  go_enter Try.func17, Try.ntmps17
  go_wp2_with (first
    | (go_at_call 18; refine (of_any _ _ _).mono ?_; rintro e u ⟨rfl, hb⟩; have HB1 := (by first | exact chain0 HB (Nat.le_refl _) hb | exact chain1 HB (Nat.le_refl _) hb | exact chain2 HB (Nat.le_refl _) hb : Hid (Below w.heap.size w u)); clear HB hb; have HB := HB1; clear HB1)
    | (go_at_call 13; refine (next_is ⟨_, _⟩ _ _ _ _ _ (by rfl) _).mono ?_; rintro e u ⟨rfl, hb⟩; have HB1 := (by first | exact chain0 HB (Nat.le_refl _) hb | exact chain1 HB (Nat.le_refl _) hb | exact chain2 HB (Nat.le_refl _) hb : Hid (Below w.heap.size w u)); clear HB hb; have HB := HB1; clear HB1)
    | (go_at_call 10; (first | refine (less_is ⟨_, _⟩ ⟨_, _⟩ true (by rfl) _).mono ?_ | refine (less_is ⟨_, _⟩ ⟨_, _⟩ false (by rfl) _).mono ?_); rintro e u ⟨rfl, hb⟩; have HB1 := (by first | exact chain0 HB (Nat.le_refl _) hb | exact chain1 HB (Nat.le_refl _) hb | exact chain2 HB (Nat.le_refl _) hb : Hid (Below w.heap.size w u)); clear HB hb; have HB := HB1; clear HB1)
    | (go_at_call 22; refine (lnext_true ⟨_, _⟩ ⟨_, _⟩ _ (by rfl) _).mono ?_; rintro e u ⟨rfl, hb⟩; have HB1 := (by first | exact chain0 HB (Nat.le_refl _) hb | exact chain1 HB (Nat.le_refl _) hb | exact chain2 HB (Nat.le_refl _) hb : Hid (Below w.heap.size w u)); clear HB hb; have HB := HB1; clear HB1)
    | (go_at_call 9; (with_reducible refine (max_nil _).mono ?_); rintro e u ⟨rfl, hb⟩; have HB1 := (by first | exact chain0 HB (Nat.le_refl _) hb | exact chain1 HB (Nat.le_refl _) hb | exact chain2 HB (Nat.le_refl _) hb : Hid (Below w.heap.size w u)); clear HB hb; have HB := HB1; clear HB1)
    | (go_at_call 9; refine (max_three _ ⟨_, _⟩ ⟨_, _⟩ ⟨_, _⟩ 2 0 (by rfl)).mono ?_; rintro e u ⟨rfl, hb⟩; have HB1 := (by first | exact chain0 HB (Nat.le_refl _) hb | exact chain1 HB (Nat.le_refl _) (by rw [World.size_alloc]; exact hb) | exact chain2 HB (Nat.le_refl _) hb : Hid (Below w.heap.size w u)); clear HB hb; have HB := HB1; clear HB1))
  go_ret
  exact ⟨rfl, HB.out⟩

end Bl
end Go.Proofs.Ytilpclajkofgmaa
