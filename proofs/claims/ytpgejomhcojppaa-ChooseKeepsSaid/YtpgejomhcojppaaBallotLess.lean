/- How two ballots stand to each other: the program's functions (package ballot) and the document's (sextonref14), function by function. -/
import Derived.Test.YtpgejomhcojppaaBallotPlain
import Derived.Test.YtpgejomhcojppaaBlocks
import Derived.Test.YtpgejomhcojppaaWords
import Derived.Test.YtpgejomhcojppaaSteps
import Derived.Test.YtpgejomhcojppaaRows
import Derived.WalkKit
import Derived.WalkSpells
import Derived.WalkLawsBesides
import Derived.Deep.QuietTactic
import Derived.BigQuiet
import Derived.StillTailTactics
import Derived.Deep.RegionHeld3
namespace Go.Proofs.Ytpgejomhcojppaa
open Go.RowKit

namespace Bl

def Ba.cells (a : Ba) : List Value := [.int .i64 a.r, .int .i64 a.p]

set_option maxHeartbeats 400000 in
theorem nan_any (x : Int) (w : World) :
    Calls Try.prog 56 #[.int .i64 x] w fun e w' => e = .returned (.bool false) ∧ w = w' := by
  go_enter Try.func56, Try.ntmps56
  go_wp2
  go_ret
  exact ⟨by simp, rfl⟩

set_option maxHeartbeats 400000 in
theorem cmp_any (x y : Int) (w : World) :
    Calls Try.prog 50 #[.int .i64 x, .int .i64 y] w fun e w' => e = .returned (.int .i64 (cmpZ x y)) ∧ w = w' := by
  have N := Lib.hid @nan_any
  by_cases h1 : x < y
  · have h : cmpZ x y = -1 := by unfold cmpZ; rw [if_pos h1]
    rw [h]; clear h
    go_enter Try.func50, Try.ntmps50
    go_wp2_with (go_at_call 56; refine (N.out _ _).mono ?_; rintro e w' ⟨rfl, rfl⟩)
    go_ret
    exact ⟨rfl, rfl⟩
  by_cases h2 : y < x
  · have h : cmpZ x y = 1 := by unfold cmpZ; rw [if_neg h1, if_pos h2]
    rw [h]; clear h
    go_enter Try.func50, Try.ntmps50
    go_wp2_with (go_at_call 56; refine (N.out _ _).mono ?_; rintro e w' ⟨rfl, rfl⟩)
    go_ret
    exact ⟨rfl, rfl⟩
  · have h : cmpZ x y = 0 := by unfold cmpZ; rw [if_neg h1, if_neg h2]
    rw [h]; clear h
    go_enter Try.func50, Try.ntmps50
    go_wp2_with (go_at_call 56; refine (N.out _ _).mono ?_; rintro e w' ⟨rfl, rfl⟩)
    go_ret
    exact ⟨rfl, rfl⟩

set_option maxHeartbeats 400000 in
theorem or_any (b : Nat) (x y : Int) (w : World) (hb : Whole w b 3 [.int .i64 x, .int .i64 y]) :
    Calls Try.prog 49 #[.slice (some ⟨b, 0, none⟩) 2 2] w fun e w' => e = .returned (.int .i64 (orZ x y)) ∧ w = w' := by
  have c0 := hb.cell 0
  have c1 := hb.cell 1
  simp only [List.getElem?_cons_zero, List.getElem?_cons_succ] at c0 c1
  clear hb
  by_cases h0 : x = 0
  · subst h0
    have h : orZ 0 y = y := rfl
    rw [h]; clear h
    by_cases h1 : y = 0
    · subst h1
      go_enter Try.func49, Try.ntmps49
      go_wp2
      refine wp_loop_rounds 3 ?_
      repeat any_goals (rw [rounds_succ]; go_wp2)
      go_ret
      exact ⟨rfl, rfl⟩
    · have hy : (y != 0) = true := by simpa using h1
      clear h1
      go_enter Try.func49, Try.ntmps49
      go_wp2
      refine wp_loop_rounds 3 ?_
      repeat any_goals (rw [rounds_succ]; go_wp2)
      go_ret
      exact ⟨rfl, rfl⟩
  · have h : orZ x y = x := if_neg h0
    rw [h]; clear h
    have hx : (x != 0) = true := by simpa using h0
    clear h0
    go_enter Try.func49, Try.ntmps49
    go_wp2
    refine wp_loop_rounds 3 ?_
    repeat any_goals (rw [rounds_succ]; go_wp2)
    go_ret
    exact ⟨rfl, rfl⟩

set_option maxHeartbeats 400000 in
theorem to_any (a b : Ba) (w : World) :
    Calls Try.prog 37 #[.agg a.cells.toArray, .agg b.cells.toArray] w fun e w' => e = .returned (.int .i64 (toZ a b)) ∧ Below w.heap.size w w' := by
  obtain ⟨r, p⟩ := a
  obtain ⟨r', p'⟩ := b
  unfold Ba.cells
  have C := Lib.hid @cmp_any
  have O := Lib.hid @or_any
  go_enter Try.func37, Try.ntmps37
  go_wp2_with fail
  obtain ⟨W, hW⟩ : ∃ W : World, W = (w.alloc (.cells #[.int .i64 r, .int .i64 p] 79)).alloc (.cells #[.int .i64 r', .int .i64 p'] 27) := ⟨_, rfl⟩
  have H0 : Whole W w.heap.size 79 [.int .i64 r, .int .i64 p] := by rw [hW]; exact (Whole.new w _ _).alloc _
  have H1 : Whole W (w.heap.size + 1) 27 [.int .i64 r', .int .i64 p'] := by rw [hW]; have := Whole.new (w.alloc (.cells #[.int .i64 r, .int .i64 p] 79)) 27 [.int .i64 r', .int .i64 p']; rwa [World.size_alloc] at this
  have HB : Below w.heap.size w W := by rw [hW]; exact ((Below.refl _ _).alloc (Nat.le_refl _) _).alloc (by simp) _
  rw [← hW]
  clear hW
  have c0 := H0.cell 0
  have c1 := H0.cell 1
  have c2 := H1.cell 0
  have c3 := H1.cell 1
  simp only [List.getElem?_cons_zero, List.getElem?_cons_succ] at c0 c1 c2 c3
  have HB' := Lib.hid HB
  clear H0 H1 HB
  go_region_held3 (fun u : World => u.cell? ⟨w.heap.size, 0, none⟩ = some (.int .i64 r) ∧ u.cell? ⟨w.heap.size, 1, none⟩ = some (.int .i64 p) ∧ u.cell? ⟨w.heap.size + 1, 0, none⟩ = some (.int .i64 r') ∧ u.cell? ⟨w.heap.size + 1, 1, none⟩ = some (.int .i64 p')) (go_keep)
    (first
    | (go_at_call 50; refine (C.out _ _ _).mono ?_; rintro e w' ⟨rfl, rfl⟩)
    | (go_at_call 49; refine (O.out _ _ _ _ (Whole.new _ _ _).drew).mono ?_; rintro e w' ⟨rfl, rfl⟩))
  go_wp2
  go_ret
  exact ⟨rfl, (HB'.out.alloc HB'.out.size _).drew⟩

set_option maxHeartbeats 400000 in
theorem less_any (a b : Ba) (w : World) :
    Calls Try.prog 19 #[.agg a.cells.toArray, .agg b.cells.toArray] w fun e w' => e = .returned (.bool (lessB a b)) ∧ Below w.heap.size w w' := by
  have T := Lib.hid (to_any a b)
  have N := Lib.hid (to_neg a b)
  obtain ⟨r, p⟩ := a
  obtain ⟨r', p'⟩ := b
  unfold Ba.cells
  go_enter Try.func19, Try.ntmps19
  go_wp2_with fail
  refine (T.out _).mono ?_
  rintro e w1 ⟨rfl, hb1⟩
  go_wp2_with fail
  go_ret
  exact ⟨ret_bool N.out, (((Below.refl _ _).alloc (Nat.le_refl _) _).alloc (by simp) _).trans (hb1.mono (by simp; omega))⟩

set_option maxHeartbeats 400000 in
theorem rless_any (a b : Ba) (w : World) :
    Calls Try.prog 36 #[.agg a.cells.toArray, .agg b.cells.toArray] w fun e w' => e = .returned (.bool (lessB a b)) ∧ Below w.heap.size w w' := by
  obtain ⟨r, p⟩ := a
  obtain ⟨r', p'⟩ := b
  unfold Ba.cells
  by_cases h : r = r'
  · subst h
    have N : lessB ⟨r, p⟩ ⟨r, p'⟩ = decide (p < p') := by simp [lessB]
    rw [N]; clear N
    go_enter Try.func36, Try.ntmps36
    go_wp2
    go_ret
    exact ⟨by simp, ((Below.refl _ _).alloc (Nat.le_refl _) _).alloc (by simp) _⟩
  · have N : lessB ⟨r, p⟩ ⟨r', p'⟩ = decide (r < r') := by simp [lessB, h]
    have hn : (r != r') = true := by simpa using h
    rw [N]; clear N h
    go_enter Try.func36, Try.ntmps36
    go_wp2
    go_ret
    exact ⟨by simp, ((Below.refl _ _).alloc (Nat.le_refl _) _).alloc (by simp) _⟩

end Bl
end Go.Proofs.Ytpgejomhcojppaa
