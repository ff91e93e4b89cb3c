/- The chapter's examples of what may be proposed, which the outright laws begin with. -/
import Derived.Test.YtpgejomhcojppaaChooseDecide
import Derived.Test.YtpgejomhcojppaaChooseLaw
import Derived.Test.YtpgejomhcojppaaChooseEql
set_option linter.unusedSimpArgs false
set_option linter.unusedVariables false
namespace Go.Proofs.Ytpgejomhcojppaa
open Go.RowKit
namespace Ch
open Bl Qm
theorem chain0 {B : Nat} {a c u : World} (h : Hid (Below B a c)) (hB : B ≤ a.heap.size) (k : Below c.heap.size c u) : Hid (Below B a u) := h.out.trans (k.mono (Nat.le_trans hB h.out.size))
theorem chainA {B : Nat} {a c u : World} {o : Obj} (h : Hid (Below B a c)) (hB : B ≤ a.heap.size) (k : Below (c.alloc o).heap.size (c.alloc o) u) : Hid (Below B a u) :=
  (h.out.alloc (Nat.le_trans hB h.out.size) o).trans (k.mono (by have := h.out.size; simp; omega))
theorem chainB {B : Nat} {a c u : World} {o o' : Obj} (h : Hid (Below B a c)) (hB : B ≤ a.heap.size) (k : Below ((c.alloc o).alloc o').heap.size ((c.alloc o).alloc o') u) : Hid (Below B a u) :=
  ((h.out.alloc (Nat.le_trans hB h.out.size) o).alloc (by have := h.out.size; simp; omega) o').trans (k.mono (by have := h.out.size; simp; omega))
theorem info_rps : (Try.prog.info? 33).map (·.size) = some 11 := by kernel_rfl
/-- A result that is a report which lies in a block. -/
theorem results_rp {fn : Func} {p : Tmp} (h : fn.results = #[.cell p 33]) (tmps : Array Value) (w : World) (g : Nat) (x : Rp)
    (hp : tmps.getD p undef = .pointer (some ⟨g, 0, none⟩)) (hg : Whole w g 33 (rpC x)) :
    (results fn tmps).run Try.prog w = .ok (.agg (rpC x).toArray) w := by
  have hp' : tmps[p]?.getD undef = .pointer (some ⟨g, 0, none⟩) := by simpa using hp
  have hl := run_loadVar_row (P := Try.prog) w g 33 33 (rpC x).toArray (0, 0) _ hg Try.underlying33 rfl info_rps
  simp [results, h, hp', asAddr, hl]
set_option maxHeartbeats 2000000 in
theorem told_two (r p sq : Int) (w : World) : Calls Try.prog 20 #[.int .u8 2, .int .i64 r, .int .i64 p, .int .i64 sq] w fun e w' => e = .returned (.agg (rpC ⟨0, 2, ⟨r, p⟩, ⟨2, 0, sq, ⟨0, noStr, noStr, noStr⟩⟩⟩).toArray) ∧ Below w.heap.size w w' := by
  go_enter Try.func20, Try.ntmps20
  go_wp2_with fail
  exact bodyPost_ret (results_rp rfl _ _ w.heap.size ⟨0, 2, ⟨r, p⟩, ⟨2, 0, sq, ⟨0, noStr, noStr, noStr⟩⟩⟩ rfl (wh0_2 w 33 (rpC ⟨0, 2, ⟨r, p⟩, ⟨2, 0, sq, ⟨0, noStr, noStr, noStr⟩⟩⟩) _)) rfl ⟨rfl, be2 w _ _⟩
set_option maxHeartbeats 2000000 in
theorem told_lost (r p sq : Int) (w : World) : Calls Try.prog 20 #[.int .u8 3, .int .i64 r, .int .i64 p, .int .i64 sq] w fun e w' => e = .returned (.agg (rpC ⟨0, 3, ⟨r, p⟩, zeroEn⟩).toArray) ∧ Below w.heap.size w w' := by
  go_enter Try.func20, Try.ntmps20
  go_wp2_with fail
  exact bodyPost_ret (results_rp rfl _ _ w.heap.size ⟨0, 3, ⟨r, p⟩, zeroEn⟩ rfl (wh0_2 w 33 (rpC ⟨0, 3, ⟨r, p⟩, zeroEn⟩) _)) rfl ⟨rfl, be2 w _ _⟩
attribute [local go_sem ↓] eql_en in
set_option maxHeartbeats 4000000 in
theorem decides_0 (a b c : Rp) (sq : Int) (h : decR 3 [a, b, c] = (0, zeroEn, 0)) (w : World) : Calls Try.prog 21 #[.agg (rpC a).toArray, .agg (rpC b).toArray, .agg (rpC c).toArray, .int .u8 0, .int .i64 sq] w fun e w' => e = .returned (.bool true) ∧ Below w.heap.size w w' := by
  obtain ⟨W, hW⟩ : ∃ W : World, W = ((((w.alloc (.cells #[.int .i64 a.ix, .int .u8 (a.st : Nat), .int .i64 a.b.r, .int .i64 a.b.p, .int .u8 (a.e.k : Nat), .int .i64 a.e.cl, .int .i64 a.e.sq, .int .u8 (a.e.op.k : Nat), .string a.e.op.a, .string a.e.op.b, .string a.e.op.c] 33)).alloc (.cells #[.int .i64 b.ix, .int .u8 (b.st : Nat), .int .i64 b.b.r, .int .i64 b.b.p, .int .u8 (b.e.k : Nat), .int .i64 b.e.cl, .int .i64 b.e.sq, .int .u8 (b.e.op.k : Nat), .string b.e.op.a, .string b.e.op.b, .string b.e.op.c] 33)).alloc (.cells #[.int .i64 c.ix, .int .u8 (c.st : Nat), .int .i64 c.b.r, .int .i64 c.b.p, .int .u8 (c.e.k : Nat), .int .i64 c.e.cl, .int .i64 c.e.sq, .int .u8 (c.e.op.k : Nat), .string c.e.op.a, .string c.e.op.b, .string c.e.op.c] 33)).alloc (.cells #[.int .i64 a.ix, .int .u8 (a.st : Nat), .int .i64 a.b.r, .int .i64 a.b.p, .int .u8 (a.e.k : Nat), .int .i64 a.e.cl, .int .i64 a.e.sq, .int .u8 (a.e.op.k : Nat), .string a.e.op.a, .string a.e.op.b, .string a.e.op.c, .int .i64 b.ix, .int .u8 (b.st : Nat), .int .i64 b.b.r, .int .i64 b.b.p, .int .u8 (b.e.k : Nat), .int .i64 b.e.cl, .int .i64 b.e.sq, .int .u8 (b.e.op.k : Nat), .string b.e.op.a, .string b.e.op.b, .string b.e.op.c, .int .i64 c.ix, .int .u8 (c.st : Nat), .int .i64 c.b.r, .int .i64 c.b.p, .int .u8 (c.e.k : Nat), .int .i64 c.e.cl, .int .i64 c.e.sq, .int .u8 (c.e.op.k : Nat), .string c.e.op.a, .string c.e.op.b, .string c.e.op.c] 33)) := ⟨_, rfl⟩
  have HS : Row W W.heap.size (.slice (some ⟨w.heap.size + 3, 0, none⟩) 3 3) 3 ([a, b, c].flatMap rpC) := by
    rw [hW]
    exact Row.blk (wh3_4 w _ _ _ 33 ([a, b, c].flatMap rpC)) rfl (by simp) (by simp [maxLen])
  have HB : Hid (Below w.heap.size w W) := by rw [hW]; exact be4 w _ _ _ _
  have C := decide_is 3 [a, b, c] _ W.heap.size W (Nat.le_refl _) HS
  rw [decW_eq, h] at C
  simp only [enC, noopEn, zeroEn, noStr] at C
  have C := Lib.hid C
  have QE := eqE_self 0 0 0 0 { data := #[] } { data := #[] } { data := #[] }
  clear h HS
  simp only [rpC]
  go_enter Try.func21, Try.ntmps21
  go_wp2_with fail
  rw [← hW]
  clear hW
  refine C.out.mono ?_
  rintro e u ⟨rfl, hx⟩
  have HB1 := Lib.hid (HB.out.trans (hx.mono HB.out.size))
  have z := HB1.out.size
  clear C hx HB
  go_wp2_with fail
  go_ret
  exact ⟨by simp, (HB1.out.alloc z _).alloc (by simp; omega) _⟩
attribute [local go_sem ↓] eql_en in
set_option maxHeartbeats 4000000 in
theorem decides_1 (a b c : Rp) (sq : Int) (h : decR 3 [a, b, c] = (1, noopEn, 0)) (w : World) : Calls Try.prog 21 #[.agg (rpC a).toArray, .agg (rpC b).toArray, .agg (rpC c).toArray, .int .u8 1, .int .i64 sq] w fun e w' => e = .returned (.bool true) ∧ Below w.heap.size w w' := by
  obtain ⟨W, hW⟩ : ∃ W : World, W = ((((w.alloc (.cells #[.int .i64 a.ix, .int .u8 (a.st : Nat), .int .i64 a.b.r, .int .i64 a.b.p, .int .u8 (a.e.k : Nat), .int .i64 a.e.cl, .int .i64 a.e.sq, .int .u8 (a.e.op.k : Nat), .string a.e.op.a, .string a.e.op.b, .string a.e.op.c] 33)).alloc (.cells #[.int .i64 b.ix, .int .u8 (b.st : Nat), .int .i64 b.b.r, .int .i64 b.b.p, .int .u8 (b.e.k : Nat), .int .i64 b.e.cl, .int .i64 b.e.sq, .int .u8 (b.e.op.k : Nat), .string b.e.op.a, .string b.e.op.b, .string b.e.op.c] 33)).alloc (.cells #[.int .i64 c.ix, .int .u8 (c.st : Nat), .int .i64 c.b.r, .int .i64 c.b.p, .int .u8 (c.e.k : Nat), .int .i64 c.e.cl, .int .i64 c.e.sq, .int .u8 (c.e.op.k : Nat), .string c.e.op.a, .string c.e.op.b, .string c.e.op.c] 33)).alloc (.cells #[.int .i64 a.ix, .int .u8 (a.st : Nat), .int .i64 a.b.r, .int .i64 a.b.p, .int .u8 (a.e.k : Nat), .int .i64 a.e.cl, .int .i64 a.e.sq, .int .u8 (a.e.op.k : Nat), .string a.e.op.a, .string a.e.op.b, .string a.e.op.c, .int .i64 b.ix, .int .u8 (b.st : Nat), .int .i64 b.b.r, .int .i64 b.b.p, .int .u8 (b.e.k : Nat), .int .i64 b.e.cl, .int .i64 b.e.sq, .int .u8 (b.e.op.k : Nat), .string b.e.op.a, .string b.e.op.b, .string b.e.op.c, .int .i64 c.ix, .int .u8 (c.st : Nat), .int .i64 c.b.r, .int .i64 c.b.p, .int .u8 (c.e.k : Nat), .int .i64 c.e.cl, .int .i64 c.e.sq, .int .u8 (c.e.op.k : Nat), .string c.e.op.a, .string c.e.op.b, .string c.e.op.c] 33)) := ⟨_, rfl⟩
  have HS : Row W W.heap.size (.slice (some ⟨w.heap.size + 3, 0, none⟩) 3 3) 3 ([a, b, c].flatMap rpC) := by
    rw [hW]
    exact Row.blk (wh3_4 w _ _ _ 33 ([a, b, c].flatMap rpC)) rfl (by simp) (by simp [maxLen])
  have HB : Hid (Below w.heap.size w W) := by rw [hW]; exact be4 w _ _ _ _
  have C := decide_is 3 [a, b, c] _ W.heap.size W (Nat.le_refl _) HS
  rw [decW_eq, h] at C
  simp only [enC, noopEn, zeroEn, noStr] at C
  have C := Lib.hid C
  have QE := eqE_self 1 0 0 0 { data := #[] } { data := #[] } { data := #[] }
  clear h HS
  simp only [rpC]
  go_enter Try.func21, Try.ntmps21
  go_wp2_with fail
  rw [← hW]
  clear hW
  refine C.out.mono ?_
  rintro e u ⟨rfl, hx⟩
  have HB1 := Lib.hid (HB.out.trans (hx.mono HB.out.size))
  have z := HB1.out.size
  clear C hx HB
  go_wp2_with fail
  go_ret
  exact ⟨by simp, (HB1.out.alloc z _).alloc (by simp; omega) _⟩
attribute [local go_sem ↓] eql_en in
set_option maxHeartbeats 4000000 in
theorem decides_2 (a b c : Rp) (sq : Int) (h : decR 3 [a, b, c] = (2, ⟨2, 0, sq, ⟨0, noStr, noStr, noStr⟩⟩, 0)) (w : World) : Calls Try.prog 21 #[.agg (rpC a).toArray, .agg (rpC b).toArray, .agg (rpC c).toArray, .int .u8 2, .int .i64 sq] w fun e w' => e = .returned (.bool true) ∧ Below w.heap.size w w' := by
  obtain ⟨W, hW⟩ : ∃ W : World, W = ((((w.alloc (.cells #[.int .i64 a.ix, .int .u8 (a.st : Nat), .int .i64 a.b.r, .int .i64 a.b.p, .int .u8 (a.e.k : Nat), .int .i64 a.e.cl, .int .i64 a.e.sq, .int .u8 (a.e.op.k : Nat), .string a.e.op.a, .string a.e.op.b, .string a.e.op.c] 33)).alloc (.cells #[.int .i64 b.ix, .int .u8 (b.st : Nat), .int .i64 b.b.r, .int .i64 b.b.p, .int .u8 (b.e.k : Nat), .int .i64 b.e.cl, .int .i64 b.e.sq, .int .u8 (b.e.op.k : Nat), .string b.e.op.a, .string b.e.op.b, .string b.e.op.c] 33)).alloc (.cells #[.int .i64 c.ix, .int .u8 (c.st : Nat), .int .i64 c.b.r, .int .i64 c.b.p, .int .u8 (c.e.k : Nat), .int .i64 c.e.cl, .int .i64 c.e.sq, .int .u8 (c.e.op.k : Nat), .string c.e.op.a, .string c.e.op.b, .string c.e.op.c] 33)).alloc (.cells #[.int .i64 a.ix, .int .u8 (a.st : Nat), .int .i64 a.b.r, .int .i64 a.b.p, .int .u8 (a.e.k : Nat), .int .i64 a.e.cl, .int .i64 a.e.sq, .int .u8 (a.e.op.k : Nat), .string a.e.op.a, .string a.e.op.b, .string a.e.op.c, .int .i64 b.ix, .int .u8 (b.st : Nat), .int .i64 b.b.r, .int .i64 b.b.p, .int .u8 (b.e.k : Nat), .int .i64 b.e.cl, .int .i64 b.e.sq, .int .u8 (b.e.op.k : Nat), .string b.e.op.a, .string b.e.op.b, .string b.e.op.c, .int .i64 c.ix, .int .u8 (c.st : Nat), .int .i64 c.b.r, .int .i64 c.b.p, .int .u8 (c.e.k : Nat), .int .i64 c.e.cl, .int .i64 c.e.sq, .int .u8 (c.e.op.k : Nat), .string c.e.op.a, .string c.e.op.b, .string c.e.op.c] 33)) := ⟨_, rfl⟩
  have HS : Row W W.heap.size (.slice (some ⟨w.heap.size + 3, 0, none⟩) 3 3) 3 ([a, b, c].flatMap rpC) := by
    rw [hW]
    exact Row.blk (wh3_4 w _ _ _ 33 ([a, b, c].flatMap rpC)) rfl (by simp) (by simp [maxLen])
  have HB : Hid (Below w.heap.size w W) := by rw [hW]; exact be4 w _ _ _ _
  have C := decide_is 3 [a, b, c] _ W.heap.size W (Nat.le_refl _) HS
  rw [decW_eq, h] at C
  simp only [enC, noopEn, zeroEn, noStr] at C
  have C := Lib.hid C
  have QE := eqE_self 2 0 sq 0 { data := #[] } { data := #[] } { data := #[] }
  clear h HS
  simp only [rpC]
  go_enter Try.func21, Try.ntmps21
  go_wp2_with fail
  rw [← hW]
  clear hW
  refine C.out.mono ?_
  rintro e u ⟨rfl, hx⟩
  have HB1 := Lib.hid (HB.out.trans (hx.mono HB.out.size))
  have z := HB1.out.size
  clear C hx HB
  go_wp2_with fail
  go_ret
  exact ⟨by simp, (HB1.out.alloc z _).alloc (by simp; omega) _⟩
theorem lessB_lit (a b c d : Int) : lessB ⟨a, b⟩ ⟨c, d⟩ = (decide (a < c) || (decide (a = c) && decide (b < d))) := rfl
theorem aw0 : decR 3 [⟨0, 1, ⟨0, 0⟩, zeroEn⟩, ⟨0, 1, ⟨0, 0⟩, zeroEn⟩, zeroRp] = (1, noopEn, 0) := by kernel_rfl
theorem aw1 : decR 3 [⟨0, 1, ⟨0, 0⟩, zeroEn⟩, zeroRp, zeroRp] = (0, zeroEn, 0) := by kernel_rfl
theorem aw2 : decR 3 [⟨0, 2, ⟨1, 0⟩, ⟨2, 0, 7, ⟨0, noStr, noStr, noStr⟩⟩⟩, ⟨0, 1, ⟨0, 0⟩, zeroEn⟩, zeroRp] = (2, ⟨2, 0, 7, ⟨0, noStr, noStr, noStr⟩⟩, 0) := by kernel_rfl
theorem aw3 : decR 3 [⟨0, 2, ⟨1, 0⟩, ⟨2, 0, 7, ⟨0, noStr, noStr, noStr⟩⟩⟩, ⟨0, 2, ⟨2, 1⟩, ⟨2, 0, 8, ⟨0, noStr, noStr, noStr⟩⟩⟩, zeroRp] = (2, ⟨2, 0, 8, ⟨0, noStr, noStr, noStr⟩⟩, 0) := by kernel_rfl
theorem aw4 : decR 3 [⟨0, 3, ⟨2, 1⟩, zeroEn⟩, ⟨0, 1, ⟨0, 0⟩, zeroEn⟩, zeroRp] = (0, zeroEn, 0) := by kernel_rfl
theorem aw5 : decR 3 [⟨0, 3, ⟨2, 1⟩, zeroEn⟩, ⟨0, 1, ⟨0, 0⟩, zeroEn⟩, ⟨0, 1, ⟨0, 0⟩, zeroEn⟩] = (1, noopEn, 0) := by kernel_rfl
theorem aw6 : decR 3 [⟨0, 3, ⟨2, 1⟩, zeroEn⟩, ⟨0, 2, ⟨1, 0⟩, ⟨2, 0, 7, ⟨0, noStr, noStr, noStr⟩⟩⟩, ⟨0, 1, ⟨0, 0⟩, zeroEn⟩] = (2, ⟨2, 0, 7, ⟨0, noStr, noStr, noStr⟩⟩, 0) := by kernel_rfl
theorem aw7 : decR 3 [⟨0, 3, ⟨2, 1⟩, zeroEn⟩, ⟨0, 2, ⟨1, 0⟩, ⟨2, 0, 7, ⟨0, noStr, noStr, noStr⟩⟩⟩, zeroRp] = (0, zeroEn, 0) := by kernel_rfl
theorem aw8 : decR 3 [⟨0, 4, ⟨0, 0⟩, zeroEn⟩, ⟨0, 2, ⟨1, 0⟩, ⟨2, 0, 7, ⟨0, noStr, noStr, noStr⟩⟩⟩, zeroRp] = (0, zeroEn, 0) := by kernel_rfl
theorem aw9 : decR 3 [⟨0, 3, ⟨2, 1⟩, zeroEn⟩, ⟨0, 3, ⟨2, 1⟩, zeroEn⟩, ⟨0, 2, ⟨1, 0⟩, ⟨2, 0, 7, ⟨0, noStr, noStr, noStr⟩⟩⟩] = (2, ⟨2, 0, 7, ⟨0, noStr, noStr, noStr⟩⟩, 0) := by kernel_rfl
theorem aw10 : decR 3 [⟨0, 4, ⟨0, 0⟩, zeroEn⟩, ⟨0, 4, ⟨0, 0⟩, zeroEn⟩, ⟨0, 1, ⟨0, 0⟩, zeroEn⟩] = (1, noopEn, 0) := by kernel_rfl
theorem aw11 : decR 3 [⟨0, 4, ⟨0, 0⟩, zeroEn⟩, ⟨0, 2, ⟨1, 0⟩, ⟨2, 0, 7, ⟨0, noStr, noStr, noStr⟩⟩⟩, ⟨0, 1, ⟨0, 0⟩, zeroEn⟩] = (2, ⟨2, 0, 7, ⟨0, noStr, noStr, noStr⟩⟩, 0) := by kernel_rfl
theorem awe : decR 3 [⟨0, 1, ⟨0, 0⟩, zeroEn⟩, ⟨0, 1, ⟨0, 0⟩, zeroEn⟩] = (0, zeroEn, 2) := by kernel_rfl
theorem awf : decR 3 [⟨0, 1, ⟨0, 0⟩, zeroEn⟩, ⟨0, 1, ⟨0, 0⟩, zeroEn⟩, ⟨0, 5, ⟨0, 0⟩, zeroEn⟩] = (0, zeroEn, 2) := by kernel_rfl
end Ch
end Go.Proofs.Ytpgejomhcojppaa
