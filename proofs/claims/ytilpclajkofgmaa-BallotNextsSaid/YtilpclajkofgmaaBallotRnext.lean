/- The document's next ballot of a replica. -/
import Derived.Test.YtilpclajkofgmaaBallotNext
set_option linter.unusedSimpArgs false
set_option linter.unusedVariables false
namespace Go.Proofs.Ytilpclajkofgmaa
open Go.RowKit

namespace Bl

set_option maxHeartbeats 2000000 in
theorem rnext_may (r p i n : Int) (hm : mayB ⟨r, p⟩ n = false) (w : World) :
    Calls Try.prog 14 #[.agg #[.int .i64 r, .int .i64 p], .int .i64 i, .int .i64 n] w fun e w' => e = .returned (.tuple #[.agg #[.int .i64 0, .int .i64 0], .int .i64 2]) ∧ Below w.heap.size w w' := by
  have C := rmay_any ⟨r, p⟩ n
  rw [hm] at C
  have C := Lib.hid C
  clear hm
  have KB := Lib.hid (Below.refl w.heap.size w)
  go_enter Try.func14, Try.ntmps14
  go_wp2_with fail
  refine (C.out _).mono ?_
  rintro e1 u1 ⟨rfl, hb⟩
  have H_box : Whole u1 (w.heap.size) 23 _ := Whole.below ((Whole.new _ 23 _).alloc _) hb (by first | (simp; done) | (simp; omega) | (simp at *; omega))
  have H_res : Whole u1 (w.heap.size + 1) 23 _ := Whole.below (wh_at w 1 _ 23 _ (by simp)) hb (by first | (simp; done) | (simp; omega) | (simp at *; omega))
  have HB := ((KB.out.alloc (by first | (simp; done) | (simp; omega) | (simp at *; omega)) _).alloc (by first | (simp; done) | (simp; omega) | (simp at *; omega)) _).trans (hb.mono (by first | (simp; done) | (simp; omega) | (simp at *; omega)))
  clear hb KB
  have z_u1 := HB.size
  have c_box_0 := H_box.cell 0; have f_box_0 := H_box.free 0; have c_box_1 := H_box.cell 1; have f_box_1 := H_box.free 1
  simp only [List.set_cons_zero, List.set_cons_succ, List.getElem?_cons_zero, List.getElem?_cons_succ] at c_box_0 c_box_1
  have c_res_0 := H_res.cell 0; have f_res_0 := H_res.free 0; have c_res_1 := H_res.cell 1; have f_res_1 := H_res.free 1
  simp only [List.set_cons_zero, List.set_cons_succ, List.getElem?_cons_zero, List.getElem?_cons_succ] at c_res_0 c_res_1
  have l_box := H_box.lt; have K_box := Lib.hid H_box; clear H_box
  have l_res := H_res.lt; have K_res := Lib.hid H_res; clear H_res
  have KB := Lib.hid HB; clear HB
  go_wp2_with fail
  refine bodyPost_ret (v := .tuple #[.agg #[.int .i64 0, .int .i64 0], .int .i64 2]) (by simp [results, Try.results14, go_sem, c_box_0, c_box_1, f_box_0, f_box_1, c_res_0, c_res_1, f_res_0, f_res_1]) rfl ⟨rfl, ?_⟩
  exact ((KB.out.setCell (p := ⟨w.heap.size + 1, 0, none⟩) (by first | (simp; done) | (simp; omega) | (simp at *; omega)) _).setCell (p := ⟨w.heap.size + 1, 1, none⟩) (by first | (simp; done) | (simp; omega) | (simp at *; omega)) _)


set_option maxHeartbeats 2000000 in
theorem rnext_low (r p i n : Int) (hm : mayB ⟨r, p⟩ n = true) (h1 : i < 0) (w : World) :
    Calls Try.prog 14 #[.agg #[.int .i64 r, .int .i64 p], .int .i64 i, .int .i64 n] w fun e w' => e = .returned (.tuple #[.agg #[.int .i64 0, .int .i64 0], .int .i64 2]) ∧ Below w.heap.size w w' := by
  have C := rmay_any ⟨r, p⟩ n
  rw [hm] at C
  have C := Lib.hid C
  have d1 : decide (i < 0) = true := decide_eq_true h1
  clear hm
  have KB := Lib.hid (Below.refl w.heap.size w)
  go_enter Try.func14, Try.ntmps14
  go_wp2_with fail
  refine (C.out _).mono ?_
  rintro e1 u1 ⟨rfl, hb⟩
  have H_box : Whole u1 (w.heap.size) 23 _ := Whole.below ((Whole.new _ 23 _).alloc _) hb (by first | (simp; done) | (simp; omega) | (simp at *; omega))
  have H_res : Whole u1 (w.heap.size + 1) 23 _ := Whole.below (wh_at w 1 _ 23 _ (by simp)) hb (by first | (simp; done) | (simp; omega) | (simp at *; omega))
  have HB := ((KB.out.alloc (by first | (simp; done) | (simp; omega) | (simp at *; omega)) _).alloc (by first | (simp; done) | (simp; omega) | (simp at *; omega)) _).trans (hb.mono (by first | (simp; done) | (simp; omega) | (simp at *; omega)))
  clear hb KB
  have z_u1 := HB.size
  have c_box_0 := H_box.cell 0; have f_box_0 := H_box.free 0; have c_box_1 := H_box.cell 1; have f_box_1 := H_box.free 1
  simp only [List.set_cons_zero, List.set_cons_succ, List.getElem?_cons_zero, List.getElem?_cons_succ] at c_box_0 c_box_1
  have c_res_0 := H_res.cell 0; have f_res_0 := H_res.free 0; have c_res_1 := H_res.cell 1; have f_res_1 := H_res.free 1
  simp only [List.set_cons_zero, List.set_cons_succ, List.getElem?_cons_zero, List.getElem?_cons_succ] at c_res_0 c_res_1
  have l_box := H_box.lt; have K_box := Lib.hid H_box; clear H_box
  have l_res := H_res.lt; have K_res := Lib.hid H_res; clear H_res
  have KB := Lib.hid HB; clear HB
  go_wp2_with fail
  refine bodyPost_ret (v := .tuple #[.agg #[.int .i64 0, .int .i64 0], .int .i64 2]) (by simp [results, Try.results14, go_sem, c_box_0, c_box_1, f_box_0, f_box_1, c_res_0, c_res_1, f_res_0, f_res_1]) rfl ⟨rfl, ?_⟩
  exact ((KB.out.setCell (p := ⟨w.heap.size + 1, 0, none⟩) (by first | (simp; done) | (simp; omega) | (simp at *; omega)) _).setCell (p := ⟨w.heap.size + 1, 1, none⟩) (by first | (simp; done) | (simp; omega) | (simp at *; omega)) _)


set_option maxHeartbeats 2000000 in
theorem rnext_high (r p i n : Int) (hm : mayB ⟨r, p⟩ n = true) (h1 : 0 ≤ i) (h2 : n ≤ i) (w : World) :
    Calls Try.prog 14 #[.agg #[.int .i64 r, .int .i64 p], .int .i64 i, .int .i64 n] w fun e w' => e = .returned (.tuple #[.agg #[.int .i64 0, .int .i64 0], .int .i64 2]) ∧ Below w.heap.size w w' := by
  have C := rmay_any ⟨r, p⟩ n
  rw [hm] at C
  have C := Lib.hid C
  have d1 : decide (i < 0) = false := decide_eq_false (by omega)
  have d2 : decide (n ≤ i) = true := decide_eq_true h2
  clear hm
  have KB := Lib.hid (Below.refl w.heap.size w)
  go_enter Try.func14, Try.ntmps14
  go_wp2_with fail
  refine (C.out _).mono ?_
  rintro e1 u1 ⟨rfl, hb⟩
  have H_box : Whole u1 (w.heap.size) 23 _ := Whole.below ((Whole.new _ 23 _).alloc _) hb (by first | (simp; done) | (simp; omega) | (simp at *; omega))
  have H_res : Whole u1 (w.heap.size + 1) 23 _ := Whole.below (wh_at w 1 _ 23 _ (by simp)) hb (by first | (simp; done) | (simp; omega) | (simp at *; omega))
  have HB := ((KB.out.alloc (by first | (simp; done) | (simp; omega) | (simp at *; omega)) _).alloc (by first | (simp; done) | (simp; omega) | (simp at *; omega)) _).trans (hb.mono (by first | (simp; done) | (simp; omega) | (simp at *; omega)))
  clear hb KB
  have z_u1 := HB.size
  have c_box_0 := H_box.cell 0; have f_box_0 := H_box.free 0; have c_box_1 := H_box.cell 1; have f_box_1 := H_box.free 1
  simp only [List.set_cons_zero, List.set_cons_succ, List.getElem?_cons_zero, List.getElem?_cons_succ] at c_box_0 c_box_1
  have c_res_0 := H_res.cell 0; have f_res_0 := H_res.free 0; have c_res_1 := H_res.cell 1; have f_res_1 := H_res.free 1
  simp only [List.set_cons_zero, List.set_cons_succ, List.getElem?_cons_zero, List.getElem?_cons_succ] at c_res_0 c_res_1
  have l_box := H_box.lt; have K_box := Lib.hid H_box; clear H_box
  have l_res := H_res.lt; have K_res := Lib.hid H_res; clear H_res
  have KB := Lib.hid HB; clear HB
  go_wp2_with fail
  refine bodyPost_ret (v := .tuple #[.agg #[.int .i64 0, .int .i64 0], .int .i64 2]) (by simp [results, Try.results14, go_sem, c_box_0, c_box_1, f_box_0, f_box_1, c_res_0, c_res_1, f_res_0, f_res_1]) rfl ⟨rfl, ?_⟩
  exact ((KB.out.setCell (p := ⟨w.heap.size + 1, 0, none⟩) (by first | (simp; done) | (simp; omega) | (simp at *; omega)) _).setCell (p := ⟨w.heap.size + 1, 1, none⟩) (by first | (simp; done) | (simp; omega) | (simp at *; omega)) _)


set_option maxHeartbeats 2000000 in
theorem rnext_zero (p i n : Int) (hm : mayB ⟨0, p⟩ n = true) (h1 : 0 ≤ i) (h2 : i < n) (hL : lessB ⟨0, p⟩ ⟨1, i⟩ = true) (w : World) :
    Calls Try.prog 14 #[.agg #[.int .i64 0, .int .i64 p], .int .i64 i, .int .i64 n] w fun e w' => e = .returned (.tuple #[.agg #[.int .i64 1, .int .i64 i], .int .i64 0]) ∧ Below w.heap.size w w' := by
  have C := rmay_any ⟨0, p⟩ n
  rw [hm] at C
  have C := Lib.hid C
  have L1 := rless_any ⟨0, p⟩ ⟨1, i⟩
  rw [hL] at L1
  have L1 := Lib.hid L1
  have d1 : decide (i < 0) = false := decide_eq_false (by omega)
  have d2 : decide (n ≤ i) = false := decide_eq_false (by omega)
  clear hm hL
  have KB := Lib.hid (Below.refl w.heap.size w)
  go_enter Try.func14, Try.ntmps14
  go_wp2_with fail
  refine (C.out _).mono ?_
  rintro e1 u1 ⟨rfl, hb⟩
  have H_box : Whole u1 (w.heap.size) 23 _ := Whole.below ((Whole.new _ 23 _).alloc _) hb (by first | (simp; done) | (simp; omega) | (simp at *; omega))
  have H_res : Whole u1 (w.heap.size + 1) 23 _ := Whole.below (wh_at w 1 _ 23 _ (by simp)) hb (by first | (simp; done) | (simp; omega) | (simp at *; omega))
  have HB := ((KB.out.alloc (by first | (simp; done) | (simp; omega) | (simp at *; omega)) _).alloc (by first | (simp; done) | (simp; omega) | (simp at *; omega)) _).trans (hb.mono (by first | (simp; done) | (simp; omega) | (simp at *; omega)))
  clear hb KB
  have z_u1 := HB.size
  have c_box_0 := H_box.cell 0; have f_box_0 := H_box.free 0; have c_box_1 := H_box.cell 1; have f_box_1 := H_box.free 1
  simp only [List.set_cons_zero, List.set_cons_succ, List.getElem?_cons_zero, List.getElem?_cons_succ] at c_box_0 c_box_1
  have c_res_0 := H_res.cell 0; have f_res_0 := H_res.free 0; have c_res_1 := H_res.cell 1; have f_res_1 := H_res.free 1
  simp only [List.set_cons_zero, List.set_cons_succ, List.getElem?_cons_zero, List.getElem?_cons_succ] at c_res_0 c_res_1
  have l_box := H_box.lt; have K_box := Lib.hid H_box; clear H_box
  have l_res := H_res.lt; have K_res := Lib.hid H_res; clear H_res
  have KB := Lib.hid HB; clear HB
  go_wp2_with fail
  refine wp_loop_rounds 3 ?_
  rw [rounds_succ]
  go_wp2_with fail
  rw [rounds_succ]
  go_wp2_with fail
  refine (L1.out _).mono ?_
  rintro e2 u2 ⟨rfl, hb⟩
  have H_box : Whole u2 (w.heap.size) 23 _ := Whole.below ((K_box.out.alloc _).alloc _) hb (by first | (simp; done) | (simp; omega) | (simp at *; omega))
  have H_res : Whole u2 (w.heap.size + 1) 23 _ := Whole.below ((K_res.out.alloc _).alloc _) hb (by first | (simp; done) | (simp; omega) | (simp at *; omega))
  have H_x0 : Whole u2 (u1.heap.size) 23 _ := Whole.below ((Whole.new _ 23 _).alloc _) hb (by first | (simp; done) | (simp; omega) | (simp at *; omega))
  have H_x1 : Whole u2 (u1.heap.size + 1) 23 _ := Whole.below (wh_at u1 1 _ 23 _ (by simp)) hb (by first | (simp; done) | (simp; omega) | (simp at *; omega))
  have HB := ((KB.out.alloc (by first | (simp; done) | (simp; omega) | (simp at *; omega)) _).alloc (by first | (simp; done) | (simp; omega) | (simp at *; omega)) _).trans (hb.mono (by first | (simp; done) | (simp; omega) | (simp at *; omega)))
  clear c_box_0 c_box_1 f_box_0 f_box_1 c_res_0 c_res_1 f_res_0 f_res_1 l_box l_res
  clear hb KB K_box K_res
  have z_u2 := HB.size
  have c_box_0 := H_box.cell 0; have f_box_0 := H_box.free 0; have c_box_1 := H_box.cell 1; have f_box_1 := H_box.free 1
  simp only [List.set_cons_zero, List.set_cons_succ, List.getElem?_cons_zero, List.getElem?_cons_succ] at c_box_0 c_box_1
  have c_res_0 := H_res.cell 0; have f_res_0 := H_res.free 0; have c_res_1 := H_res.cell 1; have f_res_1 := H_res.free 1
  simp only [List.set_cons_zero, List.set_cons_succ, List.getElem?_cons_zero, List.getElem?_cons_succ] at c_res_0 c_res_1
  have c_x0_0 := H_x0.cell 0; have f_x0_0 := H_x0.free 0; have c_x0_1 := H_x0.cell 1; have f_x0_1 := H_x0.free 1
  simp only [List.set_cons_zero, List.set_cons_succ, List.getElem?_cons_zero, List.getElem?_cons_succ] at c_x0_0 c_x0_1
  have c_x1_0 := H_x1.cell 0; have f_x1_0 := H_x1.free 0; have c_x1_1 := H_x1.cell 1; have f_x1_1 := H_x1.free 1
  simp only [List.set_cons_zero, List.set_cons_succ, List.getElem?_cons_zero, List.getElem?_cons_succ] at c_x1_0 c_x1_1
  have l_box := H_box.lt; have K_box := Lib.hid H_box; clear H_box
  have l_res := H_res.lt; have K_res := Lib.hid H_res; clear H_res
  have l_x0 := H_x0.lt; have K_x0 := Lib.hid H_x0; clear H_x0
  have l_x1 := H_x1.lt; have K_x1 := Lib.hid H_x1; clear H_x1
  have KB := Lib.hid HB; clear HB
  go_wp2_with fail
  refine bodyPost_ret (v := .tuple #[.agg #[.int .i64 1, .int .i64 i], .int .i64 0]) (by simp [results, Try.results14, go_sem, c_box_0, c_box_1, f_box_0, f_box_1, c_res_0, c_res_1, f_res_0, f_res_1, c_x0_0, c_x0_1, f_x0_0, f_x0_1, c_x1_0, c_x1_1, f_x1_0, f_x1_1]) rfl ⟨rfl, ?_⟩
  exact ((KB.out.setCell (p := ⟨w.heap.size + 1, 0, none⟩) (by first | (simp; done) | (simp; omega) | (simp at *; omega)) _).setCell (p := ⟨w.heap.size + 1, 1, none⟩) (by first | (simp; done) | (simp; omega) | (simp at *; omega)) _)


set_option maxHeartbeats 2000000 in
theorem rnext_same (r p i n : Int) (hm : mayB ⟨r, p⟩ n = true) (h1 : 0 ≤ i) (h2 : i < n) (h3 : 1 ≤ r) (h4 : r ≤ 1099511627776) (hL : lessB ⟨r, p⟩ ⟨r, i⟩ = true) (w : World) :
    Calls Try.prog 14 #[.agg #[.int .i64 r, .int .i64 p], .int .i64 i, .int .i64 n] w fun e w' => e = .returned (.tuple #[.agg #[.int .i64 r, .int .i64 i], .int .i64 0]) ∧ Below w.heap.size w w' := by
  have C := rmay_any ⟨r, p⟩ n
  rw [hm] at C
  have C := Lib.hid C
  have L0 := rless_any ⟨r, p⟩ ⟨r, i⟩
  rw [hL] at L0
  have L0 := Lib.hid L0
  have d1 : decide (i < 0) = false := decide_eq_false (by omega)
  have d2 : decide (n ≤ i) = false := decide_eq_false (by omega)
  clear hm hL
  have KB := Lib.hid (Below.refl w.heap.size w)
  go_enter Try.func14, Try.ntmps14
  go_wp2_with fail
  refine (C.out _).mono ?_
  rintro e1 u1 ⟨rfl, hb⟩
  have H_box : Whole u1 (w.heap.size) 23 _ := Whole.below ((Whole.new _ 23 _).alloc _) hb (by first | (simp; done) | (simp; omega) | (simp at *; omega))
  have H_res : Whole u1 (w.heap.size + 1) 23 _ := Whole.below (wh_at w 1 _ 23 _ (by simp)) hb (by first | (simp; done) | (simp; omega) | (simp at *; omega))
  have HB := ((KB.out.alloc (by first | (simp; done) | (simp; omega) | (simp at *; omega)) _).alloc (by first | (simp; done) | (simp; omega) | (simp at *; omega)) _).trans (hb.mono (by first | (simp; done) | (simp; omega) | (simp at *; omega)))
  clear hb KB
  have z_u1 := HB.size
  have c_box_0 := H_box.cell 0; have f_box_0 := H_box.free 0; have c_box_1 := H_box.cell 1; have f_box_1 := H_box.free 1
  simp only [List.set_cons_zero, List.set_cons_succ, List.getElem?_cons_zero, List.getElem?_cons_succ] at c_box_0 c_box_1
  have c_res_0 := H_res.cell 0; have f_res_0 := H_res.free 0; have c_res_1 := H_res.cell 1; have f_res_1 := H_res.free 1
  simp only [List.set_cons_zero, List.set_cons_succ, List.getElem?_cons_zero, List.getElem?_cons_succ] at c_res_0 c_res_1
  have l_box := H_box.lt; have K_box := Lib.hid H_box; clear H_box
  have l_res := H_res.lt; have K_res := Lib.hid H_res; clear H_res
  have KB := Lib.hid HB; clear HB
  go_wp2_with fail
  refine wp_loop_rounds 3 ?_
  rw [rounds_succ]
  go_wp2_with fail
  refine (L0.out _).mono ?_
  rintro e2 u2 ⟨rfl, hb⟩
  have H_box : Whole u2 (w.heap.size) 23 _ := Whole.below (K_box.out.alloc _) hb (by first | (simp; done) | (simp; omega) | (simp at *; omega))
  have H_res : Whole u2 (w.heap.size + 1) 23 _ := Whole.below (K_res.out.alloc _) hb (by first | (simp; done) | (simp; omega) | (simp at *; omega))
  have H_x0 : Whole u2 (u1.heap.size) 23 _ := Whole.below (Whole.new _ 23 _) hb (by first | (simp; done) | (simp; omega) | (simp at *; omega))
  have HB := (KB.out.alloc (by first | (simp; done) | (simp; omega) | (simp at *; omega)) _).trans (hb.mono (by first | (simp; done) | (simp; omega) | (simp at *; omega)))
  clear c_box_0 c_box_1 f_box_0 f_box_1 c_res_0 c_res_1 f_res_0 f_res_1 l_box l_res
  clear hb KB K_box K_res
  have z_u2 := HB.size
  have c_box_0 := H_box.cell 0; have f_box_0 := H_box.free 0; have c_box_1 := H_box.cell 1; have f_box_1 := H_box.free 1
  simp only [List.set_cons_zero, List.set_cons_succ, List.getElem?_cons_zero, List.getElem?_cons_succ] at c_box_0 c_box_1
  have c_res_0 := H_res.cell 0; have f_res_0 := H_res.free 0; have c_res_1 := H_res.cell 1; have f_res_1 := H_res.free 1
  simp only [List.set_cons_zero, List.set_cons_succ, List.getElem?_cons_zero, List.getElem?_cons_succ] at c_res_0 c_res_1
  have c_x0_0 := H_x0.cell 0; have f_x0_0 := H_x0.free 0; have c_x0_1 := H_x0.cell 1; have f_x0_1 := H_x0.free 1
  simp only [List.set_cons_zero, List.set_cons_succ, List.getElem?_cons_zero, List.getElem?_cons_succ] at c_x0_0 c_x0_1
  have l_box := H_box.lt; have K_box := Lib.hid H_box; clear H_box
  have l_res := H_res.lt; have K_res := Lib.hid H_res; clear H_res
  have l_x0 := H_x0.lt; have K_x0 := Lib.hid H_x0; clear H_x0
  have KB := Lib.hid HB; clear HB
  go_wp2_with fail
  refine bodyPost_ret (v := .tuple #[.agg #[.int .i64 r, .int .i64 i], .int .i64 0]) (by simp [results, Try.results14, go_sem, c_box_0, c_box_1, f_box_0, f_box_1, c_res_0, c_res_1, f_res_0, f_res_1, c_x0_0, c_x0_1, f_x0_0, f_x0_1]) rfl ⟨rfl, ?_⟩
  exact ((KB.out.setCell (p := ⟨w.heap.size + 1, 0, none⟩) (by first | (simp; done) | (simp; omega) | (simp at *; omega)) _).setCell (p := ⟨w.heap.size + 1, 1, none⟩) (by first | (simp; done) | (simp; omega) | (simp at *; omega)) _)


set_option maxHeartbeats 2000000 in
theorem rnext_more (r p i n : Int) (hm : mayB ⟨r, p⟩ n = true) (h1 : 0 ≤ i) (h2 : i < n) (h3 : 1 ≤ r) (h4 : r + 1 ≤ 1099511627776) (hL : lessB ⟨r, p⟩ ⟨r, i⟩ = false) (hM : lessB ⟨r, p⟩ ⟨r + 1, i⟩ = true) (w : World) :
    Calls Try.prog 14 #[.agg #[.int .i64 r, .int .i64 p], .int .i64 i, .int .i64 n] w fun e w' => e = .returned (.tuple #[.agg #[.int .i64 (r + 1), .int .i64 i], .int .i64 0]) ∧ Below w.heap.size w w' := by
  have C := rmay_any ⟨r, p⟩ n
  rw [hm] at C
  have C := Lib.hid C
  have L0 := rless_any ⟨r, p⟩ ⟨r, i⟩
  rw [hL] at L0
  have L0 := Lib.hid L0
  have L1 := rless_any ⟨r, p⟩ ⟨r + 1, i⟩
  rw [hM] at L1
  have L1 := Lib.hid L1
  have d1 : decide (i < 0) = false := decide_eq_false (by omega)
  have d2 : decide (n ≤ i) = false := decide_eq_false (by omega)
  clear hm hL hM
  have KB := Lib.hid (Below.refl w.heap.size w)
  go_enter Try.func14, Try.ntmps14
  go_wp2_with fail
  refine (C.out _).mono ?_
  rintro e1 u1 ⟨rfl, hb⟩
  have H_box : Whole u1 (w.heap.size) 23 _ := Whole.below ((Whole.new _ 23 _).alloc _) hb (by first | (simp; done) | (simp; omega) | (simp at *; omega))
  have H_res : Whole u1 (w.heap.size + 1) 23 _ := Whole.below (wh_at w 1 _ 23 _ (by simp)) hb (by first | (simp; done) | (simp; omega) | (simp at *; omega))
  have HB := ((KB.out.alloc (by first | (simp; done) | (simp; omega) | (simp at *; omega)) _).alloc (by first | (simp; done) | (simp; omega) | (simp at *; omega)) _).trans (hb.mono (by first | (simp; done) | (simp; omega) | (simp at *; omega)))
  clear hb KB
  have z_u1 := HB.size
  have c_box_0 := H_box.cell 0; have f_box_0 := H_box.free 0; have c_box_1 := H_box.cell 1; have f_box_1 := H_box.free 1
  simp only [List.set_cons_zero, List.set_cons_succ, List.getElem?_cons_zero, List.getElem?_cons_succ] at c_box_0 c_box_1
  have c_res_0 := H_res.cell 0; have f_res_0 := H_res.free 0; have c_res_1 := H_res.cell 1; have f_res_1 := H_res.free 1
  simp only [List.set_cons_zero, List.set_cons_succ, List.getElem?_cons_zero, List.getElem?_cons_succ] at c_res_0 c_res_1
  have l_box := H_box.lt; have K_box := Lib.hid H_box; clear H_box
  have l_res := H_res.lt; have K_res := Lib.hid H_res; clear H_res
  have KB := Lib.hid HB; clear HB
  go_wp2_with fail
  refine wp_loop_rounds 3 ?_
  rw [rounds_succ]
  go_wp2_with fail
  refine (L0.out _).mono ?_
  rintro e2 u2 ⟨rfl, hb⟩
  have H_box : Whole u2 (w.heap.size) 23 _ := Whole.below (K_box.out.alloc _) hb (by first | (simp; done) | (simp; omega) | (simp at *; omega))
  have H_res : Whole u2 (w.heap.size + 1) 23 _ := Whole.below (K_res.out.alloc _) hb (by first | (simp; done) | (simp; omega) | (simp at *; omega))
  have H_x0 : Whole u2 (u1.heap.size) 23 _ := Whole.below (Whole.new _ 23 _) hb (by first | (simp; done) | (simp; omega) | (simp at *; omega))
  have HB := (KB.out.alloc (by first | (simp; done) | (simp; omega) | (simp at *; omega)) _).trans (hb.mono (by first | (simp; done) | (simp; omega) | (simp at *; omega)))
  clear c_box_0 c_box_1 f_box_0 f_box_1 c_res_0 c_res_1 f_res_0 f_res_1 l_box l_res
  clear hb KB K_box K_res
  have z_u2 := HB.size
  have c_box_0 := H_box.cell 0; have f_box_0 := H_box.free 0; have c_box_1 := H_box.cell 1; have f_box_1 := H_box.free 1
  simp only [List.set_cons_zero, List.set_cons_succ, List.getElem?_cons_zero, List.getElem?_cons_succ] at c_box_0 c_box_1
  have c_res_0 := H_res.cell 0; have f_res_0 := H_res.free 0; have c_res_1 := H_res.cell 1; have f_res_1 := H_res.free 1
  simp only [List.set_cons_zero, List.set_cons_succ, List.getElem?_cons_zero, List.getElem?_cons_succ] at c_res_0 c_res_1
  have c_x0_0 := H_x0.cell 0; have f_x0_0 := H_x0.free 0; have c_x0_1 := H_x0.cell 1; have f_x0_1 := H_x0.free 1
  simp only [List.set_cons_zero, List.set_cons_succ, List.getElem?_cons_zero, List.getElem?_cons_succ] at c_x0_0 c_x0_1
  have l_box := H_box.lt; have K_box := Lib.hid H_box; clear H_box
  have l_res := H_res.lt; have K_res := Lib.hid H_res; clear H_res
  have l_x0 := H_x0.lt; have K_x0 := Lib.hid H_x0; clear H_x0
  have KB := Lib.hid HB; clear HB
  go_wp2_with fail
  rw [rounds_succ]
  go_wp2_with fail
  refine (L1.out _).mono ?_
  rintro e3 u3 ⟨rfl, hb⟩
  have H_box : Whole u3 (w.heap.size) 23 _ := Whole.below (K_box.out.alloc _) hb (by first | (simp; done) | (simp; omega) | (simp at *; omega))
  have H_res : Whole u3 (w.heap.size + 1) 23 _ := Whole.below (K_res.out.alloc _) hb (by first | (simp; done) | (simp; omega) | (simp at *; omega))
  have H_x0 : Whole u3 (u1.heap.size) 23 _ := Whole.below (K_x0.out.alloc _) hb (by first | (simp; done) | (simp; omega) | (simp at *; omega))
  have H_x1 : Whole u3 (u2.heap.size) 23 _ := Whole.below (Whole.new _ 23 _) hb (by first | (simp; done) | (simp; omega) | (simp at *; omega))
  have HB := (KB.out.alloc (by first | (simp; done) | (simp; omega) | (simp at *; omega)) _).trans (hb.mono (by first | (simp; done) | (simp; omega) | (simp at *; omega)))
  clear c_box_0 c_box_1 f_box_0 f_box_1 c_res_0 c_res_1 f_res_0 f_res_1 c_x0_0 c_x0_1 f_x0_0 f_x0_1 l_box l_res l_x0
  clear hb KB K_box K_res K_x0
  have z_u3 := HB.size
  have c_box_0 := H_box.cell 0; have f_box_0 := H_box.free 0; have c_box_1 := H_box.cell 1; have f_box_1 := H_box.free 1
  simp only [List.set_cons_zero, List.set_cons_succ, List.getElem?_cons_zero, List.getElem?_cons_succ] at c_box_0 c_box_1
  have c_res_0 := H_res.cell 0; have f_res_0 := H_res.free 0; have c_res_1 := H_res.cell 1; have f_res_1 := H_res.free 1
  simp only [List.set_cons_zero, List.set_cons_succ, List.getElem?_cons_zero, List.getElem?_cons_succ] at c_res_0 c_res_1
  have c_x0_0 := H_x0.cell 0; have f_x0_0 := H_x0.free 0; have c_x0_1 := H_x0.cell 1; have f_x0_1 := H_x0.free 1
  simp only [List.set_cons_zero, List.set_cons_succ, List.getElem?_cons_zero, List.getElem?_cons_succ] at c_x0_0 c_x0_1
  have c_x1_0 := H_x1.cell 0; have f_x1_0 := H_x1.free 0; have c_x1_1 := H_x1.cell 1; have f_x1_1 := H_x1.free 1
  simp only [List.set_cons_zero, List.set_cons_succ, List.getElem?_cons_zero, List.getElem?_cons_succ] at c_x1_0 c_x1_1
  have l_box := H_box.lt; have K_box := Lib.hid H_box; clear H_box
  have l_res := H_res.lt; have K_res := Lib.hid H_res; clear H_res
  have l_x0 := H_x0.lt; have K_x0 := Lib.hid H_x0; clear H_x0
  have l_x1 := H_x1.lt; have K_x1 := Lib.hid H_x1; clear H_x1
  have KB := Lib.hid HB; clear HB
  go_wp2_with fail
  refine bodyPost_ret (v := .tuple #[.agg #[.int .i64 (r + 1), .int .i64 i], .int .i64 0]) (by simp [results, Try.results14, go_sem, c_box_0, c_box_1, f_box_0, f_box_1, c_res_0, c_res_1, f_res_0, f_res_1, c_x0_0, c_x0_1, f_x0_0, f_x0_1, c_x1_0, c_x1_1, f_x1_0, f_x1_1]) rfl ⟨rfl, ?_⟩
  exact ((KB.out.setCell (p := ⟨w.heap.size + 1, 0, none⟩) (by first | (simp; done) | (simp; omega) | (simp at *; omega)) _).setCell (p := ⟨w.heap.size + 1, 1, none⟩) (by first | (simp; done) | (simp; omega) | (simp at *; omega)) _)


set_option maxHeartbeats 2000000 in
theorem rnext_full (r p i n : Int) (hm : mayB ⟨r, p⟩ n = true) (h1 : 0 ≤ i) (h2 : i < n) (h3 : 1 ≤ r) (h4 : 1099511627776 < r + 1) (h5 : r ≤ 1099511627776) (hL : lessB ⟨r, p⟩ ⟨r, i⟩ = false) (hM : lessB ⟨r, p⟩ ⟨r + 1, i⟩ = true) (w : World) :
    Calls Try.prog 14 #[.agg #[.int .i64 r, .int .i64 p], .int .i64 i, .int .i64 n] w fun e w' => e = .returned (.tuple #[.agg #[.int .i64 0, .int .i64 0], .int .i64 4]) ∧ Below w.heap.size w w' := by
  have C := rmay_any ⟨r, p⟩ n
  rw [hm] at C
  have C := Lib.hid C
  have L0 := rless_any ⟨r, p⟩ ⟨r, i⟩
  rw [hL] at L0
  have L0 := Lib.hid L0
  have L1 := rless_any ⟨r, p⟩ ⟨r + 1, i⟩
  rw [hM] at L1
  have L1 := Lib.hid L1
  have d1 : decide (i < 0) = false := decide_eq_false (by omega)
  have d2 : decide (n ≤ i) = false := decide_eq_false (by omega)
  clear hm hL hM
  have KB := Lib.hid (Below.refl w.heap.size w)
  go_enter Try.func14, Try.ntmps14
  go_wp2_with fail
  refine (C.out _).mono ?_
  rintro e1 u1 ⟨rfl, hb⟩
  have H_box : Whole u1 (w.heap.size) 23 _ := Whole.below ((Whole.new _ 23 _).alloc _) hb (by first | (simp; done) | (simp; omega) | (simp at *; omega))
  have H_res : Whole u1 (w.heap.size + 1) 23 _ := Whole.below (wh_at w 1 _ 23 _ (by simp)) hb (by first | (simp; done) | (simp; omega) | (simp at *; omega))
  have HB := ((KB.out.alloc (by first | (simp; done) | (simp; omega) | (simp at *; omega)) _).alloc (by first | (simp; done) | (simp; omega) | (simp at *; omega)) _).trans (hb.mono (by first | (simp; done) | (simp; omega) | (simp at *; omega)))
  clear hb KB
  have z_u1 := HB.size
  have c_box_0 := H_box.cell 0; have f_box_0 := H_box.free 0; have c_box_1 := H_box.cell 1; have f_box_1 := H_box.free 1
  simp only [List.set_cons_zero, List.set_cons_succ, List.getElem?_cons_zero, List.getElem?_cons_succ] at c_box_0 c_box_1
  have c_res_0 := H_res.cell 0; have f_res_0 := H_res.free 0; have c_res_1 := H_res.cell 1; have f_res_1 := H_res.free 1
  simp only [List.set_cons_zero, List.set_cons_succ, List.getElem?_cons_zero, List.getElem?_cons_succ] at c_res_0 c_res_1
  have l_box := H_box.lt; have K_box := Lib.hid H_box; clear H_box
  have l_res := H_res.lt; have K_res := Lib.hid H_res; clear H_res
  have KB := Lib.hid HB; clear HB
  go_wp2_with fail
  refine wp_loop_rounds 3 ?_
  rw [rounds_succ]
  go_wp2_with fail
  refine (L0.out _).mono ?_
  rintro e2 u2 ⟨rfl, hb⟩
  have H_box : Whole u2 (w.heap.size) 23 _ := Whole.below (K_box.out.alloc _) hb (by first | (simp; done) | (simp; omega) | (simp at *; omega))
  have H_res : Whole u2 (w.heap.size + 1) 23 _ := Whole.below (K_res.out.alloc _) hb (by first | (simp; done) | (simp; omega) | (simp at *; omega))
  have H_x0 : Whole u2 (u1.heap.size) 23 _ := Whole.below (Whole.new _ 23 _) hb (by first | (simp; done) | (simp; omega) | (simp at *; omega))
  have HB := (KB.out.alloc (by first | (simp; done) | (simp; omega) | (simp at *; omega)) _).trans (hb.mono (by first | (simp; done) | (simp; omega) | (simp at *; omega)))
  clear c_box_0 c_box_1 f_box_0 f_box_1 c_res_0 c_res_1 f_res_0 f_res_1 l_box l_res
  clear hb KB K_box K_res
  have z_u2 := HB.size
  have c_box_0 := H_box.cell 0; have f_box_0 := H_box.free 0; have c_box_1 := H_box.cell 1; have f_box_1 := H_box.free 1
  simp only [List.set_cons_zero, List.set_cons_succ, List.getElem?_cons_zero, List.getElem?_cons_succ] at c_box_0 c_box_1
  have c_res_0 := H_res.cell 0; have f_res_0 := H_res.free 0; have c_res_1 := H_res.cell 1; have f_res_1 := H_res.free 1
  simp only [List.set_cons_zero, List.set_cons_succ, List.getElem?_cons_zero, List.getElem?_cons_succ] at c_res_0 c_res_1
  have c_x0_0 := H_x0.cell 0; have f_x0_0 := H_x0.free 0; have c_x0_1 := H_x0.cell 1; have f_x0_1 := H_x0.free 1
  simp only [List.set_cons_zero, List.set_cons_succ, List.getElem?_cons_zero, List.getElem?_cons_succ] at c_x0_0 c_x0_1
  have l_box := H_box.lt; have K_box := Lib.hid H_box; clear H_box
  have l_res := H_res.lt; have K_res := Lib.hid H_res; clear H_res
  have l_x0 := H_x0.lt; have K_x0 := Lib.hid H_x0; clear H_x0
  have KB := Lib.hid HB; clear HB
  go_wp2_with fail
  rw [rounds_succ]
  go_wp2_with fail
  refine (L1.out _).mono ?_
  rintro e3 u3 ⟨rfl, hb⟩
  have H_box : Whole u3 (w.heap.size) 23 _ := Whole.below (K_box.out.alloc _) hb (by first | (simp; done) | (simp; omega) | (simp at *; omega))
  have H_res : Whole u3 (w.heap.size + 1) 23 _ := Whole.below (K_res.out.alloc _) hb (by first | (simp; done) | (simp; omega) | (simp at *; omega))
  have H_x0 : Whole u3 (u1.heap.size) 23 _ := Whole.below (K_x0.out.alloc _) hb (by first | (simp; done) | (simp; omega) | (simp at *; omega))
  have H_x1 : Whole u3 (u2.heap.size) 23 _ := Whole.below (Whole.new _ 23 _) hb (by first | (simp; done) | (simp; omega) | (simp at *; omega))
  have HB := (KB.out.alloc (by first | (simp; done) | (simp; omega) | (simp at *; omega)) _).trans (hb.mono (by first | (simp; done) | (simp; omega) | (simp at *; omega)))
  clear c_box_0 c_box_1 f_box_0 f_box_1 c_res_0 c_res_1 f_res_0 f_res_1 c_x0_0 c_x0_1 f_x0_0 f_x0_1 l_box l_res l_x0
  clear hb KB K_box K_res K_x0
  have z_u3 := HB.size
  have c_box_0 := H_box.cell 0; have f_box_0 := H_box.free 0; have c_box_1 := H_box.cell 1; have f_box_1 := H_box.free 1
  simp only [List.set_cons_zero, List.set_cons_succ, List.getElem?_cons_zero, List.getElem?_cons_succ] at c_box_0 c_box_1
  have c_res_0 := H_res.cell 0; have f_res_0 := H_res.free 0; have c_res_1 := H_res.cell 1; have f_res_1 := H_res.free 1
  simp only [List.set_cons_zero, List.set_cons_succ, List.getElem?_cons_zero, List.getElem?_cons_succ] at c_res_0 c_res_1
  have c_x0_0 := H_x0.cell 0; have f_x0_0 := H_x0.free 0; have c_x0_1 := H_x0.cell 1; have f_x0_1 := H_x0.free 1
  simp only [List.set_cons_zero, List.set_cons_succ, List.getElem?_cons_zero, List.getElem?_cons_succ] at c_x0_0 c_x0_1
  have c_x1_0 := H_x1.cell 0; have f_x1_0 := H_x1.free 0; have c_x1_1 := H_x1.cell 1; have f_x1_1 := H_x1.free 1
  simp only [List.set_cons_zero, List.set_cons_succ, List.getElem?_cons_zero, List.getElem?_cons_succ] at c_x1_0 c_x1_1
  have l_box := H_box.lt; have K_box := Lib.hid H_box; clear H_box
  have l_res := H_res.lt; have K_res := Lib.hid H_res; clear H_res
  have l_x0 := H_x0.lt; have K_x0 := Lib.hid H_x0; clear H_x0
  have l_x1 := H_x1.lt; have K_x1 := Lib.hid H_x1; clear H_x1
  have KB := Lib.hid HB; clear HB
  go_wp2_with fail
  refine bodyPost_ret (v := .tuple #[.agg #[.int .i64 0, .int .i64 0], .int .i64 4]) (by simp [results, Try.results14, go_sem, c_box_0, c_box_1, f_box_0, f_box_1, c_res_0, c_res_1, f_res_0, f_res_1, c_x0_0, c_x0_1, f_x0_0, f_x0_1, c_x1_0, c_x1_1, f_x1_0, f_x1_1]) rfl ⟨rfl, ?_⟩
  exact ((KB.out.setCell (p := ⟨w.heap.size + 1, 0, none⟩) (by first | (simp; done) | (simp; omega) | (simp at *; omega)) _).setCell (p := ⟨w.heap.size + 1, 1, none⟩) (by first | (simp; done) | (simp; omega) | (simp at *; omega)) _)



theorem rnext_any (b : Ba) (i n : Int) (w : World) :
    Calls Try.prog 14 #[.agg b.cells.toArray, .int .i64 i, .int .i64 n] w fun e w' => e = .returned (.tuple #[.agg (nextZ b i n).1.cells.toArray, .int .i64 (nextZ b i n).2]) ∧ Below w.heap.size w w' := by
  obtain ⟨r, p⟩ := b
  cases hm : mayB ⟨r, p⟩ n
  · rw [show nextZ ⟨r, p⟩ i n = (zeroBa, 2) by unfold nextZ; rw [hm]; rfl]
    exact rnext_may r p i n hm w
  by_cases h1 : i < 0
  · rw [show nextZ ⟨r, p⟩ i n = (zeroBa, 2) by unfold nextZ; rw [hm, decide_eq_true h1]; rfl]
    exact rnext_low r p i n hm h1 w
  by_cases h2 : n ≤ i
  · rw [show nextZ ⟨r, p⟩ i n = (zeroBa, 2) by unfold nextZ; rw [hm, decide_eq_true h2, Bool.or_true]; rfl]
    exact rnext_high r p i n hm (by omega) h2 w
  have hz : nextZ ⟨r, p⟩ i n = if 1099511627776 < nextR ⟨r, p⟩ i then (zeroBa, 4) else (⟨nextR ⟨r, p⟩ i, i⟩, 0) := by
    unfold nextZ; rw [hm, decide_eq_false h1, decide_eq_false h2]; rfl
  have hR := next_behind (i := i) hm
  have hmm := may_iff.1 hm
  rw [hz]
  by_cases h3 : r < 1
  · have h : nextR ⟨r, p⟩ i = 1 := if_pos h3
    have h0 : r = 0 := by
      obtain ⟨_, h | h⟩ := hmm
      · injection h
      · have h1 : 1 ≤ r := h.1
        omega
    subst h0
    rw [h] at hR ⊢
    rw [if_neg (by omega)]
    exact rnext_zero p i n hm (by omega) (by omega) hR w
  have hle : r ≤ 1099511627776 := by
    obtain ⟨_, h | h⟩ := hmm
    · injection h with ha hb; subst ha; omega
    · exact h.2.1
  by_cases h4 : p < i
  · have h : nextR ⟨r, p⟩ i = r := by unfold nextR; rw [if_neg h3, if_pos h4]
    rw [h] at hR ⊢
    rw [if_neg (by omega)]
    exact rnext_same r p i n hm (by omega) (by omega) (by omega) hle hR w
  · have h : nextR ⟨r, p⟩ i = r + 1 := by unfold nextR; rw [if_neg h3, if_neg h4]
    rw [h] at hR
    rw [h]
    have hL : lessB ⟨r, p⟩ ⟨r, i⟩ = false := less_not.2 (by simp only; omega)
    by_cases h5 : 1099511627776 < r + 1
    · rw [if_pos h5]
      exact rnext_full r p i n hm (by omega) (by omega) (by omega) h5 hle hL hR w
    · rw [if_neg h5]
      exact rnext_more r p i n hm (by omega) (by omega) (by omega) (by omega) hL hR w

end Bl
end Go.Proofs.Ytilpclajkofgmaa
