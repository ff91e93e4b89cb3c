/- The walk of the statement that what one client asks changes nothing for the others. -/
import Derived.Test.YthnolfgbpifcaaaSessionLaws
import Derived.Test.YthnolfgbpifcaaaSteps
set_option linter.unusedSimpArgs false
set_option linter.unusedVariables false
namespace Go.Proofs.Ythnolfgbpifcaaa
open Go.RowKit

namespace Se

theorem notes_ok {t : Tb} {c s : Int} {x : Rp} (h : (note t c s x).2 = 0) : argB t c s = false ∧ badB x = false ∧ (t.at_ c).seq < s ∧ note t c s x = (t.put c ⟨s, x⟩, 0) := by
  unfold note at h ⊢
  split at h
  · simp at h
  · rename_i h1
    split at h
    · rename_i h2
      have h1' : argB t c s = false ∧ badB x = false := by simpa using h1
      refine ⟨h1'.1, h1'.2, h2, ?_⟩
      rw [if_neg h1, if_pos h2]
    · simp at h
theorem notes_bad {t : Tb} {c s : Int} {x : Rp} (h : (note t c s x).2 ≠ 0) : ∃ k, note t c s x = (zeroTb, k) ∧ (k != 0) = true ∧ 0 ≤ k := by
  unfold note at h ⊢
  split
  · exact ⟨2, rfl, rfl, by omega⟩
  · split
    · rename_i h1 h2; rw [if_neg h1, if_pos h2] at h; exact absurd rfl h
    · exact ⟨220, rfl, rfl, by omega⟩
theorem arg_false {t : Tb} {c s : Int} : argB t c s = false ↔ 0 ≤ c ∧ c < 4 ∧ 1 ≤ s ∧ s ≤ 1099511627776 ∧ mayB t = true := by
  unfold argB
  simp only [Bool.or_eq_false_iff, decide_eq_false_iff_not, Bool.not_eq_false']
  constructor
  · rintro ⟨⟨⟨⟨h1, h2⟩, h3⟩, h4⟩, h5⟩; exact ⟨by omega, by omega, by omega, by omega, h5⟩
  · rintro ⟨h1, h2, h3, h4, h5⟩; exact ⟨⟨⟨⟨by omega, by omega⟩, by omega⟩, by omega⟩, h5⟩
theorem put_put {t : Tb} {a b : Int} {A B : Rw} (ha : 0 ≤ a ∧ a < 4) (hb : 0 ≤ b ∧ b < 4) (h : a ≠ b) : (t.put a A).put b B = (t.put b B).put a A := by
  have h1 : a = 0 ∨ a = 1 ∨ a = 2 ∨ a = 3 := by omega
  have h2 : b = 0 ∨ b = 1 ∨ b = 2 ∨ b = 3 := by omega
  rcases h1 with rfl | rfl | rfl | rfl <;> rcases h2 with rfl | rfl | rfl | rfl <;> first | rfl | exact absurd rfl h
theorem put_at {t : Tb} {a b : Int} {A : Rw} (ha : 0 ≤ a ∧ a < 4) (hb : 0 ≤ b ∧ b < 4) (h : a ≠ b) : (t.put a A).at_ b = t.at_ b := by
  have h1 : a = 0 ∨ a = 1 ∨ a = 2 ∨ a = 3 := by omega
  have h2 : b = 0 ∨ b = 1 ∨ b = 2 ∨ b = 3 := by omega
  rcases h1 with rfl | rfl | rfl | rfl <;> rcases h2 with rfl | rfl | rfl | rfl <;> first | rfl | exact absurd rfl h
theorem put_self {t : Tb} {a : Int} {A : Rw} (ha : 0 ≤ a ∧ a < 4) : (t.put a A).at_ a = A := by
  have h1 : a = 0 ∨ a = 1 ∨ a = 2 ∨ a = 3 := by omega
  rcases h1 with rfl | rfl | rfl | rfl <;> rfl
theorem may_rows (t : Tb) : mayB t = true ↔ oddB t.r0 = false ∧ oddB t.r1 = false ∧ oddB t.r2 = false ∧ oddB t.r3 = false := by
  have h : mayB t = !(oddB t.r0 || (oddB t.r1 || (oddB t.r2 || (oddB t.r3 || false)))) := rfl
  rw [h]
  cases oddB t.r0 <;> cases oddB t.r1 <;> cases oddB t.r2 <;> cases oddB t.r3 <;> simp
theorem odd_new {s : Int} {x : Rp} (h1 : 1 ≤ s) (h2 : s ≤ 1099511627776) (hx : badB x = false) : oddB ⟨s, x⟩ = false := by
  have h : oddB ⟨s, x⟩ = (decide (s < 0) || decide (1099511627776 < s) || badB x) := by unfold oddB; rw [if_neg (by show ¬ s = 0; omega)]; first | done | exact rfl
  rw [h, hx, decide_eq_false (by omega), decide_eq_false (by omega)]; rfl
theorem may_put {t : Tb} {a : Int} {A : Rw} (ht : mayB t = true) (hA : oddB A = false) : mayB (t.put a A) = true := by
  rw [may_rows] at ht ⊢
  obtain ⟨h0, h1, h2, h3⟩ := ht
  unfold Tb.put
  split
  · exact ⟨hA, h1, h2, h3⟩
  split
  · exact ⟨h0, hA, h2, h3⟩
  split
  · exact ⟨h0, h1, hA, h3⟩
  · exact ⟨h0, h1, h2, hA⟩
theorem note_is {t : Tb} {c s : Int} {x : Rp} (h1 : argB t c s = false) (h2 : badB x = false) (h3 : (t.at_ c).seq < s) : note t c s x = (t.put c ⟨s, x⟩, 0) := by
  unfold note
  rw [h1, h2, if_neg (by simp), if_pos h3]
theorem ask_fresh {t : Tb} {c s : Int} (h1 : argB t c s = false) (h3 : (t.at_ c).seq < s) : ask t c s = (true, ⟨0, false, { data := #[] }⟩, 0) := by
  unfold ask
  rw [h1, if_neg (by simp), if_pos h3]; rfl

set_option maxRecDepth 100000 in
set_option maxHeartbeats 8000000 in
theorem apart_x (t : Tb) (ac as_ bc bs : Int) (xe : Int) (xf : Bool) (xv : ByteArray) (ye : Int) (yf : Bool) (yv : ByteArray) (h : (100 : Int) < (xv.size : Int)) (w : World) :
    Calls Try.prog 5 #[.agg t.cells.toArray, .agg #[.int .i64 ac, .int .i64 as_], .agg #[.int .i64 bc, .int .i64 bs], .agg #[.int .i64 xe, .bool xf, .string xv], .agg #[.int .i64 ye, .bool yf, .string yv]] w fun e w' => e = .returned (.bool true) ∧ Below w.heap.size w w' := by
  have AW := Lib.hid awake_is
  have KB := Lib.hid (Below.refl w.heap.size w)
  go_enter Try.func5, Try.ntmps5
  go_wp2_with fail
  refine (AW.out _).mono ?_
  rintro e1 u1 ⟨rfl, hb⟩
  have H_t : Whole u1 (w.heap.size) 28 _ := Whole.below (((((Whole.new _ 28 _).alloc _).alloc _).alloc _).alloc _) hb (by first | omega | (simp; done) | (simp; omega) | (simp at *; omega))
  have H_a : Whole u1 (w.heap.size + 1) 44 _ := Whole.below ((((wh_at w 1 _ 44 _ (by simp)).alloc _).alloc _).alloc _) hb (by first | omega | (simp; done) | (simp; omega) | (simp at *; omega))
  have H_b : Whole u1 (w.heap.size + 2) 44 _ := Whole.below (((wh_at w 2 _ 44 _ (by simp)).alloc _).alloc _) hb (by first | omega | (simp; done) | (simp; omega) | (simp at *; omega))
  have H_x : Whole u1 (w.heap.size + 3) 24 _ := Whole.below ((wh_at w 3 _ 24 _ (by simp)).alloc _) hb (by first | omega | (simp; done) | (simp; omega) | (simp at *; omega))
  have H_y : Whole u1 (w.heap.size + 4) 24 _ := Whole.below (wh_at w 4 _ 24 _ (by simp)) hb (by first | omega | (simp; done) | (simp; omega) | (simp at *; omega))
  have HB := (((((KB.out.alloc (by first | omega | (simp; done) | (simp; omega) | (simp at *; omega)) _).alloc (by first | omega | (simp; done) | (simp; omega) | (simp at *; omega)) _).alloc (by first | omega | (simp; done) | (simp; omega) | (simp at *; omega)) _).alloc (by first | omega | (simp; done) | (simp; omega) | (simp at *; omega)) _).alloc (by first | omega | (simp; done) | (simp; omega) | (simp at *; omega)) _).trans (hb.mono (by first | omega | (simp; done) | (simp; omega) | (simp at *; omega)))
  clear hb KB
  have z_u1 := HB.size
  have c_a_0 := H_a.cell 0; have f_a_0 := H_a.free 0; have c_a_1 := H_a.cell 1; have f_a_1 := H_a.free 1
  simp only [List.set_cons_zero, List.set_cons_succ, List.getElem?_cons_zero, List.getElem?_cons_succ] at c_a_0 c_a_1
  have c_b_0 := H_b.cell 0; have f_b_0 := H_b.free 0; have c_b_1 := H_b.cell 1; have f_b_1 := H_b.free 1
  simp only [List.set_cons_zero, List.set_cons_succ, List.getElem?_cons_zero, List.getElem?_cons_succ] at c_b_0 c_b_1
  have c_x_0 := H_x.cell 0; have f_x_0 := H_x.free 0; have c_x_1 := H_x.cell 1; have f_x_1 := H_x.free 1; have c_x_2 := H_x.cell 2; have f_x_2 := H_x.free 2
  simp only [List.set_cons_zero, List.set_cons_succ, List.getElem?_cons_zero, List.getElem?_cons_succ] at c_x_0 c_x_1 c_x_2
  have c_y_0 := H_y.cell 0; have f_y_0 := H_y.free 0; have c_y_1 := H_y.cell 1; have f_y_1 := H_y.free 1; have c_y_2 := H_y.cell 2; have f_y_2 := H_y.free 2
  simp only [List.set_cons_zero, List.set_cons_succ, List.getElem?_cons_zero, List.getElem?_cons_succ] at c_y_0 c_y_1 c_y_2
  have l_t := H_t.lt; have K_t := Lib.hid H_t; clear H_t
  have l_a := H_a.lt; have K_a := Lib.hid H_a; clear H_a
  have l_b := H_b.lt; have K_b := Lib.hid H_b; clear H_b
  have l_x := H_x.lt; have K_x := Lib.hid H_x; clear H_x
  have l_y := H_y.lt; have K_y := Lib.hid H_y; clear H_y
  have KB := Lib.hid HB; clear HB
  go_wp2_with (first | (with_reducible refine wpList_load_table rfl _ rfl (w.heap.size) rfl 28 (t) K_t.out ?_) | (with_reducible refine wpList_load_table rfl _ rfl (w.heap.size) rfl 28 (t) (K_t.out.alloc _) ?_))
  go_ret
  exact ⟨by first | rfl | (simp; done), KB.out⟩

set_option maxRecDepth 100000 in
set_option maxHeartbeats 8000000 in
theorem apart_y (t : Tb) (ac as_ bc bs : Int) (xe : Int) (xf : Bool) (xv : ByteArray) (ye : Int) (yf : Bool) (yv : ByteArray) (h0 : (xv.size : Int) ≤ 100) (h : (100 : Int) < (yv.size : Int)) (w : World) :
    Calls Try.prog 5 #[.agg t.cells.toArray, .agg #[.int .i64 ac, .int .i64 as_], .agg #[.int .i64 bc, .int .i64 bs], .agg #[.int .i64 xe, .bool xf, .string xv], .agg #[.int .i64 ye, .bool yf, .string yv]] w fun e w' => e = .returned (.bool true) ∧ Below w.heap.size w w' := by
  have AW := Lib.hid awake_is
  have KB := Lib.hid (Below.refl w.heap.size w)
  go_enter Try.func5, Try.ntmps5
  go_wp2_with fail
  refine (AW.out _).mono ?_
  rintro e1 u1 ⟨rfl, hb⟩
  have H_t : Whole u1 (w.heap.size) 28 _ := Whole.below (((((Whole.new _ 28 _).alloc _).alloc _).alloc _).alloc _) hb (by first | omega | (simp; done) | (simp; omega) | (simp at *; omega))
  have H_a : Whole u1 (w.heap.size + 1) 44 _ := Whole.below ((((wh_at w 1 _ 44 _ (by simp)).alloc _).alloc _).alloc _) hb (by first | omega | (simp; done) | (simp; omega) | (simp at *; omega))
  have H_b : Whole u1 (w.heap.size + 2) 44 _ := Whole.below (((wh_at w 2 _ 44 _ (by simp)).alloc _).alloc _) hb (by first | omega | (simp; done) | (simp; omega) | (simp at *; omega))
  have H_x : Whole u1 (w.heap.size + 3) 24 _ := Whole.below ((wh_at w 3 _ 24 _ (by simp)).alloc _) hb (by first | omega | (simp; done) | (simp; omega) | (simp at *; omega))
  have H_y : Whole u1 (w.heap.size + 4) 24 _ := Whole.below (wh_at w 4 _ 24 _ (by simp)) hb (by first | omega | (simp; done) | (simp; omega) | (simp at *; omega))
  have HB := (((((KB.out.alloc (by first | omega | (simp; done) | (simp; omega) | (simp at *; omega)) _).alloc (by first | omega | (simp; done) | (simp; omega) | (simp at *; omega)) _).alloc (by first | omega | (simp; done) | (simp; omega) | (simp at *; omega)) _).alloc (by first | omega | (simp; done) | (simp; omega) | (simp at *; omega)) _).alloc (by first | omega | (simp; done) | (simp; omega) | (simp at *; omega)) _).trans (hb.mono (by first | omega | (simp; done) | (simp; omega) | (simp at *; omega)))
  clear hb KB
  have z_u1 := HB.size
  have c_a_0 := H_a.cell 0; have f_a_0 := H_a.free 0; have c_a_1 := H_a.cell 1; have f_a_1 := H_a.free 1
  simp only [List.set_cons_zero, List.set_cons_succ, List.getElem?_cons_zero, List.getElem?_cons_succ] at c_a_0 c_a_1
  have c_b_0 := H_b.cell 0; have f_b_0 := H_b.free 0; have c_b_1 := H_b.cell 1; have f_b_1 := H_b.free 1
  simp only [List.set_cons_zero, List.set_cons_succ, List.getElem?_cons_zero, List.getElem?_cons_succ] at c_b_0 c_b_1
  have c_x_0 := H_x.cell 0; have f_x_0 := H_x.free 0; have c_x_1 := H_x.cell 1; have f_x_1 := H_x.free 1; have c_x_2 := H_x.cell 2; have f_x_2 := H_x.free 2
  simp only [List.set_cons_zero, List.set_cons_succ, List.getElem?_cons_zero, List.getElem?_cons_succ] at c_x_0 c_x_1 c_x_2
  have c_y_0 := H_y.cell 0; have f_y_0 := H_y.free 0; have c_y_1 := H_y.cell 1; have f_y_1 := H_y.free 1; have c_y_2 := H_y.cell 2; have f_y_2 := H_y.free 2
  simp only [List.set_cons_zero, List.set_cons_succ, List.getElem?_cons_zero, List.getElem?_cons_succ] at c_y_0 c_y_1 c_y_2
  have l_t := H_t.lt; have K_t := Lib.hid H_t; clear H_t
  have l_a := H_a.lt; have K_a := Lib.hid H_a; clear H_a
  have l_b := H_b.lt; have K_b := Lib.hid H_b; clear H_b
  have l_x := H_x.lt; have K_x := Lib.hid H_x; clear H_x
  have l_y := H_y.lt; have K_y := Lib.hid H_y; clear H_y
  have KB := Lib.hid HB; clear HB
  go_wp2_with (first | (with_reducible refine wpList_load_table rfl _ rfl (w.heap.size) rfl 28 (t) K_t.out ?_) | (with_reducible refine wpList_load_table rfl _ rfl (w.heap.size) rfl 28 (t) (K_t.out.alloc _) ?_))
  go_ret
  exact ⟨by first | rfl | (simp; done), KB.out⟩

set_option maxRecDepth 100000 in
set_option maxHeartbeats 8000000 in
theorem apart_c (t : Tb) (ac as_ bs : Int) (xe : Int) (xf : Bool) (xv : ByteArray) (ye : Int) (yf : Bool) (yv : ByteArray) (h0 : (xv.size : Int) ≤ 100) (h : (yv.size : Int) ≤ 100) (w : World) :
    Calls Try.prog 5 #[.agg t.cells.toArray, .agg #[.int .i64 ac, .int .i64 as_], .agg #[.int .i64 ac, .int .i64 bs], .agg #[.int .i64 xe, .bool xf, .string xv], .agg #[.int .i64 ye, .bool yf, .string yv]] w fun e w' => e = .returned (.bool true) ∧ Below w.heap.size w w' := by
  have AW := Lib.hid awake_is
  have KB := Lib.hid (Below.refl w.heap.size w)
  go_enter Try.func5, Try.ntmps5
  go_wp2_with fail
  refine (AW.out _).mono ?_
  rintro e1 u1 ⟨rfl, hb⟩
  have H_t : Whole u1 (w.heap.size) 28 _ := Whole.below (((((Whole.new _ 28 _).alloc _).alloc _).alloc _).alloc _) hb (by first | omega | (simp; done) | (simp; omega) | (simp at *; omega))
  have H_a : Whole u1 (w.heap.size + 1) 44 _ := Whole.below ((((wh_at w 1 _ 44 _ (by simp)).alloc _).alloc _).alloc _) hb (by first | omega | (simp; done) | (simp; omega) | (simp at *; omega))
  have H_b : Whole u1 (w.heap.size + 2) 44 _ := Whole.below (((wh_at w 2 _ 44 _ (by simp)).alloc _).alloc _) hb (by first | omega | (simp; done) | (simp; omega) | (simp at *; omega))
  have H_x : Whole u1 (w.heap.size + 3) 24 _ := Whole.below ((wh_at w 3 _ 24 _ (by simp)).alloc _) hb (by first | omega | (simp; done) | (simp; omega) | (simp at *; omega))
  have H_y : Whole u1 (w.heap.size + 4) 24 _ := Whole.below (wh_at w 4 _ 24 _ (by simp)) hb (by first | omega | (simp; done) | (simp; omega) | (simp at *; omega))
  have HB := (((((KB.out.alloc (by first | omega | (simp; done) | (simp; omega) | (simp at *; omega)) _).alloc (by first | omega | (simp; done) | (simp; omega) | (simp at *; omega)) _).alloc (by first | omega | (simp; done) | (simp; omega) | (simp at *; omega)) _).alloc (by first | omega | (simp; done) | (simp; omega) | (simp at *; omega)) _).alloc (by first | omega | (simp; done) | (simp; omega) | (simp at *; omega)) _).trans (hb.mono (by first | omega | (simp; done) | (simp; omega) | (simp at *; omega)))
  clear hb KB
  have z_u1 := HB.size
  have c_a_0 := H_a.cell 0; have f_a_0 := H_a.free 0; have c_a_1 := H_a.cell 1; have f_a_1 := H_a.free 1
  simp only [List.set_cons_zero, List.set_cons_succ, List.getElem?_cons_zero, List.getElem?_cons_succ] at c_a_0 c_a_1
  have c_b_0 := H_b.cell 0; have f_b_0 := H_b.free 0; have c_b_1 := H_b.cell 1; have f_b_1 := H_b.free 1
  simp only [List.set_cons_zero, List.set_cons_succ, List.getElem?_cons_zero, List.getElem?_cons_succ] at c_b_0 c_b_1
  have c_x_0 := H_x.cell 0; have f_x_0 := H_x.free 0; have c_x_1 := H_x.cell 1; have f_x_1 := H_x.free 1; have c_x_2 := H_x.cell 2; have f_x_2 := H_x.free 2
  simp only [List.set_cons_zero, List.set_cons_succ, List.getElem?_cons_zero, List.getElem?_cons_succ] at c_x_0 c_x_1 c_x_2
  have c_y_0 := H_y.cell 0; have f_y_0 := H_y.free 0; have c_y_1 := H_y.cell 1; have f_y_1 := H_y.free 1; have c_y_2 := H_y.cell 2; have f_y_2 := H_y.free 2
  simp only [List.set_cons_zero, List.set_cons_succ, List.getElem?_cons_zero, List.getElem?_cons_succ] at c_y_0 c_y_1 c_y_2
  have l_t := H_t.lt; have K_t := Lib.hid H_t; clear H_t
  have l_a := H_a.lt; have K_a := Lib.hid H_a; clear H_a
  have l_b := H_b.lt; have K_b := Lib.hid H_b; clear H_b
  have l_x := H_x.lt; have K_x := Lib.hid H_x; clear H_x
  have l_y := H_y.lt; have K_y := Lib.hid H_y; clear H_y
  have KB := Lib.hid HB; clear HB
  go_wp2_with (first | (with_reducible refine wpList_load_table rfl _ rfl (w.heap.size) rfl 28 (t) K_t.out ?_) | (with_reducible refine wpList_load_table rfl _ rfl (w.heap.size) rfl 28 (t) (K_t.out.alloc _) ?_))
  go_ret
  exact ⟨by first | rfl | (simp; done), KB.out⟩

set_option maxRecDepth 100000 in
set_option maxHeartbeats 8000000 in
theorem apart_e (t : Tb) (ac as_ bc bs : Int) (xe : Int) (xf : Bool) (xv : ByteArray) (ye : Int) (yf : Bool) (yv : ByteArray) (h0 : (xv.size : Int) ≤ 100) (h : (yv.size : Int) ≤ 100) (hc : (ac == bc) = false) (u : Tb) (e : Int) (v : Tb) (f : Int) (h1 : note t ac as_ ⟨xe, xf, xv⟩ = (u, e)) (h2 : note t bc bs ⟨ye, yf, yv⟩ = (v, f)) (he : (e != 0) = true) (w : World) :
    Calls Try.prog 5 #[.agg t.cells.toArray, .agg #[.int .i64 ac, .int .i64 as_], .agg #[.int .i64 bc, .int .i64 bs], .agg #[.int .i64 xe, .bool xf, .string xv], .agg #[.int .i64 ye, .bool yf, .string yv]] w fun e w' => e = .returned (.bool true) ∧ Below w.heap.size w w' := by
  have AW := Lib.hid awake_is
  have N1 := note_any t ac as_ ⟨xe, xf, xv⟩
  have N2 := note_any t bc bs ⟨ye, yf, yv⟩
  rw [h1] at N1
  rw [h2] at N2
  simp only [Rp.cells] at N1 N2
  have N1 := Lib.hid N1
  have N2 := Lib.hid N2
  clear h1 h2
  have KB := Lib.hid (Below.refl w.heap.size w)
  go_enter Try.func5, Try.ntmps5
  go_wp2_with fail
  refine (AW.out _).mono ?_
  rintro e1 u1 ⟨rfl, hb⟩
  have H_t : Whole u1 (w.heap.size) 28 _ := Whole.below (((((Whole.new _ 28 _).alloc _).alloc _).alloc _).alloc _) hb (by first | omega | (simp; done) | (simp; omega) | (simp at *; omega))
  have H_a : Whole u1 (w.heap.size + 1) 44 _ := Whole.below ((((wh_at w 1 _ 44 _ (by simp)).alloc _).alloc _).alloc _) hb (by first | omega | (simp; done) | (simp; omega) | (simp at *; omega))
  have H_b : Whole u1 (w.heap.size + 2) 44 _ := Whole.below (((wh_at w 2 _ 44 _ (by simp)).alloc _).alloc _) hb (by first | omega | (simp; done) | (simp; omega) | (simp at *; omega))
  have H_x : Whole u1 (w.heap.size + 3) 24 _ := Whole.below ((wh_at w 3 _ 24 _ (by simp)).alloc _) hb (by first | omega | (simp; done) | (simp; omega) | (simp at *; omega))
  have H_y : Whole u1 (w.heap.size + 4) 24 _ := Whole.below (wh_at w 4 _ 24 _ (by simp)) hb (by first | omega | (simp; done) | (simp; omega) | (simp at *; omega))
  have HB := (((((KB.out.alloc (by first | omega | (simp; done) | (simp; omega) | (simp at *; omega)) _).alloc (by first | omega | (simp; done) | (simp; omega) | (simp at *; omega)) _).alloc (by first | omega | (simp; done) | (simp; omega) | (simp at *; omega)) _).alloc (by first | omega | (simp; done) | (simp; omega) | (simp at *; omega)) _).alloc (by first | omega | (simp; done) | (simp; omega) | (simp at *; omega)) _).trans (hb.mono (by first | omega | (simp; done) | (simp; omega) | (simp at *; omega)))
  clear hb KB
  have z_u1 := HB.size
  have c_a_0 := H_a.cell 0; have f_a_0 := H_a.free 0; have c_a_1 := H_a.cell 1; have f_a_1 := H_a.free 1
  simp only [List.set_cons_zero, List.set_cons_succ, List.getElem?_cons_zero, List.getElem?_cons_succ] at c_a_0 c_a_1
  have c_b_0 := H_b.cell 0; have f_b_0 := H_b.free 0; have c_b_1 := H_b.cell 1; have f_b_1 := H_b.free 1
  simp only [List.set_cons_zero, List.set_cons_succ, List.getElem?_cons_zero, List.getElem?_cons_succ] at c_b_0 c_b_1
  have c_x_0 := H_x.cell 0; have f_x_0 := H_x.free 0; have c_x_1 := H_x.cell 1; have f_x_1 := H_x.free 1; have c_x_2 := H_x.cell 2; have f_x_2 := H_x.free 2
  simp only [List.set_cons_zero, List.set_cons_succ, List.getElem?_cons_zero, List.getElem?_cons_succ] at c_x_0 c_x_1 c_x_2
  have c_y_0 := H_y.cell 0; have f_y_0 := H_y.free 0; have c_y_1 := H_y.cell 1; have f_y_1 := H_y.free 1; have c_y_2 := H_y.cell 2; have f_y_2 := H_y.free 2
  simp only [List.set_cons_zero, List.set_cons_succ, List.getElem?_cons_zero, List.getElem?_cons_succ] at c_y_0 c_y_1 c_y_2
  have l_t := H_t.lt; have K_t := Lib.hid H_t; clear H_t
  have l_a := H_a.lt; have K_a := Lib.hid H_a; clear H_a
  have l_b := H_b.lt; have K_b := Lib.hid H_b; clear H_b
  have l_x := H_x.lt; have K_x := Lib.hid H_x; clear H_x
  have l_y := H_y.lt; have K_y := Lib.hid H_y; clear H_y
  have KB := Lib.hid HB; clear HB
  go_wp2_with (first | (with_reducible refine wpList_load_table rfl _ rfl (w.heap.size) rfl 28 (t) K_t.out ?_) | (with_reducible refine wpList_load_table rfl _ rfl (w.heap.size) rfl 28 (t) (K_t.out.alloc _) ?_))
  refine (N1.out _).mono ?_
  rintro e2 u2 ⟨rfl, hb⟩
  have H_t : Whole u2 (w.heap.size) 28 _ := Whole.below K_t.out hb (by first | omega | (simp; done) | (simp; omega) | (simp at *; omega))
  have H_a : Whole u2 (w.heap.size + 1) 44 _ := Whole.below K_a.out hb (by first | omega | (simp; done) | (simp; omega) | (simp at *; omega))
  have H_b : Whole u2 (w.heap.size + 2) 44 _ := Whole.below K_b.out hb (by first | omega | (simp; done) | (simp; omega) | (simp at *; omega))
  have H_x : Whole u2 (w.heap.size + 3) 24 _ := Whole.below K_x.out hb (by first | omega | (simp; done) | (simp; omega) | (simp at *; omega))
  have H_y : Whole u2 (w.heap.size + 4) 24 _ := Whole.below K_y.out hb (by first | omega | (simp; done) | (simp; omega) | (simp at *; omega))
  have HB := KB.out.trans (hb.mono (by first | omega | (simp; done) | (simp; omega) | (simp at *; omega)))
  clear c_a_0 c_a_1 f_a_0 f_a_1 c_b_0 c_b_1 f_b_0 f_b_1 c_x_0 c_x_1 c_x_2 f_x_0 f_x_1 f_x_2 c_y_0 c_y_1 c_y_2 f_y_0 f_y_1 f_y_2 l_t l_a l_b l_x l_y
  clear hb KB K_t K_a K_b K_x K_y
  have z_u2 := HB.size
  have c_a_0 := H_a.cell 0; have f_a_0 := H_a.free 0; have c_a_1 := H_a.cell 1; have f_a_1 := H_a.free 1
  simp only [List.set_cons_zero, List.set_cons_succ, List.getElem?_cons_zero, List.getElem?_cons_succ] at c_a_0 c_a_1
  have c_b_0 := H_b.cell 0; have f_b_0 := H_b.free 0; have c_b_1 := H_b.cell 1; have f_b_1 := H_b.free 1
  simp only [List.set_cons_zero, List.set_cons_succ, List.getElem?_cons_zero, List.getElem?_cons_succ] at c_b_0 c_b_1
  have c_x_0 := H_x.cell 0; have f_x_0 := H_x.free 0; have c_x_1 := H_x.cell 1; have f_x_1 := H_x.free 1; have c_x_2 := H_x.cell 2; have f_x_2 := H_x.free 2
  simp only [List.set_cons_zero, List.set_cons_succ, List.getElem?_cons_zero, List.getElem?_cons_succ] at c_x_0 c_x_1 c_x_2
  have c_y_0 := H_y.cell 0; have f_y_0 := H_y.free 0; have c_y_1 := H_y.cell 1; have f_y_1 := H_y.free 1; have c_y_2 := H_y.cell 2; have f_y_2 := H_y.free 2
  simp only [List.set_cons_zero, List.set_cons_succ, List.getElem?_cons_zero, List.getElem?_cons_succ] at c_y_0 c_y_1 c_y_2
  have l_t := H_t.lt; have K_t := Lib.hid H_t; clear H_t
  have l_a := H_a.lt; have K_a := Lib.hid H_a; clear H_a
  have l_b := H_b.lt; have K_b := Lib.hid H_b; clear H_b
  have l_x := H_x.lt; have K_x := Lib.hid H_x; clear H_x
  have l_y := H_y.lt; have K_y := Lib.hid H_y; clear H_y
  have KB := Lib.hid HB; clear HB
  have V : Hid (Whole (u2.alloc (.cells #[.int .i64 0, .int .i64 0, .bool false, .string { data := #[] }, .int .i64 0, .int .i64 0, .bool false, .string { data := #[] }, .int .i64 0, .int .i64 0, .bool false, .string { data := #[] }, .int .i64 0, .int .i64 0, .bool false, .string { data := #[] }] 28)) u2.heap.size 28 zeroTb.cells) := Whole.new u2 28 zeroTb.cells
  go_wp2_with (first | (with_reducible refine wpList_load_table rfl _ rfl (w.heap.size) rfl 28 (t) K_t.out ?_) | (with_reducible refine wpList_load_table rfl _ rfl (w.heap.size) rfl 28 (t) (K_t.out.alloc _) ?_) | (with_reducible refine wpList_store_table rfl _ _ rfl u2.heap.size (u) zeroTb rfl rfl V.out ?_))
  intro v3 hw hO
  have H_u := hw
  have hb := Only.below ((Below.refl u2.heap.size u2).alloc (Nat.le_refl _) (.cells #[.int .i64 0, .int .i64 0, .bool false, .string { data := #[] }, .int .i64 0, .int .i64 0, .bool false, .string { data := #[] }, .int .i64 0, .int .i64 0, .bool false, .string { data := #[] }, .int .i64 0, .int .i64 0, .bool false, .string { data := #[] }] 28)) hO (by simp) (Nat.le_refl _)
  clear hw hO V
  have H_t : Whole v3 (w.heap.size) 28 _ := Whole.below K_t.out hb (by first | omega | (simp; done) | (simp; omega) | (simp at *; omega))
  have H_a : Whole v3 (w.heap.size + 1) 44 _ := Whole.below K_a.out hb (by first | omega | (simp; done) | (simp; omega) | (simp at *; omega))
  have H_b : Whole v3 (w.heap.size + 2) 44 _ := Whole.below K_b.out hb (by first | omega | (simp; done) | (simp; omega) | (simp at *; omega))
  have H_x : Whole v3 (w.heap.size + 3) 24 _ := Whole.below K_x.out hb (by first | omega | (simp; done) | (simp; omega) | (simp at *; omega))
  have H_y : Whole v3 (w.heap.size + 4) 24 _ := Whole.below K_y.out hb (by first | omega | (simp; done) | (simp; omega) | (simp at *; omega))
  have HB := KB.out.trans (hb.mono (by first | omega | (simp; done) | (simp; omega) | (simp at *; omega)))
  clear c_a_0 c_a_1 f_a_0 f_a_1 c_b_0 c_b_1 f_b_0 f_b_1 c_x_0 c_x_1 c_x_2 f_x_0 f_x_1 f_x_2 c_y_0 c_y_1 c_y_2 f_y_0 f_y_1 f_y_2 l_t l_a l_b l_x l_y
  clear hb KB K_t K_a K_b K_x K_y
  have z_v3 := HB.size
  have c_a_0 := H_a.cell 0; have f_a_0 := H_a.free 0; have c_a_1 := H_a.cell 1; have f_a_1 := H_a.free 1
  simp only [List.set_cons_zero, List.set_cons_succ, List.getElem?_cons_zero, List.getElem?_cons_succ] at c_a_0 c_a_1
  have c_b_0 := H_b.cell 0; have f_b_0 := H_b.free 0; have c_b_1 := H_b.cell 1; have f_b_1 := H_b.free 1
  simp only [List.set_cons_zero, List.set_cons_succ, List.getElem?_cons_zero, List.getElem?_cons_succ] at c_b_0 c_b_1
  have c_x_0 := H_x.cell 0; have f_x_0 := H_x.free 0; have c_x_1 := H_x.cell 1; have f_x_1 := H_x.free 1; have c_x_2 := H_x.cell 2; have f_x_2 := H_x.free 2
  simp only [List.set_cons_zero, List.set_cons_succ, List.getElem?_cons_zero, List.getElem?_cons_succ] at c_x_0 c_x_1 c_x_2
  have c_y_0 := H_y.cell 0; have f_y_0 := H_y.free 0; have c_y_1 := H_y.cell 1; have f_y_1 := H_y.free 1; have c_y_2 := H_y.cell 2; have f_y_2 := H_y.free 2
  simp only [List.set_cons_zero, List.set_cons_succ, List.getElem?_cons_zero, List.getElem?_cons_succ] at c_y_0 c_y_1 c_y_2
  have l_t := H_t.lt; have K_t := Lib.hid H_t; clear H_t
  have l_a := H_a.lt; have K_a := Lib.hid H_a; clear H_a
  have l_b := H_b.lt; have K_b := Lib.hid H_b; clear H_b
  have l_x := H_x.lt; have K_x := Lib.hid H_x; clear H_x
  have l_y := H_y.lt; have K_y := Lib.hid H_y; clear H_y
  have l_u := H_u.lt; have K_u := Lib.hid H_u; clear H_u
  have KB := Lib.hid HB; clear HB
  go_wp2_with (first | (with_reducible refine wpList_load_table rfl _ rfl (w.heap.size) rfl 28 (t) K_t.out ?_) | (with_reducible refine wpList_load_table rfl _ rfl (w.heap.size) rfl 28 (t) (K_t.out.alloc _) ?_) | (with_reducible refine wpList_load_table rfl _ rfl (u2.heap.size) rfl 28 (u) K_u.out ?_) | (with_reducible refine wpList_load_table rfl _ rfl (u2.heap.size) rfl 28 (u) (K_u.out.alloc _) ?_))
  refine (N2.out _).mono ?_
  rintro e5 u5 ⟨rfl, hb⟩
  have H_t : Whole u5 (w.heap.size) 28 _ := Whole.below K_t.out hb (by first | omega | (simp; done) | (simp; omega) | (simp at *; omega))
  have H_a : Whole u5 (w.heap.size + 1) 44 _ := Whole.below K_a.out hb (by first | omega | (simp; done) | (simp; omega) | (simp at *; omega))
  have H_b : Whole u5 (w.heap.size + 2) 44 _ := Whole.below K_b.out hb (by first | omega | (simp; done) | (simp; omega) | (simp at *; omega))
  have H_x : Whole u5 (w.heap.size + 3) 24 _ := Whole.below K_x.out hb (by first | omega | (simp; done) | (simp; omega) | (simp at *; omega))
  have H_y : Whole u5 (w.heap.size + 4) 24 _ := Whole.below K_y.out hb (by first | omega | (simp; done) | (simp; omega) | (simp at *; omega))
  have H_u : Whole u5 (u2.heap.size) 28 _ := Whole.below K_u.out hb (by first | omega | (simp; done) | (simp; omega) | (simp at *; omega))
  have HB := KB.out.trans (hb.mono (by first | omega | (simp; done) | (simp; omega) | (simp at *; omega)))
  clear c_a_0 c_a_1 f_a_0 f_a_1 c_b_0 c_b_1 f_b_0 f_b_1 c_x_0 c_x_1 c_x_2 f_x_0 f_x_1 f_x_2 c_y_0 c_y_1 c_y_2 f_y_0 f_y_1 f_y_2 l_t l_a l_b l_x l_y l_u
  clear hb KB K_t K_a K_b K_x K_y K_u
  have z_u5 := HB.size
  have c_a_0 := H_a.cell 0; have f_a_0 := H_a.free 0; have c_a_1 := H_a.cell 1; have f_a_1 := H_a.free 1
  simp only [List.set_cons_zero, List.set_cons_succ, List.getElem?_cons_zero, List.getElem?_cons_succ] at c_a_0 c_a_1
  have c_b_0 := H_b.cell 0; have f_b_0 := H_b.free 0; have c_b_1 := H_b.cell 1; have f_b_1 := H_b.free 1
  simp only [List.set_cons_zero, List.set_cons_succ, List.getElem?_cons_zero, List.getElem?_cons_succ] at c_b_0 c_b_1
  have c_x_0 := H_x.cell 0; have f_x_0 := H_x.free 0; have c_x_1 := H_x.cell 1; have f_x_1 := H_x.free 1; have c_x_2 := H_x.cell 2; have f_x_2 := H_x.free 2
  simp only [List.set_cons_zero, List.set_cons_succ, List.getElem?_cons_zero, List.getElem?_cons_succ] at c_x_0 c_x_1 c_x_2
  have c_y_0 := H_y.cell 0; have f_y_0 := H_y.free 0; have c_y_1 := H_y.cell 1; have f_y_1 := H_y.free 1; have c_y_2 := H_y.cell 2; have f_y_2 := H_y.free 2
  simp only [List.set_cons_zero, List.set_cons_succ, List.getElem?_cons_zero, List.getElem?_cons_succ] at c_y_0 c_y_1 c_y_2
  have l_t := H_t.lt; have K_t := Lib.hid H_t; clear H_t
  have l_a := H_a.lt; have K_a := Lib.hid H_a; clear H_a
  have l_b := H_b.lt; have K_b := Lib.hid H_b; clear H_b
  have l_x := H_x.lt; have K_x := Lib.hid H_x; clear H_x
  have l_y := H_y.lt; have K_y := Lib.hid H_y; clear H_y
  have l_u := H_u.lt; have K_u := Lib.hid H_u; clear H_u
  have KB := Lib.hid HB; clear HB
  have V : Hid (Whole (u5.alloc (.cells #[.int .i64 0, .int .i64 0, .bool false, .string { data := #[] }, .int .i64 0, .int .i64 0, .bool false, .string { data := #[] }, .int .i64 0, .int .i64 0, .bool false, .string { data := #[] }, .int .i64 0, .int .i64 0, .bool false, .string { data := #[] }] 28)) u5.heap.size 28 zeroTb.cells) := Whole.new u5 28 zeroTb.cells
  go_wp2_with (first | (with_reducible refine wpList_load_table rfl _ rfl (w.heap.size) rfl 28 (t) K_t.out ?_) | (with_reducible refine wpList_load_table rfl _ rfl (w.heap.size) rfl 28 (t) (K_t.out.alloc _) ?_) | (with_reducible refine wpList_load_table rfl _ rfl (u2.heap.size) rfl 28 (u) K_u.out ?_) | (with_reducible refine wpList_load_table rfl _ rfl (u2.heap.size) rfl 28 (u) (K_u.out.alloc _) ?_) | (with_reducible refine wpList_store_table rfl _ _ rfl u5.heap.size (v) zeroTb rfl rfl V.out ?_))
  intro v6 hw hO
  have H_v := hw
  have hb := Only.below ((Below.refl u5.heap.size u5).alloc (Nat.le_refl _) (.cells #[.int .i64 0, .int .i64 0, .bool false, .string { data := #[] }, .int .i64 0, .int .i64 0, .bool false, .string { data := #[] }, .int .i64 0, .int .i64 0, .bool false, .string { data := #[] }, .int .i64 0, .int .i64 0, .bool false, .string { data := #[] }] 28)) hO (by simp) (Nat.le_refl _)
  clear hw hO V
  have H_t : Whole v6 (w.heap.size) 28 _ := Whole.below K_t.out hb (by first | omega | (simp; done) | (simp; omega) | (simp at *; omega))
  have H_a : Whole v6 (w.heap.size + 1) 44 _ := Whole.below K_a.out hb (by first | omega | (simp; done) | (simp; omega) | (simp at *; omega))
  have H_b : Whole v6 (w.heap.size + 2) 44 _ := Whole.below K_b.out hb (by first | omega | (simp; done) | (simp; omega) | (simp at *; omega))
  have H_x : Whole v6 (w.heap.size + 3) 24 _ := Whole.below K_x.out hb (by first | omega | (simp; done) | (simp; omega) | (simp at *; omega))
  have H_y : Whole v6 (w.heap.size + 4) 24 _ := Whole.below K_y.out hb (by first | omega | (simp; done) | (simp; omega) | (simp at *; omega))
  have H_u : Whole v6 (u2.heap.size) 28 _ := Whole.below K_u.out hb (by first | omega | (simp; done) | (simp; omega) | (simp at *; omega))
  have HB := KB.out.trans (hb.mono (by first | omega | (simp; done) | (simp; omega) | (simp at *; omega)))
  clear c_a_0 c_a_1 f_a_0 f_a_1 c_b_0 c_b_1 f_b_0 f_b_1 c_x_0 c_x_1 c_x_2 f_x_0 f_x_1 f_x_2 c_y_0 c_y_1 c_y_2 f_y_0 f_y_1 f_y_2 l_t l_a l_b l_x l_y l_u
  clear hb KB K_t K_a K_b K_x K_y K_u
  have z_v6 := HB.size
  have c_a_0 := H_a.cell 0; have f_a_0 := H_a.free 0; have c_a_1 := H_a.cell 1; have f_a_1 := H_a.free 1
  simp only [List.set_cons_zero, List.set_cons_succ, List.getElem?_cons_zero, List.getElem?_cons_succ] at c_a_0 c_a_1
  have c_b_0 := H_b.cell 0; have f_b_0 := H_b.free 0; have c_b_1 := H_b.cell 1; have f_b_1 := H_b.free 1
  simp only [List.set_cons_zero, List.set_cons_succ, List.getElem?_cons_zero, List.getElem?_cons_succ] at c_b_0 c_b_1
  have c_x_0 := H_x.cell 0; have f_x_0 := H_x.free 0; have c_x_1 := H_x.cell 1; have f_x_1 := H_x.free 1; have c_x_2 := H_x.cell 2; have f_x_2 := H_x.free 2
  simp only [List.set_cons_zero, List.set_cons_succ, List.getElem?_cons_zero, List.getElem?_cons_succ] at c_x_0 c_x_1 c_x_2
  have c_y_0 := H_y.cell 0; have f_y_0 := H_y.free 0; have c_y_1 := H_y.cell 1; have f_y_1 := H_y.free 1; have c_y_2 := H_y.cell 2; have f_y_2 := H_y.free 2
  simp only [List.set_cons_zero, List.set_cons_succ, List.getElem?_cons_zero, List.getElem?_cons_succ] at c_y_0 c_y_1 c_y_2
  have l_t := H_t.lt; have K_t := Lib.hid H_t; clear H_t
  have l_a := H_a.lt; have K_a := Lib.hid H_a; clear H_a
  have l_b := H_b.lt; have K_b := Lib.hid H_b; clear H_b
  have l_x := H_x.lt; have K_x := Lib.hid H_x; clear H_x
  have l_y := H_y.lt; have K_y := Lib.hid H_y; clear H_y
  have l_u := H_u.lt; have K_u := Lib.hid H_u; clear H_u
  have l_v := H_v.lt; have K_v := Lib.hid H_v; clear H_v
  have KB := Lib.hid HB; clear HB
  go_wp2_with (first | (with_reducible refine wpList_load_table rfl _ rfl (w.heap.size) rfl 28 (t) K_t.out ?_) | (with_reducible refine wpList_load_table rfl _ rfl (w.heap.size) rfl 28 (t) (K_t.out.alloc _) ?_) | (with_reducible refine wpList_load_table rfl _ rfl (u2.heap.size) rfl 28 (u) K_u.out ?_) | (with_reducible refine wpList_load_table rfl _ rfl (u2.heap.size) rfl 28 (u) (K_u.out.alloc _) ?_) | (with_reducible refine wpList_load_table rfl _ rfl (u5.heap.size) rfl 28 (v) K_v.out ?_) | (with_reducible refine wpList_load_table rfl _ rfl (u5.heap.size) rfl 28 (v) (K_v.out.alloc _) ?_))
  go_ret
  exact ⟨by first | rfl | (simp; done), KB.out⟩

set_option maxRecDepth 100000 in
set_option maxHeartbeats 8000000 in
theorem apart_f (t : Tb) (ac as_ bc bs : Int) (xe : Int) (xf : Bool) (xv : ByteArray) (ye : Int) (yf : Bool) (yv : ByteArray) (h0 : (xv.size : Int) ≤ 100) (h : (yv.size : Int) ≤ 100) (hc : (ac == bc) = false) (u : Tb) (v : Tb) (f : Int) (h1 : note t ac as_ ⟨xe, xf, xv⟩ = (u, 0)) (h2 : note t bc bs ⟨ye, yf, yv⟩ = (v, f)) (he : (f != 0) = true) (w : World) :
    Calls Try.prog 5 #[.agg t.cells.toArray, .agg #[.int .i64 ac, .int .i64 as_], .agg #[.int .i64 bc, .int .i64 bs], .agg #[.int .i64 xe, .bool xf, .string xv], .agg #[.int .i64 ye, .bool yf, .string yv]] w fun e w' => e = .returned (.bool true) ∧ Below w.heap.size w w' := by
  have AW := Lib.hid awake_is
  have N1 := note_any t ac as_ ⟨xe, xf, xv⟩
  have N2 := note_any t bc bs ⟨ye, yf, yv⟩
  rw [h1] at N1
  rw [h2] at N2
  simp only [Rp.cells] at N1 N2
  have N1 := Lib.hid N1
  have N2 := Lib.hid N2
  clear h1 h2
  have KB := Lib.hid (Below.refl w.heap.size w)
  go_enter Try.func5, Try.ntmps5
  go_wp2_with fail
  refine (AW.out _).mono ?_
  rintro e1 u1 ⟨rfl, hb⟩
  have H_t : Whole u1 (w.heap.size) 28 _ := Whole.below (((((Whole.new _ 28 _).alloc _).alloc _).alloc _).alloc _) hb (by first | omega | (simp; done) | (simp; omega) | (simp at *; omega))
  have H_a : Whole u1 (w.heap.size + 1) 44 _ := Whole.below ((((wh_at w 1 _ 44 _ (by simp)).alloc _).alloc _).alloc _) hb (by first | omega | (simp; done) | (simp; omega) | (simp at *; omega))
  have H_b : Whole u1 (w.heap.size + 2) 44 _ := Whole.below (((wh_at w 2 _ 44 _ (by simp)).alloc _).alloc _) hb (by first | omega | (simp; done) | (simp; omega) | (simp at *; omega))
  have H_x : Whole u1 (w.heap.size + 3) 24 _ := Whole.below ((wh_at w 3 _ 24 _ (by simp)).alloc _) hb (by first | omega | (simp; done) | (simp; omega) | (simp at *; omega))
  have H_y : Whole u1 (w.heap.size + 4) 24 _ := Whole.below (wh_at w 4 _ 24 _ (by simp)) hb (by first | omega | (simp; done) | (simp; omega) | (simp at *; omega))
  have HB := (((((KB.out.alloc (by first | omega | (simp; done) | (simp; omega) | (simp at *; omega)) _).alloc (by first | omega | (simp; done) | (simp; omega) | (simp at *; omega)) _).alloc (by first | omega | (simp; done) | (simp; omega) | (simp at *; omega)) _).alloc (by first | omega | (simp; done) | (simp; omega) | (simp at *; omega)) _).alloc (by first | omega | (simp; done) | (simp; omega) | (simp at *; omega)) _).trans (hb.mono (by first | omega | (simp; done) | (simp; omega) | (simp at *; omega)))
  clear hb KB
  have z_u1 := HB.size
  have c_a_0 := H_a.cell 0; have f_a_0 := H_a.free 0; have c_a_1 := H_a.cell 1; have f_a_1 := H_a.free 1
  simp only [List.set_cons_zero, List.set_cons_succ, List.getElem?_cons_zero, List.getElem?_cons_succ] at c_a_0 c_a_1
  have c_b_0 := H_b.cell 0; have f_b_0 := H_b.free 0; have c_b_1 := H_b.cell 1; have f_b_1 := H_b.free 1
  simp only [List.set_cons_zero, List.set_cons_succ, List.getElem?_cons_zero, List.getElem?_cons_succ] at c_b_0 c_b_1
  have c_x_0 := H_x.cell 0; have f_x_0 := H_x.free 0; have c_x_1 := H_x.cell 1; have f_x_1 := H_x.free 1; have c_x_2 := H_x.cell 2; have f_x_2 := H_x.free 2
  simp only [List.set_cons_zero, List.set_cons_succ, List.getElem?_cons_zero, List.getElem?_cons_succ] at c_x_0 c_x_1 c_x_2
  have c_y_0 := H_y.cell 0; have f_y_0 := H_y.free 0; have c_y_1 := H_y.cell 1; have f_y_1 := H_y.free 1; have c_y_2 := H_y.cell 2; have f_y_2 := H_y.free 2
  simp only [List.set_cons_zero, List.set_cons_succ, List.getElem?_cons_zero, List.getElem?_cons_succ] at c_y_0 c_y_1 c_y_2
  have l_t := H_t.lt; have K_t := Lib.hid H_t; clear H_t
  have l_a := H_a.lt; have K_a := Lib.hid H_a; clear H_a
  have l_b := H_b.lt; have K_b := Lib.hid H_b; clear H_b
  have l_x := H_x.lt; have K_x := Lib.hid H_x; clear H_x
  have l_y := H_y.lt; have K_y := Lib.hid H_y; clear H_y
  have KB := Lib.hid HB; clear HB
  go_wp2_with (first | (with_reducible refine wpList_load_table rfl _ rfl (w.heap.size) rfl 28 (t) K_t.out ?_) | (with_reducible refine wpList_load_table rfl _ rfl (w.heap.size) rfl 28 (t) (K_t.out.alloc _) ?_))
  refine (N1.out _).mono ?_
  rintro e2 u2 ⟨rfl, hb⟩
  have H_t : Whole u2 (w.heap.size) 28 _ := Whole.below K_t.out hb (by first | omega | (simp; done) | (simp; omega) | (simp at *; omega))
  have H_a : Whole u2 (w.heap.size + 1) 44 _ := Whole.below K_a.out hb (by first | omega | (simp; done) | (simp; omega) | (simp at *; omega))
  have H_b : Whole u2 (w.heap.size + 2) 44 _ := Whole.below K_b.out hb (by first | omega | (simp; done) | (simp; omega) | (simp at *; omega))
  have H_x : Whole u2 (w.heap.size + 3) 24 _ := Whole.below K_x.out hb (by first | omega | (simp; done) | (simp; omega) | (simp at *; omega))
  have H_y : Whole u2 (w.heap.size + 4) 24 _ := Whole.below K_y.out hb (by first | omega | (simp; done) | (simp; omega) | (simp at *; omega))
  have HB := KB.out.trans (hb.mono (by first | omega | (simp; done) | (simp; omega) | (simp at *; omega)))
  clear c_a_0 c_a_1 f_a_0 f_a_1 c_b_0 c_b_1 f_b_0 f_b_1 c_x_0 c_x_1 c_x_2 f_x_0 f_x_1 f_x_2 c_y_0 c_y_1 c_y_2 f_y_0 f_y_1 f_y_2 l_t l_a l_b l_x l_y
  clear hb KB K_t K_a K_b K_x K_y
  have z_u2 := HB.size
  have c_a_0 := H_a.cell 0; have f_a_0 := H_a.free 0; have c_a_1 := H_a.cell 1; have f_a_1 := H_a.free 1
  simp only [List.set_cons_zero, List.set_cons_succ, List.getElem?_cons_zero, List.getElem?_cons_succ] at c_a_0 c_a_1
  have c_b_0 := H_b.cell 0; have f_b_0 := H_b.free 0; have c_b_1 := H_b.cell 1; have f_b_1 := H_b.free 1
  simp only [List.set_cons_zero, List.set_cons_succ, List.getElem?_cons_zero, List.getElem?_cons_succ] at c_b_0 c_b_1
  have c_x_0 := H_x.cell 0; have f_x_0 := H_x.free 0; have c_x_1 := H_x.cell 1; have f_x_1 := H_x.free 1; have c_x_2 := H_x.cell 2; have f_x_2 := H_x.free 2
  simp only [List.set_cons_zero, List.set_cons_succ, List.getElem?_cons_zero, List.getElem?_cons_succ] at c_x_0 c_x_1 c_x_2
  have c_y_0 := H_y.cell 0; have f_y_0 := H_y.free 0; have c_y_1 := H_y.cell 1; have f_y_1 := H_y.free 1; have c_y_2 := H_y.cell 2; have f_y_2 := H_y.free 2
  simp only [List.set_cons_zero, List.set_cons_succ, List.getElem?_cons_zero, List.getElem?_cons_succ] at c_y_0 c_y_1 c_y_2
  have l_t := H_t.lt; have K_t := Lib.hid H_t; clear H_t
  have l_a := H_a.lt; have K_a := Lib.hid H_a; clear H_a
  have l_b := H_b.lt; have K_b := Lib.hid H_b; clear H_b
  have l_x := H_x.lt; have K_x := Lib.hid H_x; clear H_x
  have l_y := H_y.lt; have K_y := Lib.hid H_y; clear H_y
  have KB := Lib.hid HB; clear HB
  have V : Hid (Whole (u2.alloc (.cells #[.int .i64 0, .int .i64 0, .bool false, .string { data := #[] }, .int .i64 0, .int .i64 0, .bool false, .string { data := #[] }, .int .i64 0, .int .i64 0, .bool false, .string { data := #[] }, .int .i64 0, .int .i64 0, .bool false, .string { data := #[] }] 28)) u2.heap.size 28 zeroTb.cells) := Whole.new u2 28 zeroTb.cells
  go_wp2_with (first | (with_reducible refine wpList_load_table rfl _ rfl (w.heap.size) rfl 28 (t) K_t.out ?_) | (with_reducible refine wpList_load_table rfl _ rfl (w.heap.size) rfl 28 (t) (K_t.out.alloc _) ?_) | (with_reducible refine wpList_store_table rfl _ _ rfl u2.heap.size (u) zeroTb rfl rfl V.out ?_))
  intro v3 hw hO
  have H_u := hw
  have hb := Only.below ((Below.refl u2.heap.size u2).alloc (Nat.le_refl _) (.cells #[.int .i64 0, .int .i64 0, .bool false, .string { data := #[] }, .int .i64 0, .int .i64 0, .bool false, .string { data := #[] }, .int .i64 0, .int .i64 0, .bool false, .string { data := #[] }, .int .i64 0, .int .i64 0, .bool false, .string { data := #[] }] 28)) hO (by simp) (Nat.le_refl _)
  clear hw hO V
  have H_t : Whole v3 (w.heap.size) 28 _ := Whole.below K_t.out hb (by first | omega | (simp; done) | (simp; omega) | (simp at *; omega))
  have H_a : Whole v3 (w.heap.size + 1) 44 _ := Whole.below K_a.out hb (by first | omega | (simp; done) | (simp; omega) | (simp at *; omega))
  have H_b : Whole v3 (w.heap.size + 2) 44 _ := Whole.below K_b.out hb (by first | omega | (simp; done) | (simp; omega) | (simp at *; omega))
  have H_x : Whole v3 (w.heap.size + 3) 24 _ := Whole.below K_x.out hb (by first | omega | (simp; done) | (simp; omega) | (simp at *; omega))
  have H_y : Whole v3 (w.heap.size + 4) 24 _ := Whole.below K_y.out hb (by first | omega | (simp; done) | (simp; omega) | (simp at *; omega))
  have HB := KB.out.trans (hb.mono (by first | omega | (simp; done) | (simp; omega) | (simp at *; omega)))
  clear c_a_0 c_a_1 f_a_0 f_a_1 c_b_0 c_b_1 f_b_0 f_b_1 c_x_0 c_x_1 c_x_2 f_x_0 f_x_1 f_x_2 c_y_0 c_y_1 c_y_2 f_y_0 f_y_1 f_y_2 l_t l_a l_b l_x l_y
  clear hb KB K_t K_a K_b K_x K_y
  have z_v3 := HB.size
  have c_a_0 := H_a.cell 0; have f_a_0 := H_a.free 0; have c_a_1 := H_a.cell 1; have f_a_1 := H_a.free 1
  simp only [List.set_cons_zero, List.set_cons_succ, List.getElem?_cons_zero, List.getElem?_cons_succ] at c_a_0 c_a_1
  have c_b_0 := H_b.cell 0; have f_b_0 := H_b.free 0; have c_b_1 := H_b.cell 1; have f_b_1 := H_b.free 1
  simp only [List.set_cons_zero, List.set_cons_succ, List.getElem?_cons_zero, List.getElem?_cons_succ] at c_b_0 c_b_1
  have c_x_0 := H_x.cell 0; have f_x_0 := H_x.free 0; have c_x_1 := H_x.cell 1; have f_x_1 := H_x.free 1; have c_x_2 := H_x.cell 2; have f_x_2 := H_x.free 2
  simp only [List.set_cons_zero, List.set_cons_succ, List.getElem?_cons_zero, List.getElem?_cons_succ] at c_x_0 c_x_1 c_x_2
  have c_y_0 := H_y.cell 0; have f_y_0 := H_y.free 0; have c_y_1 := H_y.cell 1; have f_y_1 := H_y.free 1; have c_y_2 := H_y.cell 2; have f_y_2 := H_y.free 2
  simp only [List.set_cons_zero, List.set_cons_succ, List.getElem?_cons_zero, List.getElem?_cons_succ] at c_y_0 c_y_1 c_y_2
  have l_t := H_t.lt; have K_t := Lib.hid H_t; clear H_t
  have l_a := H_a.lt; have K_a := Lib.hid H_a; clear H_a
  have l_b := H_b.lt; have K_b := Lib.hid H_b; clear H_b
  have l_x := H_x.lt; have K_x := Lib.hid H_x; clear H_x
  have l_y := H_y.lt; have K_y := Lib.hid H_y; clear H_y
  have l_u := H_u.lt; have K_u := Lib.hid H_u; clear H_u
  have KB := Lib.hid HB; clear HB
  go_wp2_with (first | (with_reducible refine wpList_load_table rfl _ rfl (w.heap.size) rfl 28 (t) K_t.out ?_) | (with_reducible refine wpList_load_table rfl _ rfl (w.heap.size) rfl 28 (t) (K_t.out.alloc _) ?_) | (with_reducible refine wpList_load_table rfl _ rfl (u2.heap.size) rfl 28 (u) K_u.out ?_) | (with_reducible refine wpList_load_table rfl _ rfl (u2.heap.size) rfl 28 (u) (K_u.out.alloc _) ?_))
  refine (N2.out _).mono ?_
  rintro e5 u5 ⟨rfl, hb⟩
  have H_t : Whole u5 (w.heap.size) 28 _ := Whole.below K_t.out hb (by first | omega | (simp; done) | (simp; omega) | (simp at *; omega))
  have H_a : Whole u5 (w.heap.size + 1) 44 _ := Whole.below K_a.out hb (by first | omega | (simp; done) | (simp; omega) | (simp at *; omega))
  have H_b : Whole u5 (w.heap.size + 2) 44 _ := Whole.below K_b.out hb (by first | omega | (simp; done) | (simp; omega) | (simp at *; omega))
  have H_x : Whole u5 (w.heap.size + 3) 24 _ := Whole.below K_x.out hb (by first | omega | (simp; done) | (simp; omega) | (simp at *; omega))
  have H_y : Whole u5 (w.heap.size + 4) 24 _ := Whole.below K_y.out hb (by first | omega | (simp; done) | (simp; omega) | (simp at *; omega))
  have H_u : Whole u5 (u2.heap.size) 28 _ := Whole.below K_u.out hb (by first | omega | (simp; done) | (simp; omega) | (simp at *; omega))
  have HB := KB.out.trans (hb.mono (by first | omega | (simp; done) | (simp; omega) | (simp at *; omega)))
  clear c_a_0 c_a_1 f_a_0 f_a_1 c_b_0 c_b_1 f_b_0 f_b_1 c_x_0 c_x_1 c_x_2 f_x_0 f_x_1 f_x_2 c_y_0 c_y_1 c_y_2 f_y_0 f_y_1 f_y_2 l_t l_a l_b l_x l_y l_u
  clear hb KB K_t K_a K_b K_x K_y K_u
  have z_u5 := HB.size
  have c_a_0 := H_a.cell 0; have f_a_0 := H_a.free 0; have c_a_1 := H_a.cell 1; have f_a_1 := H_a.free 1
  simp only [List.set_cons_zero, List.set_cons_succ, List.getElem?_cons_zero, List.getElem?_cons_succ] at c_a_0 c_a_1
  have c_b_0 := H_b.cell 0; have f_b_0 := H_b.free 0; have c_b_1 := H_b.cell 1; have f_b_1 := H_b.free 1
  simp only [List.set_cons_zero, List.set_cons_succ, List.getElem?_cons_zero, List.getElem?_cons_succ] at c_b_0 c_b_1
  have c_x_0 := H_x.cell 0; have f_x_0 := H_x.free 0; have c_x_1 := H_x.cell 1; have f_x_1 := H_x.free 1; have c_x_2 := H_x.cell 2; have f_x_2 := H_x.free 2
  simp only [List.set_cons_zero, List.set_cons_succ, List.getElem?_cons_zero, List.getElem?_cons_succ] at c_x_0 c_x_1 c_x_2
  have c_y_0 := H_y.cell 0; have f_y_0 := H_y.free 0; have c_y_1 := H_y.cell 1; have f_y_1 := H_y.free 1; have c_y_2 := H_y.cell 2; have f_y_2 := H_y.free 2
  simp only [List.set_cons_zero, List.set_cons_succ, List.getElem?_cons_zero, List.getElem?_cons_succ] at c_y_0 c_y_1 c_y_2
  have l_t := H_t.lt; have K_t := Lib.hid H_t; clear H_t
  have l_a := H_a.lt; have K_a := Lib.hid H_a; clear H_a
  have l_b := H_b.lt; have K_b := Lib.hid H_b; clear H_b
  have l_x := H_x.lt; have K_x := Lib.hid H_x; clear H_x
  have l_y := H_y.lt; have K_y := Lib.hid H_y; clear H_y
  have l_u := H_u.lt; have K_u := Lib.hid H_u; clear H_u
  have KB := Lib.hid HB; clear HB
  have V : Hid (Whole (u5.alloc (.cells #[.int .i64 0, .int .i64 0, .bool false, .string { data := #[] }, .int .i64 0, .int .i64 0, .bool false, .string { data := #[] }, .int .i64 0, .int .i64 0, .bool false, .string { data := #[] }, .int .i64 0, .int .i64 0, .bool false, .string { data := #[] }] 28)) u5.heap.size 28 zeroTb.cells) := Whole.new u5 28 zeroTb.cells
  go_wp2_with (first | (with_reducible refine wpList_load_table rfl _ rfl (w.heap.size) rfl 28 (t) K_t.out ?_) | (with_reducible refine wpList_load_table rfl _ rfl (w.heap.size) rfl 28 (t) (K_t.out.alloc _) ?_) | (with_reducible refine wpList_load_table rfl _ rfl (u2.heap.size) rfl 28 (u) K_u.out ?_) | (with_reducible refine wpList_load_table rfl _ rfl (u2.heap.size) rfl 28 (u) (K_u.out.alloc _) ?_) | (with_reducible refine wpList_store_table rfl _ _ rfl u5.heap.size (v) zeroTb rfl rfl V.out ?_))
  intro v6 hw hO
  have H_v := hw
  have hb := Only.below ((Below.refl u5.heap.size u5).alloc (Nat.le_refl _) (.cells #[.int .i64 0, .int .i64 0, .bool false, .string { data := #[] }, .int .i64 0, .int .i64 0, .bool false, .string { data := #[] }, .int .i64 0, .int .i64 0, .bool false, .string { data := #[] }, .int .i64 0, .int .i64 0, .bool false, .string { data := #[] }] 28)) hO (by simp) (Nat.le_refl _)
  clear hw hO V
  have H_t : Whole v6 (w.heap.size) 28 _ := Whole.below K_t.out hb (by first | omega | (simp; done) | (simp; omega) | (simp at *; omega))
  have H_a : Whole v6 (w.heap.size + 1) 44 _ := Whole.below K_a.out hb (by first | omega | (simp; done) | (simp; omega) | (simp at *; omega))
  have H_b : Whole v6 (w.heap.size + 2) 44 _ := Whole.below K_b.out hb (by first | omega | (simp; done) | (simp; omega) | (simp at *; omega))
  have H_x : Whole v6 (w.heap.size + 3) 24 _ := Whole.below K_x.out hb (by first | omega | (simp; done) | (simp; omega) | (simp at *; omega))
  have H_y : Whole v6 (w.heap.size + 4) 24 _ := Whole.below K_y.out hb (by first | omega | (simp; done) | (simp; omega) | (simp at *; omega))
  have H_u : Whole v6 (u2.heap.size) 28 _ := Whole.below K_u.out hb (by first | omega | (simp; done) | (simp; omega) | (simp at *; omega))
  have HB := KB.out.trans (hb.mono (by first | omega | (simp; done) | (simp; omega) | (simp at *; omega)))
  clear c_a_0 c_a_1 f_a_0 f_a_1 c_b_0 c_b_1 f_b_0 f_b_1 c_x_0 c_x_1 c_x_2 f_x_0 f_x_1 f_x_2 c_y_0 c_y_1 c_y_2 f_y_0 f_y_1 f_y_2 l_t l_a l_b l_x l_y l_u
  clear hb KB K_t K_a K_b K_x K_y K_u
  have z_v6 := HB.size
  have c_a_0 := H_a.cell 0; have f_a_0 := H_a.free 0; have c_a_1 := H_a.cell 1; have f_a_1 := H_a.free 1
  simp only [List.set_cons_zero, List.set_cons_succ, List.getElem?_cons_zero, List.getElem?_cons_succ] at c_a_0 c_a_1
  have c_b_0 := H_b.cell 0; have f_b_0 := H_b.free 0; have c_b_1 := H_b.cell 1; have f_b_1 := H_b.free 1
  simp only [List.set_cons_zero, List.set_cons_succ, List.getElem?_cons_zero, List.getElem?_cons_succ] at c_b_0 c_b_1
  have c_x_0 := H_x.cell 0; have f_x_0 := H_x.free 0; have c_x_1 := H_x.cell 1; have f_x_1 := H_x.free 1; have c_x_2 := H_x.cell 2; have f_x_2 := H_x.free 2
  simp only [List.set_cons_zero, List.set_cons_succ, List.getElem?_cons_zero, List.getElem?_cons_succ] at c_x_0 c_x_1 c_x_2
  have c_y_0 := H_y.cell 0; have f_y_0 := H_y.free 0; have c_y_1 := H_y.cell 1; have f_y_1 := H_y.free 1; have c_y_2 := H_y.cell 2; have f_y_2 := H_y.free 2
  simp only [List.set_cons_zero, List.set_cons_succ, List.getElem?_cons_zero, List.getElem?_cons_succ] at c_y_0 c_y_1 c_y_2
  have l_t := H_t.lt; have K_t := Lib.hid H_t; clear H_t
  have l_a := H_a.lt; have K_a := Lib.hid H_a; clear H_a
  have l_b := H_b.lt; have K_b := Lib.hid H_b; clear H_b
  have l_x := H_x.lt; have K_x := Lib.hid H_x; clear H_x
  have l_y := H_y.lt; have K_y := Lib.hid H_y; clear H_y
  have l_u := H_u.lt; have K_u := Lib.hid H_u; clear H_u
  have l_v := H_v.lt; have K_v := Lib.hid H_v; clear H_v
  have KB := Lib.hid HB; clear HB
  go_wp2_with (first | (with_reducible refine wpList_load_table rfl _ rfl (w.heap.size) rfl 28 (t) K_t.out ?_) | (with_reducible refine wpList_load_table rfl _ rfl (w.heap.size) rfl 28 (t) (K_t.out.alloc _) ?_) | (with_reducible refine wpList_load_table rfl _ rfl (u2.heap.size) rfl 28 (u) K_u.out ?_) | (with_reducible refine wpList_load_table rfl _ rfl (u2.heap.size) rfl 28 (u) (K_u.out.alloc _) ?_) | (with_reducible refine wpList_load_table rfl _ rfl (u5.heap.size) rfl 28 (v) K_v.out ?_) | (with_reducible refine wpList_load_table rfl _ rfl (u5.heap.size) rfl 28 (v) (K_v.out.alloc _) ?_))
  go_ret
  exact ⟨by first | rfl | (simp; done), KB.out⟩

set_option maxRecDepth 100000 in
set_option maxHeartbeats 8000000 in
theorem apart_main (t : Tb) (ac as_ bc bs : Int) (xe : Int) (xf : Bool) (xv : ByteArray) (ye : Int) (yf : Bool) (yv : ByteArray) (h0 : (xv.size : Int) ≤ 100) (h : (yv.size : Int) ≤ 100) (hc : (ac == bc) = false) (u v z : Tb) (h1 : note t ac as_ ⟨xe, xf, xv⟩ = (u, 0)) (h2 : note t bc bs ⟨ye, yf, yv⟩ = (v, 0)) (h3 : note u bc bs ⟨ye, yf, yv⟩ = (z, 0)) (h4 : note v ac as_ ⟨xe, xf, xv⟩ = (z, 0)) (h5 : ask t bc bs = (true, ⟨0, false, { data := #[] }⟩, 0)) (h6 : ask u bc bs = (true, ⟨0, false, { data := #[] }⟩, 0)) (h7 : mayB z = true) (w : World) :
    Calls Try.prog 5 #[.agg t.cells.toArray, .agg #[.int .i64 ac, .int .i64 as_], .agg #[.int .i64 bc, .int .i64 bs], .agg #[.int .i64 xe, .bool xf, .string xv], .agg #[.int .i64 ye, .bool yf, .string yv]] w fun e w' => e = .returned (.bool true) ∧ Below w.heap.size w w' := by
  have AW := Lib.hid awake_is
  have N1 := note_any t ac as_ ⟨xe, xf, xv⟩
  have N2 := note_any t bc bs ⟨ye, yf, yv⟩
  have N3 := note_any u bc bs ⟨ye, yf, yv⟩
  have N4 := note_any v ac as_ ⟨xe, xf, xv⟩
  have N5 := ask_any t bc bs
  have N6 := ask_any u bc bs
  have N7 := may_any z
  rw [h1] at N1
  rw [h2] at N2
  rw [h3] at N3
  rw [h4] at N4
  rw [h5] at N5
  rw [h6] at N6
  rw [h7] at N7
  simp only [Rp.cells] at N1 N2 N3 N4 N5 N6
  have N1 := Lib.hid N1
  have N2 := Lib.hid N2
  have N3 := Lib.hid N3
  have N4 := Lib.hid N4
  have N5 := Lib.hid N5
  have N6 := Lib.hid N6
  have N7 := Lib.hid N7
  have EQT := eq_table z
  clear h1 h2 h3 h4 h5 h6 h7
  have KB := Lib.hid (Below.refl w.heap.size w)
  go_enter Try.func5, Try.ntmps5
  go_wp2_with fail
  refine (AW.out _).mono ?_
  rintro e1 u1 ⟨rfl, hb⟩
  have H_t : Whole u1 (w.heap.size) 28 _ := Whole.below (((((Whole.new _ 28 _).alloc _).alloc _).alloc _).alloc _) hb (by first | omega | (simp; done) | (simp; omega) | (simp at *; omega))
  have H_a : Whole u1 (w.heap.size + 1) 44 _ := Whole.below ((((wh_at w 1 _ 44 _ (by simp)).alloc _).alloc _).alloc _) hb (by first | omega | (simp; done) | (simp; omega) | (simp at *; omega))
  have H_b : Whole u1 (w.heap.size + 2) 44 _ := Whole.below (((wh_at w 2 _ 44 _ (by simp)).alloc _).alloc _) hb (by first | omega | (simp; done) | (simp; omega) | (simp at *; omega))
  have H_x : Whole u1 (w.heap.size + 3) 24 _ := Whole.below ((wh_at w 3 _ 24 _ (by simp)).alloc _) hb (by first | omega | (simp; done) | (simp; omega) | (simp at *; omega))
  have H_y : Whole u1 (w.heap.size + 4) 24 _ := Whole.below (wh_at w 4 _ 24 _ (by simp)) hb (by first | omega | (simp; done) | (simp; omega) | (simp at *; omega))
  have HB := (((((KB.out.alloc (by first | omega | (simp; done) | (simp; omega) | (simp at *; omega)) _).alloc (by first | omega | (simp; done) | (simp; omega) | (simp at *; omega)) _).alloc (by first | omega | (simp; done) | (simp; omega) | (simp at *; omega)) _).alloc (by first | omega | (simp; done) | (simp; omega) | (simp at *; omega)) _).alloc (by first | omega | (simp; done) | (simp; omega) | (simp at *; omega)) _).trans (hb.mono (by first | omega | (simp; done) | (simp; omega) | (simp at *; omega)))
  clear hb KB
  have z_u1 := HB.size
  have c_a_0 := H_a.cell 0; have f_a_0 := H_a.free 0; have c_a_1 := H_a.cell 1; have f_a_1 := H_a.free 1
  simp only [List.set_cons_zero, List.set_cons_succ, List.getElem?_cons_zero, List.getElem?_cons_succ] at c_a_0 c_a_1
  have c_b_0 := H_b.cell 0; have f_b_0 := H_b.free 0; have c_b_1 := H_b.cell 1; have f_b_1 := H_b.free 1
  simp only [List.set_cons_zero, List.set_cons_succ, List.getElem?_cons_zero, List.getElem?_cons_succ] at c_b_0 c_b_1
  have c_x_0 := H_x.cell 0; have f_x_0 := H_x.free 0; have c_x_1 := H_x.cell 1; have f_x_1 := H_x.free 1; have c_x_2 := H_x.cell 2; have f_x_2 := H_x.free 2
  simp only [List.set_cons_zero, List.set_cons_succ, List.getElem?_cons_zero, List.getElem?_cons_succ] at c_x_0 c_x_1 c_x_2
  have c_y_0 := H_y.cell 0; have f_y_0 := H_y.free 0; have c_y_1 := H_y.cell 1; have f_y_1 := H_y.free 1; have c_y_2 := H_y.cell 2; have f_y_2 := H_y.free 2
  simp only [List.set_cons_zero, List.set_cons_succ, List.getElem?_cons_zero, List.getElem?_cons_succ] at c_y_0 c_y_1 c_y_2
  have l_t := H_t.lt; have K_t := Lib.hid H_t; clear H_t
  have l_a := H_a.lt; have K_a := Lib.hid H_a; clear H_a
  have l_b := H_b.lt; have K_b := Lib.hid H_b; clear H_b
  have l_x := H_x.lt; have K_x := Lib.hid H_x; clear H_x
  have l_y := H_y.lt; have K_y := Lib.hid H_y; clear H_y
  have KB := Lib.hid HB; clear HB
  go_wp2_with (first | (with_reducible refine wpList_load_table rfl _ rfl (w.heap.size) rfl 28 (t) K_t.out ?_) | (with_reducible refine wpList_load_table rfl _ rfl (w.heap.size) rfl 28 (t) (K_t.out.alloc _) ?_))
  refine (N1.out _).mono ?_
  rintro e2 u2 ⟨rfl, hb⟩
  have H_t : Whole u2 (w.heap.size) 28 _ := Whole.below K_t.out hb (by first | omega | (simp; done) | (simp; omega) | (simp at *; omega))
  have H_a : Whole u2 (w.heap.size + 1) 44 _ := Whole.below K_a.out hb (by first | omega | (simp; done) | (simp; omega) | (simp at *; omega))
  have H_b : Whole u2 (w.heap.size + 2) 44 _ := Whole.below K_b.out hb (by first | omega | (simp; done) | (simp; omega) | (simp at *; omega))
  have H_x : Whole u2 (w.heap.size + 3) 24 _ := Whole.below K_x.out hb (by first | omega | (simp; done) | (simp; omega) | (simp at *; omega))
  have H_y : Whole u2 (w.heap.size + 4) 24 _ := Whole.below K_y.out hb (by first | omega | (simp; done) | (simp; omega) | (simp at *; omega))
  have HB := KB.out.trans (hb.mono (by first | omega | (simp; done) | (simp; omega) | (simp at *; omega)))
  clear c_a_0 c_a_1 f_a_0 f_a_1 c_b_0 c_b_1 f_b_0 f_b_1 c_x_0 c_x_1 c_x_2 f_x_0 f_x_1 f_x_2 c_y_0 c_y_1 c_y_2 f_y_0 f_y_1 f_y_2 l_t l_a l_b l_x l_y
  clear hb KB K_t K_a K_b K_x K_y
  have z_u2 := HB.size
  have c_a_0 := H_a.cell 0; have f_a_0 := H_a.free 0; have c_a_1 := H_a.cell 1; have f_a_1 := H_a.free 1
  simp only [List.set_cons_zero, List.set_cons_succ, List.getElem?_cons_zero, List.getElem?_cons_succ] at c_a_0 c_a_1
  have c_b_0 := H_b.cell 0; have f_b_0 := H_b.free 0; have c_b_1 := H_b.cell 1; have f_b_1 := H_b.free 1
  simp only [List.set_cons_zero, List.set_cons_succ, List.getElem?_cons_zero, List.getElem?_cons_succ] at c_b_0 c_b_1
  have c_x_0 := H_x.cell 0; have f_x_0 := H_x.free 0; have c_x_1 := H_x.cell 1; have f_x_1 := H_x.free 1; have c_x_2 := H_x.cell 2; have f_x_2 := H_x.free 2
  simp only [List.set_cons_zero, List.set_cons_succ, List.getElem?_cons_zero, List.getElem?_cons_succ] at c_x_0 c_x_1 c_x_2
  have c_y_0 := H_y.cell 0; have f_y_0 := H_y.free 0; have c_y_1 := H_y.cell 1; have f_y_1 := H_y.free 1; have c_y_2 := H_y.cell 2; have f_y_2 := H_y.free 2
  simp only [List.set_cons_zero, List.set_cons_succ, List.getElem?_cons_zero, List.getElem?_cons_succ] at c_y_0 c_y_1 c_y_2
  have l_t := H_t.lt; have K_t := Lib.hid H_t; clear H_t
  have l_a := H_a.lt; have K_a := Lib.hid H_a; clear H_a
  have l_b := H_b.lt; have K_b := Lib.hid H_b; clear H_b
  have l_x := H_x.lt; have K_x := Lib.hid H_x; clear H_x
  have l_y := H_y.lt; have K_y := Lib.hid H_y; clear H_y
  have KB := Lib.hid HB; clear HB
  have V : Hid (Whole (u2.alloc (.cells #[.int .i64 0, .int .i64 0, .bool false, .string { data := #[] }, .int .i64 0, .int .i64 0, .bool false, .string { data := #[] }, .int .i64 0, .int .i64 0, .bool false, .string { data := #[] }, .int .i64 0, .int .i64 0, .bool false, .string { data := #[] }] 28)) u2.heap.size 28 zeroTb.cells) := Whole.new u2 28 zeroTb.cells
  go_wp2_with (first | (with_reducible refine wpList_load_table rfl _ rfl (w.heap.size) rfl 28 (t) K_t.out ?_) | (with_reducible refine wpList_load_table rfl _ rfl (w.heap.size) rfl 28 (t) (K_t.out.alloc _) ?_) | (with_reducible refine wpList_store_table rfl _ _ rfl u2.heap.size (u) zeroTb rfl rfl V.out ?_))
  intro v3 hw hO
  have H_u := hw
  have hb := Only.below ((Below.refl u2.heap.size u2).alloc (Nat.le_refl _) (.cells #[.int .i64 0, .int .i64 0, .bool false, .string { data := #[] }, .int .i64 0, .int .i64 0, .bool false, .string { data := #[] }, .int .i64 0, .int .i64 0, .bool false, .string { data := #[] }, .int .i64 0, .int .i64 0, .bool false, .string { data := #[] }] 28)) hO (by simp) (Nat.le_refl _)
  clear hw hO V
  have H_t : Whole v3 (w.heap.size) 28 _ := Whole.below K_t.out hb (by first | omega | (simp; done) | (simp; omega) | (simp at *; omega))
  have H_a : Whole v3 (w.heap.size + 1) 44 _ := Whole.below K_a.out hb (by first | omega | (simp; done) | (simp; omega) | (simp at *; omega))
  have H_b : Whole v3 (w.heap.size + 2) 44 _ := Whole.below K_b.out hb (by first | omega | (simp; done) | (simp; omega) | (simp at *; omega))
  have H_x : Whole v3 (w.heap.size + 3) 24 _ := Whole.below K_x.out hb (by first | omega | (simp; done) | (simp; omega) | (simp at *; omega))
  have H_y : Whole v3 (w.heap.size + 4) 24 _ := Whole.below K_y.out hb (by first | omega | (simp; done) | (simp; omega) | (simp at *; omega))
  have HB := KB.out.trans (hb.mono (by first | omega | (simp; done) | (simp; omega) | (simp at *; omega)))
  clear c_a_0 c_a_1 f_a_0 f_a_1 c_b_0 c_b_1 f_b_0 f_b_1 c_x_0 c_x_1 c_x_2 f_x_0 f_x_1 f_x_2 c_y_0 c_y_1 c_y_2 f_y_0 f_y_1 f_y_2 l_t l_a l_b l_x l_y
  clear hb KB K_t K_a K_b K_x K_y
  have z_v3 := HB.size
  have c_a_0 := H_a.cell 0; have f_a_0 := H_a.free 0; have c_a_1 := H_a.cell 1; have f_a_1 := H_a.free 1
  simp only [List.set_cons_zero, List.set_cons_succ, List.getElem?_cons_zero, List.getElem?_cons_succ] at c_a_0 c_a_1
  have c_b_0 := H_b.cell 0; have f_b_0 := H_b.free 0; have c_b_1 := H_b.cell 1; have f_b_1 := H_b.free 1
  simp only [List.set_cons_zero, List.set_cons_succ, List.getElem?_cons_zero, List.getElem?_cons_succ] at c_b_0 c_b_1
  have c_x_0 := H_x.cell 0; have f_x_0 := H_x.free 0; have c_x_1 := H_x.cell 1; have f_x_1 := H_x.free 1; have c_x_2 := H_x.cell 2; have f_x_2 := H_x.free 2
  simp only [List.set_cons_zero, List.set_cons_succ, List.getElem?_cons_zero, List.getElem?_cons_succ] at c_x_0 c_x_1 c_x_2
  have c_y_0 := H_y.cell 0; have f_y_0 := H_y.free 0; have c_y_1 := H_y.cell 1; have f_y_1 := H_y.free 1; have c_y_2 := H_y.cell 2; have f_y_2 := H_y.free 2
  simp only [List.set_cons_zero, List.set_cons_succ, List.getElem?_cons_zero, List.getElem?_cons_succ] at c_y_0 c_y_1 c_y_2
  have l_t := H_t.lt; have K_t := Lib.hid H_t; clear H_t
  have l_a := H_a.lt; have K_a := Lib.hid H_a; clear H_a
  have l_b := H_b.lt; have K_b := Lib.hid H_b; clear H_b
  have l_x := H_x.lt; have K_x := Lib.hid H_x; clear H_x
  have l_y := H_y.lt; have K_y := Lib.hid H_y; clear H_y
  have l_u := H_u.lt; have K_u := Lib.hid H_u; clear H_u
  have KB := Lib.hid HB; clear HB
  go_wp2_with (first | (with_reducible refine wpList_load_table rfl _ rfl (w.heap.size) rfl 28 (t) K_t.out ?_) | (with_reducible refine wpList_load_table rfl _ rfl (w.heap.size) rfl 28 (t) (K_t.out.alloc _) ?_) | (with_reducible refine wpList_load_table rfl _ rfl (u2.heap.size) rfl 28 (u) K_u.out ?_) | (with_reducible refine wpList_load_table rfl _ rfl (u2.heap.size) rfl 28 (u) (K_u.out.alloc _) ?_))
  refine (N2.out _).mono ?_
  rintro e5 u5 ⟨rfl, hb⟩
  have H_t : Whole u5 (w.heap.size) 28 _ := Whole.below K_t.out hb (by first | omega | (simp; done) | (simp; omega) | (simp at *; omega))
  have H_a : Whole u5 (w.heap.size + 1) 44 _ := Whole.below K_a.out hb (by first | omega | (simp; done) | (simp; omega) | (simp at *; omega))
  have H_b : Whole u5 (w.heap.size + 2) 44 _ := Whole.below K_b.out hb (by first | omega | (simp; done) | (simp; omega) | (simp at *; omega))
  have H_x : Whole u5 (w.heap.size + 3) 24 _ := Whole.below K_x.out hb (by first | omega | (simp; done) | (simp; omega) | (simp at *; omega))
  have H_y : Whole u5 (w.heap.size + 4) 24 _ := Whole.below K_y.out hb (by first | omega | (simp; done) | (simp; omega) | (simp at *; omega))
  have H_u : Whole u5 (u2.heap.size) 28 _ := Whole.below K_u.out hb (by first | omega | (simp; done) | (simp; omega) | (simp at *; omega))
  have HB := KB.out.trans (hb.mono (by first | omega | (simp; done) | (simp; omega) | (simp at *; omega)))
  clear c_a_0 c_a_1 f_a_0 f_a_1 c_b_0 c_b_1 f_b_0 f_b_1 c_x_0 c_x_1 c_x_2 f_x_0 f_x_1 f_x_2 c_y_0 c_y_1 c_y_2 f_y_0 f_y_1 f_y_2 l_t l_a l_b l_x l_y l_u
  clear hb KB K_t K_a K_b K_x K_y K_u
  have z_u5 := HB.size
  have c_a_0 := H_a.cell 0; have f_a_0 := H_a.free 0; have c_a_1 := H_a.cell 1; have f_a_1 := H_a.free 1
  simp only [List.set_cons_zero, List.set_cons_succ, List.getElem?_cons_zero, List.getElem?_cons_succ] at c_a_0 c_a_1
  have c_b_0 := H_b.cell 0; have f_b_0 := H_b.free 0; have c_b_1 := H_b.cell 1; have f_b_1 := H_b.free 1
  simp only [List.set_cons_zero, List.set_cons_succ, List.getElem?_cons_zero, List.getElem?_cons_succ] at c_b_0 c_b_1
  have c_x_0 := H_x.cell 0; have f_x_0 := H_x.free 0; have c_x_1 := H_x.cell 1; have f_x_1 := H_x.free 1; have c_x_2 := H_x.cell 2; have f_x_2 := H_x.free 2
  simp only [List.set_cons_zero, List.set_cons_succ, List.getElem?_cons_zero, List.getElem?_cons_succ] at c_x_0 c_x_1 c_x_2
  have c_y_0 := H_y.cell 0; have f_y_0 := H_y.free 0; have c_y_1 := H_y.cell 1; have f_y_1 := H_y.free 1; have c_y_2 := H_y.cell 2; have f_y_2 := H_y.free 2
  simp only [List.set_cons_zero, List.set_cons_succ, List.getElem?_cons_zero, List.getElem?_cons_succ] at c_y_0 c_y_1 c_y_2
  have l_t := H_t.lt; have K_t := Lib.hid H_t; clear H_t
  have l_a := H_a.lt; have K_a := Lib.hid H_a; clear H_a
  have l_b := H_b.lt; have K_b := Lib.hid H_b; clear H_b
  have l_x := H_x.lt; have K_x := Lib.hid H_x; clear H_x
  have l_y := H_y.lt; have K_y := Lib.hid H_y; clear H_y
  have l_u := H_u.lt; have K_u := Lib.hid H_u; clear H_u
  have KB := Lib.hid HB; clear HB
  have V : Hid (Whole (u5.alloc (.cells #[.int .i64 0, .int .i64 0, .bool false, .string { data := #[] }, .int .i64 0, .int .i64 0, .bool false, .string { data := #[] }, .int .i64 0, .int .i64 0, .bool false, .string { data := #[] }, .int .i64 0, .int .i64 0, .bool false, .string { data := #[] }] 28)) u5.heap.size 28 zeroTb.cells) := Whole.new u5 28 zeroTb.cells
  go_wp2_with (first | (with_reducible refine wpList_load_table rfl _ rfl (w.heap.size) rfl 28 (t) K_t.out ?_) | (with_reducible refine wpList_load_table rfl _ rfl (w.heap.size) rfl 28 (t) (K_t.out.alloc _) ?_) | (with_reducible refine wpList_load_table rfl _ rfl (u2.heap.size) rfl 28 (u) K_u.out ?_) | (with_reducible refine wpList_load_table rfl _ rfl (u2.heap.size) rfl 28 (u) (K_u.out.alloc _) ?_) | (with_reducible refine wpList_store_table rfl _ _ rfl u5.heap.size (v) zeroTb rfl rfl V.out ?_))
  intro v6 hw hO
  have H_v := hw
  have hb := Only.below ((Below.refl u5.heap.size u5).alloc (Nat.le_refl _) (.cells #[.int .i64 0, .int .i64 0, .bool false, .string { data := #[] }, .int .i64 0, .int .i64 0, .bool false, .string { data := #[] }, .int .i64 0, .int .i64 0, .bool false, .string { data := #[] }, .int .i64 0, .int .i64 0, .bool false, .string { data := #[] }] 28)) hO (by simp) (Nat.le_refl _)
  clear hw hO V
  have H_t : Whole v6 (w.heap.size) 28 _ := Whole.below K_t.out hb (by first | omega | (simp; done) | (simp; omega) | (simp at *; omega))
  have H_a : Whole v6 (w.heap.size + 1) 44 _ := Whole.below K_a.out hb (by first | omega | (simp; done) | (simp; omega) | (simp at *; omega))
  have H_b : Whole v6 (w.heap.size + 2) 44 _ := Whole.below K_b.out hb (by first | omega | (simp; done) | (simp; omega) | (simp at *; omega))
  have H_x : Whole v6 (w.heap.size + 3) 24 _ := Whole.below K_x.out hb (by first | omega | (simp; done) | (simp; omega) | (simp at *; omega))
  have H_y : Whole v6 (w.heap.size + 4) 24 _ := Whole.below K_y.out hb (by first | omega | (simp; done) | (simp; omega) | (simp at *; omega))
  have H_u : Whole v6 (u2.heap.size) 28 _ := Whole.below K_u.out hb (by first | omega | (simp; done) | (simp; omega) | (simp at *; omega))
  have HB := KB.out.trans (hb.mono (by first | omega | (simp; done) | (simp; omega) | (simp at *; omega)))
  clear c_a_0 c_a_1 f_a_0 f_a_1 c_b_0 c_b_1 f_b_0 f_b_1 c_x_0 c_x_1 c_x_2 f_x_0 f_x_1 f_x_2 c_y_0 c_y_1 c_y_2 f_y_0 f_y_1 f_y_2 l_t l_a l_b l_x l_y l_u
  clear hb KB K_t K_a K_b K_x K_y K_u
  have z_v6 := HB.size
  have c_a_0 := H_a.cell 0; have f_a_0 := H_a.free 0; have c_a_1 := H_a.cell 1; have f_a_1 := H_a.free 1
  simp only [List.set_cons_zero, List.set_cons_succ, List.getElem?_cons_zero, List.getElem?_cons_succ] at c_a_0 c_a_1
  have c_b_0 := H_b.cell 0; have f_b_0 := H_b.free 0; have c_b_1 := H_b.cell 1; have f_b_1 := H_b.free 1
  simp only [List.set_cons_zero, List.set_cons_succ, List.getElem?_cons_zero, List.getElem?_cons_succ] at c_b_0 c_b_1
  have c_x_0 := H_x.cell 0; have f_x_0 := H_x.free 0; have c_x_1 := H_x.cell 1; have f_x_1 := H_x.free 1; have c_x_2 := H_x.cell 2; have f_x_2 := H_x.free 2
  simp only [List.set_cons_zero, List.set_cons_succ, List.getElem?_cons_zero, List.getElem?_cons_succ] at c_x_0 c_x_1 c_x_2
  have c_y_0 := H_y.cell 0; have f_y_0 := H_y.free 0; have c_y_1 := H_y.cell 1; have f_y_1 := H_y.free 1; have c_y_2 := H_y.cell 2; have f_y_2 := H_y.free 2
  simp only [List.set_cons_zero, List.set_cons_succ, List.getElem?_cons_zero, List.getElem?_cons_succ] at c_y_0 c_y_1 c_y_2
  have l_t := H_t.lt; have K_t := Lib.hid H_t; clear H_t
  have l_a := H_a.lt; have K_a := Lib.hid H_a; clear H_a
  have l_b := H_b.lt; have K_b := Lib.hid H_b; clear H_b
  have l_x := H_x.lt; have K_x := Lib.hid H_x; clear H_x
  have l_y := H_y.lt; have K_y := Lib.hid H_y; clear H_y
  have l_u := H_u.lt; have K_u := Lib.hid H_u; clear H_u
  have l_v := H_v.lt; have K_v := Lib.hid H_v; clear H_v
  have KB := Lib.hid HB; clear HB
  go_wp2_with (first | (with_reducible refine wpList_load_table rfl _ rfl (w.heap.size) rfl 28 (t) K_t.out ?_) | (with_reducible refine wpList_load_table rfl _ rfl (w.heap.size) rfl 28 (t) (K_t.out.alloc _) ?_) | (with_reducible refine wpList_load_table rfl _ rfl (u2.heap.size) rfl 28 (u) K_u.out ?_) | (with_reducible refine wpList_load_table rfl _ rfl (u2.heap.size) rfl 28 (u) (K_u.out.alloc _) ?_) | (with_reducible refine wpList_load_table rfl _ rfl (u5.heap.size) rfl 28 (v) K_v.out ?_) | (with_reducible refine wpList_load_table rfl _ rfl (u5.heap.size) rfl 28 (v) (K_v.out.alloc _) ?_))
  refine (N3.out _).mono ?_
  rintro e8 u8 ⟨rfl, hb⟩
  have H_t : Whole u8 (w.heap.size) 28 _ := Whole.below K_t.out hb (by first | omega | (simp; done) | (simp; omega) | (simp at *; omega))
  have H_a : Whole u8 (w.heap.size + 1) 44 _ := Whole.below K_a.out hb (by first | omega | (simp; done) | (simp; omega) | (simp at *; omega))
  have H_b : Whole u8 (w.heap.size + 2) 44 _ := Whole.below K_b.out hb (by first | omega | (simp; done) | (simp; omega) | (simp at *; omega))
  have H_x : Whole u8 (w.heap.size + 3) 24 _ := Whole.below K_x.out hb (by first | omega | (simp; done) | (simp; omega) | (simp at *; omega))
  have H_y : Whole u8 (w.heap.size + 4) 24 _ := Whole.below K_y.out hb (by first | omega | (simp; done) | (simp; omega) | (simp at *; omega))
  have H_u : Whole u8 (u2.heap.size) 28 _ := Whole.below K_u.out hb (by first | omega | (simp; done) | (simp; omega) | (simp at *; omega))
  have H_v : Whole u8 (u5.heap.size) 28 _ := Whole.below K_v.out hb (by first | omega | (simp; done) | (simp; omega) | (simp at *; omega))
  have HB := KB.out.trans (hb.mono (by first | omega | (simp; done) | (simp; omega) | (simp at *; omega)))
  clear c_a_0 c_a_1 f_a_0 f_a_1 c_b_0 c_b_1 f_b_0 f_b_1 c_x_0 c_x_1 c_x_2 f_x_0 f_x_1 f_x_2 c_y_0 c_y_1 c_y_2 f_y_0 f_y_1 f_y_2 l_t l_a l_b l_x l_y l_u l_v
  clear hb KB K_t K_a K_b K_x K_y K_u K_v
  have z_u8 := HB.size
  have c_a_0 := H_a.cell 0; have f_a_0 := H_a.free 0; have c_a_1 := H_a.cell 1; have f_a_1 := H_a.free 1
  simp only [List.set_cons_zero, List.set_cons_succ, List.getElem?_cons_zero, List.getElem?_cons_succ] at c_a_0 c_a_1
  have c_b_0 := H_b.cell 0; have f_b_0 := H_b.free 0; have c_b_1 := H_b.cell 1; have f_b_1 := H_b.free 1
  simp only [List.set_cons_zero, List.set_cons_succ, List.getElem?_cons_zero, List.getElem?_cons_succ] at c_b_0 c_b_1
  have c_x_0 := H_x.cell 0; have f_x_0 := H_x.free 0; have c_x_1 := H_x.cell 1; have f_x_1 := H_x.free 1; have c_x_2 := H_x.cell 2; have f_x_2 := H_x.free 2
  simp only [List.set_cons_zero, List.set_cons_succ, List.getElem?_cons_zero, List.getElem?_cons_succ] at c_x_0 c_x_1 c_x_2
  have c_y_0 := H_y.cell 0; have f_y_0 := H_y.free 0; have c_y_1 := H_y.cell 1; have f_y_1 := H_y.free 1; have c_y_2 := H_y.cell 2; have f_y_2 := H_y.free 2
  simp only [List.set_cons_zero, List.set_cons_succ, List.getElem?_cons_zero, List.getElem?_cons_succ] at c_y_0 c_y_1 c_y_2
  have l_t := H_t.lt; have K_t := Lib.hid H_t; clear H_t
  have l_a := H_a.lt; have K_a := Lib.hid H_a; clear H_a
  have l_b := H_b.lt; have K_b := Lib.hid H_b; clear H_b
  have l_x := H_x.lt; have K_x := Lib.hid H_x; clear H_x
  have l_y := H_y.lt; have K_y := Lib.hid H_y; clear H_y
  have l_u := H_u.lt; have K_u := Lib.hid H_u; clear H_u
  have l_v := H_v.lt; have K_v := Lib.hid H_v; clear H_v
  have KB := Lib.hid HB; clear HB
  have V : Hid (Whole (u8.alloc (.cells #[.int .i64 0, .int .i64 0, .bool false, .string { data := #[] }, .int .i64 0, .int .i64 0, .bool false, .string { data := #[] }, .int .i64 0, .int .i64 0, .bool false, .string { data := #[] }, .int .i64 0, .int .i64 0, .bool false, .string { data := #[] }] 28)) u8.heap.size 28 zeroTb.cells) := Whole.new u8 28 zeroTb.cells
  go_wp2_with (first | (with_reducible refine wpList_load_table rfl _ rfl (w.heap.size) rfl 28 (t) K_t.out ?_) | (with_reducible refine wpList_load_table rfl _ rfl (w.heap.size) rfl 28 (t) (K_t.out.alloc _) ?_) | (with_reducible refine wpList_load_table rfl _ rfl (u2.heap.size) rfl 28 (u) K_u.out ?_) | (with_reducible refine wpList_load_table rfl _ rfl (u2.heap.size) rfl 28 (u) (K_u.out.alloc _) ?_) | (with_reducible refine wpList_load_table rfl _ rfl (u5.heap.size) rfl 28 (v) K_v.out ?_) | (with_reducible refine wpList_load_table rfl _ rfl (u5.heap.size) rfl 28 (v) (K_v.out.alloc _) ?_) | (with_reducible refine wpList_store_table rfl _ _ rfl u8.heap.size (z) zeroTb rfl rfl V.out ?_))
  intro v9 hw hO
  have H_w2 := hw
  have hb := Only.below ((Below.refl u8.heap.size u8).alloc (Nat.le_refl _) (.cells #[.int .i64 0, .int .i64 0, .bool false, .string { data := #[] }, .int .i64 0, .int .i64 0, .bool false, .string { data := #[] }, .int .i64 0, .int .i64 0, .bool false, .string { data := #[] }, .int .i64 0, .int .i64 0, .bool false, .string { data := #[] }] 28)) hO (by simp) (Nat.le_refl _)
  clear hw hO V
  have H_t : Whole v9 (w.heap.size) 28 _ := Whole.below K_t.out hb (by first | omega | (simp; done) | (simp; omega) | (simp at *; omega))
  have H_a : Whole v9 (w.heap.size + 1) 44 _ := Whole.below K_a.out hb (by first | omega | (simp; done) | (simp; omega) | (simp at *; omega))
  have H_b : Whole v9 (w.heap.size + 2) 44 _ := Whole.below K_b.out hb (by first | omega | (simp; done) | (simp; omega) | (simp at *; omega))
  have H_x : Whole v9 (w.heap.size + 3) 24 _ := Whole.below K_x.out hb (by first | omega | (simp; done) | (simp; omega) | (simp at *; omega))
  have H_y : Whole v9 (w.heap.size + 4) 24 _ := Whole.below K_y.out hb (by first | omega | (simp; done) | (simp; omega) | (simp at *; omega))
  have H_u : Whole v9 (u2.heap.size) 28 _ := Whole.below K_u.out hb (by first | omega | (simp; done) | (simp; omega) | (simp at *; omega))
  have H_v : Whole v9 (u5.heap.size) 28 _ := Whole.below K_v.out hb (by first | omega | (simp; done) | (simp; omega) | (simp at *; omega))
  have HB := KB.out.trans (hb.mono (by first | omega | (simp; done) | (simp; omega) | (simp at *; omega)))
  clear c_a_0 c_a_1 f_a_0 f_a_1 c_b_0 c_b_1 f_b_0 f_b_1 c_x_0 c_x_1 c_x_2 f_x_0 f_x_1 f_x_2 c_y_0 c_y_1 c_y_2 f_y_0 f_y_1 f_y_2 l_t l_a l_b l_x l_y l_u l_v
  clear hb KB K_t K_a K_b K_x K_y K_u K_v
  have z_v9 := HB.size
  have c_a_0 := H_a.cell 0; have f_a_0 := H_a.free 0; have c_a_1 := H_a.cell 1; have f_a_1 := H_a.free 1
  simp only [List.set_cons_zero, List.set_cons_succ, List.getElem?_cons_zero, List.getElem?_cons_succ] at c_a_0 c_a_1
  have c_b_0 := H_b.cell 0; have f_b_0 := H_b.free 0; have c_b_1 := H_b.cell 1; have f_b_1 := H_b.free 1
  simp only [List.set_cons_zero, List.set_cons_succ, List.getElem?_cons_zero, List.getElem?_cons_succ] at c_b_0 c_b_1
  have c_x_0 := H_x.cell 0; have f_x_0 := H_x.free 0; have c_x_1 := H_x.cell 1; have f_x_1 := H_x.free 1; have c_x_2 := H_x.cell 2; have f_x_2 := H_x.free 2
  simp only [List.set_cons_zero, List.set_cons_succ, List.getElem?_cons_zero, List.getElem?_cons_succ] at c_x_0 c_x_1 c_x_2
  have c_y_0 := H_y.cell 0; have f_y_0 := H_y.free 0; have c_y_1 := H_y.cell 1; have f_y_1 := H_y.free 1; have c_y_2 := H_y.cell 2; have f_y_2 := H_y.free 2
  simp only [List.set_cons_zero, List.set_cons_succ, List.getElem?_cons_zero, List.getElem?_cons_succ] at c_y_0 c_y_1 c_y_2
  have l_t := H_t.lt; have K_t := Lib.hid H_t; clear H_t
  have l_a := H_a.lt; have K_a := Lib.hid H_a; clear H_a
  have l_b := H_b.lt; have K_b := Lib.hid H_b; clear H_b
  have l_x := H_x.lt; have K_x := Lib.hid H_x; clear H_x
  have l_y := H_y.lt; have K_y := Lib.hid H_y; clear H_y
  have l_u := H_u.lt; have K_u := Lib.hid H_u; clear H_u
  have l_v := H_v.lt; have K_v := Lib.hid H_v; clear H_v
  have l_w2 := H_w2.lt; have K_w2 := Lib.hid H_w2; clear H_w2
  have KB := Lib.hid HB; clear HB
  go_wp2_with (first | (with_reducible refine wpList_load_table rfl _ rfl (w.heap.size) rfl 28 (t) K_t.out ?_) | (with_reducible refine wpList_load_table rfl _ rfl (w.heap.size) rfl 28 (t) (K_t.out.alloc _) ?_) | (with_reducible refine wpList_load_table rfl _ rfl (u2.heap.size) rfl 28 (u) K_u.out ?_) | (with_reducible refine wpList_load_table rfl _ rfl (u2.heap.size) rfl 28 (u) (K_u.out.alloc _) ?_) | (with_reducible refine wpList_load_table rfl _ rfl (u5.heap.size) rfl 28 (v) K_v.out ?_) | (with_reducible refine wpList_load_table rfl _ rfl (u5.heap.size) rfl 28 (v) (K_v.out.alloc _) ?_) | (with_reducible refine wpList_load_table rfl _ rfl (u8.heap.size) rfl 28 (z) K_w2.out ?_) | (with_reducible refine wpList_load_table rfl _ rfl (u8.heap.size) rfl 28 (z) (K_w2.out.alloc _) ?_))
  refine (N4.out _).mono ?_
  rintro e11 u11 ⟨rfl, hb⟩
  have H_t : Whole u11 (w.heap.size) 28 _ := Whole.below K_t.out hb (by first | omega | (simp; done) | (simp; omega) | (simp at *; omega))
  have H_a : Whole u11 (w.heap.size + 1) 44 _ := Whole.below K_a.out hb (by first | omega | (simp; done) | (simp; omega) | (simp at *; omega))
  have H_b : Whole u11 (w.heap.size + 2) 44 _ := Whole.below K_b.out hb (by first | omega | (simp; done) | (simp; omega) | (simp at *; omega))
  have H_x : Whole u11 (w.heap.size + 3) 24 _ := Whole.below K_x.out hb (by first | omega | (simp; done) | (simp; omega) | (simp at *; omega))
  have H_y : Whole u11 (w.heap.size + 4) 24 _ := Whole.below K_y.out hb (by first | omega | (simp; done) | (simp; omega) | (simp at *; omega))
  have H_u : Whole u11 (u2.heap.size) 28 _ := Whole.below K_u.out hb (by first | omega | (simp; done) | (simp; omega) | (simp at *; omega))
  have H_v : Whole u11 (u5.heap.size) 28 _ := Whole.below K_v.out hb (by first | omega | (simp; done) | (simp; omega) | (simp at *; omega))
  have H_w2 : Whole u11 (u8.heap.size) 28 _ := Whole.below K_w2.out hb (by first | omega | (simp; done) | (simp; omega) | (simp at *; omega))
  have HB := KB.out.trans (hb.mono (by first | omega | (simp; done) | (simp; omega) | (simp at *; omega)))
  clear c_a_0 c_a_1 f_a_0 f_a_1 c_b_0 c_b_1 f_b_0 f_b_1 c_x_0 c_x_1 c_x_2 f_x_0 f_x_1 f_x_2 c_y_0 c_y_1 c_y_2 f_y_0 f_y_1 f_y_2 l_t l_a l_b l_x l_y l_u l_v l_w2
  clear hb KB K_t K_a K_b K_x K_y K_u K_v K_w2
  have z_u11 := HB.size
  have c_a_0 := H_a.cell 0; have f_a_0 := H_a.free 0; have c_a_1 := H_a.cell 1; have f_a_1 := H_a.free 1
  simp only [List.set_cons_zero, List.set_cons_succ, List.getElem?_cons_zero, List.getElem?_cons_succ] at c_a_0 c_a_1
  have c_b_0 := H_b.cell 0; have f_b_0 := H_b.free 0; have c_b_1 := H_b.cell 1; have f_b_1 := H_b.free 1
  simp only [List.set_cons_zero, List.set_cons_succ, List.getElem?_cons_zero, List.getElem?_cons_succ] at c_b_0 c_b_1
  have c_x_0 := H_x.cell 0; have f_x_0 := H_x.free 0; have c_x_1 := H_x.cell 1; have f_x_1 := H_x.free 1; have c_x_2 := H_x.cell 2; have f_x_2 := H_x.free 2
  simp only [List.set_cons_zero, List.set_cons_succ, List.getElem?_cons_zero, List.getElem?_cons_succ] at c_x_0 c_x_1 c_x_2
  have c_y_0 := H_y.cell 0; have f_y_0 := H_y.free 0; have c_y_1 := H_y.cell 1; have f_y_1 := H_y.free 1; have c_y_2 := H_y.cell 2; have f_y_2 := H_y.free 2
  simp only [List.set_cons_zero, List.set_cons_succ, List.getElem?_cons_zero, List.getElem?_cons_succ] at c_y_0 c_y_1 c_y_2
  have l_t := H_t.lt; have K_t := Lib.hid H_t; clear H_t
  have l_a := H_a.lt; have K_a := Lib.hid H_a; clear H_a
  have l_b := H_b.lt; have K_b := Lib.hid H_b; clear H_b
  have l_x := H_x.lt; have K_x := Lib.hid H_x; clear H_x
  have l_y := H_y.lt; have K_y := Lib.hid H_y; clear H_y
  have l_u := H_u.lt; have K_u := Lib.hid H_u; clear H_u
  have l_v := H_v.lt; have K_v := Lib.hid H_v; clear H_v
  have l_w2 := H_w2.lt; have K_w2 := Lib.hid H_w2; clear H_w2
  have KB := Lib.hid HB; clear HB
  have V : Hid (Whole (u11.alloc (.cells #[.int .i64 0, .int .i64 0, .bool false, .string { data := #[] }, .int .i64 0, .int .i64 0, .bool false, .string { data := #[] }, .int .i64 0, .int .i64 0, .bool false, .string { data := #[] }, .int .i64 0, .int .i64 0, .bool false, .string { data := #[] }] 28)) u11.heap.size 28 zeroTb.cells) := Whole.new u11 28 zeroTb.cells
  go_wp2_with (first | (with_reducible refine wpList_load_table rfl _ rfl (w.heap.size) rfl 28 (t) K_t.out ?_) | (with_reducible refine wpList_load_table rfl _ rfl (w.heap.size) rfl 28 (t) (K_t.out.alloc _) ?_) | (with_reducible refine wpList_load_table rfl _ rfl (u2.heap.size) rfl 28 (u) K_u.out ?_) | (with_reducible refine wpList_load_table rfl _ rfl (u2.heap.size) rfl 28 (u) (K_u.out.alloc _) ?_) | (with_reducible refine wpList_load_table rfl _ rfl (u5.heap.size) rfl 28 (v) K_v.out ?_) | (with_reducible refine wpList_load_table rfl _ rfl (u5.heap.size) rfl 28 (v) (K_v.out.alloc _) ?_) | (with_reducible refine wpList_load_table rfl _ rfl (u8.heap.size) rfl 28 (z) K_w2.out ?_) | (with_reducible refine wpList_load_table rfl _ rfl (u8.heap.size) rfl 28 (z) (K_w2.out.alloc _) ?_) | (with_reducible refine wpList_store_table rfl _ _ rfl u11.heap.size (z) zeroTb rfl rfl V.out ?_))
  intro v12 hw hO
  have H_z := hw
  have hb := Only.below ((Below.refl u11.heap.size u11).alloc (Nat.le_refl _) (.cells #[.int .i64 0, .int .i64 0, .bool false, .string { data := #[] }, .int .i64 0, .int .i64 0, .bool false, .string { data := #[] }, .int .i64 0, .int .i64 0, .bool false, .string { data := #[] }, .int .i64 0, .int .i64 0, .bool false, .string { data := #[] }] 28)) hO (by simp) (Nat.le_refl _)
  clear hw hO V
  have H_t : Whole v12 (w.heap.size) 28 _ := Whole.below K_t.out hb (by first | omega | (simp; done) | (simp; omega) | (simp at *; omega))
  have H_a : Whole v12 (w.heap.size + 1) 44 _ := Whole.below K_a.out hb (by first | omega | (simp; done) | (simp; omega) | (simp at *; omega))
  have H_b : Whole v12 (w.heap.size + 2) 44 _ := Whole.below K_b.out hb (by first | omega | (simp; done) | (simp; omega) | (simp at *; omega))
  have H_x : Whole v12 (w.heap.size + 3) 24 _ := Whole.below K_x.out hb (by first | omega | (simp; done) | (simp; omega) | (simp at *; omega))
  have H_y : Whole v12 (w.heap.size + 4) 24 _ := Whole.below K_y.out hb (by first | omega | (simp; done) | (simp; omega) | (simp at *; omega))
  have H_u : Whole v12 (u2.heap.size) 28 _ := Whole.below K_u.out hb (by first | omega | (simp; done) | (simp; omega) | (simp at *; omega))
  have H_v : Whole v12 (u5.heap.size) 28 _ := Whole.below K_v.out hb (by first | omega | (simp; done) | (simp; omega) | (simp at *; omega))
  have H_w2 : Whole v12 (u8.heap.size) 28 _ := Whole.below K_w2.out hb (by first | omega | (simp; done) | (simp; omega) | (simp at *; omega))
  have HB := KB.out.trans (hb.mono (by first | omega | (simp; done) | (simp; omega) | (simp at *; omega)))
  clear c_a_0 c_a_1 f_a_0 f_a_1 c_b_0 c_b_1 f_b_0 f_b_1 c_x_0 c_x_1 c_x_2 f_x_0 f_x_1 f_x_2 c_y_0 c_y_1 c_y_2 f_y_0 f_y_1 f_y_2 l_t l_a l_b l_x l_y l_u l_v l_w2
  clear hb KB K_t K_a K_b K_x K_y K_u K_v K_w2
  have z_v12 := HB.size
  have c_a_0 := H_a.cell 0; have f_a_0 := H_a.free 0; have c_a_1 := H_a.cell 1; have f_a_1 := H_a.free 1
  simp only [List.set_cons_zero, List.set_cons_succ, List.getElem?_cons_zero, List.getElem?_cons_succ] at c_a_0 c_a_1
  have c_b_0 := H_b.cell 0; have f_b_0 := H_b.free 0; have c_b_1 := H_b.cell 1; have f_b_1 := H_b.free 1
  simp only [List.set_cons_zero, List.set_cons_succ, List.getElem?_cons_zero, List.getElem?_cons_succ] at c_b_0 c_b_1
  have c_x_0 := H_x.cell 0; have f_x_0 := H_x.free 0; have c_x_1 := H_x.cell 1; have f_x_1 := H_x.free 1; have c_x_2 := H_x.cell 2; have f_x_2 := H_x.free 2
  simp only [List.set_cons_zero, List.set_cons_succ, List.getElem?_cons_zero, List.getElem?_cons_succ] at c_x_0 c_x_1 c_x_2
  have c_y_0 := H_y.cell 0; have f_y_0 := H_y.free 0; have c_y_1 := H_y.cell 1; have f_y_1 := H_y.free 1; have c_y_2 := H_y.cell 2; have f_y_2 := H_y.free 2
  simp only [List.set_cons_zero, List.set_cons_succ, List.getElem?_cons_zero, List.getElem?_cons_succ] at c_y_0 c_y_1 c_y_2
  have l_t := H_t.lt; have K_t := Lib.hid H_t; clear H_t
  have l_a := H_a.lt; have K_a := Lib.hid H_a; clear H_a
  have l_b := H_b.lt; have K_b := Lib.hid H_b; clear H_b
  have l_x := H_x.lt; have K_x := Lib.hid H_x; clear H_x
  have l_y := H_y.lt; have K_y := Lib.hid H_y; clear H_y
  have l_u := H_u.lt; have K_u := Lib.hid H_u; clear H_u
  have l_v := H_v.lt; have K_v := Lib.hid H_v; clear H_v
  have l_w2 := H_w2.lt; have K_w2 := Lib.hid H_w2; clear H_w2
  have l_z := H_z.lt; have K_z := Lib.hid H_z; clear H_z
  have KB := Lib.hid HB; clear HB
  go_wp2_with (first | (with_reducible refine wpList_load_table rfl _ rfl (w.heap.size) rfl 28 (t) K_t.out ?_) | (with_reducible refine wpList_load_table rfl _ rfl (w.heap.size) rfl 28 (t) (K_t.out.alloc _) ?_) | (with_reducible refine wpList_load_table rfl _ rfl (u2.heap.size) rfl 28 (u) K_u.out ?_) | (with_reducible refine wpList_load_table rfl _ rfl (u2.heap.size) rfl 28 (u) (K_u.out.alloc _) ?_) | (with_reducible refine wpList_load_table rfl _ rfl (u5.heap.size) rfl 28 (v) K_v.out ?_) | (with_reducible refine wpList_load_table rfl _ rfl (u5.heap.size) rfl 28 (v) (K_v.out.alloc _) ?_) | (with_reducible refine wpList_load_table rfl _ rfl (u8.heap.size) rfl 28 (z) K_w2.out ?_) | (with_reducible refine wpList_load_table rfl _ rfl (u8.heap.size) rfl 28 (z) (K_w2.out.alloc _) ?_) | (with_reducible refine wpList_load_table rfl _ rfl (u11.heap.size) rfl 28 (z) K_z.out ?_) | (with_reducible refine wpList_load_table rfl _ rfl (u11.heap.size) rfl 28 (z) (K_z.out.alloc _) ?_))
  refine (N5.out _).mono ?_
  rintro e14 u14 ⟨rfl, hb⟩
  have H_t : Whole u14 (w.heap.size) 28 _ := Whole.below K_t.out hb (by first | omega | (simp; done) | (simp; omega) | (simp at *; omega))
  have H_a : Whole u14 (w.heap.size + 1) 44 _ := Whole.below K_a.out hb (by first | omega | (simp; done) | (simp; omega) | (simp at *; omega))
  have H_b : Whole u14 (w.heap.size + 2) 44 _ := Whole.below K_b.out hb (by first | omega | (simp; done) | (simp; omega) | (simp at *; omega))
  have H_x : Whole u14 (w.heap.size + 3) 24 _ := Whole.below K_x.out hb (by first | omega | (simp; done) | (simp; omega) | (simp at *; omega))
  have H_y : Whole u14 (w.heap.size + 4) 24 _ := Whole.below K_y.out hb (by first | omega | (simp; done) | (simp; omega) | (simp at *; omega))
  have H_u : Whole u14 (u2.heap.size) 28 _ := Whole.below K_u.out hb (by first | omega | (simp; done) | (simp; omega) | (simp at *; omega))
  have H_v : Whole u14 (u5.heap.size) 28 _ := Whole.below K_v.out hb (by first | omega | (simp; done) | (simp; omega) | (simp at *; omega))
  have H_w2 : Whole u14 (u8.heap.size) 28 _ := Whole.below K_w2.out hb (by first | omega | (simp; done) | (simp; omega) | (simp at *; omega))
  have H_z : Whole u14 (u11.heap.size) 28 _ := Whole.below K_z.out hb (by first | omega | (simp; done) | (simp; omega) | (simp at *; omega))
  have HB := KB.out.trans (hb.mono (by first | omega | (simp; done) | (simp; omega) | (simp at *; omega)))
  clear c_a_0 c_a_1 f_a_0 f_a_1 c_b_0 c_b_1 f_b_0 f_b_1 c_x_0 c_x_1 c_x_2 f_x_0 f_x_1 f_x_2 c_y_0 c_y_1 c_y_2 f_y_0 f_y_1 f_y_2 l_t l_a l_b l_x l_y l_u l_v l_w2 l_z
  clear hb KB K_t K_a K_b K_x K_y K_u K_v K_w2 K_z
  have z_u14 := HB.size
  have c_a_0 := H_a.cell 0; have f_a_0 := H_a.free 0; have c_a_1 := H_a.cell 1; have f_a_1 := H_a.free 1
  simp only [List.set_cons_zero, List.set_cons_succ, List.getElem?_cons_zero, List.getElem?_cons_succ] at c_a_0 c_a_1
  have c_b_0 := H_b.cell 0; have f_b_0 := H_b.free 0; have c_b_1 := H_b.cell 1; have f_b_1 := H_b.free 1
  simp only [List.set_cons_zero, List.set_cons_succ, List.getElem?_cons_zero, List.getElem?_cons_succ] at c_b_0 c_b_1
  have c_x_0 := H_x.cell 0; have f_x_0 := H_x.free 0; have c_x_1 := H_x.cell 1; have f_x_1 := H_x.free 1; have c_x_2 := H_x.cell 2; have f_x_2 := H_x.free 2
  simp only [List.set_cons_zero, List.set_cons_succ, List.getElem?_cons_zero, List.getElem?_cons_succ] at c_x_0 c_x_1 c_x_2
  have c_y_0 := H_y.cell 0; have f_y_0 := H_y.free 0; have c_y_1 := H_y.cell 1; have f_y_1 := H_y.free 1; have c_y_2 := H_y.cell 2; have f_y_2 := H_y.free 2
  simp only [List.set_cons_zero, List.set_cons_succ, List.getElem?_cons_zero, List.getElem?_cons_succ] at c_y_0 c_y_1 c_y_2
  have l_t := H_t.lt; have K_t := Lib.hid H_t; clear H_t
  have l_a := H_a.lt; have K_a := Lib.hid H_a; clear H_a
  have l_b := H_b.lt; have K_b := Lib.hid H_b; clear H_b
  have l_x := H_x.lt; have K_x := Lib.hid H_x; clear H_x
  have l_y := H_y.lt; have K_y := Lib.hid H_y; clear H_y
  have l_u := H_u.lt; have K_u := Lib.hid H_u; clear H_u
  have l_v := H_v.lt; have K_v := Lib.hid H_v; clear H_v
  have l_w2 := H_w2.lt; have K_w2 := Lib.hid H_w2; clear H_w2
  have l_z := H_z.lt; have K_z := Lib.hid H_z; clear H_z
  have KB := Lib.hid HB; clear HB
  go_wp2_with (first | (with_reducible refine wpList_load_table rfl _ rfl (w.heap.size) rfl 28 (t) K_t.out ?_) | (with_reducible refine wpList_load_table rfl _ rfl (w.heap.size) rfl 28 (t) (K_t.out.alloc _) ?_) | (with_reducible refine wpList_load_table rfl _ rfl (u2.heap.size) rfl 28 (u) K_u.out ?_) | (with_reducible refine wpList_load_table rfl _ rfl (u2.heap.size) rfl 28 (u) (K_u.out.alloc _) ?_) | (with_reducible refine wpList_load_table rfl _ rfl (u5.heap.size) rfl 28 (v) K_v.out ?_) | (with_reducible refine wpList_load_table rfl _ rfl (u5.heap.size) rfl 28 (v) (K_v.out.alloc _) ?_) | (with_reducible refine wpList_load_table rfl _ rfl (u8.heap.size) rfl 28 (z) K_w2.out ?_) | (with_reducible refine wpList_load_table rfl _ rfl (u8.heap.size) rfl 28 (z) (K_w2.out.alloc _) ?_) | (with_reducible refine wpList_load_table rfl _ rfl (u11.heap.size) rfl 28 (z) K_z.out ?_) | (with_reducible refine wpList_load_table rfl _ rfl (u11.heap.size) rfl 28 (z) (K_z.out.alloc _) ?_))
  refine (N6.out _).mono ?_
  rintro e15 u15 ⟨rfl, hb⟩
  have H_t : Whole u15 (w.heap.size) 28 _ := Whole.below (K_t.out.alloc _) hb (by first | omega | (simp; done) | (simp; omega) | (simp at *; omega))
  have H_a : Whole u15 (w.heap.size + 1) 44 _ := Whole.below (K_a.out.alloc _) hb (by first | omega | (simp; done) | (simp; omega) | (simp at *; omega))
  have H_b : Whole u15 (w.heap.size + 2) 44 _ := Whole.below (K_b.out.alloc _) hb (by first | omega | (simp; done) | (simp; omega) | (simp at *; omega))
  have H_x : Whole u15 (w.heap.size + 3) 24 _ := Whole.below (K_x.out.alloc _) hb (by first | omega | (simp; done) | (simp; omega) | (simp at *; omega))
  have H_y : Whole u15 (w.heap.size + 4) 24 _ := Whole.below (K_y.out.alloc _) hb (by first | omega | (simp; done) | (simp; omega) | (simp at *; omega))
  have H_u : Whole u15 (u2.heap.size) 28 _ := Whole.below (K_u.out.alloc _) hb (by first | omega | (simp; done) | (simp; omega) | (simp at *; omega))
  have H_v : Whole u15 (u5.heap.size) 28 _ := Whole.below (K_v.out.alloc _) hb (by first | omega | (simp; done) | (simp; omega) | (simp at *; omega))
  have H_w2 : Whole u15 (u8.heap.size) 28 _ := Whole.below (K_w2.out.alloc _) hb (by first | omega | (simp; done) | (simp; omega) | (simp at *; omega))
  have H_z : Whole u15 (u11.heap.size) 28 _ := Whole.below (K_z.out.alloc _) hb (by first | omega | (simp; done) | (simp; omega) | (simp at *; omega))
  have H_was : Whole u15 (u14.heap.size) 24 _ := Whole.below (Whole.new _ 24 _) hb (by first | omega | (simp; done) | (simp; omega) | (simp at *; omega))
  have HB := (KB.out.alloc (by first | omega | (simp; done) | (simp; omega) | (simp at *; omega)) _).trans (hb.mono (by first | omega | (simp; done) | (simp; omega) | (simp at *; omega)))
  clear c_a_0 c_a_1 f_a_0 f_a_1 c_b_0 c_b_1 f_b_0 f_b_1 c_x_0 c_x_1 c_x_2 f_x_0 f_x_1 f_x_2 c_y_0 c_y_1 c_y_2 f_y_0 f_y_1 f_y_2
  clear hb KB K_t K_a K_b K_x K_y K_u K_v K_w2 K_z
  have z_u15 := HB.size
  have c_a_0 := H_a.cell 0; have f_a_0 := H_a.free 0; have c_a_1 := H_a.cell 1; have f_a_1 := H_a.free 1
  simp only [List.set_cons_zero, List.set_cons_succ, List.getElem?_cons_zero, List.getElem?_cons_succ] at c_a_0 c_a_1
  have c_b_0 := H_b.cell 0; have f_b_0 := H_b.free 0; have c_b_1 := H_b.cell 1; have f_b_1 := H_b.free 1
  simp only [List.set_cons_zero, List.set_cons_succ, List.getElem?_cons_zero, List.getElem?_cons_succ] at c_b_0 c_b_1
  have c_x_0 := H_x.cell 0; have f_x_0 := H_x.free 0; have c_x_1 := H_x.cell 1; have f_x_1 := H_x.free 1; have c_x_2 := H_x.cell 2; have f_x_2 := H_x.free 2
  simp only [List.set_cons_zero, List.set_cons_succ, List.getElem?_cons_zero, List.getElem?_cons_succ] at c_x_0 c_x_1 c_x_2
  have c_y_0 := H_y.cell 0; have f_y_0 := H_y.free 0; have c_y_1 := H_y.cell 1; have f_y_1 := H_y.free 1; have c_y_2 := H_y.cell 2; have f_y_2 := H_y.free 2
  simp only [List.set_cons_zero, List.set_cons_succ, List.getElem?_cons_zero, List.getElem?_cons_succ] at c_y_0 c_y_1 c_y_2
  have c_was_0 := H_was.cell 0; have f_was_0 := H_was.free 0; have c_was_1 := H_was.cell 1; have f_was_1 := H_was.free 1; have c_was_2 := H_was.cell 2; have f_was_2 := H_was.free 2
  simp only [List.set_cons_zero, List.set_cons_succ, List.getElem?_cons_zero, List.getElem?_cons_succ] at c_was_0 c_was_1 c_was_2
  have l_t := H_t.lt; have K_t := Lib.hid H_t; clear H_t
  have l_a := H_a.lt; have K_a := Lib.hid H_a; clear H_a
  have l_b := H_b.lt; have K_b := Lib.hid H_b; clear H_b
  have l_x := H_x.lt; have K_x := Lib.hid H_x; clear H_x
  have l_y := H_y.lt; have K_y := Lib.hid H_y; clear H_y
  have l_u := H_u.lt; have K_u := Lib.hid H_u; clear H_u
  have l_v := H_v.lt; have K_v := Lib.hid H_v; clear H_v
  have l_w2 := H_w2.lt; have K_w2 := Lib.hid H_w2; clear H_w2
  have l_z := H_z.lt; have K_z := Lib.hid H_z; clear H_z
  have l_was := H_was.lt; have K_was := Lib.hid H_was; clear H_was
  have KB := Lib.hid HB; clear HB
  go_wp2_with (first | (with_reducible refine wpList_load_table rfl _ rfl (w.heap.size) rfl 28 (t) K_t.out ?_) | (with_reducible refine wpList_load_table rfl _ rfl (w.heap.size) rfl 28 (t) (K_t.out.alloc _) ?_) | (with_reducible refine wpList_load_table rfl _ rfl (u2.heap.size) rfl 28 (u) K_u.out ?_) | (with_reducible refine wpList_load_table rfl _ rfl (u2.heap.size) rfl 28 (u) (K_u.out.alloc _) ?_) | (with_reducible refine wpList_load_table rfl _ rfl (u5.heap.size) rfl 28 (v) K_v.out ?_) | (with_reducible refine wpList_load_table rfl _ rfl (u5.heap.size) rfl 28 (v) (K_v.out.alloc _) ?_) | (with_reducible refine wpList_load_table rfl _ rfl (u8.heap.size) rfl 28 (z) K_w2.out ?_) | (with_reducible refine wpList_load_table rfl _ rfl (u8.heap.size) rfl 28 (z) (K_w2.out.alloc _) ?_) | (with_reducible refine wpList_load_table rfl _ rfl (u11.heap.size) rfl 28 (z) K_z.out ?_) | (with_reducible refine wpList_load_table rfl _ rfl (u11.heap.size) rfl 28 (z) (K_z.out.alloc _) ?_))
  refine (N7.out _).mono ?_
  rintro e16 u16 ⟨rfl, hb⟩
  have H_t : Whole u16 (w.heap.size) 28 _ := Whole.below (K_t.out.alloc _) hb (by first | omega | (simp; done) | (simp; omega) | (simp at *; omega))
  have H_a : Whole u16 (w.heap.size + 1) 44 _ := Whole.below (K_a.out.alloc _) hb (by first | omega | (simp; done) | (simp; omega) | (simp at *; omega))
  have H_b : Whole u16 (w.heap.size + 2) 44 _ := Whole.below (K_b.out.alloc _) hb (by first | omega | (simp; done) | (simp; omega) | (simp at *; omega))
  have H_x : Whole u16 (w.heap.size + 3) 24 _ := Whole.below (K_x.out.alloc _) hb (by first | omega | (simp; done) | (simp; omega) | (simp at *; omega))
  have H_y : Whole u16 (w.heap.size + 4) 24 _ := Whole.below (K_y.out.alloc _) hb (by first | omega | (simp; done) | (simp; omega) | (simp at *; omega))
  have H_u : Whole u16 (u2.heap.size) 28 _ := Whole.below (K_u.out.alloc _) hb (by first | omega | (simp; done) | (simp; omega) | (simp at *; omega))
  have H_v : Whole u16 (u5.heap.size) 28 _ := Whole.below (K_v.out.alloc _) hb (by first | omega | (simp; done) | (simp; omega) | (simp at *; omega))
  have H_w2 : Whole u16 (u8.heap.size) 28 _ := Whole.below (K_w2.out.alloc _) hb (by first | omega | (simp; done) | (simp; omega) | (simp at *; omega))
  have H_z : Whole u16 (u11.heap.size) 28 _ := Whole.below (K_z.out.alloc _) hb (by first | omega | (simp; done) | (simp; omega) | (simp at *; omega))
  have H_was : Whole u16 (u14.heap.size) 24 _ := Whole.below (K_was.out.alloc _) hb (by first | omega | (simp; done) | (simp; omega) | (simp at *; omega))
  have H_now : Whole u16 (u15.heap.size) 24 _ := Whole.below (Whole.new _ 24 _) hb (by first | omega | (simp; done) | (simp; omega) | (simp at *; omega))
  have HB := (KB.out.alloc (by first | omega | (simp; done) | (simp; omega) | (simp at *; omega)) _).trans (hb.mono (by first | omega | (simp; done) | (simp; omega) | (simp at *; omega)))
  clear c_a_0 c_a_1 f_a_0 f_a_1 c_b_0 c_b_1 f_b_0 f_b_1 c_x_0 c_x_1 c_x_2 f_x_0 f_x_1 f_x_2 c_y_0 c_y_1 c_y_2 f_y_0 f_y_1 f_y_2 c_was_0 c_was_1 c_was_2 f_was_0 f_was_1 f_was_2
  clear hb KB K_t K_a K_b K_x K_y K_u K_v K_w2 K_z K_was
  have z_u16 := HB.size
  have c_a_0 := H_a.cell 0; have f_a_0 := H_a.free 0; have c_a_1 := H_a.cell 1; have f_a_1 := H_a.free 1
  simp only [List.set_cons_zero, List.set_cons_succ, List.getElem?_cons_zero, List.getElem?_cons_succ] at c_a_0 c_a_1
  have c_b_0 := H_b.cell 0; have f_b_0 := H_b.free 0; have c_b_1 := H_b.cell 1; have f_b_1 := H_b.free 1
  simp only [List.set_cons_zero, List.set_cons_succ, List.getElem?_cons_zero, List.getElem?_cons_succ] at c_b_0 c_b_1
  have c_x_0 := H_x.cell 0; have f_x_0 := H_x.free 0; have c_x_1 := H_x.cell 1; have f_x_1 := H_x.free 1; have c_x_2 := H_x.cell 2; have f_x_2 := H_x.free 2
  simp only [List.set_cons_zero, List.set_cons_succ, List.getElem?_cons_zero, List.getElem?_cons_succ] at c_x_0 c_x_1 c_x_2
  have c_y_0 := H_y.cell 0; have f_y_0 := H_y.free 0; have c_y_1 := H_y.cell 1; have f_y_1 := H_y.free 1; have c_y_2 := H_y.cell 2; have f_y_2 := H_y.free 2
  simp only [List.set_cons_zero, List.set_cons_succ, List.getElem?_cons_zero, List.getElem?_cons_succ] at c_y_0 c_y_1 c_y_2
  have c_was_0 := H_was.cell 0; have f_was_0 := H_was.free 0; have c_was_1 := H_was.cell 1; have f_was_1 := H_was.free 1; have c_was_2 := H_was.cell 2; have f_was_2 := H_was.free 2
  simp only [List.set_cons_zero, List.set_cons_succ, List.getElem?_cons_zero, List.getElem?_cons_succ] at c_was_0 c_was_1 c_was_2
  have c_now_0 := H_now.cell 0; have f_now_0 := H_now.free 0; have c_now_1 := H_now.cell 1; have f_now_1 := H_now.free 1; have c_now_2 := H_now.cell 2; have f_now_2 := H_now.free 2
  simp only [List.set_cons_zero, List.set_cons_succ, List.getElem?_cons_zero, List.getElem?_cons_succ] at c_now_0 c_now_1 c_now_2
  have l_t := H_t.lt; have K_t := Lib.hid H_t; clear H_t
  have l_a := H_a.lt; have K_a := Lib.hid H_a; clear H_a
  have l_b := H_b.lt; have K_b := Lib.hid H_b; clear H_b
  have l_x := H_x.lt; have K_x := Lib.hid H_x; clear H_x
  have l_y := H_y.lt; have K_y := Lib.hid H_y; clear H_y
  have l_u := H_u.lt; have K_u := Lib.hid H_u; clear H_u
  have l_v := H_v.lt; have K_v := Lib.hid H_v; clear H_v
  have l_w2 := H_w2.lt; have K_w2 := Lib.hid H_w2; clear H_w2
  have l_z := H_z.lt; have K_z := Lib.hid H_z; clear H_z
  have l_was := H_was.lt; have K_was := Lib.hid H_was; clear H_was
  have l_now := H_now.lt; have K_now := Lib.hid H_now; clear H_now
  have KB := Lib.hid HB; clear HB
  go_wp2_with (first | (with_reducible refine wpList_load_table rfl _ rfl (w.heap.size) rfl 28 (t) K_t.out ?_) | (with_reducible refine wpList_load_table rfl _ rfl (w.heap.size) rfl 28 (t) (K_t.out.alloc _) ?_) | (with_reducible refine wpList_load_table rfl _ rfl (u2.heap.size) rfl 28 (u) K_u.out ?_) | (with_reducible refine wpList_load_table rfl _ rfl (u2.heap.size) rfl 28 (u) (K_u.out.alloc _) ?_) | (with_reducible refine wpList_load_table rfl _ rfl (u5.heap.size) rfl 28 (v) K_v.out ?_) | (with_reducible refine wpList_load_table rfl _ rfl (u5.heap.size) rfl 28 (v) (K_v.out.alloc _) ?_) | (with_reducible refine wpList_load_table rfl _ rfl (u8.heap.size) rfl 28 (z) K_w2.out ?_) | (with_reducible refine wpList_load_table rfl _ rfl (u8.heap.size) rfl 28 (z) (K_w2.out.alloc _) ?_) | (with_reducible refine wpList_load_table rfl _ rfl (u11.heap.size) rfl 28 (z) K_z.out ?_) | (with_reducible refine wpList_load_table rfl _ rfl (u11.heap.size) rfl 28 (z) (K_z.out.alloc _) ?_))
  go_ret
  exact ⟨by first | rfl | (simp; done), KB.out⟩

theorem apart_any (t : Tb) (a b : Int × Int) (x y : Rp) (w : World) :
    Calls Try.prog 5 #[.agg t.cells.toArray, .agg #[.int .i64 a.1, .int .i64 a.2], .agg #[.int .i64 b.1, .int .i64 b.2], .agg x.cells.toArray, .agg y.cells.toArray] w fun e w' => e = .returned (.bool true) ∧ Below w.heap.size w w' := by
  obtain ⟨ac, as_⟩ := a
  obtain ⟨bc, bs⟩ := b
  obtain ⟨xe, xf, xv⟩ := x
  obtain ⟨ye, yf, yv⟩ := y
  by_cases hx : (100 : Int) < (xv.size : Int)
  · exact apart_x t ac as_ bc bs xe xf xv ye yf yv hx w
  by_cases hy : (100 : Int) < (yv.size : Int)
  · exact apart_y t ac as_ bc bs xe xf xv ye yf yv (by omega) hy w
  by_cases hab : ac = bc
  · subst hab
    exact apart_c t ac as_ bs xe xf xv ye yf yv (by omega) (by omega) w
  have hc : (ac == bc) = false := by simpa using hab
  by_cases hn : (note t ac as_ ⟨xe, xf, xv⟩).2 = 0
  · obtain ⟨p1, p2, p3, p4⟩ := notes_ok hn
    by_cases hm : (note t bc bs ⟨ye, yf, yv⟩).2 = 0
    · obtain ⟨q1, q2, q3, q4⟩ := notes_ok hm
      obtain ⟨c1, c2, c3, c4, c5⟩ := arg_false.1 p1
      obtain ⟨d1, d2, d3, d4, _⟩ := arg_false.1 q1
      have m1 := may_put (a := ac) c5 (odd_new c3 c4 p2)
      have m2 := may_put (a := bc) c5 (odd_new d3 d4 q2)
      have m3 := may_put (a := bc) m1 (odd_new d3 d4 q2)
      have g1 : argB (t.put ac ⟨as_, ⟨xe, xf, xv⟩⟩) bc bs = false := arg_false.2 ⟨d1, d2, d3, d4, m1⟩
      have g2 : argB (t.put bc ⟨bs, ⟨ye, yf, yv⟩⟩) ac as_ = false := arg_false.2 ⟨c1, c2, c3, c4, m2⟩
      have e1 : ((t.put ac ⟨as_, ⟨xe, xf, xv⟩⟩).at_ bc).seq < bs := by rw [put_at ⟨c1, c2⟩ ⟨d1, d2⟩ hab]; exact q3
      have e2 : ((t.put bc ⟨bs, ⟨ye, yf, yv⟩⟩).at_ ac).seq < as_ := by rw [put_at ⟨d1, d2⟩ ⟨c1, c2⟩ (fun e => hab e.symm)]; exact p3
      exact apart_main t ac as_ bc bs xe xf xv ye yf yv (by omega) (by omega) hc _ _ _ p4 q4 (note_is g1 q2 e1) (by rw [note_is g2 p2 e2, put_put ⟨c1, c2⟩ ⟨d1, d2⟩ hab]) (ask_fresh q1 q3) (ask_fresh g1 e1) m3 w
    · obtain ⟨k, h2, hk, _⟩ := notes_bad hm
      exact apart_f t ac as_ bc bs xe xf xv ye yf yv (by omega) (by omega) hc _ _ _ p4 h2 hk w
  · obtain ⟨k, h1, hk, _⟩ := notes_bad hn
    generalize h2 : note t bc bs ⟨ye, yf, yv⟩ = q
    obtain ⟨v, f⟩ := q
    exact apart_e t ac as_ bc bs xe xf xv ye yf yv (by omega) (by omega) hc _ _ _ _ h1 h2 hk w

end Se
end Go.Proofs.Ythnolfgbpifcaaa
