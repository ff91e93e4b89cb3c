/- What the program (package vote) and the document (sextonref16) promise, and where they say that a slot is, function by function. -/
import Derived.Test.YtojkccdmnhppnaaDoorVotePlain
import Derived.Test.YtojkccdmnhppnaaDoorBallotLess
import Derived.RegionTactic
import Derived.BigRegion
set_option linter.unusedSimpArgs false
set_option linter.unusedVariables false
namespace Go.Proofs.YtojkccdmnhppnaaDoor
open Go.RowKit

namespace Vo
open Bl

set_option maxHeartbeats 1000000 in
theorem promise_zero (pr pp  : Int)  (w : World) :
    Calls Tryd.prog 7 #[.agg #[.int .i64 pr, .int .i64 pp], .agg #[.int .i64 0, .int .i64 0]] w fun e w' => e = .returned (.tuple #[.agg #[.int .i64 pr, .int .i64 pp], .bool false]) ∧ Below w.heap.size w w' := by
  have KB := Lib.hid (Below.refl w.heap.size w)
  go_enter Tryd.func7, Tryd.ntmps7
  go_wp2_with fail
  refine bodyPost_ret (v := .tuple #[.agg #[.int .i64 pr, .int .i64 pp], .bool false]) (by simp [results, Tryd.results7, go_sem]) rfl ⟨rfl, ?_⟩
  exact (((KB.out.alloc (by first | omega | (simp; done) | (simp; omega) | (simp at *; omega)) _).alloc (by first | omega | (simp; done) | (simp; omega) | (simp at *; omega)) _).alloc (by first | omega | (simp; done) | (simp; omega) | (simp at *; omega)) _)

set_option maxHeartbeats 1000000 in
theorem promise_b1 (pr pp br bp : Int) (h0 : ¬ br = 0) (hl : lessB ⟨br, bp⟩ ⟨pr, pp⟩ = true) (w : World) :
    Calls Tryd.prog 7 #[.agg #[.int .i64 pr, .int .i64 pp], .agg #[.int .i64 br, .int .i64 bp]] w fun e w' => e = .returned (.tuple #[.agg #[.int .i64 pr, .int .i64 pp], .bool false]) ∧ Below w.heap.size w w' := by
  have L := less_any ⟨br, bp⟩ ⟨pr, pp⟩
  rw [hl] at L
  simp only [Ba.cells] at L
  have L := Lib.hid L
  clear hl
  have KB := Lib.hid (Below.refl w.heap.size w)
  go_enter Tryd.func7, Tryd.ntmps7
  go_wp2_with fail
  refine (L.out _).mono ?_
  rintro e1 u1 ⟨rfl, hb⟩
  have H_p : Whole u1 (w.heap.size) 23 _ := Whole.below (((Whole.new _ 23 _).alloc _).alloc _) hb (by first | omega | (simp; done) | (simp; omega) | (simp at *; omega))
  have H_b : Whole u1 (w.heap.size + 1) 23 _ := Whole.below ((wh_at w 1 _ 23 _ (by simp)).alloc _) hb (by first | omega | (simp; done) | (simp; omega) | (simp at *; omega))
  have H_res : Whole u1 (w.heap.size + 2) 23 _ := Whole.below (wh_at w 2 _ 23 _ (by simp)) hb (by first | omega | (simp; done) | (simp; omega) | (simp at *; omega))
  have HB := (((KB.out.alloc (by first | omega | (simp; done) | (simp; omega) | (simp at *; omega)) _).alloc (by first | omega | (simp; done) | (simp; omega) | (simp at *; omega)) _).alloc (by first | omega | (simp; done) | (simp; omega) | (simp at *; omega)) _).trans (hb.mono (by first | omega | (simp; done) | (simp; omega) | (simp at *; omega)))
  clear hb KB
  have z_u1 := HB.size
  have c_p_0 := H_p.cell 0; have f_p_0 := H_p.free 0; have c_p_1 := H_p.cell 1; have f_p_1 := H_p.free 1
  simp only [List.set_cons_zero, List.set_cons_succ, List.getElem?_cons_zero, List.getElem?_cons_succ] at c_p_0 c_p_1
  have c_b_0 := H_b.cell 0; have f_b_0 := H_b.free 0; have c_b_1 := H_b.cell 1; have f_b_1 := H_b.free 1
  simp only [List.set_cons_zero, List.set_cons_succ, List.getElem?_cons_zero, List.getElem?_cons_succ] at c_b_0 c_b_1
  have c_res_0 := H_res.cell 0; have f_res_0 := H_res.free 0; have c_res_1 := H_res.cell 1; have f_res_1 := H_res.free 1
  simp only [List.set_cons_zero, List.set_cons_succ, List.getElem?_cons_zero, List.getElem?_cons_succ] at c_res_0 c_res_1
  have l_p := H_p.lt; have K_p := Lib.hid H_p; clear H_p
  have l_b := H_b.lt; have K_b := Lib.hid H_b; clear H_b
  have l_res := H_res.lt; have K_res := Lib.hid H_res; clear H_res
  have KB := Lib.hid HB; clear HB
  go_wp2_with fail
  refine bodyPost_ret (v := .tuple #[.agg #[.int .i64 pr, .int .i64 pp], .bool false]) (by simp [results, Tryd.results7, go_sem, c_p_0, c_p_1, f_p_0, f_p_1, c_b_0, c_b_1, f_b_0, f_b_1, c_res_0, c_res_1, f_res_0, f_res_1]) rfl ⟨rfl, ?_⟩
  exact ((KB.out.setCell (p := ⟨w.heap.size + 2, 0, none⟩) (by first | omega | (simp; done) | (simp; omega) | (simp at *; omega)) _).setCell (p := ⟨w.heap.size + 2, 1, none⟩) (by first | omega | (simp; done) | (simp; omega) | (simp at *; omega)) _)

set_option maxHeartbeats 1000000 in
theorem promise_b2 (pr pp bp : Int) (h0 : ¬ bp = 0) (hl : lessB ⟨0, bp⟩ ⟨pr, pp⟩ = true) (w : World) :
    Calls Tryd.prog 7 #[.agg #[.int .i64 pr, .int .i64 pp], .agg #[.int .i64 0, .int .i64 bp]] w fun e w' => e = .returned (.tuple #[.agg #[.int .i64 pr, .int .i64 pp], .bool false]) ∧ Below w.heap.size w w' := by
  have L := less_any ⟨0, bp⟩ ⟨pr, pp⟩
  rw [hl] at L
  simp only [Ba.cells] at L
  have L := Lib.hid L
  clear hl
  have KB := Lib.hid (Below.refl w.heap.size w)
  go_enter Tryd.func7, Tryd.ntmps7
  go_wp2_with fail
  refine (L.out _).mono ?_
  rintro e1 u1 ⟨rfl, hb⟩
  have H_p : Whole u1 (w.heap.size) 23 _ := Whole.below (((Whole.new _ 23 _).alloc _).alloc _) hb (by first | omega | (simp; done) | (simp; omega) | (simp at *; omega))
  have H_b : Whole u1 (w.heap.size + 1) 23 _ := Whole.below ((wh_at w 1 _ 23 _ (by simp)).alloc _) hb (by first | omega | (simp; done) | (simp; omega) | (simp at *; omega))
  have H_res : Whole u1 (w.heap.size + 2) 23 _ := Whole.below (wh_at w 2 _ 23 _ (by simp)) hb (by first | omega | (simp; done) | (simp; omega) | (simp at *; omega))
  have HB := (((KB.out.alloc (by first | omega | (simp; done) | (simp; omega) | (simp at *; omega)) _).alloc (by first | omega | (simp; done) | (simp; omega) | (simp at *; omega)) _).alloc (by first | omega | (simp; done) | (simp; omega) | (simp at *; omega)) _).trans (hb.mono (by first | omega | (simp; done) | (simp; omega) | (simp at *; omega)))
  clear hb KB
  have z_u1 := HB.size
  have c_p_0 := H_p.cell 0; have f_p_0 := H_p.free 0; have c_p_1 := H_p.cell 1; have f_p_1 := H_p.free 1
  simp only [List.set_cons_zero, List.set_cons_succ, List.getElem?_cons_zero, List.getElem?_cons_succ] at c_p_0 c_p_1
  have c_b_0 := H_b.cell 0; have f_b_0 := H_b.free 0; have c_b_1 := H_b.cell 1; have f_b_1 := H_b.free 1
  simp only [List.set_cons_zero, List.set_cons_succ, List.getElem?_cons_zero, List.getElem?_cons_succ] at c_b_0 c_b_1
  have c_res_0 := H_res.cell 0; have f_res_0 := H_res.free 0; have c_res_1 := H_res.cell 1; have f_res_1 := H_res.free 1
  simp only [List.set_cons_zero, List.set_cons_succ, List.getElem?_cons_zero, List.getElem?_cons_succ] at c_res_0 c_res_1
  have l_p := H_p.lt; have K_p := Lib.hid H_p; clear H_p
  have l_b := H_b.lt; have K_b := Lib.hid H_b; clear H_b
  have l_res := H_res.lt; have K_res := Lib.hid H_res; clear H_res
  have KB := Lib.hid HB; clear HB
  go_wp2_with fail
  refine bodyPost_ret (v := .tuple #[.agg #[.int .i64 pr, .int .i64 pp], .bool false]) (by simp [results, Tryd.results7, go_sem, c_p_0, c_p_1, f_p_0, f_p_1, c_b_0, c_b_1, f_b_0, f_b_1, c_res_0, c_res_1, f_res_0, f_res_1]) rfl ⟨rfl, ?_⟩
  exact ((KB.out.setCell (p := ⟨w.heap.size + 2, 0, none⟩) (by first | omega | (simp; done) | (simp; omega) | (simp at *; omega)) _).setCell (p := ⟨w.heap.size + 2, 1, none⟩) (by first | omega | (simp; done) | (simp; omega) | (simp at *; omega)) _)

set_option maxHeartbeats 1000000 in
theorem promise_c1 (pr pp br bp : Int) (h0 : ¬ br = 0) (hl : lessB ⟨br, bp⟩ ⟨pr, pp⟩ = false) (w : World) :
    Calls Tryd.prog 7 #[.agg #[.int .i64 pr, .int .i64 pp], .agg #[.int .i64 br, .int .i64 bp]] w fun e w' => e = .returned (.tuple #[.agg #[.int .i64 br, .int .i64 bp], .bool true]) ∧ Below w.heap.size w w' := by
  have L := less_any ⟨br, bp⟩ ⟨pr, pp⟩
  rw [hl] at L
  simp only [Ba.cells] at L
  have L := Lib.hid L
  clear hl
  have KB := Lib.hid (Below.refl w.heap.size w)
  go_enter Tryd.func7, Tryd.ntmps7
  go_wp2_with fail
  refine (L.out _).mono ?_
  rintro e1 u1 ⟨rfl, hb⟩
  have H_p : Whole u1 (w.heap.size) 23 _ := Whole.below (((Whole.new _ 23 _).alloc _).alloc _) hb (by first | omega | (simp; done) | (simp; omega) | (simp at *; omega))
  have H_b : Whole u1 (w.heap.size + 1) 23 _ := Whole.below ((wh_at w 1 _ 23 _ (by simp)).alloc _) hb (by first | omega | (simp; done) | (simp; omega) | (simp at *; omega))
  have H_res : Whole u1 (w.heap.size + 2) 23 _ := Whole.below (wh_at w 2 _ 23 _ (by simp)) hb (by first | omega | (simp; done) | (simp; omega) | (simp at *; omega))
  have HB := (((KB.out.alloc (by first | omega | (simp; done) | (simp; omega) | (simp at *; omega)) _).alloc (by first | omega | (simp; done) | (simp; omega) | (simp at *; omega)) _).alloc (by first | omega | (simp; done) | (simp; omega) | (simp at *; omega)) _).trans (hb.mono (by first | omega | (simp; done) | (simp; omega) | (simp at *; omega)))
  clear hb KB
  have z_u1 := HB.size
  have c_p_0 := H_p.cell 0; have f_p_0 := H_p.free 0; have c_p_1 := H_p.cell 1; have f_p_1 := H_p.free 1
  simp only [List.set_cons_zero, List.set_cons_succ, List.getElem?_cons_zero, List.getElem?_cons_succ] at c_p_0 c_p_1
  have c_b_0 := H_b.cell 0; have f_b_0 := H_b.free 0; have c_b_1 := H_b.cell 1; have f_b_1 := H_b.free 1
  simp only [List.set_cons_zero, List.set_cons_succ, List.getElem?_cons_zero, List.getElem?_cons_succ] at c_b_0 c_b_1
  have c_res_0 := H_res.cell 0; have f_res_0 := H_res.free 0; have c_res_1 := H_res.cell 1; have f_res_1 := H_res.free 1
  simp only [List.set_cons_zero, List.set_cons_succ, List.getElem?_cons_zero, List.getElem?_cons_succ] at c_res_0 c_res_1
  have l_p := H_p.lt; have K_p := Lib.hid H_p; clear H_p
  have l_b := H_b.lt; have K_b := Lib.hid H_b; clear H_b
  have l_res := H_res.lt; have K_res := Lib.hid H_res; clear H_res
  have KB := Lib.hid HB; clear HB
  go_wp2_with fail
  refine bodyPost_ret (v := .tuple #[.agg #[.int .i64 br, .int .i64 bp], .bool true]) (by simp [results, Tryd.results7, go_sem, c_p_0, c_p_1, f_p_0, f_p_1, c_b_0, c_b_1, f_b_0, f_b_1, c_res_0, c_res_1, f_res_0, f_res_1]) rfl ⟨rfl, ?_⟩
  exact ((KB.out.setCell (p := ⟨w.heap.size + 2, 0, none⟩) (by first | omega | (simp; done) | (simp; omega) | (simp at *; omega)) _).setCell (p := ⟨w.heap.size + 2, 1, none⟩) (by first | omega | (simp; done) | (simp; omega) | (simp at *; omega)) _)

set_option maxHeartbeats 1000000 in
theorem promise_c2 (pr pp bp : Int) (h0 : ¬ bp = 0) (hl : lessB ⟨0, bp⟩ ⟨pr, pp⟩ = false) (w : World) :
    Calls Tryd.prog 7 #[.agg #[.int .i64 pr, .int .i64 pp], .agg #[.int .i64 0, .int .i64 bp]] w fun e w' => e = .returned (.tuple #[.agg #[.int .i64 0, .int .i64 bp], .bool true]) ∧ Below w.heap.size w w' := by
  have L := less_any ⟨0, bp⟩ ⟨pr, pp⟩
  rw [hl] at L
  simp only [Ba.cells] at L
  have L := Lib.hid L
  clear hl
  have KB := Lib.hid (Below.refl w.heap.size w)
  go_enter Tryd.func7, Tryd.ntmps7
  go_wp2_with fail
  refine (L.out _).mono ?_
  rintro e1 u1 ⟨rfl, hb⟩
  have H_p : Whole u1 (w.heap.size) 23 _ := Whole.below (((Whole.new _ 23 _).alloc _).alloc _) hb (by first | omega | (simp; done) | (simp; omega) | (simp at *; omega))
  have H_b : Whole u1 (w.heap.size + 1) 23 _ := Whole.below ((wh_at w 1 _ 23 _ (by simp)).alloc _) hb (by first | omega | (simp; done) | (simp; omega) | (simp at *; omega))
  have H_res : Whole u1 (w.heap.size + 2) 23 _ := Whole.below (wh_at w 2 _ 23 _ (by simp)) hb (by first | omega | (simp; done) | (simp; omega) | (simp at *; omega))
  have HB := (((KB.out.alloc (by first | omega | (simp; done) | (simp; omega) | (simp at *; omega)) _).alloc (by first | omega | (simp; done) | (simp; omega) | (simp at *; omega)) _).alloc (by first | omega | (simp; done) | (simp; omega) | (simp at *; omega)) _).trans (hb.mono (by first | omega | (simp; done) | (simp; omega) | (simp at *; omega)))
  clear hb KB
  have z_u1 := HB.size
  have c_p_0 := H_p.cell 0; have f_p_0 := H_p.free 0; have c_p_1 := H_p.cell 1; have f_p_1 := H_p.free 1
  simp only [List.set_cons_zero, List.set_cons_succ, List.getElem?_cons_zero, List.getElem?_cons_succ] at c_p_0 c_p_1
  have c_b_0 := H_b.cell 0; have f_b_0 := H_b.free 0; have c_b_1 := H_b.cell 1; have f_b_1 := H_b.free 1
  simp only [List.set_cons_zero, List.set_cons_succ, List.getElem?_cons_zero, List.getElem?_cons_succ] at c_b_0 c_b_1
  have c_res_0 := H_res.cell 0; have f_res_0 := H_res.free 0; have c_res_1 := H_res.cell 1; have f_res_1 := H_res.free 1
  simp only [List.set_cons_zero, List.set_cons_succ, List.getElem?_cons_zero, List.getElem?_cons_succ] at c_res_0 c_res_1
  have l_p := H_p.lt; have K_p := Lib.hid H_p; clear H_p
  have l_b := H_b.lt; have K_b := Lib.hid H_b; clear H_b
  have l_res := H_res.lt; have K_res := Lib.hid H_res; clear H_res
  have KB := Lib.hid HB; clear HB
  go_wp2_with fail
  refine bodyPost_ret (v := .tuple #[.agg #[.int .i64 0, .int .i64 bp], .bool true]) (by simp [results, Tryd.results7, go_sem, c_p_0, c_p_1, f_p_0, f_p_1, c_b_0, c_b_1, f_b_0, f_b_1, c_res_0, c_res_1, f_res_0, f_res_1]) rfl ⟨rfl, ?_⟩
  exact ((KB.out.setCell (p := ⟨w.heap.size + 2, 0, none⟩) (by first | omega | (simp; done) | (simp; omega) | (simp at *; omega)) _).setCell (p := ⟨w.heap.size + 2, 1, none⟩) (by first | omega | (simp; done) | (simp; omega) | (simp at *; omega)) _)

theorem promise_any (p b : Ba) (w : World) :
    Calls Tryd.prog 7 #[.agg p.cells.toArray, .agg b.cells.toArray] w fun e w' => e = .returned (.tuple #[.agg (promise p b).1.cells.toArray, .bool (promise p b).2]) ∧ Below w.heap.size w w' := by
  obtain ⟨pr, pp⟩ := p
  rcases promise_cases ⟨pr, pp⟩ b with ⟨rfl, h⟩ | ⟨hn, hl, h⟩ | ⟨hn, hl, h⟩
  · rw [h]; exact promise_zero pr pp w
  · rw [h]
    obtain ⟨br, bp⟩ := b
    by_cases h0 : br = 0
    · subst h0
      exact promise_b2 pr pp bp (fun e => hn (by rw [e]; rfl)) hl w
    · exact promise_b1 pr pp br bp h0 hl w
  · rw [h]
    obtain ⟨br, bp⟩ := b
    by_cases h0 : br = 0
    · subst h0
      exact promise_c2 pr pp bp (fun e => hn (by rw [e]; rfl)) hl w
    · exact promise_c1 pr pp br bp h0 hl w

set_option maxHeartbeats 1000000 in
theorem rpromise_zero (pr pp  : Int)  (w : World) :
    Calls Tryd.prog 8 #[.agg #[.int .i64 pr, .int .i64 pp], .agg #[.int .i64 0, .int .i64 0]] w fun e w' => e = .returned (.tuple #[.agg #[.int .i64 pr, .int .i64 pp], .bool false]) ∧ Below w.heap.size w w' := by
  have KB := Lib.hid (Below.refl w.heap.size w)
  go_enter Tryd.func8, Tryd.ntmps8
  go_wp2_with fail
  refine bodyPost_ret (v := .tuple #[.agg #[.int .i64 pr, .int .i64 pp], .bool false]) (by simp [results, Tryd.results8, go_sem]) rfl ⟨rfl, ?_⟩
  exact (((KB.out.alloc (by first | omega | (simp; done) | (simp; omega) | (simp at *; omega)) _).alloc (by first | omega | (simp; done) | (simp; omega) | (simp at *; omega)) _).alloc (by first | omega | (simp; done) | (simp; omega) | (simp at *; omega)) _)

set_option maxHeartbeats 1000000 in
theorem rpromise_b1 (pr pp br bp : Int) (h0 : ¬ br = 0) (hl : lessB ⟨br, bp⟩ ⟨pr, pp⟩ = true) (w : World) :
    Calls Tryd.prog 8 #[.agg #[.int .i64 pr, .int .i64 pp], .agg #[.int .i64 br, .int .i64 bp]] w fun e w' => e = .returned (.tuple #[.agg #[.int .i64 pr, .int .i64 pp], .bool false]) ∧ Below w.heap.size w w' := by
  have L := rless_any ⟨br, bp⟩ ⟨pr, pp⟩
  rw [hl] at L
  simp only [Ba.cells] at L
  have L := Lib.hid L
  clear hl
  have KB := Lib.hid (Below.refl w.heap.size w)
  go_enter Tryd.func8, Tryd.ntmps8
  go_wp2_with fail
  refine (L.out _).mono ?_
  rintro e1 u1 ⟨rfl, hb⟩
  have H_p : Whole u1 (w.heap.size) 23 _ := Whole.below (((Whole.new _ 23 _).alloc _).alloc _) hb (by first | omega | (simp; done) | (simp; omega) | (simp at *; omega))
  have H_b : Whole u1 (w.heap.size + 1) 23 _ := Whole.below ((wh_at w 1 _ 23 _ (by simp)).alloc _) hb (by first | omega | (simp; done) | (simp; omega) | (simp at *; omega))
  have H_res : Whole u1 (w.heap.size + 2) 23 _ := Whole.below (wh_at w 2 _ 23 _ (by simp)) hb (by first | omega | (simp; done) | (simp; omega) | (simp at *; omega))
  have HB := (((KB.out.alloc (by first | omega | (simp; done) | (simp; omega) | (simp at *; omega)) _).alloc (by first | omega | (simp; done) | (simp; omega) | (simp at *; omega)) _).alloc (by first | omega | (simp; done) | (simp; omega) | (simp at *; omega)) _).trans (hb.mono (by first | omega | (simp; done) | (simp; omega) | (simp at *; omega)))
  clear hb KB
  have z_u1 := HB.size
  have c_p_0 := H_p.cell 0; have f_p_0 := H_p.free 0; have c_p_1 := H_p.cell 1; have f_p_1 := H_p.free 1
  simp only [List.set_cons_zero, List.set_cons_succ, List.getElem?_cons_zero, List.getElem?_cons_succ] at c_p_0 c_p_1
  have c_b_0 := H_b.cell 0; have f_b_0 := H_b.free 0; have c_b_1 := H_b.cell 1; have f_b_1 := H_b.free 1
  simp only [List.set_cons_zero, List.set_cons_succ, List.getElem?_cons_zero, List.getElem?_cons_succ] at c_b_0 c_b_1
  have c_res_0 := H_res.cell 0; have f_res_0 := H_res.free 0; have c_res_1 := H_res.cell 1; have f_res_1 := H_res.free 1
  simp only [List.set_cons_zero, List.set_cons_succ, List.getElem?_cons_zero, List.getElem?_cons_succ] at c_res_0 c_res_1
  have l_p := H_p.lt; have K_p := Lib.hid H_p; clear H_p
  have l_b := H_b.lt; have K_b := Lib.hid H_b; clear H_b
  have l_res := H_res.lt; have K_res := Lib.hid H_res; clear H_res
  have KB := Lib.hid HB; clear HB
  go_wp2_with fail
  refine bodyPost_ret (v := .tuple #[.agg #[.int .i64 pr, .int .i64 pp], .bool false]) (by simp [results, Tryd.results8, go_sem, c_p_0, c_p_1, f_p_0, f_p_1, c_b_0, c_b_1, f_b_0, f_b_1, c_res_0, c_res_1, f_res_0, f_res_1]) rfl ⟨rfl, ?_⟩
  exact ((KB.out.setCell (p := ⟨w.heap.size + 2, 0, none⟩) (by first | omega | (simp; done) | (simp; omega) | (simp at *; omega)) _).setCell (p := ⟨w.heap.size + 2, 1, none⟩) (by first | omega | (simp; done) | (simp; omega) | (simp at *; omega)) _)

set_option maxHeartbeats 1000000 in
theorem rpromise_b2 (pr pp bp : Int) (h0 : ¬ bp = 0) (hl : lessB ⟨0, bp⟩ ⟨pr, pp⟩ = true) (w : World) :
    Calls Tryd.prog 8 #[.agg #[.int .i64 pr, .int .i64 pp], .agg #[.int .i64 0, .int .i64 bp]] w fun e w' => e = .returned (.tuple #[.agg #[.int .i64 pr, .int .i64 pp], .bool false]) ∧ Below w.heap.size w w' := by
  have L := rless_any ⟨0, bp⟩ ⟨pr, pp⟩
  rw [hl] at L
  simp only [Ba.cells] at L
  have L := Lib.hid L
  clear hl
  have KB := Lib.hid (Below.refl w.heap.size w)
  go_enter Tryd.func8, Tryd.ntmps8
  go_wp2_with fail
  refine (L.out _).mono ?_
  rintro e1 u1 ⟨rfl, hb⟩
  have H_p : Whole u1 (w.heap.size) 23 _ := Whole.below (((Whole.new _ 23 _).alloc _).alloc _) hb (by first | omega | (simp; done) | (simp; omega) | (simp at *; omega))
  have H_b : Whole u1 (w.heap.size + 1) 23 _ := Whole.below ((wh_at w 1 _ 23 _ (by simp)).alloc _) hb (by first | omega | (simp; done) | (simp; omega) | (simp at *; omega))
  have H_res : Whole u1 (w.heap.size + 2) 23 _ := Whole.below (wh_at w 2 _ 23 _ (by simp)) hb (by first | omega | (simp; done) | (simp; omega) | (simp at *; omega))
  have HB := (((KB.out.alloc (by first | omega | (simp; done) | (simp; omega) | (simp at *; omega)) _).alloc (by first | omega | (simp; done) | (simp; omega) | (simp at *; omega)) _).alloc (by first | omega | (simp; done) | (simp; omega) | (simp at *; omega)) _).trans (hb.mono (by first | omega | (simp; done) | (simp; omega) | (simp at *; omega)))
  clear hb KB
  have z_u1 := HB.size
  have c_p_0 := H_p.cell 0; have f_p_0 := H_p.free 0; have c_p_1 := H_p.cell 1; have f_p_1 := H_p.free 1
  simp only [List.set_cons_zero, List.set_cons_succ, List.getElem?_cons_zero, List.getElem?_cons_succ] at c_p_0 c_p_1
  have c_b_0 := H_b.cell 0; have f_b_0 := H_b.free 0; have c_b_1 := H_b.cell 1; have f_b_1 := H_b.free 1
  simp only [List.set_cons_zero, List.set_cons_succ, List.getElem?_cons_zero, List.getElem?_cons_succ] at c_b_0 c_b_1
  have c_res_0 := H_res.cell 0; have f_res_0 := H_res.free 0; have c_res_1 := H_res.cell 1; have f_res_1 := H_res.free 1
  simp only [List.set_cons_zero, List.set_cons_succ, List.getElem?_cons_zero, List.getElem?_cons_succ] at c_res_0 c_res_1
  have l_p := H_p.lt; have K_p := Lib.hid H_p; clear H_p
  have l_b := H_b.lt; have K_b := Lib.hid H_b; clear H_b
  have l_res := H_res.lt; have K_res := Lib.hid H_res; clear H_res
  have KB := Lib.hid HB; clear HB
  go_wp2_with fail
  refine bodyPost_ret (v := .tuple #[.agg #[.int .i64 pr, .int .i64 pp], .bool false]) (by simp [results, Tryd.results8, go_sem, c_p_0, c_p_1, f_p_0, f_p_1, c_b_0, c_b_1, f_b_0, f_b_1, c_res_0, c_res_1, f_res_0, f_res_1]) rfl ⟨rfl, ?_⟩
  exact ((KB.out.setCell (p := ⟨w.heap.size + 2, 0, none⟩) (by first | omega | (simp; done) | (simp; omega) | (simp at *; omega)) _).setCell (p := ⟨w.heap.size + 2, 1, none⟩) (by first | omega | (simp; done) | (simp; omega) | (simp at *; omega)) _)

set_option maxHeartbeats 1000000 in
theorem rpromise_c1 (pr pp br bp : Int) (h0 : ¬ br = 0) (hl : lessB ⟨br, bp⟩ ⟨pr, pp⟩ = false) (w : World) :
    Calls Tryd.prog 8 #[.agg #[.int .i64 pr, .int .i64 pp], .agg #[.int .i64 br, .int .i64 bp]] w fun e w' => e = .returned (.tuple #[.agg #[.int .i64 br, .int .i64 bp], .bool true]) ∧ Below w.heap.size w w' := by
  have L := rless_any ⟨br, bp⟩ ⟨pr, pp⟩
  rw [hl] at L
  simp only [Ba.cells] at L
  have L := Lib.hid L
  clear hl
  have KB := Lib.hid (Below.refl w.heap.size w)
  go_enter Tryd.func8, Tryd.ntmps8
  go_wp2_with fail
  refine (L.out _).mono ?_
  rintro e1 u1 ⟨rfl, hb⟩
  have H_p : Whole u1 (w.heap.size) 23 _ := Whole.below (((Whole.new _ 23 _).alloc _).alloc _) hb (by first | omega | (simp; done) | (simp; omega) | (simp at *; omega))
  have H_b : Whole u1 (w.heap.size + 1) 23 _ := Whole.below ((wh_at w 1 _ 23 _ (by simp)).alloc _) hb (by first | omega | (simp; done) | (simp; omega) | (simp at *; omega))
  have H_res : Whole u1 (w.heap.size + 2) 23 _ := Whole.below (wh_at w 2 _ 23 _ (by simp)) hb (by first | omega | (simp; done) | (simp; omega) | (simp at *; omega))
  have HB := (((KB.out.alloc (by first | omega | (simp; done) | (simp; omega) | (simp at *; omega)) _).alloc (by first | omega | (simp; done) | (simp; omega) | (simp at *; omega)) _).alloc (by first | omega | (simp; done) | (simp; omega) | (simp at *; omega)) _).trans (hb.mono (by first | omega | (simp; done) | (simp; omega) | (simp at *; omega)))
  clear hb KB
  have z_u1 := HB.size
  have c_p_0 := H_p.cell 0; have f_p_0 := H_p.free 0; have c_p_1 := H_p.cell 1; have f_p_1 := H_p.free 1
  simp only [List.set_cons_zero, List.set_cons_succ, List.getElem?_cons_zero, List.getElem?_cons_succ] at c_p_0 c_p_1
  have c_b_0 := H_b.cell 0; have f_b_0 := H_b.free 0; have c_b_1 := H_b.cell 1; have f_b_1 := H_b.free 1
  simp only [List.set_cons_zero, List.set_cons_succ, List.getElem?_cons_zero, List.getElem?_cons_succ] at c_b_0 c_b_1
  have c_res_0 := H_res.cell 0; have f_res_0 := H_res.free 0; have c_res_1 := H_res.cell 1; have f_res_1 := H_res.free 1
  simp only [List.set_cons_zero, List.set_cons_succ, List.getElem?_cons_zero, List.getElem?_cons_succ] at c_res_0 c_res_1
  have l_p := H_p.lt; have K_p := Lib.hid H_p; clear H_p
  have l_b := H_b.lt; have K_b := Lib.hid H_b; clear H_b
  have l_res := H_res.lt; have K_res := Lib.hid H_res; clear H_res
  have KB := Lib.hid HB; clear HB
  go_wp2_with fail
  refine bodyPost_ret (v := .tuple #[.agg #[.int .i64 br, .int .i64 bp], .bool true]) (by simp [results, Tryd.results8, go_sem, c_p_0, c_p_1, f_p_0, f_p_1, c_b_0, c_b_1, f_b_0, f_b_1, c_res_0, c_res_1, f_res_0, f_res_1]) rfl ⟨rfl, ?_⟩
  exact ((KB.out.setCell (p := ⟨w.heap.size + 2, 0, none⟩) (by first | omega | (simp; done) | (simp; omega) | (simp at *; omega)) _).setCell (p := ⟨w.heap.size + 2, 1, none⟩) (by first | omega | (simp; done) | (simp; omega) | (simp at *; omega)) _)

set_option maxHeartbeats 1000000 in
theorem rpromise_c2 (pr pp bp : Int) (h0 : ¬ bp = 0) (hl : lessB ⟨0, bp⟩ ⟨pr, pp⟩ = false) (w : World) :
    Calls Tryd.prog 8 #[.agg #[.int .i64 pr, .int .i64 pp], .agg #[.int .i64 0, .int .i64 bp]] w fun e w' => e = .returned (.tuple #[.agg #[.int .i64 0, .int .i64 bp], .bool true]) ∧ Below w.heap.size w w' := by
  have L := rless_any ⟨0, bp⟩ ⟨pr, pp⟩
  rw [hl] at L
  simp only [Ba.cells] at L
  have L := Lib.hid L
  clear hl
  have KB := Lib.hid (Below.refl w.heap.size w)
  go_enter Tryd.func8, Tryd.ntmps8
  go_wp2_with fail
  refine (L.out _).mono ?_
  rintro e1 u1 ⟨rfl, hb⟩
  have H_p : Whole u1 (w.heap.size) 23 _ := Whole.below (((Whole.new _ 23 _).alloc _).alloc _) hb (by first | omega | (simp; done) | (simp; omega) | (simp at *; omega))
  have H_b : Whole u1 (w.heap.size + 1) 23 _ := Whole.below ((wh_at w 1 _ 23 _ (by simp)).alloc _) hb (by first | omega | (simp; done) | (simp; omega) | (simp at *; omega))
  have H_res : Whole u1 (w.heap.size + 2) 23 _ := Whole.below (wh_at w 2 _ 23 _ (by simp)) hb (by first | omega | (simp; done) | (simp; omega) | (simp at *; omega))
  have HB := (((KB.out.alloc (by first | omega | (simp; done) | (simp; omega) | (simp at *; omega)) _).alloc (by first | omega | (simp; done) | (simp; omega) | (simp at *; omega)) _).alloc (by first | omega | (simp; done) | (simp; omega) | (simp at *; omega)) _).trans (hb.mono (by first | omega | (simp; done) | (simp; omega) | (simp at *; omega)))
  clear hb KB
  have z_u1 := HB.size
  have c_p_0 := H_p.cell 0; have f_p_0 := H_p.free 0; have c_p_1 := H_p.cell 1; have f_p_1 := H_p.free 1
  simp only [List.set_cons_zero, List.set_cons_succ, List.getElem?_cons_zero, List.getElem?_cons_succ] at c_p_0 c_p_1
  have c_b_0 := H_b.cell 0; have f_b_0 := H_b.free 0; have c_b_1 := H_b.cell 1; have f_b_1 := H_b.free 1
  simp only [List.set_cons_zero, List.set_cons_succ, List.getElem?_cons_zero, List.getElem?_cons_succ] at c_b_0 c_b_1
  have c_res_0 := H_res.cell 0; have f_res_0 := H_res.free 0; have c_res_1 := H_res.cell 1; have f_res_1 := H_res.free 1
  simp only [List.set_cons_zero, List.set_cons_succ, List.getElem?_cons_zero, List.getElem?_cons_succ] at c_res_0 c_res_1
  have l_p := H_p.lt; have K_p := Lib.hid H_p; clear H_p
  have l_b := H_b.lt; have K_b := Lib.hid H_b; clear H_b
  have l_res := H_res.lt; have K_res := Lib.hid H_res; clear H_res
  have KB := Lib.hid HB; clear HB
  go_wp2_with fail
  refine bodyPost_ret (v := .tuple #[.agg #[.int .i64 0, .int .i64 bp], .bool true]) (by simp [results, Tryd.results8, go_sem, c_p_0, c_p_1, f_p_0, f_p_1, c_b_0, c_b_1, f_b_0, f_b_1, c_res_0, c_res_1, f_res_0, f_res_1]) rfl ⟨rfl, ?_⟩
  exact ((KB.out.setCell (p := ⟨w.heap.size + 2, 0, none⟩) (by first | omega | (simp; done) | (simp; omega) | (simp at *; omega)) _).setCell (p := ⟨w.heap.size + 2, 1, none⟩) (by first | omega | (simp; done) | (simp; omega) | (simp at *; omega)) _)

theorem rpromise_any (p b : Ba) (w : World) :
    Calls Tryd.prog 8 #[.agg p.cells.toArray, .agg b.cells.toArray] w fun e w' => e = .returned (.tuple #[.agg (promise p b).1.cells.toArray, .bool (promise p b).2]) ∧ Below w.heap.size w w' := by
  obtain ⟨pr, pp⟩ := p
  rcases promise_cases ⟨pr, pp⟩ b with ⟨rfl, h⟩ | ⟨hn, hl, h⟩ | ⟨hn, hl, h⟩
  · rw [h]; exact rpromise_zero pr pp w
  · rw [h]
    obtain ⟨br, bp⟩ := b
    by_cases h0 : br = 0
    · subst h0
      exact rpromise_b2 pr pp bp (fun e => hn (by rw [e]; rfl)) hl w
    · exact rpromise_b1 pr pp br bp h0 hl w
  · rw [h]
    obtain ⟨br, bp⟩ := b
    by_cases h0 : br = 0
    · subst h0
      exact rpromise_c2 pr pp bp (fun e => hn (by rw [e]; rfl)) hl w
    · exact rpromise_c1 pr pp br bp h0 hl w

set_option maxHeartbeats 1000000 in
theorem where_any (s i : Int) (w : World) :
    Calls Tryd.prog 9 #[.int .i64 s, .int .i64 i] w fun e w' => e = .returned (.tuple #[.int .u8 (whereZ s i).1, .int .i64 (whereZ s i).2]) ∧ w = w' := by
  rcases where_cases s i with ⟨hb, h⟩ | ⟨hb, h1, h⟩ | ⟨hb, h1, h2, h⟩ | ⟨hb, h1, h2, h⟩
  · rw [h]
    unfold badW at hb
    clear h
    by_cases a : s < 0
    · go_enter Tryd.func9, Tryd.ntmps9
      go_wp2
      go_ret2
      exact ⟨rfl, rfl⟩
    by_cases b : 1099511627776 < s
    · go_enter Tryd.func9, Tryd.ntmps9
      go_wp2
      go_ret2
      exact ⟨rfl, rfl⟩
    by_cases c : i < 1
    · go_enter Tryd.func9, Tryd.ntmps9
      go_wp2
      go_ret2
      exact ⟨rfl, rfl⟩
    by_cases d : 1099511627776 < i
    · go_enter Tryd.func9, Tryd.ntmps9
      go_wp2
      go_ret2
      exact ⟨rfl, rfl⟩
    · rw [decide_eq_false a, decide_eq_false b, decide_eq_false c, decide_eq_false d] at hb; cases hb
  all_goals
    rw [h]
    obtain ⟨a, b, c, d⟩ := badW_false.1 hb
    clear hb h
    go_enter Tryd.func9, Tryd.ntmps9
    go_wp2
    go_ret2
    exact ⟨rfl, rfl⟩

set_option maxHeartbeats 1000000 in
theorem rwhere_any (s i : Int) (w : World) :
    Calls Tryd.prog 10 #[.int .i64 s, .int .i64 i] w fun e w' => e = .returned (.tuple #[.int .i64 (whereZ s i).1, .int .i64 (whereZ s i).2]) ∧ w = w' := by
  rcases where_cases s i with ⟨hb, h⟩ | ⟨hb, h1, h⟩ | ⟨hb, h1, h2, h⟩ | ⟨hb, h1, h2, h⟩
  · rw [h]
    unfold badW at hb
    clear h
    by_cases a : s < 0
    · go_enter Tryd.func10, Tryd.ntmps10
      go_wp2
      go_ret2
      exact ⟨rfl, rfl⟩
    by_cases b : 1099511627776 < s
    · go_enter Tryd.func10, Tryd.ntmps10
      go_wp2
      go_ret2
      exact ⟨rfl, rfl⟩
    by_cases c : i < 1
    · go_enter Tryd.func10, Tryd.ntmps10
      go_wp2
      go_ret2
      exact ⟨rfl, rfl⟩
    by_cases d : 1099511627776 < i
    · go_enter Tryd.func10, Tryd.ntmps10
      go_wp2
      go_ret2
      exact ⟨rfl, rfl⟩
    · rw [decide_eq_false a, decide_eq_false b, decide_eq_false c, decide_eq_false d] at hb; cases hb
  · rw [h]
    obtain ⟨a, b, c, d⟩ := badW_false.1 hb
    clear hb h
    go_enter Tryd.func10, Tryd.ntmps10
    go_wp2
    go_ret2
    exact ⟨rfl, rfl⟩
  · rw [h]
    obtain ⟨a, b, c, d⟩ := badW_false.1 hb
    clear hb h
    go_enter Tryd.func10, Tryd.ntmps10
    go_wp2_with fail
    go_loop [6] (fun j => ∃ k : Nat, 1 ≤ k ∧ k ≤ 25 ∧ j = .int .i64 k ∧ s + k ≤ i) (fun j => (25 - intOf j).toNat)
    case atStart => exact ⟨1, by omega, by omega, rfl, by omega⟩
    case round =>
      obtain ⟨k, hk1, hk2, rfl, hk⟩ := hrel
      have hle : (k : Int) ≤ 24 := by omega
      by_cases e : i = s + k
      · have e1 : (i == s + (k : Int)) = true := by simpa using e
        have E := Lib.hid e; clear e
        go_wp2_with fail
        go_ret2
        exact ⟨rfl, rfl⟩
      · have e1 : (i == s + (k : Int)) = false := by simpa using e
        have E := Lib.hid e
        clear e
        go_wp2_with fail
        go_round
        case rel => exact ⟨k + 1, by omega, by omega, by go_num, by have := E.out; omega⟩
        case measure => simp [intOf]; omega
  · rw [h]
    obtain ⟨a, b, c, d⟩ := badW_false.1 hb
    clear hb h
    go_enter Tryd.func10, Tryd.ntmps10
    go_wp2_with fail
    go_loop [6] (fun j => ∃ k : Nat, 1 ≤ k ∧ k ≤ 25 ∧ j = .int .i64 k) (fun j => (25 - intOf j).toNat)
    case atStart => exact ⟨1, by omega, by omega, rfl⟩
    case round =>
      obtain ⟨k, hk1, hk2, rfl⟩ := hrel
      by_cases hlt : k ≤ 24
      · have hle : (k : Int) ≤ 24 := by omega
        have e1 : (i == s + (k : Int)) = false := by rw [beq_eq_false_iff_ne]; omega
        go_wp2_with fail
        go_round
        case rel => exact ⟨k + 1, by omega, by omega, by go_num⟩
        case measure => simp [intOf]; omega
      · have hle : (24 : Int) < (k : Int) := by omega
        go_wp2_with fail
        go_ret2
        exact ⟨rfl, rfl⟩

/-- The table of what is done, by where the slot is. -/
def Tab (w : World) : Prop := 0 < w.heap.size ∧ w.cell? ⟨0, 0, none⟩ = some (.int .u8 1) ∧ w.cell? ⟨0, 1, none⟩ = some (.int .u8 3) ∧ w.cell? ⟨0, 2, none⟩ = some (.int .u8 2)
theorem Tab.below {w u : World} (h : Tab w) (hb : Below w.heap.size w u) : Tab u :=
  ⟨Nat.lt_of_lt_of_le h.1 hb.size, (hb.cell (p := ⟨0, 0, none⟩) h.1).trans h.2.1, (hb.cell (p := ⟨0, 1, none⟩) h.1).trans h.2.2.1, (hb.cell (p := ⟨0, 2, none⟩) h.1).trans h.2.2.2⟩

set_option maxHeartbeats 1000000 in
theorem accept_err (pr pp br bp s i : Int) (hw : whereZ s i = (0, 2)) (w : World) (ht : Tab w) :
    Calls Tryd.prog 11 #[.agg #[.int .i64 pr, .int .i64 pp], .int .i64 s, .agg #[.int .i64 br, .int .i64 bp], .int .i64 i] w fun e w' => e = .returned (.tuple #[.int .u8 0, .agg #[.int .i64 0, .int .i64 0], .int .i64 2]) ∧ Below w.heap.size w w' := by
  have C1 := where_any s i
  rw [hw] at C1
  have C1 := Lib.hid C1
  clear hw
  have HT := Lib.hid ht; clear ht
  have KB := Lib.hid (Below.refl w.heap.size w)
  go_enter Tryd.func11, Tryd.ntmps11
  go_wp2_with fail
  refine (C1.out _).mono ?_
  rintro e1 u1 ⟨rfl, rfl⟩
  go_wp2_with fail
  all_goals refine bodyPost_ret (v := .tuple #[.int .u8 0, .agg #[.int .i64 0, .int .i64 0], .int .i64 2]) (by simp [results, Tryd.results11, go_sem]) rfl ⟨rfl, ?_⟩
  all_goals exact (((KB.out.alloc (by first | omega | (simp; done) | (simp; omega) | (simp at *; omega)) _).alloc (by first | omega | (simp; done) | (simp; omega) | (simp at *; omega)) _).alloc (by first | omega | (simp; done) | (simp; omega) | (simp at *; omega)) _)

set_option maxHeartbeats 1000000 in
theorem accept_no (pr pp br bp s i nr np a : Int) (hw : whereZ s i = (a, 0)) (hp : promise ⟨pr, pp⟩ ⟨br, bp⟩ = (⟨nr, np⟩, false)) (w : World) (ht : Tab w) :
    Calls Tryd.prog 11 #[.agg #[.int .i64 pr, .int .i64 pp], .int .i64 s, .agg #[.int .i64 br, .int .i64 bp], .int .i64 i] w fun e w' => e = .returned (.tuple #[.int .u8 0, .agg #[.int .i64 nr, .int .i64 np], .int .i64 0]) ∧ Below w.heap.size w w' := by
  have C1 := where_any s i
  rw [hw] at C1
  have C1 := Lib.hid C1
  clear hw
  have C2 := promise_any ⟨pr, pp⟩ ⟨br, bp⟩
  rw [hp] at C2
  simp only [Ba.cells] at C2
  have C2 := Lib.hid C2
  clear hp
  have HT := Lib.hid ht; clear ht
  have KB := Lib.hid (Below.refl w.heap.size w)
  go_enter Tryd.func11, Tryd.ntmps11
  go_wp2_with fail
  refine (C1.out _).mono ?_
  rintro e1 u1 ⟨rfl, rfl⟩
  go_wp2_with fail
  refine (C2.out _).mono ?_
  rintro e2 u2 ⟨rfl, hb⟩
  have H_p : Whole u2 (w.heap.size) 23 _ := Whole.below (((Whole.new _ 23 _).alloc _).alloc _) hb (by first | omega | (simp; done) | (simp; omega) | (simp at *; omega))
  have H_b : Whole u2 (w.heap.size + 1) 23 _ := Whole.below ((wh_at w 1 _ 23 _ (by simp)).alloc _) hb (by first | omega | (simp; done) | (simp; omega) | (simp at *; omega))
  have H_res : Whole u2 (w.heap.size + 2) 23 _ := Whole.below (wh_at w 2 _ 23 _ (by simp)) hb (by first | omega | (simp; done) | (simp; omega) | (simp at *; omega))
  have HB := (((KB.out.alloc (by first | omega | (simp; done) | (simp; omega) | (simp at *; omega)) _).alloc (by first | omega | (simp; done) | (simp; omega) | (simp at *; omega)) _).alloc (by first | omega | (simp; done) | (simp; omega) | (simp at *; omega)) _).trans (hb.mono (by first | omega | (simp; done) | (simp; omega) | (simp at *; omega)))
  clear hb KB
  have z_u2 := HB.size
  have c_p_0 := H_p.cell 0; have f_p_0 := H_p.free 0; have c_p_1 := H_p.cell 1; have f_p_1 := H_p.free 1
  simp only [List.set_cons_zero, List.set_cons_succ, List.getElem?_cons_zero, List.getElem?_cons_succ] at c_p_0 c_p_1
  have c_b_0 := H_b.cell 0; have f_b_0 := H_b.free 0; have c_b_1 := H_b.cell 1; have f_b_1 := H_b.free 1
  simp only [List.set_cons_zero, List.set_cons_succ, List.getElem?_cons_zero, List.getElem?_cons_succ] at c_b_0 c_b_1
  have c_res_0 := H_res.cell 0; have f_res_0 := H_res.free 0; have c_res_1 := H_res.cell 1; have f_res_1 := H_res.free 1
  simp only [List.set_cons_zero, List.set_cons_succ, List.getElem?_cons_zero, List.getElem?_cons_succ] at c_res_0 c_res_1
  have l_p := H_p.lt; have K_p := Lib.hid H_p; clear H_p
  have l_b := H_b.lt; have K_b := Lib.hid H_b; clear H_b
  have l_res := H_res.lt; have K_res := Lib.hid H_res; clear H_res
  have KB := Lib.hid HB; clear HB
  obtain ⟨t0, t1, t2, t3⟩ := HT.out.below KB.out
  go_wp2_with fail
  obtain ⟨W3, hW⟩ : ∃ W : World, W = (u2.alloc (.cells #[.int .i64 nr, .int .i64 np] 23)) := ⟨_, rfl⟩
  have H_p : Whole W3 (w.heap.size) 23 [.int .i64 pr, .int .i64 pp] := by rw [hW]; exact (K_p.out.alloc _)
  have H_b : Whole W3 (w.heap.size + 1) 23 [.int .i64 br, .int .i64 bp] := by rw [hW]; exact (K_b.out.alloc _)
  have H_res : Whole W3 (w.heap.size + 2) 23 [.int .i64 0, .int .i64 0] := by rw [hW]; exact (K_res.out.alloc _)
  have H_now : Whole W3 (u2.heap.size) 23 [.int .i64 nr, .int .i64 np] := by rw [hW]; exact (Whole.new _ 23 _)
  have HB : Below w.heap.size w W3 := by rw [hW]; exact (KB.out.alloc (by first | omega | (simp; done) | (simp; omega) | (simp at *; omega)) _)
  rw [← hW]
  clear c_p_0 c_p_1 f_p_0 f_p_1 c_b_0 c_b_1 f_b_0 f_b_1 c_res_0 c_res_1 f_res_0 f_res_1 l_p l_b l_res
  clear hW KB K_p K_b K_res
  have z_W3 := HB.size
  have c_p_0 := H_p.cell 0; have f_p_0 := H_p.free 0; have c_p_1 := H_p.cell 1; have f_p_1 := H_p.free 1
  simp only [List.set_cons_zero, List.set_cons_succ, List.getElem?_cons_zero, List.getElem?_cons_succ] at c_p_0 c_p_1
  have c_b_0 := H_b.cell 0; have f_b_0 := H_b.free 0; have c_b_1 := H_b.cell 1; have f_b_1 := H_b.free 1
  simp only [List.set_cons_zero, List.set_cons_succ, List.getElem?_cons_zero, List.getElem?_cons_succ] at c_b_0 c_b_1
  have c_res_0 := H_res.cell 0; have f_res_0 := H_res.free 0; have c_res_1 := H_res.cell 1; have f_res_1 := H_res.free 1
  simp only [List.set_cons_zero, List.set_cons_succ, List.getElem?_cons_zero, List.getElem?_cons_succ] at c_res_0 c_res_1
  have c_now_0 := H_now.cell 0; have f_now_0 := H_now.free 0; have c_now_1 := H_now.cell 1; have f_now_1 := H_now.free 1
  simp only [List.set_cons_zero, List.set_cons_succ, List.getElem?_cons_zero, List.getElem?_cons_succ] at c_now_0 c_now_1
  have l_p := H_p.lt; have K_p := Lib.hid H_p; clear H_p
  have l_b := H_b.lt; have K_b := Lib.hid H_b; clear H_b
  have l_res := H_res.lt; have K_res := Lib.hid H_res; clear H_res
  have l_now := H_now.lt; have K_now := Lib.hid H_now; clear H_now
  have KB := Lib.hid HB; clear HB
  clear t0 t1 t2 t3
  obtain ⟨t0, t1, t2, t3⟩ := HT.out.below KB.out
  go_region
  all_goals go_wp2
  all_goals refine bodyPost_ret (v := .tuple #[.int .u8 0, .agg #[.int .i64 nr, .int .i64 np], .int .i64 0]) (by simp [results, Tryd.results11, go_sem, c_p_0, c_p_1, f_p_0, f_p_1, c_b_0, c_b_1, f_b_0, f_b_1, c_res_0, c_res_1, f_res_0, f_res_1, c_now_0, c_now_1, f_now_0, f_now_1]) rfl ⟨rfl, ?_⟩
  all_goals exact (((KB.out.setCell (p := ⟨w.heap.size + 2, 0, none⟩) (by first | omega | (simp; done) | (simp; omega) | (simp at *; omega)) _).setCell (p := ⟨w.heap.size + 2, 1, none⟩) (by first | omega | (simp; done) | (simp; omega) | (simp at *; omega)) _).drew)

set_option maxHeartbeats 1000000 in
theorem accept_cov (pr pp br bp s i nr np : Int) (hw : whereZ s i = (0, 0)) (hp : promise ⟨pr, pp⟩ ⟨br, bp⟩ = (⟨nr, np⟩, true)) (w : World) (ht : Tab w) :
    Calls Tryd.prog 11 #[.agg #[.int .i64 pr, .int .i64 pp], .int .i64 s, .agg #[.int .i64 br, .int .i64 bp], .int .i64 i] w fun e w' => e = .returned (.tuple #[.int .u8 1, .agg #[.int .i64 nr, .int .i64 np], .int .i64 0]) ∧ Below w.heap.size w w' := by
  have C1 := where_any s i
  rw [hw] at C1
  have C1 := Lib.hid C1
  clear hw
  have C2 := promise_any ⟨pr, pp⟩ ⟨br, bp⟩
  rw [hp] at C2
  simp only [Ba.cells] at C2
  have C2 := Lib.hid C2
  clear hp
  have HT := Lib.hid ht; clear ht
  have KB := Lib.hid (Below.refl w.heap.size w)
  go_enter Tryd.func11, Tryd.ntmps11
  go_wp2_with fail
  refine (C1.out _).mono ?_
  rintro e1 u1 ⟨rfl, rfl⟩
  go_wp2_with fail
  refine (C2.out _).mono ?_
  rintro e2 u2 ⟨rfl, hb⟩
  have H_p : Whole u2 (w.heap.size) 23 _ := Whole.below (((Whole.new _ 23 _).alloc _).alloc _) hb (by first | omega | (simp; done) | (simp; omega) | (simp at *; omega))
  have H_b : Whole u2 (w.heap.size + 1) 23 _ := Whole.below ((wh_at w 1 _ 23 _ (by simp)).alloc _) hb (by first | omega | (simp; done) | (simp; omega) | (simp at *; omega))
  have H_res : Whole u2 (w.heap.size + 2) 23 _ := Whole.below (wh_at w 2 _ 23 _ (by simp)) hb (by first | omega | (simp; done) | (simp; omega) | (simp at *; omega))
  have HB := (((KB.out.alloc (by first | omega | (simp; done) | (simp; omega) | (simp at *; omega)) _).alloc (by first | omega | (simp; done) | (simp; omega) | (simp at *; omega)) _).alloc (by first | omega | (simp; done) | (simp; omega) | (simp at *; omega)) _).trans (hb.mono (by first | omega | (simp; done) | (simp; omega) | (simp at *; omega)))
  clear hb KB
  have z_u2 := HB.size
  have c_p_0 := H_p.cell 0; have f_p_0 := H_p.free 0; have c_p_1 := H_p.cell 1; have f_p_1 := H_p.free 1
  simp only [List.set_cons_zero, List.set_cons_succ, List.getElem?_cons_zero, List.getElem?_cons_succ] at c_p_0 c_p_1
  have c_b_0 := H_b.cell 0; have f_b_0 := H_b.free 0; have c_b_1 := H_b.cell 1; have f_b_1 := H_b.free 1
  simp only [List.set_cons_zero, List.set_cons_succ, List.getElem?_cons_zero, List.getElem?_cons_succ] at c_b_0 c_b_1
  have c_res_0 := H_res.cell 0; have f_res_0 := H_res.free 0; have c_res_1 := H_res.cell 1; have f_res_1 := H_res.free 1
  simp only [List.set_cons_zero, List.set_cons_succ, List.getElem?_cons_zero, List.getElem?_cons_succ] at c_res_0 c_res_1
  have l_p := H_p.lt; have K_p := Lib.hid H_p; clear H_p
  have l_b := H_b.lt; have K_b := Lib.hid H_b; clear H_b
  have l_res := H_res.lt; have K_res := Lib.hid H_res; clear H_res
  have KB := Lib.hid HB; clear HB
  obtain ⟨t0, t1, t2, t3⟩ := HT.out.below KB.out
  go_wp2_with fail
  obtain ⟨W3, hW⟩ : ∃ W : World, W = (u2.alloc (.cells #[.int .i64 nr, .int .i64 np] 23)) := ⟨_, rfl⟩
  have H_p : Whole W3 (w.heap.size) 23 [.int .i64 pr, .int .i64 pp] := by rw [hW]; exact (K_p.out.alloc _)
  have H_b : Whole W3 (w.heap.size + 1) 23 [.int .i64 br, .int .i64 bp] := by rw [hW]; exact (K_b.out.alloc _)
  have H_res : Whole W3 (w.heap.size + 2) 23 [.int .i64 0, .int .i64 0] := by rw [hW]; exact (K_res.out.alloc _)
  have H_now : Whole W3 (u2.heap.size) 23 [.int .i64 nr, .int .i64 np] := by rw [hW]; exact (Whole.new _ 23 _)
  have HB : Below w.heap.size w W3 := by rw [hW]; exact (KB.out.alloc (by first | omega | (simp; done) | (simp; omega) | (simp at *; omega)) _)
  rw [← hW]
  clear c_p_0 c_p_1 f_p_0 f_p_1 c_b_0 c_b_1 f_b_0 f_b_1 c_res_0 c_res_1 f_res_0 f_res_1 l_p l_b l_res
  clear hW KB K_p K_b K_res
  have z_W3 := HB.size
  have c_p_0 := H_p.cell 0; have f_p_0 := H_p.free 0; have c_p_1 := H_p.cell 1; have f_p_1 := H_p.free 1
  simp only [List.set_cons_zero, List.set_cons_succ, List.getElem?_cons_zero, List.getElem?_cons_succ] at c_p_0 c_p_1
  have c_b_0 := H_b.cell 0; have f_b_0 := H_b.free 0; have c_b_1 := H_b.cell 1; have f_b_1 := H_b.free 1
  simp only [List.set_cons_zero, List.set_cons_succ, List.getElem?_cons_zero, List.getElem?_cons_succ] at c_b_0 c_b_1
  have c_res_0 := H_res.cell 0; have f_res_0 := H_res.free 0; have c_res_1 := H_res.cell 1; have f_res_1 := H_res.free 1
  simp only [List.set_cons_zero, List.set_cons_succ, List.getElem?_cons_zero, List.getElem?_cons_succ] at c_res_0 c_res_1
  have c_now_0 := H_now.cell 0; have f_now_0 := H_now.free 0; have c_now_1 := H_now.cell 1; have f_now_1 := H_now.free 1
  simp only [List.set_cons_zero, List.set_cons_succ, List.getElem?_cons_zero, List.getElem?_cons_succ] at c_now_0 c_now_1
  have l_p := H_p.lt; have K_p := Lib.hid H_p; clear H_p
  have l_b := H_b.lt; have K_b := Lib.hid H_b; clear H_b
  have l_res := H_res.lt; have K_res := Lib.hid H_res; clear H_res
  have l_now := H_now.lt; have K_now := Lib.hid H_now; clear H_now
  have KB := Lib.hid HB; clear HB
  clear t0 t1 t2 t3
  obtain ⟨t0, t1, t2, t3⟩ := HT.out.below KB.out
  go_region
  all_goals go_wp2
  all_goals refine bodyPost_ret (v := .tuple #[.int .u8 1, .agg #[.int .i64 nr, .int .i64 np], .int .i64 0]) (by simp [results, Tryd.results11, go_sem, c_p_0, c_p_1, f_p_0, f_p_1, c_b_0, c_b_1, f_b_0, f_b_1, c_res_0, c_res_1, f_res_0, f_res_1, c_now_0, c_now_1, f_now_0, f_now_1]) rfl ⟨rfl, ?_⟩
  all_goals exact (((KB.out.setCell (p := ⟨w.heap.size + 2, 0, none⟩) (by first | omega | (simp; done) | (simp; omega) | (simp at *; omega)) _).setCell (p := ⟨w.heap.size + 2, 1, none⟩) (by first | omega | (simp; done) | (simp; omega) | (simp at *; omega)) _).drew)

set_option maxHeartbeats 1000000 in
theorem accept_ins (pr pp br bp s i nr np : Int) (hw : whereZ s i = (1, 0)) (hp : promise ⟨pr, pp⟩ ⟨br, bp⟩ = (⟨nr, np⟩, true)) (w : World) (ht : Tab w) :
    Calls Tryd.prog 11 #[.agg #[.int .i64 pr, .int .i64 pp], .int .i64 s, .agg #[.int .i64 br, .int .i64 bp], .int .i64 i] w fun e w' => e = .returned (.tuple #[.int .u8 3, .agg #[.int .i64 nr, .int .i64 np], .int .i64 0]) ∧ Below w.heap.size w w' := by
  have C1 := where_any s i
  rw [hw] at C1
  have C1 := Lib.hid C1
  clear hw
  have C2 := promise_any ⟨pr, pp⟩ ⟨br, bp⟩
  rw [hp] at C2
  simp only [Ba.cells] at C2
  have C2 := Lib.hid C2
  clear hp
  have HT := Lib.hid ht; clear ht
  have KB := Lib.hid (Below.refl w.heap.size w)
  go_enter Tryd.func11, Tryd.ntmps11
  go_wp2_with fail
  refine (C1.out _).mono ?_
  rintro e1 u1 ⟨rfl, rfl⟩
  go_wp2_with fail
  refine (C2.out _).mono ?_
  rintro e2 u2 ⟨rfl, hb⟩
  have H_p : Whole u2 (w.heap.size) 23 _ := Whole.below (((Whole.new _ 23 _).alloc _).alloc _) hb (by first | omega | (simp; done) | (simp; omega) | (simp at *; omega))
  have H_b : Whole u2 (w.heap.size + 1) 23 _ := Whole.below ((wh_at w 1 _ 23 _ (by simp)).alloc _) hb (by first | omega | (simp; done) | (simp; omega) | (simp at *; omega))
  have H_res : Whole u2 (w.heap.size + 2) 23 _ := Whole.below (wh_at w 2 _ 23 _ (by simp)) hb (by first | omega | (simp; done) | (simp; omega) | (simp at *; omega))
  have HB := (((KB.out.alloc (by first | omega | (simp; done) | (simp; omega) | (simp at *; omega)) _).alloc (by first | omega | (simp; done) | (simp; omega) | (simp at *; omega)) _).alloc (by first | omega | (simp; done) | (simp; omega) | (simp at *; omega)) _).trans (hb.mono (by first | omega | (simp; done) | (simp; omega) | (simp at *; omega)))
  clear hb KB
  have z_u2 := HB.size
  have c_p_0 := H_p.cell 0; have f_p_0 := H_p.free 0; have c_p_1 := H_p.cell 1; have f_p_1 := H_p.free 1
  simp only [List.set_cons_zero, List.set_cons_succ, List.getElem?_cons_zero, List.getElem?_cons_succ] at c_p_0 c_p_1
  have c_b_0 := H_b.cell 0; have f_b_0 := H_b.free 0; have c_b_1 := H_b.cell 1; have f_b_1 := H_b.free 1
  simp only [List.set_cons_zero, List.set_cons_succ, List.getElem?_cons_zero, List.getElem?_cons_succ] at c_b_0 c_b_1
  have c_res_0 := H_res.cell 0; have f_res_0 := H_res.free 0; have c_res_1 := H_res.cell 1; have f_res_1 := H_res.free 1
  simp only [List.set_cons_zero, List.set_cons_succ, List.getElem?_cons_zero, List.getElem?_cons_succ] at c_res_0 c_res_1
  have l_p := H_p.lt; have K_p := Lib.hid H_p; clear H_p
  have l_b := H_b.lt; have K_b := Lib.hid H_b; clear H_b
  have l_res := H_res.lt; have K_res := Lib.hid H_res; clear H_res
  have KB := Lib.hid HB; clear HB
  obtain ⟨t0, t1, t2, t3⟩ := HT.out.below KB.out
  go_wp2_with fail
  obtain ⟨W3, hW⟩ : ∃ W : World, W = (u2.alloc (.cells #[.int .i64 nr, .int .i64 np] 23)) := ⟨_, rfl⟩
  have H_p : Whole W3 (w.heap.size) 23 [.int .i64 pr, .int .i64 pp] := by rw [hW]; exact (K_p.out.alloc _)
  have H_b : Whole W3 (w.heap.size + 1) 23 [.int .i64 br, .int .i64 bp] := by rw [hW]; exact (K_b.out.alloc _)
  have H_res : Whole W3 (w.heap.size + 2) 23 [.int .i64 0, .int .i64 0] := by rw [hW]; exact (K_res.out.alloc _)
  have H_now : Whole W3 (u2.heap.size) 23 [.int .i64 nr, .int .i64 np] := by rw [hW]; exact (Whole.new _ 23 _)
  have HB : Below w.heap.size w W3 := by rw [hW]; exact (KB.out.alloc (by first | omega | (simp; done) | (simp; omega) | (simp at *; omega)) _)
  rw [← hW]
  clear c_p_0 c_p_1 f_p_0 f_p_1 c_b_0 c_b_1 f_b_0 f_b_1 c_res_0 c_res_1 f_res_0 f_res_1 l_p l_b l_res
  clear hW KB K_p K_b K_res
  have z_W3 := HB.size
  have c_p_0 := H_p.cell 0; have f_p_0 := H_p.free 0; have c_p_1 := H_p.cell 1; have f_p_1 := H_p.free 1
  simp only [List.set_cons_zero, List.set_cons_succ, List.getElem?_cons_zero, List.getElem?_cons_succ] at c_p_0 c_p_1
  have c_b_0 := H_b.cell 0; have f_b_0 := H_b.free 0; have c_b_1 := H_b.cell 1; have f_b_1 := H_b.free 1
  simp only [List.set_cons_zero, List.set_cons_succ, List.getElem?_cons_zero, List.getElem?_cons_succ] at c_b_0 c_b_1
  have c_res_0 := H_res.cell 0; have f_res_0 := H_res.free 0; have c_res_1 := H_res.cell 1; have f_res_1 := H_res.free 1
  simp only [List.set_cons_zero, List.set_cons_succ, List.getElem?_cons_zero, List.getElem?_cons_succ] at c_res_0 c_res_1
  have c_now_0 := H_now.cell 0; have f_now_0 := H_now.free 0; have c_now_1 := H_now.cell 1; have f_now_1 := H_now.free 1
  simp only [List.set_cons_zero, List.set_cons_succ, List.getElem?_cons_zero, List.getElem?_cons_succ] at c_now_0 c_now_1
  have l_p := H_p.lt; have K_p := Lib.hid H_p; clear H_p
  have l_b := H_b.lt; have K_b := Lib.hid H_b; clear H_b
  have l_res := H_res.lt; have K_res := Lib.hid H_res; clear H_res
  have l_now := H_now.lt; have K_now := Lib.hid H_now; clear H_now
  have KB := Lib.hid HB; clear HB
  clear t0 t1 t2 t3
  obtain ⟨t0, t1, t2, t3⟩ := HT.out.below KB.out
  go_region
  all_goals go_wp2
  all_goals refine bodyPost_ret (v := .tuple #[.int .u8 3, .agg #[.int .i64 nr, .int .i64 np], .int .i64 0]) (by simp [results, Tryd.results11, go_sem, c_p_0, c_p_1, f_p_0, f_p_1, c_b_0, c_b_1, f_b_0, f_b_1, c_res_0, c_res_1, f_res_0, f_res_1, c_now_0, c_now_1, f_now_0, f_now_1]) rfl ⟨rfl, ?_⟩
  all_goals exact (((KB.out.setCell (p := ⟨w.heap.size + 2, 0, none⟩) (by first | omega | (simp; done) | (simp; omega) | (simp at *; omega)) _).setCell (p := ⟨w.heap.size + 2, 1, none⟩) (by first | omega | (simp; done) | (simp; omega) | (simp at *; omega)) _).drew)

set_option maxHeartbeats 1000000 in
theorem accept_bey (pr pp br bp s i nr np : Int) (hw : whereZ s i = (2, 0)) (hp : promise ⟨pr, pp⟩ ⟨br, bp⟩ = (⟨nr, np⟩, true)) (w : World) (ht : Tab w) :
    Calls Tryd.prog 11 #[.agg #[.int .i64 pr, .int .i64 pp], .int .i64 s, .agg #[.int .i64 br, .int .i64 bp], .int .i64 i] w fun e w' => e = .returned (.tuple #[.int .u8 2, .agg #[.int .i64 nr, .int .i64 np], .int .i64 0]) ∧ Below w.heap.size w w' := by
  have C1 := where_any s i
  rw [hw] at C1
  have C1 := Lib.hid C1
  clear hw
  have C2 := promise_any ⟨pr, pp⟩ ⟨br, bp⟩
  rw [hp] at C2
  simp only [Ba.cells] at C2
  have C2 := Lib.hid C2
  clear hp
  have HT := Lib.hid ht; clear ht
  have KB := Lib.hid (Below.refl w.heap.size w)
  go_enter Tryd.func11, Tryd.ntmps11
  go_wp2_with fail
  refine (C1.out _).mono ?_
  rintro e1 u1 ⟨rfl, rfl⟩
  go_wp2_with fail
  refine (C2.out _).mono ?_
  rintro e2 u2 ⟨rfl, hb⟩
  have H_p : Whole u2 (w.heap.size) 23 _ := Whole.below (((Whole.new _ 23 _).alloc _).alloc _) hb (by first | omega | (simp; done) | (simp; omega) | (simp at *; omega))
  have H_b : Whole u2 (w.heap.size + 1) 23 _ := Whole.below ((wh_at w 1 _ 23 _ (by simp)).alloc _) hb (by first | omega | (simp; done) | (simp; omega) | (simp at *; omega))
  have H_res : Whole u2 (w.heap.size + 2) 23 _ := Whole.below (wh_at w 2 _ 23 _ (by simp)) hb (by first | omega | (simp; done) | (simp; omega) | (simp at *; omega))
  have HB := (((KB.out.alloc (by first | omega | (simp; done) | (simp; omega) | (simp at *; omega)) _).alloc (by first | omega | (simp; done) | (simp; omega) | (simp at *; omega)) _).alloc (by first | omega | (simp; done) | (simp; omega) | (simp at *; omega)) _).trans (hb.mono (by first | omega | (simp; done) | (simp; omega) | (simp at *; omega)))
  clear hb KB
  have z_u2 := HB.size
  have c_p_0 := H_p.cell 0; have f_p_0 := H_p.free 0; have c_p_1 := H_p.cell 1; have f_p_1 := H_p.free 1
  simp only [List.set_cons_zero, List.set_cons_succ, List.getElem?_cons_zero, List.getElem?_cons_succ] at c_p_0 c_p_1
  have c_b_0 := H_b.cell 0; have f_b_0 := H_b.free 0; have c_b_1 := H_b.cell 1; have f_b_1 := H_b.free 1
  simp only [List.set_cons_zero, List.set_cons_succ, List.getElem?_cons_zero, List.getElem?_cons_succ] at c_b_0 c_b_1
  have c_res_0 := H_res.cell 0; have f_res_0 := H_res.free 0; have c_res_1 := H_res.cell 1; have f_res_1 := H_res.free 1
  simp only [List.set_cons_zero, List.set_cons_succ, List.getElem?_cons_zero, List.getElem?_cons_succ] at c_res_0 c_res_1
  have l_p := H_p.lt; have K_p := Lib.hid H_p; clear H_p
  have l_b := H_b.lt; have K_b := Lib.hid H_b; clear H_b
  have l_res := H_res.lt; have K_res := Lib.hid H_res; clear H_res
  have KB := Lib.hid HB; clear HB
  obtain ⟨t0, t1, t2, t3⟩ := HT.out.below KB.out
  go_wp2_with fail
  obtain ⟨W3, hW⟩ : ∃ W : World, W = (u2.alloc (.cells #[.int .i64 nr, .int .i64 np] 23)) := ⟨_, rfl⟩
  have H_p : Whole W3 (w.heap.size) 23 [.int .i64 pr, .int .i64 pp] := by rw [hW]; exact (K_p.out.alloc _)
  have H_b : Whole W3 (w.heap.size + 1) 23 [.int .i64 br, .int .i64 bp] := by rw [hW]; exact (K_b.out.alloc _)
  have H_res : Whole W3 (w.heap.size + 2) 23 [.int .i64 0, .int .i64 0] := by rw [hW]; exact (K_res.out.alloc _)
  have H_now : Whole W3 (u2.heap.size) 23 [.int .i64 nr, .int .i64 np] := by rw [hW]; exact (Whole.new _ 23 _)
  have HB : Below w.heap.size w W3 := by rw [hW]; exact (KB.out.alloc (by first | omega | (simp; done) | (simp; omega) | (simp at *; omega)) _)
  rw [← hW]
  clear c_p_0 c_p_1 f_p_0 f_p_1 c_b_0 c_b_1 f_b_0 f_b_1 c_res_0 c_res_1 f_res_0 f_res_1 l_p l_b l_res
  clear hW KB K_p K_b K_res
  have z_W3 := HB.size
  have c_p_0 := H_p.cell 0; have f_p_0 := H_p.free 0; have c_p_1 := H_p.cell 1; have f_p_1 := H_p.free 1
  simp only [List.set_cons_zero, List.set_cons_succ, List.getElem?_cons_zero, List.getElem?_cons_succ] at c_p_0 c_p_1
  have c_b_0 := H_b.cell 0; have f_b_0 := H_b.free 0; have c_b_1 := H_b.cell 1; have f_b_1 := H_b.free 1
  simp only [List.set_cons_zero, List.set_cons_succ, List.getElem?_cons_zero, List.getElem?_cons_succ] at c_b_0 c_b_1
  have c_res_0 := H_res.cell 0; have f_res_0 := H_res.free 0; have c_res_1 := H_res.cell 1; have f_res_1 := H_res.free 1
  simp only [List.set_cons_zero, List.set_cons_succ, List.getElem?_cons_zero, List.getElem?_cons_succ] at c_res_0 c_res_1
  have c_now_0 := H_now.cell 0; have f_now_0 := H_now.free 0; have c_now_1 := H_now.cell 1; have f_now_1 := H_now.free 1
  simp only [List.set_cons_zero, List.set_cons_succ, List.getElem?_cons_zero, List.getElem?_cons_succ] at c_now_0 c_now_1
  have l_p := H_p.lt; have K_p := Lib.hid H_p; clear H_p
  have l_b := H_b.lt; have K_b := Lib.hid H_b; clear H_b
  have l_res := H_res.lt; have K_res := Lib.hid H_res; clear H_res
  have l_now := H_now.lt; have K_now := Lib.hid H_now; clear H_now
  have KB := Lib.hid HB; clear HB
  clear t0 t1 t2 t3
  obtain ⟨t0, t1, t2, t3⟩ := HT.out.below KB.out
  go_region
  all_goals go_wp2
  all_goals refine bodyPost_ret (v := .tuple #[.int .u8 2, .agg #[.int .i64 nr, .int .i64 np], .int .i64 0]) (by simp [results, Tryd.results11, go_sem, c_p_0, c_p_1, f_p_0, f_p_1, c_b_0, c_b_1, f_b_0, f_b_1, c_res_0, c_res_1, f_res_0, f_res_1, c_now_0, c_now_1, f_now_0, f_now_1]) rfl ⟨rfl, ?_⟩
  all_goals exact (((KB.out.setCell (p := ⟨w.heap.size + 2, 0, none⟩) (by first | omega | (simp; done) | (simp; omega) | (simp at *; omega)) _).setCell (p := ⟨w.heap.size + 2, 1, none⟩) (by first | omega | (simp; done) | (simp; omega) | (simp at *; omega)) _).drew)

set_option maxHeartbeats 1000000 in
theorem raccept_err (pr pp br bp s i : Int) (hw : whereZ s i = (0, 2)) (w : World) :
    Calls Tryd.prog 12 #[.agg #[.int .i64 pr, .int .i64 pp], .int .i64 s, .agg #[.int .i64 br, .int .i64 bp], .int .i64 i] w fun e w' => e = .returned (.tuple #[.int .i64 0, .agg #[.int .i64 0, .int .i64 0], .int .i64 2]) ∧ Below w.heap.size w w' := by
  have C1 := rwhere_any s i
  rw [hw] at C1
  have C1 := Lib.hid C1
  clear hw
  have KB := Lib.hid (Below.refl w.heap.size w)
  go_enter Tryd.func12, Tryd.ntmps12
  go_wp2_with fail
  refine (C1.out _).mono ?_
  rintro e1 u1 ⟨rfl, rfl⟩
  go_wp2_with fail
  all_goals refine bodyPost_ret (v := .tuple #[.int .i64 0, .agg #[.int .i64 0, .int .i64 0], .int .i64 2]) (by simp [results, Tryd.results12, go_sem]) rfl ⟨rfl, ?_⟩
  all_goals exact (((KB.out.alloc (by first | omega | (simp; done) | (simp; omega) | (simp at *; omega)) _).alloc (by first | omega | (simp; done) | (simp; omega) | (simp at *; omega)) _).alloc (by first | omega | (simp; done) | (simp; omega) | (simp at *; omega)) _)

set_option maxHeartbeats 1000000 in
theorem raccept_no (pr pp br bp s i nr np a : Int) (hw : whereZ s i = (a, 0)) (hp : promise ⟨pr, pp⟩ ⟨br, bp⟩ = (⟨nr, np⟩, false)) (w : World) :
    Calls Tryd.prog 12 #[.agg #[.int .i64 pr, .int .i64 pp], .int .i64 s, .agg #[.int .i64 br, .int .i64 bp], .int .i64 i] w fun e w' => e = .returned (.tuple #[.int .i64 0, .agg #[.int .i64 nr, .int .i64 np], .int .i64 0]) ∧ Below w.heap.size w w' := by
  have C1 := rwhere_any s i
  rw [hw] at C1
  have C1 := Lib.hid C1
  clear hw
  have C2 := rpromise_any ⟨pr, pp⟩ ⟨br, bp⟩
  rw [hp] at C2
  simp only [Ba.cells] at C2
  have C2 := Lib.hid C2
  clear hp
  have KB := Lib.hid (Below.refl w.heap.size w)
  go_enter Tryd.func12, Tryd.ntmps12
  go_wp2_with fail
  refine (C1.out _).mono ?_
  rintro e1 u1 ⟨rfl, rfl⟩
  go_wp2_with fail
  refine (C2.out _).mono ?_
  rintro e2 u2 ⟨rfl, hb⟩
  have H_p : Whole u2 (w.heap.size) 23 _ := Whole.below (((Whole.new _ 23 _).alloc _).alloc _) hb (by first | omega | (simp; done) | (simp; omega) | (simp at *; omega))
  have H_b : Whole u2 (w.heap.size + 1) 23 _ := Whole.below ((wh_at w 1 _ 23 _ (by simp)).alloc _) hb (by first | omega | (simp; done) | (simp; omega) | (simp at *; omega))
  have H_res : Whole u2 (w.heap.size + 2) 23 _ := Whole.below (wh_at w 2 _ 23 _ (by simp)) hb (by first | omega | (simp; done) | (simp; omega) | (simp at *; omega))
  have HB := (((KB.out.alloc (by first | omega | (simp; done) | (simp; omega) | (simp at *; omega)) _).alloc (by first | omega | (simp; done) | (simp; omega) | (simp at *; omega)) _).alloc (by first | omega | (simp; done) | (simp; omega) | (simp at *; omega)) _).trans (hb.mono (by first | omega | (simp; done) | (simp; omega) | (simp at *; omega)))
  clear hb KB
  have z_u2 := HB.size
  have c_p_0 := H_p.cell 0; have f_p_0 := H_p.free 0; have c_p_1 := H_p.cell 1; have f_p_1 := H_p.free 1
  simp only [List.set_cons_zero, List.set_cons_succ, List.getElem?_cons_zero, List.getElem?_cons_succ] at c_p_0 c_p_1
  have c_b_0 := H_b.cell 0; have f_b_0 := H_b.free 0; have c_b_1 := H_b.cell 1; have f_b_1 := H_b.free 1
  simp only [List.set_cons_zero, List.set_cons_succ, List.getElem?_cons_zero, List.getElem?_cons_succ] at c_b_0 c_b_1
  have c_res_0 := H_res.cell 0; have f_res_0 := H_res.free 0; have c_res_1 := H_res.cell 1; have f_res_1 := H_res.free 1
  simp only [List.set_cons_zero, List.set_cons_succ, List.getElem?_cons_zero, List.getElem?_cons_succ] at c_res_0 c_res_1
  have l_p := H_p.lt; have K_p := Lib.hid H_p; clear H_p
  have l_b := H_b.lt; have K_b := Lib.hid H_b; clear H_b
  have l_res := H_res.lt; have K_res := Lib.hid H_res; clear H_res
  have KB := Lib.hid HB; clear HB
  go_wp2_with fail
  obtain ⟨W3, hW⟩ : ∃ W : World, W = (u2.alloc (.cells #[.int .i64 nr, .int .i64 np] 23)) := ⟨_, rfl⟩
  have H_p : Whole W3 (w.heap.size) 23 [.int .i64 pr, .int .i64 pp] := by rw [hW]; exact (K_p.out.alloc _)
  have H_b : Whole W3 (w.heap.size + 1) 23 [.int .i64 br, .int .i64 bp] := by rw [hW]; exact (K_b.out.alloc _)
  have H_res : Whole W3 (w.heap.size + 2) 23 [.int .i64 0, .int .i64 0] := by rw [hW]; exact (K_res.out.alloc _)
  have H_now : Whole W3 (u2.heap.size) 23 [.int .i64 nr, .int .i64 np] := by rw [hW]; exact (Whole.new _ 23 _)
  have HB : Below w.heap.size w W3 := by rw [hW]; exact (KB.out.alloc (by first | omega | (simp; done) | (simp; omega) | (simp at *; omega)) _)
  rw [← hW]
  clear c_p_0 c_p_1 f_p_0 f_p_1 c_b_0 c_b_1 f_b_0 f_b_1 c_res_0 c_res_1 f_res_0 f_res_1 l_p l_b l_res
  clear hW KB K_p K_b K_res
  have z_W3 := HB.size
  have c_p_0 := H_p.cell 0; have f_p_0 := H_p.free 0; have c_p_1 := H_p.cell 1; have f_p_1 := H_p.free 1
  simp only [List.set_cons_zero, List.set_cons_succ, List.getElem?_cons_zero, List.getElem?_cons_succ] at c_p_0 c_p_1
  have c_b_0 := H_b.cell 0; have f_b_0 := H_b.free 0; have c_b_1 := H_b.cell 1; have f_b_1 := H_b.free 1
  simp only [List.set_cons_zero, List.set_cons_succ, List.getElem?_cons_zero, List.getElem?_cons_succ] at c_b_0 c_b_1
  have c_res_0 := H_res.cell 0; have f_res_0 := H_res.free 0; have c_res_1 := H_res.cell 1; have f_res_1 := H_res.free 1
  simp only [List.set_cons_zero, List.set_cons_succ, List.getElem?_cons_zero, List.getElem?_cons_succ] at c_res_0 c_res_1
  have c_now_0 := H_now.cell 0; have f_now_0 := H_now.free 0; have c_now_1 := H_now.cell 1; have f_now_1 := H_now.free 1
  simp only [List.set_cons_zero, List.set_cons_succ, List.getElem?_cons_zero, List.getElem?_cons_succ] at c_now_0 c_now_1
  have l_p := H_p.lt; have K_p := Lib.hid H_p; clear H_p
  have l_b := H_b.lt; have K_b := Lib.hid H_b; clear H_b
  have l_res := H_res.lt; have K_res := Lib.hid H_res; clear H_res
  have l_now := H_now.lt; have K_now := Lib.hid H_now; clear H_now
  have KB := Lib.hid HB; clear HB
  go_region
  all_goals go_wp2
  all_goals refine bodyPost_ret (v := .tuple #[.int .i64 0, .agg #[.int .i64 nr, .int .i64 np], .int .i64 0]) (by simp [results, Tryd.results12, go_sem, c_p_0, c_p_1, f_p_0, f_p_1, c_b_0, c_b_1, f_b_0, f_b_1, c_res_0, c_res_1, f_res_0, f_res_1, c_now_0, c_now_1, f_now_0, f_now_1]) rfl ⟨rfl, ?_⟩
  all_goals exact (((KB.out.setCell (p := ⟨w.heap.size + 2, 0, none⟩) (by first | omega | (simp; done) | (simp; omega) | (simp at *; omega)) _).setCell (p := ⟨w.heap.size + 2, 1, none⟩) (by first | omega | (simp; done) | (simp; omega) | (simp at *; omega)) _).drew)

set_option maxHeartbeats 1000000 in
theorem raccept_cov (pr pp br bp s i nr np : Int) (hw : whereZ s i = (0, 0)) (hp : promise ⟨pr, pp⟩ ⟨br, bp⟩ = (⟨nr, np⟩, true)) (w : World) :
    Calls Tryd.prog 12 #[.agg #[.int .i64 pr, .int .i64 pp], .int .i64 s, .agg #[.int .i64 br, .int .i64 bp], .int .i64 i] w fun e w' => e = .returned (.tuple #[.int .i64 1, .agg #[.int .i64 nr, .int .i64 np], .int .i64 0]) ∧ Below w.heap.size w w' := by
  have C1 := rwhere_any s i
  rw [hw] at C1
  have C1 := Lib.hid C1
  clear hw
  have C2 := rpromise_any ⟨pr, pp⟩ ⟨br, bp⟩
  rw [hp] at C2
  simp only [Ba.cells] at C2
  have C2 := Lib.hid C2
  clear hp
  have KB := Lib.hid (Below.refl w.heap.size w)
  go_enter Tryd.func12, Tryd.ntmps12
  go_wp2_with fail
  refine (C1.out _).mono ?_
  rintro e1 u1 ⟨rfl, rfl⟩
  go_wp2_with fail
  refine (C2.out _).mono ?_
  rintro e2 u2 ⟨rfl, hb⟩
  have H_p : Whole u2 (w.heap.size) 23 _ := Whole.below (((Whole.new _ 23 _).alloc _).alloc _) hb (by first | omega | (simp; done) | (simp; omega) | (simp at *; omega))
  have H_b : Whole u2 (w.heap.size + 1) 23 _ := Whole.below ((wh_at w 1 _ 23 _ (by simp)).alloc _) hb (by first | omega | (simp; done) | (simp; omega) | (simp at *; omega))
  have H_res : Whole u2 (w.heap.size + 2) 23 _ := Whole.below (wh_at w 2 _ 23 _ (by simp)) hb (by first | omega | (simp; done) | (simp; omega) | (simp at *; omega))
  have HB := (((KB.out.alloc (by first | omega | (simp; done) | (simp; omega) | (simp at *; omega)) _).alloc (by first | omega | (simp; done) | (simp; omega) | (simp at *; omega)) _).alloc (by first | omega | (simp; done) | (simp; omega) | (simp at *; omega)) _).trans (hb.mono (by first | omega | (simp; done) | (simp; omega) | (simp at *; omega)))
  clear hb KB
  have z_u2 := HB.size
  have c_p_0 := H_p.cell 0; have f_p_0 := H_p.free 0; have c_p_1 := H_p.cell 1; have f_p_1 := H_p.free 1
  simp only [List.set_cons_zero, List.set_cons_succ, List.getElem?_cons_zero, List.getElem?_cons_succ] at c_p_0 c_p_1
  have c_b_0 := H_b.cell 0; have f_b_0 := H_b.free 0; have c_b_1 := H_b.cell 1; have f_b_1 := H_b.free 1
  simp only [List.set_cons_zero, List.set_cons_succ, List.getElem?_cons_zero, List.getElem?_cons_succ] at c_b_0 c_b_1
  have c_res_0 := H_res.cell 0; have f_res_0 := H_res.free 0; have c_res_1 := H_res.cell 1; have f_res_1 := H_res.free 1
  simp only [List.set_cons_zero, List.set_cons_succ, List.getElem?_cons_zero, List.getElem?_cons_succ] at c_res_0 c_res_1
  have l_p := H_p.lt; have K_p := Lib.hid H_p; clear H_p
  have l_b := H_b.lt; have K_b := Lib.hid H_b; clear H_b
  have l_res := H_res.lt; have K_res := Lib.hid H_res; clear H_res
  have KB := Lib.hid HB; clear HB
  go_wp2_with fail
  obtain ⟨W3, hW⟩ : ∃ W : World, W = (u2.alloc (.cells #[.int .i64 nr, .int .i64 np] 23)) := ⟨_, rfl⟩
  have H_p : Whole W3 (w.heap.size) 23 [.int .i64 pr, .int .i64 pp] := by rw [hW]; exact (K_p.out.alloc _)
  have H_b : Whole W3 (w.heap.size + 1) 23 [.int .i64 br, .int .i64 bp] := by rw [hW]; exact (K_b.out.alloc _)
  have H_res : Whole W3 (w.heap.size + 2) 23 [.int .i64 0, .int .i64 0] := by rw [hW]; exact (K_res.out.alloc _)
  have H_now : Whole W3 (u2.heap.size) 23 [.int .i64 nr, .int .i64 np] := by rw [hW]; exact (Whole.new _ 23 _)
  have HB : Below w.heap.size w W3 := by rw [hW]; exact (KB.out.alloc (by first | omega | (simp; done) | (simp; omega) | (simp at *; omega)) _)
  rw [← hW]
  clear c_p_0 c_p_1 f_p_0 f_p_1 c_b_0 c_b_1 f_b_0 f_b_1 c_res_0 c_res_1 f_res_0 f_res_1 l_p l_b l_res
  clear hW KB K_p K_b K_res
  have z_W3 := HB.size
  have c_p_0 := H_p.cell 0; have f_p_0 := H_p.free 0; have c_p_1 := H_p.cell 1; have f_p_1 := H_p.free 1
  simp only [List.set_cons_zero, List.set_cons_succ, List.getElem?_cons_zero, List.getElem?_cons_succ] at c_p_0 c_p_1
  have c_b_0 := H_b.cell 0; have f_b_0 := H_b.free 0; have c_b_1 := H_b.cell 1; have f_b_1 := H_b.free 1
  simp only [List.set_cons_zero, List.set_cons_succ, List.getElem?_cons_zero, List.getElem?_cons_succ] at c_b_0 c_b_1
  have c_res_0 := H_res.cell 0; have f_res_0 := H_res.free 0; have c_res_1 := H_res.cell 1; have f_res_1 := H_res.free 1
  simp only [List.set_cons_zero, List.set_cons_succ, List.getElem?_cons_zero, List.getElem?_cons_succ] at c_res_0 c_res_1
  have c_now_0 := H_now.cell 0; have f_now_0 := H_now.free 0; have c_now_1 := H_now.cell 1; have f_now_1 := H_now.free 1
  simp only [List.set_cons_zero, List.set_cons_succ, List.getElem?_cons_zero, List.getElem?_cons_succ] at c_now_0 c_now_1
  have l_p := H_p.lt; have K_p := Lib.hid H_p; clear H_p
  have l_b := H_b.lt; have K_b := Lib.hid H_b; clear H_b
  have l_res := H_res.lt; have K_res := Lib.hid H_res; clear H_res
  have l_now := H_now.lt; have K_now := Lib.hid H_now; clear H_now
  have KB := Lib.hid HB; clear HB
  go_region
  all_goals go_wp2
  all_goals refine bodyPost_ret (v := .tuple #[.int .i64 1, .agg #[.int .i64 nr, .int .i64 np], .int .i64 0]) (by simp [results, Tryd.results12, go_sem, c_p_0, c_p_1, f_p_0, f_p_1, c_b_0, c_b_1, f_b_0, f_b_1, c_res_0, c_res_1, f_res_0, f_res_1, c_now_0, c_now_1, f_now_0, f_now_1]) rfl ⟨rfl, ?_⟩
  all_goals exact (((KB.out.setCell (p := ⟨w.heap.size + 2, 0, none⟩) (by first | omega | (simp; done) | (simp; omega) | (simp at *; omega)) _).setCell (p := ⟨w.heap.size + 2, 1, none⟩) (by first | omega | (simp; done) | (simp; omega) | (simp at *; omega)) _).drew)

set_option maxHeartbeats 1000000 in
theorem raccept_ins (pr pp br bp s i nr np : Int) (hw : whereZ s i = (1, 0)) (hp : promise ⟨pr, pp⟩ ⟨br, bp⟩ = (⟨nr, np⟩, true)) (w : World) :
    Calls Tryd.prog 12 #[.agg #[.int .i64 pr, .int .i64 pp], .int .i64 s, .agg #[.int .i64 br, .int .i64 bp], .int .i64 i] w fun e w' => e = .returned (.tuple #[.int .i64 3, .agg #[.int .i64 nr, .int .i64 np], .int .i64 0]) ∧ Below w.heap.size w w' := by
  have C1 := rwhere_any s i
  rw [hw] at C1
  have C1 := Lib.hid C1
  clear hw
  have C2 := rpromise_any ⟨pr, pp⟩ ⟨br, bp⟩
  rw [hp] at C2
  simp only [Ba.cells] at C2
  have C2 := Lib.hid C2
  clear hp
  have KB := Lib.hid (Below.refl w.heap.size w)
  go_enter Tryd.func12, Tryd.ntmps12
  go_wp2_with fail
  refine (C1.out _).mono ?_
  rintro e1 u1 ⟨rfl, rfl⟩
  go_wp2_with fail
  refine (C2.out _).mono ?_
  rintro e2 u2 ⟨rfl, hb⟩
  have H_p : Whole u2 (w.heap.size) 23 _ := Whole.below (((Whole.new _ 23 _).alloc _).alloc _) hb (by first | omega | (simp; done) | (simp; omega) | (simp at *; omega))
  have H_b : Whole u2 (w.heap.size + 1) 23 _ := Whole.below ((wh_at w 1 _ 23 _ (by simp)).alloc _) hb (by first | omega | (simp; done) | (simp; omega) | (simp at *; omega))
  have H_res : Whole u2 (w.heap.size + 2) 23 _ := Whole.below (wh_at w 2 _ 23 _ (by simp)) hb (by first | omega | (simp; done) | (simp; omega) | (simp at *; omega))
  have HB := (((KB.out.alloc (by first | omega | (simp; done) | (simp; omega) | (simp at *; omega)) _).alloc (by first | omega | (simp; done) | (simp; omega) | (simp at *; omega)) _).alloc (by first | omega | (simp; done) | (simp; omega) | (simp at *; omega)) _).trans (hb.mono (by first | omega | (simp; done) | (simp; omega) | (simp at *; omega)))
  clear hb KB
  have z_u2 := HB.size
  have c_p_0 := H_p.cell 0; have f_p_0 := H_p.free 0; have c_p_1 := H_p.cell 1; have f_p_1 := H_p.free 1
  simp only [List.set_cons_zero, List.set_cons_succ, List.getElem?_cons_zero, List.getElem?_cons_succ] at c_p_0 c_p_1
  have c_b_0 := H_b.cell 0; have f_b_0 := H_b.free 0; have c_b_1 := H_b.cell 1; have f_b_1 := H_b.free 1
  simp only [List.set_cons_zero, List.set_cons_succ, List.getElem?_cons_zero, List.getElem?_cons_succ] at c_b_0 c_b_1
  have c_res_0 := H_res.cell 0; have f_res_0 := H_res.free 0; have c_res_1 := H_res.cell 1; have f_res_1 := H_res.free 1
  simp only [List.set_cons_zero, List.set_cons_succ, List.getElem?_cons_zero, List.getElem?_cons_succ] at c_res_0 c_res_1
  have l_p := H_p.lt; have K_p := Lib.hid H_p; clear H_p
  have l_b := H_b.lt; have K_b := Lib.hid H_b; clear H_b
  have l_res := H_res.lt; have K_res := Lib.hid H_res; clear H_res
  have KB := Lib.hid HB; clear HB
  go_wp2_with fail
  obtain ⟨W3, hW⟩ : ∃ W : World, W = (u2.alloc (.cells #[.int .i64 nr, .int .i64 np] 23)) := ⟨_, rfl⟩
  have H_p : Whole W3 (w.heap.size) 23 [.int .i64 pr, .int .i64 pp] := by rw [hW]; exact (K_p.out.alloc _)
  have H_b : Whole W3 (w.heap.size + 1) 23 [.int .i64 br, .int .i64 bp] := by rw [hW]; exact (K_b.out.alloc _)
  have H_res : Whole W3 (w.heap.size + 2) 23 [.int .i64 0, .int .i64 0] := by rw [hW]; exact (K_res.out.alloc _)
  have H_now : Whole W3 (u2.heap.size) 23 [.int .i64 nr, .int .i64 np] := by rw [hW]; exact (Whole.new _ 23 _)
  have HB : Below w.heap.size w W3 := by rw [hW]; exact (KB.out.alloc (by first | omega | (simp; done) | (simp; omega) | (simp at *; omega)) _)
  rw [← hW]
  clear c_p_0 c_p_1 f_p_0 f_p_1 c_b_0 c_b_1 f_b_0 f_b_1 c_res_0 c_res_1 f_res_0 f_res_1 l_p l_b l_res
  clear hW KB K_p K_b K_res
  have z_W3 := HB.size
  have c_p_0 := H_p.cell 0; have f_p_0 := H_p.free 0; have c_p_1 := H_p.cell 1; have f_p_1 := H_p.free 1
  simp only [List.set_cons_zero, List.set_cons_succ, List.getElem?_cons_zero, List.getElem?_cons_succ] at c_p_0 c_p_1
  have c_b_0 := H_b.cell 0; have f_b_0 := H_b.free 0; have c_b_1 := H_b.cell 1; have f_b_1 := H_b.free 1
  simp only [List.set_cons_zero, List.set_cons_succ, List.getElem?_cons_zero, List.getElem?_cons_succ] at c_b_0 c_b_1
  have c_res_0 := H_res.cell 0; have f_res_0 := H_res.free 0; have c_res_1 := H_res.cell 1; have f_res_1 := H_res.free 1
  simp only [List.set_cons_zero, List.set_cons_succ, List.getElem?_cons_zero, List.getElem?_cons_succ] at c_res_0 c_res_1
  have c_now_0 := H_now.cell 0; have f_now_0 := H_now.free 0; have c_now_1 := H_now.cell 1; have f_now_1 := H_now.free 1
  simp only [List.set_cons_zero, List.set_cons_succ, List.getElem?_cons_zero, List.getElem?_cons_succ] at c_now_0 c_now_1
  have l_p := H_p.lt; have K_p := Lib.hid H_p; clear H_p
  have l_b := H_b.lt; have K_b := Lib.hid H_b; clear H_b
  have l_res := H_res.lt; have K_res := Lib.hid H_res; clear H_res
  have l_now := H_now.lt; have K_now := Lib.hid H_now; clear H_now
  have KB := Lib.hid HB; clear HB
  go_region
  all_goals go_wp2
  all_goals refine bodyPost_ret (v := .tuple #[.int .i64 3, .agg #[.int .i64 nr, .int .i64 np], .int .i64 0]) (by simp [results, Tryd.results12, go_sem, c_p_0, c_p_1, f_p_0, f_p_1, c_b_0, c_b_1, f_b_0, f_b_1, c_res_0, c_res_1, f_res_0, f_res_1, c_now_0, c_now_1, f_now_0, f_now_1]) rfl ⟨rfl, ?_⟩
  all_goals exact (((KB.out.setCell (p := ⟨w.heap.size + 2, 0, none⟩) (by first | omega | (simp; done) | (simp; omega) | (simp at *; omega)) _).setCell (p := ⟨w.heap.size + 2, 1, none⟩) (by first | omega | (simp; done) | (simp; omega) | (simp at *; omega)) _).drew)

set_option maxHeartbeats 1000000 in
theorem raccept_bey (pr pp br bp s i nr np : Int) (hw : whereZ s i = (2, 0)) (hp : promise ⟨pr, pp⟩ ⟨br, bp⟩ = (⟨nr, np⟩, true)) (w : World) :
    Calls Tryd.prog 12 #[.agg #[.int .i64 pr, .int .i64 pp], .int .i64 s, .agg #[.int .i64 br, .int .i64 bp], .int .i64 i] w fun e w' => e = .returned (.tuple #[.int .i64 2, .agg #[.int .i64 nr, .int .i64 np], .int .i64 0]) ∧ Below w.heap.size w w' := by
  have C1 := rwhere_any s i
  rw [hw] at C1
  have C1 := Lib.hid C1
  clear hw
  have C2 := rpromise_any ⟨pr, pp⟩ ⟨br, bp⟩
  rw [hp] at C2
  simp only [Ba.cells] at C2
  have C2 := Lib.hid C2
  clear hp
  have KB := Lib.hid (Below.refl w.heap.size w)
  go_enter Tryd.func12, Tryd.ntmps12
  go_wp2_with fail
  refine (C1.out _).mono ?_
  rintro e1 u1 ⟨rfl, rfl⟩
  go_wp2_with fail
  refine (C2.out _).mono ?_
  rintro e2 u2 ⟨rfl, hb⟩
  have H_p : Whole u2 (w.heap.size) 23 _ := Whole.below (((Whole.new _ 23 _).alloc _).alloc _) hb (by first | omega | (simp; done) | (simp; omega) | (simp at *; omega))
  have H_b : Whole u2 (w.heap.size + 1) 23 _ := Whole.below ((wh_at w 1 _ 23 _ (by simp)).alloc _) hb (by first | omega | (simp; done) | (simp; omega) | (simp at *; omega))
  have H_res : Whole u2 (w.heap.size + 2) 23 _ := Whole.below (wh_at w 2 _ 23 _ (by simp)) hb (by first | omega | (simp; done) | (simp; omega) | (simp at *; omega))
  have HB := (((KB.out.alloc (by first | omega | (simp; done) | (simp; omega) | (simp at *; omega)) _).alloc (by first | omega | (simp; done) | (simp; omega) | (simp at *; omega)) _).alloc (by first | omega | (simp; done) | (simp; omega) | (simp at *; omega)) _).trans (hb.mono (by first | omega | (simp; done) | (simp; omega) | (simp at *; omega)))
  clear hb KB
  have z_u2 := HB.size
  have c_p_0 := H_p.cell 0; have f_p_0 := H_p.free 0; have c_p_1 := H_p.cell 1; have f_p_1 := H_p.free 1
  simp only [List.set_cons_zero, List.set_cons_succ, List.getElem?_cons_zero, List.getElem?_cons_succ] at c_p_0 c_p_1
  have c_b_0 := H_b.cell 0; have f_b_0 := H_b.free 0; have c_b_1 := H_b.cell 1; have f_b_1 := H_b.free 1
  simp only [List.set_cons_zero, List.set_cons_succ, List.getElem?_cons_zero, List.getElem?_cons_succ] at c_b_0 c_b_1
  have c_res_0 := H_res.cell 0; have f_res_0 := H_res.free 0; have c_res_1 := H_res.cell 1; have f_res_1 := H_res.free 1
  simp only [List.set_cons_zero, List.set_cons_succ, List.getElem?_cons_zero, List.getElem?_cons_succ] at c_res_0 c_res_1
  have l_p := H_p.lt; have K_p := Lib.hid H_p; clear H_p
  have l_b := H_b.lt; have K_b := Lib.hid H_b; clear H_b
  have l_res := H_res.lt; have K_res := Lib.hid H_res; clear H_res
  have KB := Lib.hid HB; clear HB
  go_wp2_with fail
  obtain ⟨W3, hW⟩ : ∃ W : World, W = (u2.alloc (.cells #[.int .i64 nr, .int .i64 np] 23)) := ⟨_, rfl⟩
  have H_p : Whole W3 (w.heap.size) 23 [.int .i64 pr, .int .i64 pp] := by rw [hW]; exact (K_p.out.alloc _)
  have H_b : Whole W3 (w.heap.size + 1) 23 [.int .i64 br, .int .i64 bp] := by rw [hW]; exact (K_b.out.alloc _)
  have H_res : Whole W3 (w.heap.size + 2) 23 [.int .i64 0, .int .i64 0] := by rw [hW]; exact (K_res.out.alloc _)
  have H_now : Whole W3 (u2.heap.size) 23 [.int .i64 nr, .int .i64 np] := by rw [hW]; exact (Whole.new _ 23 _)
  have HB : Below w.heap.size w W3 := by rw [hW]; exact (KB.out.alloc (by first | omega | (simp; done) | (simp; omega) | (simp at *; omega)) _)
  rw [← hW]
  clear c_p_0 c_p_1 f_p_0 f_p_1 c_b_0 c_b_1 f_b_0 f_b_1 c_res_0 c_res_1 f_res_0 f_res_1 l_p l_b l_res
  clear hW KB K_p K_b K_res
  have z_W3 := HB.size
  have c_p_0 := H_p.cell 0; have f_p_0 := H_p.free 0; have c_p_1 := H_p.cell 1; have f_p_1 := H_p.free 1
  simp only [List.set_cons_zero, List.set_cons_succ, List.getElem?_cons_zero, List.getElem?_cons_succ] at c_p_0 c_p_1
  have c_b_0 := H_b.cell 0; have f_b_0 := H_b.free 0; have c_b_1 := H_b.cell 1; have f_b_1 := H_b.free 1
  simp only [List.set_cons_zero, List.set_cons_succ, List.getElem?_cons_zero, List.getElem?_cons_succ] at c_b_0 c_b_1
  have c_res_0 := H_res.cell 0; have f_res_0 := H_res.free 0; have c_res_1 := H_res.cell 1; have f_res_1 := H_res.free 1
  simp only [List.set_cons_zero, List.set_cons_succ, List.getElem?_cons_zero, List.getElem?_cons_succ] at c_res_0 c_res_1
  have c_now_0 := H_now.cell 0; have f_now_0 := H_now.free 0; have c_now_1 := H_now.cell 1; have f_now_1 := H_now.free 1
  simp only [List.set_cons_zero, List.set_cons_succ, List.getElem?_cons_zero, List.getElem?_cons_succ] at c_now_0 c_now_1
  have l_p := H_p.lt; have K_p := Lib.hid H_p; clear H_p
  have l_b := H_b.lt; have K_b := Lib.hid H_b; clear H_b
  have l_res := H_res.lt; have K_res := Lib.hid H_res; clear H_res
  have l_now := H_now.lt; have K_now := Lib.hid H_now; clear H_now
  have KB := Lib.hid HB; clear HB
  go_region
  all_goals go_wp2
  all_goals refine bodyPost_ret (v := .tuple #[.int .i64 2, .agg #[.int .i64 nr, .int .i64 np], .int .i64 0]) (by simp [results, Tryd.results12, go_sem, c_p_0, c_p_1, f_p_0, f_p_1, c_b_0, c_b_1, f_b_0, f_b_1, c_res_0, c_res_1, f_res_0, f_res_1, c_now_0, c_now_1, f_now_0, f_now_1]) rfl ⟨rfl, ?_⟩
  all_goals exact (((KB.out.setCell (p := ⟨w.heap.size + 2, 0, none⟩) (by first | omega | (simp; done) | (simp; omega) | (simp at *; omega)) _).setCell (p := ⟨w.heap.size + 2, 1, none⟩) (by first | omega | (simp; done) | (simp; omega) | (simp at *; omega)) _).drew)

theorem accept_any (p b : Ba) (s i : Int) (w : World) (ht : Tab w) :
    Calls Tryd.prog 11 #[.agg p.cells.toArray, .int .i64 s, .agg b.cells.toArray, .int .i64 i] w fun e w' => e = .returned (.tuple #[.int .u8 (accept p s b i).1, .agg (accept p s b i).2.1.cells.toArray, .int .i64 (accept p s b i).2.2]) ∧ Below w.heap.size w w' := by
  obtain ⟨pr, pp⟩ := p
  obtain ⟨br, bp⟩ := b
  rcases where_cases s i with ⟨_, h⟩ | ⟨_, _, h⟩ | ⟨_, _, _, h⟩ | ⟨_, _, _, h⟩
  · rw [show accept ⟨pr, pp⟩ s ⟨br, bp⟩ i = (0, zeroBa, 2) by unfold accept; rw [h]; rfl]
    exact accept_err pr pp br bp s i h w ht
  all_goals
    have ha : accept ⟨pr, pp⟩ s ⟨br, bp⟩ i = if (promise ⟨pr, pp⟩ ⟨br, bp⟩).2 then (doneZ (whereZ s i).1, (promise ⟨pr, pp⟩ ⟨br, bp⟩).1, 0) else (0, (promise ⟨pr, pp⟩ ⟨br, bp⟩).1, 0) := by unfold accept; rw [h]; rfl
    rw [ha, h]
    generalize hp : promise ⟨pr, pp⟩ ⟨br, bp⟩ = q
    obtain ⟨⟨nr, np⟩, y⟩ := q
    cases y
  · exact accept_no pr pp br bp s i nr np 0 h hp w ht
  · exact accept_cov pr pp br bp s i nr np h hp w ht
  · exact accept_no pr pp br bp s i nr np 1 h hp w ht
  · exact accept_ins pr pp br bp s i nr np h hp w ht
  · exact accept_no pr pp br bp s i nr np 2 h hp w ht
  · exact accept_bey pr pp br bp s i nr np h hp w ht

theorem raccept_any (p b : Ba) (s i : Int) (w : World) :
    Calls Tryd.prog 12 #[.agg p.cells.toArray, .int .i64 s, .agg b.cells.toArray, .int .i64 i] w fun e w' => e = .returned (.tuple #[.int .i64 (accept p s b i).1, .agg (accept p s b i).2.1.cells.toArray, .int .i64 (accept p s b i).2.2]) ∧ Below w.heap.size w w' := by
  obtain ⟨pr, pp⟩ := p
  obtain ⟨br, bp⟩ := b
  rcases where_cases s i with ⟨_, h⟩ | ⟨_, _, h⟩ | ⟨_, _, _, h⟩ | ⟨_, _, _, h⟩
  · rw [show accept ⟨pr, pp⟩ s ⟨br, bp⟩ i = (0, zeroBa, 2) by unfold accept; rw [h]; rfl]
    exact raccept_err pr pp br bp s i h w
  all_goals
    have ha : accept ⟨pr, pp⟩ s ⟨br, bp⟩ i = if (promise ⟨pr, pp⟩ ⟨br, bp⟩).2 then (doneZ (whereZ s i).1, (promise ⟨pr, pp⟩ ⟨br, bp⟩).1, 0) else (0, (promise ⟨pr, pp⟩ ⟨br, bp⟩).1, 0) := by unfold accept; rw [h]; rfl
    rw [ha, h]
    generalize hp : promise ⟨pr, pp⟩ ⟨br, bp⟩ = q
    obtain ⟨⟨nr, np⟩, y⟩ := q
    cases y
  · exact raccept_no pr pp br bp s i nr np 0 h hp w
  · exact raccept_cov pr pp br bp s i nr np h hp w
  · exact raccept_no pr pp br bp s i nr np 1 h hp w
  · exact raccept_ins pr pp br bp s i nr np h hp w
  · exact raccept_no pr pp br bp s i nr np 2 h hp w
  · exact raccept_bey pr pp br bp s i nr np h hp w


end Vo
end Go.Proofs.YtojkccdmnhppnaaDoor
