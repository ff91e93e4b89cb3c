/- The walk of the statement that what is promised once is promised again. -/
import Derived.Test.YtojkccdmnhppnaaDoorVoteAwake
import Derived.Test.YtojkccdmnhppnaaDoorBallotEql
set_option linter.unusedSimpArgs false
set_option linter.unusedVariables false
namespace Go.Proofs.YtojkccdmnhppnaaDoor
open Go.RowKit

namespace Vo
open Bl

attribute [local go_sem ↓] Bl.eql_ba Bl.neq_ba

set_option maxHeartbeats 4000000 in
theorem once_zero_err (pr pp br bp s i : Int) (hz : sameB ⟨br, bp⟩ ⟨0, 0⟩ = true) (h1 : promise ⟨pr, pp⟩ ⟨br, bp⟩ = (⟨pr, pp⟩, false)) (h2 : promise ⟨pr, pp⟩ ⟨br, bp⟩ = (⟨pr, pp⟩, false)) (h3 : accept ⟨pr, pp⟩ s ⟨br, bp⟩ i = (0, ⟨0, 0⟩, 2)) (w : World) (ht : Tab w) :
    Calls Tryd.prog 6 #[.agg #[.int .i64 pr, .int .i64 pp], .agg #[.int .i64 br, .int .i64 bp], .int .i64 s, .int .i64 i] w fun e w' => e = .returned (.bool true) ∧ Below w.heap.size w w' := by
  have C1 := promise_any ⟨pr, pp⟩ ⟨br, bp⟩
  have C2 := promise_any ⟨pr, pp⟩ ⟨br, bp⟩
  have C3 := accept_any ⟨pr, pp⟩ ⟨br, bp⟩ s i
  rw [h1] at C1
  rw [h2] at C2
  rw [h3] at C3
  have CL := less_any ⟨pr, pp⟩ ⟨br, bp⟩
  simp only [Ba.cells] at C1 C2 C3 CL
  have C1 := Lib.hid C1
  have C2 := Lib.hid C2
  have C3 := Lib.hid C3
  have CL := Lib.hid CL
  have AW := Lib.hid awake_any
  have HT := Lib.hid ht
  have s1 : sameB ⟨pr, pp⟩ ⟨pr, pp⟩ = true := same_self _
  clear ht h1 h2 h3
  have KB := Lib.hid (Below.refl w.heap.size w)
  go_enter Tryd.func6, Tryd.ntmps6
  go_wp2_with fail
  refine (AW.out _ (HT.out.below ((KB.out.alloc (by first | omega | (simp; done) | (simp; omega) | (simp at *; omega)) _).alloc (by first | omega | (simp; done) | (simp; omega) | (simp at *; omega)) _))).mono ?_
  rintro e1 u1 ⟨rfl, hb⟩
  have H_p : Whole u1 (w.heap.size) 23 _ := Whole.below ((Whole.new _ 23 _).alloc _) hb (by first | omega | (simp; done) | (simp; omega) | (simp at *; omega))
  have H_b : Whole u1 (w.heap.size + 1) 23 _ := Whole.below (wh_at w 1 _ 23 _ (by simp)) hb (by first | omega | (simp; done) | (simp; omega) | (simp at *; omega))
  have HB := ((KB.out.alloc (by first | omega | (simp; done) | (simp; omega) | (simp at *; omega)) _).alloc (by first | omega | (simp; done) | (simp; omega) | (simp at *; omega)) _).trans (hb.mono (by first | omega | (simp; done) | (simp; omega) | (simp at *; omega)))
  clear hb KB
  have z_u1 := HB.size
  have c_p_0 := H_p.cell 0; have f_p_0 := H_p.free 0; have c_p_1 := H_p.cell 1; have f_p_1 := H_p.free 1
  simp only [List.set_cons_zero, List.set_cons_succ, List.getElem?_cons_zero, List.getElem?_cons_succ] at c_p_0 c_p_1
  have c_b_0 := H_b.cell 0; have f_b_0 := H_b.free 0; have c_b_1 := H_b.cell 1; have f_b_1 := H_b.free 1
  simp only [List.set_cons_zero, List.set_cons_succ, List.getElem?_cons_zero, List.getElem?_cons_succ] at c_b_0 c_b_1
  have l_p := H_p.lt; have K_p := Lib.hid H_p; clear H_p
  have l_b := H_b.lt; have K_b := Lib.hid H_b; clear H_b
  have KB := Lib.hid HB; clear HB
  go_wp2_with fail
  refine (C1.out _).mono ?_
  rintro e2 u2 ⟨rfl, hb⟩
  have H_p : Whole u2 (w.heap.size) 23 _ := Whole.below K_p.out hb (by first | omega | (simp; done) | (simp; omega) | (simp at *; omega))
  have H_b : Whole u2 (w.heap.size + 1) 23 _ := Whole.below K_b.out hb (by first | omega | (simp; done) | (simp; omega) | (simp at *; omega))
  have HB := KB.out.trans (hb.mono (by first | omega | (simp; done) | (simp; omega) | (simp at *; omega)))
  clear c_p_0 c_p_1 f_p_0 f_p_1 c_b_0 c_b_1 f_b_0 f_b_1 l_p l_b
  clear hb KB K_p K_b
  have z_u2 := HB.size
  have c_p_0 := H_p.cell 0; have f_p_0 := H_p.free 0; have c_p_1 := H_p.cell 1; have f_p_1 := H_p.free 1
  simp only [List.set_cons_zero, List.set_cons_succ, List.getElem?_cons_zero, List.getElem?_cons_succ] at c_p_0 c_p_1
  have c_b_0 := H_b.cell 0; have f_b_0 := H_b.free 0; have c_b_1 := H_b.cell 1; have f_b_1 := H_b.free 1
  simp only [List.set_cons_zero, List.set_cons_succ, List.getElem?_cons_zero, List.getElem?_cons_succ] at c_b_0 c_b_1
  have l_p := H_p.lt; have K_p := Lib.hid H_p; clear H_p
  have l_b := H_b.lt; have K_b := Lib.hid H_b; clear H_b
  have KB := Lib.hid HB; clear HB
  go_wp2_with fail
  refine (C2.out _).mono ?_
  rintro e3 u3 ⟨rfl, hb⟩
  have H_p : Whole u3 (w.heap.size) 23 _ := Whole.below (K_p.out.alloc _) hb (by first | omega | (simp; done) | (simp; omega) | (simp at *; omega))
  have H_b : Whole u3 (w.heap.size + 1) 23 _ := Whole.below (K_b.out.alloc _) hb (by first | omega | (simp; done) | (simp; omega) | (simp at *; omega))
  have H_now : Whole u3 (u2.heap.size) 23 _ := Whole.below (Whole.new _ 23 _) hb (by first | omega | (simp; done) | (simp; omega) | (simp at *; omega))
  have HB := (KB.out.alloc (by first | omega | (simp; done) | (simp; omega) | (simp at *; omega)) _).trans (hb.mono (by first | omega | (simp; done) | (simp; omega) | (simp at *; omega)))
  clear c_p_0 c_p_1 f_p_0 f_p_1 c_b_0 c_b_1 f_b_0 f_b_1
  clear hb KB K_p K_b
  have z_u3 := HB.size
  have c_p_0 := H_p.cell 0; have f_p_0 := H_p.free 0; have c_p_1 := H_p.cell 1; have f_p_1 := H_p.free 1
  simp only [List.set_cons_zero, List.set_cons_succ, List.getElem?_cons_zero, List.getElem?_cons_succ] at c_p_0 c_p_1
  have c_b_0 := H_b.cell 0; have f_b_0 := H_b.free 0; have c_b_1 := H_b.cell 1; have f_b_1 := H_b.free 1
  simp only [List.set_cons_zero, List.set_cons_succ, List.getElem?_cons_zero, List.getElem?_cons_succ] at c_b_0 c_b_1
  have c_now_0 := H_now.cell 0; have f_now_0 := H_now.free 0; have c_now_1 := H_now.cell 1; have f_now_1 := H_now.free 1
  simp only [List.set_cons_zero, List.set_cons_succ, List.getElem?_cons_zero, List.getElem?_cons_succ] at c_now_0 c_now_1
  have l_p := H_p.lt; have K_p := Lib.hid H_p; clear H_p
  have l_b := H_b.lt; have K_b := Lib.hid H_b; clear H_b
  have l_now := H_now.lt; have K_now := Lib.hid H_now; clear H_now
  have KB := Lib.hid HB; clear HB
  go_wp2_with fail
  refine (C3.out _ (HT.out.below (KB.out.alloc (by first | omega | (simp; done) | (simp; omega) | (simp at *; omega)) _))).mono ?_
  rintro e4 u4 ⟨rfl, hb⟩
  have H_p : Whole u4 (w.heap.size) 23 _ := Whole.below (K_p.out.alloc _) hb (by first | omega | (simp; done) | (simp; omega) | (simp at *; omega))
  have H_b : Whole u4 (w.heap.size + 1) 23 _ := Whole.below (K_b.out.alloc _) hb (by first | omega | (simp; done) | (simp; omega) | (simp at *; omega))
  have H_now : Whole u4 (u2.heap.size) 23 _ := Whole.below (K_now.out.alloc _) hb (by first | omega | (simp; done) | (simp; omega) | (simp at *; omega))
  have H_again : Whole u4 (u3.heap.size) 23 _ := Whole.below (Whole.new _ 23 _) hb (by first | omega | (simp; done) | (simp; omega) | (simp at *; omega))
  have HB := (KB.out.alloc (by first | omega | (simp; done) | (simp; omega) | (simp at *; omega)) _).trans (hb.mono (by first | omega | (simp; done) | (simp; omega) | (simp at *; omega)))
  clear c_p_0 c_p_1 f_p_0 f_p_1 c_b_0 c_b_1 f_b_0 f_b_1 c_now_0 c_now_1 f_now_0 f_now_1
  clear hb KB K_p K_b K_now
  have z_u4 := HB.size
  have c_p_0 := H_p.cell 0; have f_p_0 := H_p.free 0; have c_p_1 := H_p.cell 1; have f_p_1 := H_p.free 1
  simp only [List.set_cons_zero, List.set_cons_succ, List.getElem?_cons_zero, List.getElem?_cons_succ] at c_p_0 c_p_1
  have c_b_0 := H_b.cell 0; have f_b_0 := H_b.free 0; have c_b_1 := H_b.cell 1; have f_b_1 := H_b.free 1
  simp only [List.set_cons_zero, List.set_cons_succ, List.getElem?_cons_zero, List.getElem?_cons_succ] at c_b_0 c_b_1
  have c_now_0 := H_now.cell 0; have f_now_0 := H_now.free 0; have c_now_1 := H_now.cell 1; have f_now_1 := H_now.free 1
  simp only [List.set_cons_zero, List.set_cons_succ, List.getElem?_cons_zero, List.getElem?_cons_succ] at c_now_0 c_now_1
  have c_again_0 := H_again.cell 0; have f_again_0 := H_again.free 0; have c_again_1 := H_again.cell 1; have f_again_1 := H_again.free 1
  simp only [List.set_cons_zero, List.set_cons_succ, List.getElem?_cons_zero, List.getElem?_cons_succ] at c_again_0 c_again_1
  have l_p := H_p.lt; have K_p := Lib.hid H_p; clear H_p
  have l_b := H_b.lt; have K_b := Lib.hid H_b; clear H_b
  have l_now := H_now.lt; have K_now := Lib.hid H_now; clear H_now
  have l_again := H_again.lt; have K_again := Lib.hid H_again; clear H_again
  have KB := Lib.hid HB; clear HB
  go_wp2_with fail
  go_ret
  exact ⟨by first | rfl | simp, (KB.out.alloc (by first | omega | (simp; done) | (simp; omega) | (simp at *; omega)) _)⟩

set_option maxHeartbeats 4000000 in
theorem once_less_err (pr pp br bp s i : Int) (hz : sameB ⟨br, bp⟩ ⟨0, 0⟩ = false) (hl : lessB ⟨pr, pp⟩ ⟨br, bp⟩ = false) (h1 : promise ⟨pr, pp⟩ ⟨br, bp⟩ = (⟨pr, pp⟩, false)) (h2 : promise ⟨pr, pp⟩ ⟨br, bp⟩ = (⟨pr, pp⟩, false)) (h3 : accept ⟨pr, pp⟩ s ⟨br, bp⟩ i = (0, ⟨0, 0⟩, 2)) (w : World) (ht : Tab w) :
    Calls Tryd.prog 6 #[.agg #[.int .i64 pr, .int .i64 pp], .agg #[.int .i64 br, .int .i64 bp], .int .i64 s, .int .i64 i] w fun e w' => e = .returned (.bool true) ∧ Below w.heap.size w w' := by
  have C1 := promise_any ⟨pr, pp⟩ ⟨br, bp⟩
  have C2 := promise_any ⟨pr, pp⟩ ⟨br, bp⟩
  have C3 := accept_any ⟨pr, pp⟩ ⟨br, bp⟩ s i
  rw [h1] at C1
  rw [h2] at C2
  rw [h3] at C3
  have CL := less_any ⟨pr, pp⟩ ⟨br, bp⟩
  simp only [Ba.cells] at C1 C2 C3 CL
  have C1 := Lib.hid C1
  have C2 := Lib.hid C2
  have C3 := Lib.hid C3
  have CL := Lib.hid CL
  have AW := Lib.hid awake_any
  have HT := Lib.hid ht
  have s1 : sameB ⟨pr, pp⟩ ⟨pr, pp⟩ = true := same_self _
  clear ht h1 h2 h3
  have KB := Lib.hid (Below.refl w.heap.size w)
  go_enter Tryd.func6, Tryd.ntmps6
  go_wp2_with fail
  refine (AW.out _ (HT.out.below ((KB.out.alloc (by first | omega | (simp; done) | (simp; omega) | (simp at *; omega)) _).alloc (by first | omega | (simp; done) | (simp; omega) | (simp at *; omega)) _))).mono ?_
  rintro e1 u1 ⟨rfl, hb⟩
  have H_p : Whole u1 (w.heap.size) 23 _ := Whole.below ((Whole.new _ 23 _).alloc _) hb (by first | omega | (simp; done) | (simp; omega) | (simp at *; omega))
  have H_b : Whole u1 (w.heap.size + 1) 23 _ := Whole.below (wh_at w 1 _ 23 _ (by simp)) hb (by first | omega | (simp; done) | (simp; omega) | (simp at *; omega))
  have HB := ((KB.out.alloc (by first | omega | (simp; done) | (simp; omega) | (simp at *; omega)) _).alloc (by first | omega | (simp; done) | (simp; omega) | (simp at *; omega)) _).trans (hb.mono (by first | omega | (simp; done) | (simp; omega) | (simp at *; omega)))
  clear hb KB
  have z_u1 := HB.size
  have c_p_0 := H_p.cell 0; have f_p_0 := H_p.free 0; have c_p_1 := H_p.cell 1; have f_p_1 := H_p.free 1
  simp only [List.set_cons_zero, List.set_cons_succ, List.getElem?_cons_zero, List.getElem?_cons_succ] at c_p_0 c_p_1
  have c_b_0 := H_b.cell 0; have f_b_0 := H_b.free 0; have c_b_1 := H_b.cell 1; have f_b_1 := H_b.free 1
  simp only [List.set_cons_zero, List.set_cons_succ, List.getElem?_cons_zero, List.getElem?_cons_succ] at c_b_0 c_b_1
  have l_p := H_p.lt; have K_p := Lib.hid H_p; clear H_p
  have l_b := H_b.lt; have K_b := Lib.hid H_b; clear H_b
  have KB := Lib.hid HB; clear HB
  go_wp2_with fail
  refine (C1.out _).mono ?_
  rintro e2 u2 ⟨rfl, hb⟩
  have H_p : Whole u2 (w.heap.size) 23 _ := Whole.below K_p.out hb (by first | omega | (simp; done) | (simp; omega) | (simp at *; omega))
  have H_b : Whole u2 (w.heap.size + 1) 23 _ := Whole.below K_b.out hb (by first | omega | (simp; done) | (simp; omega) | (simp at *; omega))
  have HB := KB.out.trans (hb.mono (by first | omega | (simp; done) | (simp; omega) | (simp at *; omega)))
  clear c_p_0 c_p_1 f_p_0 f_p_1 c_b_0 c_b_1 f_b_0 f_b_1 l_p l_b
  clear hb KB K_p K_b
  have z_u2 := HB.size
  have c_p_0 := H_p.cell 0; have f_p_0 := H_p.free 0; have c_p_1 := H_p.cell 1; have f_p_1 := H_p.free 1
  simp only [List.set_cons_zero, List.set_cons_succ, List.getElem?_cons_zero, List.getElem?_cons_succ] at c_p_0 c_p_1
  have c_b_0 := H_b.cell 0; have f_b_0 := H_b.free 0; have c_b_1 := H_b.cell 1; have f_b_1 := H_b.free 1
  simp only [List.set_cons_zero, List.set_cons_succ, List.getElem?_cons_zero, List.getElem?_cons_succ] at c_b_0 c_b_1
  have l_p := H_p.lt; have K_p := Lib.hid H_p; clear H_p
  have l_b := H_b.lt; have K_b := Lib.hid H_b; clear H_b
  have KB := Lib.hid HB; clear HB
  go_wp2_with fail
  refine (C2.out _).mono ?_
  rintro e3 u3 ⟨rfl, hb⟩
  have H_p : Whole u3 (w.heap.size) 23 _ := Whole.below (K_p.out.alloc _) hb (by first | omega | (simp; done) | (simp; omega) | (simp at *; omega))
  have H_b : Whole u3 (w.heap.size + 1) 23 _ := Whole.below (K_b.out.alloc _) hb (by first | omega | (simp; done) | (simp; omega) | (simp at *; omega))
  have H_now : Whole u3 (u2.heap.size) 23 _ := Whole.below (Whole.new _ 23 _) hb (by first | omega | (simp; done) | (simp; omega) | (simp at *; omega))
  have HB := (KB.out.alloc (by first | omega | (simp; done) | (simp; omega) | (simp at *; omega)) _).trans (hb.mono (by first | omega | (simp; done) | (simp; omega) | (simp at *; omega)))
  clear c_p_0 c_p_1 f_p_0 f_p_1 c_b_0 c_b_1 f_b_0 f_b_1
  clear hb KB K_p K_b
  have z_u3 := HB.size
  have c_p_0 := H_p.cell 0; have f_p_0 := H_p.free 0; have c_p_1 := H_p.cell 1; have f_p_1 := H_p.free 1
  simp only [List.set_cons_zero, List.set_cons_succ, List.getElem?_cons_zero, List.getElem?_cons_succ] at c_p_0 c_p_1
  have c_b_0 := H_b.cell 0; have f_b_0 := H_b.free 0; have c_b_1 := H_b.cell 1; have f_b_1 := H_b.free 1
  simp only [List.set_cons_zero, List.set_cons_succ, List.getElem?_cons_zero, List.getElem?_cons_succ] at c_b_0 c_b_1
  have c_now_0 := H_now.cell 0; have f_now_0 := H_now.free 0; have c_now_1 := H_now.cell 1; have f_now_1 := H_now.free 1
  simp only [List.set_cons_zero, List.set_cons_succ, List.getElem?_cons_zero, List.getElem?_cons_succ] at c_now_0 c_now_1
  have l_p := H_p.lt; have K_p := Lib.hid H_p; clear H_p
  have l_b := H_b.lt; have K_b := Lib.hid H_b; clear H_b
  have l_now := H_now.lt; have K_now := Lib.hid H_now; clear H_now
  have KB := Lib.hid HB; clear HB
  go_wp2_with fail
  refine (CL.out _).mono ?_
  rintro e4 u4 ⟨rfl, hb⟩
  have H_p : Whole u4 (w.heap.size) 23 _ := Whole.below (K_p.out.alloc _) hb (by first | omega | (simp; done) | (simp; omega) | (simp at *; omega))
  have H_b : Whole u4 (w.heap.size + 1) 23 _ := Whole.below (K_b.out.alloc _) hb (by first | omega | (simp; done) | (simp; omega) | (simp at *; omega))
  have H_now : Whole u4 (u2.heap.size) 23 _ := Whole.below (K_now.out.alloc _) hb (by first | omega | (simp; done) | (simp; omega) | (simp at *; omega))
  have H_again : Whole u4 (u3.heap.size) 23 _ := Whole.below (Whole.new _ 23 _) hb (by first | omega | (simp; done) | (simp; omega) | (simp at *; omega))
  have HB := (KB.out.alloc (by first | omega | (simp; done) | (simp; omega) | (simp at *; omega)) _).trans (hb.mono (by first | omega | (simp; done) | (simp; omega) | (simp at *; omega)))
  clear c_p_0 c_p_1 f_p_0 f_p_1 c_b_0 c_b_1 f_b_0 f_b_1 c_now_0 c_now_1 f_now_0 f_now_1
  clear hb KB K_p K_b K_now
  have z_u4 := HB.size
  have c_p_0 := H_p.cell 0; have f_p_0 := H_p.free 0; have c_p_1 := H_p.cell 1; have f_p_1 := H_p.free 1
  simp only [List.set_cons_zero, List.set_cons_succ, List.getElem?_cons_zero, List.getElem?_cons_succ] at c_p_0 c_p_1
  have c_b_0 := H_b.cell 0; have f_b_0 := H_b.free 0; have c_b_1 := H_b.cell 1; have f_b_1 := H_b.free 1
  simp only [List.set_cons_zero, List.set_cons_succ, List.getElem?_cons_zero, List.getElem?_cons_succ] at c_b_0 c_b_1
  have c_now_0 := H_now.cell 0; have f_now_0 := H_now.free 0; have c_now_1 := H_now.cell 1; have f_now_1 := H_now.free 1
  simp only [List.set_cons_zero, List.set_cons_succ, List.getElem?_cons_zero, List.getElem?_cons_succ] at c_now_0 c_now_1
  have c_again_0 := H_again.cell 0; have f_again_0 := H_again.free 0; have c_again_1 := H_again.cell 1; have f_again_1 := H_again.free 1
  simp only [List.set_cons_zero, List.set_cons_succ, List.getElem?_cons_zero, List.getElem?_cons_succ] at c_again_0 c_again_1
  have l_p := H_p.lt; have K_p := Lib.hid H_p; clear H_p
  have l_b := H_b.lt; have K_b := Lib.hid H_b; clear H_b
  have l_now := H_now.lt; have K_now := Lib.hid H_now; clear H_now
  have l_again := H_again.lt; have K_again := Lib.hid H_again; clear H_again
  have KB := Lib.hid HB; clear HB
  go_wp2_with fail
  refine (C3.out _ (HT.out.below KB.out)).mono ?_
  rintro e5 u5 ⟨rfl, hb⟩
  have H_p : Whole u5 (w.heap.size) 23 _ := Whole.below K_p.out hb (by first | omega | (simp; done) | (simp; omega) | (simp at *; omega))
  have H_b : Whole u5 (w.heap.size + 1) 23 _ := Whole.below K_b.out hb (by first | omega | (simp; done) | (simp; omega) | (simp at *; omega))
  have H_now : Whole u5 (u2.heap.size) 23 _ := Whole.below K_now.out hb (by first | omega | (simp; done) | (simp; omega) | (simp at *; omega))
  have H_again : Whole u5 (u3.heap.size) 23 _ := Whole.below K_again.out hb (by first | omega | (simp; done) | (simp; omega) | (simp at *; omega))
  have HB := KB.out.trans (hb.mono (by first | omega | (simp; done) | (simp; omega) | (simp at *; omega)))
  clear c_p_0 c_p_1 f_p_0 f_p_1 c_b_0 c_b_1 f_b_0 f_b_1 c_now_0 c_now_1 f_now_0 f_now_1 c_again_0 c_again_1 f_again_0 f_again_1 l_p l_b l_now l_again
  clear hb KB K_p K_b K_now K_again
  have z_u5 := HB.size
  have c_p_0 := H_p.cell 0; have f_p_0 := H_p.free 0; have c_p_1 := H_p.cell 1; have f_p_1 := H_p.free 1
  simp only [List.set_cons_zero, List.set_cons_succ, List.getElem?_cons_zero, List.getElem?_cons_succ] at c_p_0 c_p_1
  have c_b_0 := H_b.cell 0; have f_b_0 := H_b.free 0; have c_b_1 := H_b.cell 1; have f_b_1 := H_b.free 1
  simp only [List.set_cons_zero, List.set_cons_succ, List.getElem?_cons_zero, List.getElem?_cons_succ] at c_b_0 c_b_1
  have c_now_0 := H_now.cell 0; have f_now_0 := H_now.free 0; have c_now_1 := H_now.cell 1; have f_now_1 := H_now.free 1
  simp only [List.set_cons_zero, List.set_cons_succ, List.getElem?_cons_zero, List.getElem?_cons_succ] at c_now_0 c_now_1
  have c_again_0 := H_again.cell 0; have f_again_0 := H_again.free 0; have c_again_1 := H_again.cell 1; have f_again_1 := H_again.free 1
  simp only [List.set_cons_zero, List.set_cons_succ, List.getElem?_cons_zero, List.getElem?_cons_succ] at c_again_0 c_again_1
  have l_p := H_p.lt; have K_p := Lib.hid H_p; clear H_p
  have l_b := H_b.lt; have K_b := Lib.hid H_b; clear H_b
  have l_now := H_now.lt; have K_now := Lib.hid H_now; clear H_now
  have l_again := H_again.lt; have K_again := Lib.hid H_again; clear H_again
  have KB := Lib.hid HB; clear HB
  go_wp2_with fail
  go_ret
  exact ⟨by first | rfl | simp, (KB.out.alloc (by first | omega | (simp; done) | (simp; omega) | (simp at *; omega)) _)⟩

set_option maxHeartbeats 4000000 in
theorem once_yes1_err (pr pp br bp s i : Int) (hz : sameB ⟨br, bp⟩ ⟨0, 0⟩ = false) (hl : lessB ⟨pr, pp⟩ ⟨br, bp⟩ = true) (h1 : promise ⟨pr, pp⟩ ⟨br, bp⟩ = (⟨br, bp⟩, true)) (h2 : promise ⟨br, bp⟩ ⟨br, bp⟩ = (⟨br, bp⟩, true)) (h3 : accept ⟨br, bp⟩ s ⟨br, bp⟩ i = (0, ⟨0, 0⟩, 2)) (w : World) (ht : Tab w) :
    Calls Tryd.prog 6 #[.agg #[.int .i64 pr, .int .i64 pp], .agg #[.int .i64 br, .int .i64 bp], .int .i64 s, .int .i64 i] w fun e w' => e = .returned (.bool true) ∧ Below w.heap.size w w' := by
  have C1 := promise_any ⟨pr, pp⟩ ⟨br, bp⟩
  have C2 := promise_any ⟨br, bp⟩ ⟨br, bp⟩
  have C3 := accept_any ⟨br, bp⟩ ⟨br, bp⟩ s i
  rw [h1] at C1
  rw [h2] at C2
  rw [h3] at C3
  have CL := less_any ⟨pr, pp⟩ ⟨br, bp⟩
  simp only [Ba.cells] at C1 C2 C3 CL
  have C1 := Lib.hid C1
  have C2 := Lib.hid C2
  have C3 := Lib.hid C3
  have CL := Lib.hid CL
  have AW := Lib.hid awake_any
  have HT := Lib.hid ht
  have s1 : sameB ⟨br, bp⟩ ⟨br, bp⟩ = true := same_self _
  clear ht h1 h2 h3
  have KB := Lib.hid (Below.refl w.heap.size w)
  go_enter Tryd.func6, Tryd.ntmps6
  go_wp2_with fail
  refine (AW.out _ (HT.out.below ((KB.out.alloc (by first | omega | (simp; done) | (simp; omega) | (simp at *; omega)) _).alloc (by first | omega | (simp; done) | (simp; omega) | (simp at *; omega)) _))).mono ?_
  rintro e1 u1 ⟨rfl, hb⟩
  have H_p : Whole u1 (w.heap.size) 23 _ := Whole.below ((Whole.new _ 23 _).alloc _) hb (by first | omega | (simp; done) | (simp; omega) | (simp at *; omega))
  have H_b : Whole u1 (w.heap.size + 1) 23 _ := Whole.below (wh_at w 1 _ 23 _ (by simp)) hb (by first | omega | (simp; done) | (simp; omega) | (simp at *; omega))
  have HB := ((KB.out.alloc (by first | omega | (simp; done) | (simp; omega) | (simp at *; omega)) _).alloc (by first | omega | (simp; done) | (simp; omega) | (simp at *; omega)) _).trans (hb.mono (by first | omega | (simp; done) | (simp; omega) | (simp at *; omega)))
  clear hb KB
  have z_u1 := HB.size
  have c_p_0 := H_p.cell 0; have f_p_0 := H_p.free 0; have c_p_1 := H_p.cell 1; have f_p_1 := H_p.free 1
  simp only [List.set_cons_zero, List.set_cons_succ, List.getElem?_cons_zero, List.getElem?_cons_succ] at c_p_0 c_p_1
  have c_b_0 := H_b.cell 0; have f_b_0 := H_b.free 0; have c_b_1 := H_b.cell 1; have f_b_1 := H_b.free 1
  simp only [List.set_cons_zero, List.set_cons_succ, List.getElem?_cons_zero, List.getElem?_cons_succ] at c_b_0 c_b_1
  have l_p := H_p.lt; have K_p := Lib.hid H_p; clear H_p
  have l_b := H_b.lt; have K_b := Lib.hid H_b; clear H_b
  have KB := Lib.hid HB; clear HB
  go_wp2_with fail
  refine (C1.out _).mono ?_
  rintro e2 u2 ⟨rfl, hb⟩
  have H_p : Whole u2 (w.heap.size) 23 _ := Whole.below K_p.out hb (by first | omega | (simp; done) | (simp; omega) | (simp at *; omega))
  have H_b : Whole u2 (w.heap.size + 1) 23 _ := Whole.below K_b.out hb (by first | omega | (simp; done) | (simp; omega) | (simp at *; omega))
  have HB := KB.out.trans (hb.mono (by first | omega | (simp; done) | (simp; omega) | (simp at *; omega)))
  clear c_p_0 c_p_1 f_p_0 f_p_1 c_b_0 c_b_1 f_b_0 f_b_1 l_p l_b
  clear hb KB K_p K_b
  have z_u2 := HB.size
  have c_p_0 := H_p.cell 0; have f_p_0 := H_p.free 0; have c_p_1 := H_p.cell 1; have f_p_1 := H_p.free 1
  simp only [List.set_cons_zero, List.set_cons_succ, List.getElem?_cons_zero, List.getElem?_cons_succ] at c_p_0 c_p_1
  have c_b_0 := H_b.cell 0; have f_b_0 := H_b.free 0; have c_b_1 := H_b.cell 1; have f_b_1 := H_b.free 1
  simp only [List.set_cons_zero, List.set_cons_succ, List.getElem?_cons_zero, List.getElem?_cons_succ] at c_b_0 c_b_1
  have l_p := H_p.lt; have K_p := Lib.hid H_p; clear H_p
  have l_b := H_b.lt; have K_b := Lib.hid H_b; clear H_b
  have KB := Lib.hid HB; clear HB
  go_wp2_with fail
  refine (C2.out _).mono ?_
  rintro e3 u3 ⟨rfl, hb⟩
  have H_p : Whole u3 (w.heap.size) 23 _ := Whole.below (K_p.out.alloc _) hb (by first | omega | (simp; done) | (simp; omega) | (simp at *; omega))
  have H_b : Whole u3 (w.heap.size + 1) 23 _ := Whole.below (K_b.out.alloc _) hb (by first | omega | (simp; done) | (simp; omega) | (simp at *; omega))
  have H_now : Whole u3 (u2.heap.size) 23 _ := Whole.below (Whole.new _ 23 _) hb (by first | omega | (simp; done) | (simp; omega) | (simp at *; omega))
  have HB := (KB.out.alloc (by first | omega | (simp; done) | (simp; omega) | (simp at *; omega)) _).trans (hb.mono (by first | omega | (simp; done) | (simp; omega) | (simp at *; omega)))
  clear c_p_0 c_p_1 f_p_0 f_p_1 c_b_0 c_b_1 f_b_0 f_b_1
  clear hb KB K_p K_b
  have z_u3 := HB.size
  have c_p_0 := H_p.cell 0; have f_p_0 := H_p.free 0; have c_p_1 := H_p.cell 1; have f_p_1 := H_p.free 1
  simp only [List.set_cons_zero, List.set_cons_succ, List.getElem?_cons_zero, List.getElem?_cons_succ] at c_p_0 c_p_1
  have c_b_0 := H_b.cell 0; have f_b_0 := H_b.free 0; have c_b_1 := H_b.cell 1; have f_b_1 := H_b.free 1
  simp only [List.set_cons_zero, List.set_cons_succ, List.getElem?_cons_zero, List.getElem?_cons_succ] at c_b_0 c_b_1
  have c_now_0 := H_now.cell 0; have f_now_0 := H_now.free 0; have c_now_1 := H_now.cell 1; have f_now_1 := H_now.free 1
  simp only [List.set_cons_zero, List.set_cons_succ, List.getElem?_cons_zero, List.getElem?_cons_succ] at c_now_0 c_now_1
  have l_p := H_p.lt; have K_p := Lib.hid H_p; clear H_p
  have l_b := H_b.lt; have K_b := Lib.hid H_b; clear H_b
  have l_now := H_now.lt; have K_now := Lib.hid H_now; clear H_now
  have KB := Lib.hid HB; clear HB
  go_wp2_with fail
  refine (CL.out _).mono ?_
  rintro e4 u4 ⟨rfl, hb⟩
  have H_p : Whole u4 (w.heap.size) 23 _ := Whole.below (K_p.out.alloc _) hb (by first | omega | (simp; done) | (simp; omega) | (simp at *; omega))
  have H_b : Whole u4 (w.heap.size + 1) 23 _ := Whole.below (K_b.out.alloc _) hb (by first | omega | (simp; done) | (simp; omega) | (simp at *; omega))
  have H_now : Whole u4 (u2.heap.size) 23 _ := Whole.below (K_now.out.alloc _) hb (by first | omega | (simp; done) | (simp; omega) | (simp at *; omega))
  have H_again : Whole u4 (u3.heap.size) 23 _ := Whole.below (Whole.new _ 23 _) hb (by first | omega | (simp; done) | (simp; omega) | (simp at *; omega))
  have HB := (KB.out.alloc (by first | omega | (simp; done) | (simp; omega) | (simp at *; omega)) _).trans (hb.mono (by first | omega | (simp; done) | (simp; omega) | (simp at *; omega)))
  clear c_p_0 c_p_1 f_p_0 f_p_1 c_b_0 c_b_1 f_b_0 f_b_1 c_now_0 c_now_1 f_now_0 f_now_1
  clear hb KB K_p K_b K_now
  have z_u4 := HB.size
  have c_p_0 := H_p.cell 0; have f_p_0 := H_p.free 0; have c_p_1 := H_p.cell 1; have f_p_1 := H_p.free 1
  simp only [List.set_cons_zero, List.set_cons_succ, List.getElem?_cons_zero, List.getElem?_cons_succ] at c_p_0 c_p_1
  have c_b_0 := H_b.cell 0; have f_b_0 := H_b.free 0; have c_b_1 := H_b.cell 1; have f_b_1 := H_b.free 1
  simp only [List.set_cons_zero, List.set_cons_succ, List.getElem?_cons_zero, List.getElem?_cons_succ] at c_b_0 c_b_1
  have c_now_0 := H_now.cell 0; have f_now_0 := H_now.free 0; have c_now_1 := H_now.cell 1; have f_now_1 := H_now.free 1
  simp only [List.set_cons_zero, List.set_cons_succ, List.getElem?_cons_zero, List.getElem?_cons_succ] at c_now_0 c_now_1
  have c_again_0 := H_again.cell 0; have f_again_0 := H_again.free 0; have c_again_1 := H_again.cell 1; have f_again_1 := H_again.free 1
  simp only [List.set_cons_zero, List.set_cons_succ, List.getElem?_cons_zero, List.getElem?_cons_succ] at c_again_0 c_again_1
  have l_p := H_p.lt; have K_p := Lib.hid H_p; clear H_p
  have l_b := H_b.lt; have K_b := Lib.hid H_b; clear H_b
  have l_now := H_now.lt; have K_now := Lib.hid H_now; clear H_now
  have l_again := H_again.lt; have K_again := Lib.hid H_again; clear H_again
  have KB := Lib.hid HB; clear HB
  go_wp2_with fail
  refine (C3.out _ (HT.out.below KB.out)).mono ?_
  rintro e5 u5 ⟨rfl, hb⟩
  have H_p : Whole u5 (w.heap.size) 23 _ := Whole.below K_p.out hb (by first | omega | (simp; done) | (simp; omega) | (simp at *; omega))
  have H_b : Whole u5 (w.heap.size + 1) 23 _ := Whole.below K_b.out hb (by first | omega | (simp; done) | (simp; omega) | (simp at *; omega))
  have H_now : Whole u5 (u2.heap.size) 23 _ := Whole.below K_now.out hb (by first | omega | (simp; done) | (simp; omega) | (simp at *; omega))
  have H_again : Whole u5 (u3.heap.size) 23 _ := Whole.below K_again.out hb (by first | omega | (simp; done) | (simp; omega) | (simp at *; omega))
  have HB := KB.out.trans (hb.mono (by first | omega | (simp; done) | (simp; omega) | (simp at *; omega)))
  clear c_p_0 c_p_1 f_p_0 f_p_1 c_b_0 c_b_1 f_b_0 f_b_1 c_now_0 c_now_1 f_now_0 f_now_1 c_again_0 c_again_1 f_again_0 f_again_1 l_p l_b l_now l_again
  clear hb KB K_p K_b K_now K_again
  have z_u5 := HB.size
  have c_p_0 := H_p.cell 0; have f_p_0 := H_p.free 0; have c_p_1 := H_p.cell 1; have f_p_1 := H_p.free 1
  simp only [List.set_cons_zero, List.set_cons_succ, List.getElem?_cons_zero, List.getElem?_cons_succ] at c_p_0 c_p_1
  have c_b_0 := H_b.cell 0; have f_b_0 := H_b.free 0; have c_b_1 := H_b.cell 1; have f_b_1 := H_b.free 1
  simp only [List.set_cons_zero, List.set_cons_succ, List.getElem?_cons_zero, List.getElem?_cons_succ] at c_b_0 c_b_1
  have c_now_0 := H_now.cell 0; have f_now_0 := H_now.free 0; have c_now_1 := H_now.cell 1; have f_now_1 := H_now.free 1
  simp only [List.set_cons_zero, List.set_cons_succ, List.getElem?_cons_zero, List.getElem?_cons_succ] at c_now_0 c_now_1
  have c_again_0 := H_again.cell 0; have f_again_0 := H_again.free 0; have c_again_1 := H_again.cell 1; have f_again_1 := H_again.free 1
  simp only [List.set_cons_zero, List.set_cons_succ, List.getElem?_cons_zero, List.getElem?_cons_succ] at c_again_0 c_again_1
  have l_p := H_p.lt; have K_p := Lib.hid H_p; clear H_p
  have l_b := H_b.lt; have K_b := Lib.hid H_b; clear H_b
  have l_now := H_now.lt; have K_now := Lib.hid H_now; clear H_now
  have l_again := H_again.lt; have K_again := Lib.hid H_again; clear H_again
  have KB := Lib.hid HB; clear HB
  go_wp2_with fail
  go_ret
  exact ⟨by first | rfl | simp, (KB.out.alloc (by first | omega | (simp; done) | (simp; omega) | (simp at *; omega)) _)⟩

set_option maxHeartbeats 4000000 in
theorem once_yes2_err (pr pp br bp s i : Int) (hz : sameB ⟨br, bp⟩ ⟨0, 0⟩ = false) (hl : lessB ⟨pr, pp⟩ ⟨br, bp⟩ = false) (h1 : promise ⟨pr, pp⟩ ⟨br, bp⟩ = (⟨br, bp⟩, true)) (h2 : promise ⟨br, bp⟩ ⟨br, bp⟩ = (⟨br, bp⟩, true)) (h3 : accept ⟨br, bp⟩ s ⟨br, bp⟩ i = (0, ⟨0, 0⟩, 2)) (w : World) (ht : Tab w) :
    Calls Tryd.prog 6 #[.agg #[.int .i64 pr, .int .i64 pp], .agg #[.int .i64 br, .int .i64 bp], .int .i64 s, .int .i64 i] w fun e w' => e = .returned (.bool true) ∧ Below w.heap.size w w' := by
  have C1 := promise_any ⟨pr, pp⟩ ⟨br, bp⟩
  have C2 := promise_any ⟨br, bp⟩ ⟨br, bp⟩
  have C3 := accept_any ⟨br, bp⟩ ⟨br, bp⟩ s i
  rw [h1] at C1
  rw [h2] at C2
  rw [h3] at C3
  have CL := less_any ⟨pr, pp⟩ ⟨br, bp⟩
  simp only [Ba.cells] at C1 C2 C3 CL
  have C1 := Lib.hid C1
  have C2 := Lib.hid C2
  have C3 := Lib.hid C3
  have CL := Lib.hid CL
  have AW := Lib.hid awake_any
  have HT := Lib.hid ht
  have s1 : sameB ⟨br, bp⟩ ⟨br, bp⟩ = true := same_self _
  clear ht h1 h2 h3
  have KB := Lib.hid (Below.refl w.heap.size w)
  go_enter Tryd.func6, Tryd.ntmps6
  go_wp2_with fail
  refine (AW.out _ (HT.out.below ((KB.out.alloc (by first | omega | (simp; done) | (simp; omega) | (simp at *; omega)) _).alloc (by first | omega | (simp; done) | (simp; omega) | (simp at *; omega)) _))).mono ?_
  rintro e1 u1 ⟨rfl, hb⟩
  have H_p : Whole u1 (w.heap.size) 23 _ := Whole.below ((Whole.new _ 23 _).alloc _) hb (by first | omega | (simp; done) | (simp; omega) | (simp at *; omega))
  have H_b : Whole u1 (w.heap.size + 1) 23 _ := Whole.below (wh_at w 1 _ 23 _ (by simp)) hb (by first | omega | (simp; done) | (simp; omega) | (simp at *; omega))
  have HB := ((KB.out.alloc (by first | omega | (simp; done) | (simp; omega) | (simp at *; omega)) _).alloc (by first | omega | (simp; done) | (simp; omega) | (simp at *; omega)) _).trans (hb.mono (by first | omega | (simp; done) | (simp; omega) | (simp at *; omega)))
  clear hb KB
  have z_u1 := HB.size
  have c_p_0 := H_p.cell 0; have f_p_0 := H_p.free 0; have c_p_1 := H_p.cell 1; have f_p_1 := H_p.free 1
  simp only [List.set_cons_zero, List.set_cons_succ, List.getElem?_cons_zero, List.getElem?_cons_succ] at c_p_0 c_p_1
  have c_b_0 := H_b.cell 0; have f_b_0 := H_b.free 0; have c_b_1 := H_b.cell 1; have f_b_1 := H_b.free 1
  simp only [List.set_cons_zero, List.set_cons_succ, List.getElem?_cons_zero, List.getElem?_cons_succ] at c_b_0 c_b_1
  have l_p := H_p.lt; have K_p := Lib.hid H_p; clear H_p
  have l_b := H_b.lt; have K_b := Lib.hid H_b; clear H_b
  have KB := Lib.hid HB; clear HB
  go_wp2_with fail
  refine (C1.out _).mono ?_
  rintro e2 u2 ⟨rfl, hb⟩
  have H_p : Whole u2 (w.heap.size) 23 _ := Whole.below K_p.out hb (by first | omega | (simp; done) | (simp; omega) | (simp at *; omega))
  have H_b : Whole u2 (w.heap.size + 1) 23 _ := Whole.below K_b.out hb (by first | omega | (simp; done) | (simp; omega) | (simp at *; omega))
  have HB := KB.out.trans (hb.mono (by first | omega | (simp; done) | (simp; omega) | (simp at *; omega)))
  clear c_p_0 c_p_1 f_p_0 f_p_1 c_b_0 c_b_1 f_b_0 f_b_1 l_p l_b
  clear hb KB K_p K_b
  have z_u2 := HB.size
  have c_p_0 := H_p.cell 0; have f_p_0 := H_p.free 0; have c_p_1 := H_p.cell 1; have f_p_1 := H_p.free 1
  simp only [List.set_cons_zero, List.set_cons_succ, List.getElem?_cons_zero, List.getElem?_cons_succ] at c_p_0 c_p_1
  have c_b_0 := H_b.cell 0; have f_b_0 := H_b.free 0; have c_b_1 := H_b.cell 1; have f_b_1 := H_b.free 1
  simp only [List.set_cons_zero, List.set_cons_succ, List.getElem?_cons_zero, List.getElem?_cons_succ] at c_b_0 c_b_1
  have l_p := H_p.lt; have K_p := Lib.hid H_p; clear H_p
  have l_b := H_b.lt; have K_b := Lib.hid H_b; clear H_b
  have KB := Lib.hid HB; clear HB
  go_wp2_with fail
  refine (C2.out _).mono ?_
  rintro e3 u3 ⟨rfl, hb⟩
  have H_p : Whole u3 (w.heap.size) 23 _ := Whole.below (K_p.out.alloc _) hb (by first | omega | (simp; done) | (simp; omega) | (simp at *; omega))
  have H_b : Whole u3 (w.heap.size + 1) 23 _ := Whole.below (K_b.out.alloc _) hb (by first | omega | (simp; done) | (simp; omega) | (simp at *; omega))
  have H_now : Whole u3 (u2.heap.size) 23 _ := Whole.below (Whole.new _ 23 _) hb (by first | omega | (simp; done) | (simp; omega) | (simp at *; omega))
  have HB := (KB.out.alloc (by first | omega | (simp; done) | (simp; omega) | (simp at *; omega)) _).trans (hb.mono (by first | omega | (simp; done) | (simp; omega) | (simp at *; omega)))
  clear c_p_0 c_p_1 f_p_0 f_p_1 c_b_0 c_b_1 f_b_0 f_b_1
  clear hb KB K_p K_b
  have z_u3 := HB.size
  have c_p_0 := H_p.cell 0; have f_p_0 := H_p.free 0; have c_p_1 := H_p.cell 1; have f_p_1 := H_p.free 1
  simp only [List.set_cons_zero, List.set_cons_succ, List.getElem?_cons_zero, List.getElem?_cons_succ] at c_p_0 c_p_1
  have c_b_0 := H_b.cell 0; have f_b_0 := H_b.free 0; have c_b_1 := H_b.cell 1; have f_b_1 := H_b.free 1
  simp only [List.set_cons_zero, List.set_cons_succ, List.getElem?_cons_zero, List.getElem?_cons_succ] at c_b_0 c_b_1
  have c_now_0 := H_now.cell 0; have f_now_0 := H_now.free 0; have c_now_1 := H_now.cell 1; have f_now_1 := H_now.free 1
  simp only [List.set_cons_zero, List.set_cons_succ, List.getElem?_cons_zero, List.getElem?_cons_succ] at c_now_0 c_now_1
  have l_p := H_p.lt; have K_p := Lib.hid H_p; clear H_p
  have l_b := H_b.lt; have K_b := Lib.hid H_b; clear H_b
  have l_now := H_now.lt; have K_now := Lib.hid H_now; clear H_now
  have KB := Lib.hid HB; clear HB
  go_wp2_with fail
  refine (CL.out _).mono ?_
  rintro e4 u4 ⟨rfl, hb⟩
  have H_p : Whole u4 (w.heap.size) 23 _ := Whole.below (K_p.out.alloc _) hb (by first | omega | (simp; done) | (simp; omega) | (simp at *; omega))
  have H_b : Whole u4 (w.heap.size + 1) 23 _ := Whole.below (K_b.out.alloc _) hb (by first | omega | (simp; done) | (simp; omega) | (simp at *; omega))
  have H_now : Whole u4 (u2.heap.size) 23 _ := Whole.below (K_now.out.alloc _) hb (by first | omega | (simp; done) | (simp; omega) | (simp at *; omega))
  have H_again : Whole u4 (u3.heap.size) 23 _ := Whole.below (Whole.new _ 23 _) hb (by first | omega | (simp; done) | (simp; omega) | (simp at *; omega))
  have HB := (KB.out.alloc (by first | omega | (simp; done) | (simp; omega) | (simp at *; omega)) _).trans (hb.mono (by first | omega | (simp; done) | (simp; omega) | (simp at *; omega)))
  clear c_p_0 c_p_1 f_p_0 f_p_1 c_b_0 c_b_1 f_b_0 f_b_1 c_now_0 c_now_1 f_now_0 f_now_1
  clear hb KB K_p K_b K_now
  have z_u4 := HB.size
  have c_p_0 := H_p.cell 0; have f_p_0 := H_p.free 0; have c_p_1 := H_p.cell 1; have f_p_1 := H_p.free 1
  simp only [List.set_cons_zero, List.set_cons_succ, List.getElem?_cons_zero, List.getElem?_cons_succ] at c_p_0 c_p_1
  have c_b_0 := H_b.cell 0; have f_b_0 := H_b.free 0; have c_b_1 := H_b.cell 1; have f_b_1 := H_b.free 1
  simp only [List.set_cons_zero, List.set_cons_succ, List.getElem?_cons_zero, List.getElem?_cons_succ] at c_b_0 c_b_1
  have c_now_0 := H_now.cell 0; have f_now_0 := H_now.free 0; have c_now_1 := H_now.cell 1; have f_now_1 := H_now.free 1
  simp only [List.set_cons_zero, List.set_cons_succ, List.getElem?_cons_zero, List.getElem?_cons_succ] at c_now_0 c_now_1
  have c_again_0 := H_again.cell 0; have f_again_0 := H_again.free 0; have c_again_1 := H_again.cell 1; have f_again_1 := H_again.free 1
  simp only [List.set_cons_zero, List.set_cons_succ, List.getElem?_cons_zero, List.getElem?_cons_succ] at c_again_0 c_again_1
  have l_p := H_p.lt; have K_p := Lib.hid H_p; clear H_p
  have l_b := H_b.lt; have K_b := Lib.hid H_b; clear H_b
  have l_now := H_now.lt; have K_now := Lib.hid H_now; clear H_now
  have l_again := H_again.lt; have K_again := Lib.hid H_again; clear H_again
  have KB := Lib.hid HB; clear HB
  go_wp2_with fail
  refine (C3.out _ (HT.out.below KB.out)).mono ?_
  rintro e5 u5 ⟨rfl, hb⟩
  have H_p : Whole u5 (w.heap.size) 23 _ := Whole.below K_p.out hb (by first | omega | (simp; done) | (simp; omega) | (simp at *; omega))
  have H_b : Whole u5 (w.heap.size + 1) 23 _ := Whole.below K_b.out hb (by first | omega | (simp; done) | (simp; omega) | (simp at *; omega))
  have H_now : Whole u5 (u2.heap.size) 23 _ := Whole.below K_now.out hb (by first | omega | (simp; done) | (simp; omega) | (simp at *; omega))
  have H_again : Whole u5 (u3.heap.size) 23 _ := Whole.below K_again.out hb (by first | omega | (simp; done) | (simp; omega) | (simp at *; omega))
  have HB := KB.out.trans (hb.mono (by first | omega | (simp; done) | (simp; omega) | (simp at *; omega)))
  clear c_p_0 c_p_1 f_p_0 f_p_1 c_b_0 c_b_1 f_b_0 f_b_1 c_now_0 c_now_1 f_now_0 f_now_1 c_again_0 c_again_1 f_again_0 f_again_1 l_p l_b l_now l_again
  clear hb KB K_p K_b K_now K_again
  have z_u5 := HB.size
  have c_p_0 := H_p.cell 0; have f_p_0 := H_p.free 0; have c_p_1 := H_p.cell 1; have f_p_1 := H_p.free 1
  simp only [List.set_cons_zero, List.set_cons_succ, List.getElem?_cons_zero, List.getElem?_cons_succ] at c_p_0 c_p_1
  have c_b_0 := H_b.cell 0; have f_b_0 := H_b.free 0; have c_b_1 := H_b.cell 1; have f_b_1 := H_b.free 1
  simp only [List.set_cons_zero, List.set_cons_succ, List.getElem?_cons_zero, List.getElem?_cons_succ] at c_b_0 c_b_1
  have c_now_0 := H_now.cell 0; have f_now_0 := H_now.free 0; have c_now_1 := H_now.cell 1; have f_now_1 := H_now.free 1
  simp only [List.set_cons_zero, List.set_cons_succ, List.getElem?_cons_zero, List.getElem?_cons_succ] at c_now_0 c_now_1
  have c_again_0 := H_again.cell 0; have f_again_0 := H_again.free 0; have c_again_1 := H_again.cell 1; have f_again_1 := H_again.free 1
  simp only [List.set_cons_zero, List.set_cons_succ, List.getElem?_cons_zero, List.getElem?_cons_succ] at c_again_0 c_again_1
  have l_p := H_p.lt; have K_p := Lib.hid H_p; clear H_p
  have l_b := H_b.lt; have K_b := Lib.hid H_b; clear H_b
  have l_now := H_now.lt; have K_now := Lib.hid H_now; clear H_now
  have l_again := H_again.lt; have K_again := Lib.hid H_again; clear H_again
  have KB := Lib.hid HB; clear HB
  go_wp2_with fail
  go_ret
  exact ⟨by first | rfl | simp, (KB.out.alloc (by first | omega | (simp; done) | (simp; omega) | (simp at *; omega)) _)⟩

set_option maxHeartbeats 4000000 in
theorem once_zero (pr pp br bp s i : Int) (hz : sameB ⟨br, bp⟩ ⟨0, 0⟩ = true) (h1 : promise ⟨pr, pp⟩ ⟨br, bp⟩ = (⟨pr, pp⟩, false)) (h2 : promise ⟨pr, pp⟩ ⟨br, bp⟩ = (⟨pr, pp⟩, false)) (h3 : accept ⟨pr, pp⟩ s ⟨br, bp⟩ i = (0, ⟨pr, pp⟩, 0)) (w : World) (ht : Tab w) :
    Calls Tryd.prog 6 #[.agg #[.int .i64 pr, .int .i64 pp], .agg #[.int .i64 br, .int .i64 bp], .int .i64 s, .int .i64 i] w fun e w' => e = .returned (.bool true) ∧ Below w.heap.size w w' := by
  have C1 := promise_any ⟨pr, pp⟩ ⟨br, bp⟩
  have C2 := promise_any ⟨pr, pp⟩ ⟨br, bp⟩
  have C3 := accept_any ⟨pr, pp⟩ ⟨br, bp⟩ s i
  rw [h1] at C1
  rw [h2] at C2
  rw [h3] at C3
  have CL := less_any ⟨pr, pp⟩ ⟨br, bp⟩
  simp only [Ba.cells] at C1 C2 C3 CL
  have C1 := Lib.hid C1
  have C2 := Lib.hid C2
  have C3 := Lib.hid C3
  have CL := Lib.hid CL
  have AW := Lib.hid awake_any
  have HT := Lib.hid ht
  have s1 : sameB ⟨pr, pp⟩ ⟨pr, pp⟩ = true := same_self _
  clear ht h1 h2 h3
  have KB := Lib.hid (Below.refl w.heap.size w)
  go_enter Tryd.func6, Tryd.ntmps6
  go_wp2_with fail
  refine (AW.out _ (HT.out.below ((KB.out.alloc (by first | omega | (simp; done) | (simp; omega) | (simp at *; omega)) _).alloc (by first | omega | (simp; done) | (simp; omega) | (simp at *; omega)) _))).mono ?_
  rintro e1 u1 ⟨rfl, hb⟩
  have H_p : Whole u1 (w.heap.size) 23 _ := Whole.below ((Whole.new _ 23 _).alloc _) hb (by first | omega | (simp; done) | (simp; omega) | (simp at *; omega))
  have H_b : Whole u1 (w.heap.size + 1) 23 _ := Whole.below (wh_at w 1 _ 23 _ (by simp)) hb (by first | omega | (simp; done) | (simp; omega) | (simp at *; omega))
  have HB := ((KB.out.alloc (by first | omega | (simp; done) | (simp; omega) | (simp at *; omega)) _).alloc (by first | omega | (simp; done) | (simp; omega) | (simp at *; omega)) _).trans (hb.mono (by first | omega | (simp; done) | (simp; omega) | (simp at *; omega)))
  clear hb KB
  have z_u1 := HB.size
  have c_p_0 := H_p.cell 0; have f_p_0 := H_p.free 0; have c_p_1 := H_p.cell 1; have f_p_1 := H_p.free 1
  simp only [List.set_cons_zero, List.set_cons_succ, List.getElem?_cons_zero, List.getElem?_cons_succ] at c_p_0 c_p_1
  have c_b_0 := H_b.cell 0; have f_b_0 := H_b.free 0; have c_b_1 := H_b.cell 1; have f_b_1 := H_b.free 1
  simp only [List.set_cons_zero, List.set_cons_succ, List.getElem?_cons_zero, List.getElem?_cons_succ] at c_b_0 c_b_1
  have l_p := H_p.lt; have K_p := Lib.hid H_p; clear H_p
  have l_b := H_b.lt; have K_b := Lib.hid H_b; clear H_b
  have KB := Lib.hid HB; clear HB
  go_wp2_with fail
  refine (C1.out _).mono ?_
  rintro e2 u2 ⟨rfl, hb⟩
  have H_p : Whole u2 (w.heap.size) 23 _ := Whole.below K_p.out hb (by first | omega | (simp; done) | (simp; omega) | (simp at *; omega))
  have H_b : Whole u2 (w.heap.size + 1) 23 _ := Whole.below K_b.out hb (by first | omega | (simp; done) | (simp; omega) | (simp at *; omega))
  have HB := KB.out.trans (hb.mono (by first | omega | (simp; done) | (simp; omega) | (simp at *; omega)))
  clear c_p_0 c_p_1 f_p_0 f_p_1 c_b_0 c_b_1 f_b_0 f_b_1 l_p l_b
  clear hb KB K_p K_b
  have z_u2 := HB.size
  have c_p_0 := H_p.cell 0; have f_p_0 := H_p.free 0; have c_p_1 := H_p.cell 1; have f_p_1 := H_p.free 1
  simp only [List.set_cons_zero, List.set_cons_succ, List.getElem?_cons_zero, List.getElem?_cons_succ] at c_p_0 c_p_1
  have c_b_0 := H_b.cell 0; have f_b_0 := H_b.free 0; have c_b_1 := H_b.cell 1; have f_b_1 := H_b.free 1
  simp only [List.set_cons_zero, List.set_cons_succ, List.getElem?_cons_zero, List.getElem?_cons_succ] at c_b_0 c_b_1
  have l_p := H_p.lt; have K_p := Lib.hid H_p; clear H_p
  have l_b := H_b.lt; have K_b := Lib.hid H_b; clear H_b
  have KB := Lib.hid HB; clear HB
  go_wp2_with fail
  refine (C2.out _).mono ?_
  rintro e3 u3 ⟨rfl, hb⟩
  have H_p : Whole u3 (w.heap.size) 23 _ := Whole.below (K_p.out.alloc _) hb (by first | omega | (simp; done) | (simp; omega) | (simp at *; omega))
  have H_b : Whole u3 (w.heap.size + 1) 23 _ := Whole.below (K_b.out.alloc _) hb (by first | omega | (simp; done) | (simp; omega) | (simp at *; omega))
  have H_now : Whole u3 (u2.heap.size) 23 _ := Whole.below (Whole.new _ 23 _) hb (by first | omega | (simp; done) | (simp; omega) | (simp at *; omega))
  have HB := (KB.out.alloc (by first | omega | (simp; done) | (simp; omega) | (simp at *; omega)) _).trans (hb.mono (by first | omega | (simp; done) | (simp; omega) | (simp at *; omega)))
  clear c_p_0 c_p_1 f_p_0 f_p_1 c_b_0 c_b_1 f_b_0 f_b_1
  clear hb KB K_p K_b
  have z_u3 := HB.size
  have c_p_0 := H_p.cell 0; have f_p_0 := H_p.free 0; have c_p_1 := H_p.cell 1; have f_p_1 := H_p.free 1
  simp only [List.set_cons_zero, List.set_cons_succ, List.getElem?_cons_zero, List.getElem?_cons_succ] at c_p_0 c_p_1
  have c_b_0 := H_b.cell 0; have f_b_0 := H_b.free 0; have c_b_1 := H_b.cell 1; have f_b_1 := H_b.free 1
  simp only [List.set_cons_zero, List.set_cons_succ, List.getElem?_cons_zero, List.getElem?_cons_succ] at c_b_0 c_b_1
  have c_now_0 := H_now.cell 0; have f_now_0 := H_now.free 0; have c_now_1 := H_now.cell 1; have f_now_1 := H_now.free 1
  simp only [List.set_cons_zero, List.set_cons_succ, List.getElem?_cons_zero, List.getElem?_cons_succ] at c_now_0 c_now_1
  have l_p := H_p.lt; have K_p := Lib.hid H_p; clear H_p
  have l_b := H_b.lt; have K_b := Lib.hid H_b; clear H_b
  have l_now := H_now.lt; have K_now := Lib.hid H_now; clear H_now
  have KB := Lib.hid HB; clear HB
  go_wp2_with fail
  refine (C3.out _ (HT.out.below (KB.out.alloc (by first | omega | (simp; done) | (simp; omega) | (simp at *; omega)) _))).mono ?_
  rintro e4 u4 ⟨rfl, hb⟩
  have H_p : Whole u4 (w.heap.size) 23 _ := Whole.below (K_p.out.alloc _) hb (by first | omega | (simp; done) | (simp; omega) | (simp at *; omega))
  have H_b : Whole u4 (w.heap.size + 1) 23 _ := Whole.below (K_b.out.alloc _) hb (by first | omega | (simp; done) | (simp; omega) | (simp at *; omega))
  have H_now : Whole u4 (u2.heap.size) 23 _ := Whole.below (K_now.out.alloc _) hb (by first | omega | (simp; done) | (simp; omega) | (simp at *; omega))
  have H_again : Whole u4 (u3.heap.size) 23 _ := Whole.below (Whole.new _ 23 _) hb (by first | omega | (simp; done) | (simp; omega) | (simp at *; omega))
  have HB := (KB.out.alloc (by first | omega | (simp; done) | (simp; omega) | (simp at *; omega)) _).trans (hb.mono (by first | omega | (simp; done) | (simp; omega) | (simp at *; omega)))
  clear c_p_0 c_p_1 f_p_0 f_p_1 c_b_0 c_b_1 f_b_0 f_b_1 c_now_0 c_now_1 f_now_0 f_now_1
  clear hb KB K_p K_b K_now
  have z_u4 := HB.size
  have c_p_0 := H_p.cell 0; have f_p_0 := H_p.free 0; have c_p_1 := H_p.cell 1; have f_p_1 := H_p.free 1
  simp only [List.set_cons_zero, List.set_cons_succ, List.getElem?_cons_zero, List.getElem?_cons_succ] at c_p_0 c_p_1
  have c_b_0 := H_b.cell 0; have f_b_0 := H_b.free 0; have c_b_1 := H_b.cell 1; have f_b_1 := H_b.free 1
  simp only [List.set_cons_zero, List.set_cons_succ, List.getElem?_cons_zero, List.getElem?_cons_succ] at c_b_0 c_b_1
  have c_now_0 := H_now.cell 0; have f_now_0 := H_now.free 0; have c_now_1 := H_now.cell 1; have f_now_1 := H_now.free 1
  simp only [List.set_cons_zero, List.set_cons_succ, List.getElem?_cons_zero, List.getElem?_cons_succ] at c_now_0 c_now_1
  have c_again_0 := H_again.cell 0; have f_again_0 := H_again.free 0; have c_again_1 := H_again.cell 1; have f_again_1 := H_again.free 1
  simp only [List.set_cons_zero, List.set_cons_succ, List.getElem?_cons_zero, List.getElem?_cons_succ] at c_again_0 c_again_1
  have l_p := H_p.lt; have K_p := Lib.hid H_p; clear H_p
  have l_b := H_b.lt; have K_b := Lib.hid H_b; clear H_b
  have l_now := H_now.lt; have K_now := Lib.hid H_now; clear H_now
  have l_again := H_again.lt; have K_again := Lib.hid H_again; clear H_again
  have KB := Lib.hid HB; clear HB
  go_wp2_with fail
  go_ret
  exact ⟨by first | rfl | simp, (KB.out.alloc (by first | omega | (simp; done) | (simp; omega) | (simp at *; omega)) _)⟩

set_option maxHeartbeats 4000000 in
theorem once_less (pr pp br bp s i : Int) (hz : sameB ⟨br, bp⟩ ⟨0, 0⟩ = false) (hl : lessB ⟨pr, pp⟩ ⟨br, bp⟩ = false) (h1 : promise ⟨pr, pp⟩ ⟨br, bp⟩ = (⟨pr, pp⟩, false)) (h2 : promise ⟨pr, pp⟩ ⟨br, bp⟩ = (⟨pr, pp⟩, false)) (h3 : accept ⟨pr, pp⟩ s ⟨br, bp⟩ i = (0, ⟨pr, pp⟩, 0)) (w : World) (ht : Tab w) :
    Calls Tryd.prog 6 #[.agg #[.int .i64 pr, .int .i64 pp], .agg #[.int .i64 br, .int .i64 bp], .int .i64 s, .int .i64 i] w fun e w' => e = .returned (.bool true) ∧ Below w.heap.size w w' := by
  have C1 := promise_any ⟨pr, pp⟩ ⟨br, bp⟩
  have C2 := promise_any ⟨pr, pp⟩ ⟨br, bp⟩
  have C3 := accept_any ⟨pr, pp⟩ ⟨br, bp⟩ s i
  rw [h1] at C1
  rw [h2] at C2
  rw [h3] at C3
  have CL := less_any ⟨pr, pp⟩ ⟨br, bp⟩
  simp only [Ba.cells] at C1 C2 C3 CL
  have C1 := Lib.hid C1
  have C2 := Lib.hid C2
  have C3 := Lib.hid C3
  have CL := Lib.hid CL
  have AW := Lib.hid awake_any
  have HT := Lib.hid ht
  have s1 : sameB ⟨pr, pp⟩ ⟨pr, pp⟩ = true := same_self _
  clear ht h1 h2 h3
  have KB := Lib.hid (Below.refl w.heap.size w)
  go_enter Tryd.func6, Tryd.ntmps6
  go_wp2_with fail
  refine (AW.out _ (HT.out.below ((KB.out.alloc (by first | omega | (simp; done) | (simp; omega) | (simp at *; omega)) _).alloc (by first | omega | (simp; done) | (simp; omega) | (simp at *; omega)) _))).mono ?_
  rintro e1 u1 ⟨rfl, hb⟩
  have H_p : Whole u1 (w.heap.size) 23 _ := Whole.below ((Whole.new _ 23 _).alloc _) hb (by first | omega | (simp; done) | (simp; omega) | (simp at *; omega))
  have H_b : Whole u1 (w.heap.size + 1) 23 _ := Whole.below (wh_at w 1 _ 23 _ (by simp)) hb (by first | omega | (simp; done) | (simp; omega) | (simp at *; omega))
  have HB := ((KB.out.alloc (by first | omega | (simp; done) | (simp; omega) | (simp at *; omega)) _).alloc (by first | omega | (simp; done) | (simp; omega) | (simp at *; omega)) _).trans (hb.mono (by first | omega | (simp; done) | (simp; omega) | (simp at *; omega)))
  clear hb KB
  have z_u1 := HB.size
  have c_p_0 := H_p.cell 0; have f_p_0 := H_p.free 0; have c_p_1 := H_p.cell 1; have f_p_1 := H_p.free 1
  simp only [List.set_cons_zero, List.set_cons_succ, List.getElem?_cons_zero, List.getElem?_cons_succ] at c_p_0 c_p_1
  have c_b_0 := H_b.cell 0; have f_b_0 := H_b.free 0; have c_b_1 := H_b.cell 1; have f_b_1 := H_b.free 1
  simp only [List.set_cons_zero, List.set_cons_succ, List.getElem?_cons_zero, List.getElem?_cons_succ] at c_b_0 c_b_1
  have l_p := H_p.lt; have K_p := Lib.hid H_p; clear H_p
  have l_b := H_b.lt; have K_b := Lib.hid H_b; clear H_b
  have KB := Lib.hid HB; clear HB
  go_wp2_with fail
  refine (C1.out _).mono ?_
  rintro e2 u2 ⟨rfl, hb⟩
  have H_p : Whole u2 (w.heap.size) 23 _ := Whole.below K_p.out hb (by first | omega | (simp; done) | (simp; omega) | (simp at *; omega))
  have H_b : Whole u2 (w.heap.size + 1) 23 _ := Whole.below K_b.out hb (by first | omega | (simp; done) | (simp; omega) | (simp at *; omega))
  have HB := KB.out.trans (hb.mono (by first | omega | (simp; done) | (simp; omega) | (simp at *; omega)))
  clear c_p_0 c_p_1 f_p_0 f_p_1 c_b_0 c_b_1 f_b_0 f_b_1 l_p l_b
  clear hb KB K_p K_b
  have z_u2 := HB.size
  have c_p_0 := H_p.cell 0; have f_p_0 := H_p.free 0; have c_p_1 := H_p.cell 1; have f_p_1 := H_p.free 1
  simp only [List.set_cons_zero, List.set_cons_succ, List.getElem?_cons_zero, List.getElem?_cons_succ] at c_p_0 c_p_1
  have c_b_0 := H_b.cell 0; have f_b_0 := H_b.free 0; have c_b_1 := H_b.cell 1; have f_b_1 := H_b.free 1
  simp only [List.set_cons_zero, List.set_cons_succ, List.getElem?_cons_zero, List.getElem?_cons_succ] at c_b_0 c_b_1
  have l_p := H_p.lt; have K_p := Lib.hid H_p; clear H_p
  have l_b := H_b.lt; have K_b := Lib.hid H_b; clear H_b
  have KB := Lib.hid HB; clear HB
  go_wp2_with fail
  refine (C2.out _).mono ?_
  rintro e3 u3 ⟨rfl, hb⟩
  have H_p : Whole u3 (w.heap.size) 23 _ := Whole.below (K_p.out.alloc _) hb (by first | omega | (simp; done) | (simp; omega) | (simp at *; omega))
  have H_b : Whole u3 (w.heap.size + 1) 23 _ := Whole.below (K_b.out.alloc _) hb (by first | omega | (simp; done) | (simp; omega) | (simp at *; omega))
  have H_now : Whole u3 (u2.heap.size) 23 _ := Whole.below (Whole.new _ 23 _) hb (by first | omega | (simp; done) | (simp; omega) | (simp at *; omega))
  have HB := (KB.out.alloc (by first | omega | (simp; done) | (simp; omega) | (simp at *; omega)) _).trans (hb.mono (by first | omega | (simp; done) | (simp; omega) | (simp at *; omega)))
  clear c_p_0 c_p_1 f_p_0 f_p_1 c_b_0 c_b_1 f_b_0 f_b_1
  clear hb KB K_p K_b
  have z_u3 := HB.size
  have c_p_0 := H_p.cell 0; have f_p_0 := H_p.free 0; have c_p_1 := H_p.cell 1; have f_p_1 := H_p.free 1
  simp only [List.set_cons_zero, List.set_cons_succ, List.getElem?_cons_zero, List.getElem?_cons_succ] at c_p_0 c_p_1
  have c_b_0 := H_b.cell 0; have f_b_0 := H_b.free 0; have c_b_1 := H_b.cell 1; have f_b_1 := H_b.free 1
  simp only [List.set_cons_zero, List.set_cons_succ, List.getElem?_cons_zero, List.getElem?_cons_succ] at c_b_0 c_b_1
  have c_now_0 := H_now.cell 0; have f_now_0 := H_now.free 0; have c_now_1 := H_now.cell 1; have f_now_1 := H_now.free 1
  simp only [List.set_cons_zero, List.set_cons_succ, List.getElem?_cons_zero, List.getElem?_cons_succ] at c_now_0 c_now_1
  have l_p := H_p.lt; have K_p := Lib.hid H_p; clear H_p
  have l_b := H_b.lt; have K_b := Lib.hid H_b; clear H_b
  have l_now := H_now.lt; have K_now := Lib.hid H_now; clear H_now
  have KB := Lib.hid HB; clear HB
  go_wp2_with fail
  refine (CL.out _).mono ?_
  rintro e4 u4 ⟨rfl, hb⟩
  have H_p : Whole u4 (w.heap.size) 23 _ := Whole.below (K_p.out.alloc _) hb (by first | omega | (simp; done) | (simp; omega) | (simp at *; omega))
  have H_b : Whole u4 (w.heap.size + 1) 23 _ := Whole.below (K_b.out.alloc _) hb (by first | omega | (simp; done) | (simp; omega) | (simp at *; omega))
  have H_now : Whole u4 (u2.heap.size) 23 _ := Whole.below (K_now.out.alloc _) hb (by first | omega | (simp; done) | (simp; omega) | (simp at *; omega))
  have H_again : Whole u4 (u3.heap.size) 23 _ := Whole.below (Whole.new _ 23 _) hb (by first | omega | (simp; done) | (simp; omega) | (simp at *; omega))
  have HB := (KB.out.alloc (by first | omega | (simp; done) | (simp; omega) | (simp at *; omega)) _).trans (hb.mono (by first | omega | (simp; done) | (simp; omega) | (simp at *; omega)))
  clear c_p_0 c_p_1 f_p_0 f_p_1 c_b_0 c_b_1 f_b_0 f_b_1 c_now_0 c_now_1 f_now_0 f_now_1
  clear hb KB K_p K_b K_now
  have z_u4 := HB.size
  have c_p_0 := H_p.cell 0; have f_p_0 := H_p.free 0; have c_p_1 := H_p.cell 1; have f_p_1 := H_p.free 1
  simp only [List.set_cons_zero, List.set_cons_succ, List.getElem?_cons_zero, List.getElem?_cons_succ] at c_p_0 c_p_1
  have c_b_0 := H_b.cell 0; have f_b_0 := H_b.free 0; have c_b_1 := H_b.cell 1; have f_b_1 := H_b.free 1
  simp only [List.set_cons_zero, List.set_cons_succ, List.getElem?_cons_zero, List.getElem?_cons_succ] at c_b_0 c_b_1
  have c_now_0 := H_now.cell 0; have f_now_0 := H_now.free 0; have c_now_1 := H_now.cell 1; have f_now_1 := H_now.free 1
  simp only [List.set_cons_zero, List.set_cons_succ, List.getElem?_cons_zero, List.getElem?_cons_succ] at c_now_0 c_now_1
  have c_again_0 := H_again.cell 0; have f_again_0 := H_again.free 0; have c_again_1 := H_again.cell 1; have f_again_1 := H_again.free 1
  simp only [List.set_cons_zero, List.set_cons_succ, List.getElem?_cons_zero, List.getElem?_cons_succ] at c_again_0 c_again_1
  have l_p := H_p.lt; have K_p := Lib.hid H_p; clear H_p
  have l_b := H_b.lt; have K_b := Lib.hid H_b; clear H_b
  have l_now := H_now.lt; have K_now := Lib.hid H_now; clear H_now
  have l_again := H_again.lt; have K_again := Lib.hid H_again; clear H_again
  have KB := Lib.hid HB; clear HB
  go_wp2_with fail
  refine (C3.out _ (HT.out.below KB.out)).mono ?_
  rintro e5 u5 ⟨rfl, hb⟩
  have H_p : Whole u5 (w.heap.size) 23 _ := Whole.below K_p.out hb (by first | omega | (simp; done) | (simp; omega) | (simp at *; omega))
  have H_b : Whole u5 (w.heap.size + 1) 23 _ := Whole.below K_b.out hb (by first | omega | (simp; done) | (simp; omega) | (simp at *; omega))
  have H_now : Whole u5 (u2.heap.size) 23 _ := Whole.below K_now.out hb (by first | omega | (simp; done) | (simp; omega) | (simp at *; omega))
  have H_again : Whole u5 (u3.heap.size) 23 _ := Whole.below K_again.out hb (by first | omega | (simp; done) | (simp; omega) | (simp at *; omega))
  have HB := KB.out.trans (hb.mono (by first | omega | (simp; done) | (simp; omega) | (simp at *; omega)))
  clear c_p_0 c_p_1 f_p_0 f_p_1 c_b_0 c_b_1 f_b_0 f_b_1 c_now_0 c_now_1 f_now_0 f_now_1 c_again_0 c_again_1 f_again_0 f_again_1 l_p l_b l_now l_again
  clear hb KB K_p K_b K_now K_again
  have z_u5 := HB.size
  have c_p_0 := H_p.cell 0; have f_p_0 := H_p.free 0; have c_p_1 := H_p.cell 1; have f_p_1 := H_p.free 1
  simp only [List.set_cons_zero, List.set_cons_succ, List.getElem?_cons_zero, List.getElem?_cons_succ] at c_p_0 c_p_1
  have c_b_0 := H_b.cell 0; have f_b_0 := H_b.free 0; have c_b_1 := H_b.cell 1; have f_b_1 := H_b.free 1
  simp only [List.set_cons_zero, List.set_cons_succ, List.getElem?_cons_zero, List.getElem?_cons_succ] at c_b_0 c_b_1
  have c_now_0 := H_now.cell 0; have f_now_0 := H_now.free 0; have c_now_1 := H_now.cell 1; have f_now_1 := H_now.free 1
  simp only [List.set_cons_zero, List.set_cons_succ, List.getElem?_cons_zero, List.getElem?_cons_succ] at c_now_0 c_now_1
  have c_again_0 := H_again.cell 0; have f_again_0 := H_again.free 0; have c_again_1 := H_again.cell 1; have f_again_1 := H_again.free 1
  simp only [List.set_cons_zero, List.set_cons_succ, List.getElem?_cons_zero, List.getElem?_cons_succ] at c_again_0 c_again_1
  have l_p := H_p.lt; have K_p := Lib.hid H_p; clear H_p
  have l_b := H_b.lt; have K_b := Lib.hid H_b; clear H_b
  have l_now := H_now.lt; have K_now := Lib.hid H_now; clear H_now
  have l_again := H_again.lt; have K_again := Lib.hid H_again; clear H_again
  have KB := Lib.hid HB; clear HB
  go_wp2_with fail
  go_ret
  exact ⟨by first | rfl | simp, (KB.out.alloc (by first | omega | (simp; done) | (simp; omega) | (simp at *; omega)) _)⟩

set_option maxHeartbeats 4000000 in
theorem once_yes1 (pr pp br bp s i x : Int) (hz : sameB ⟨br, bp⟩ ⟨0, 0⟩ = false) (hl : lessB ⟨pr, pp⟩ ⟨br, bp⟩ = true) (h1 : promise ⟨pr, pp⟩ ⟨br, bp⟩ = (⟨br, bp⟩, true)) (h2 : promise ⟨br, bp⟩ ⟨br, bp⟩ = (⟨br, bp⟩, true)) (h3 : accept ⟨br, bp⟩ s ⟨br, bp⟩ i = (x, ⟨br, bp⟩, 0)) (hx : (x != 0) = true) (hx0 : 0 ≤ x) (w : World) (ht : Tab w) :
    Calls Tryd.prog 6 #[.agg #[.int .i64 pr, .int .i64 pp], .agg #[.int .i64 br, .int .i64 bp], .int .i64 s, .int .i64 i] w fun e w' => e = .returned (.bool true) ∧ Below w.heap.size w w' := by
  have C1 := promise_any ⟨pr, pp⟩ ⟨br, bp⟩
  have C2 := promise_any ⟨br, bp⟩ ⟨br, bp⟩
  have C3 := accept_any ⟨br, bp⟩ ⟨br, bp⟩ s i
  rw [h1] at C1
  rw [h2] at C2
  rw [h3] at C3
  have CL := less_any ⟨pr, pp⟩ ⟨br, bp⟩
  simp only [Ba.cells] at C1 C2 C3 CL
  have C1 := Lib.hid C1
  have C2 := Lib.hid C2
  have C3 := Lib.hid C3
  have CL := Lib.hid CL
  have AW := Lib.hid awake_any
  have HT := Lib.hid ht
  have s1 : sameB ⟨br, bp⟩ ⟨br, bp⟩ = true := same_self _
  clear ht h1 h2 h3
  have KB := Lib.hid (Below.refl w.heap.size w)
  go_enter Tryd.func6, Tryd.ntmps6
  go_wp2_with fail
  refine (AW.out _ (HT.out.below ((KB.out.alloc (by first | omega | (simp; done) | (simp; omega) | (simp at *; omega)) _).alloc (by first | omega | (simp; done) | (simp; omega) | (simp at *; omega)) _))).mono ?_
  rintro e1 u1 ⟨rfl, hb⟩
  have H_p : Whole u1 (w.heap.size) 23 _ := Whole.below ((Whole.new _ 23 _).alloc _) hb (by first | omega | (simp; done) | (simp; omega) | (simp at *; omega))
  have H_b : Whole u1 (w.heap.size + 1) 23 _ := Whole.below (wh_at w 1 _ 23 _ (by simp)) hb (by first | omega | (simp; done) | (simp; omega) | (simp at *; omega))
  have HB := ((KB.out.alloc (by first | omega | (simp; done) | (simp; omega) | (simp at *; omega)) _).alloc (by first | omega | (simp; done) | (simp; omega) | (simp at *; omega)) _).trans (hb.mono (by first | omega | (simp; done) | (simp; omega) | (simp at *; omega)))
  clear hb KB
  have z_u1 := HB.size
  have c_p_0 := H_p.cell 0; have f_p_0 := H_p.free 0; have c_p_1 := H_p.cell 1; have f_p_1 := H_p.free 1
  simp only [List.set_cons_zero, List.set_cons_succ, List.getElem?_cons_zero, List.getElem?_cons_succ] at c_p_0 c_p_1
  have c_b_0 := H_b.cell 0; have f_b_0 := H_b.free 0; have c_b_1 := H_b.cell 1; have f_b_1 := H_b.free 1
  simp only [List.set_cons_zero, List.set_cons_succ, List.getElem?_cons_zero, List.getElem?_cons_succ] at c_b_0 c_b_1
  have l_p := H_p.lt; have K_p := Lib.hid H_p; clear H_p
  have l_b := H_b.lt; have K_b := Lib.hid H_b; clear H_b
  have KB := Lib.hid HB; clear HB
  go_wp2_with fail
  refine (C1.out _).mono ?_
  rintro e2 u2 ⟨rfl, hb⟩
  have H_p : Whole u2 (w.heap.size) 23 _ := Whole.below K_p.out hb (by first | omega | (simp; done) | (simp; omega) | (simp at *; omega))
  have H_b : Whole u2 (w.heap.size + 1) 23 _ := Whole.below K_b.out hb (by first | omega | (simp; done) | (simp; omega) | (simp at *; omega))
  have HB := KB.out.trans (hb.mono (by first | omega | (simp; done) | (simp; omega) | (simp at *; omega)))
  clear c_p_0 c_p_1 f_p_0 f_p_1 c_b_0 c_b_1 f_b_0 f_b_1 l_p l_b
  clear hb KB K_p K_b
  have z_u2 := HB.size
  have c_p_0 := H_p.cell 0; have f_p_0 := H_p.free 0; have c_p_1 := H_p.cell 1; have f_p_1 := H_p.free 1
  simp only [List.set_cons_zero, List.set_cons_succ, List.getElem?_cons_zero, List.getElem?_cons_succ] at c_p_0 c_p_1
  have c_b_0 := H_b.cell 0; have f_b_0 := H_b.free 0; have c_b_1 := H_b.cell 1; have f_b_1 := H_b.free 1
  simp only [List.set_cons_zero, List.set_cons_succ, List.getElem?_cons_zero, List.getElem?_cons_succ] at c_b_0 c_b_1
  have l_p := H_p.lt; have K_p := Lib.hid H_p; clear H_p
  have l_b := H_b.lt; have K_b := Lib.hid H_b; clear H_b
  have KB := Lib.hid HB; clear HB
  go_wp2_with fail
  refine (C2.out _).mono ?_
  rintro e3 u3 ⟨rfl, hb⟩
  have H_p : Whole u3 (w.heap.size) 23 _ := Whole.below (K_p.out.alloc _) hb (by first | omega | (simp; done) | (simp; omega) | (simp at *; omega))
  have H_b : Whole u3 (w.heap.size + 1) 23 _ := Whole.below (K_b.out.alloc _) hb (by first | omega | (simp; done) | (simp; omega) | (simp at *; omega))
  have H_now : Whole u3 (u2.heap.size) 23 _ := Whole.below (Whole.new _ 23 _) hb (by first | omega | (simp; done) | (simp; omega) | (simp at *; omega))
  have HB := (KB.out.alloc (by first | omega | (simp; done) | (simp; omega) | (simp at *; omega)) _).trans (hb.mono (by first | omega | (simp; done) | (simp; omega) | (simp at *; omega)))
  clear c_p_0 c_p_1 f_p_0 f_p_1 c_b_0 c_b_1 f_b_0 f_b_1
  clear hb KB K_p K_b
  have z_u3 := HB.size
  have c_p_0 := H_p.cell 0; have f_p_0 := H_p.free 0; have c_p_1 := H_p.cell 1; have f_p_1 := H_p.free 1
  simp only [List.set_cons_zero, List.set_cons_succ, List.getElem?_cons_zero, List.getElem?_cons_succ] at c_p_0 c_p_1
  have c_b_0 := H_b.cell 0; have f_b_0 := H_b.free 0; have c_b_1 := H_b.cell 1; have f_b_1 := H_b.free 1
  simp only [List.set_cons_zero, List.set_cons_succ, List.getElem?_cons_zero, List.getElem?_cons_succ] at c_b_0 c_b_1
  have c_now_0 := H_now.cell 0; have f_now_0 := H_now.free 0; have c_now_1 := H_now.cell 1; have f_now_1 := H_now.free 1
  simp only [List.set_cons_zero, List.set_cons_succ, List.getElem?_cons_zero, List.getElem?_cons_succ] at c_now_0 c_now_1
  have l_p := H_p.lt; have K_p := Lib.hid H_p; clear H_p
  have l_b := H_b.lt; have K_b := Lib.hid H_b; clear H_b
  have l_now := H_now.lt; have K_now := Lib.hid H_now; clear H_now
  have KB := Lib.hid HB; clear HB
  go_wp2_with fail
  refine (CL.out _).mono ?_
  rintro e4 u4 ⟨rfl, hb⟩
  have H_p : Whole u4 (w.heap.size) 23 _ := Whole.below (K_p.out.alloc _) hb (by first | omega | (simp; done) | (simp; omega) | (simp at *; omega))
  have H_b : Whole u4 (w.heap.size + 1) 23 _ := Whole.below (K_b.out.alloc _) hb (by first | omega | (simp; done) | (simp; omega) | (simp at *; omega))
  have H_now : Whole u4 (u2.heap.size) 23 _ := Whole.below (K_now.out.alloc _) hb (by first | omega | (simp; done) | (simp; omega) | (simp at *; omega))
  have H_again : Whole u4 (u3.heap.size) 23 _ := Whole.below (Whole.new _ 23 _) hb (by first | omega | (simp; done) | (simp; omega) | (simp at *; omega))
  have HB := (KB.out.alloc (by first | omega | (simp; done) | (simp; omega) | (simp at *; omega)) _).trans (hb.mono (by first | omega | (simp; done) | (simp; omega) | (simp at *; omega)))
  clear c_p_0 c_p_1 f_p_0 f_p_1 c_b_0 c_b_1 f_b_0 f_b_1 c_now_0 c_now_1 f_now_0 f_now_1
  clear hb KB K_p K_b K_now
  have z_u4 := HB.size
  have c_p_0 := H_p.cell 0; have f_p_0 := H_p.free 0; have c_p_1 := H_p.cell 1; have f_p_1 := H_p.free 1
  simp only [List.set_cons_zero, List.set_cons_succ, List.getElem?_cons_zero, List.getElem?_cons_succ] at c_p_0 c_p_1
  have c_b_0 := H_b.cell 0; have f_b_0 := H_b.free 0; have c_b_1 := H_b.cell 1; have f_b_1 := H_b.free 1
  simp only [List.set_cons_zero, List.set_cons_succ, List.getElem?_cons_zero, List.getElem?_cons_succ] at c_b_0 c_b_1
  have c_now_0 := H_now.cell 0; have f_now_0 := H_now.free 0; have c_now_1 := H_now.cell 1; have f_now_1 := H_now.free 1
  simp only [List.set_cons_zero, List.set_cons_succ, List.getElem?_cons_zero, List.getElem?_cons_succ] at c_now_0 c_now_1
  have c_again_0 := H_again.cell 0; have f_again_0 := H_again.free 0; have c_again_1 := H_again.cell 1; have f_again_1 := H_again.free 1
  simp only [List.set_cons_zero, List.set_cons_succ, List.getElem?_cons_zero, List.getElem?_cons_succ] at c_again_0 c_again_1
  have l_p := H_p.lt; have K_p := Lib.hid H_p; clear H_p
  have l_b := H_b.lt; have K_b := Lib.hid H_b; clear H_b
  have l_now := H_now.lt; have K_now := Lib.hid H_now; clear H_now
  have l_again := H_again.lt; have K_again := Lib.hid H_again; clear H_again
  have KB := Lib.hid HB; clear HB
  go_wp2_with fail
  refine (C3.out _ (HT.out.below KB.out)).mono ?_
  rintro e5 u5 ⟨rfl, hb⟩
  have H_p : Whole u5 (w.heap.size) 23 _ := Whole.below K_p.out hb (by first | omega | (simp; done) | (simp; omega) | (simp at *; omega))
  have H_b : Whole u5 (w.heap.size + 1) 23 _ := Whole.below K_b.out hb (by first | omega | (simp; done) | (simp; omega) | (simp at *; omega))
  have H_now : Whole u5 (u2.heap.size) 23 _ := Whole.below K_now.out hb (by first | omega | (simp; done) | (simp; omega) | (simp at *; omega))
  have H_again : Whole u5 (u3.heap.size) 23 _ := Whole.below K_again.out hb (by first | omega | (simp; done) | (simp; omega) | (simp at *; omega))
  have HB := KB.out.trans (hb.mono (by first | omega | (simp; done) | (simp; omega) | (simp at *; omega)))
  clear c_p_0 c_p_1 f_p_0 f_p_1 c_b_0 c_b_1 f_b_0 f_b_1 c_now_0 c_now_1 f_now_0 f_now_1 c_again_0 c_again_1 f_again_0 f_again_1 l_p l_b l_now l_again
  clear hb KB K_p K_b K_now K_again
  have z_u5 := HB.size
  have c_p_0 := H_p.cell 0; have f_p_0 := H_p.free 0; have c_p_1 := H_p.cell 1; have f_p_1 := H_p.free 1
  simp only [List.set_cons_zero, List.set_cons_succ, List.getElem?_cons_zero, List.getElem?_cons_succ] at c_p_0 c_p_1
  have c_b_0 := H_b.cell 0; have f_b_0 := H_b.free 0; have c_b_1 := H_b.cell 1; have f_b_1 := H_b.free 1
  simp only [List.set_cons_zero, List.set_cons_succ, List.getElem?_cons_zero, List.getElem?_cons_succ] at c_b_0 c_b_1
  have c_now_0 := H_now.cell 0; have f_now_0 := H_now.free 0; have c_now_1 := H_now.cell 1; have f_now_1 := H_now.free 1
  simp only [List.set_cons_zero, List.set_cons_succ, List.getElem?_cons_zero, List.getElem?_cons_succ] at c_now_0 c_now_1
  have c_again_0 := H_again.cell 0; have f_again_0 := H_again.free 0; have c_again_1 := H_again.cell 1; have f_again_1 := H_again.free 1
  simp only [List.set_cons_zero, List.set_cons_succ, List.getElem?_cons_zero, List.getElem?_cons_succ] at c_again_0 c_again_1
  have l_p := H_p.lt; have K_p := Lib.hid H_p; clear H_p
  have l_b := H_b.lt; have K_b := Lib.hid H_b; clear H_b
  have l_now := H_now.lt; have K_now := Lib.hid H_now; clear H_now
  have l_again := H_again.lt; have K_again := Lib.hid H_again; clear H_again
  have KB := Lib.hid HB; clear HB
  go_wp2_with fail
  go_ret
  exact ⟨by first | rfl | simp, (KB.out.alloc (by first | omega | (simp; done) | (simp; omega) | (simp at *; omega)) _)⟩

set_option maxHeartbeats 4000000 in
theorem once_yes2 (pr pp br bp s i x : Int) (hz : sameB ⟨br, bp⟩ ⟨0, 0⟩ = false) (hl : lessB ⟨pr, pp⟩ ⟨br, bp⟩ = false) (h1 : promise ⟨pr, pp⟩ ⟨br, bp⟩ = (⟨br, bp⟩, true)) (h2 : promise ⟨br, bp⟩ ⟨br, bp⟩ = (⟨br, bp⟩, true)) (h3 : accept ⟨br, bp⟩ s ⟨br, bp⟩ i = (x, ⟨br, bp⟩, 0)) (hx : (x != 0) = true) (hx0 : 0 ≤ x) (w : World) (ht : Tab w) :
    Calls Tryd.prog 6 #[.agg #[.int .i64 pr, .int .i64 pp], .agg #[.int .i64 br, .int .i64 bp], .int .i64 s, .int .i64 i] w fun e w' => e = .returned (.bool true) ∧ Below w.heap.size w w' := by
  have C1 := promise_any ⟨pr, pp⟩ ⟨br, bp⟩
  have C2 := promise_any ⟨br, bp⟩ ⟨br, bp⟩
  have C3 := accept_any ⟨br, bp⟩ ⟨br, bp⟩ s i
  rw [h1] at C1
  rw [h2] at C2
  rw [h3] at C3
  have CL := less_any ⟨pr, pp⟩ ⟨br, bp⟩
  simp only [Ba.cells] at C1 C2 C3 CL
  have C1 := Lib.hid C1
  have C2 := Lib.hid C2
  have C3 := Lib.hid C3
  have CL := Lib.hid CL
  have AW := Lib.hid awake_any
  have HT := Lib.hid ht
  have s1 : sameB ⟨br, bp⟩ ⟨br, bp⟩ = true := same_self _
  clear ht h1 h2 h3
  have KB := Lib.hid (Below.refl w.heap.size w)
  go_enter Tryd.func6, Tryd.ntmps6
  go_wp2_with fail
  refine (AW.out _ (HT.out.below ((KB.out.alloc (by first | omega | (simp; done) | (simp; omega) | (simp at *; omega)) _).alloc (by first | omega | (simp; done) | (simp; omega) | (simp at *; omega)) _))).mono ?_
  rintro e1 u1 ⟨rfl, hb⟩
  have H_p : Whole u1 (w.heap.size) 23 _ := Whole.below ((Whole.new _ 23 _).alloc _) hb (by first | omega | (simp; done) | (simp; omega) | (simp at *; omega))
  have H_b : Whole u1 (w.heap.size + 1) 23 _ := Whole.below (wh_at w 1 _ 23 _ (by simp)) hb (by first | omega | (simp; done) | (simp; omega) | (simp at *; omega))
  have HB := ((KB.out.alloc (by first | omega | (simp; done) | (simp; omega) | (simp at *; omega)) _).alloc (by first | omega | (simp; done) | (simp; omega) | (simp at *; omega)) _).trans (hb.mono (by first | omega | (simp; done) | (simp; omega) | (simp at *; omega)))
  clear hb KB
  have z_u1 := HB.size
  have c_p_0 := H_p.cell 0; have f_p_0 := H_p.free 0; have c_p_1 := H_p.cell 1; have f_p_1 := H_p.free 1
  simp only [List.set_cons_zero, List.set_cons_succ, List.getElem?_cons_zero, List.getElem?_cons_succ] at c_p_0 c_p_1
  have c_b_0 := H_b.cell 0; have f_b_0 := H_b.free 0; have c_b_1 := H_b.cell 1; have f_b_1 := H_b.free 1
  simp only [List.set_cons_zero, List.set_cons_succ, List.getElem?_cons_zero, List.getElem?_cons_succ] at c_b_0 c_b_1
  have l_p := H_p.lt; have K_p := Lib.hid H_p; clear H_p
  have l_b := H_b.lt; have K_b := Lib.hid H_b; clear H_b
  have KB := Lib.hid HB; clear HB
  go_wp2_with fail
  refine (C1.out _).mono ?_
  rintro e2 u2 ⟨rfl, hb⟩
  have H_p : Whole u2 (w.heap.size) 23 _ := Whole.below K_p.out hb (by first | omega | (simp; done) | (simp; omega) | (simp at *; omega))
  have H_b : Whole u2 (w.heap.size + 1) 23 _ := Whole.below K_b.out hb (by first | omega | (simp; done) | (simp; omega) | (simp at *; omega))
  have HB := KB.out.trans (hb.mono (by first | omega | (simp; done) | (simp; omega) | (simp at *; omega)))
  clear c_p_0 c_p_1 f_p_0 f_p_1 c_b_0 c_b_1 f_b_0 f_b_1 l_p l_b
  clear hb KB K_p K_b
  have z_u2 := HB.size
  have c_p_0 := H_p.cell 0; have f_p_0 := H_p.free 0; have c_p_1 := H_p.cell 1; have f_p_1 := H_p.free 1
  simp only [List.set_cons_zero, List.set_cons_succ, List.getElem?_cons_zero, List.getElem?_cons_succ] at c_p_0 c_p_1
  have c_b_0 := H_b.cell 0; have f_b_0 := H_b.free 0; have c_b_1 := H_b.cell 1; have f_b_1 := H_b.free 1
  simp only [List.set_cons_zero, List.set_cons_succ, List.getElem?_cons_zero, List.getElem?_cons_succ] at c_b_0 c_b_1
  have l_p := H_p.lt; have K_p := Lib.hid H_p; clear H_p
  have l_b := H_b.lt; have K_b := Lib.hid H_b; clear H_b
  have KB := Lib.hid HB; clear HB
  go_wp2_with fail
  refine (C2.out _).mono ?_
  rintro e3 u3 ⟨rfl, hb⟩
  have H_p : Whole u3 (w.heap.size) 23 _ := Whole.below (K_p.out.alloc _) hb (by first | omega | (simp; done) | (simp; omega) | (simp at *; omega))
  have H_b : Whole u3 (w.heap.size + 1) 23 _ := Whole.below (K_b.out.alloc _) hb (by first | omega | (simp; done) | (simp; omega) | (simp at *; omega))
  have H_now : Whole u3 (u2.heap.size) 23 _ := Whole.below (Whole.new _ 23 _) hb (by first | omega | (simp; done) | (simp; omega) | (simp at *; omega))
  have HB := (KB.out.alloc (by first | omega | (simp; done) | (simp; omega) | (simp at *; omega)) _).trans (hb.mono (by first | omega | (simp; done) | (simp; omega) | (simp at *; omega)))
  clear c_p_0 c_p_1 f_p_0 f_p_1 c_b_0 c_b_1 f_b_0 f_b_1
  clear hb KB K_p K_b
  have z_u3 := HB.size
  have c_p_0 := H_p.cell 0; have f_p_0 := H_p.free 0; have c_p_1 := H_p.cell 1; have f_p_1 := H_p.free 1
  simp only [List.set_cons_zero, List.set_cons_succ, List.getElem?_cons_zero, List.getElem?_cons_succ] at c_p_0 c_p_1
  have c_b_0 := H_b.cell 0; have f_b_0 := H_b.free 0; have c_b_1 := H_b.cell 1; have f_b_1 := H_b.free 1
  simp only [List.set_cons_zero, List.set_cons_succ, List.getElem?_cons_zero, List.getElem?_cons_succ] at c_b_0 c_b_1
  have c_now_0 := H_now.cell 0; have f_now_0 := H_now.free 0; have c_now_1 := H_now.cell 1; have f_now_1 := H_now.free 1
  simp only [List.set_cons_zero, List.set_cons_succ, List.getElem?_cons_zero, List.getElem?_cons_succ] at c_now_0 c_now_1
  have l_p := H_p.lt; have K_p := Lib.hid H_p; clear H_p
  have l_b := H_b.lt; have K_b := Lib.hid H_b; clear H_b
  have l_now := H_now.lt; have K_now := Lib.hid H_now; clear H_now
  have KB := Lib.hid HB; clear HB
  go_wp2_with fail
  refine (CL.out _).mono ?_
  rintro e4 u4 ⟨rfl, hb⟩
  have H_p : Whole u4 (w.heap.size) 23 _ := Whole.below (K_p.out.alloc _) hb (by first | omega | (simp; done) | (simp; omega) | (simp at *; omega))
  have H_b : Whole u4 (w.heap.size + 1) 23 _ := Whole.below (K_b.out.alloc _) hb (by first | omega | (simp; done) | (simp; omega) | (simp at *; omega))
  have H_now : Whole u4 (u2.heap.size) 23 _ := Whole.below (K_now.out.alloc _) hb (by first | omega | (simp; done) | (simp; omega) | (simp at *; omega))
  have H_again : Whole u4 (u3.heap.size) 23 _ := Whole.below (Whole.new _ 23 _) hb (by first | omega | (simp; done) | (simp; omega) | (simp at *; omega))
  have HB := (KB.out.alloc (by first | omega | (simp; done) | (simp; omega) | (simp at *; omega)) _).trans (hb.mono (by first | omega | (simp; done) | (simp; omega) | (simp at *; omega)))
  clear c_p_0 c_p_1 f_p_0 f_p_1 c_b_0 c_b_1 f_b_0 f_b_1 c_now_0 c_now_1 f_now_0 f_now_1
  clear hb KB K_p K_b K_now
  have z_u4 := HB.size
  have c_p_0 := H_p.cell 0; have f_p_0 := H_p.free 0; have c_p_1 := H_p.cell 1; have f_p_1 := H_p.free 1
  simp only [List.set_cons_zero, List.set_cons_succ, List.getElem?_cons_zero, List.getElem?_cons_succ] at c_p_0 c_p_1
  have c_b_0 := H_b.cell 0; have f_b_0 := H_b.free 0; have c_b_1 := H_b.cell 1; have f_b_1 := H_b.free 1
  simp only [List.set_cons_zero, List.set_cons_succ, List.getElem?_cons_zero, List.getElem?_cons_succ] at c_b_0 c_b_1
  have c_now_0 := H_now.cell 0; have f_now_0 := H_now.free 0; have c_now_1 := H_now.cell 1; have f_now_1 := H_now.free 1
  simp only [List.set_cons_zero, List.set_cons_succ, List.getElem?_cons_zero, List.getElem?_cons_succ] at c_now_0 c_now_1
  have c_again_0 := H_again.cell 0; have f_again_0 := H_again.free 0; have c_again_1 := H_again.cell 1; have f_again_1 := H_again.free 1
  simp only [List.set_cons_zero, List.set_cons_succ, List.getElem?_cons_zero, List.getElem?_cons_succ] at c_again_0 c_again_1
  have l_p := H_p.lt; have K_p := Lib.hid H_p; clear H_p
  have l_b := H_b.lt; have K_b := Lib.hid H_b; clear H_b
  have l_now := H_now.lt; have K_now := Lib.hid H_now; clear H_now
  have l_again := H_again.lt; have K_again := Lib.hid H_again; clear H_again
  have KB := Lib.hid HB; clear HB
  go_wp2_with fail
  refine (C3.out _ (HT.out.below KB.out)).mono ?_
  rintro e5 u5 ⟨rfl, hb⟩
  have H_p : Whole u5 (w.heap.size) 23 _ := Whole.below K_p.out hb (by first | omega | (simp; done) | (simp; omega) | (simp at *; omega))
  have H_b : Whole u5 (w.heap.size + 1) 23 _ := Whole.below K_b.out hb (by first | omega | (simp; done) | (simp; omega) | (simp at *; omega))
  have H_now : Whole u5 (u2.heap.size) 23 _ := Whole.below K_now.out hb (by first | omega | (simp; done) | (simp; omega) | (simp at *; omega))
  have H_again : Whole u5 (u3.heap.size) 23 _ := Whole.below K_again.out hb (by first | omega | (simp; done) | (simp; omega) | (simp at *; omega))
  have HB := KB.out.trans (hb.mono (by first | omega | (simp; done) | (simp; omega) | (simp at *; omega)))
  clear c_p_0 c_p_1 f_p_0 f_p_1 c_b_0 c_b_1 f_b_0 f_b_1 c_now_0 c_now_1 f_now_0 f_now_1 c_again_0 c_again_1 f_again_0 f_again_1 l_p l_b l_now l_again
  clear hb KB K_p K_b K_now K_again
  have z_u5 := HB.size
  have c_p_0 := H_p.cell 0; have f_p_0 := H_p.free 0; have c_p_1 := H_p.cell 1; have f_p_1 := H_p.free 1
  simp only [List.set_cons_zero, List.set_cons_succ, List.getElem?_cons_zero, List.getElem?_cons_succ] at c_p_0 c_p_1
  have c_b_0 := H_b.cell 0; have f_b_0 := H_b.free 0; have c_b_1 := H_b.cell 1; have f_b_1 := H_b.free 1
  simp only [List.set_cons_zero, List.set_cons_succ, List.getElem?_cons_zero, List.getElem?_cons_succ] at c_b_0 c_b_1
  have c_now_0 := H_now.cell 0; have f_now_0 := H_now.free 0; have c_now_1 := H_now.cell 1; have f_now_1 := H_now.free 1
  simp only [List.set_cons_zero, List.set_cons_succ, List.getElem?_cons_zero, List.getElem?_cons_succ] at c_now_0 c_now_1
  have c_again_0 := H_again.cell 0; have f_again_0 := H_again.free 0; have c_again_1 := H_again.cell 1; have f_again_1 := H_again.free 1
  simp only [List.set_cons_zero, List.set_cons_succ, List.getElem?_cons_zero, List.getElem?_cons_succ] at c_again_0 c_again_1
  have l_p := H_p.lt; have K_p := Lib.hid H_p; clear H_p
  have l_b := H_b.lt; have K_b := Lib.hid H_b; clear H_b
  have l_now := H_now.lt; have K_now := Lib.hid H_now; clear H_now
  have l_again := H_again.lt; have K_again := Lib.hid H_again; clear H_again
  have KB := Lib.hid HB; clear HB
  go_wp2_with fail
  go_ret
  exact ⟨by first | rfl | simp, (KB.out.alloc (by first | omega | (simp; done) | (simp; omega) | (simp at *; omega)) _)⟩

theorem accept_err_is {p b : Ba} {s i : Int} (h : (whereZ s i).2 = 2) : accept p s b i = (0, ⟨0, 0⟩, 2) := by unfold accept; rw [if_pos h]; rfl
theorem accept_ok_is {p b n : Ba} {s i : Int} {y : Bool} (h : (whereZ s i).2 ≠ 2) (hp : promise p b = (n, y)) : accept p s b i = if y then (doneZ (whereZ s i).1, n, 0) else (0, n, 0) := by
  unfold accept; rw [if_neg h, hp]
theorem done_ne (a : Int) : (doneZ a != 0) = true ∧ 0 ≤ doneZ a := by unfold doneZ; split <;> (try split) <;> decide
theorem once_any (p b : Ba) (s i : Int) (w : World) (ht : Tab w) :
    Calls Tryd.prog 6 #[.agg p.cells.toArray, .agg b.cells.toArray, .int .i64 s, .int .i64 i] w fun e w' => e = .returned (.bool true) ∧ Below w.heap.size w w' := by
  obtain ⟨pr, pp⟩ := p
  obtain ⟨br, bp⟩ := b
  rcases promise_cases ⟨pr, pp⟩ ⟨br, bp⟩ with ⟨hz, h⟩ | ⟨hz, hl, h⟩ | ⟨hz, hl, h⟩
  · have hz' : sameB ⟨br, bp⟩ ⟨0, 0⟩ = true := same_iff.2 hz
    by_cases e : (whereZ s i).2 = 2
    · exact once_zero_err pr pp br bp s i hz' h h (accept_err_is e) w ht
    · exact once_zero pr pp br bp s i hz' h h (accept_ok_is e h) w ht
  · have hz' : sameB ⟨br, bp⟩ ⟨0, 0⟩ = false := same_not.2 hz
    by_cases e : (whereZ s i).2 = 2
    · exact once_less_err pr pp br bp s i hz' (less_asymm hl) h h (accept_err_is e) w ht
    · exact once_less pr pp br bp s i hz' (less_asymm hl) h h (accept_ok_is e h) w ht
  · have hz' : sameB ⟨br, bp⟩ ⟨0, 0⟩ = false := same_not.2 hz
    have h2 : promise ⟨br, bp⟩ ⟨br, bp⟩ = (⟨br, bp⟩, true) := by
      rcases promise_cases ⟨br, bp⟩ ⟨br, bp⟩ with ⟨hz2, _⟩ | ⟨_, hl2, _⟩ | ⟨_, _, h2⟩
      · exact absurd hz2 hz
      · rw [less_self] at hl2; cases hl2
      · exact h2
    have hd := done_ne (whereZ s i).1
    cases hl3 : lessB ⟨pr, pp⟩ ⟨br, bp⟩
    · by_cases e : (whereZ s i).2 = 2
      · exact once_yes2_err pr pp br bp s i hz' hl3 h h2 (accept_err_is e) w ht
      · exact once_yes2 pr pp br bp s i _ hz' hl3 h h2 (accept_ok_is e h2) hd.1 hd.2 w ht
    · by_cases e : (whereZ s i).2 = 2
      · exact once_yes1_err pr pp br bp s i hz' hl3 h h2 (accept_err_is e) w ht
      · exact once_yes1 pr pp br bp s i _ hz' hl3 h h2 (accept_ok_is e h2) hd.1 hd.2 w ht

end Vo
end Go.Proofs.YtojkccdmnhppnaaDoor
