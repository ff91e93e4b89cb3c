/- The walk of the statement that any replica promises, and does, what the chapter says. -/
import Derived.Test.YtojkccdmnhppnaaDoorVoteWalks
import Derived.Test.YtojkccdmnhppnaaDoorBallotEql
set_option linter.unusedSimpArgs false
set_option linter.unusedVariables false
namespace Go.Proofs.YtojkccdmnhppnaaDoor
open Go.RowKit

namespace Vo
open Bl

attribute [local go_sem ↓] Bl.eql_ba Bl.neq_ba

theorem where_bound (s i : Int) : 0 ≤ (whereZ s i).1 ∧ (whereZ s i).1 ≤ 2 := by
  rcases where_cases s i with ⟨_, h⟩ | ⟨_, _, h⟩ | ⟨_, _, _, h⟩ | ⟨_, _, _, h⟩ <;> rw [h] <;> simp
theorem done_bound (a : Int) : 0 ≤ doneZ a ∧ doneZ a ≤ 3 := by unfold doneZ; split <;> (try split) <;> omega
theorem accept_bound (p : Ba) (s : Int) (b : Ba) (i : Int) : 0 ≤ (accept p s b i).1 ∧ (accept p s b i).1 ≤ 3 := by
  have := done_bound (whereZ s i).1
  unfold accept
  split
  · simp
  · split
    · exact this
    · simp

set_option maxHeartbeats 4000000 in
theorem answers_any (p b : Ba) (s i : Int) (w : World) (ht : Tab w) :
    Calls Tryd.prog 3 #[.agg p.cells.toArray, .agg b.cells.toArray, .int .i64 s, .int .i64 i] w fun e w' => e = .returned (.bool true) ∧ Below w.heap.size w w' := by
  have C1 := promise_any p b
  have C2 := rpromise_any p b
  have C3 := where_any s i
  have C4 := rwhere_any s i
  have C5 := accept_any p b s i
  have C6 := raccept_any p b s i
  have b1 := where_bound s i
  have b2 := accept_bound p s b i
  generalize promise p b = q at *
  generalize whereZ s i = r at *
  generalize accept p s b i = t at *
  obtain ⟨⟨qr, qp⟩, qy⟩ := q
  obtain ⟨ra, re⟩ := r
  obtain ⟨tx, ⟨tr, tp⟩, te⟩ := t
  obtain ⟨pr, pp⟩ := p
  obtain ⟨br, bp⟩ := b
  simp only [Ba.cells] at *
  have C1 := Lib.hid C1
  have C2 := Lib.hid C2
  have C3 := Lib.hid C3
  have C4 := Lib.hid C4
  have C5 := Lib.hid C5
  have C6 := Lib.hid C6
  have HT := Lib.hid ht; clear ht
  obtain ⟨b10, b11⟩ := b1
  obtain ⟨b20, b21⟩ := b2
  have s1 : sameB ⟨qr, qp⟩ ⟨qr, qp⟩ = true := same_self _
  have s2 : sameB ⟨tr, tp⟩ ⟨tr, tp⟩ = true := same_self _
  have KB := Lib.hid (Below.refl w.heap.size w)
  go_enter Tryd.func3, Tryd.ntmps3
  go_wp2_with fail
  refine (C1.out _).mono ?_
  rintro e1 u1 ⟨rfl, hb⟩
  have H_p : Whole u1 (w.heap.size) 23 _ := Whole.below ((Whole.new _ 23 _).alloc _) hb (by first | omega | (simp; done) | (simp; omega) | (simp at *; omega))
  have H_b : Whole u1 (w.heap.size + 1) 23 _ := Whole.below (wh_at w 1 _ 23 _ (by simp)) hb (by first | omega | (simp; done) | (simp; omega) | (simp at *; omega))
  have HB := ((KB.out.alloc (by first | omega | (simp; done) | (simp; omega) | (simp at *; omega)) _).alloc (by first | omega | (simp; done) | (simp; omega) | (simp at *; omega)) _).trans (hb.mono (by first | omega | (simp; done) | (simp; omega) | (simp at *; omega)))
  clear hb KB
  have z_u1 := HB.size
  have c_p_0 := H_p.cell 0; have f_p_0 := H_p.free 0; have c_p_1 := H_p.cell 1; have f_p_1 := H_p.free 1
  simp only [List.set_cons_zero, List.set_cons_succ, List.getElem?_cons_zero, List.getElem?_cons_succ] at c_p_0 c_p_1
  have c_b_0 := H_b.cell 0; have f_b_0 := H_b.free 0; have c_b_1 := H_b.cell 1; have f_b_1 := H_b.free 1
  simp only [List.set_cons_zero, List.set_cons_succ, List.getElem?_cons_zero, List.getElem?_cons_succ] at c_b_0 c_b_1
  have l_p := H_p.lt; have K_p := Lib.hid H_p; clear H_p
  have l_b := H_b.lt; have K_b := Lib.hid H_b; clear H_b
  have KB := Lib.hid HB; clear HB
  go_wp2_with fail
  refine (C2.out _).mono ?_
  rintro e2 u2 ⟨rfl, hb⟩
  have H_p : Whole u2 (w.heap.size) 23 _ := Whole.below (K_p.out.alloc _) hb (by first | omega | (simp; done) | (simp; omega) | (simp at *; omega))
  have H_b : Whole u2 (w.heap.size + 1) 23 _ := Whole.below (K_b.out.alloc _) hb (by first | omega | (simp; done) | (simp; omega) | (simp at *; omega))
  have H_a : Whole u2 (u1.heap.size) 23 _ := Whole.below (Whole.new _ 23 _) hb (by first | omega | (simp; done) | (simp; omega) | (simp at *; omega))
  have HB := (KB.out.alloc (by first | omega | (simp; done) | (simp; omega) | (simp at *; omega)) _).trans (hb.mono (by first | omega | (simp; done) | (simp; omega) | (simp at *; omega)))
  clear c_p_0 c_p_1 f_p_0 f_p_1 c_b_0 c_b_1 f_b_0 f_b_1
  clear hb KB K_p K_b
  have z_u2 := HB.size
  have c_p_0 := H_p.cell 0; have f_p_0 := H_p.free 0; have c_p_1 := H_p.cell 1; have f_p_1 := H_p.free 1
  simp only [List.set_cons_zero, List.set_cons_succ, List.getElem?_cons_zero, List.getElem?_cons_succ] at c_p_0 c_p_1
  have c_b_0 := H_b.cell 0; have f_b_0 := H_b.free 0; have c_b_1 := H_b.cell 1; have f_b_1 := H_b.free 1
  simp only [List.set_cons_zero, List.set_cons_succ, List.getElem?_cons_zero, List.getElem?_cons_succ] at c_b_0 c_b_1
  have c_a_0 := H_a.cell 0; have f_a_0 := H_a.free 0; have c_a_1 := H_a.cell 1; have f_a_1 := H_a.free 1
  simp only [List.set_cons_zero, List.set_cons_succ, List.getElem?_cons_zero, List.getElem?_cons_succ] at c_a_0 c_a_1
  have l_p := H_p.lt; have K_p := Lib.hid H_p; clear H_p
  have l_b := H_b.lt; have K_b := Lib.hid H_b; clear H_b
  have l_a := H_a.lt; have K_a := Lib.hid H_a; clear H_a
  have KB := Lib.hid HB; clear HB
  go_wp2_with fail
  refine (C3.out _).mono ?_
  rintro e3 u3 ⟨rfl, rfl⟩
  go_wp2_with fail
  refine (C4.out _).mono ?_
  rintro e4 u4 ⟨rfl, rfl⟩
  go_wp2_with fail
  refine (C5.out _ (HT.out.below (KB.out.alloc (by first | omega | (simp; done) | (simp; omega) | (simp at *; omega)) _))).mono ?_
  rintro e5 u5 ⟨rfl, hb⟩
  have H_p : Whole u5 (w.heap.size) 23 _ := Whole.below (K_p.out.alloc _) hb (by first | omega | (simp; done) | (simp; omega) | (simp at *; omega))
  have H_b : Whole u5 (w.heap.size + 1) 23 _ := Whole.below (K_b.out.alloc _) hb (by first | omega | (simp; done) | (simp; omega) | (simp at *; omega))
  have H_a : Whole u5 (u1.heap.size) 23 _ := Whole.below (K_a.out.alloc _) hb (by first | omega | (simp; done) | (simp; omega) | (simp at *; omega))
  have H_c : Whole u5 (u2.heap.size) 23 _ := Whole.below (Whole.new _ 23 _) hb (by first | omega | (simp; done) | (simp; omega) | (simp at *; omega))
  have HB := (KB.out.alloc (by first | omega | (simp; done) | (simp; omega) | (simp at *; omega)) _).trans (hb.mono (by first | omega | (simp; done) | (simp; omega) | (simp at *; omega)))
  clear c_p_0 c_p_1 f_p_0 f_p_1 c_b_0 c_b_1 f_b_0 f_b_1 c_a_0 c_a_1 f_a_0 f_a_1
  clear hb KB K_p K_b K_a
  have z_u5 := HB.size
  have c_p_0 := H_p.cell 0; have f_p_0 := H_p.free 0; have c_p_1 := H_p.cell 1; have f_p_1 := H_p.free 1
  simp only [List.set_cons_zero, List.set_cons_succ, List.getElem?_cons_zero, List.getElem?_cons_succ] at c_p_0 c_p_1
  have c_b_0 := H_b.cell 0; have f_b_0 := H_b.free 0; have c_b_1 := H_b.cell 1; have f_b_1 := H_b.free 1
  simp only [List.set_cons_zero, List.set_cons_succ, List.getElem?_cons_zero, List.getElem?_cons_succ] at c_b_0 c_b_1
  have c_a_0 := H_a.cell 0; have f_a_0 := H_a.free 0; have c_a_1 := H_a.cell 1; have f_a_1 := H_a.free 1
  simp only [List.set_cons_zero, List.set_cons_succ, List.getElem?_cons_zero, List.getElem?_cons_succ] at c_a_0 c_a_1
  have c_c_0 := H_c.cell 0; have f_c_0 := H_c.free 0; have c_c_1 := H_c.cell 1; have f_c_1 := H_c.free 1
  simp only [List.set_cons_zero, List.set_cons_succ, List.getElem?_cons_zero, List.getElem?_cons_succ] at c_c_0 c_c_1
  have l_p := H_p.lt; have K_p := Lib.hid H_p; clear H_p
  have l_b := H_b.lt; have K_b := Lib.hid H_b; clear H_b
  have l_a := H_a.lt; have K_a := Lib.hid H_a; clear H_a
  have l_c := H_c.lt; have K_c := Lib.hid H_c; clear H_c
  have KB := Lib.hid HB; clear HB
  go_wp2_with fail
  refine (C6.out _).mono ?_
  rintro e6 u6 ⟨rfl, hb⟩
  have H_p : Whole u6 (w.heap.size) 23 _ := Whole.below (K_p.out.alloc _) hb (by first | omega | (simp; done) | (simp; omega) | (simp at *; omega))
  have H_b : Whole u6 (w.heap.size + 1) 23 _ := Whole.below (K_b.out.alloc _) hb (by first | omega | (simp; done) | (simp; omega) | (simp at *; omega))
  have H_a : Whole u6 (u1.heap.size) 23 _ := Whole.below (K_a.out.alloc _) hb (by first | omega | (simp; done) | (simp; omega) | (simp at *; omega))
  have H_c : Whole u6 (u2.heap.size) 23 _ := Whole.below (K_c.out.alloc _) hb (by first | omega | (simp; done) | (simp; omega) | (simp at *; omega))
  have H_now : Whole u6 (u5.heap.size) 23 _ := Whole.below (Whole.new _ 23 _) hb (by first | omega | (simp; done) | (simp; omega) | (simp at *; omega))
  have HB := (KB.out.alloc (by first | omega | (simp; done) | (simp; omega) | (simp at *; omega)) _).trans (hb.mono (by first | omega | (simp; done) | (simp; omega) | (simp at *; omega)))
  clear c_p_0 c_p_1 f_p_0 f_p_1 c_b_0 c_b_1 f_b_0 f_b_1 c_a_0 c_a_1 f_a_0 f_a_1 c_c_0 c_c_1 f_c_0 f_c_1
  clear hb KB K_p K_b K_a K_c
  have z_u6 := HB.size
  have c_p_0 := H_p.cell 0; have f_p_0 := H_p.free 0; have c_p_1 := H_p.cell 1; have f_p_1 := H_p.free 1
  simp only [List.set_cons_zero, List.set_cons_succ, List.getElem?_cons_zero, List.getElem?_cons_succ] at c_p_0 c_p_1
  have c_b_0 := H_b.cell 0; have f_b_0 := H_b.free 0; have c_b_1 := H_b.cell 1; have f_b_1 := H_b.free 1
  simp only [List.set_cons_zero, List.set_cons_succ, List.getElem?_cons_zero, List.getElem?_cons_succ] at c_b_0 c_b_1
  have c_a_0 := H_a.cell 0; have f_a_0 := H_a.free 0; have c_a_1 := H_a.cell 1; have f_a_1 := H_a.free 1
  simp only [List.set_cons_zero, List.set_cons_succ, List.getElem?_cons_zero, List.getElem?_cons_succ] at c_a_0 c_a_1
  have c_c_0 := H_c.cell 0; have f_c_0 := H_c.free 0; have c_c_1 := H_c.cell 1; have f_c_1 := H_c.free 1
  simp only [List.set_cons_zero, List.set_cons_succ, List.getElem?_cons_zero, List.getElem?_cons_succ] at c_c_0 c_c_1
  have c_now_0 := H_now.cell 0; have f_now_0 := H_now.free 0; have c_now_1 := H_now.cell 1; have f_now_1 := H_now.free 1
  simp only [List.set_cons_zero, List.set_cons_succ, List.getElem?_cons_zero, List.getElem?_cons_succ] at c_now_0 c_now_1
  have l_p := H_p.lt; have K_p := Lib.hid H_p; clear H_p
  have l_b := H_b.lt; have K_b := Lib.hid H_b; clear H_b
  have l_a := H_a.lt; have K_a := Lib.hid H_a; clear H_a
  have l_c := H_c.lt; have K_c := Lib.hid H_c; clear H_c
  have l_now := H_now.lt; have K_now := Lib.hid H_now; clear H_now
  have KB := Lib.hid HB; clear HB
  go_wp2_with fail
  go_ret
  exact ⟨by first | rfl | simp, (KB.out.alloc (by first | omega | (simp; done) | (simp; omega) | (simp at *; omega)) _)⟩

end Vo
end Go.Proofs.YtojkccdmnhppnaaDoor
