/- The walk of the statement that ballots are in one order. -/
import Derived.Test.YtilpclajkofgmaaBallotAwake
set_option linter.unusedSimpArgs false
set_option linter.unusedVariables false
namespace Go.Proofs.Ytilpclajkofgmaa
open Go.RowKit

namespace Bl

set_option maxHeartbeats 4000000 in
theorem total_lt1 (ar ap br bp cr cp : Int) (h0 : lessB ⟨ar, ap⟩ ⟨ar, ap⟩ = false)(h1 : lessB ⟨ar, ap⟩ ⟨br, bp⟩ = true)(h2 : lessB ⟨br, bp⟩ ⟨ar, ap⟩ = false)(h3 : lessB ⟨br, bp⟩ ⟨cr, cp⟩ = true)(h4 : lessB ⟨ar, ap⟩ ⟨cr, cp⟩ = true) (w : World) :
    Calls Try.prog 5 #[.agg #[.int .i64 ar, .int .i64 ap], .agg #[.int .i64 br, .int .i64 bp], .agg #[.int .i64 cr, .int .i64 cp]] w fun e w' => e = .returned (.bool true) ∧ Below w.heap.size w w' := by
  have LL := Lib.hid less_any
  have AW := Lib.hid awake_any
  have KB := Lib.hid (Below.refl w.heap.size w)
  go_enter Try.func5, Try.ntmps5
  go_wp2_with fail
  refine (AW.out _).mono ?_
  rintro e1 u1 ⟨rfl, hb⟩
  have H_a : Whole u1 (w.heap.size) 23 _ := Whole.below (((Whole.new _ 23 _).alloc _).alloc _) hb (by first | omega | (simp; done) | (simp; omega) | (simp at *; omega))
  have H_b : Whole u1 (w.heap.size + 1) 23 _ := Whole.below ((wh_at w 1 _ 23 _ (by simp)).alloc _) hb (by first | omega | (simp; done) | (simp; omega) | (simp at *; omega))
  have H_c : Whole u1 (w.heap.size + 2) 23 _ := Whole.below (wh_at w 2 _ 23 _ (by simp)) hb (by first | omega | (simp; done) | (simp; omega) | (simp at *; omega))
  have HB := (((KB.out.alloc (by first | omega | (simp; done) | (simp; omega) | (simp at *; omega)) _).alloc (by first | omega | (simp; done) | (simp; omega) | (simp at *; omega)) _).alloc (by first | omega | (simp; done) | (simp; omega) | (simp at *; omega)) _).trans (hb.mono (by first | omega | (simp; done) | (simp; omega) | (simp at *; omega)))
  clear hb KB
  have z_u1 := HB.size
  have c_a_0 := H_a.cell 0; have f_a_0 := H_a.free 0; have c_a_1 := H_a.cell 1; have f_a_1 := H_a.free 1
  simp only [List.set_cons_zero, List.set_cons_succ, List.getElem?_cons_zero, List.getElem?_cons_succ] at c_a_0 c_a_1
  have c_b_0 := H_b.cell 0; have f_b_0 := H_b.free 0; have c_b_1 := H_b.cell 1; have f_b_1 := H_b.free 1
  simp only [List.set_cons_zero, List.set_cons_succ, List.getElem?_cons_zero, List.getElem?_cons_succ] at c_b_0 c_b_1
  have c_c_0 := H_c.cell 0; have f_c_0 := H_c.free 0; have c_c_1 := H_c.cell 1; have f_c_1 := H_c.free 1
  simp only [List.set_cons_zero, List.set_cons_succ, List.getElem?_cons_zero, List.getElem?_cons_succ] at c_c_0 c_c_1
  have l_a := H_a.lt; have K_a := Lib.hid H_a; clear H_a
  have l_b := H_b.lt; have K_b := Lib.hid H_b; clear H_b
  have l_c := H_c.lt; have K_c := Lib.hid H_c; clear H_c
  have KB := Lib.hid HB; clear HB
  go_wp2_with fail
  have KN : Hid (Known u1 [(w.heap.size, 23, [.int .i64 ar, .int .i64 ap]), (w.heap.size + 1, 23, [.int .i64 br, .int .i64 bp]), (w.heap.size + 2, 23, [.int .i64 cr, .int .i64 cp])] ∧ Below w.heap.size w u1) := ⟨(Known.add K_a.out (Known.add K_b.out (Known.add K_c.out (Known.nil u1)))), KB.out⟩
  have SOF : ∀ u : World, Hid (Known u [(w.heap.size, 23, [.int .i64 ar, .int .i64 ap]), (w.heap.size + 1, 23, [.int .i64 br, .int .i64 bp]), (w.heap.size + 2, 23, [.int .i64 cr, .int .i64 cp])] ∧ Below w.heap.size w u) → (fun u : World => (u.cell? ⟨w.heap.size, 0, none⟩ = some (.int .i64 ar) ∧ u.cell? ⟨w.heap.size, 1, none⟩ = some (.int .i64 ap) ∧ u.cell? ⟨w.heap.size + 1, 0, none⟩ = some (.int .i64 br) ∧ u.cell? ⟨w.heap.size + 1, 1, none⟩ = some (.int .i64 bp) ∧ u.cell? ⟨w.heap.size + 2, 0, none⟩ = some (.int .i64 cr) ∧ u.cell? ⟨w.heap.size + 2, 1, none⟩ = some (.int .i64 cp)) ∧ Hid (Known u [(w.heap.size, 23, [.int .i64 ar, .int .i64 ap]), (w.heap.size + 1, 23, [.int .i64 br, .int .i64 bp]), (w.heap.size + 2, 23, [.int .i64 cr, .int .i64 cp])] ∧ Below w.heap.size w u)) u := fun u h => ⟨⟨(h.out.1.head.cell 0), (h.out.1.head.cell 1), (h.out.1.tail.head.cell 0), (h.out.1.tail.head.cell 1), (h.out.1.tail.tail.head.cell 0), (h.out.1.tail.tail.head.cell 1)⟩, h⟩
  have SOF := Lib.hid SOF
  clear KB K_a K_b K_c
  go_region_held3 (fun u : World => (u.cell? ⟨w.heap.size, 0, none⟩ = some (.int .i64 ar) ∧ u.cell? ⟨w.heap.size, 1, none⟩ = some (.int .i64 ap) ∧ u.cell? ⟨w.heap.size + 1, 0, none⟩ = some (.int .i64 br) ∧ u.cell? ⟨w.heap.size + 1, 1, none⟩ = some (.int .i64 bp) ∧ u.cell? ⟨w.heap.size + 2, 0, none⟩ = some (.int .i64 cr) ∧ u.cell? ⟨w.heap.size + 2, 1, none⟩ = some (.int .i64 cp)) ∧ Hid (Known u [(w.heap.size, 23, [.int .i64 ar, .int .i64 ap]), (w.heap.size + 1, 23, [.int .i64 br, .int .i64 bp]), (w.heap.size + 2, 23, [.int .i64 cr, .int .i64 cp])] ∧ Below w.heap.size w u))
    (first | exact SOF.out _ (kdrew KN) | exact SOF.out _ (kcall (Nat.le_refl _) (And.right (by assumption)) hb))
    (first
      | (go_at_call 10; refine (LL.out ⟨_, _⟩ ⟨_, _⟩ _).mono ?_; rintro e u ⟨rfl, hb⟩)
    )
  have KN1 := And.right (show (fun u : World => (u.cell? ⟨w.heap.size, 0, none⟩ = some (.int .i64 ar) ∧ u.cell? ⟨w.heap.size, 1, none⟩ = some (.int .i64 ap) ∧ u.cell? ⟨w.heap.size + 1, 0, none⟩ = some (.int .i64 br) ∧ u.cell? ⟨w.heap.size + 1, 1, none⟩ = some (.int .i64 bp) ∧ u.cell? ⟨w.heap.size + 2, 0, none⟩ = some (.int .i64 cr) ∧ u.cell? ⟨w.heap.size + 2, 1, none⟩ = some (.int .i64 cp)) ∧ Hid (Known u [(w.heap.size, 23, [.int .i64 ar, .int .i64 ap]), (w.heap.size + 1, 23, [.int .i64 br, .int .i64 bp]), (w.heap.size + 2, 23, [.int .i64 cr, .int .i64 cp])] ∧ Below w.heap.size w u)) u from by assumption)
  have H_a : Whole u (w.heap.size) 23 _ := KN1.out.1.head
  have H_b : Whole u (w.heap.size + 1) 23 _ := KN1.out.1.tail.head
  have H_c : Whole u (w.heap.size + 2) 23 _ := KN1.out.1.tail.tail.head
  have HB := KN1.out.2
  clear c_a_0 c_a_1 f_a_0 f_a_1 c_b_0 c_b_1 f_b_0 f_b_1 c_c_0 c_c_1 f_c_0 f_c_1 l_a l_b l_c
  clear KN KN1 SOF
  have z_2 := HB.size
  have c_a_0 := H_a.cell 0; have f_a_0 := H_a.free 0; have c_a_1 := H_a.cell 1; have f_a_1 := H_a.free 1
  simp only [List.set_cons_zero, List.set_cons_succ, List.getElem?_cons_zero, List.getElem?_cons_succ] at c_a_0 c_a_1
  have c_b_0 := H_b.cell 0; have f_b_0 := H_b.free 0; have c_b_1 := H_b.cell 1; have f_b_1 := H_b.free 1
  simp only [List.set_cons_zero, List.set_cons_succ, List.getElem?_cons_zero, List.getElem?_cons_succ] at c_b_0 c_b_1
  have c_c_0 := H_c.cell 0; have f_c_0 := H_c.free 0; have c_c_1 := H_c.cell 1; have f_c_1 := H_c.free 1
  simp only [List.set_cons_zero, List.set_cons_succ, List.getElem?_cons_zero, List.getElem?_cons_succ] at c_c_0 c_c_1
  have l_a := H_a.lt; have K_a := Lib.hid H_a; clear H_a
  have l_b := H_b.lt; have K_b := Lib.hid H_b; clear H_b
  have l_c := H_c.lt; have K_c := Lib.hid H_c; clear H_c
  have KB := Lib.hid HB; clear HB
  go_wp2_with fail
  refine (LL.out ⟨_, _⟩ ⟨_, _⟩ _).mono ?_
  rintro e3 u3 ⟨rfl, hb⟩
  have H_a : Whole u3 (w.heap.size) 23 _ := Whole.below K_a.out hb (by first | omega | (simp; done) | (simp; omega) | (simp at *; omega))
  have H_b : Whole u3 (w.heap.size + 1) 23 _ := Whole.below K_b.out hb (by first | omega | (simp; done) | (simp; omega) | (simp at *; omega))
  have H_c : Whole u3 (w.heap.size + 2) 23 _ := Whole.below K_c.out hb (by first | omega | (simp; done) | (simp; omega) | (simp at *; omega))
  have HB := KB.out.trans (hb.mono (by first | omega | (simp; done) | (simp; omega) | (simp at *; omega)))
  clear c_a_0 c_a_1 f_a_0 f_a_1 c_b_0 c_b_1 f_b_0 f_b_1 c_c_0 c_c_1 f_c_0 f_c_1 l_a l_b l_c
  clear hb KB K_a K_b K_c
  have z_u3 := HB.size
  have c_a_0 := H_a.cell 0; have f_a_0 := H_a.free 0; have c_a_1 := H_a.cell 1; have f_a_1 := H_a.free 1
  simp only [List.set_cons_zero, List.set_cons_succ, List.getElem?_cons_zero, List.getElem?_cons_succ] at c_a_0 c_a_1
  have c_b_0 := H_b.cell 0; have f_b_0 := H_b.free 0; have c_b_1 := H_b.cell 1; have f_b_1 := H_b.free 1
  simp only [List.set_cons_zero, List.set_cons_succ, List.getElem?_cons_zero, List.getElem?_cons_succ] at c_b_0 c_b_1
  have c_c_0 := H_c.cell 0; have f_c_0 := H_c.free 0; have c_c_1 := H_c.cell 1; have f_c_1 := H_c.free 1
  simp only [List.set_cons_zero, List.set_cons_succ, List.getElem?_cons_zero, List.getElem?_cons_succ] at c_c_0 c_c_1
  have l_a := H_a.lt; have K_a := Lib.hid H_a; clear H_a
  have l_b := H_b.lt; have K_b := Lib.hid H_b; clear H_b
  have l_c := H_c.lt; have K_c := Lib.hid H_c; clear H_c
  have KB := Lib.hid HB; clear HB
  go_wp2_with fail
  refine (LL.out ⟨_, _⟩ ⟨_, _⟩ _).mono ?_
  rintro e4 u4 ⟨rfl, hb⟩
  have H_a : Whole u4 (w.heap.size) 23 _ := Whole.below K_a.out hb (by first | omega | (simp; done) | (simp; omega) | (simp at *; omega))
  have H_b : Whole u4 (w.heap.size + 1) 23 _ := Whole.below K_b.out hb (by first | omega | (simp; done) | (simp; omega) | (simp at *; omega))
  have H_c : Whole u4 (w.heap.size + 2) 23 _ := Whole.below K_c.out hb (by first | omega | (simp; done) | (simp; omega) | (simp at *; omega))
  have HB := KB.out.trans (hb.mono (by first | omega | (simp; done) | (simp; omega) | (simp at *; omega)))
  clear c_a_0 c_a_1 f_a_0 f_a_1 c_b_0 c_b_1 f_b_0 f_b_1 c_c_0 c_c_1 f_c_0 f_c_1 l_a l_b l_c
  clear hb KB K_a K_b K_c
  have z_u4 := HB.size
  have c_a_0 := H_a.cell 0; have f_a_0 := H_a.free 0; have c_a_1 := H_a.cell 1; have f_a_1 := H_a.free 1
  simp only [List.set_cons_zero, List.set_cons_succ, List.getElem?_cons_zero, List.getElem?_cons_succ] at c_a_0 c_a_1
  have c_b_0 := H_b.cell 0; have f_b_0 := H_b.free 0; have c_b_1 := H_b.cell 1; have f_b_1 := H_b.free 1
  simp only [List.set_cons_zero, List.set_cons_succ, List.getElem?_cons_zero, List.getElem?_cons_succ] at c_b_0 c_b_1
  have c_c_0 := H_c.cell 0; have f_c_0 := H_c.free 0; have c_c_1 := H_c.cell 1; have f_c_1 := H_c.free 1
  simp only [List.set_cons_zero, List.set_cons_succ, List.getElem?_cons_zero, List.getElem?_cons_succ] at c_c_0 c_c_1
  have l_a := H_a.lt; have K_a := Lib.hid H_a; clear H_a
  have l_b := H_b.lt; have K_b := Lib.hid H_b; clear H_b
  have l_c := H_c.lt; have K_c := Lib.hid H_c; clear H_c
  have KB := Lib.hid HB; clear HB
  go_wp2_with fail
  refine (LL.out ⟨_, _⟩ ⟨_, _⟩ _).mono ?_
  rintro e5 u5 ⟨rfl, hb⟩
  have H_a : Whole u5 (w.heap.size) 23 _ := Whole.below K_a.out hb (by first | omega | (simp; done) | (simp; omega) | (simp at *; omega))
  have H_b : Whole u5 (w.heap.size + 1) 23 _ := Whole.below K_b.out hb (by first | omega | (simp; done) | (simp; omega) | (simp at *; omega))
  have H_c : Whole u5 (w.heap.size + 2) 23 _ := Whole.below K_c.out hb (by first | omega | (simp; done) | (simp; omega) | (simp at *; omega))
  have HB := KB.out.trans (hb.mono (by first | omega | (simp; done) | (simp; omega) | (simp at *; omega)))
  clear c_a_0 c_a_1 f_a_0 f_a_1 c_b_0 c_b_1 f_b_0 f_b_1 c_c_0 c_c_1 f_c_0 f_c_1 l_a l_b l_c
  clear hb KB K_a K_b K_c
  have z_u5 := HB.size
  have c_a_0 := H_a.cell 0; have f_a_0 := H_a.free 0; have c_a_1 := H_a.cell 1; have f_a_1 := H_a.free 1
  simp only [List.set_cons_zero, List.set_cons_succ, List.getElem?_cons_zero, List.getElem?_cons_succ] at c_a_0 c_a_1
  have c_b_0 := H_b.cell 0; have f_b_0 := H_b.free 0; have c_b_1 := H_b.cell 1; have f_b_1 := H_b.free 1
  simp only [List.set_cons_zero, List.set_cons_succ, List.getElem?_cons_zero, List.getElem?_cons_succ] at c_b_0 c_b_1
  have c_c_0 := H_c.cell 0; have f_c_0 := H_c.free 0; have c_c_1 := H_c.cell 1; have f_c_1 := H_c.free 1
  simp only [List.set_cons_zero, List.set_cons_succ, List.getElem?_cons_zero, List.getElem?_cons_succ] at c_c_0 c_c_1
  have l_a := H_a.lt; have K_a := Lib.hid H_a; clear H_a
  have l_b := H_b.lt; have K_b := Lib.hid H_b; clear H_b
  have l_c := H_c.lt; have K_c := Lib.hid H_c; clear H_c
  have KB := Lib.hid HB; clear HB
  go_wp2_with fail
  go_ret
  exact ⟨by first | rfl | simp, KB.out⟩

set_option maxHeartbeats 4000000 in
theorem total_lt2 (ar ap br bp cr cp : Int) (h0 : lessB ⟨ar, ap⟩ ⟨ar, ap⟩ = false)(h1 : lessB ⟨ar, ap⟩ ⟨br, bp⟩ = true)(h2 : lessB ⟨br, bp⟩ ⟨ar, ap⟩ = false)(h3 : lessB ⟨br, bp⟩ ⟨cr, cp⟩ = false) (w : World) :
    Calls Try.prog 5 #[.agg #[.int .i64 ar, .int .i64 ap], .agg #[.int .i64 br, .int .i64 bp], .agg #[.int .i64 cr, .int .i64 cp]] w fun e w' => e = .returned (.bool true) ∧ Below w.heap.size w w' := by
  have LL := Lib.hid less_any
  have AW := Lib.hid awake_any
  have KB := Lib.hid (Below.refl w.heap.size w)
  go_enter Try.func5, Try.ntmps5
  go_wp2_with fail
  refine (AW.out _).mono ?_
  rintro e1 u1 ⟨rfl, hb⟩
  have H_a : Whole u1 (w.heap.size) 23 _ := Whole.below (((Whole.new _ 23 _).alloc _).alloc _) hb (by first | omega | (simp; done) | (simp; omega) | (simp at *; omega))
  have H_b : Whole u1 (w.heap.size + 1) 23 _ := Whole.below ((wh_at w 1 _ 23 _ (by simp)).alloc _) hb (by first | omega | (simp; done) | (simp; omega) | (simp at *; omega))
  have H_c : Whole u1 (w.heap.size + 2) 23 _ := Whole.below (wh_at w 2 _ 23 _ (by simp)) hb (by first | omega | (simp; done) | (simp; omega) | (simp at *; omega))
  have HB := (((KB.out.alloc (by first | omega | (simp; done) | (simp; omega) | (simp at *; omega)) _).alloc (by first | omega | (simp; done) | (simp; omega) | (simp at *; omega)) _).alloc (by first | omega | (simp; done) | (simp; omega) | (simp at *; omega)) _).trans (hb.mono (by first | omega | (simp; done) | (simp; omega) | (simp at *; omega)))
  clear hb KB
  have z_u1 := HB.size
  have c_a_0 := H_a.cell 0; have f_a_0 := H_a.free 0; have c_a_1 := H_a.cell 1; have f_a_1 := H_a.free 1
  simp only [List.set_cons_zero, List.set_cons_succ, List.getElem?_cons_zero, List.getElem?_cons_succ] at c_a_0 c_a_1
  have c_b_0 := H_b.cell 0; have f_b_0 := H_b.free 0; have c_b_1 := H_b.cell 1; have f_b_1 := H_b.free 1
  simp only [List.set_cons_zero, List.set_cons_succ, List.getElem?_cons_zero, List.getElem?_cons_succ] at c_b_0 c_b_1
  have c_c_0 := H_c.cell 0; have f_c_0 := H_c.free 0; have c_c_1 := H_c.cell 1; have f_c_1 := H_c.free 1
  simp only [List.set_cons_zero, List.set_cons_succ, List.getElem?_cons_zero, List.getElem?_cons_succ] at c_c_0 c_c_1
  have l_a := H_a.lt; have K_a := Lib.hid H_a; clear H_a
  have l_b := H_b.lt; have K_b := Lib.hid H_b; clear H_b
  have l_c := H_c.lt; have K_c := Lib.hid H_c; clear H_c
  have KB := Lib.hid HB; clear HB
  go_wp2_with fail
  have KN : Hid (Known u1 [(w.heap.size, 23, [.int .i64 ar, .int .i64 ap]), (w.heap.size + 1, 23, [.int .i64 br, .int .i64 bp]), (w.heap.size + 2, 23, [.int .i64 cr, .int .i64 cp])] ∧ Below w.heap.size w u1) := ⟨(Known.add K_a.out (Known.add K_b.out (Known.add K_c.out (Known.nil u1)))), KB.out⟩
  have SOF : ∀ u : World, Hid (Known u [(w.heap.size, 23, [.int .i64 ar, .int .i64 ap]), (w.heap.size + 1, 23, [.int .i64 br, .int .i64 bp]), (w.heap.size + 2, 23, [.int .i64 cr, .int .i64 cp])] ∧ Below w.heap.size w u) → (fun u : World => (u.cell? ⟨w.heap.size, 0, none⟩ = some (.int .i64 ar) ∧ u.cell? ⟨w.heap.size, 1, none⟩ = some (.int .i64 ap) ∧ u.cell? ⟨w.heap.size + 1, 0, none⟩ = some (.int .i64 br) ∧ u.cell? ⟨w.heap.size + 1, 1, none⟩ = some (.int .i64 bp) ∧ u.cell? ⟨w.heap.size + 2, 0, none⟩ = some (.int .i64 cr) ∧ u.cell? ⟨w.heap.size + 2, 1, none⟩ = some (.int .i64 cp)) ∧ Hid (Known u [(w.heap.size, 23, [.int .i64 ar, .int .i64 ap]), (w.heap.size + 1, 23, [.int .i64 br, .int .i64 bp]), (w.heap.size + 2, 23, [.int .i64 cr, .int .i64 cp])] ∧ Below w.heap.size w u)) u := fun u h => ⟨⟨(h.out.1.head.cell 0), (h.out.1.head.cell 1), (h.out.1.tail.head.cell 0), (h.out.1.tail.head.cell 1), (h.out.1.tail.tail.head.cell 0), (h.out.1.tail.tail.head.cell 1)⟩, h⟩
  have SOF := Lib.hid SOF
  clear KB K_a K_b K_c
  go_region_held3 (fun u : World => (u.cell? ⟨w.heap.size, 0, none⟩ = some (.int .i64 ar) ∧ u.cell? ⟨w.heap.size, 1, none⟩ = some (.int .i64 ap) ∧ u.cell? ⟨w.heap.size + 1, 0, none⟩ = some (.int .i64 br) ∧ u.cell? ⟨w.heap.size + 1, 1, none⟩ = some (.int .i64 bp) ∧ u.cell? ⟨w.heap.size + 2, 0, none⟩ = some (.int .i64 cr) ∧ u.cell? ⟨w.heap.size + 2, 1, none⟩ = some (.int .i64 cp)) ∧ Hid (Known u [(w.heap.size, 23, [.int .i64 ar, .int .i64 ap]), (w.heap.size + 1, 23, [.int .i64 br, .int .i64 bp]), (w.heap.size + 2, 23, [.int .i64 cr, .int .i64 cp])] ∧ Below w.heap.size w u))
    (first | exact SOF.out _ (kdrew KN) | exact SOF.out _ (kcall (Nat.le_refl _) (And.right (by assumption)) hb))
    (first
      | (go_at_call 10; refine (LL.out ⟨_, _⟩ ⟨_, _⟩ _).mono ?_; rintro e u ⟨rfl, hb⟩)
    )
  have KN1 := And.right (show (fun u : World => (u.cell? ⟨w.heap.size, 0, none⟩ = some (.int .i64 ar) ∧ u.cell? ⟨w.heap.size, 1, none⟩ = some (.int .i64 ap) ∧ u.cell? ⟨w.heap.size + 1, 0, none⟩ = some (.int .i64 br) ∧ u.cell? ⟨w.heap.size + 1, 1, none⟩ = some (.int .i64 bp) ∧ u.cell? ⟨w.heap.size + 2, 0, none⟩ = some (.int .i64 cr) ∧ u.cell? ⟨w.heap.size + 2, 1, none⟩ = some (.int .i64 cp)) ∧ Hid (Known u [(w.heap.size, 23, [.int .i64 ar, .int .i64 ap]), (w.heap.size + 1, 23, [.int .i64 br, .int .i64 bp]), (w.heap.size + 2, 23, [.int .i64 cr, .int .i64 cp])] ∧ Below w.heap.size w u)) u from by assumption)
  have H_a : Whole u (w.heap.size) 23 _ := KN1.out.1.head
  have H_b : Whole u (w.heap.size + 1) 23 _ := KN1.out.1.tail.head
  have H_c : Whole u (w.heap.size + 2) 23 _ := KN1.out.1.tail.tail.head
  have HB := KN1.out.2
  clear c_a_0 c_a_1 f_a_0 f_a_1 c_b_0 c_b_1 f_b_0 f_b_1 c_c_0 c_c_1 f_c_0 f_c_1 l_a l_b l_c
  clear KN KN1 SOF
  have z_2 := HB.size
  have c_a_0 := H_a.cell 0; have f_a_0 := H_a.free 0; have c_a_1 := H_a.cell 1; have f_a_1 := H_a.free 1
  simp only [List.set_cons_zero, List.set_cons_succ, List.getElem?_cons_zero, List.getElem?_cons_succ] at c_a_0 c_a_1
  have c_b_0 := H_b.cell 0; have f_b_0 := H_b.free 0; have c_b_1 := H_b.cell 1; have f_b_1 := H_b.free 1
  simp only [List.set_cons_zero, List.set_cons_succ, List.getElem?_cons_zero, List.getElem?_cons_succ] at c_b_0 c_b_1
  have c_c_0 := H_c.cell 0; have f_c_0 := H_c.free 0; have c_c_1 := H_c.cell 1; have f_c_1 := H_c.free 1
  simp only [List.set_cons_zero, List.set_cons_succ, List.getElem?_cons_zero, List.getElem?_cons_succ] at c_c_0 c_c_1
  have l_a := H_a.lt; have K_a := Lib.hid H_a; clear H_a
  have l_b := H_b.lt; have K_b := Lib.hid H_b; clear H_b
  have l_c := H_c.lt; have K_c := Lib.hid H_c; clear H_c
  have KB := Lib.hid HB; clear HB
  go_wp2_with fail
  refine (LL.out ⟨_, _⟩ ⟨_, _⟩ _).mono ?_
  rintro e3 u3 ⟨rfl, hb⟩
  have H_a : Whole u3 (w.heap.size) 23 _ := Whole.below K_a.out hb (by first | omega | (simp; done) | (simp; omega) | (simp at *; omega))
  have H_b : Whole u3 (w.heap.size + 1) 23 _ := Whole.below K_b.out hb (by first | omega | (simp; done) | (simp; omega) | (simp at *; omega))
  have H_c : Whole u3 (w.heap.size + 2) 23 _ := Whole.below K_c.out hb (by first | omega | (simp; done) | (simp; omega) | (simp at *; omega))
  have HB := KB.out.trans (hb.mono (by first | omega | (simp; done) | (simp; omega) | (simp at *; omega)))
  clear c_a_0 c_a_1 f_a_0 f_a_1 c_b_0 c_b_1 f_b_0 f_b_1 c_c_0 c_c_1 f_c_0 f_c_1 l_a l_b l_c
  clear hb KB K_a K_b K_c
  have z_u3 := HB.size
  have c_a_0 := H_a.cell 0; have f_a_0 := H_a.free 0; have c_a_1 := H_a.cell 1; have f_a_1 := H_a.free 1
  simp only [List.set_cons_zero, List.set_cons_succ, List.getElem?_cons_zero, List.getElem?_cons_succ] at c_a_0 c_a_1
  have c_b_0 := H_b.cell 0; have f_b_0 := H_b.free 0; have c_b_1 := H_b.cell 1; have f_b_1 := H_b.free 1
  simp only [List.set_cons_zero, List.set_cons_succ, List.getElem?_cons_zero, List.getElem?_cons_succ] at c_b_0 c_b_1
  have c_c_0 := H_c.cell 0; have f_c_0 := H_c.free 0; have c_c_1 := H_c.cell 1; have f_c_1 := H_c.free 1
  simp only [List.set_cons_zero, List.set_cons_succ, List.getElem?_cons_zero, List.getElem?_cons_succ] at c_c_0 c_c_1
  have l_a := H_a.lt; have K_a := Lib.hid H_a; clear H_a
  have l_b := H_b.lt; have K_b := Lib.hid H_b; clear H_b
  have l_c := H_c.lt; have K_c := Lib.hid H_c; clear H_c
  have KB := Lib.hid HB; clear HB
  go_wp2_with fail
  refine (LL.out ⟨_, _⟩ ⟨_, _⟩ _).mono ?_
  rintro e4 u4 ⟨rfl, hb⟩
  have H_a : Whole u4 (w.heap.size) 23 _ := Whole.below K_a.out hb (by first | omega | (simp; done) | (simp; omega) | (simp at *; omega))
  have H_b : Whole u4 (w.heap.size + 1) 23 _ := Whole.below K_b.out hb (by first | omega | (simp; done) | (simp; omega) | (simp at *; omega))
  have H_c : Whole u4 (w.heap.size + 2) 23 _ := Whole.below K_c.out hb (by first | omega | (simp; done) | (simp; omega) | (simp at *; omega))
  have HB := KB.out.trans (hb.mono (by first | omega | (simp; done) | (simp; omega) | (simp at *; omega)))
  clear c_a_0 c_a_1 f_a_0 f_a_1 c_b_0 c_b_1 f_b_0 f_b_1 c_c_0 c_c_1 f_c_0 f_c_1 l_a l_b l_c
  clear hb KB K_a K_b K_c
  have z_u4 := HB.size
  have c_a_0 := H_a.cell 0; have f_a_0 := H_a.free 0; have c_a_1 := H_a.cell 1; have f_a_1 := H_a.free 1
  simp only [List.set_cons_zero, List.set_cons_succ, List.getElem?_cons_zero, List.getElem?_cons_succ] at c_a_0 c_a_1
  have c_b_0 := H_b.cell 0; have f_b_0 := H_b.free 0; have c_b_1 := H_b.cell 1; have f_b_1 := H_b.free 1
  simp only [List.set_cons_zero, List.set_cons_succ, List.getElem?_cons_zero, List.getElem?_cons_succ] at c_b_0 c_b_1
  have c_c_0 := H_c.cell 0; have f_c_0 := H_c.free 0; have c_c_1 := H_c.cell 1; have f_c_1 := H_c.free 1
  simp only [List.set_cons_zero, List.set_cons_succ, List.getElem?_cons_zero, List.getElem?_cons_succ] at c_c_0 c_c_1
  have l_a := H_a.lt; have K_a := Lib.hid H_a; clear H_a
  have l_b := H_b.lt; have K_b := Lib.hid H_b; clear H_b
  have l_c := H_c.lt; have K_c := Lib.hid H_c; clear H_c
  have KB := Lib.hid HB; clear HB
  go_wp2_with fail
  go_ret
  exact ⟨by first | rfl | simp, KB.out⟩

set_option maxHeartbeats 4000000 in
theorem total_gt (ar ap br bp cr cp : Int) (h0 : lessB ⟨ar, ap⟩ ⟨ar, ap⟩ = false)(h1 : lessB ⟨ar, ap⟩ ⟨br, bp⟩ = false)(h2 : lessB ⟨br, bp⟩ ⟨ar, ap⟩ = true) (w : World) :
    Calls Try.prog 5 #[.agg #[.int .i64 ar, .int .i64 ap], .agg #[.int .i64 br, .int .i64 bp], .agg #[.int .i64 cr, .int .i64 cp]] w fun e w' => e = .returned (.bool true) ∧ Below w.heap.size w w' := by
  have LL := Lib.hid less_any
  have AW := Lib.hid awake_any
  have KB := Lib.hid (Below.refl w.heap.size w)
  go_enter Try.func5, Try.ntmps5
  go_wp2_with fail
  refine (AW.out _).mono ?_
  rintro e1 u1 ⟨rfl, hb⟩
  have H_a : Whole u1 (w.heap.size) 23 _ := Whole.below (((Whole.new _ 23 _).alloc _).alloc _) hb (by first | omega | (simp; done) | (simp; omega) | (simp at *; omega))
  have H_b : Whole u1 (w.heap.size + 1) 23 _ := Whole.below ((wh_at w 1 _ 23 _ (by simp)).alloc _) hb (by first | omega | (simp; done) | (simp; omega) | (simp at *; omega))
  have H_c : Whole u1 (w.heap.size + 2) 23 _ := Whole.below (wh_at w 2 _ 23 _ (by simp)) hb (by first | omega | (simp; done) | (simp; omega) | (simp at *; omega))
  have HB := (((KB.out.alloc (by first | omega | (simp; done) | (simp; omega) | (simp at *; omega)) _).alloc (by first | omega | (simp; done) | (simp; omega) | (simp at *; omega)) _).alloc (by first | omega | (simp; done) | (simp; omega) | (simp at *; omega)) _).trans (hb.mono (by first | omega | (simp; done) | (simp; omega) | (simp at *; omega)))
  clear hb KB
  have z_u1 := HB.size
  have c_a_0 := H_a.cell 0; have f_a_0 := H_a.free 0; have c_a_1 := H_a.cell 1; have f_a_1 := H_a.free 1
  simp only [List.set_cons_zero, List.set_cons_succ, List.getElem?_cons_zero, List.getElem?_cons_succ] at c_a_0 c_a_1
  have c_b_0 := H_b.cell 0; have f_b_0 := H_b.free 0; have c_b_1 := H_b.cell 1; have f_b_1 := H_b.free 1
  simp only [List.set_cons_zero, List.set_cons_succ, List.getElem?_cons_zero, List.getElem?_cons_succ] at c_b_0 c_b_1
  have c_c_0 := H_c.cell 0; have f_c_0 := H_c.free 0; have c_c_1 := H_c.cell 1; have f_c_1 := H_c.free 1
  simp only [List.set_cons_zero, List.set_cons_succ, List.getElem?_cons_zero, List.getElem?_cons_succ] at c_c_0 c_c_1
  have l_a := H_a.lt; have K_a := Lib.hid H_a; clear H_a
  have l_b := H_b.lt; have K_b := Lib.hid H_b; clear H_b
  have l_c := H_c.lt; have K_c := Lib.hid H_c; clear H_c
  have KB := Lib.hid HB; clear HB
  go_wp2_with fail
  have KN : Hid (Known u1 [(w.heap.size, 23, [.int .i64 ar, .int .i64 ap]), (w.heap.size + 1, 23, [.int .i64 br, .int .i64 bp]), (w.heap.size + 2, 23, [.int .i64 cr, .int .i64 cp])] ∧ Below w.heap.size w u1) := ⟨(Known.add K_a.out (Known.add K_b.out (Known.add K_c.out (Known.nil u1)))), KB.out⟩
  have SOF : ∀ u : World, Hid (Known u [(w.heap.size, 23, [.int .i64 ar, .int .i64 ap]), (w.heap.size + 1, 23, [.int .i64 br, .int .i64 bp]), (w.heap.size + 2, 23, [.int .i64 cr, .int .i64 cp])] ∧ Below w.heap.size w u) → (fun u : World => (u.cell? ⟨w.heap.size, 0, none⟩ = some (.int .i64 ar) ∧ u.cell? ⟨w.heap.size, 1, none⟩ = some (.int .i64 ap) ∧ u.cell? ⟨w.heap.size + 1, 0, none⟩ = some (.int .i64 br) ∧ u.cell? ⟨w.heap.size + 1, 1, none⟩ = some (.int .i64 bp) ∧ u.cell? ⟨w.heap.size + 2, 0, none⟩ = some (.int .i64 cr) ∧ u.cell? ⟨w.heap.size + 2, 1, none⟩ = some (.int .i64 cp)) ∧ Hid (Known u [(w.heap.size, 23, [.int .i64 ar, .int .i64 ap]), (w.heap.size + 1, 23, [.int .i64 br, .int .i64 bp]), (w.heap.size + 2, 23, [.int .i64 cr, .int .i64 cp])] ∧ Below w.heap.size w u)) u := fun u h => ⟨⟨(h.out.1.head.cell 0), (h.out.1.head.cell 1), (h.out.1.tail.head.cell 0), (h.out.1.tail.head.cell 1), (h.out.1.tail.tail.head.cell 0), (h.out.1.tail.tail.head.cell 1)⟩, h⟩
  have SOF := Lib.hid SOF
  clear KB K_a K_b K_c
  go_region_held3 (fun u : World => (u.cell? ⟨w.heap.size, 0, none⟩ = some (.int .i64 ar) ∧ u.cell? ⟨w.heap.size, 1, none⟩ = some (.int .i64 ap) ∧ u.cell? ⟨w.heap.size + 1, 0, none⟩ = some (.int .i64 br) ∧ u.cell? ⟨w.heap.size + 1, 1, none⟩ = some (.int .i64 bp) ∧ u.cell? ⟨w.heap.size + 2, 0, none⟩ = some (.int .i64 cr) ∧ u.cell? ⟨w.heap.size + 2, 1, none⟩ = some (.int .i64 cp)) ∧ Hid (Known u [(w.heap.size, 23, [.int .i64 ar, .int .i64 ap]), (w.heap.size + 1, 23, [.int .i64 br, .int .i64 bp]), (w.heap.size + 2, 23, [.int .i64 cr, .int .i64 cp])] ∧ Below w.heap.size w u))
    (first | exact SOF.out _ (kdrew KN) | exact SOF.out _ (kcall (Nat.le_refl _) (And.right (by assumption)) hb))
    (first
      | (go_at_call 10; refine (LL.out ⟨_, _⟩ ⟨_, _⟩ _).mono ?_; rintro e u ⟨rfl, hb⟩)
    )
  have KN1 := And.right (show (fun u : World => (u.cell? ⟨w.heap.size, 0, none⟩ = some (.int .i64 ar) ∧ u.cell? ⟨w.heap.size, 1, none⟩ = some (.int .i64 ap) ∧ u.cell? ⟨w.heap.size + 1, 0, none⟩ = some (.int .i64 br) ∧ u.cell? ⟨w.heap.size + 1, 1, none⟩ = some (.int .i64 bp) ∧ u.cell? ⟨w.heap.size + 2, 0, none⟩ = some (.int .i64 cr) ∧ u.cell? ⟨w.heap.size + 2, 1, none⟩ = some (.int .i64 cp)) ∧ Hid (Known u [(w.heap.size, 23, [.int .i64 ar, .int .i64 ap]), (w.heap.size + 1, 23, [.int .i64 br, .int .i64 bp]), (w.heap.size + 2, 23, [.int .i64 cr, .int .i64 cp])] ∧ Below w.heap.size w u)) u from by assumption)
  have H_a : Whole u (w.heap.size) 23 _ := KN1.out.1.head
  have H_b : Whole u (w.heap.size + 1) 23 _ := KN1.out.1.tail.head
  have H_c : Whole u (w.heap.size + 2) 23 _ := KN1.out.1.tail.tail.head
  have HB := KN1.out.2
  clear c_a_0 c_a_1 f_a_0 f_a_1 c_b_0 c_b_1 f_b_0 f_b_1 c_c_0 c_c_1 f_c_0 f_c_1 l_a l_b l_c
  clear KN KN1 SOF
  have z_2 := HB.size
  have c_a_0 := H_a.cell 0; have f_a_0 := H_a.free 0; have c_a_1 := H_a.cell 1; have f_a_1 := H_a.free 1
  simp only [List.set_cons_zero, List.set_cons_succ, List.getElem?_cons_zero, List.getElem?_cons_succ] at c_a_0 c_a_1
  have c_b_0 := H_b.cell 0; have f_b_0 := H_b.free 0; have c_b_1 := H_b.cell 1; have f_b_1 := H_b.free 1
  simp only [List.set_cons_zero, List.set_cons_succ, List.getElem?_cons_zero, List.getElem?_cons_succ] at c_b_0 c_b_1
  have c_c_0 := H_c.cell 0; have f_c_0 := H_c.free 0; have c_c_1 := H_c.cell 1; have f_c_1 := H_c.free 1
  simp only [List.set_cons_zero, List.set_cons_succ, List.getElem?_cons_zero, List.getElem?_cons_succ] at c_c_0 c_c_1
  have l_a := H_a.lt; have K_a := Lib.hid H_a; clear H_a
  have l_b := H_b.lt; have K_b := Lib.hid H_b; clear H_b
  have l_c := H_c.lt; have K_c := Lib.hid H_c; clear H_c
  have KB := Lib.hid HB; clear HB
  go_wp2_with fail
  refine (LL.out ⟨_, _⟩ ⟨_, _⟩ _).mono ?_
  rintro e3 u3 ⟨rfl, hb⟩
  have H_a : Whole u3 (w.heap.size) 23 _ := Whole.below K_a.out hb (by first | omega | (simp; done) | (simp; omega) | (simp at *; omega))
  have H_b : Whole u3 (w.heap.size + 1) 23 _ := Whole.below K_b.out hb (by first | omega | (simp; done) | (simp; omega) | (simp at *; omega))
  have H_c : Whole u3 (w.heap.size + 2) 23 _ := Whole.below K_c.out hb (by first | omega | (simp; done) | (simp; omega) | (simp at *; omega))
  have HB := KB.out.trans (hb.mono (by first | omega | (simp; done) | (simp; omega) | (simp at *; omega)))
  clear c_a_0 c_a_1 f_a_0 f_a_1 c_b_0 c_b_1 f_b_0 f_b_1 c_c_0 c_c_1 f_c_0 f_c_1 l_a l_b l_c
  clear hb KB K_a K_b K_c
  have z_u3 := HB.size
  have c_a_0 := H_a.cell 0; have f_a_0 := H_a.free 0; have c_a_1 := H_a.cell 1; have f_a_1 := H_a.free 1
  simp only [List.set_cons_zero, List.set_cons_succ, List.getElem?_cons_zero, List.getElem?_cons_succ] at c_a_0 c_a_1
  have c_b_0 := H_b.cell 0; have f_b_0 := H_b.free 0; have c_b_1 := H_b.cell 1; have f_b_1 := H_b.free 1
  simp only [List.set_cons_zero, List.set_cons_succ, List.getElem?_cons_zero, List.getElem?_cons_succ] at c_b_0 c_b_1
  have c_c_0 := H_c.cell 0; have f_c_0 := H_c.free 0; have c_c_1 := H_c.cell 1; have f_c_1 := H_c.free 1
  simp only [List.set_cons_zero, List.set_cons_succ, List.getElem?_cons_zero, List.getElem?_cons_succ] at c_c_0 c_c_1
  have l_a := H_a.lt; have K_a := Lib.hid H_a; clear H_a
  have l_b := H_b.lt; have K_b := Lib.hid H_b; clear H_b
  have l_c := H_c.lt; have K_c := Lib.hid H_c; clear H_c
  have KB := Lib.hid HB; clear HB
  go_wp2_with fail
  go_ret
  exact ⟨by first | rfl | simp, KB.out⟩

set_option maxHeartbeats 4000000 in
theorem total_eq (ar ap cr cp : Int) (h0 : lessB ⟨ar, ap⟩ ⟨ar, ap⟩ = false) (w : World) :
    Calls Try.prog 5 #[.agg #[.int .i64 ar, .int .i64 ap], .agg #[.int .i64 ar, .int .i64 ap], .agg #[.int .i64 cr, .int .i64 cp]] w fun e w' => e = .returned (.bool true) ∧ Below w.heap.size w w' := by
  have LL := Lib.hid less_any
  have AW := Lib.hid awake_any
  have KB := Lib.hid (Below.refl w.heap.size w)
  go_enter Try.func5, Try.ntmps5
  go_wp2_with fail
  refine (AW.out _).mono ?_
  rintro e1 u1 ⟨rfl, hb⟩
  have H_a : Whole u1 (w.heap.size) 23 _ := Whole.below (((Whole.new _ 23 _).alloc _).alloc _) hb (by first | omega | (simp; done) | (simp; omega) | (simp at *; omega))
  have H_b : Whole u1 (w.heap.size + 1) 23 _ := Whole.below ((wh_at w 1 _ 23 _ (by simp)).alloc _) hb (by first | omega | (simp; done) | (simp; omega) | (simp at *; omega))
  have H_c : Whole u1 (w.heap.size + 2) 23 _ := Whole.below (wh_at w 2 _ 23 _ (by simp)) hb (by first | omega | (simp; done) | (simp; omega) | (simp at *; omega))
  have HB := (((KB.out.alloc (by first | omega | (simp; done) | (simp; omega) | (simp at *; omega)) _).alloc (by first | omega | (simp; done) | (simp; omega) | (simp at *; omega)) _).alloc (by first | omega | (simp; done) | (simp; omega) | (simp at *; omega)) _).trans (hb.mono (by first | omega | (simp; done) | (simp; omega) | (simp at *; omega)))
  clear hb KB
  have z_u1 := HB.size
  have c_a_0 := H_a.cell 0; have f_a_0 := H_a.free 0; have c_a_1 := H_a.cell 1; have f_a_1 := H_a.free 1
  simp only [List.set_cons_zero, List.set_cons_succ, List.getElem?_cons_zero, List.getElem?_cons_succ] at c_a_0 c_a_1
  have c_b_0 := H_b.cell 0; have f_b_0 := H_b.free 0; have c_b_1 := H_b.cell 1; have f_b_1 := H_b.free 1
  simp only [List.set_cons_zero, List.set_cons_succ, List.getElem?_cons_zero, List.getElem?_cons_succ] at c_b_0 c_b_1
  have c_c_0 := H_c.cell 0; have f_c_0 := H_c.free 0; have c_c_1 := H_c.cell 1; have f_c_1 := H_c.free 1
  simp only [List.set_cons_zero, List.set_cons_succ, List.getElem?_cons_zero, List.getElem?_cons_succ] at c_c_0 c_c_1
  have l_a := H_a.lt; have K_a := Lib.hid H_a; clear H_a
  have l_b := H_b.lt; have K_b := Lib.hid H_b; clear H_b
  have l_c := H_c.lt; have K_c := Lib.hid H_c; clear H_c
  have KB := Lib.hid HB; clear HB
  go_wp2_with fail
  have KN : Hid (Known u1 [(w.heap.size, 23, [.int .i64 ar, .int .i64 ap]), (w.heap.size + 1, 23, [.int .i64 ar, .int .i64 ap]), (w.heap.size + 2, 23, [.int .i64 cr, .int .i64 cp])] ∧ Below w.heap.size w u1) := ⟨(Known.add K_a.out (Known.add K_b.out (Known.add K_c.out (Known.nil u1)))), KB.out⟩
  have SOF : ∀ u : World, Hid (Known u [(w.heap.size, 23, [.int .i64 ar, .int .i64 ap]), (w.heap.size + 1, 23, [.int .i64 ar, .int .i64 ap]), (w.heap.size + 2, 23, [.int .i64 cr, .int .i64 cp])] ∧ Below w.heap.size w u) → (fun u : World => (u.cell? ⟨w.heap.size, 0, none⟩ = some (.int .i64 ar) ∧ u.cell? ⟨w.heap.size, 1, none⟩ = some (.int .i64 ap) ∧ u.cell? ⟨w.heap.size + 1, 0, none⟩ = some (.int .i64 ar) ∧ u.cell? ⟨w.heap.size + 1, 1, none⟩ = some (.int .i64 ap) ∧ u.cell? ⟨w.heap.size + 2, 0, none⟩ = some (.int .i64 cr) ∧ u.cell? ⟨w.heap.size + 2, 1, none⟩ = some (.int .i64 cp)) ∧ Hid (Known u [(w.heap.size, 23, [.int .i64 ar, .int .i64 ap]), (w.heap.size + 1, 23, [.int .i64 ar, .int .i64 ap]), (w.heap.size + 2, 23, [.int .i64 cr, .int .i64 cp])] ∧ Below w.heap.size w u)) u := fun u h => ⟨⟨(h.out.1.head.cell 0), (h.out.1.head.cell 1), (h.out.1.tail.head.cell 0), (h.out.1.tail.head.cell 1), (h.out.1.tail.tail.head.cell 0), (h.out.1.tail.tail.head.cell 1)⟩, h⟩
  have SOF := Lib.hid SOF
  clear KB K_a K_b K_c
  go_region_held3 (fun u : World => (u.cell? ⟨w.heap.size, 0, none⟩ = some (.int .i64 ar) ∧ u.cell? ⟨w.heap.size, 1, none⟩ = some (.int .i64 ap) ∧ u.cell? ⟨w.heap.size + 1, 0, none⟩ = some (.int .i64 ar) ∧ u.cell? ⟨w.heap.size + 1, 1, none⟩ = some (.int .i64 ap) ∧ u.cell? ⟨w.heap.size + 2, 0, none⟩ = some (.int .i64 cr) ∧ u.cell? ⟨w.heap.size + 2, 1, none⟩ = some (.int .i64 cp)) ∧ Hid (Known u [(w.heap.size, 23, [.int .i64 ar, .int .i64 ap]), (w.heap.size + 1, 23, [.int .i64 ar, .int .i64 ap]), (w.heap.size + 2, 23, [.int .i64 cr, .int .i64 cp])] ∧ Below w.heap.size w u))
    (first | exact SOF.out _ (kdrew KN) | exact SOF.out _ (kcall (Nat.le_refl _) (And.right (by assumption)) hb))
    (first
      | (go_at_call 10; refine (LL.out ⟨_, _⟩ ⟨_, _⟩ _).mono ?_; rintro e u ⟨rfl, hb⟩)
    )
  have KN1 := And.right (show (fun u : World => (u.cell? ⟨w.heap.size, 0, none⟩ = some (.int .i64 ar) ∧ u.cell? ⟨w.heap.size, 1, none⟩ = some (.int .i64 ap) ∧ u.cell? ⟨w.heap.size + 1, 0, none⟩ = some (.int .i64 ar) ∧ u.cell? ⟨w.heap.size + 1, 1, none⟩ = some (.int .i64 ap) ∧ u.cell? ⟨w.heap.size + 2, 0, none⟩ = some (.int .i64 cr) ∧ u.cell? ⟨w.heap.size + 2, 1, none⟩ = some (.int .i64 cp)) ∧ Hid (Known u [(w.heap.size, 23, [.int .i64 ar, .int .i64 ap]), (w.heap.size + 1, 23, [.int .i64 ar, .int .i64 ap]), (w.heap.size + 2, 23, [.int .i64 cr, .int .i64 cp])] ∧ Below w.heap.size w u)) u from by assumption)
  have H_a : Whole u (w.heap.size) 23 _ := KN1.out.1.head
  have H_b : Whole u (w.heap.size + 1) 23 _ := KN1.out.1.tail.head
  have H_c : Whole u (w.heap.size + 2) 23 _ := KN1.out.1.tail.tail.head
  have HB := KN1.out.2
  clear c_a_0 c_a_1 f_a_0 f_a_1 c_b_0 c_b_1 f_b_0 f_b_1 c_c_0 c_c_1 f_c_0 f_c_1 l_a l_b l_c
  clear KN KN1 SOF
  have z_2 := HB.size
  have c_a_0 := H_a.cell 0; have f_a_0 := H_a.free 0; have c_a_1 := H_a.cell 1; have f_a_1 := H_a.free 1
  simp only [List.set_cons_zero, List.set_cons_succ, List.getElem?_cons_zero, List.getElem?_cons_succ] at c_a_0 c_a_1
  have c_b_0 := H_b.cell 0; have f_b_0 := H_b.free 0; have c_b_1 := H_b.cell 1; have f_b_1 := H_b.free 1
  simp only [List.set_cons_zero, List.set_cons_succ, List.getElem?_cons_zero, List.getElem?_cons_succ] at c_b_0 c_b_1
  have c_c_0 := H_c.cell 0; have f_c_0 := H_c.free 0; have c_c_1 := H_c.cell 1; have f_c_1 := H_c.free 1
  simp only [List.set_cons_zero, List.set_cons_succ, List.getElem?_cons_zero, List.getElem?_cons_succ] at c_c_0 c_c_1
  have l_a := H_a.lt; have K_a := Lib.hid H_a; clear H_a
  have l_b := H_b.lt; have K_b := Lib.hid H_b; clear H_b
  have l_c := H_c.lt; have K_c := Lib.hid H_c; clear H_c
  have KB := Lib.hid HB; clear HB
  go_wp2_with fail
  refine (LL.out ⟨_, _⟩ ⟨_, _⟩ _).mono ?_
  rintro e3 u3 ⟨rfl, hb⟩
  have H_a : Whole u3 (w.heap.size) 23 _ := Whole.below K_a.out hb (by first | omega | (simp; done) | (simp; omega) | (simp at *; omega))
  have H_b : Whole u3 (w.heap.size + 1) 23 _ := Whole.below K_b.out hb (by first | omega | (simp; done) | (simp; omega) | (simp at *; omega))
  have H_c : Whole u3 (w.heap.size + 2) 23 _ := Whole.below K_c.out hb (by first | omega | (simp; done) | (simp; omega) | (simp at *; omega))
  have HB := KB.out.trans (hb.mono (by first | omega | (simp; done) | (simp; omega) | (simp at *; omega)))
  clear c_a_0 c_a_1 f_a_0 f_a_1 c_b_0 c_b_1 f_b_0 f_b_1 c_c_0 c_c_1 f_c_0 f_c_1 l_a l_b l_c
  clear hb KB K_a K_b K_c
  have z_u3 := HB.size
  have c_a_0 := H_a.cell 0; have f_a_0 := H_a.free 0; have c_a_1 := H_a.cell 1; have f_a_1 := H_a.free 1
  simp only [List.set_cons_zero, List.set_cons_succ, List.getElem?_cons_zero, List.getElem?_cons_succ] at c_a_0 c_a_1
  have c_b_0 := H_b.cell 0; have f_b_0 := H_b.free 0; have c_b_1 := H_b.cell 1; have f_b_1 := H_b.free 1
  simp only [List.set_cons_zero, List.set_cons_succ, List.getElem?_cons_zero, List.getElem?_cons_succ] at c_b_0 c_b_1
  have c_c_0 := H_c.cell 0; have f_c_0 := H_c.free 0; have c_c_1 := H_c.cell 1; have f_c_1 := H_c.free 1
  simp only [List.set_cons_zero, List.set_cons_succ, List.getElem?_cons_zero, List.getElem?_cons_succ] at c_c_0 c_c_1
  have l_a := H_a.lt; have K_a := Lib.hid H_a; clear H_a
  have l_b := H_b.lt; have K_b := Lib.hid H_b; clear H_b
  have l_c := H_c.lt; have K_c := Lib.hid H_c; clear H_c
  have KB := Lib.hid HB; clear HB
  go_wp2_with fail
  go_ret
  exact ⟨by first | rfl | simp, KB.out⟩

theorem total_any (a b c : Ba) (w : World) :
    Calls Try.prog 5 #[.agg a.cells.toArray, .agg b.cells.toArray, .agg c.cells.toArray] w fun e w' => e = .returned (.bool true) ∧ Below w.heap.size w w' := by
  have h0 := less_self a
  cases h1 : lessB a b
  · cases h2 : lessB b a
    · obtain rfl := less_total h1 h2
      exact total_eq a.r a.p c.r c.p h0 w
    · exact total_gt a.r a.p b.r b.p c.r c.p h0 h1 h2 w
  · cases h3 : lessB b c
    · exact total_lt2 a.r a.p b.r b.p c.r c.p h0 h1 (less_asymm h1) h3 w
    · exact total_lt1 a.r a.p b.r b.p c.r c.p h0 h1 (less_asymm h1) h3 (less_trans h1 h3) w

end Bl
end Go.Proofs.Ytilpclajkofgmaa
