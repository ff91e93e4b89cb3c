/- The walk of the statement that each replica's next ballot is what the chapter says. -/
import Derived.Test.YtilpclajkofgmaaBallotRnext
set_option linter.unusedSimpArgs false
set_option linter.unusedVariables false
namespace Go.Proofs.Ytilpclajkofgmaa
open Go.RowKit

namespace Bl

set_option maxHeartbeats 4000000 in
theorem nexts_any (b : Ba) (i n : Int) (w : World) :
    Calls Try.prog 4 #[.agg b.cells.toArray, .int .i64 i, .int .i64 n] w fun e w' => e = .returned (.bool true) ∧ Below w.heap.size w w' := by
  have C1 := next_any b i n
  have C2 := rnext_any b i n
  have C3 := may_any b n
  have C4 := rmay_any b n
  generalize nextZ b i n = z at *
  obtain ⟨⟨zr, zp⟩, k⟩ := z
  generalize mayB b n = m at *
  obtain ⟨r, p⟩ := b
  simp only [Ba.cells] at *
  have C1 := Lib.hid C1
  have C2 := Lib.hid C2
  have C3 := Lib.hid C3
  have C4 := Lib.hid C4
  have KB := Lib.hid (Below.refl w.heap.size w)
  go_enter Try.func4, Try.ntmps4
  go_wp2_with fail
  refine (C1.out _).mono ?_
  rintro e1 u1 ⟨rfl, hb⟩
  have H_box : Whole u1 (w.heap.size) 23 _ := Whole.below (Whole.new _ 23 _) hb (by first | omega | (simp; done) | (simp; omega) | (simp at *; omega))
  have HB := (KB.out.alloc (by first | omega | (simp; done) | (simp; omega) | (simp at *; omega)) _).trans (hb.mono (by first | omega | (simp; done) | (simp; omega) | (simp at *; omega)))
  clear hb KB
  have z_u1 := HB.size
  have c_box_0 := H_box.cell 0; have f_box_0 := H_box.free 0; have c_box_1 := H_box.cell 1; have f_box_1 := H_box.free 1
  simp only [List.set_cons_zero, List.set_cons_succ, List.getElem?_cons_zero, List.getElem?_cons_succ] at c_box_0 c_box_1
  have l_box := H_box.lt; have K_box := Lib.hid H_box; clear H_box
  have KB := Lib.hid HB; clear HB
  go_wp2_with fail
  refine (C2.out _).mono ?_
  rintro e2 u2 ⟨rfl, hb⟩
  have H_box : Whole u2 (w.heap.size) 23 _ := Whole.below (K_box.out.alloc _) hb (by first | omega | (simp; done) | (simp; omega) | (simp at *; omega))
  have H_x : Whole u2 (u1.heap.size) 23 _ := Whole.below (Whole.new _ 23 _) hb (by first | omega | (simp; done) | (simp; omega) | (simp at *; omega))
  have HB := (KB.out.alloc (by first | omega | (simp; done) | (simp; omega) | (simp at *; omega)) _).trans (hb.mono (by first | omega | (simp; done) | (simp; omega) | (simp at *; omega)))
  clear c_box_0 c_box_1 f_box_0 f_box_1 l_box
  clear hb KB K_box
  have z_u2 := HB.size
  have c_box_0 := H_box.cell 0; have f_box_0 := H_box.free 0; have c_box_1 := H_box.cell 1; have f_box_1 := H_box.free 1
  simp only [List.set_cons_zero, List.set_cons_succ, List.getElem?_cons_zero, List.getElem?_cons_succ] at c_box_0 c_box_1
  have c_x_0 := H_x.cell 0; have f_x_0 := H_x.free 0; have c_x_1 := H_x.cell 1; have f_x_1 := H_x.free 1
  simp only [List.set_cons_zero, List.set_cons_succ, List.getElem?_cons_zero, List.getElem?_cons_succ] at c_x_0 c_x_1
  have l_box := H_box.lt; have K_box := Lib.hid H_box; clear H_box
  have l_x := H_x.lt; have K_x := Lib.hid H_x; clear H_x
  have KB := Lib.hid HB; clear HB
  go_wp2_with fail
  obtain ⟨W3, hW⟩ : ∃ W : World, W = (u2.alloc (.cells #[.int .i64 zr, .int .i64 zp] 23)) := ⟨_, rfl⟩
  have H_box : Whole W3 (w.heap.size) 23 [.int .i64 r, .int .i64 p] := by rw [hW]; exact (K_box.out.alloc _)
  have H_x : Whole W3 (u1.heap.size) 23 [.int .i64 zr, .int .i64 zp] := by rw [hW]; exact (K_x.out.alloc _)
  have H_y : Whole W3 (u2.heap.size) 23 [.int .i64 zr, .int .i64 zp] := by rw [hW]; exact (Whole.new _ 23 _)
  have HB : Below w.heap.size w W3 := by rw [hW]; exact (KB.out.alloc (by first | omega | (simp; done) | (simp; omega) | (simp at *; omega)) _)
  rw [← hW]
  clear c_box_0 c_box_1 f_box_0 f_box_1 c_x_0 c_x_1 f_x_0 f_x_1 l_box l_x
  clear hW KB K_box K_x
  have z_W3 := HB.size
  have c_box_0 := H_box.cell 0; have f_box_0 := H_box.free 0; have c_box_1 := H_box.cell 1; have f_box_1 := H_box.free 1
  simp only [List.set_cons_zero, List.set_cons_succ, List.getElem?_cons_zero, List.getElem?_cons_succ] at c_box_0 c_box_1
  have c_x_0 := H_x.cell 0; have f_x_0 := H_x.free 0; have c_x_1 := H_x.cell 1; have f_x_1 := H_x.free 1
  simp only [List.set_cons_zero, List.set_cons_succ, List.getElem?_cons_zero, List.getElem?_cons_succ] at c_x_0 c_x_1
  have c_y_0 := H_y.cell 0; have f_y_0 := H_y.free 0; have c_y_1 := H_y.cell 1; have f_y_1 := H_y.free 1
  simp only [List.set_cons_zero, List.set_cons_succ, List.getElem?_cons_zero, List.getElem?_cons_succ] at c_y_0 c_y_1
  have l_box := H_box.lt; have K_box := Lib.hid H_box; clear H_box
  have l_x := H_x.lt; have K_x := Lib.hid H_x; clear H_x
  have l_y := H_y.lt; have K_y := Lib.hid H_y; clear H_y
  have KB := Lib.hid HB; clear HB
  have KN : Hid (Known W3 [(w.heap.size, 23, [.int .i64 r, .int .i64 p]), (u1.heap.size, 23, [.int .i64 zr, .int .i64 zp]), (u2.heap.size, 23, [.int .i64 zr, .int .i64 zp])] ∧ Below w.heap.size w W3) := ⟨(Known.add K_box.out (Known.add K_x.out (Known.add K_y.out (Known.nil W3)))), KB.out⟩
  have SOF : ∀ u : World, Hid (Known u [(w.heap.size, 23, [.int .i64 r, .int .i64 p]), (u1.heap.size, 23, [.int .i64 zr, .int .i64 zp]), (u2.heap.size, 23, [.int .i64 zr, .int .i64 zp])] ∧ Below w.heap.size w u) → (fun u : World => (u.cell? ⟨w.heap.size, 0, none⟩ = some (.int .i64 r) ∧ u.cell? ⟨w.heap.size, 1, none⟩ = some (.int .i64 p) ∧ u.cell? ⟨u1.heap.size, 0, none⟩ = some (.int .i64 zr) ∧ u.cell? ⟨u1.heap.size, 1, none⟩ = some (.int .i64 zp) ∧ u.cell? ⟨u2.heap.size, 0, none⟩ = some (.int .i64 zr) ∧ u.cell? ⟨u2.heap.size, 1, none⟩ = some (.int .i64 zp)) ∧ Hid (Known u [(w.heap.size, 23, [.int .i64 r, .int .i64 p]), (u1.heap.size, 23, [.int .i64 zr, .int .i64 zp]), (u2.heap.size, 23, [.int .i64 zr, .int .i64 zp])] ∧ Below w.heap.size w u)) u := fun u h => ⟨⟨(h.out.1.head.cell 0), (h.out.1.head.cell 1), (h.out.1.tail.head.cell 0), (h.out.1.tail.head.cell 1), (h.out.1.tail.tail.head.cell 0), (h.out.1.tail.tail.head.cell 1)⟩, h⟩
  have SOF := Lib.hid SOF
  clear KB K_box K_x K_y
  go_region_held3 (fun u : World => (u.cell? ⟨w.heap.size, 0, none⟩ = some (.int .i64 r) ∧ u.cell? ⟨w.heap.size, 1, none⟩ = some (.int .i64 p) ∧ u.cell? ⟨u1.heap.size, 0, none⟩ = some (.int .i64 zr) ∧ u.cell? ⟨u1.heap.size, 1, none⟩ = some (.int .i64 zp) ∧ u.cell? ⟨u2.heap.size, 0, none⟩ = some (.int .i64 zr) ∧ u.cell? ⟨u2.heap.size, 1, none⟩ = some (.int .i64 zp)) ∧ Hid (Known u [(w.heap.size, 23, [.int .i64 r, .int .i64 p]), (u1.heap.size, 23, [.int .i64 zr, .int .i64 zp]), (u2.heap.size, 23, [.int .i64 zr, .int .i64 zp])] ∧ Below w.heap.size w u))
    (first | exact SOF.out _ (kdrew KN) | exact SOF.out _ (kcall (Nat.le_refl _) (And.right (by assumption)) hb))
    (first
      | (go_at_call 15; refine (C3.out _).mono ?_; rintro e u ⟨rfl, hb⟩)
      | (go_at_call 16; refine (C4.out _).mono ?_; rintro e u ⟨rfl, hb⟩)
    )
  have KN1 := And.right (show (fun u : World => (u.cell? ⟨w.heap.size, 0, none⟩ = some (.int .i64 r) ∧ u.cell? ⟨w.heap.size, 1, none⟩ = some (.int .i64 p) ∧ u.cell? ⟨u1.heap.size, 0, none⟩ = some (.int .i64 zr) ∧ u.cell? ⟨u1.heap.size, 1, none⟩ = some (.int .i64 zp) ∧ u.cell? ⟨u2.heap.size, 0, none⟩ = some (.int .i64 zr) ∧ u.cell? ⟨u2.heap.size, 1, none⟩ = some (.int .i64 zp)) ∧ Hid (Known u [(w.heap.size, 23, [.int .i64 r, .int .i64 p]), (u1.heap.size, 23, [.int .i64 zr, .int .i64 zp]), (u2.heap.size, 23, [.int .i64 zr, .int .i64 zp])] ∧ Below w.heap.size w u)) u from by assumption)
  have H_box : Whole u (w.heap.size) 23 _ := KN1.out.1.head
  have H_x : Whole u (u1.heap.size) 23 _ := KN1.out.1.tail.head
  have H_y : Whole u (u2.heap.size) 23 _ := KN1.out.1.tail.tail.head
  have HB := KN1.out.2
  clear c_box_0 c_box_1 f_box_0 f_box_1 c_x_0 c_x_1 f_x_0 f_x_1 c_y_0 c_y_1 f_y_0 f_y_1 l_box l_x l_y
  clear KN KN1 SOF
  have z_4 := HB.size
  have c_box_0 := H_box.cell 0; have f_box_0 := H_box.free 0; have c_box_1 := H_box.cell 1; have f_box_1 := H_box.free 1
  simp only [List.set_cons_zero, List.set_cons_succ, List.getElem?_cons_zero, List.getElem?_cons_succ] at c_box_0 c_box_1
  have c_x_0 := H_x.cell 0; have f_x_0 := H_x.free 0; have c_x_1 := H_x.cell 1; have f_x_1 := H_x.free 1
  simp only [List.set_cons_zero, List.set_cons_succ, List.getElem?_cons_zero, List.getElem?_cons_succ] at c_x_0 c_x_1
  have c_y_0 := H_y.cell 0; have f_y_0 := H_y.free 0; have c_y_1 := H_y.cell 1; have f_y_1 := H_y.free 1
  simp only [List.set_cons_zero, List.set_cons_succ, List.getElem?_cons_zero, List.getElem?_cons_succ] at c_y_0 c_y_1
  have l_box := H_box.lt; have K_box := Lib.hid H_box; clear H_box
  have l_x := H_x.lt; have K_x := Lib.hid H_x; clear H_x
  have l_y := H_y.lt; have K_y := Lib.hid H_y; clear H_y
  have KB := Lib.hid HB; clear HB
  go_wp2_with fail
  go_ret
  exact ⟨by first | rfl | simp, KB.out⟩

end Bl
end Go.Proofs.Ytilpclajkofgmaa
