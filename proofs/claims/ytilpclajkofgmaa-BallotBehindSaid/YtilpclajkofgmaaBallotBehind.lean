/- The walk of the statement that a replica's next ballot is behind. -/
import Derived.Test.YtilpclajkofgmaaBallotAwake
set_option linter.unusedSimpArgs false
set_option linter.unusedVariables false
namespace Go.Proofs.Ytilpclajkofgmaa
open Go.RowKit

namespace Bl

set_option maxHeartbeats 4000000 in
theorem behind_err2 (r p i k n : Int) (h : nextZ ⟨r, p⟩ i n = (⟨0, 0⟩, 2)) (w : World) :
    Calls Try.prog 7 #[.agg #[.int .i64 r, .int .i64 p], .int .i64 i, .int .i64 k, .int .i64 n] w fun e w' => e = .returned (.bool true) ∧ Below w.heap.size w w' := by
  have LL := Lib.hid less_any
  have MM := Lib.hid may_any
  have OO := Lib.hid of_any
  have AW := Lib.hid awake_any
  have N1 := Lib.hid (next_is ⟨r, p⟩ i n 0 0 2 h)
  clear h
  have KB := Lib.hid (Below.refl w.heap.size w)
  go_enter Try.func7, Try.ntmps7
  go_wp2_with fail
  refine (AW.out _).mono ?_
  rintro e1 u1 ⟨rfl, hb⟩
  have H_b : Whole u1 (w.heap.size) 23 _ := Whole.below (Whole.new _ 23 _) hb (by first | omega | (simp; done) | (simp; omega) | (simp at *; omega))
  have HB := (KB.out.alloc (by first | omega | (simp; done) | (simp; omega) | (simp at *; omega)) _).trans (hb.mono (by first | omega | (simp; done) | (simp; omega) | (simp at *; omega)))
  clear hb KB
  have z_u1 := HB.size
  have c_b_0 := H_b.cell 0; have f_b_0 := H_b.free 0; have c_b_1 := H_b.cell 1; have f_b_1 := H_b.free 1
  simp only [List.set_cons_zero, List.set_cons_succ, List.getElem?_cons_zero, List.getElem?_cons_succ] at c_b_0 c_b_1
  have l_b := H_b.lt; have K_b := Lib.hid H_b; clear H_b
  have KB := Lib.hid HB; clear HB
  go_wp2_with fail
  refine (N1.out _).mono ?_
  rintro e2 u2 ⟨rfl, hb⟩
  have H_b : Whole u2 (w.heap.size) 23 _ := Whole.below K_b.out hb (by first | omega | (simp; done) | (simp; omega) | (simp at *; omega))
  have HB := KB.out.trans (hb.mono (by first | omega | (simp; done) | (simp; omega) | (simp at *; omega)))
  clear c_b_0 c_b_1 f_b_0 f_b_1 l_b
  clear hb KB K_b
  have z_u2 := HB.size
  have c_b_0 := H_b.cell 0; have f_b_0 := H_b.free 0; have c_b_1 := H_b.cell 1; have f_b_1 := H_b.free 1
  simp only [List.set_cons_zero, List.set_cons_succ, List.getElem?_cons_zero, List.getElem?_cons_succ] at c_b_0 c_b_1
  have l_b := H_b.lt; have K_b := Lib.hid H_b; clear H_b
  have KB := Lib.hid HB; clear HB
  go_wp2_with fail
  go_ret
  exact ⟨by first | rfl | simp, (KB.out.alloc (by first | omega | (simp; done) | (simp; omega) | (simp at *; omega)) _)⟩

set_option maxHeartbeats 4000000 in
theorem behind_err4 (r p i k n : Int) (h : nextZ ⟨r, p⟩ i n = (⟨0, 0⟩, 4)) (w : World) :
    Calls Try.prog 7 #[.agg #[.int .i64 r, .int .i64 p], .int .i64 i, .int .i64 k, .int .i64 n] w fun e w' => e = .returned (.bool true) ∧ Below w.heap.size w w' := by
  have LL := Lib.hid less_any
  have MM := Lib.hid may_any
  have OO := Lib.hid of_any
  have AW := Lib.hid awake_any
  have N1 := Lib.hid (next_is ⟨r, p⟩ i n 0 0 4 h)
  clear h
  have KB := Lib.hid (Below.refl w.heap.size w)
  go_enter Try.func7, Try.ntmps7
  go_wp2_with fail
  refine (AW.out _).mono ?_
  rintro e1 u1 ⟨rfl, hb⟩
  have H_b : Whole u1 (w.heap.size) 23 _ := Whole.below (Whole.new _ 23 _) hb (by first | omega | (simp; done) | (simp; omega) | (simp at *; omega))
  have HB := (KB.out.alloc (by first | omega | (simp; done) | (simp; omega) | (simp at *; omega)) _).trans (hb.mono (by first | omega | (simp; done) | (simp; omega) | (simp at *; omega)))
  clear hb KB
  have z_u1 := HB.size
  have c_b_0 := H_b.cell 0; have f_b_0 := H_b.free 0; have c_b_1 := H_b.cell 1; have f_b_1 := H_b.free 1
  simp only [List.set_cons_zero, List.set_cons_succ, List.getElem?_cons_zero, List.getElem?_cons_succ] at c_b_0 c_b_1
  have l_b := H_b.lt; have K_b := Lib.hid H_b; clear H_b
  have KB := Lib.hid HB; clear HB
  go_wp2_with fail
  refine (N1.out _).mono ?_
  rintro e2 u2 ⟨rfl, hb⟩
  have H_b : Whole u2 (w.heap.size) 23 _ := Whole.below K_b.out hb (by first | omega | (simp; done) | (simp; omega) | (simp at *; omega))
  have HB := KB.out.trans (hb.mono (by first | omega | (simp; done) | (simp; omega) | (simp at *; omega)))
  clear c_b_0 c_b_1 f_b_0 f_b_1 l_b
  clear hb KB K_b
  have z_u2 := HB.size
  have c_b_0 := H_b.cell 0; have f_b_0 := H_b.free 0; have c_b_1 := H_b.cell 1; have f_b_1 := H_b.free 1
  simp only [List.set_cons_zero, List.set_cons_succ, List.getElem?_cons_zero, List.getElem?_cons_succ] at c_b_0 c_b_1
  have l_b := H_b.lt; have K_b := Lib.hid H_b; clear H_b
  have KB := Lib.hid HB; clear HB
  go_wp2_with fail
  go_ret
  exact ⟨by first | rfl | simp, (KB.out.alloc (by first | omega | (simp; done) | (simp; omega) | (simp at *; omega)) _)⟩

set_option maxHeartbeats 4000000 in
theorem behind_one_same (r p i  n : Int) (h : nextZ ⟨r, p⟩ i n = (⟨1, i⟩, 0)) (hm : mayB ⟨1, i⟩ n = true) (hl : lessB ⟨r, p⟩ ⟨1, i⟩ = true)  (w : World) :
    Calls Try.prog 7 #[.agg #[.int .i64 r, .int .i64 p], .int .i64 i, .int .i64 i, .int .i64 n] w fun e w' => e = .returned (.bool true) ∧ Below w.heap.size w w' := by
  have LL := Lib.hid less_any
  have MM := Lib.hid may_any
  have OO := Lib.hid of_any
  have AW := Lib.hid awake_any
  have N1 := Lib.hid (next_is ⟨r, p⟩ i n 1 i 0 h)
  clear h
  have KB := Lib.hid (Below.refl w.heap.size w)
  go_enter Try.func7, Try.ntmps7
  go_wp2_with fail
  refine (AW.out _).mono ?_
  rintro e1 u1 ⟨rfl, hb⟩
  have H_b : Whole u1 (w.heap.size) 23 _ := Whole.below (Whole.new _ 23 _) hb (by first | omega | (simp; done) | (simp; omega) | (simp at *; omega))
  have HB := (KB.out.alloc (by first | omega | (simp; done) | (simp; omega) | (simp at *; omega)) _).trans (hb.mono (by first | omega | (simp; done) | (simp; omega) | (simp at *; omega)))
  clear hb KB
  have z_u1 := HB.size
  have c_b_0 := H_b.cell 0; have f_b_0 := H_b.free 0; have c_b_1 := H_b.cell 1; have f_b_1 := H_b.free 1
  simp only [List.set_cons_zero, List.set_cons_succ, List.getElem?_cons_zero, List.getElem?_cons_succ] at c_b_0 c_b_1
  have l_b := H_b.lt; have K_b := Lib.hid H_b; clear H_b
  have KB := Lib.hid HB; clear HB
  go_wp2_with fail
  refine (N1.out _).mono ?_
  rintro e2 u2 ⟨rfl, hb⟩
  have H_b : Whole u2 (w.heap.size) 23 _ := Whole.below K_b.out hb (by first | omega | (simp; done) | (simp; omega) | (simp at *; omega))
  have HB := KB.out.trans (hb.mono (by first | omega | (simp; done) | (simp; omega) | (simp at *; omega)))
  clear c_b_0 c_b_1 f_b_0 f_b_1 l_b
  clear hb KB K_b
  have z_u2 := HB.size
  have c_b_0 := H_b.cell 0; have f_b_0 := H_b.free 0; have c_b_1 := H_b.cell 1; have f_b_1 := H_b.free 1
  simp only [List.set_cons_zero, List.set_cons_succ, List.getElem?_cons_zero, List.getElem?_cons_succ] at c_b_0 c_b_1
  have l_b := H_b.lt; have K_b := Lib.hid H_b; clear H_b
  have KB := Lib.hid HB; clear HB
  go_wp2_with fail
  obtain ⟨W3, hW⟩ : ∃ W : World, W = (u2.alloc (.cells #[.int .i64 1, .int .i64 i] 23)) := ⟨_, rfl⟩
  have H_b : Whole W3 (w.heap.size) 23 [.int .i64 r, .int .i64 p] := by rw [hW]; exact (K_b.out.alloc _)
  have H_x : Whole W3 (u2.heap.size) 23 [.int .i64 1, .int .i64 i] := by rw [hW]; exact (Whole.new _ 23 _)
  have HB : Below w.heap.size w W3 := by rw [hW]; exact (KB.out.alloc (by first | omega | (simp; done) | (simp; omega) | (simp at *; omega)) _)
  rw [← hW]
  clear c_b_0 c_b_1 f_b_0 f_b_1 l_b
  clear hW KB K_b
  have z_W3 := HB.size
  have c_b_0 := H_b.cell 0; have f_b_0 := H_b.free 0; have c_b_1 := H_b.cell 1; have f_b_1 := H_b.free 1
  simp only [List.set_cons_zero, List.set_cons_succ, List.getElem?_cons_zero, List.getElem?_cons_succ] at c_b_0 c_b_1
  have c_x_0 := H_x.cell 0; have f_x_0 := H_x.free 0; have c_x_1 := H_x.cell 1; have f_x_1 := H_x.free 1
  simp only [List.set_cons_zero, List.set_cons_succ, List.getElem?_cons_zero, List.getElem?_cons_succ] at c_x_0 c_x_1
  have l_b := H_b.lt; have K_b := Lib.hid H_b; clear H_b
  have l_x := H_x.lt; have K_x := Lib.hid H_x; clear H_x
  have KB := Lib.hid HB; clear HB
  have KN : Hid (Known W3 [(w.heap.size, 23, [.int .i64 r, .int .i64 p]), (u2.heap.size, 23, [.int .i64 1, .int .i64 i])] ∧ Below w.heap.size w W3) := ⟨(Known.add K_b.out (Known.add K_x.out (Known.nil W3))), KB.out⟩
  have SOF : ∀ u : World, Hid (Known u [(w.heap.size, 23, [.int .i64 r, .int .i64 p]), (u2.heap.size, 23, [.int .i64 1, .int .i64 i])] ∧ Below w.heap.size w u) → (fun u : World => (u.cell? ⟨w.heap.size, 0, none⟩ = some (.int .i64 r) ∧ u.cell? ⟨w.heap.size, 1, none⟩ = some (.int .i64 p) ∧ u.cell? ⟨u2.heap.size, 0, none⟩ = some (.int .i64 1) ∧ u.cell? ⟨u2.heap.size, 1, none⟩ = some (.int .i64 i)) ∧ Hid (Known u [(w.heap.size, 23, [.int .i64 r, .int .i64 p]), (u2.heap.size, 23, [.int .i64 1, .int .i64 i])] ∧ Below w.heap.size w u)) u := fun u h => ⟨⟨(h.out.1.head.cell 0), (h.out.1.head.cell 1), (h.out.1.tail.head.cell 0), (h.out.1.tail.head.cell 1)⟩, h⟩
  have SOF := Lib.hid SOF
  clear KB K_b K_x
  refine wp_region_held_drew (S := (fun u : World => (u.cell? ⟨w.heap.size, 0, none⟩ = some (.int .i64 r) ∧ u.cell? ⟨w.heap.size, 1, none⟩ = some (.int .i64 p) ∧ u.cell? ⟨u2.heap.size, 0, none⟩ = some (.int .i64 1) ∧ u.cell? ⟨u2.heap.size, 1, none⟩ = some (.int .i64 i)) ∧ Hid (Known u [(w.heap.size, 23, [.int .i64 r, .int .i64 p]), (u2.heap.size, 23, [.int .i64 1, .int .i64 i])] ∧ Below w.heap.size w u))) (by kernel_rfl) (SOF.out _ (kdrew KN)) (fun HS => ?_)
  refine handTake 0 (some 35) ?_ rfl rfl (by kernel_rfl) (by kernel_rfl) (by kernel_rfl) (fun _ _ _ h => h) (by rfl) ?_ HS ?_
  rotate_left
  · (intro u hu; (try dsimp only at hu); go_simp; try with_reducible rfl)
  simp only [Act.put, List.setIfInBounds_toArray, List.set_cons_zero, List.set_cons_succ]
  refine handTake 1 (some 36) ?_ rfl rfl (by kernel_rfl) (by kernel_rfl) (by kernel_rfl) (fun _ _ _ h => h) (by rfl) ?_ HS ?_
  rotate_left
  · (intro u hu; (try dsimp only at hu); go_simp; try with_reducible rfl)
  simp only [Act.put, List.setIfInBounds_toArray, List.set_cons_zero, List.set_cons_succ]
  refine wpAnyH_ready (rs := [2]) (by kernel_rfl) (by simp) ?_
  refine AllReadyH.cons rfl (fun K hK => ?_) AllReadyH.nil
  go_simp
  refine (MM.out ⟨_, _⟩ _ _).mono ?_
  rintro e5 u5 ⟨rfl, hb⟩
  have HS' := Lib.hid (SOF.out _ (kcall (Nat.le_refl _) HS.2 hb))
  clear hb HS
  go_wp2_with fail
  refine hK.out _ _ HS'.out (fun HS => ?_)
  clear hK HS'
  try simp only [Act.put, List.setIfInBounds_toArray, List.set_cons_zero, List.set_cons_succ]
  refine handTake 3 (some 38) ?_ rfl rfl (by kernel_rfl) (by kernel_rfl) (by kernel_rfl) (fun _ _ _ h => h) (by rfl) ?_ HS ?_
  rotate_left
  · (intro u hu; (try dsimp only at hu); go_simp; try with_reducible rfl)
  simp only [Act.put, List.setIfInBounds_toArray, List.set_cons_zero, List.set_cons_succ]
  refine handTake 4 (some 39) ?_ rfl rfl (by kernel_rfl) (by kernel_rfl) (by kernel_rfl) (fun _ _ _ h => h) (by rfl) ?_ HS ?_
  rotate_left
  · (intro u hu; (try dsimp only at hu); go_simp; try with_reducible rfl)
  simp only [Act.put, List.setIfInBounds_toArray, List.set_cons_zero, List.set_cons_succ]
  refine handTake 5 (some 40) ?_ rfl rfl (by kernel_rfl) (by kernel_rfl) (by kernel_rfl) (fun _ _ _ h => h) (by rfl) ?_ HS ?_
  rotate_left
  · (intro u hu; (try dsimp only at hu); go_simp; try with_reducible rfl)
  simp only [Act.put, List.setIfInBounds_toArray, List.set_cons_zero, List.set_cons_succ]
  refine handTake 6 (some 41) ?_ rfl rfl (by kernel_rfl) (by kernel_rfl) (by kernel_rfl) (fun _ _ _ h => h) (by rfl) ?_ HS ?_
  rotate_left
  · (intro u hu; (try dsimp only at hu); go_simp; try with_reducible rfl)
  simp only [Act.put, List.setIfInBounds_toArray, List.set_cons_zero, List.set_cons_succ]
  refine handTake 7 (some 42) ?_ rfl rfl (by kernel_rfl) (by kernel_rfl) (by kernel_rfl) (fun _ _ _ h => h) (by rfl) ?_ HS ?_
  rotate_left
  · (intro u hu; (try dsimp only at hu); go_simp; try with_reducible rfl)
  simp only [Act.put, List.setIfInBounds_toArray, List.set_cons_zero, List.set_cons_succ]
  refine handTake 8 (some 43) ?_ rfl rfl (by kernel_rfl) (by kernel_rfl) (by kernel_rfl) (fun _ _ _ h => h) (by rfl) ?_ HS ?_
  rotate_left
  · (intro u hu; (try dsimp only at hu); go_simp; try with_reducible rfl)
  simp only [Act.put, List.setIfInBounds_toArray, List.set_cons_zero, List.set_cons_succ]
  refine handTake 9 (some 44) ?_ rfl rfl (by kernel_rfl) (by kernel_rfl) (by kernel_rfl) (fun _ _ _ h => h) (by rfl) ?_ HS ?_
  rotate_left
  · (intro u hu; (try dsimp only at hu); go_simp; try with_reducible rfl)
  simp only [Act.put, List.setIfInBounds_toArray, List.set_cons_zero, List.set_cons_succ]
  refine handTake 10 (some 45) ?_ rfl rfl (by kernel_rfl) (by kernel_rfl) (by kernel_rfl) (fun _ _ _ h => h) (by rfl) ?_ HS ?_
  rotate_left
  · (intro u hu; (try dsimp only at hu); go_simp; try with_reducible rfl)
  simp only [Act.put, List.setIfInBounds_toArray, List.set_cons_zero, List.set_cons_succ]
  refine handTake 11 (some 46) ?_ rfl rfl (by kernel_rfl) (by kernel_rfl) (by kernel_rfl) (fun _ _ _ h => h) (by rfl) ?_ HS ?_
  rotate_left
  · (intro u hu; (try dsimp only at hu); go_simp; try with_reducible rfl)
  simp only [Act.put, List.setIfInBounds_toArray, List.set_cons_zero, List.set_cons_succ]
  refine handTake 12 (some 47) ?_ rfl rfl (by kernel_rfl) (by kernel_rfl) (by kernel_rfl) (fun _ _ _ h => h) (by rfl) ?_ HS ?_
  rotate_left
  · (intro u hu; (try dsimp only at hu); go_simp; try with_reducible rfl)
  simp only [Act.put, List.setIfInBounds_toArray, List.set_cons_zero, List.set_cons_succ]
  refine handTake 13 (some 48) ?_ rfl rfl (by kernel_rfl) (by kernel_rfl) (by kernel_rfl) (fun _ _ _ h => h) (by rfl) ?_ HS ?_
  rotate_left
  · (intro u hu; (try dsimp only at hu); go_simp; try with_reducible rfl)
  simp only [Act.put, List.setIfInBounds_toArray, List.set_cons_zero, List.set_cons_succ]
  refine handTake 14 (some 49) ?_ rfl rfl (by kernel_rfl) (by kernel_rfl) (by kernel_rfl) (fun _ _ _ h => h) (by rfl) ?_ HS ?_
  rotate_left
  · (intro u hu; (try dsimp only at hu); go_simp; try with_reducible rfl)
  simp only [Act.put, List.setIfInBounds_toArray, List.set_cons_zero, List.set_cons_succ]
  refine handTake 15 (some 50) ?_ rfl rfl (by kernel_rfl) (by kernel_rfl) (by kernel_rfl) (fun _ _ _ h => h) (by rfl) ?_ HS ?_
  rotate_left
  · (intro u hu; (try dsimp only at hu); go_simp; try with_reducible rfl)
  simp only [Act.put, List.setIfInBounds_toArray, List.set_cons_zero, List.set_cons_succ]
  refine handTake 16 (some 51) ?_ rfl rfl (by kernel_rfl) (by kernel_rfl) (by kernel_rfl) (fun _ _ _ h => h) (by rfl) ?_ HS ?_
  rotate_left
  · (intro u hu; (try dsimp only at hu); go_simp; try with_reducible rfl)
  simp only [Act.put, List.setIfInBounds_toArray, List.set_cons_zero, List.set_cons_succ]
  refine handTake 17 (some 52) ?_ rfl rfl (by kernel_rfl) (by kernel_rfl) (by kernel_rfl) (fun _ _ _ h => h) (by rfl) ?_ HS ?_
  rotate_left
  · (intro u hu; (try dsimp only at hu); go_simp; try with_reducible rfl)
  simp only [Act.put, List.setIfInBounds_toArray, List.set_cons_zero, List.set_cons_succ]
  refine wpAnyH_ready (rs := [18]) (by kernel_rfl) (by simp) ?_
  refine AllReadyH.cons rfl (fun K hK => ?_) AllReadyH.nil
  go_simp
  refine (LL.out ⟨_, _⟩ ⟨_, _⟩ _).mono ?_
  rintro e6 u6 ⟨rfl, hb⟩
  have HS' := Lib.hid (SOF.out _ (kcall (Nat.le_refl _) HS.2 hb))
  clear hb HS
  go_wp2_with fail
  refine hK.out _ _ HS'.out (fun HS => ?_)
  clear hK HS'
  try simp only [Act.put, List.setIfInBounds_toArray, List.set_cons_zero, List.set_cons_succ]
  refine handTake 19 (some 54) ?_ rfl rfl (by kernel_rfl) (by kernel_rfl) (by kernel_rfl) (fun _ _ _ h => h) (by rfl) ?_ HS ?_
  rotate_left
  · (intro u hu; (try dsimp only at hu); go_simp; try with_reducible rfl)
  simp only [Act.put, List.setIfInBounds_toArray, List.set_cons_zero, List.set_cons_succ]
  refine handTake 20 (some 55) ?_ rfl rfl (by kernel_rfl) (by kernel_rfl) (by kernel_rfl) (fun _ _ _ h => h) (by rfl) ?_ HS ?_
  rotate_left
  · (intro u hu; (try dsimp only at hu); go_simp; try with_reducible rfl)
  simp only [Act.put, List.setIfInBounds_toArray, List.set_cons_zero, List.set_cons_succ]
  refine handTake 21 (some 56) ?_ rfl rfl (by kernel_rfl) (by kernel_rfl) (by kernel_rfl) (fun _ _ _ h => h) (by rfl) ?_ HS ?_
  rotate_left
  · (intro u hu; (try dsimp only at hu); go_simp; try with_reducible rfl)
  simp only [Act.put, List.setIfInBounds_toArray, List.set_cons_zero, List.set_cons_succ]
  refine handTake 22 (some 57) ?_ rfl rfl (by kernel_rfl) (by kernel_rfl) (by kernel_rfl) (fun _ _ _ h => h) (by rfl) ?_ HS ?_
  rotate_left
  · (intro u hu; (try dsimp only at hu); go_simp; try with_reducible rfl)
  simp only [Act.put, List.setIfInBounds_toArray, List.set_cons_zero, List.set_cons_succ]
  refine handTake 23 (some 58) ?_ rfl rfl (by kernel_rfl) (by kernel_rfl) (by kernel_rfl) (fun _ _ _ h => h) (by rfl) ?_ HS ?_
  rotate_left
  · (intro u hu; (try dsimp only at hu); go_simp; try with_reducible rfl)
  simp only [Act.put, List.setIfInBounds_toArray, List.set_cons_zero, List.set_cons_succ]
  refine handTake 24 (some 59) ?_ rfl rfl (by kernel_rfl) (by kernel_rfl) (by kernel_rfl) (fun _ _ _ h => h) (by rfl) ?_ HS ?_
  rotate_left
  · (intro u hu; (try dsimp only at hu); go_simp; try with_reducible rfl)
  simp only [Act.put, List.setIfInBounds_toArray, List.set_cons_zero, List.set_cons_succ]
  refine handTake 25 (some 60) ?_ rfl rfl (by kernel_rfl) (by kernel_rfl) (by kernel_rfl) (fun _ _ _ h => h) (by rfl) ?_ HS ?_
  rotate_left
  · (intro u hu; (try dsimp only at hu); go_simp; try with_reducible rfl)
  simp only [Act.put, List.setIfInBounds_toArray, List.set_cons_zero, List.set_cons_succ]
  refine handSkip 26 (some 61) rfl rfl (by kernel_rfl) (by kernel_rfl) (by kernel_rfl) (fun _ _ _ h => h) (by rfl) HS ?_
  simp only [Act.put, List.setIfInBounds_toArray, List.set_cons_zero, List.set_cons_succ]
  refine handSkip 27 (some 62) rfl rfl (by kernel_rfl) (by kernel_rfl) (by kernel_rfl) (fun _ _ _ h => h) (by rfl) HS ?_
  simp only [Act.put, List.setIfInBounds_toArray, List.set_cons_zero, List.set_cons_succ]
  refine handSkip 28 (some 63) rfl rfl (by kernel_rfl) (by kernel_rfl) (by kernel_rfl) (fun _ _ _ h => h) (by rfl) HS ?_
  simp only [Act.put, List.setIfInBounds_toArray, List.set_cons_zero, List.set_cons_succ]
  refine handSkip 29 (some 64) rfl rfl (by kernel_rfl) (by kernel_rfl) (by kernel_rfl) (fun _ _ _ h => h) (by rfl) HS ?_
  simp only [Act.put, List.setIfInBounds_toArray, List.set_cons_zero, List.set_cons_succ]
  refine handSkip 30 (some 65) rfl rfl (by kernel_rfl) (by kernel_rfl) (by kernel_rfl) (fun _ _ _ h => h) (by rfl) HS ?_
  simp only [Act.put, List.setIfInBounds_toArray, List.set_cons_zero, List.set_cons_succ]
  refine handSkip 31 (some 66) rfl rfl (by kernel_rfl) (by kernel_rfl) (by kernel_rfl) (fun _ _ _ h => h) (by rfl) HS ?_
  simp only [Act.put, List.setIfInBounds_toArray, List.set_cons_zero, List.set_cons_succ]
  refine handSkip 32 (some 67) rfl rfl (by kernel_rfl) (by kernel_rfl) (by kernel_rfl) (fun _ _ _ h => h) (by rfl) HS ?_
  simp only [Act.put, List.setIfInBounds_toArray, List.set_cons_zero, List.set_cons_succ]
  refine handTake 33 (some 68) ?_ rfl rfl (by kernel_rfl) (by kernel_rfl) (by kernel_rfl) (fun _ _ _ h => h) (by rfl) ?_ HS ?_
  rotate_left
  · (intro u hu; (try dsimp only at hu); go_simp; try with_reducible rfl)
  simp only [Act.put, List.setIfInBounds_toArray, List.set_cons_zero, List.set_cons_succ]
  refine handTake 34 (some 69) ?_ rfl rfl (by kernel_rfl) (by kernel_rfl) (by kernel_rfl) (fun _ _ _ h => h) (by rfl) ?_ HS ?_
  rotate_left
  · (intro u hu; (try dsimp only at hu); go_simp; try with_reducible rfl)
  simp only [Act.put, List.setIfInBounds_toArray, List.set_cons_zero, List.set_cons_succ]
  refine wpAnyH_done (by kernel_rfl) ?_ _
  have KN1 := And.right (show (fun u : World => (u.cell? ⟨w.heap.size, 0, none⟩ = some (.int .i64 r) ∧ u.cell? ⟨w.heap.size, 1, none⟩ = some (.int .i64 p) ∧ u.cell? ⟨u2.heap.size, 0, none⟩ = some (.int .i64 1) ∧ u.cell? ⟨u2.heap.size, 1, none⟩ = some (.int .i64 i)) ∧ Hid (Known u [(w.heap.size, 23, [.int .i64 r, .int .i64 p]), (u2.heap.size, 23, [.int .i64 1, .int .i64 i])] ∧ Below w.heap.size w u)) u6 from HS)
  have H_b : Whole u6 (w.heap.size) 23 _ := KN1.out.1.head
  have H_x : Whole u6 (u2.heap.size) 23 _ := KN1.out.1.tail.head
  have HB := KN1.out.2
  clear c_b_0 c_b_1 f_b_0 f_b_1 c_x_0 c_x_1 f_x_0 f_x_1 l_b l_x
  clear KN KN1 SOF
  have z_6 := HB.size
  have c_b_0 := H_b.cell 0; have f_b_0 := H_b.free 0; have c_b_1 := H_b.cell 1; have f_b_1 := H_b.free 1
  simp only [List.set_cons_zero, List.set_cons_succ, List.getElem?_cons_zero, List.getElem?_cons_succ] at c_b_0 c_b_1
  have c_x_0 := H_x.cell 0; have f_x_0 := H_x.free 0; have c_x_1 := H_x.cell 1; have f_x_1 := H_x.free 1
  simp only [List.set_cons_zero, List.set_cons_succ, List.getElem?_cons_zero, List.getElem?_cons_succ] at c_x_0 c_x_1
  have l_b := H_b.lt; have K_b := Lib.hid H_b; clear H_b
  have l_x := H_x.lt; have K_x := Lib.hid H_x; clear H_x
  have KB := Lib.hid HB; clear HB
  go_wp2_with fail
  refine (N1.out _).mono ?_
  rintro e7 u7 ⟨rfl, hb⟩
  have H_b : Whole u7 (w.heap.size) 23 _ := Whole.below K_b.out hb (by first | omega | (simp; done) | (simp; omega) | (simp at *; omega))
  have H_x : Whole u7 (u2.heap.size) 23 _ := Whole.below K_x.out hb (by first | omega | (simp; done) | (simp; omega) | (simp at *; omega))
  have HB := KB.out.trans (hb.mono (by first | omega | (simp; done) | (simp; omega) | (simp at *; omega)))
  clear c_b_0 c_b_1 f_b_0 f_b_1 c_x_0 c_x_1 f_x_0 f_x_1 l_b l_x
  clear hb KB K_b K_x
  have z_u7 := HB.size
  have c_b_0 := H_b.cell 0; have f_b_0 := H_b.free 0; have c_b_1 := H_b.cell 1; have f_b_1 := H_b.free 1
  simp only [List.set_cons_zero, List.set_cons_succ, List.getElem?_cons_zero, List.getElem?_cons_succ] at c_b_0 c_b_1
  have c_x_0 := H_x.cell 0; have f_x_0 := H_x.free 0; have c_x_1 := H_x.cell 1; have f_x_1 := H_x.free 1
  simp only [List.set_cons_zero, List.set_cons_succ, List.getElem?_cons_zero, List.getElem?_cons_succ] at c_x_0 c_x_1
  have l_b := H_b.lt; have K_b := Lib.hid H_b; clear H_b
  have l_x := H_x.lt; have K_x := Lib.hid H_x; clear H_x
  have KB := Lib.hid HB; clear HB
  go_wp2_with fail
  go_ret
  exact ⟨by first | rfl | simp, (KB.out.alloc (by first | omega | (simp; done) | (simp; omega) | (simp at *; omega)) _)⟩

set_option maxHeartbeats 4000000 in
theorem behind_one_err (r p i  k f n : Int) (h : nextZ ⟨r, p⟩ i n = (⟨1, i⟩, 0)) (hm : mayB ⟨1, i⟩ n = true) (hl : lessB ⟨r, p⟩ ⟨1, i⟩ = true)  (h2 : nextZ ⟨r, p⟩ k n = (⟨0, 0⟩, f)) (hf : (f != 0) = true) (w : World) :
    Calls Try.prog 7 #[.agg #[.int .i64 r, .int .i64 p], .int .i64 i, .int .i64 k, .int .i64 n] w fun e w' => e = .returned (.bool true) ∧ Below w.heap.size w w' := by
  have LL := Lib.hid less_any
  have MM := Lib.hid may_any
  have OO := Lib.hid of_any
  have AW := Lib.hid awake_any
  have N1 := Lib.hid (next_is ⟨r, p⟩ i n 1 i 0 h)
  have N2 := Lib.hid (next_is ⟨r, p⟩ k n 0 0 f h2)
  clear h h2
  have KB := Lib.hid (Below.refl w.heap.size w)
  go_enter Try.func7, Try.ntmps7
  go_wp2_with fail
  refine (AW.out _).mono ?_
  rintro e1 u1 ⟨rfl, hb⟩
  have H_b : Whole u1 (w.heap.size) 23 _ := Whole.below (Whole.new _ 23 _) hb (by first | omega | (simp; done) | (simp; omega) | (simp at *; omega))
  have HB := (KB.out.alloc (by first | omega | (simp; done) | (simp; omega) | (simp at *; omega)) _).trans (hb.mono (by first | omega | (simp; done) | (simp; omega) | (simp at *; omega)))
  clear hb KB
  have z_u1 := HB.size
  have c_b_0 := H_b.cell 0; have f_b_0 := H_b.free 0; have c_b_1 := H_b.cell 1; have f_b_1 := H_b.free 1
  simp only [List.set_cons_zero, List.set_cons_succ, List.getElem?_cons_zero, List.getElem?_cons_succ] at c_b_0 c_b_1
  have l_b := H_b.lt; have K_b := Lib.hid H_b; clear H_b
  have KB := Lib.hid HB; clear HB
  go_wp2_with fail
  refine (N1.out _).mono ?_
  rintro e2 u2 ⟨rfl, hb⟩
  have H_b : Whole u2 (w.heap.size) 23 _ := Whole.below K_b.out hb (by first | omega | (simp; done) | (simp; omega) | (simp at *; omega))
  have HB := KB.out.trans (hb.mono (by first | omega | (simp; done) | (simp; omega) | (simp at *; omega)))
  clear c_b_0 c_b_1 f_b_0 f_b_1 l_b
  clear hb KB K_b
  have z_u2 := HB.size
  have c_b_0 := H_b.cell 0; have f_b_0 := H_b.free 0; have c_b_1 := H_b.cell 1; have f_b_1 := H_b.free 1
  simp only [List.set_cons_zero, List.set_cons_succ, List.getElem?_cons_zero, List.getElem?_cons_succ] at c_b_0 c_b_1
  have l_b := H_b.lt; have K_b := Lib.hid H_b; clear H_b
  have KB := Lib.hid HB; clear HB
  go_wp2_with fail
  obtain ⟨W3, hW⟩ : ∃ W : World, W = (u2.alloc (.cells #[.int .i64 1, .int .i64 i] 23)) := ⟨_, rfl⟩
  have H_b : Whole W3 (w.heap.size) 23 [.int .i64 r, .int .i64 p] := by rw [hW]; exact (K_b.out.alloc _)
  have H_x : Whole W3 (u2.heap.size) 23 [.int .i64 1, .int .i64 i] := by rw [hW]; exact (Whole.new _ 23 _)
  have HB : Below w.heap.size w W3 := by rw [hW]; exact (KB.out.alloc (by first | omega | (simp; done) | (simp; omega) | (simp at *; omega)) _)
  rw [← hW]
  clear c_b_0 c_b_1 f_b_0 f_b_1 l_b
  clear hW KB K_b
  have z_W3 := HB.size
  have c_b_0 := H_b.cell 0; have f_b_0 := H_b.free 0; have c_b_1 := H_b.cell 1; have f_b_1 := H_b.free 1
  simp only [List.set_cons_zero, List.set_cons_succ, List.getElem?_cons_zero, List.getElem?_cons_succ] at c_b_0 c_b_1
  have c_x_0 := H_x.cell 0; have f_x_0 := H_x.free 0; have c_x_1 := H_x.cell 1; have f_x_1 := H_x.free 1
  simp only [List.set_cons_zero, List.set_cons_succ, List.getElem?_cons_zero, List.getElem?_cons_succ] at c_x_0 c_x_1
  have l_b := H_b.lt; have K_b := Lib.hid H_b; clear H_b
  have l_x := H_x.lt; have K_x := Lib.hid H_x; clear H_x
  have KB := Lib.hid HB; clear HB
  have KN : Hid (Known W3 [(w.heap.size, 23, [.int .i64 r, .int .i64 p]), (u2.heap.size, 23, [.int .i64 1, .int .i64 i])] ∧ Below w.heap.size w W3) := ⟨(Known.add K_b.out (Known.add K_x.out (Known.nil W3))), KB.out⟩
  have SOF : ∀ u : World, Hid (Known u [(w.heap.size, 23, [.int .i64 r, .int .i64 p]), (u2.heap.size, 23, [.int .i64 1, .int .i64 i])] ∧ Below w.heap.size w u) → (fun u : World => (u.cell? ⟨w.heap.size, 0, none⟩ = some (.int .i64 r) ∧ u.cell? ⟨w.heap.size, 1, none⟩ = some (.int .i64 p) ∧ u.cell? ⟨u2.heap.size, 0, none⟩ = some (.int .i64 1) ∧ u.cell? ⟨u2.heap.size, 1, none⟩ = some (.int .i64 i)) ∧ Hid (Known u [(w.heap.size, 23, [.int .i64 r, .int .i64 p]), (u2.heap.size, 23, [.int .i64 1, .int .i64 i])] ∧ Below w.heap.size w u)) u := fun u h => ⟨⟨(h.out.1.head.cell 0), (h.out.1.head.cell 1), (h.out.1.tail.head.cell 0), (h.out.1.tail.head.cell 1)⟩, h⟩
  have SOF := Lib.hid SOF
  clear KB K_b K_x
  refine wp_region_held_drew (S := (fun u : World => (u.cell? ⟨w.heap.size, 0, none⟩ = some (.int .i64 r) ∧ u.cell? ⟨w.heap.size, 1, none⟩ = some (.int .i64 p) ∧ u.cell? ⟨u2.heap.size, 0, none⟩ = some (.int .i64 1) ∧ u.cell? ⟨u2.heap.size, 1, none⟩ = some (.int .i64 i)) ∧ Hid (Known u [(w.heap.size, 23, [.int .i64 r, .int .i64 p]), (u2.heap.size, 23, [.int .i64 1, .int .i64 i])] ∧ Below w.heap.size w u))) (by kernel_rfl) (SOF.out _ (kdrew KN)) (fun HS => ?_)
  refine handTake 0 (some 35) ?_ rfl rfl (by kernel_rfl) (by kernel_rfl) (by kernel_rfl) (fun _ _ _ h => h) (by rfl) ?_ HS ?_
  rotate_left
  · (intro u hu; (try dsimp only at hu); go_simp; try with_reducible rfl)
  simp only [Act.put, List.setIfInBounds_toArray, List.set_cons_zero, List.set_cons_succ]
  refine handTake 1 (some 36) ?_ rfl rfl (by kernel_rfl) (by kernel_rfl) (by kernel_rfl) (fun _ _ _ h => h) (by rfl) ?_ HS ?_
  rotate_left
  · (intro u hu; (try dsimp only at hu); go_simp; try with_reducible rfl)
  simp only [Act.put, List.setIfInBounds_toArray, List.set_cons_zero, List.set_cons_succ]
  refine wpAnyH_ready (rs := [2]) (by kernel_rfl) (by simp) ?_
  refine AllReadyH.cons rfl (fun K hK => ?_) AllReadyH.nil
  go_simp
  refine (MM.out ⟨_, _⟩ _ _).mono ?_
  rintro e5 u5 ⟨rfl, hb⟩
  have HS' := Lib.hid (SOF.out _ (kcall (Nat.le_refl _) HS.2 hb))
  clear hb HS
  go_wp2_with fail
  refine hK.out _ _ HS'.out (fun HS => ?_)
  clear hK HS'
  try simp only [Act.put, List.setIfInBounds_toArray, List.set_cons_zero, List.set_cons_succ]
  refine handTake 3 (some 38) ?_ rfl rfl (by kernel_rfl) (by kernel_rfl) (by kernel_rfl) (fun _ _ _ h => h) (by rfl) ?_ HS ?_
  rotate_left
  · (intro u hu; (try dsimp only at hu); go_simp; try with_reducible rfl)
  simp only [Act.put, List.setIfInBounds_toArray, List.set_cons_zero, List.set_cons_succ]
  refine handTake 4 (some 39) ?_ rfl rfl (by kernel_rfl) (by kernel_rfl) (by kernel_rfl) (fun _ _ _ h => h) (by rfl) ?_ HS ?_
  rotate_left
  · (intro u hu; (try dsimp only at hu); go_simp; try with_reducible rfl)
  simp only [Act.put, List.setIfInBounds_toArray, List.set_cons_zero, List.set_cons_succ]
  refine handTake 5 (some 40) ?_ rfl rfl (by kernel_rfl) (by kernel_rfl) (by kernel_rfl) (fun _ _ _ h => h) (by rfl) ?_ HS ?_
  rotate_left
  · (intro u hu; (try dsimp only at hu); go_simp; try with_reducible rfl)
  simp only [Act.put, List.setIfInBounds_toArray, List.set_cons_zero, List.set_cons_succ]
  refine handTake 6 (some 41) ?_ rfl rfl (by kernel_rfl) (by kernel_rfl) (by kernel_rfl) (fun _ _ _ h => h) (by rfl) ?_ HS ?_
  rotate_left
  · (intro u hu; (try dsimp only at hu); go_simp; try with_reducible rfl)
  simp only [Act.put, List.setIfInBounds_toArray, List.set_cons_zero, List.set_cons_succ]
  refine handTake 7 (some 42) ?_ rfl rfl (by kernel_rfl) (by kernel_rfl) (by kernel_rfl) (fun _ _ _ h => h) (by rfl) ?_ HS ?_
  rotate_left
  · (intro u hu; (try dsimp only at hu); go_simp; try with_reducible rfl)
  simp only [Act.put, List.setIfInBounds_toArray, List.set_cons_zero, List.set_cons_succ]
  refine handTake 8 (some 43) ?_ rfl rfl (by kernel_rfl) (by kernel_rfl) (by kernel_rfl) (fun _ _ _ h => h) (by rfl) ?_ HS ?_
  rotate_left
  · (intro u hu; (try dsimp only at hu); go_simp; try with_reducible rfl)
  simp only [Act.put, List.setIfInBounds_toArray, List.set_cons_zero, List.set_cons_succ]
  refine handTake 9 (some 44) ?_ rfl rfl (by kernel_rfl) (by kernel_rfl) (by kernel_rfl) (fun _ _ _ h => h) (by rfl) ?_ HS ?_
  rotate_left
  · (intro u hu; (try dsimp only at hu); go_simp; try with_reducible rfl)
  simp only [Act.put, List.setIfInBounds_toArray, List.set_cons_zero, List.set_cons_succ]
  refine handTake 10 (some 45) ?_ rfl rfl (by kernel_rfl) (by kernel_rfl) (by kernel_rfl) (fun _ _ _ h => h) (by rfl) ?_ HS ?_
  rotate_left
  · (intro u hu; (try dsimp only at hu); go_simp; try with_reducible rfl)
  simp only [Act.put, List.setIfInBounds_toArray, List.set_cons_zero, List.set_cons_succ]
  refine handTake 11 (some 46) ?_ rfl rfl (by kernel_rfl) (by kernel_rfl) (by kernel_rfl) (fun _ _ _ h => h) (by rfl) ?_ HS ?_
  rotate_left
  · (intro u hu; (try dsimp only at hu); go_simp; try with_reducible rfl)
  simp only [Act.put, List.setIfInBounds_toArray, List.set_cons_zero, List.set_cons_succ]
  refine handTake 12 (some 47) ?_ rfl rfl (by kernel_rfl) (by kernel_rfl) (by kernel_rfl) (fun _ _ _ h => h) (by rfl) ?_ HS ?_
  rotate_left
  · (intro u hu; (try dsimp only at hu); go_simp; try with_reducible rfl)
  simp only [Act.put, List.setIfInBounds_toArray, List.set_cons_zero, List.set_cons_succ]
  refine handTake 13 (some 48) ?_ rfl rfl (by kernel_rfl) (by kernel_rfl) (by kernel_rfl) (fun _ _ _ h => h) (by rfl) ?_ HS ?_
  rotate_left
  · (intro u hu; (try dsimp only at hu); go_simp; try with_reducible rfl)
  simp only [Act.put, List.setIfInBounds_toArray, List.set_cons_zero, List.set_cons_succ]
  refine handTake 14 (some 49) ?_ rfl rfl (by kernel_rfl) (by kernel_rfl) (by kernel_rfl) (fun _ _ _ h => h) (by rfl) ?_ HS ?_
  rotate_left
  · (intro u hu; (try dsimp only at hu); go_simp; try with_reducible rfl)
  simp only [Act.put, List.setIfInBounds_toArray, List.set_cons_zero, List.set_cons_succ]
  refine handTake 15 (some 50) ?_ rfl rfl (by kernel_rfl) (by kernel_rfl) (by kernel_rfl) (fun _ _ _ h => h) (by rfl) ?_ HS ?_
  rotate_left
  · (intro u hu; (try dsimp only at hu); go_simp; try with_reducible rfl)
  simp only [Act.put, List.setIfInBounds_toArray, List.set_cons_zero, List.set_cons_succ]
  refine handTake 16 (some 51) ?_ rfl rfl (by kernel_rfl) (by kernel_rfl) (by kernel_rfl) (fun _ _ _ h => h) (by rfl) ?_ HS ?_
  rotate_left
  · (intro u hu; (try dsimp only at hu); go_simp; try with_reducible rfl)
  simp only [Act.put, List.setIfInBounds_toArray, List.set_cons_zero, List.set_cons_succ]
  refine handTake 17 (some 52) ?_ rfl rfl (by kernel_rfl) (by kernel_rfl) (by kernel_rfl) (fun _ _ _ h => h) (by rfl) ?_ HS ?_
  rotate_left
  · (intro u hu; (try dsimp only at hu); go_simp; try with_reducible rfl)
  simp only [Act.put, List.setIfInBounds_toArray, List.set_cons_zero, List.set_cons_succ]
  refine wpAnyH_ready (rs := [18]) (by kernel_rfl) (by simp) ?_
  refine AllReadyH.cons rfl (fun K hK => ?_) AllReadyH.nil
  go_simp
  refine (LL.out ⟨_, _⟩ ⟨_, _⟩ _).mono ?_
  rintro e6 u6 ⟨rfl, hb⟩
  have HS' := Lib.hid (SOF.out _ (kcall (Nat.le_refl _) HS.2 hb))
  clear hb HS
  go_wp2_with fail
  refine hK.out _ _ HS'.out (fun HS => ?_)
  clear hK HS'
  try simp only [Act.put, List.setIfInBounds_toArray, List.set_cons_zero, List.set_cons_succ]
  refine handTake 19 (some 54) ?_ rfl rfl (by kernel_rfl) (by kernel_rfl) (by kernel_rfl) (fun _ _ _ h => h) (by rfl) ?_ HS ?_
  rotate_left
  · (intro u hu; (try dsimp only at hu); go_simp; try with_reducible rfl)
  simp only [Act.put, List.setIfInBounds_toArray, List.set_cons_zero, List.set_cons_succ]
  refine handTake 20 (some 55) ?_ rfl rfl (by kernel_rfl) (by kernel_rfl) (by kernel_rfl) (fun _ _ _ h => h) (by rfl) ?_ HS ?_
  rotate_left
  · (intro u hu; (try dsimp only at hu); go_simp; try with_reducible rfl)
  simp only [Act.put, List.setIfInBounds_toArray, List.set_cons_zero, List.set_cons_succ]
  refine handTake 21 (some 56) ?_ rfl rfl (by kernel_rfl) (by kernel_rfl) (by kernel_rfl) (fun _ _ _ h => h) (by rfl) ?_ HS ?_
  rotate_left
  · (intro u hu; (try dsimp only at hu); go_simp; try with_reducible rfl)
  simp only [Act.put, List.setIfInBounds_toArray, List.set_cons_zero, List.set_cons_succ]
  refine handTake 22 (some 57) ?_ rfl rfl (by kernel_rfl) (by kernel_rfl) (by kernel_rfl) (fun _ _ _ h => h) (by rfl) ?_ HS ?_
  rotate_left
  · (intro u hu; (try dsimp only at hu); go_simp; try with_reducible rfl)
  simp only [Act.put, List.setIfInBounds_toArray, List.set_cons_zero, List.set_cons_succ]
  refine handTake 23 (some 58) ?_ rfl rfl (by kernel_rfl) (by kernel_rfl) (by kernel_rfl) (fun _ _ _ h => h) (by rfl) ?_ HS ?_
  rotate_left
  · (intro u hu; (try dsimp only at hu); go_simp; try with_reducible rfl)
  simp only [Act.put, List.setIfInBounds_toArray, List.set_cons_zero, List.set_cons_succ]
  refine handTake 24 (some 59) ?_ rfl rfl (by kernel_rfl) (by kernel_rfl) (by kernel_rfl) (fun _ _ _ h => h) (by rfl) ?_ HS ?_
  rotate_left
  · (intro u hu; (try dsimp only at hu); go_simp; try with_reducible rfl)
  simp only [Act.put, List.setIfInBounds_toArray, List.set_cons_zero, List.set_cons_succ]
  refine handTake 25 (some 60) ?_ rfl rfl (by kernel_rfl) (by kernel_rfl) (by kernel_rfl) (fun _ _ _ h => h) (by rfl) ?_ HS ?_
  rotate_left
  · (intro u hu; (try dsimp only at hu); go_simp; try with_reducible rfl)
  simp only [Act.put, List.setIfInBounds_toArray, List.set_cons_zero, List.set_cons_succ]
  refine handSkip 26 (some 61) rfl rfl (by kernel_rfl) (by kernel_rfl) (by kernel_rfl) (fun _ _ _ h => h) (by rfl) HS ?_
  simp only [Act.put, List.setIfInBounds_toArray, List.set_cons_zero, List.set_cons_succ]
  refine handSkip 27 (some 62) rfl rfl (by kernel_rfl) (by kernel_rfl) (by kernel_rfl) (fun _ _ _ h => h) (by rfl) HS ?_
  simp only [Act.put, List.setIfInBounds_toArray, List.set_cons_zero, List.set_cons_succ]
  refine handSkip 28 (some 63) rfl rfl (by kernel_rfl) (by kernel_rfl) (by kernel_rfl) (fun _ _ _ h => h) (by rfl) HS ?_
  simp only [Act.put, List.setIfInBounds_toArray, List.set_cons_zero, List.set_cons_succ]
  refine handSkip 29 (some 64) rfl rfl (by kernel_rfl) (by kernel_rfl) (by kernel_rfl) (fun _ _ _ h => h) (by rfl) HS ?_
  simp only [Act.put, List.setIfInBounds_toArray, List.set_cons_zero, List.set_cons_succ]
  refine handSkip 30 (some 65) rfl rfl (by kernel_rfl) (by kernel_rfl) (by kernel_rfl) (fun _ _ _ h => h) (by rfl) HS ?_
  simp only [Act.put, List.setIfInBounds_toArray, List.set_cons_zero, List.set_cons_succ]
  refine handSkip 31 (some 66) rfl rfl (by kernel_rfl) (by kernel_rfl) (by kernel_rfl) (fun _ _ _ h => h) (by rfl) HS ?_
  simp only [Act.put, List.setIfInBounds_toArray, List.set_cons_zero, List.set_cons_succ]
  refine handSkip 32 (some 67) rfl rfl (by kernel_rfl) (by kernel_rfl) (by kernel_rfl) (fun _ _ _ h => h) (by rfl) HS ?_
  simp only [Act.put, List.setIfInBounds_toArray, List.set_cons_zero, List.set_cons_succ]
  refine handTake 33 (some 68) ?_ rfl rfl (by kernel_rfl) (by kernel_rfl) (by kernel_rfl) (fun _ _ _ h => h) (by rfl) ?_ HS ?_
  rotate_left
  · (intro u hu; (try dsimp only at hu); go_simp; try with_reducible rfl)
  simp only [Act.put, List.setIfInBounds_toArray, List.set_cons_zero, List.set_cons_succ]
  refine handTake 34 (some 69) ?_ rfl rfl (by kernel_rfl) (by kernel_rfl) (by kernel_rfl) (fun _ _ _ h => h) (by rfl) ?_ HS ?_
  rotate_left
  · (intro u hu; (try dsimp only at hu); go_simp; try with_reducible rfl)
  simp only [Act.put, List.setIfInBounds_toArray, List.set_cons_zero, List.set_cons_succ]
  refine wpAnyH_done (by kernel_rfl) ?_ _
  have KN1 := And.right (show (fun u : World => (u.cell? ⟨w.heap.size, 0, none⟩ = some (.int .i64 r) ∧ u.cell? ⟨w.heap.size, 1, none⟩ = some (.int .i64 p) ∧ u.cell? ⟨u2.heap.size, 0, none⟩ = some (.int .i64 1) ∧ u.cell? ⟨u2.heap.size, 1, none⟩ = some (.int .i64 i)) ∧ Hid (Known u [(w.heap.size, 23, [.int .i64 r, .int .i64 p]), (u2.heap.size, 23, [.int .i64 1, .int .i64 i])] ∧ Below w.heap.size w u)) u6 from HS)
  have H_b : Whole u6 (w.heap.size) 23 _ := KN1.out.1.head
  have H_x : Whole u6 (u2.heap.size) 23 _ := KN1.out.1.tail.head
  have HB := KN1.out.2
  clear c_b_0 c_b_1 f_b_0 f_b_1 c_x_0 c_x_1 f_x_0 f_x_1 l_b l_x
  clear KN KN1 SOF
  have z_6 := HB.size
  have c_b_0 := H_b.cell 0; have f_b_0 := H_b.free 0; have c_b_1 := H_b.cell 1; have f_b_1 := H_b.free 1
  simp only [List.set_cons_zero, List.set_cons_succ, List.getElem?_cons_zero, List.getElem?_cons_succ] at c_b_0 c_b_1
  have c_x_0 := H_x.cell 0; have f_x_0 := H_x.free 0; have c_x_1 := H_x.cell 1; have f_x_1 := H_x.free 1
  simp only [List.set_cons_zero, List.set_cons_succ, List.getElem?_cons_zero, List.getElem?_cons_succ] at c_x_0 c_x_1
  have l_b := H_b.lt; have K_b := Lib.hid H_b; clear H_b
  have l_x := H_x.lt; have K_x := Lib.hid H_x; clear H_x
  have KB := Lib.hid HB; clear HB
  go_wp2_with fail
  refine (N2.out _).mono ?_
  rintro e7 u7 ⟨rfl, hb⟩
  have H_b : Whole u7 (w.heap.size) 23 _ := Whole.below K_b.out hb (by first | omega | (simp; done) | (simp; omega) | (simp at *; omega))
  have H_x : Whole u7 (u2.heap.size) 23 _ := Whole.below K_x.out hb (by first | omega | (simp; done) | (simp; omega) | (simp at *; omega))
  have HB := KB.out.trans (hb.mono (by first | omega | (simp; done) | (simp; omega) | (simp at *; omega)))
  clear c_b_0 c_b_1 f_b_0 f_b_1 c_x_0 c_x_1 f_x_0 f_x_1 l_b l_x
  clear hb KB K_b K_x
  have z_u7 := HB.size
  have c_b_0 := H_b.cell 0; have f_b_0 := H_b.free 0; have c_b_1 := H_b.cell 1; have f_b_1 := H_b.free 1
  simp only [List.set_cons_zero, List.set_cons_succ, List.getElem?_cons_zero, List.getElem?_cons_succ] at c_b_0 c_b_1
  have c_x_0 := H_x.cell 0; have f_x_0 := H_x.free 0; have c_x_1 := H_x.cell 1; have f_x_1 := H_x.free 1
  simp only [List.set_cons_zero, List.set_cons_succ, List.getElem?_cons_zero, List.getElem?_cons_succ] at c_x_0 c_x_1
  have l_b := H_b.lt; have K_b := Lib.hid H_b; clear H_b
  have l_x := H_x.lt; have K_x := Lib.hid H_x; clear H_x
  have KB := Lib.hid HB; clear HB
  go_wp2_with fail
  go_ret
  exact ⟨by first | rfl | simp, (KB.out.alloc (by first | omega | (simp; done) | (simp; omega) | (simp at *; omega)) _)⟩

set_option maxHeartbeats 4000000 in
theorem behind_one_diff (r p i  k S n : Int) (h : nextZ ⟨r, p⟩ i n = (⟨1, i⟩, 0)) (hm : mayB ⟨1, i⟩ n = true) (hl : lessB ⟨r, p⟩ ⟨1, i⟩ = true)  (h2 : nextZ ⟨r, p⟩ k n = (⟨S, k⟩, 0)) (hf : (i == k) = false) (hg : ¬ i = k) (w : World) :
    Calls Try.prog 7 #[.agg #[.int .i64 r, .int .i64 p], .int .i64 i, .int .i64 k, .int .i64 n] w fun e w' => e = .returned (.bool true) ∧ Below w.heap.size w w' := by
  have LL := Lib.hid less_any
  have MM := Lib.hid may_any
  have OO := Lib.hid of_any
  have AW := Lib.hid awake_any
  have N1 := Lib.hid (next_is ⟨r, p⟩ i n 1 i 0 h)
  have N2 := Lib.hid (next_is ⟨r, p⟩ k n S k 0 h2)
  clear h h2
  have KB := Lib.hid (Below.refl w.heap.size w)
  go_enter Try.func7, Try.ntmps7
  go_wp2_with fail
  refine (AW.out _).mono ?_
  rintro e1 u1 ⟨rfl, hb⟩
  have H_b : Whole u1 (w.heap.size) 23 _ := Whole.below (Whole.new _ 23 _) hb (by first | omega | (simp; done) | (simp; omega) | (simp at *; omega))
  have HB := (KB.out.alloc (by first | omega | (simp; done) | (simp; omega) | (simp at *; omega)) _).trans (hb.mono (by first | omega | (simp; done) | (simp; omega) | (simp at *; omega)))
  clear hb KB
  have z_u1 := HB.size
  have c_b_0 := H_b.cell 0; have f_b_0 := H_b.free 0; have c_b_1 := H_b.cell 1; have f_b_1 := H_b.free 1
  simp only [List.set_cons_zero, List.set_cons_succ, List.getElem?_cons_zero, List.getElem?_cons_succ] at c_b_0 c_b_1
  have l_b := H_b.lt; have K_b := Lib.hid H_b; clear H_b
  have KB := Lib.hid HB; clear HB
  go_wp2_with fail
  refine (N1.out _).mono ?_
  rintro e2 u2 ⟨rfl, hb⟩
  have H_b : Whole u2 (w.heap.size) 23 _ := Whole.below K_b.out hb (by first | omega | (simp; done) | (simp; omega) | (simp at *; omega))
  have HB := KB.out.trans (hb.mono (by first | omega | (simp; done) | (simp; omega) | (simp at *; omega)))
  clear c_b_0 c_b_1 f_b_0 f_b_1 l_b
  clear hb KB K_b
  have z_u2 := HB.size
  have c_b_0 := H_b.cell 0; have f_b_0 := H_b.free 0; have c_b_1 := H_b.cell 1; have f_b_1 := H_b.free 1
  simp only [List.set_cons_zero, List.set_cons_succ, List.getElem?_cons_zero, List.getElem?_cons_succ] at c_b_0 c_b_1
  have l_b := H_b.lt; have K_b := Lib.hid H_b; clear H_b
  have KB := Lib.hid HB; clear HB
  go_wp2_with fail
  obtain ⟨W3, hW⟩ : ∃ W : World, W = (u2.alloc (.cells #[.int .i64 1, .int .i64 i] 23)) := ⟨_, rfl⟩
  have H_b : Whole W3 (w.heap.size) 23 [.int .i64 r, .int .i64 p] := by rw [hW]; exact (K_b.out.alloc _)
  have H_x : Whole W3 (u2.heap.size) 23 [.int .i64 1, .int .i64 i] := by rw [hW]; exact (Whole.new _ 23 _)
  have HB : Below w.heap.size w W3 := by rw [hW]; exact (KB.out.alloc (by first | omega | (simp; done) | (simp; omega) | (simp at *; omega)) _)
  rw [← hW]
  clear c_b_0 c_b_1 f_b_0 f_b_1 l_b
  clear hW KB K_b
  have z_W3 := HB.size
  have c_b_0 := H_b.cell 0; have f_b_0 := H_b.free 0; have c_b_1 := H_b.cell 1; have f_b_1 := H_b.free 1
  simp only [List.set_cons_zero, List.set_cons_succ, List.getElem?_cons_zero, List.getElem?_cons_succ] at c_b_0 c_b_1
  have c_x_0 := H_x.cell 0; have f_x_0 := H_x.free 0; have c_x_1 := H_x.cell 1; have f_x_1 := H_x.free 1
  simp only [List.set_cons_zero, List.set_cons_succ, List.getElem?_cons_zero, List.getElem?_cons_succ] at c_x_0 c_x_1
  have l_b := H_b.lt; have K_b := Lib.hid H_b; clear H_b
  have l_x := H_x.lt; have K_x := Lib.hid H_x; clear H_x
  have KB := Lib.hid HB; clear HB
  have KN : Hid (Known W3 [(w.heap.size, 23, [.int .i64 r, .int .i64 p]), (u2.heap.size, 23, [.int .i64 1, .int .i64 i])] ∧ Below w.heap.size w W3) := ⟨(Known.add K_b.out (Known.add K_x.out (Known.nil W3))), KB.out⟩
  have SOF : ∀ u : World, Hid (Known u [(w.heap.size, 23, [.int .i64 r, .int .i64 p]), (u2.heap.size, 23, [.int .i64 1, .int .i64 i])] ∧ Below w.heap.size w u) → (fun u : World => (u.cell? ⟨w.heap.size, 0, none⟩ = some (.int .i64 r) ∧ u.cell? ⟨w.heap.size, 1, none⟩ = some (.int .i64 p) ∧ u.cell? ⟨u2.heap.size, 0, none⟩ = some (.int .i64 1) ∧ u.cell? ⟨u2.heap.size, 1, none⟩ = some (.int .i64 i)) ∧ Hid (Known u [(w.heap.size, 23, [.int .i64 r, .int .i64 p]), (u2.heap.size, 23, [.int .i64 1, .int .i64 i])] ∧ Below w.heap.size w u)) u := fun u h => ⟨⟨(h.out.1.head.cell 0), (h.out.1.head.cell 1), (h.out.1.tail.head.cell 0), (h.out.1.tail.head.cell 1)⟩, h⟩
  have SOF := Lib.hid SOF
  clear KB K_b K_x
  refine wp_region_held_drew (S := (fun u : World => (u.cell? ⟨w.heap.size, 0, none⟩ = some (.int .i64 r) ∧ u.cell? ⟨w.heap.size, 1, none⟩ = some (.int .i64 p) ∧ u.cell? ⟨u2.heap.size, 0, none⟩ = some (.int .i64 1) ∧ u.cell? ⟨u2.heap.size, 1, none⟩ = some (.int .i64 i)) ∧ Hid (Known u [(w.heap.size, 23, [.int .i64 r, .int .i64 p]), (u2.heap.size, 23, [.int .i64 1, .int .i64 i])] ∧ Below w.heap.size w u))) (by kernel_rfl) (SOF.out _ (kdrew KN)) (fun HS => ?_)
  refine handTake 0 (some 35) ?_ rfl rfl (by kernel_rfl) (by kernel_rfl) (by kernel_rfl) (fun _ _ _ h => h) (by rfl) ?_ HS ?_
  rotate_left
  · (intro u hu; (try dsimp only at hu); go_simp; try with_reducible rfl)
  simp only [Act.put, List.setIfInBounds_toArray, List.set_cons_zero, List.set_cons_succ]
  refine handTake 1 (some 36) ?_ rfl rfl (by kernel_rfl) (by kernel_rfl) (by kernel_rfl) (fun _ _ _ h => h) (by rfl) ?_ HS ?_
  rotate_left
  · (intro u hu; (try dsimp only at hu); go_simp; try with_reducible rfl)
  simp only [Act.put, List.setIfInBounds_toArray, List.set_cons_zero, List.set_cons_succ]
  refine wpAnyH_ready (rs := [2]) (by kernel_rfl) (by simp) ?_
  refine AllReadyH.cons rfl (fun K hK => ?_) AllReadyH.nil
  go_simp
  refine (MM.out ⟨_, _⟩ _ _).mono ?_
  rintro e5 u5 ⟨rfl, hb⟩
  have HS' := Lib.hid (SOF.out _ (kcall (Nat.le_refl _) HS.2 hb))
  clear hb HS
  go_wp2_with fail
  refine hK.out _ _ HS'.out (fun HS => ?_)
  clear hK HS'
  try simp only [Act.put, List.setIfInBounds_toArray, List.set_cons_zero, List.set_cons_succ]
  refine handTake 3 (some 38) ?_ rfl rfl (by kernel_rfl) (by kernel_rfl) (by kernel_rfl) (fun _ _ _ h => h) (by rfl) ?_ HS ?_
  rotate_left
  · (intro u hu; (try dsimp only at hu); go_simp; try with_reducible rfl)
  simp only [Act.put, List.setIfInBounds_toArray, List.set_cons_zero, List.set_cons_succ]
  refine handTake 4 (some 39) ?_ rfl rfl (by kernel_rfl) (by kernel_rfl) (by kernel_rfl) (fun _ _ _ h => h) (by rfl) ?_ HS ?_
  rotate_left
  · (intro u hu; (try dsimp only at hu); go_simp; try with_reducible rfl)
  simp only [Act.put, List.setIfInBounds_toArray, List.set_cons_zero, List.set_cons_succ]
  refine handTake 5 (some 40) ?_ rfl rfl (by kernel_rfl) (by kernel_rfl) (by kernel_rfl) (fun _ _ _ h => h) (by rfl) ?_ HS ?_
  rotate_left
  · (intro u hu; (try dsimp only at hu); go_simp; try with_reducible rfl)
  simp only [Act.put, List.setIfInBounds_toArray, List.set_cons_zero, List.set_cons_succ]
  refine handTake 6 (some 41) ?_ rfl rfl (by kernel_rfl) (by kernel_rfl) (by kernel_rfl) (fun _ _ _ h => h) (by rfl) ?_ HS ?_
  rotate_left
  · (intro u hu; (try dsimp only at hu); go_simp; try with_reducible rfl)
  simp only [Act.put, List.setIfInBounds_toArray, List.set_cons_zero, List.set_cons_succ]
  refine handTake 7 (some 42) ?_ rfl rfl (by kernel_rfl) (by kernel_rfl) (by kernel_rfl) (fun _ _ _ h => h) (by rfl) ?_ HS ?_
  rotate_left
  · (intro u hu; (try dsimp only at hu); go_simp; try with_reducible rfl)
  simp only [Act.put, List.setIfInBounds_toArray, List.set_cons_zero, List.set_cons_succ]
  refine handTake 8 (some 43) ?_ rfl rfl (by kernel_rfl) (by kernel_rfl) (by kernel_rfl) (fun _ _ _ h => h) (by rfl) ?_ HS ?_
  rotate_left
  · (intro u hu; (try dsimp only at hu); go_simp; try with_reducible rfl)
  simp only [Act.put, List.setIfInBounds_toArray, List.set_cons_zero, List.set_cons_succ]
  refine handTake 9 (some 44) ?_ rfl rfl (by kernel_rfl) (by kernel_rfl) (by kernel_rfl) (fun _ _ _ h => h) (by rfl) ?_ HS ?_
  rotate_left
  · (intro u hu; (try dsimp only at hu); go_simp; try with_reducible rfl)
  simp only [Act.put, List.setIfInBounds_toArray, List.set_cons_zero, List.set_cons_succ]
  refine handTake 10 (some 45) ?_ rfl rfl (by kernel_rfl) (by kernel_rfl) (by kernel_rfl) (fun _ _ _ h => h) (by rfl) ?_ HS ?_
  rotate_left
  · (intro u hu; (try dsimp only at hu); go_simp; try with_reducible rfl)
  simp only [Act.put, List.setIfInBounds_toArray, List.set_cons_zero, List.set_cons_succ]
  refine handTake 11 (some 46) ?_ rfl rfl (by kernel_rfl) (by kernel_rfl) (by kernel_rfl) (fun _ _ _ h => h) (by rfl) ?_ HS ?_
  rotate_left
  · (intro u hu; (try dsimp only at hu); go_simp; try with_reducible rfl)
  simp only [Act.put, List.setIfInBounds_toArray, List.set_cons_zero, List.set_cons_succ]
  refine handTake 12 (some 47) ?_ rfl rfl (by kernel_rfl) (by kernel_rfl) (by kernel_rfl) (fun _ _ _ h => h) (by rfl) ?_ HS ?_
  rotate_left
  · (intro u hu; (try dsimp only at hu); go_simp; try with_reducible rfl)
  simp only [Act.put, List.setIfInBounds_toArray, List.set_cons_zero, List.set_cons_succ]
  refine handTake 13 (some 48) ?_ rfl rfl (by kernel_rfl) (by kernel_rfl) (by kernel_rfl) (fun _ _ _ h => h) (by rfl) ?_ HS ?_
  rotate_left
  · (intro u hu; (try dsimp only at hu); go_simp; try with_reducible rfl)
  simp only [Act.put, List.setIfInBounds_toArray, List.set_cons_zero, List.set_cons_succ]
  refine handTake 14 (some 49) ?_ rfl rfl (by kernel_rfl) (by kernel_rfl) (by kernel_rfl) (fun _ _ _ h => h) (by rfl) ?_ HS ?_
  rotate_left
  · (intro u hu; (try dsimp only at hu); go_simp; try with_reducible rfl)
  simp only [Act.put, List.setIfInBounds_toArray, List.set_cons_zero, List.set_cons_succ]
  refine handTake 15 (some 50) ?_ rfl rfl (by kernel_rfl) (by kernel_rfl) (by kernel_rfl) (fun _ _ _ h => h) (by rfl) ?_ HS ?_
  rotate_left
  · (intro u hu; (try dsimp only at hu); go_simp; try with_reducible rfl)
  simp only [Act.put, List.setIfInBounds_toArray, List.set_cons_zero, List.set_cons_succ]
  refine handTake 16 (some 51) ?_ rfl rfl (by kernel_rfl) (by kernel_rfl) (by kernel_rfl) (fun _ _ _ h => h) (by rfl) ?_ HS ?_
  rotate_left
  · (intro u hu; (try dsimp only at hu); go_simp; try with_reducible rfl)
  simp only [Act.put, List.setIfInBounds_toArray, List.set_cons_zero, List.set_cons_succ]
  refine handTake 17 (some 52) ?_ rfl rfl (by kernel_rfl) (by kernel_rfl) (by kernel_rfl) (fun _ _ _ h => h) (by rfl) ?_ HS ?_
  rotate_left
  · (intro u hu; (try dsimp only at hu); go_simp; try with_reducible rfl)
  simp only [Act.put, List.setIfInBounds_toArray, List.set_cons_zero, List.set_cons_succ]
  refine wpAnyH_ready (rs := [18]) (by kernel_rfl) (by simp) ?_
  refine AllReadyH.cons rfl (fun K hK => ?_) AllReadyH.nil
  go_simp
  refine (LL.out ⟨_, _⟩ ⟨_, _⟩ _).mono ?_
  rintro e6 u6 ⟨rfl, hb⟩
  have HS' := Lib.hid (SOF.out _ (kcall (Nat.le_refl _) HS.2 hb))
  clear hb HS
  go_wp2_with fail
  refine hK.out _ _ HS'.out (fun HS => ?_)
  clear hK HS'
  try simp only [Act.put, List.setIfInBounds_toArray, List.set_cons_zero, List.set_cons_succ]
  refine handTake 19 (some 54) ?_ rfl rfl (by kernel_rfl) (by kernel_rfl) (by kernel_rfl) (fun _ _ _ h => h) (by rfl) ?_ HS ?_
  rotate_left
  · (intro u hu; (try dsimp only at hu); go_simp; try with_reducible rfl)
  simp only [Act.put, List.setIfInBounds_toArray, List.set_cons_zero, List.set_cons_succ]
  refine handTake 20 (some 55) ?_ rfl rfl (by kernel_rfl) (by kernel_rfl) (by kernel_rfl) (fun _ _ _ h => h) (by rfl) ?_ HS ?_
  rotate_left
  · (intro u hu; (try dsimp only at hu); go_simp; try with_reducible rfl)
  simp only [Act.put, List.setIfInBounds_toArray, List.set_cons_zero, List.set_cons_succ]
  refine handTake 21 (some 56) ?_ rfl rfl (by kernel_rfl) (by kernel_rfl) (by kernel_rfl) (fun _ _ _ h => h) (by rfl) ?_ HS ?_
  rotate_left
  · (intro u hu; (try dsimp only at hu); go_simp; try with_reducible rfl)
  simp only [Act.put, List.setIfInBounds_toArray, List.set_cons_zero, List.set_cons_succ]
  refine handTake 22 (some 57) ?_ rfl rfl (by kernel_rfl) (by kernel_rfl) (by kernel_rfl) (fun _ _ _ h => h) (by rfl) ?_ HS ?_
  rotate_left
  · (intro u hu; (try dsimp only at hu); go_simp; try with_reducible rfl)
  simp only [Act.put, List.setIfInBounds_toArray, List.set_cons_zero, List.set_cons_succ]
  refine handTake 23 (some 58) ?_ rfl rfl (by kernel_rfl) (by kernel_rfl) (by kernel_rfl) (fun _ _ _ h => h) (by rfl) ?_ HS ?_
  rotate_left
  · (intro u hu; (try dsimp only at hu); go_simp; try with_reducible rfl)
  simp only [Act.put, List.setIfInBounds_toArray, List.set_cons_zero, List.set_cons_succ]
  refine handTake 24 (some 59) ?_ rfl rfl (by kernel_rfl) (by kernel_rfl) (by kernel_rfl) (fun _ _ _ h => h) (by rfl) ?_ HS ?_
  rotate_left
  · (intro u hu; (try dsimp only at hu); go_simp; try with_reducible rfl)
  simp only [Act.put, List.setIfInBounds_toArray, List.set_cons_zero, List.set_cons_succ]
  refine handTake 25 (some 60) ?_ rfl rfl (by kernel_rfl) (by kernel_rfl) (by kernel_rfl) (fun _ _ _ h => h) (by rfl) ?_ HS ?_
  rotate_left
  · (intro u hu; (try dsimp only at hu); go_simp; try with_reducible rfl)
  simp only [Act.put, List.setIfInBounds_toArray, List.set_cons_zero, List.set_cons_succ]
  refine handSkip 26 (some 61) rfl rfl (by kernel_rfl) (by kernel_rfl) (by kernel_rfl) (fun _ _ _ h => h) (by rfl) HS ?_
  simp only [Act.put, List.setIfInBounds_toArray, List.set_cons_zero, List.set_cons_succ]
  refine handSkip 27 (some 62) rfl rfl (by kernel_rfl) (by kernel_rfl) (by kernel_rfl) (fun _ _ _ h => h) (by rfl) HS ?_
  simp only [Act.put, List.setIfInBounds_toArray, List.set_cons_zero, List.set_cons_succ]
  refine handSkip 28 (some 63) rfl rfl (by kernel_rfl) (by kernel_rfl) (by kernel_rfl) (fun _ _ _ h => h) (by rfl) HS ?_
  simp only [Act.put, List.setIfInBounds_toArray, List.set_cons_zero, List.set_cons_succ]
  refine handSkip 29 (some 64) rfl rfl (by kernel_rfl) (by kernel_rfl) (by kernel_rfl) (fun _ _ _ h => h) (by rfl) HS ?_
  simp only [Act.put, List.setIfInBounds_toArray, List.set_cons_zero, List.set_cons_succ]
  refine handSkip 30 (some 65) rfl rfl (by kernel_rfl) (by kernel_rfl) (by kernel_rfl) (fun _ _ _ h => h) (by rfl) HS ?_
  simp only [Act.put, List.setIfInBounds_toArray, List.set_cons_zero, List.set_cons_succ]
  refine handSkip 31 (some 66) rfl rfl (by kernel_rfl) (by kernel_rfl) (by kernel_rfl) (fun _ _ _ h => h) (by rfl) HS ?_
  simp only [Act.put, List.setIfInBounds_toArray, List.set_cons_zero, List.set_cons_succ]
  refine handSkip 32 (some 67) rfl rfl (by kernel_rfl) (by kernel_rfl) (by kernel_rfl) (fun _ _ _ h => h) (by rfl) HS ?_
  simp only [Act.put, List.setIfInBounds_toArray, List.set_cons_zero, List.set_cons_succ]
  refine handTake 33 (some 68) ?_ rfl rfl (by kernel_rfl) (by kernel_rfl) (by kernel_rfl) (fun _ _ _ h => h) (by rfl) ?_ HS ?_
  rotate_left
  · (intro u hu; (try dsimp only at hu); go_simp; try with_reducible rfl)
  simp only [Act.put, List.setIfInBounds_toArray, List.set_cons_zero, List.set_cons_succ]
  refine handTake 34 (some 69) ?_ rfl rfl (by kernel_rfl) (by kernel_rfl) (by kernel_rfl) (fun _ _ _ h => h) (by rfl) ?_ HS ?_
  rotate_left
  · (intro u hu; (try dsimp only at hu); go_simp; try with_reducible rfl)
  simp only [Act.put, List.setIfInBounds_toArray, List.set_cons_zero, List.set_cons_succ]
  refine wpAnyH_done (by kernel_rfl) ?_ _
  have KN1 := And.right (show (fun u : World => (u.cell? ⟨w.heap.size, 0, none⟩ = some (.int .i64 r) ∧ u.cell? ⟨w.heap.size, 1, none⟩ = some (.int .i64 p) ∧ u.cell? ⟨u2.heap.size, 0, none⟩ = some (.int .i64 1) ∧ u.cell? ⟨u2.heap.size, 1, none⟩ = some (.int .i64 i)) ∧ Hid (Known u [(w.heap.size, 23, [.int .i64 r, .int .i64 p]), (u2.heap.size, 23, [.int .i64 1, .int .i64 i])] ∧ Below w.heap.size w u)) u6 from HS)
  have H_b : Whole u6 (w.heap.size) 23 _ := KN1.out.1.head
  have H_x : Whole u6 (u2.heap.size) 23 _ := KN1.out.1.tail.head
  have HB := KN1.out.2
  clear c_b_0 c_b_1 f_b_0 f_b_1 c_x_0 c_x_1 f_x_0 f_x_1 l_b l_x
  clear KN KN1 SOF
  have z_6 := HB.size
  have c_b_0 := H_b.cell 0; have f_b_0 := H_b.free 0; have c_b_1 := H_b.cell 1; have f_b_1 := H_b.free 1
  simp only [List.set_cons_zero, List.set_cons_succ, List.getElem?_cons_zero, List.getElem?_cons_succ] at c_b_0 c_b_1
  have c_x_0 := H_x.cell 0; have f_x_0 := H_x.free 0; have c_x_1 := H_x.cell 1; have f_x_1 := H_x.free 1
  simp only [List.set_cons_zero, List.set_cons_succ, List.getElem?_cons_zero, List.getElem?_cons_succ] at c_x_0 c_x_1
  have l_b := H_b.lt; have K_b := Lib.hid H_b; clear H_b
  have l_x := H_x.lt; have K_x := Lib.hid H_x; clear H_x
  have KB := Lib.hid HB; clear HB
  go_wp2_with fail
  refine (N2.out _).mono ?_
  rintro e7 u7 ⟨rfl, hb⟩
  have H_b : Whole u7 (w.heap.size) 23 _ := Whole.below K_b.out hb (by first | omega | (simp; done) | (simp; omega) | (simp at *; omega))
  have H_x : Whole u7 (u2.heap.size) 23 _ := Whole.below K_x.out hb (by first | omega | (simp; done) | (simp; omega) | (simp at *; omega))
  have HB := KB.out.trans (hb.mono (by first | omega | (simp; done) | (simp; omega) | (simp at *; omega)))
  clear c_b_0 c_b_1 f_b_0 f_b_1 c_x_0 c_x_1 f_x_0 f_x_1 l_b l_x
  clear hb KB K_b K_x
  have z_u7 := HB.size
  have c_b_0 := H_b.cell 0; have f_b_0 := H_b.free 0; have c_b_1 := H_b.cell 1; have f_b_1 := H_b.free 1
  simp only [List.set_cons_zero, List.set_cons_succ, List.getElem?_cons_zero, List.getElem?_cons_succ] at c_b_0 c_b_1
  have c_x_0 := H_x.cell 0; have f_x_0 := H_x.free 0; have c_x_1 := H_x.cell 1; have f_x_1 := H_x.free 1
  simp only [List.set_cons_zero, List.set_cons_succ, List.getElem?_cons_zero, List.getElem?_cons_succ] at c_x_0 c_x_1
  have l_b := H_b.lt; have K_b := Lib.hid H_b; clear H_b
  have l_x := H_x.lt; have K_x := Lib.hid H_x; clear H_x
  have KB := Lib.hid HB; clear HB
  go_wp2_with fail
  go_ret
  exact ⟨by first | rfl | simp, (KB.out.alloc (by first | omega | (simp; done) | (simp; omega) | (simp at *; omega)) _)⟩

set_option maxHeartbeats 4000000 in
theorem behind_big_same (r p i R n : Int) (h : nextZ ⟨r, p⟩ i n = (⟨R, i⟩, 0)) (hm : mayB ⟨R, i⟩ n = true) (hl : lessB ⟨r, p⟩ ⟨R, i⟩ = true) (hR : R ≤ 1099511627776) (h1 : 1 < R) (d1 : decide (1 < R) = true) (d2 : decide (R < 1) = false) (hq : lessB ⟨r, p⟩ ⟨R - 1, i⟩ = false) (w : World) :
    Calls Try.prog 7 #[.agg #[.int .i64 r, .int .i64 p], .int .i64 i, .int .i64 i, .int .i64 n] w fun e w' => e = .returned (.bool true) ∧ Below w.heap.size w w' := by
  have LL := Lib.hid less_any
  have MM := Lib.hid may_any
  have OO := Lib.hid of_any
  have AW := Lib.hid awake_any
  have N1 := Lib.hid (next_is ⟨r, p⟩ i n R i 0 h)
  have hwr : IntKind.i64.wrap (R - 1) = R - 1 := IntWalk.i64_in _ (by omega)
  clear h
  have KB := Lib.hid (Below.refl w.heap.size w)
  go_enter Try.func7, Try.ntmps7
  go_wp2_with fail
  refine (AW.out _).mono ?_
  rintro e1 u1 ⟨rfl, hb⟩
  have H_b : Whole u1 (w.heap.size) 23 _ := Whole.below (Whole.new _ 23 _) hb (by first | omega | (simp; done) | (simp; omega) | (simp at *; omega))
  have HB := (KB.out.alloc (by first | omega | (simp; done) | (simp; omega) | (simp at *; omega)) _).trans (hb.mono (by first | omega | (simp; done) | (simp; omega) | (simp at *; omega)))
  clear hb KB
  have z_u1 := HB.size
  have c_b_0 := H_b.cell 0; have f_b_0 := H_b.free 0; have c_b_1 := H_b.cell 1; have f_b_1 := H_b.free 1
  simp only [List.set_cons_zero, List.set_cons_succ, List.getElem?_cons_zero, List.getElem?_cons_succ] at c_b_0 c_b_1
  have l_b := H_b.lt; have K_b := Lib.hid H_b; clear H_b
  have KB := Lib.hid HB; clear HB
  go_wp2_with fail
  refine (N1.out _).mono ?_
  rintro e2 u2 ⟨rfl, hb⟩
  have H_b : Whole u2 (w.heap.size) 23 _ := Whole.below K_b.out hb (by first | omega | (simp; done) | (simp; omega) | (simp at *; omega))
  have HB := KB.out.trans (hb.mono (by first | omega | (simp; done) | (simp; omega) | (simp at *; omega)))
  clear c_b_0 c_b_1 f_b_0 f_b_1 l_b
  clear hb KB K_b
  have z_u2 := HB.size
  have c_b_0 := H_b.cell 0; have f_b_0 := H_b.free 0; have c_b_1 := H_b.cell 1; have f_b_1 := H_b.free 1
  simp only [List.set_cons_zero, List.set_cons_succ, List.getElem?_cons_zero, List.getElem?_cons_succ] at c_b_0 c_b_1
  have l_b := H_b.lt; have K_b := Lib.hid H_b; clear H_b
  have KB := Lib.hid HB; clear HB
  go_wp2_with fail
  obtain ⟨W3, hW⟩ : ∃ W : World, W = (u2.alloc (.cells #[.int .i64 R, .int .i64 i] 23)) := ⟨_, rfl⟩
  have H_b : Whole W3 (w.heap.size) 23 [.int .i64 r, .int .i64 p] := by rw [hW]; exact (K_b.out.alloc _)
  have H_x : Whole W3 (u2.heap.size) 23 [.int .i64 R, .int .i64 i] := by rw [hW]; exact (Whole.new _ 23 _)
  have HB : Below w.heap.size w W3 := by rw [hW]; exact (KB.out.alloc (by first | omega | (simp; done) | (simp; omega) | (simp at *; omega)) _)
  rw [← hW]
  clear c_b_0 c_b_1 f_b_0 f_b_1 l_b
  clear hW KB K_b
  have z_W3 := HB.size
  have c_b_0 := H_b.cell 0; have f_b_0 := H_b.free 0; have c_b_1 := H_b.cell 1; have f_b_1 := H_b.free 1
  simp only [List.set_cons_zero, List.set_cons_succ, List.getElem?_cons_zero, List.getElem?_cons_succ] at c_b_0 c_b_1
  have c_x_0 := H_x.cell 0; have f_x_0 := H_x.free 0; have c_x_1 := H_x.cell 1; have f_x_1 := H_x.free 1
  simp only [List.set_cons_zero, List.set_cons_succ, List.getElem?_cons_zero, List.getElem?_cons_succ] at c_x_0 c_x_1
  have l_b := H_b.lt; have K_b := Lib.hid H_b; clear H_b
  have l_x := H_x.lt; have K_x := Lib.hid H_x; clear H_x
  have KB := Lib.hid HB; clear HB
  have KN : Hid (Known W3 [(w.heap.size, 23, [.int .i64 r, .int .i64 p]), (u2.heap.size, 23, [.int .i64 R, .int .i64 i])] ∧ Below w.heap.size w W3) := ⟨(Known.add K_b.out (Known.add K_x.out (Known.nil W3))), KB.out⟩
  have SOF : ∀ u : World, Hid (Known u [(w.heap.size, 23, [.int .i64 r, .int .i64 p]), (u2.heap.size, 23, [.int .i64 R, .int .i64 i])] ∧ Below w.heap.size w u) → (fun u : World => (u.cell? ⟨w.heap.size, 0, none⟩ = some (.int .i64 r) ∧ u.cell? ⟨w.heap.size, 1, none⟩ = some (.int .i64 p) ∧ u.cell? ⟨u2.heap.size, 0, none⟩ = some (.int .i64 R) ∧ u.cell? ⟨u2.heap.size, 1, none⟩ = some (.int .i64 i)) ∧ Hid (Known u [(w.heap.size, 23, [.int .i64 r, .int .i64 p]), (u2.heap.size, 23, [.int .i64 R, .int .i64 i])] ∧ Below w.heap.size w u)) u := fun u h => ⟨⟨(h.out.1.head.cell 0), (h.out.1.head.cell 1), (h.out.1.tail.head.cell 0), (h.out.1.tail.head.cell 1)⟩, h⟩
  have SOF := Lib.hid SOF
  clear KB K_b K_x
  refine wp_region_held_drew (S := (fun u : World => (u.cell? ⟨w.heap.size, 0, none⟩ = some (.int .i64 r) ∧ u.cell? ⟨w.heap.size, 1, none⟩ = some (.int .i64 p) ∧ u.cell? ⟨u2.heap.size, 0, none⟩ = some (.int .i64 R) ∧ u.cell? ⟨u2.heap.size, 1, none⟩ = some (.int .i64 i)) ∧ Hid (Known u [(w.heap.size, 23, [.int .i64 r, .int .i64 p]), (u2.heap.size, 23, [.int .i64 R, .int .i64 i])] ∧ Below w.heap.size w u))) (by kernel_rfl) (SOF.out _ (kdrew KN)) (fun HS => ?_)
  refine handTake 0 (some 35) ?_ rfl rfl (by kernel_rfl) (by kernel_rfl) (by kernel_rfl) (fun _ _ _ h => h) (by rfl) ?_ HS ?_
  rotate_left
  · (intro u hu; (try dsimp only at hu); go_simp; try with_reducible rfl)
  simp only [Act.put, List.setIfInBounds_toArray, List.set_cons_zero, List.set_cons_succ]
  refine handTake 1 (some 36) ?_ rfl rfl (by kernel_rfl) (by kernel_rfl) (by kernel_rfl) (fun _ _ _ h => h) (by rfl) ?_ HS ?_
  rotate_left
  · (intro u hu; (try dsimp only at hu); go_simp; try with_reducible rfl)
  simp only [Act.put, List.setIfInBounds_toArray, List.set_cons_zero, List.set_cons_succ]
  refine wpAnyH_ready (rs := [2]) (by kernel_rfl) (by simp) ?_
  refine AllReadyH.cons rfl (fun K hK => ?_) AllReadyH.nil
  go_simp
  refine (MM.out ⟨_, _⟩ _ _).mono ?_
  rintro e5 u5 ⟨rfl, hb⟩
  have HS' := Lib.hid (SOF.out _ (kcall (Nat.le_refl _) HS.2 hb))
  clear hb HS
  go_wp2_with fail
  refine hK.out _ _ HS'.out (fun HS => ?_)
  clear hK HS'
  try simp only [Act.put, List.setIfInBounds_toArray, List.set_cons_zero, List.set_cons_succ]
  refine handTake 3 (some 38) ?_ rfl rfl (by kernel_rfl) (by kernel_rfl) (by kernel_rfl) (fun _ _ _ h => h) (by rfl) ?_ HS ?_
  rotate_left
  · (intro u hu; (try dsimp only at hu); go_simp; try with_reducible rfl)
  simp only [Act.put, List.setIfInBounds_toArray, List.set_cons_zero, List.set_cons_succ]
  refine handTake 4 (some 39) ?_ rfl rfl (by kernel_rfl) (by kernel_rfl) (by kernel_rfl) (fun _ _ _ h => h) (by rfl) ?_ HS ?_
  rotate_left
  · (intro u hu; (try dsimp only at hu); go_simp; try with_reducible rfl)
  simp only [Act.put, List.setIfInBounds_toArray, List.set_cons_zero, List.set_cons_succ]
  refine handTake 5 (some 40) ?_ rfl rfl (by kernel_rfl) (by kernel_rfl) (by kernel_rfl) (fun _ _ _ h => h) (by rfl) ?_ HS ?_
  rotate_left
  · (intro u hu; (try dsimp only at hu); go_simp; try with_reducible rfl)
  simp only [Act.put, List.setIfInBounds_toArray, List.set_cons_zero, List.set_cons_succ]
  refine handTake 6 (some 41) ?_ rfl rfl (by kernel_rfl) (by kernel_rfl) (by kernel_rfl) (fun _ _ _ h => h) (by rfl) ?_ HS ?_
  rotate_left
  · (intro u hu; (try dsimp only at hu); go_simp; try with_reducible rfl)
  simp only [Act.put, List.setIfInBounds_toArray, List.set_cons_zero, List.set_cons_succ]
  refine handTake 7 (some 42) ?_ rfl rfl (by kernel_rfl) (by kernel_rfl) (by kernel_rfl) (fun _ _ _ h => h) (by rfl) ?_ HS ?_
  rotate_left
  · (intro u hu; (try dsimp only at hu); go_simp; try with_reducible rfl)
  simp only [Act.put, List.setIfInBounds_toArray, List.set_cons_zero, List.set_cons_succ]
  refine handTake 8 (some 43) ?_ rfl rfl (by kernel_rfl) (by kernel_rfl) (by kernel_rfl) (fun _ _ _ h => h) (by rfl) ?_ HS ?_
  rotate_left
  · (intro u hu; (try dsimp only at hu); go_simp; try with_reducible rfl)
  simp only [Act.put, List.setIfInBounds_toArray, List.set_cons_zero, List.set_cons_succ]
  refine handTake 9 (some 44) ?_ rfl rfl (by kernel_rfl) (by kernel_rfl) (by kernel_rfl) (fun _ _ _ h => h) (by rfl) ?_ HS ?_
  rotate_left
  · (intro u hu; (try dsimp only at hu); go_simp; try with_reducible rfl)
  simp only [Act.put, List.setIfInBounds_toArray, List.set_cons_zero, List.set_cons_succ]
  refine handTake 10 (some 45) ?_ rfl rfl (by kernel_rfl) (by kernel_rfl) (by kernel_rfl) (fun _ _ _ h => h) (by rfl) ?_ HS ?_
  rotate_left
  · (intro u hu; (try dsimp only at hu); go_simp; try with_reducible rfl)
  simp only [Act.put, List.setIfInBounds_toArray, List.set_cons_zero, List.set_cons_succ]
  refine handTake 11 (some 46) ?_ rfl rfl (by kernel_rfl) (by kernel_rfl) (by kernel_rfl) (fun _ _ _ h => h) (by rfl) ?_ HS ?_
  rotate_left
  · (intro u hu; (try dsimp only at hu); go_simp; try with_reducible rfl)
  simp only [Act.put, List.setIfInBounds_toArray, List.set_cons_zero, List.set_cons_succ]
  refine handTake 12 (some 47) ?_ rfl rfl (by kernel_rfl) (by kernel_rfl) (by kernel_rfl) (fun _ _ _ h => h) (by rfl) ?_ HS ?_
  rotate_left
  · (intro u hu; (try dsimp only at hu); go_simp; try with_reducible rfl)
  simp only [Act.put, List.setIfInBounds_toArray, List.set_cons_zero, List.set_cons_succ]
  refine handTake 13 (some 48) ?_ rfl rfl (by kernel_rfl) (by kernel_rfl) (by kernel_rfl) (fun _ _ _ h => h) (by rfl) ?_ HS ?_
  rotate_left
  · (intro u hu; (try dsimp only at hu); go_simp; try with_reducible rfl)
  simp only [Act.put, List.setIfInBounds_toArray, List.set_cons_zero, List.set_cons_succ]
  refine handTake 14 (some 49) ?_ rfl rfl (by kernel_rfl) (by kernel_rfl) (by kernel_rfl) (fun _ _ _ h => h) (by rfl) ?_ HS ?_
  rotate_left
  · (intro u hu; (try dsimp only at hu); go_simp; try with_reducible rfl)
  simp only [Act.put, List.setIfInBounds_toArray, List.set_cons_zero, List.set_cons_succ]
  refine handTake 15 (some 50) ?_ rfl rfl (by kernel_rfl) (by kernel_rfl) (by kernel_rfl) (fun _ _ _ h => h) (by rfl) ?_ HS ?_
  rotate_left
  · (intro u hu; (try dsimp only at hu); go_simp; try with_reducible rfl)
  simp only [Act.put, List.setIfInBounds_toArray, List.set_cons_zero, List.set_cons_succ]
  refine handTake 16 (some 51) ?_ rfl rfl (by kernel_rfl) (by kernel_rfl) (by kernel_rfl) (fun _ _ _ h => h) (by rfl) ?_ HS ?_
  rotate_left
  · (intro u hu; (try dsimp only at hu); go_simp; try with_reducible rfl)
  simp only [Act.put, List.setIfInBounds_toArray, List.set_cons_zero, List.set_cons_succ]
  refine handTake 17 (some 52) ?_ rfl rfl (by kernel_rfl) (by kernel_rfl) (by kernel_rfl) (fun _ _ _ h => h) (by rfl) ?_ HS ?_
  rotate_left
  · (intro u hu; (try dsimp only at hu); go_simp; try with_reducible rfl)
  simp only [Act.put, List.setIfInBounds_toArray, List.set_cons_zero, List.set_cons_succ]
  refine wpAnyH_ready (rs := [18]) (by kernel_rfl) (by simp) ?_
  refine AllReadyH.cons rfl (fun K hK => ?_) AllReadyH.nil
  go_simp
  refine (LL.out ⟨_, _⟩ ⟨_, _⟩ _).mono ?_
  rintro e6 u6 ⟨rfl, hb⟩
  have HS' := Lib.hid (SOF.out _ (kcall (Nat.le_refl _) HS.2 hb))
  clear hb HS
  go_wp2_with fail
  refine hK.out _ _ HS'.out (fun HS => ?_)
  clear hK HS'
  try simp only [Act.put, List.setIfInBounds_toArray, List.set_cons_zero, List.set_cons_succ]
  refine handTake 19 (some 54) ?_ rfl rfl (by kernel_rfl) (by kernel_rfl) (by kernel_rfl) (fun _ _ _ h => h) (by rfl) ?_ HS ?_
  rotate_left
  · (intro u hu; (try dsimp only at hu); go_simp; try with_reducible rfl)
  simp only [Act.put, List.setIfInBounds_toArray, List.set_cons_zero, List.set_cons_succ]
  refine handTake 20 (some 55) ?_ rfl rfl (by kernel_rfl) (by kernel_rfl) (by kernel_rfl) (fun _ _ _ h => h) (by rfl) ?_ HS ?_
  rotate_left
  · (intro u hu; (try dsimp only at hu); go_simp; try with_reducible rfl)
  simp only [Act.put, List.setIfInBounds_toArray, List.set_cons_zero, List.set_cons_succ]
  refine handTake 21 (some 56) ?_ rfl rfl (by kernel_rfl) (by kernel_rfl) (by kernel_rfl) (fun _ _ _ h => h) (by rfl) ?_ HS ?_
  rotate_left
  · (intro u hu; (try dsimp only at hu); go_simp; try with_reducible rfl)
  simp only [Act.put, List.setIfInBounds_toArray, List.set_cons_zero, List.set_cons_succ]
  refine handTake 22 (some 57) ?_ rfl rfl (by kernel_rfl) (by kernel_rfl) (by kernel_rfl) (fun _ _ _ h => h) (by rfl) ?_ HS ?_
  rotate_left
  · (intro u hu; (try dsimp only at hu); go_simp; try with_reducible rfl)
  simp only [Act.put, List.setIfInBounds_toArray, List.set_cons_zero, List.set_cons_succ]
  refine handTake 23 (some 58) ?_ rfl rfl (by kernel_rfl) (by kernel_rfl) (by kernel_rfl) (fun _ _ _ h => h) (by rfl) ?_ HS ?_
  rotate_left
  · (intro u hu; (try dsimp only at hu); go_simp; try with_reducible rfl)
  simp only [Act.put, List.setIfInBounds_toArray, List.set_cons_zero, List.set_cons_succ]
  refine handTake 24 (some 59) ?_ rfl rfl (by kernel_rfl) (by kernel_rfl) (by kernel_rfl) (fun _ _ _ h => h) (by rfl) ?_ HS ?_
  rotate_left
  · (intro u hu; (try dsimp only at hu); go_simp; try with_reducible rfl)
  simp only [Act.put, List.setIfInBounds_toArray, List.set_cons_zero, List.set_cons_succ]
  refine handTake 25 (some 60) ?_ rfl rfl (by kernel_rfl) (by kernel_rfl) (by kernel_rfl) (fun _ _ _ h => h) (by rfl) ?_ HS ?_
  rotate_left
  · (intro u hu; (try dsimp only at hu); go_simp; try with_reducible rfl)
  simp only [Act.put, List.setIfInBounds_toArray, List.set_cons_zero, List.set_cons_succ]
  refine handTake 26 (some 61) ?_ rfl rfl (by kernel_rfl) (by kernel_rfl) (by kernel_rfl) (fun _ _ _ h => h) (by rfl) ?_ HS ?_
  rotate_left
  · (intro u hu; (try dsimp only at hu); go_simp; try with_reducible rfl)
  simp only [Act.put, List.setIfInBounds_toArray, List.set_cons_zero, List.set_cons_succ]
  refine handTake 27 (some 62) ?_ rfl rfl (by kernel_rfl) (by kernel_rfl) (by kernel_rfl) (fun _ _ _ h => h) (by rfl) ?_ HS ?_
  rotate_left
  · (intro u hu; (try dsimp only at hu); go_simp; try with_reducible rfl)
  simp only [Act.put, List.setIfInBounds_toArray, List.set_cons_zero, List.set_cons_succ]
  refine handTake 28 (some 63) ?_ rfl rfl (by kernel_rfl) (by kernel_rfl) (by kernel_rfl) (fun _ _ _ h => h) (by rfl) ?_ HS ?_
  rotate_left
  · (intro u hu; (try dsimp only at hu); go_simp; try with_reducible rfl)
  simp only [Act.put, List.setIfInBounds_toArray, List.set_cons_zero, List.set_cons_succ]
  refine handTake 29 (some 64) ?_ rfl rfl (by kernel_rfl) (by kernel_rfl) (by kernel_rfl) (fun _ _ _ h => h) (by rfl) ?_ HS ?_
  rotate_left
  · (intro u hu; (try dsimp only at hu); go_simp; try with_reducible rfl)
  simp only [Act.put, List.setIfInBounds_toArray, List.set_cons_zero, List.set_cons_succ]
  refine handTake 30 (some 65) ?_ rfl rfl (by kernel_rfl) (by kernel_rfl) (by kernel_rfl) (fun _ _ _ h => h) (by rfl) ?_ HS ?_
  rotate_left
  · (intro u hu; (try dsimp only at hu); go_simp; try with_reducible rfl)
  simp only [Act.put, List.setIfInBounds_toArray, List.set_cons_zero, List.set_cons_succ]
  refine wpAnyH_ready (rs := [31]) (by kernel_rfl) (by simp) ?_
  refine AllReadyH.cons rfl (fun K hK => ?_) AllReadyH.nil
  go_simp
  refine (OO.out _ _ _).mono ?_
  rintro e7 u7 ⟨rfl, hb⟩
  have HS' := Lib.hid (SOF.out _ (kcall (Nat.le_refl _) HS.2 hb))
  clear hb HS
  go_wp2_with fail
  refine hK.out _ _ HS'.out (fun HS => ?_)
  clear hK HS'
  try simp only [Act.put, List.setIfInBounds_toArray, List.set_cons_zero, List.set_cons_succ]
  refine wpAnyH_ready (rs := [32]) (by kernel_rfl) (by simp) ?_
  refine AllReadyH.cons rfl (fun K hK => ?_) AllReadyH.nil
  go_simp
  refine (LL.out ⟨_, _⟩ ⟨_, _⟩ _).mono ?_
  rintro e8 u8 ⟨rfl, hb⟩
  have HS' := Lib.hid (SOF.out _ (kcall (Nat.le_refl _) HS.2 hb))
  clear hb HS
  go_wp2_with fail
  refine hK.out _ _ HS'.out (fun HS => ?_)
  clear hK HS'
  try simp only [Act.put, List.setIfInBounds_toArray, List.set_cons_zero, List.set_cons_succ]
  refine handTake 33 (some 68) ?_ rfl rfl (by kernel_rfl) (by kernel_rfl) (by kernel_rfl) (fun _ _ _ h => h) (by rfl) ?_ HS ?_
  rotate_left
  · (intro u hu; (try dsimp only at hu); go_simp; try with_reducible rfl)
  simp only [Act.put, List.setIfInBounds_toArray, List.set_cons_zero, List.set_cons_succ]
  refine handTake 34 (some 69) ?_ rfl rfl (by kernel_rfl) (by kernel_rfl) (by kernel_rfl) (fun _ _ _ h => h) (by rfl) ?_ HS ?_
  rotate_left
  · (intro u hu; (try dsimp only at hu); go_simp; try with_reducible rfl)
  simp only [Act.put, List.setIfInBounds_toArray, List.set_cons_zero, List.set_cons_succ]
  refine wpAnyH_done (by kernel_rfl) ?_ _
  have KN1 := And.right (show (fun u : World => (u.cell? ⟨w.heap.size, 0, none⟩ = some (.int .i64 r) ∧ u.cell? ⟨w.heap.size, 1, none⟩ = some (.int .i64 p) ∧ u.cell? ⟨u2.heap.size, 0, none⟩ = some (.int .i64 R) ∧ u.cell? ⟨u2.heap.size, 1, none⟩ = some (.int .i64 i)) ∧ Hid (Known u [(w.heap.size, 23, [.int .i64 r, .int .i64 p]), (u2.heap.size, 23, [.int .i64 R, .int .i64 i])] ∧ Below w.heap.size w u)) u8 from HS)
  have H_b : Whole u8 (w.heap.size) 23 _ := KN1.out.1.head
  have H_x : Whole u8 (u2.heap.size) 23 _ := KN1.out.1.tail.head
  have HB := KN1.out.2
  clear c_b_0 c_b_1 f_b_0 f_b_1 c_x_0 c_x_1 f_x_0 f_x_1 l_b l_x
  clear KN KN1 SOF
  have z_8 := HB.size
  have c_b_0 := H_b.cell 0; have f_b_0 := H_b.free 0; have c_b_1 := H_b.cell 1; have f_b_1 := H_b.free 1
  simp only [List.set_cons_zero, List.set_cons_succ, List.getElem?_cons_zero, List.getElem?_cons_succ] at c_b_0 c_b_1
  have c_x_0 := H_x.cell 0; have f_x_0 := H_x.free 0; have c_x_1 := H_x.cell 1; have f_x_1 := H_x.free 1
  simp only [List.set_cons_zero, List.set_cons_succ, List.getElem?_cons_zero, List.getElem?_cons_succ] at c_x_0 c_x_1
  have l_b := H_b.lt; have K_b := Lib.hid H_b; clear H_b
  have l_x := H_x.lt; have K_x := Lib.hid H_x; clear H_x
  have KB := Lib.hid HB; clear HB
  go_wp2_with fail
  refine (N1.out _).mono ?_
  rintro e9 u9 ⟨rfl, hb⟩
  have H_b : Whole u9 (w.heap.size) 23 _ := Whole.below K_b.out hb (by first | omega | (simp; done) | (simp; omega) | (simp at *; omega))
  have H_x : Whole u9 (u2.heap.size) 23 _ := Whole.below K_x.out hb (by first | omega | (simp; done) | (simp; omega) | (simp at *; omega))
  have HB := KB.out.trans (hb.mono (by first | omega | (simp; done) | (simp; omega) | (simp at *; omega)))
  clear c_b_0 c_b_1 f_b_0 f_b_1 c_x_0 c_x_1 f_x_0 f_x_1 l_b l_x
  clear hb KB K_b K_x
  have z_u9 := HB.size
  have c_b_0 := H_b.cell 0; have f_b_0 := H_b.free 0; have c_b_1 := H_b.cell 1; have f_b_1 := H_b.free 1
  simp only [List.set_cons_zero, List.set_cons_succ, List.getElem?_cons_zero, List.getElem?_cons_succ] at c_b_0 c_b_1
  have c_x_0 := H_x.cell 0; have f_x_0 := H_x.free 0; have c_x_1 := H_x.cell 1; have f_x_1 := H_x.free 1
  simp only [List.set_cons_zero, List.set_cons_succ, List.getElem?_cons_zero, List.getElem?_cons_succ] at c_x_0 c_x_1
  have l_b := H_b.lt; have K_b := Lib.hid H_b; clear H_b
  have l_x := H_x.lt; have K_x := Lib.hid H_x; clear H_x
  have KB := Lib.hid HB; clear HB
  go_wp2_with fail
  go_ret
  exact ⟨by first | rfl | simp, (KB.out.alloc (by first | omega | (simp; done) | (simp; omega) | (simp at *; omega)) _)⟩

set_option maxHeartbeats 4000000 in
theorem behind_big_err (r p i R k f n : Int) (h : nextZ ⟨r, p⟩ i n = (⟨R, i⟩, 0)) (hm : mayB ⟨R, i⟩ n = true) (hl : lessB ⟨r, p⟩ ⟨R, i⟩ = true) (hR : R ≤ 1099511627776) (h1 : 1 < R) (d1 : decide (1 < R) = true) (d2 : decide (R < 1) = false) (hq : lessB ⟨r, p⟩ ⟨R - 1, i⟩ = false) (h2 : nextZ ⟨r, p⟩ k n = (⟨0, 0⟩, f)) (hf : (f != 0) = true) (w : World) :
    Calls Try.prog 7 #[.agg #[.int .i64 r, .int .i64 p], .int .i64 i, .int .i64 k, .int .i64 n] w fun e w' => e = .returned (.bool true) ∧ Below w.heap.size w w' := by
  have LL := Lib.hid less_any
  have MM := Lib.hid may_any
  have OO := Lib.hid of_any
  have AW := Lib.hid awake_any
  have N1 := Lib.hid (next_is ⟨r, p⟩ i n R i 0 h)
  have N2 := Lib.hid (next_is ⟨r, p⟩ k n 0 0 f h2)
  have hwr : IntKind.i64.wrap (R - 1) = R - 1 := IntWalk.i64_in _ (by omega)
  clear h h2
  have KB := Lib.hid (Below.refl w.heap.size w)
  go_enter Try.func7, Try.ntmps7
  go_wp2_with fail
  refine (AW.out _).mono ?_
  rintro e1 u1 ⟨rfl, hb⟩
  have H_b : Whole u1 (w.heap.size) 23 _ := Whole.below (Whole.new _ 23 _) hb (by first | omega | (simp; done) | (simp; omega) | (simp at *; omega))
  have HB := (KB.out.alloc (by first | omega | (simp; done) | (simp; omega) | (simp at *; omega)) _).trans (hb.mono (by first | omega | (simp; done) | (simp; omega) | (simp at *; omega)))
  clear hb KB
  have z_u1 := HB.size
  have c_b_0 := H_b.cell 0; have f_b_0 := H_b.free 0; have c_b_1 := H_b.cell 1; have f_b_1 := H_b.free 1
  simp only [List.set_cons_zero, List.set_cons_succ, List.getElem?_cons_zero, List.getElem?_cons_succ] at c_b_0 c_b_1
  have l_b := H_b.lt; have K_b := Lib.hid H_b; clear H_b
  have KB := Lib.hid HB; clear HB
  go_wp2_with fail
  refine (N1.out _).mono ?_
  rintro e2 u2 ⟨rfl, hb⟩
  have H_b : Whole u2 (w.heap.size) 23 _ := Whole.below K_b.out hb (by first | omega | (simp; done) | (simp; omega) | (simp at *; omega))
  have HB := KB.out.trans (hb.mono (by first | omega | (simp; done) | (simp; omega) | (simp at *; omega)))
  clear c_b_0 c_b_1 f_b_0 f_b_1 l_b
  clear hb KB K_b
  have z_u2 := HB.size
  have c_b_0 := H_b.cell 0; have f_b_0 := H_b.free 0; have c_b_1 := H_b.cell 1; have f_b_1 := H_b.free 1
  simp only [List.set_cons_zero, List.set_cons_succ, List.getElem?_cons_zero, List.getElem?_cons_succ] at c_b_0 c_b_1
  have l_b := H_b.lt; have K_b := Lib.hid H_b; clear H_b
  have KB := Lib.hid HB; clear HB
  go_wp2_with fail
  obtain ⟨W3, hW⟩ : ∃ W : World, W = (u2.alloc (.cells #[.int .i64 R, .int .i64 i] 23)) := ⟨_, rfl⟩
  have H_b : Whole W3 (w.heap.size) 23 [.int .i64 r, .int .i64 p] := by rw [hW]; exact (K_b.out.alloc _)
  have H_x : Whole W3 (u2.heap.size) 23 [.int .i64 R, .int .i64 i] := by rw [hW]; exact (Whole.new _ 23 _)
  have HB : Below w.heap.size w W3 := by rw [hW]; exact (KB.out.alloc (by first | omega | (simp; done) | (simp; omega) | (simp at *; omega)) _)
  rw [← hW]
  clear c_b_0 c_b_1 f_b_0 f_b_1 l_b
  clear hW KB K_b
  have z_W3 := HB.size
  have c_b_0 := H_b.cell 0; have f_b_0 := H_b.free 0; have c_b_1 := H_b.cell 1; have f_b_1 := H_b.free 1
  simp only [List.set_cons_zero, List.set_cons_succ, List.getElem?_cons_zero, List.getElem?_cons_succ] at c_b_0 c_b_1
  have c_x_0 := H_x.cell 0; have f_x_0 := H_x.free 0; have c_x_1 := H_x.cell 1; have f_x_1 := H_x.free 1
  simp only [List.set_cons_zero, List.set_cons_succ, List.getElem?_cons_zero, List.getElem?_cons_succ] at c_x_0 c_x_1
  have l_b := H_b.lt; have K_b := Lib.hid H_b; clear H_b
  have l_x := H_x.lt; have K_x := Lib.hid H_x; clear H_x
  have KB := Lib.hid HB; clear HB
  have KN : Hid (Known W3 [(w.heap.size, 23, [.int .i64 r, .int .i64 p]), (u2.heap.size, 23, [.int .i64 R, .int .i64 i])] ∧ Below w.heap.size w W3) := ⟨(Known.add K_b.out (Known.add K_x.out (Known.nil W3))), KB.out⟩
  have SOF : ∀ u : World, Hid (Known u [(w.heap.size, 23, [.int .i64 r, .int .i64 p]), (u2.heap.size, 23, [.int .i64 R, .int .i64 i])] ∧ Below w.heap.size w u) → (fun u : World => (u.cell? ⟨w.heap.size, 0, none⟩ = some (.int .i64 r) ∧ u.cell? ⟨w.heap.size, 1, none⟩ = some (.int .i64 p) ∧ u.cell? ⟨u2.heap.size, 0, none⟩ = some (.int .i64 R) ∧ u.cell? ⟨u2.heap.size, 1, none⟩ = some (.int .i64 i)) ∧ Hid (Known u [(w.heap.size, 23, [.int .i64 r, .int .i64 p]), (u2.heap.size, 23, [.int .i64 R, .int .i64 i])] ∧ Below w.heap.size w u)) u := fun u h => ⟨⟨(h.out.1.head.cell 0), (h.out.1.head.cell 1), (h.out.1.tail.head.cell 0), (h.out.1.tail.head.cell 1)⟩, h⟩
  have SOF := Lib.hid SOF
  clear KB K_b K_x
  refine wp_region_held_drew (S := (fun u : World => (u.cell? ⟨w.heap.size, 0, none⟩ = some (.int .i64 r) ∧ u.cell? ⟨w.heap.size, 1, none⟩ = some (.int .i64 p) ∧ u.cell? ⟨u2.heap.size, 0, none⟩ = some (.int .i64 R) ∧ u.cell? ⟨u2.heap.size, 1, none⟩ = some (.int .i64 i)) ∧ Hid (Known u [(w.heap.size, 23, [.int .i64 r, .int .i64 p]), (u2.heap.size, 23, [.int .i64 R, .int .i64 i])] ∧ Below w.heap.size w u))) (by kernel_rfl) (SOF.out _ (kdrew KN)) (fun HS => ?_)
  refine handTake 0 (some 35) ?_ rfl rfl (by kernel_rfl) (by kernel_rfl) (by kernel_rfl) (fun _ _ _ h => h) (by rfl) ?_ HS ?_
  rotate_left
  · (intro u hu; (try dsimp only at hu); go_simp; try with_reducible rfl)
  simp only [Act.put, List.setIfInBounds_toArray, List.set_cons_zero, List.set_cons_succ]
  refine handTake 1 (some 36) ?_ rfl rfl (by kernel_rfl) (by kernel_rfl) (by kernel_rfl) (fun _ _ _ h => h) (by rfl) ?_ HS ?_
  rotate_left
  · (intro u hu; (try dsimp only at hu); go_simp; try with_reducible rfl)
  simp only [Act.put, List.setIfInBounds_toArray, List.set_cons_zero, List.set_cons_succ]
  refine wpAnyH_ready (rs := [2]) (by kernel_rfl) (by simp) ?_
  refine AllReadyH.cons rfl (fun K hK => ?_) AllReadyH.nil
  go_simp
  refine (MM.out ⟨_, _⟩ _ _).mono ?_
  rintro e5 u5 ⟨rfl, hb⟩
  have HS' := Lib.hid (SOF.out _ (kcall (Nat.le_refl _) HS.2 hb))
  clear hb HS
  go_wp2_with fail
  refine hK.out _ _ HS'.out (fun HS => ?_)
  clear hK HS'
  try simp only [Act.put, List.setIfInBounds_toArray, List.set_cons_zero, List.set_cons_succ]
  refine handTake 3 (some 38) ?_ rfl rfl (by kernel_rfl) (by kernel_rfl) (by kernel_rfl) (fun _ _ _ h => h) (by rfl) ?_ HS ?_
  rotate_left
  · (intro u hu; (try dsimp only at hu); go_simp; try with_reducible rfl)
  simp only [Act.put, List.setIfInBounds_toArray, List.set_cons_zero, List.set_cons_succ]
  refine handTake 4 (some 39) ?_ rfl rfl (by kernel_rfl) (by kernel_rfl) (by kernel_rfl) (fun _ _ _ h => h) (by rfl) ?_ HS ?_
  rotate_left
  · (intro u hu; (try dsimp only at hu); go_simp; try with_reducible rfl)
  simp only [Act.put, List.setIfInBounds_toArray, List.set_cons_zero, List.set_cons_succ]
  refine handTake 5 (some 40) ?_ rfl rfl (by kernel_rfl) (by kernel_rfl) (by kernel_rfl) (fun _ _ _ h => h) (by rfl) ?_ HS ?_
  rotate_left
  · (intro u hu; (try dsimp only at hu); go_simp; try with_reducible rfl)
  simp only [Act.put, List.setIfInBounds_toArray, List.set_cons_zero, List.set_cons_succ]
  refine handTake 6 (some 41) ?_ rfl rfl (by kernel_rfl) (by kernel_rfl) (by kernel_rfl) (fun _ _ _ h => h) (by rfl) ?_ HS ?_
  rotate_left
  · (intro u hu; (try dsimp only at hu); go_simp; try with_reducible rfl)
  simp only [Act.put, List.setIfInBounds_toArray, List.set_cons_zero, List.set_cons_succ]
  refine handTake 7 (some 42) ?_ rfl rfl (by kernel_rfl) (by kernel_rfl) (by kernel_rfl) (fun _ _ _ h => h) (by rfl) ?_ HS ?_
  rotate_left
  · (intro u hu; (try dsimp only at hu); go_simp; try with_reducible rfl)
  simp only [Act.put, List.setIfInBounds_toArray, List.set_cons_zero, List.set_cons_succ]
  refine handTake 8 (some 43) ?_ rfl rfl (by kernel_rfl) (by kernel_rfl) (by kernel_rfl) (fun _ _ _ h => h) (by rfl) ?_ HS ?_
  rotate_left
  · (intro u hu; (try dsimp only at hu); go_simp; try with_reducible rfl)
  simp only [Act.put, List.setIfInBounds_toArray, List.set_cons_zero, List.set_cons_succ]
  refine handTake 9 (some 44) ?_ rfl rfl (by kernel_rfl) (by kernel_rfl) (by kernel_rfl) (fun _ _ _ h => h) (by rfl) ?_ HS ?_
  rotate_left
  · (intro u hu; (try dsimp only at hu); go_simp; try with_reducible rfl)
  simp only [Act.put, List.setIfInBounds_toArray, List.set_cons_zero, List.set_cons_succ]
  refine handTake 10 (some 45) ?_ rfl rfl (by kernel_rfl) (by kernel_rfl) (by kernel_rfl) (fun _ _ _ h => h) (by rfl) ?_ HS ?_
  rotate_left
  · (intro u hu; (try dsimp only at hu); go_simp; try with_reducible rfl)
  simp only [Act.put, List.setIfInBounds_toArray, List.set_cons_zero, List.set_cons_succ]
  refine handTake 11 (some 46) ?_ rfl rfl (by kernel_rfl) (by kernel_rfl) (by kernel_rfl) (fun _ _ _ h => h) (by rfl) ?_ HS ?_
  rotate_left
  · (intro u hu; (try dsimp only at hu); go_simp; try with_reducible rfl)
  simp only [Act.put, List.setIfInBounds_toArray, List.set_cons_zero, List.set_cons_succ]
  refine handTake 12 (some 47) ?_ rfl rfl (by kernel_rfl) (by kernel_rfl) (by kernel_rfl) (fun _ _ _ h => h) (by rfl) ?_ HS ?_
  rotate_left
  · (intro u hu; (try dsimp only at hu); go_simp; try with_reducible rfl)
  simp only [Act.put, List.setIfInBounds_toArray, List.set_cons_zero, List.set_cons_succ]
  refine handTake 13 (some 48) ?_ rfl rfl (by kernel_rfl) (by kernel_rfl) (by kernel_rfl) (fun _ _ _ h => h) (by rfl) ?_ HS ?_
  rotate_left
  · (intro u hu; (try dsimp only at hu); go_simp; try with_reducible rfl)
  simp only [Act.put, List.setIfInBounds_toArray, List.set_cons_zero, List.set_cons_succ]
  refine handTake 14 (some 49) ?_ rfl rfl (by kernel_rfl) (by kernel_rfl) (by kernel_rfl) (fun _ _ _ h => h) (by rfl) ?_ HS ?_
  rotate_left
  · (intro u hu; (try dsimp only at hu); go_simp; try with_reducible rfl)
  simp only [Act.put, List.setIfInBounds_toArray, List.set_cons_zero, List.set_cons_succ]
  refine handTake 15 (some 50) ?_ rfl rfl (by kernel_rfl) (by kernel_rfl) (by kernel_rfl) (fun _ _ _ h => h) (by rfl) ?_ HS ?_
  rotate_left
  · (intro u hu; (try dsimp only at hu); go_simp; try with_reducible rfl)
  simp only [Act.put, List.setIfInBounds_toArray, List.set_cons_zero, List.set_cons_succ]
  refine handTake 16 (some 51) ?_ rfl rfl (by kernel_rfl) (by kernel_rfl) (by kernel_rfl) (fun _ _ _ h => h) (by rfl) ?_ HS ?_
  rotate_left
  · (intro u hu; (try dsimp only at hu); go_simp; try with_reducible rfl)
  simp only [Act.put, List.setIfInBounds_toArray, List.set_cons_zero, List.set_cons_succ]
  refine handTake 17 (some 52) ?_ rfl rfl (by kernel_rfl) (by kernel_rfl) (by kernel_rfl) (fun _ _ _ h => h) (by rfl) ?_ HS ?_
  rotate_left
  · (intro u hu; (try dsimp only at hu); go_simp; try with_reducible rfl)
  simp only [Act.put, List.setIfInBounds_toArray, List.set_cons_zero, List.set_cons_succ]
  refine wpAnyH_ready (rs := [18]) (by kernel_rfl) (by simp) ?_
  refine AllReadyH.cons rfl (fun K hK => ?_) AllReadyH.nil
  go_simp
  refine (LL.out ⟨_, _⟩ ⟨_, _⟩ _).mono ?_
  rintro e6 u6 ⟨rfl, hb⟩
  have HS' := Lib.hid (SOF.out _ (kcall (Nat.le_refl _) HS.2 hb))
  clear hb HS
  go_wp2_with fail
  refine hK.out _ _ HS'.out (fun HS => ?_)
  clear hK HS'
  try simp only [Act.put, List.setIfInBounds_toArray, List.set_cons_zero, List.set_cons_succ]
  refine handTake 19 (some 54) ?_ rfl rfl (by kernel_rfl) (by kernel_rfl) (by kernel_rfl) (fun _ _ _ h => h) (by rfl) ?_ HS ?_
  rotate_left
  · (intro u hu; (try dsimp only at hu); go_simp; try with_reducible rfl)
  simp only [Act.put, List.setIfInBounds_toArray, List.set_cons_zero, List.set_cons_succ]
  refine handTake 20 (some 55) ?_ rfl rfl (by kernel_rfl) (by kernel_rfl) (by kernel_rfl) (fun _ _ _ h => h) (by rfl) ?_ HS ?_
  rotate_left
  · (intro u hu; (try dsimp only at hu); go_simp; try with_reducible rfl)
  simp only [Act.put, List.setIfInBounds_toArray, List.set_cons_zero, List.set_cons_succ]
  refine handTake 21 (some 56) ?_ rfl rfl (by kernel_rfl) (by kernel_rfl) (by kernel_rfl) (fun _ _ _ h => h) (by rfl) ?_ HS ?_
  rotate_left
  · (intro u hu; (try dsimp only at hu); go_simp; try with_reducible rfl)
  simp only [Act.put, List.setIfInBounds_toArray, List.set_cons_zero, List.set_cons_succ]
  refine handTake 22 (some 57) ?_ rfl rfl (by kernel_rfl) (by kernel_rfl) (by kernel_rfl) (fun _ _ _ h => h) (by rfl) ?_ HS ?_
  rotate_left
  · (intro u hu; (try dsimp only at hu); go_simp; try with_reducible rfl)
  simp only [Act.put, List.setIfInBounds_toArray, List.set_cons_zero, List.set_cons_succ]
  refine handTake 23 (some 58) ?_ rfl rfl (by kernel_rfl) (by kernel_rfl) (by kernel_rfl) (fun _ _ _ h => h) (by rfl) ?_ HS ?_
  rotate_left
  · (intro u hu; (try dsimp only at hu); go_simp; try with_reducible rfl)
  simp only [Act.put, List.setIfInBounds_toArray, List.set_cons_zero, List.set_cons_succ]
  refine handTake 24 (some 59) ?_ rfl rfl (by kernel_rfl) (by kernel_rfl) (by kernel_rfl) (fun _ _ _ h => h) (by rfl) ?_ HS ?_
  rotate_left
  · (intro u hu; (try dsimp only at hu); go_simp; try with_reducible rfl)
  simp only [Act.put, List.setIfInBounds_toArray, List.set_cons_zero, List.set_cons_succ]
  refine handTake 25 (some 60) ?_ rfl rfl (by kernel_rfl) (by kernel_rfl) (by kernel_rfl) (fun _ _ _ h => h) (by rfl) ?_ HS ?_
  rotate_left
  · (intro u hu; (try dsimp only at hu); go_simp; try with_reducible rfl)
  simp only [Act.put, List.setIfInBounds_toArray, List.set_cons_zero, List.set_cons_succ]
  refine handTake 26 (some 61) ?_ rfl rfl (by kernel_rfl) (by kernel_rfl) (by kernel_rfl) (fun _ _ _ h => h) (by rfl) ?_ HS ?_
  rotate_left
  · (intro u hu; (try dsimp only at hu); go_simp; try with_reducible rfl)
  simp only [Act.put, List.setIfInBounds_toArray, List.set_cons_zero, List.set_cons_succ]
  refine handTake 27 (some 62) ?_ rfl rfl (by kernel_rfl) (by kernel_rfl) (by kernel_rfl) (fun _ _ _ h => h) (by rfl) ?_ HS ?_
  rotate_left
  · (intro u hu; (try dsimp only at hu); go_simp; try with_reducible rfl)
  simp only [Act.put, List.setIfInBounds_toArray, List.set_cons_zero, List.set_cons_succ]
  refine handTake 28 (some 63) ?_ rfl rfl (by kernel_rfl) (by kernel_rfl) (by kernel_rfl) (fun _ _ _ h => h) (by rfl) ?_ HS ?_
  rotate_left
  · (intro u hu; (try dsimp only at hu); go_simp; try with_reducible rfl)
  simp only [Act.put, List.setIfInBounds_toArray, List.set_cons_zero, List.set_cons_succ]
  refine handTake 29 (some 64) ?_ rfl rfl (by kernel_rfl) (by kernel_rfl) (by kernel_rfl) (fun _ _ _ h => h) (by rfl) ?_ HS ?_
  rotate_left
  · (intro u hu; (try dsimp only at hu); go_simp; try with_reducible rfl)
  simp only [Act.put, List.setIfInBounds_toArray, List.set_cons_zero, List.set_cons_succ]
  refine handTake 30 (some 65) ?_ rfl rfl (by kernel_rfl) (by kernel_rfl) (by kernel_rfl) (fun _ _ _ h => h) (by rfl) ?_ HS ?_
  rotate_left
  · (intro u hu; (try dsimp only at hu); go_simp; try with_reducible rfl)
  simp only [Act.put, List.setIfInBounds_toArray, List.set_cons_zero, List.set_cons_succ]
  refine wpAnyH_ready (rs := [31]) (by kernel_rfl) (by simp) ?_
  refine AllReadyH.cons rfl (fun K hK => ?_) AllReadyH.nil
  go_simp
  refine (OO.out _ _ _).mono ?_
  rintro e7 u7 ⟨rfl, hb⟩
  have HS' := Lib.hid (SOF.out _ (kcall (Nat.le_refl _) HS.2 hb))
  clear hb HS
  go_wp2_with fail
  refine hK.out _ _ HS'.out (fun HS => ?_)
  clear hK HS'
  try simp only [Act.put, List.setIfInBounds_toArray, List.set_cons_zero, List.set_cons_succ]
  refine wpAnyH_ready (rs := [32]) (by kernel_rfl) (by simp) ?_
  refine AllReadyH.cons rfl (fun K hK => ?_) AllReadyH.nil
  go_simp
  refine (LL.out ⟨_, _⟩ ⟨_, _⟩ _).mono ?_
  rintro e8 u8 ⟨rfl, hb⟩
  have HS' := Lib.hid (SOF.out _ (kcall (Nat.le_refl _) HS.2 hb))
  clear hb HS
  go_wp2_with fail
  refine hK.out _ _ HS'.out (fun HS => ?_)
  clear hK HS'
  try simp only [Act.put, List.setIfInBounds_toArray, List.set_cons_zero, List.set_cons_succ]
  refine handTake 33 (some 68) ?_ rfl rfl (by kernel_rfl) (by kernel_rfl) (by kernel_rfl) (fun _ _ _ h => h) (by rfl) ?_ HS ?_
  rotate_left
  · (intro u hu; (try dsimp only at hu); go_simp; try with_reducible rfl)
  simp only [Act.put, List.setIfInBounds_toArray, List.set_cons_zero, List.set_cons_succ]
  refine handTake 34 (some 69) ?_ rfl rfl (by kernel_rfl) (by kernel_rfl) (by kernel_rfl) (fun _ _ _ h => h) (by rfl) ?_ HS ?_
  rotate_left
  · (intro u hu; (try dsimp only at hu); go_simp; try with_reducible rfl)
  simp only [Act.put, List.setIfInBounds_toArray, List.set_cons_zero, List.set_cons_succ]
  refine wpAnyH_done (by kernel_rfl) ?_ _
  have KN1 := And.right (show (fun u : World => (u.cell? ⟨w.heap.size, 0, none⟩ = some (.int .i64 r) ∧ u.cell? ⟨w.heap.size, 1, none⟩ = some (.int .i64 p) ∧ u.cell? ⟨u2.heap.size, 0, none⟩ = some (.int .i64 R) ∧ u.cell? ⟨u2.heap.size, 1, none⟩ = some (.int .i64 i)) ∧ Hid (Known u [(w.heap.size, 23, [.int .i64 r, .int .i64 p]), (u2.heap.size, 23, [.int .i64 R, .int .i64 i])] ∧ Below w.heap.size w u)) u8 from HS)
  have H_b : Whole u8 (w.heap.size) 23 _ := KN1.out.1.head
  have H_x : Whole u8 (u2.heap.size) 23 _ := KN1.out.1.tail.head
  have HB := KN1.out.2
  clear c_b_0 c_b_1 f_b_0 f_b_1 c_x_0 c_x_1 f_x_0 f_x_1 l_b l_x
  clear KN KN1 SOF
  have z_8 := HB.size
  have c_b_0 := H_b.cell 0; have f_b_0 := H_b.free 0; have c_b_1 := H_b.cell 1; have f_b_1 := H_b.free 1
  simp only [List.set_cons_zero, List.set_cons_succ, List.getElem?_cons_zero, List.getElem?_cons_succ] at c_b_0 c_b_1
  have c_x_0 := H_x.cell 0; have f_x_0 := H_x.free 0; have c_x_1 := H_x.cell 1; have f_x_1 := H_x.free 1
  simp only [List.set_cons_zero, List.set_cons_succ, List.getElem?_cons_zero, List.getElem?_cons_succ] at c_x_0 c_x_1
  have l_b := H_b.lt; have K_b := Lib.hid H_b; clear H_b
  have l_x := H_x.lt; have K_x := Lib.hid H_x; clear H_x
  have KB := Lib.hid HB; clear HB
  go_wp2_with fail
  refine (N2.out _).mono ?_
  rintro e9 u9 ⟨rfl, hb⟩
  have H_b : Whole u9 (w.heap.size) 23 _ := Whole.below K_b.out hb (by first | omega | (simp; done) | (simp; omega) | (simp at *; omega))
  have H_x : Whole u9 (u2.heap.size) 23 _ := Whole.below K_x.out hb (by first | omega | (simp; done) | (simp; omega) | (simp at *; omega))
  have HB := KB.out.trans (hb.mono (by first | omega | (simp; done) | (simp; omega) | (simp at *; omega)))
  clear c_b_0 c_b_1 f_b_0 f_b_1 c_x_0 c_x_1 f_x_0 f_x_1 l_b l_x
  clear hb KB K_b K_x
  have z_u9 := HB.size
  have c_b_0 := H_b.cell 0; have f_b_0 := H_b.free 0; have c_b_1 := H_b.cell 1; have f_b_1 := H_b.free 1
  simp only [List.set_cons_zero, List.set_cons_succ, List.getElem?_cons_zero, List.getElem?_cons_succ] at c_b_0 c_b_1
  have c_x_0 := H_x.cell 0; have f_x_0 := H_x.free 0; have c_x_1 := H_x.cell 1; have f_x_1 := H_x.free 1
  simp only [List.set_cons_zero, List.set_cons_succ, List.getElem?_cons_zero, List.getElem?_cons_succ] at c_x_0 c_x_1
  have l_b := H_b.lt; have K_b := Lib.hid H_b; clear H_b
  have l_x := H_x.lt; have K_x := Lib.hid H_x; clear H_x
  have KB := Lib.hid HB; clear HB
  go_wp2_with fail
  go_ret
  exact ⟨by first | rfl | simp, (KB.out.alloc (by first | omega | (simp; done) | (simp; omega) | (simp at *; omega)) _)⟩

set_option maxHeartbeats 4000000 in
theorem behind_big_diff (r p i R k S n : Int) (h : nextZ ⟨r, p⟩ i n = (⟨R, i⟩, 0)) (hm : mayB ⟨R, i⟩ n = true) (hl : lessB ⟨r, p⟩ ⟨R, i⟩ = true) (hR : R ≤ 1099511627776) (h1 : 1 < R) (d1 : decide (1 < R) = true) (d2 : decide (R < 1) = false) (hq : lessB ⟨r, p⟩ ⟨R - 1, i⟩ = false) (h2 : nextZ ⟨r, p⟩ k n = (⟨S, k⟩, 0)) (hf : (i == k) = false) (hg : ¬ i = k) (w : World) :
    Calls Try.prog 7 #[.agg #[.int .i64 r, .int .i64 p], .int .i64 i, .int .i64 k, .int .i64 n] w fun e w' => e = .returned (.bool true) ∧ Below w.heap.size w w' := by
  have LL := Lib.hid less_any
  have MM := Lib.hid may_any
  have OO := Lib.hid of_any
  have AW := Lib.hid awake_any
  have N1 := Lib.hid (next_is ⟨r, p⟩ i n R i 0 h)
  have N2 := Lib.hid (next_is ⟨r, p⟩ k n S k 0 h2)
  have hwr : IntKind.i64.wrap (R - 1) = R - 1 := IntWalk.i64_in _ (by omega)
  clear h h2
  have KB := Lib.hid (Below.refl w.heap.size w)
  go_enter Try.func7, Try.ntmps7
  go_wp2_with fail
  refine (AW.out _).mono ?_
  rintro e1 u1 ⟨rfl, hb⟩
  have H_b : Whole u1 (w.heap.size) 23 _ := Whole.below (Whole.new _ 23 _) hb (by first | omega | (simp; done) | (simp; omega) | (simp at *; omega))
  have HB := (KB.out.alloc (by first | omega | (simp; done) | (simp; omega) | (simp at *; omega)) _).trans (hb.mono (by first | omega | (simp; done) | (simp; omega) | (simp at *; omega)))
  clear hb KB
  have z_u1 := HB.size
  have c_b_0 := H_b.cell 0; have f_b_0 := H_b.free 0; have c_b_1 := H_b.cell 1; have f_b_1 := H_b.free 1
  simp only [List.set_cons_zero, List.set_cons_succ, List.getElem?_cons_zero, List.getElem?_cons_succ] at c_b_0 c_b_1
  have l_b := H_b.lt; have K_b := Lib.hid H_b; clear H_b
  have KB := Lib.hid HB; clear HB
  go_wp2_with fail
  refine (N1.out _).mono ?_
  rintro e2 u2 ⟨rfl, hb⟩
  have H_b : Whole u2 (w.heap.size) 23 _ := Whole.below K_b.out hb (by first | omega | (simp; done) | (simp; omega) | (simp at *; omega))
  have HB := KB.out.trans (hb.mono (by first | omega | (simp; done) | (simp; omega) | (simp at *; omega)))
  clear c_b_0 c_b_1 f_b_0 f_b_1 l_b
  clear hb KB K_b
  have z_u2 := HB.size
  have c_b_0 := H_b.cell 0; have f_b_0 := H_b.free 0; have c_b_1 := H_b.cell 1; have f_b_1 := H_b.free 1
  simp only [List.set_cons_zero, List.set_cons_succ, List.getElem?_cons_zero, List.getElem?_cons_succ] at c_b_0 c_b_1
  have l_b := H_b.lt; have K_b := Lib.hid H_b; clear H_b
  have KB := Lib.hid HB; clear HB
  go_wp2_with fail
  obtain ⟨W3, hW⟩ : ∃ W : World, W = (u2.alloc (.cells #[.int .i64 R, .int .i64 i] 23)) := ⟨_, rfl⟩
  have H_b : Whole W3 (w.heap.size) 23 [.int .i64 r, .int .i64 p] := by rw [hW]; exact (K_b.out.alloc _)
  have H_x : Whole W3 (u2.heap.size) 23 [.int .i64 R, .int .i64 i] := by rw [hW]; exact (Whole.new _ 23 _)
  have HB : Below w.heap.size w W3 := by rw [hW]; exact (KB.out.alloc (by first | omega | (simp; done) | (simp; omega) | (simp at *; omega)) _)
  rw [← hW]
  clear c_b_0 c_b_1 f_b_0 f_b_1 l_b
  clear hW KB K_b
  have z_W3 := HB.size
  have c_b_0 := H_b.cell 0; have f_b_0 := H_b.free 0; have c_b_1 := H_b.cell 1; have f_b_1 := H_b.free 1
  simp only [List.set_cons_zero, List.set_cons_succ, List.getElem?_cons_zero, List.getElem?_cons_succ] at c_b_0 c_b_1
  have c_x_0 := H_x.cell 0; have f_x_0 := H_x.free 0; have c_x_1 := H_x.cell 1; have f_x_1 := H_x.free 1
  simp only [List.set_cons_zero, List.set_cons_succ, List.getElem?_cons_zero, List.getElem?_cons_succ] at c_x_0 c_x_1
  have l_b := H_b.lt; have K_b := Lib.hid H_b; clear H_b
  have l_x := H_x.lt; have K_x := Lib.hid H_x; clear H_x
  have KB := Lib.hid HB; clear HB
  have KN : Hid (Known W3 [(w.heap.size, 23, [.int .i64 r, .int .i64 p]), (u2.heap.size, 23, [.int .i64 R, .int .i64 i])] ∧ Below w.heap.size w W3) := ⟨(Known.add K_b.out (Known.add K_x.out (Known.nil W3))), KB.out⟩
  have SOF : ∀ u : World, Hid (Known u [(w.heap.size, 23, [.int .i64 r, .int .i64 p]), (u2.heap.size, 23, [.int .i64 R, .int .i64 i])] ∧ Below w.heap.size w u) → (fun u : World => (u.cell? ⟨w.heap.size, 0, none⟩ = some (.int .i64 r) ∧ u.cell? ⟨w.heap.size, 1, none⟩ = some (.int .i64 p) ∧ u.cell? ⟨u2.heap.size, 0, none⟩ = some (.int .i64 R) ∧ u.cell? ⟨u2.heap.size, 1, none⟩ = some (.int .i64 i)) ∧ Hid (Known u [(w.heap.size, 23, [.int .i64 r, .int .i64 p]), (u2.heap.size, 23, [.int .i64 R, .int .i64 i])] ∧ Below w.heap.size w u)) u := fun u h => ⟨⟨(h.out.1.head.cell 0), (h.out.1.head.cell 1), (h.out.1.tail.head.cell 0), (h.out.1.tail.head.cell 1)⟩, h⟩
  have SOF := Lib.hid SOF
  clear KB K_b K_x
  refine wp_region_held_drew (S := (fun u : World => (u.cell? ⟨w.heap.size, 0, none⟩ = some (.int .i64 r) ∧ u.cell? ⟨w.heap.size, 1, none⟩ = some (.int .i64 p) ∧ u.cell? ⟨u2.heap.size, 0, none⟩ = some (.int .i64 R) ∧ u.cell? ⟨u2.heap.size, 1, none⟩ = some (.int .i64 i)) ∧ Hid (Known u [(w.heap.size, 23, [.int .i64 r, .int .i64 p]), (u2.heap.size, 23, [.int .i64 R, .int .i64 i])] ∧ Below w.heap.size w u))) (by kernel_rfl) (SOF.out _ (kdrew KN)) (fun HS => ?_)
  refine handTake 0 (some 35) ?_ rfl rfl (by kernel_rfl) (by kernel_rfl) (by kernel_rfl) (fun _ _ _ h => h) (by rfl) ?_ HS ?_
  rotate_left
  · (intro u hu; (try dsimp only at hu); go_simp; try with_reducible rfl)
  simp only [Act.put, List.setIfInBounds_toArray, List.set_cons_zero, List.set_cons_succ]
  refine handTake 1 (some 36) ?_ rfl rfl (by kernel_rfl) (by kernel_rfl) (by kernel_rfl) (fun _ _ _ h => h) (by rfl) ?_ HS ?_
  rotate_left
  · (intro u hu; (try dsimp only at hu); go_simp; try with_reducible rfl)
  simp only [Act.put, List.setIfInBounds_toArray, List.set_cons_zero, List.set_cons_succ]
  refine wpAnyH_ready (rs := [2]) (by kernel_rfl) (by simp) ?_
  refine AllReadyH.cons rfl (fun K hK => ?_) AllReadyH.nil
  go_simp
  refine (MM.out ⟨_, _⟩ _ _).mono ?_
  rintro e5 u5 ⟨rfl, hb⟩
  have HS' := Lib.hid (SOF.out _ (kcall (Nat.le_refl _) HS.2 hb))
  clear hb HS
  go_wp2_with fail
  refine hK.out _ _ HS'.out (fun HS => ?_)
  clear hK HS'
  try simp only [Act.put, List.setIfInBounds_toArray, List.set_cons_zero, List.set_cons_succ]
  refine handTake 3 (some 38) ?_ rfl rfl (by kernel_rfl) (by kernel_rfl) (by kernel_rfl) (fun _ _ _ h => h) (by rfl) ?_ HS ?_
  rotate_left
  · (intro u hu; (try dsimp only at hu); go_simp; try with_reducible rfl)
  simp only [Act.put, List.setIfInBounds_toArray, List.set_cons_zero, List.set_cons_succ]
  refine handTake 4 (some 39) ?_ rfl rfl (by kernel_rfl) (by kernel_rfl) (by kernel_rfl) (fun _ _ _ h => h) (by rfl) ?_ HS ?_
  rotate_left
  · (intro u hu; (try dsimp only at hu); go_simp; try with_reducible rfl)
  simp only [Act.put, List.setIfInBounds_toArray, List.set_cons_zero, List.set_cons_succ]
  refine handTake 5 (some 40) ?_ rfl rfl (by kernel_rfl) (by kernel_rfl) (by kernel_rfl) (fun _ _ _ h => h) (by rfl) ?_ HS ?_
  rotate_left
  · (intro u hu; (try dsimp only at hu); go_simp; try with_reducible rfl)
  simp only [Act.put, List.setIfInBounds_toArray, List.set_cons_zero, List.set_cons_succ]
  refine handTake 6 (some 41) ?_ rfl rfl (by kernel_rfl) (by kernel_rfl) (by kernel_rfl) (fun _ _ _ h => h) (by rfl) ?_ HS ?_
  rotate_left
  · (intro u hu; (try dsimp only at hu); go_simp; try with_reducible rfl)
  simp only [Act.put, List.setIfInBounds_toArray, List.set_cons_zero, List.set_cons_succ]
  refine handTake 7 (some 42) ?_ rfl rfl (by kernel_rfl) (by kernel_rfl) (by kernel_rfl) (fun _ _ _ h => h) (by rfl) ?_ HS ?_
  rotate_left
  · (intro u hu; (try dsimp only at hu); go_simp; try with_reducible rfl)
  simp only [Act.put, List.setIfInBounds_toArray, List.set_cons_zero, List.set_cons_succ]
  refine handTake 8 (some 43) ?_ rfl rfl (by kernel_rfl) (by kernel_rfl) (by kernel_rfl) (fun _ _ _ h => h) (by rfl) ?_ HS ?_
  rotate_left
  · (intro u hu; (try dsimp only at hu); go_simp; try with_reducible rfl)
  simp only [Act.put, List.setIfInBounds_toArray, List.set_cons_zero, List.set_cons_succ]
  refine handTake 9 (some 44) ?_ rfl rfl (by kernel_rfl) (by kernel_rfl) (by kernel_rfl) (fun _ _ _ h => h) (by rfl) ?_ HS ?_
  rotate_left
  · (intro u hu; (try dsimp only at hu); go_simp; try with_reducible rfl)
  simp only [Act.put, List.setIfInBounds_toArray, List.set_cons_zero, List.set_cons_succ]
  refine handTake 10 (some 45) ?_ rfl rfl (by kernel_rfl) (by kernel_rfl) (by kernel_rfl) (fun _ _ _ h => h) (by rfl) ?_ HS ?_
  rotate_left
  · (intro u hu; (try dsimp only at hu); go_simp; try with_reducible rfl)
  simp only [Act.put, List.setIfInBounds_toArray, List.set_cons_zero, List.set_cons_succ]
  refine handTake 11 (some 46) ?_ rfl rfl (by kernel_rfl) (by kernel_rfl) (by kernel_rfl) (fun _ _ _ h => h) (by rfl) ?_ HS ?_
  rotate_left
  · (intro u hu; (try dsimp only at hu); go_simp; try with_reducible rfl)
  simp only [Act.put, List.setIfInBounds_toArray, List.set_cons_zero, List.set_cons_succ]
  refine handTake 12 (some 47) ?_ rfl rfl (by kernel_rfl) (by kernel_rfl) (by kernel_rfl) (fun _ _ _ h => h) (by rfl) ?_ HS ?_
  rotate_left
  · (intro u hu; (try dsimp only at hu); go_simp; try with_reducible rfl)
  simp only [Act.put, List.setIfInBounds_toArray, List.set_cons_zero, List.set_cons_succ]
  refine handTake 13 (some 48) ?_ rfl rfl (by kernel_rfl) (by kernel_rfl) (by kernel_rfl) (fun _ _ _ h => h) (by rfl) ?_ HS ?_
  rotate_left
  · (intro u hu; (try dsimp only at hu); go_simp; try with_reducible rfl)
  simp only [Act.put, List.setIfInBounds_toArray, List.set_cons_zero, List.set_cons_succ]
  refine handTake 14 (some 49) ?_ rfl rfl (by kernel_rfl) (by kernel_rfl) (by kernel_rfl) (fun _ _ _ h => h) (by rfl) ?_ HS ?_
  rotate_left
  · (intro u hu; (try dsimp only at hu); go_simp; try with_reducible rfl)
  simp only [Act.put, List.setIfInBounds_toArray, List.set_cons_zero, List.set_cons_succ]
  refine handTake 15 (some 50) ?_ rfl rfl (by kernel_rfl) (by kernel_rfl) (by kernel_rfl) (fun _ _ _ h => h) (by rfl) ?_ HS ?_
  rotate_left
  · (intro u hu; (try dsimp only at hu); go_simp; try with_reducible rfl)
  simp only [Act.put, List.setIfInBounds_toArray, List.set_cons_zero, List.set_cons_succ]
  refine handTake 16 (some 51) ?_ rfl rfl (by kernel_rfl) (by kernel_rfl) (by kernel_rfl) (fun _ _ _ h => h) (by rfl) ?_ HS ?_
  rotate_left
  · (intro u hu; (try dsimp only at hu); go_simp; try with_reducible rfl)
  simp only [Act.put, List.setIfInBounds_toArray, List.set_cons_zero, List.set_cons_succ]
  refine handTake 17 (some 52) ?_ rfl rfl (by kernel_rfl) (by kernel_rfl) (by kernel_rfl) (fun _ _ _ h => h) (by rfl) ?_ HS ?_
  rotate_left
  · (intro u hu; (try dsimp only at hu); go_simp; try with_reducible rfl)
  simp only [Act.put, List.setIfInBounds_toArray, List.set_cons_zero, List.set_cons_succ]
  refine wpAnyH_ready (rs := [18]) (by kernel_rfl) (by simp) ?_
  refine AllReadyH.cons rfl (fun K hK => ?_) AllReadyH.nil
  go_simp
  refine (LL.out ⟨_, _⟩ ⟨_, _⟩ _).mono ?_
  rintro e6 u6 ⟨rfl, hb⟩
  have HS' := Lib.hid (SOF.out _ (kcall (Nat.le_refl _) HS.2 hb))
  clear hb HS
  go_wp2_with fail
  refine hK.out _ _ HS'.out (fun HS => ?_)
  clear hK HS'
  try simp only [Act.put, List.setIfInBounds_toArray, List.set_cons_zero, List.set_cons_succ]
  refine handTake 19 (some 54) ?_ rfl rfl (by kernel_rfl) (by kernel_rfl) (by kernel_rfl) (fun _ _ _ h => h) (by rfl) ?_ HS ?_
  rotate_left
  · (intro u hu; (try dsimp only at hu); go_simp; try with_reducible rfl)
  simp only [Act.put, List.setIfInBounds_toArray, List.set_cons_zero, List.set_cons_succ]
  refine handTake 20 (some 55) ?_ rfl rfl (by kernel_rfl) (by kernel_rfl) (by kernel_rfl) (fun _ _ _ h => h) (by rfl) ?_ HS ?_
  rotate_left
  · (intro u hu; (try dsimp only at hu); go_simp; try with_reducible rfl)
  simp only [Act.put, List.setIfInBounds_toArray, List.set_cons_zero, List.set_cons_succ]
  refine handTake 21 (some 56) ?_ rfl rfl (by kernel_rfl) (by kernel_rfl) (by kernel_rfl) (fun _ _ _ h => h) (by rfl) ?_ HS ?_
  rotate_left
  · (intro u hu; (try dsimp only at hu); go_simp; try with_reducible rfl)
  simp only [Act.put, List.setIfInBounds_toArray, List.set_cons_zero, List.set_cons_succ]
  refine handTake 22 (some 57) ?_ rfl rfl (by kernel_rfl) (by kernel_rfl) (by kernel_rfl) (fun _ _ _ h => h) (by rfl) ?_ HS ?_
  rotate_left
  · (intro u hu; (try dsimp only at hu); go_simp; try with_reducible rfl)
  simp only [Act.put, List.setIfInBounds_toArray, List.set_cons_zero, List.set_cons_succ]
  refine handTake 23 (some 58) ?_ rfl rfl (by kernel_rfl) (by kernel_rfl) (by kernel_rfl) (fun _ _ _ h => h) (by rfl) ?_ HS ?_
  rotate_left
  · (intro u hu; (try dsimp only at hu); go_simp; try with_reducible rfl)
  simp only [Act.put, List.setIfInBounds_toArray, List.set_cons_zero, List.set_cons_succ]
  refine handTake 24 (some 59) ?_ rfl rfl (by kernel_rfl) (by kernel_rfl) (by kernel_rfl) (fun _ _ _ h => h) (by rfl) ?_ HS ?_
  rotate_left
  · (intro u hu; (try dsimp only at hu); go_simp; try with_reducible rfl)
  simp only [Act.put, List.setIfInBounds_toArray, List.set_cons_zero, List.set_cons_succ]
  refine handTake 25 (some 60) ?_ rfl rfl (by kernel_rfl) (by kernel_rfl) (by kernel_rfl) (fun _ _ _ h => h) (by rfl) ?_ HS ?_
  rotate_left
  · (intro u hu; (try dsimp only at hu); go_simp; try with_reducible rfl)
  simp only [Act.put, List.setIfInBounds_toArray, List.set_cons_zero, List.set_cons_succ]
  refine handTake 26 (some 61) ?_ rfl rfl (by kernel_rfl) (by kernel_rfl) (by kernel_rfl) (fun _ _ _ h => h) (by rfl) ?_ HS ?_
  rotate_left
  · (intro u hu; (try dsimp only at hu); go_simp; try with_reducible rfl)
  simp only [Act.put, List.setIfInBounds_toArray, List.set_cons_zero, List.set_cons_succ]
  refine handTake 27 (some 62) ?_ rfl rfl (by kernel_rfl) (by kernel_rfl) (by kernel_rfl) (fun _ _ _ h => h) (by rfl) ?_ HS ?_
  rotate_left
  · (intro u hu; (try dsimp only at hu); go_simp; try with_reducible rfl)
  simp only [Act.put, List.setIfInBounds_toArray, List.set_cons_zero, List.set_cons_succ]
  refine handTake 28 (some 63) ?_ rfl rfl (by kernel_rfl) (by kernel_rfl) (by kernel_rfl) (fun _ _ _ h => h) (by rfl) ?_ HS ?_
  rotate_left
  · (intro u hu; (try dsimp only at hu); go_simp; try with_reducible rfl)
  simp only [Act.put, List.setIfInBounds_toArray, List.set_cons_zero, List.set_cons_succ]
  refine handTake 29 (some 64) ?_ rfl rfl (by kernel_rfl) (by kernel_rfl) (by kernel_rfl) (fun _ _ _ h => h) (by rfl) ?_ HS ?_
  rotate_left
  · (intro u hu; (try dsimp only at hu); go_simp; try with_reducible rfl)
  simp only [Act.put, List.setIfInBounds_toArray, List.set_cons_zero, List.set_cons_succ]
  refine handTake 30 (some 65) ?_ rfl rfl (by kernel_rfl) (by kernel_rfl) (by kernel_rfl) (fun _ _ _ h => h) (by rfl) ?_ HS ?_
  rotate_left
  · (intro u hu; (try dsimp only at hu); go_simp; try with_reducible rfl)
  simp only [Act.put, List.setIfInBounds_toArray, List.set_cons_zero, List.set_cons_succ]
  refine wpAnyH_ready (rs := [31]) (by kernel_rfl) (by simp) ?_
  refine AllReadyH.cons rfl (fun K hK => ?_) AllReadyH.nil
  go_simp
  refine (OO.out _ _ _).mono ?_
  rintro e7 u7 ⟨rfl, hb⟩
  have HS' := Lib.hid (SOF.out _ (kcall (Nat.le_refl _) HS.2 hb))
  clear hb HS
  go_wp2_with fail
  refine hK.out _ _ HS'.out (fun HS => ?_)
  clear hK HS'
  try simp only [Act.put, List.setIfInBounds_toArray, List.set_cons_zero, List.set_cons_succ]
  refine wpAnyH_ready (rs := [32]) (by kernel_rfl) (by simp) ?_
  refine AllReadyH.cons rfl (fun K hK => ?_) AllReadyH.nil
  go_simp
  refine (LL.out ⟨_, _⟩ ⟨_, _⟩ _).mono ?_
  rintro e8 u8 ⟨rfl, hb⟩
  have HS' := Lib.hid (SOF.out _ (kcall (Nat.le_refl _) HS.2 hb))
  clear hb HS
  go_wp2_with fail
  refine hK.out _ _ HS'.out (fun HS => ?_)
  clear hK HS'
  try simp only [Act.put, List.setIfInBounds_toArray, List.set_cons_zero, List.set_cons_succ]
  refine handTake 33 (some 68) ?_ rfl rfl (by kernel_rfl) (by kernel_rfl) (by kernel_rfl) (fun _ _ _ h => h) (by rfl) ?_ HS ?_
  rotate_left
  · (intro u hu; (try dsimp only at hu); go_simp; try with_reducible rfl)
  simp only [Act.put, List.setIfInBounds_toArray, List.set_cons_zero, List.set_cons_succ]
  refine handTake 34 (some 69) ?_ rfl rfl (by kernel_rfl) (by kernel_rfl) (by kernel_rfl) (fun _ _ _ h => h) (by rfl) ?_ HS ?_
  rotate_left
  · (intro u hu; (try dsimp only at hu); go_simp; try with_reducible rfl)
  simp only [Act.put, List.setIfInBounds_toArray, List.set_cons_zero, List.set_cons_succ]
  refine wpAnyH_done (by kernel_rfl) ?_ _
  have KN1 := And.right (show (fun u : World => (u.cell? ⟨w.heap.size, 0, none⟩ = some (.int .i64 r) ∧ u.cell? ⟨w.heap.size, 1, none⟩ = some (.int .i64 p) ∧ u.cell? ⟨u2.heap.size, 0, none⟩ = some (.int .i64 R) ∧ u.cell? ⟨u2.heap.size, 1, none⟩ = some (.int .i64 i)) ∧ Hid (Known u [(w.heap.size, 23, [.int .i64 r, .int .i64 p]), (u2.heap.size, 23, [.int .i64 R, .int .i64 i])] ∧ Below w.heap.size w u)) u8 from HS)
  have H_b : Whole u8 (w.heap.size) 23 _ := KN1.out.1.head
  have H_x : Whole u8 (u2.heap.size) 23 _ := KN1.out.1.tail.head
  have HB := KN1.out.2
  clear c_b_0 c_b_1 f_b_0 f_b_1 c_x_0 c_x_1 f_x_0 f_x_1 l_b l_x
  clear KN KN1 SOF
  have z_8 := HB.size
  have c_b_0 := H_b.cell 0; have f_b_0 := H_b.free 0; have c_b_1 := H_b.cell 1; have f_b_1 := H_b.free 1
  simp only [List.set_cons_zero, List.set_cons_succ, List.getElem?_cons_zero, List.getElem?_cons_succ] at c_b_0 c_b_1
  have c_x_0 := H_x.cell 0; have f_x_0 := H_x.free 0; have c_x_1 := H_x.cell 1; have f_x_1 := H_x.free 1
  simp only [List.set_cons_zero, List.set_cons_succ, List.getElem?_cons_zero, List.getElem?_cons_succ] at c_x_0 c_x_1
  have l_b := H_b.lt; have K_b := Lib.hid H_b; clear H_b
  have l_x := H_x.lt; have K_x := Lib.hid H_x; clear H_x
  have KB := Lib.hid HB; clear HB
  go_wp2_with fail
  refine (N2.out _).mono ?_
  rintro e9 u9 ⟨rfl, hb⟩
  have H_b : Whole u9 (w.heap.size) 23 _ := Whole.below K_b.out hb (by first | omega | (simp; done) | (simp; omega) | (simp at *; omega))
  have H_x : Whole u9 (u2.heap.size) 23 _ := Whole.below K_x.out hb (by first | omega | (simp; done) | (simp; omega) | (simp at *; omega))
  have HB := KB.out.trans (hb.mono (by first | omega | (simp; done) | (simp; omega) | (simp at *; omega)))
  clear c_b_0 c_b_1 f_b_0 f_b_1 c_x_0 c_x_1 f_x_0 f_x_1 l_b l_x
  clear hb KB K_b K_x
  have z_u9 := HB.size
  have c_b_0 := H_b.cell 0; have f_b_0 := H_b.free 0; have c_b_1 := H_b.cell 1; have f_b_1 := H_b.free 1
  simp only [List.set_cons_zero, List.set_cons_succ, List.getElem?_cons_zero, List.getElem?_cons_succ] at c_b_0 c_b_1
  have c_x_0 := H_x.cell 0; have f_x_0 := H_x.free 0; have c_x_1 := H_x.cell 1; have f_x_1 := H_x.free 1
  simp only [List.set_cons_zero, List.set_cons_succ, List.getElem?_cons_zero, List.getElem?_cons_succ] at c_x_0 c_x_1
  have l_b := H_b.lt; have K_b := Lib.hid H_b; clear H_b
  have l_x := H_x.lt; have K_x := Lib.hid H_x; clear H_x
  have KB := Lib.hid HB; clear HB
  go_wp2_with fail
  go_ret
  exact ⟨by first | rfl | simp, (KB.out.alloc (by first | omega | (simp; done) | (simp; omega) | (simp at *; omega)) _)⟩


/-- None of a replica's ballots lies between a ballot and the next one of it. -/
theorem next_between {r p i : Int} (h1 : 1 < nextR ⟨r, p⟩ i) : lessB ⟨r, p⟩ ⟨nextR ⟨r, p⟩ i - 1, i⟩ = false := by
  unfold nextR at h1 ⊢
  rw [less_not]
  simp only at h1 ⊢
  split at h1
  · omega
  · rename_i h3
    rw [if_neg h3]
    split
    · omega
    · omega
theorem nextR_may {r p i n : Int} (hm : mayB ⟨r, p⟩ n = true) (h1 : 0 ≤ i) (h2 : i < n) (h3 : nextR ⟨r, p⟩ i ≤ 1099511627776) : mayB ⟨nextR ⟨r, p⟩ i, i⟩ n = true := by
  have h := nextR_ge (i := i) hm
  rw [may_iff] at hm ⊢
  exact ⟨hm.1, .inr ⟨h.1, h3, h1, h2⟩⟩
theorem next_zero_of {b : Ba} {i n : Int} (h : (nextZ b i n).2 ≠ 0) : nextZ b i n = (⟨0, 0⟩, 2) ∨ nextZ b i n = (⟨0, 0⟩, 4) := by
  have h1 := next_bad h
  have h2 := @next_err b i n
  generalize hz : nextZ b i n = q at *
  obtain ⟨z, k⟩ := q
  simp only at h h1 h2
  subst h1
  rcases h2 with rfl | rfl | rfl
  · exact absurd rfl h
  · exact .inl rfl
  · exact .inr rfl

theorem behind_any (b : Ba) (i k n : Int) (w : World) :
    Calls Try.prog 7 #[.agg b.cells.toArray, .int .i64 i, .int .i64 k, .int .i64 n] w fun e w' => e = .returned (.bool true) ∧ Below w.heap.size w w' := by
  obtain ⟨r, p⟩ := b
  by_cases h : (nextZ ⟨r, p⟩ i n).2 = 0
  · obtain ⟨hm, h0, hn, hR, hz⟩ := next_ok h
    have hl := next_behind (i := i) hm
    have hm' := nextR_may hm h0 hn hR
    have hge := (nextR_ge (i := i) hm).1
    have hbt := @next_between r p i
    by_cases hik : i = k
    · subst hik
      by_cases h1 : 1 < nextR ⟨r, p⟩ i
      · exact behind_big_same r p i _ n hz hm' hl hR h1 (decide_eq_true h1) (decide_eq_false (by omega)) (hbt h1) w
      · have e : nextR ⟨r, p⟩ i = 1 := by omega
        rw [e] at hz hl hm'
        exact behind_one_same r p i n hz hm' hl w
    · have hf : (i == k) = false := by simpa using hik
      by_cases h2 : (nextZ ⟨r, p⟩ k n).2 = 0
      · obtain ⟨_, _, _, _, hz2⟩ := next_ok h2
        by_cases h1 : 1 < nextR ⟨r, p⟩ i
        · exact behind_big_diff r p i _ k _ n hz hm' hl hR h1 (decide_eq_true h1) (decide_eq_false (by omega)) (hbt h1) hz2 hf hik w
        · have e : nextR ⟨r, p⟩ i = 1 := by omega
          rw [e] at hz hl hm'
          exact behind_one_diff r p i k _ n hz hm' hl hz2 hf hik w
      · have hz2 : ∃ f : Int, nextZ ⟨r, p⟩ k n = (⟨0, 0⟩, f) ∧ (f != 0) = true := by
          rcases next_zero_of h2 with h | h
          · exact ⟨2, h, rfl⟩
          · exact ⟨4, h, rfl⟩
        obtain ⟨f, hz2, hf0⟩ := hz2
        by_cases h1 : 1 < nextR ⟨r, p⟩ i
        · exact behind_big_err r p i _ k f n hz hm' hl hR h1 (decide_eq_true h1) (decide_eq_false (by omega)) (hbt h1) hz2 hf0 w
        · have e : nextR ⟨r, p⟩ i = 1 := by omega
          rw [e] at hz hl hm'
          exact behind_one_err r p i k f n hz hm' hl hz2 hf0 w
  · rcases next_zero_of h with h | h
    · exact behind_err2 r p i k n h w
    · exact behind_err4 r p i k n h w

end Bl
end Go.Proofs.Ytilpclajkofgmaa
