/- The chapter's examples of votes, which the outright laws begin with. -/
import Derived.Test.YtojkccdmnhppnaaDoorVoteWalks
set_option linter.unusedSimpArgs false
set_option linter.unusedVariables false
namespace Go.Proofs.YtojkccdmnhppnaaDoor
open Go.RowKit

namespace Vo
open Bl

set_option maxHeartbeats 400000 in
theorem of_any (r p : Int) (w : World) :
    Calls Tryd.prog 16 #[.int .i64 r, .int .i64 p] w fun e w' => e = .returned (.agg #[.int .i64 r, .int .i64 p]) ∧ Below w.heap.size w w' := by
  have h := (wh0_1 w 23 [.int .i64 r, .int .i64 p]).two
  obtain ⟨⟨c0, c1⟩, f0, f1⟩ := h
  go_enter Tryd.func16, Tryd.ntmps16
  go_wp2_with fail
  refine bodyPost_ret (v := .agg #[.int .i64 r, .int .i64 p]) (by simp [results, Tryd.results16, go_sem]) rfl ⟨rfl, ?_⟩
  exact be1 _ _

set_option maxHeartbeats 2000000 in
theorem does_true (br bp i x : Int) (tr tp : Int) (h : accept ⟨2, 1⟩ 8 ⟨br, bp⟩ i = (x, ⟨tr, tp⟩, 0)) (w : World) (ht : Tab w) :
    Calls Tryd.prog 17 #[.agg #[.int .i64 br, .int .i64 bp], .int .i64 i, .int .u8 x, .agg #[.int .i64 tr, .int .i64 tp]] w fun e w' => e = .returned (.bool true) ∧ Below w.heap.size w w' := by
  have C := accept_any ⟨2, 1⟩ ⟨br, bp⟩ 8 i
  rw [h] at C
  simp only [Ba.cells] at C
  have C := Lib.hid C
  have HT := Lib.hid ht
  clear h ht
  have KB := Lib.hid (Below.refl w.heap.size w)
  go_enter Tryd.func17, Tryd.ntmps17
  go_wp2_with fail
  obtain ⟨W1, hW⟩ : ∃ W : World, W = ((w.alloc (.cells #[.int .i64 br, .int .i64 bp] 23)).alloc (.cells #[.int .i64 tr, .int .i64 tp] 23)) := ⟨_, rfl⟩
  have H_b : Whole W1 (w.heap.size) 23 [.int .i64 br, .int .i64 bp] := by rw [hW]; exact ((Whole.new _ 23 _).alloc _)
  have H_t : Whole W1 (w.heap.size + 1) 23 [.int .i64 tr, .int .i64 tp] := by rw [hW]; exact (wh_at w 1 _ 23 _ (by simp))
  have HB : Below w.heap.size w W1 := by rw [hW]; exact ((KB.out.alloc (by first | omega | (simp; done) | (simp; omega) | (simp at *; omega)) _).alloc (by first | omega | (simp; done) | (simp; omega) | (simp at *; omega)) _)
  rw [← hW]
  clear hW KB
  have z_W1 := HB.size
  have c_b_0 := H_b.cell 0; have f_b_0 := H_b.free 0; have c_b_1 := H_b.cell 1; have f_b_1 := H_b.free 1
  simp only [List.set_cons_zero, List.set_cons_succ, List.getElem?_cons_zero, List.getElem?_cons_succ] at c_b_0 c_b_1
  have c_t_0 := H_t.cell 0; have f_t_0 := H_t.free 0; have c_t_1 := H_t.cell 1; have f_t_1 := H_t.free 1
  simp only [List.set_cons_zero, List.set_cons_succ, List.getElem?_cons_zero, List.getElem?_cons_succ] at c_t_0 c_t_1
  have l_b := H_b.lt; have K_b := Lib.hid H_b; clear H_b
  have l_t := H_t.lt; have K_t := Lib.hid H_t; clear H_t
  have KB := Lib.hid HB; clear HB
  have SOF : Hid (∀ u : World, Hid (Known u [(w.heap.size, 23, [.int .i64 br, .int .i64 bp]), (w.heap.size + 1, 23, [.int .i64 tr, .int .i64 tp])]) → (fun u : World => (u.cell? ⟨w.heap.size, 0, none⟩ = some (.int .i64 br) ∧ u.cell? ⟨w.heap.size, 1, none⟩ = some (.int .i64 bp) ∧ u.cell? ⟨w.heap.size + 1, 0, none⟩ = some (.int .i64 tr) ∧ u.cell? ⟨w.heap.size + 1, 1, none⟩ = some (.int .i64 tp)) ∧ Hid (Known u [(w.heap.size, 23, [.int .i64 br, .int .i64 bp]), (w.heap.size + 1, 23, [.int .i64 tr, .int .i64 tp])])) u) := fun u h => ⟨⟨(h.out.head.cell 0), (h.out.head.cell 1), (h.out.tail.head.cell 0), (h.out.tail.head.cell 1)⟩, h⟩
  refine wp_region_held_drew (S := (fun u : World => (u.cell? ⟨w.heap.size, 0, none⟩ = some (.int .i64 br) ∧ u.cell? ⟨w.heap.size, 1, none⟩ = some (.int .i64 bp) ∧ u.cell? ⟨w.heap.size + 1, 0, none⟩ = some (.int .i64 tr) ∧ u.cell? ⟨w.heap.size + 1, 1, none⟩ = some (.int .i64 tp)) ∧ Hid (Known u [(w.heap.size, 23, [.int .i64 br, .int .i64 bp]), (w.heap.size + 1, 23, [.int .i64 tr, .int .i64 tp])]))) (by kernel_rfl) (SOF.out _ (Known.add (K_b.out.drew) (Known.add (K_t.out.drew) (Known.nil _)))) (fun HS => ?_)
  refine handTake 1 (some 14) ?_ rfl rfl (by kernel_rfl) (by kernel_rfl) (by kernel_rfl) (fun _ _ _ h => h) (by rfl) ?_ HS ?_
  rotate_left
  · (intro u hu; (try dsimp only at hu); go_simp; try with_reducible rfl)
  simp only [Act.put, List.setIfInBounds_toArray, List.set_cons_zero, List.set_cons_succ]
  refine handTake 2 (some 15) ?_ rfl rfl (by kernel_rfl) (by kernel_rfl) (by kernel_rfl) (fun _ _ _ h => h) (by rfl) ?_ HS ?_
  rotate_left
  · (intro u hu; (try dsimp only at hu); go_simp; try with_reducible rfl)
  simp only [Act.put, List.setIfInBounds_toArray, List.set_cons_zero, List.set_cons_succ]
  refine wpAnyH_ready (rs := [0, 8]) (by kernel_rfl) (by simp) ?_
  refine AllReadyH.cons rfl (fun K hK => ?_) ?_
  · go_simp
    clear HS
    refine (of_any _ _ _).mono ?_
    rintro e2 u2 ⟨rfl, hb⟩
    have H_b : Whole u2 (w.heap.size) 23 _ := Whole.below (K_b.out.drew) hb (by first | omega | (simp; done) | (simp; omega) | (simp at *; omega))
    have H_t : Whole u2 (w.heap.size + 1) 23 _ := Whole.below (K_t.out.drew) hb (by first | omega | (simp; done) | (simp; omega) | (simp at *; omega))
    have HB := (KB.out.drew).trans (hb.mono (by first | omega | (simp; done) | (simp; omega) | (simp at *; omega)))
    clear c_b_0 c_b_1 f_b_0 f_b_1 c_t_0 c_t_1 f_t_0 f_t_1 l_b l_t
    clear hb KB K_b K_t
    have z_u2 := HB.size
    have c_b_0 := H_b.cell 0; have f_b_0 := H_b.free 0; have c_b_1 := H_b.cell 1; have f_b_1 := H_b.free 1
    simp only [List.set_cons_zero, List.set_cons_succ, List.getElem?_cons_zero, List.getElem?_cons_succ] at c_b_0 c_b_1
    have c_t_0 := H_t.cell 0; have f_t_0 := H_t.free 0; have c_t_1 := H_t.cell 1; have f_t_1 := H_t.free 1
    simp only [List.set_cons_zero, List.set_cons_succ, List.getElem?_cons_zero, List.getElem?_cons_succ] at c_t_0 c_t_1
    have l_b := H_b.lt; have K_b := Lib.hid H_b; clear H_b
    have l_t := H_t.lt; have K_t := Lib.hid H_t; clear H_t
    have KB := Lib.hid HB; clear HB
    have HS' := Lib.hid (SOF.out _ (Known.add K_b.out (Known.add K_t.out (Known.nil _))))
    go_wp2_with fail
    refine hK.out _ _ HS'.out (fun HS => ?_)
    clear hK HS'
    try simp only [Act.put, List.setIfInBounds_toArray, List.set_cons_zero, List.set_cons_succ]
    refine wpAnyH_ready (rs := [3, 8]) (by kernel_rfl) (by simp) ?_
    refine AllReadyH.cons rfl (fun K hK => ?_) ?_
    · go_simp
      clear HS
      refine (C.out _ (HT.out.below KB.out)).mono ?_
      rintro e3 u3 ⟨rfl, hb⟩
      have H_b : Whole u3 (w.heap.size) 23 _ := Whole.below K_b.out hb (by first | omega | (simp; done) | (simp; omega) | (simp at *; omega))
      have H_t : Whole u3 (w.heap.size + 1) 23 _ := Whole.below K_t.out hb (by first | omega | (simp; done) | (simp; omega) | (simp at *; omega))
      have HB := KB.out.trans (hb.mono (by first | omega | (simp; done) | (simp; omega) | (simp at *; omega)))
      clear c_b_0 c_b_1 f_b_0 f_b_1 c_t_0 c_t_1 f_t_0 f_t_1 l_b l_t
      clear hb KB K_b K_t
      have z_u3 := HB.size
      have c_b_0 := H_b.cell 0; have f_b_0 := H_b.free 0; have c_b_1 := H_b.cell 1; have f_b_1 := H_b.free 1
      simp only [List.set_cons_zero, List.set_cons_succ, List.getElem?_cons_zero, List.getElem?_cons_succ] at c_b_0 c_b_1
      have c_t_0 := H_t.cell 0; have f_t_0 := H_t.free 0; have c_t_1 := H_t.cell 1; have f_t_1 := H_t.free 1
      simp only [List.set_cons_zero, List.set_cons_succ, List.getElem?_cons_zero, List.getElem?_cons_succ] at c_t_0 c_t_1
      have l_b := H_b.lt; have K_b := Lib.hid H_b; clear H_b
      have l_t := H_t.lt; have K_t := Lib.hid H_t; clear H_t
      have KB := Lib.hid HB; clear HB
      have HS' := Lib.hid (SOF.out _ (Known.add K_b.out (Known.add K_t.out (Known.nil _))))
      go_wp2_with fail
      refine hK.out _ _ HS'.out (fun HS => ?_)
      clear hK HS'
      try simp only [Act.put, List.setIfInBounds_toArray, List.set_cons_zero, List.set_cons_succ]
      refine handTake 4 (some 12) ?_ rfl rfl (by kernel_rfl) (by kernel_rfl) (by kernel_rfl) (fun _ _ _ h => h) (by rfl) ?_ HS ?_
      rotate_left
      · (intro u hu; (try dsimp only at hu); go_simp; try with_reducible rfl)
      simp only [Act.put, List.setIfInBounds_toArray, List.set_cons_zero, List.set_cons_succ]
      refine handTake 5 (some 17) ?_ rfl rfl (by kernel_rfl) (by kernel_rfl) (by kernel_rfl) (fun _ _ _ h => h) (by rfl) ?_ HS ?_
      rotate_left
      · (intro u hu; (try dsimp only at hu); go_simp; try with_reducible rfl)
      simp only [Act.put, List.setIfInBounds_toArray, List.set_cons_zero, List.set_cons_succ]
      refine handTake 6 (some 18) ?_ rfl rfl (by kernel_rfl) (by kernel_rfl) (by kernel_rfl) (fun _ _ _ h => h) (by rfl) ?_ HS ?_
      rotate_left
      · (intro u hu; (try dsimp only at hu); go_simp; try with_reducible rfl)
      simp only [Act.put, List.setIfInBounds_toArray, List.set_cons_zero, List.set_cons_succ]
      refine handTake 7 (some 19) ?_ rfl rfl (by kernel_rfl) (by kernel_rfl) (by kernel_rfl) (fun _ _ _ h => h) (by rfl) ?_ HS ?_
      rotate_left
      · (intro u hu; (try dsimp only at hu); go_simp; try with_reducible rfl)
      simp only [Act.put, List.setIfInBounds_toArray, List.set_cons_zero, List.set_cons_succ]
      refine wpAnyH_ready (rs := [8]) (by kernel_rfl) (by simp) ?_
      refine AllReadyH.cons rfl (fun K hK => ?_) AllReadyH.nil
      go_simp
      clear HS
      refine hK.out _ _ (SOF.out _ (Known.add (K_b.out.alloc _) (Known.add (K_t.out.alloc _) (Known.nil _)))) (fun HS => ?_)
      clear hK
      try simp only [Act.put, List.setIfInBounds_toArray, List.set_cons_zero, List.set_cons_succ]
      refine handTake 9 (some 9) ?_ rfl rfl (by kernel_rfl) (by kernel_rfl) (by kernel_rfl) (fun _ _ _ h => h) (by rfl) ?_ HS ?_
      rotate_left
      · (intro u hu; (try dsimp only at hu); go_simp; try with_reducible rfl)
      simp only [Act.put, List.setIfInBounds_toArray, List.set_cons_zero, List.set_cons_succ]
      refine wpAnyH_ready (rs := [10]) (by kernel_rfl) (by simp) ?_
      refine AllReadyH.cons rfl (fun K hK => ?_) AllReadyH.nil
      go_simp
      clear HS
      refine hK.out _ _ (SOF.out _ (Known.add (K_b.out.alloc _) (Known.add (K_t.out.alloc _) (Known.nil _)))) (fun HS => ?_)
      clear hK
      try simp only [Act.put, List.setIfInBounds_toArray, List.set_cons_zero, List.set_cons_succ]
      refine handTake 11 (some 11) ?_ rfl rfl (by kernel_rfl) (by kernel_rfl) (by kernel_rfl) (fun _ _ _ h => h) (by rfl) ?_ HS ?_
      rotate_left
      · (intro u hu; (try dsimp only at hu); go_simp; try with_reducible rfl)
      simp only [Act.put, List.setIfInBounds_toArray, List.set_cons_zero, List.set_cons_succ]
      refine wpAnyH_done (by kernel_rfl) ?_ _
      clear HS SOF
      go_wp2_with fail
      go_ret
      exact ⟨by first | rfl | simp, (KB.out.alloc (by first | omega | (simp; done) | (simp; omega) | (simp at *; omega)) _)⟩
    refine AllReadyH.cons rfl (fun K hK => ?_) ?_
    · go_simp
      clear HS
      refine hK.out _ _ (SOF.out _ (Known.add (K_b.out.alloc _) (Known.add (K_t.out.alloc _) (Known.nil _)))) (fun HS => ?_)
      clear hK
      try simp only [Act.put, List.setIfInBounds_toArray, List.set_cons_zero, List.set_cons_succ]
      refine wpAnyH_ready (rs := [3]) (by kernel_rfl) (by simp) ?_
      refine AllReadyH.cons rfl (fun K hK => ?_) AllReadyH.nil
      go_simp
      clear HS
      refine (C.out _ (HT.out.below (KB.out.alloc (by first | omega | (simp; done) | (simp; omega) | (simp at *; omega)) _))).mono ?_
      rintro e4 u4 ⟨rfl, hb⟩
      have H_b : Whole u4 (w.heap.size) 23 _ := Whole.below (K_b.out.alloc _) hb (by first | omega | (simp; done) | (simp; omega) | (simp at *; omega))
      have H_t : Whole u4 (w.heap.size + 1) 23 _ := Whole.below (K_t.out.alloc _) hb (by first | omega | (simp; done) | (simp; omega) | (simp at *; omega))
      have H_x : Whole u4 (u2.heap.size) 23 _ := Whole.below (Whole.new _ 23 _) hb (by first | omega | (simp; done) | (simp; omega) | (simp at *; omega))
      have HB := (KB.out.alloc (by first | omega | (simp; done) | (simp; omega) | (simp at *; omega)) _).trans (hb.mono (by first | omega | (simp; done) | (simp; omega) | (simp at *; omega)))
      clear c_b_0 c_b_1 f_b_0 f_b_1 c_t_0 c_t_1 f_t_0 f_t_1
      clear hb KB K_b K_t
      have z_u4 := HB.size
      have c_b_0 := H_b.cell 0; have f_b_0 := H_b.free 0; have c_b_1 := H_b.cell 1; have f_b_1 := H_b.free 1
      simp only [List.set_cons_zero, List.set_cons_succ, List.getElem?_cons_zero, List.getElem?_cons_succ] at c_b_0 c_b_1
      have c_t_0 := H_t.cell 0; have f_t_0 := H_t.free 0; have c_t_1 := H_t.cell 1; have f_t_1 := H_t.free 1
      simp only [List.set_cons_zero, List.set_cons_succ, List.getElem?_cons_zero, List.getElem?_cons_succ] at c_t_0 c_t_1
      have c_x_0 := H_x.cell 0; have f_x_0 := H_x.free 0; have c_x_1 := H_x.cell 1; have f_x_1 := H_x.free 1
      simp only [List.set_cons_zero, List.set_cons_succ, List.getElem?_cons_zero, List.getElem?_cons_succ] at c_x_0 c_x_1
      have l_b := H_b.lt; have K_b := Lib.hid H_b; clear H_b
      have l_t := H_t.lt; have K_t := Lib.hid H_t; clear H_t
      have l_x := H_x.lt; have K_x := Lib.hid H_x; clear H_x
      have KB := Lib.hid HB; clear HB
      have HS' := Lib.hid (SOF.out _ (Known.add K_b.out (Known.add K_t.out (Known.nil _))))
      go_wp2_with fail
      refine hK.out _ _ HS'.out (fun HS => ?_)
      clear hK HS'
      try simp only [Act.put, List.setIfInBounds_toArray, List.set_cons_zero, List.set_cons_succ]
      refine handTake 4 (some 12) ?_ rfl rfl (by kernel_rfl) (by kernel_rfl) (by kernel_rfl) (fun _ _ _ h => h) (by rfl) ?_ HS ?_
      rotate_left
      · (intro u hu; (try dsimp only at hu); go_simp; try with_reducible rfl)
      simp only [Act.put, List.setIfInBounds_toArray, List.set_cons_zero, List.set_cons_succ]
      refine handTake 5 (some 17) ?_ rfl rfl (by kernel_rfl) (by kernel_rfl) (by kernel_rfl) (fun _ _ _ h => h) (by rfl) ?_ HS ?_
      rotate_left
      · (intro u hu; (try dsimp only at hu); go_simp; try with_reducible rfl)
      simp only [Act.put, List.setIfInBounds_toArray, List.set_cons_zero, List.set_cons_succ]
      refine handTake 6 (some 18) ?_ rfl rfl (by kernel_rfl) (by kernel_rfl) (by kernel_rfl) (fun _ _ _ h => h) (by rfl) ?_ HS ?_
      rotate_left
      · (intro u hu; (try dsimp only at hu); go_simp; try with_reducible rfl)
      simp only [Act.put, List.setIfInBounds_toArray, List.set_cons_zero, List.set_cons_succ]
      refine handTake 7 (some 19) ?_ rfl rfl (by kernel_rfl) (by kernel_rfl) (by kernel_rfl) (fun _ _ _ h => h) (by rfl) ?_ HS ?_
      rotate_left
      · (intro u hu; (try dsimp only at hu); go_simp; try with_reducible rfl)
      simp only [Act.put, List.setIfInBounds_toArray, List.set_cons_zero, List.set_cons_succ]
      refine handTake 9 (some 9) ?_ rfl rfl (by kernel_rfl) (by kernel_rfl) (by kernel_rfl) (fun _ _ _ h => h) (by rfl) ?_ HS ?_
      rotate_left
      · (intro u hu; (try dsimp only at hu); go_simp; try with_reducible rfl)
      simp only [Act.put, List.setIfInBounds_toArray, List.set_cons_zero, List.set_cons_succ]
      refine wpAnyH_ready (rs := [10]) (by kernel_rfl) (by simp) ?_
      refine AllReadyH.cons rfl (fun K hK => ?_) AllReadyH.nil
      go_simp
      clear HS
      refine hK.out _ _ (SOF.out _ (Known.add ((K_b.out.far (p := ⟨u2.heap.size, 0, none⟩) (by first | omega | (simp; done) | (simp; omega) | (simp at *; omega)) _).far (p := ⟨u2.heap.size, 1, none⟩) (by first | omega | (simp; done) | (simp; omega) | (simp at *; omega)) _) (Known.add ((K_t.out.far (p := ⟨u2.heap.size, 0, none⟩) (by first | omega | (simp; done) | (simp; omega) | (simp at *; omega)) _).far (p := ⟨u2.heap.size, 1, none⟩) (by first | omega | (simp; done) | (simp; omega) | (simp at *; omega)) _) (Known.nil _)))) (fun HS => ?_)
      clear hK
      try simp only [Act.put, List.setIfInBounds_toArray, List.set_cons_zero, List.set_cons_succ]
      refine handTake 11 (some 11) ?_ rfl rfl (by kernel_rfl) (by kernel_rfl) (by kernel_rfl) (fun _ _ _ h => h) (by rfl) ?_ HS ?_
      rotate_left
      · (intro u hu; (try dsimp only at hu); go_simp; try with_reducible rfl)
      simp only [Act.put, List.setIfInBounds_toArray, List.set_cons_zero, List.set_cons_succ]
      refine wpAnyH_done (by kernel_rfl) ?_ _
      clear HS SOF
      go_wp2_with fail
      go_ret
      exact ⟨by first | rfl | simp, ((KB.out.setCell (p := ⟨u2.heap.size, 0, none⟩) (by first | omega | (simp; done) | (simp; omega) | (simp at *; omega)) _).setCell (p := ⟨u2.heap.size, 1, none⟩) (by first | omega | (simp; done) | (simp; omega) | (simp at *; omega)) _)⟩
    exact AllReadyH.nil
  refine AllReadyH.cons rfl (fun K hK => ?_) ?_
  · go_simp
    clear HS
    refine hK.out _ _ (SOF.out _ (Known.add ((K_b.out.alloc _).drew) (Known.add ((K_t.out.alloc _).drew) (Known.nil _)))) (fun HS => ?_)
    clear hK
    try simp only [Act.put, List.setIfInBounds_toArray, List.set_cons_zero, List.set_cons_succ]
    refine wpAnyH_ready (rs := [0]) (by kernel_rfl) (by simp) ?_
    refine AllReadyH.cons rfl (fun K hK => ?_) AllReadyH.nil
    go_simp
    clear HS
    refine (of_any _ _ _).mono ?_
    rintro e5 u5 ⟨rfl, hb⟩
    have H_b : Whole u5 (w.heap.size) 23 _ := Whole.below ((K_b.out.alloc _).drew) hb (by first | omega | (simp; done) | (simp; omega) | (simp at *; omega))
    have H_t : Whole u5 (w.heap.size + 1) 23 _ := Whole.below ((K_t.out.alloc _).drew) hb (by first | omega | (simp; done) | (simp; omega) | (simp at *; omega))
    have H_x : Whole u5 (W1.heap.size) 23 _ := Whole.below ((Whole.new _ 23 _).drew) hb (by first | omega | (simp; done) | (simp; omega) | (simp at *; omega))
    have HB := ((KB.out.alloc (by first | omega | (simp; done) | (simp; omega) | (simp at *; omega)) _).drew).trans (hb.mono (by first | omega | (simp; done) | (simp; omega) | (simp at *; omega)))
    clear c_b_0 c_b_1 f_b_0 f_b_1 c_t_0 c_t_1 f_t_0 f_t_1
    clear hb KB K_b K_t
    have z_u5 := HB.size
    have c_b_0 := H_b.cell 0; have f_b_0 := H_b.free 0; have c_b_1 := H_b.cell 1; have f_b_1 := H_b.free 1
    simp only [List.set_cons_zero, List.set_cons_succ, List.getElem?_cons_zero, List.getElem?_cons_succ] at c_b_0 c_b_1
    have c_t_0 := H_t.cell 0; have f_t_0 := H_t.free 0; have c_t_1 := H_t.cell 1; have f_t_1 := H_t.free 1
    simp only [List.set_cons_zero, List.set_cons_succ, List.getElem?_cons_zero, List.getElem?_cons_succ] at c_t_0 c_t_1
    have c_x_0 := H_x.cell 0; have f_x_0 := H_x.free 0; have c_x_1 := H_x.cell 1; have f_x_1 := H_x.free 1
    simp only [List.set_cons_zero, List.set_cons_succ, List.getElem?_cons_zero, List.getElem?_cons_succ] at c_x_0 c_x_1
    have l_b := H_b.lt; have K_b := Lib.hid H_b; clear H_b
    have l_t := H_t.lt; have K_t := Lib.hid H_t; clear H_t
    have l_x := H_x.lt; have K_x := Lib.hid H_x; clear H_x
    have KB := Lib.hid HB; clear HB
    have HS' := Lib.hid (SOF.out _ (Known.add K_b.out (Known.add K_t.out (Known.nil _))))
    go_wp2_with fail
    refine hK.out _ _ HS'.out (fun HS => ?_)
    clear hK HS'
    try simp only [Act.put, List.setIfInBounds_toArray, List.set_cons_zero, List.set_cons_succ]
    refine wpAnyH_ready (rs := [3]) (by kernel_rfl) (by simp) ?_
    refine AllReadyH.cons rfl (fun K hK => ?_) AllReadyH.nil
    go_simp
    clear HS
    refine (C.out _ (HT.out.below KB.out)).mono ?_
    rintro e6 u6 ⟨rfl, hb⟩
    have H_b : Whole u6 (w.heap.size) 23 _ := Whole.below K_b.out hb (by first | omega | (simp; done) | (simp; omega) | (simp at *; omega))
    have H_t : Whole u6 (w.heap.size + 1) 23 _ := Whole.below K_t.out hb (by first | omega | (simp; done) | (simp; omega) | (simp at *; omega))
    have H_x : Whole u6 (W1.heap.size) 23 _ := Whole.below K_x.out hb (by first | omega | (simp; done) | (simp; omega) | (simp at *; omega))
    have HB := KB.out.trans (hb.mono (by first | omega | (simp; done) | (simp; omega) | (simp at *; omega)))
    clear c_b_0 c_b_1 f_b_0 f_b_1 c_t_0 c_t_1 f_t_0 f_t_1 c_x_0 c_x_1 f_x_0 f_x_1 l_b l_t l_x
    clear hb KB K_b K_t K_x
    have z_u6 := HB.size
    have c_b_0 := H_b.cell 0; have f_b_0 := H_b.free 0; have c_b_1 := H_b.cell 1; have f_b_1 := H_b.free 1
    simp only [List.set_cons_zero, List.set_cons_succ, List.getElem?_cons_zero, List.getElem?_cons_succ] at c_b_0 c_b_1
    have c_t_0 := H_t.cell 0; have f_t_0 := H_t.free 0; have c_t_1 := H_t.cell 1; have f_t_1 := H_t.free 1
    simp only [List.set_cons_zero, List.set_cons_succ, List.getElem?_cons_zero, List.getElem?_cons_succ] at c_t_0 c_t_1
    have c_x_0 := H_x.cell 0; have f_x_0 := H_x.free 0; have c_x_1 := H_x.cell 1; have f_x_1 := H_x.free 1
    simp only [List.set_cons_zero, List.set_cons_succ, List.getElem?_cons_zero, List.getElem?_cons_succ] at c_x_0 c_x_1
    have l_b := H_b.lt; have K_b := Lib.hid H_b; clear H_b
    have l_t := H_t.lt; have K_t := Lib.hid H_t; clear H_t
    have l_x := H_x.lt; have K_x := Lib.hid H_x; clear H_x
    have KB := Lib.hid HB; clear HB
    have HS' := Lib.hid (SOF.out _ (Known.add K_b.out (Known.add K_t.out (Known.nil _))))
    go_wp2_with fail
    refine hK.out _ _ HS'.out (fun HS => ?_)
    clear hK HS'
    try simp only [Act.put, List.setIfInBounds_toArray, List.set_cons_zero, List.set_cons_succ]
    refine handTake 4 (some 12) ?_ rfl rfl (by kernel_rfl) (by kernel_rfl) (by kernel_rfl) (fun _ _ _ h => h) (by rfl) ?_ HS ?_
    rotate_left
    · (intro u hu; (try dsimp only at hu); go_simp; try with_reducible rfl)
    simp only [Act.put, List.setIfInBounds_toArray, List.set_cons_zero, List.set_cons_succ]
    refine handTake 5 (some 17) ?_ rfl rfl (by kernel_rfl) (by kernel_rfl) (by kernel_rfl) (fun _ _ _ h => h) (by rfl) ?_ HS ?_
    rotate_left
    · (intro u hu; (try dsimp only at hu); go_simp; try with_reducible rfl)
    simp only [Act.put, List.setIfInBounds_toArray, List.set_cons_zero, List.set_cons_succ]
    refine handTake 6 (some 18) ?_ rfl rfl (by kernel_rfl) (by kernel_rfl) (by kernel_rfl) (fun _ _ _ h => h) (by rfl) ?_ HS ?_
    rotate_left
    · (intro u hu; (try dsimp only at hu); go_simp; try with_reducible rfl)
    simp only [Act.put, List.setIfInBounds_toArray, List.set_cons_zero, List.set_cons_succ]
    refine handTake 7 (some 19) ?_ rfl rfl (by kernel_rfl) (by kernel_rfl) (by kernel_rfl) (fun _ _ _ h => h) (by rfl) ?_ HS ?_
    rotate_left
    · (intro u hu; (try dsimp only at hu); go_simp; try with_reducible rfl)
    simp only [Act.put, List.setIfInBounds_toArray, List.set_cons_zero, List.set_cons_succ]
    refine handTake 9 (some 9) ?_ rfl rfl (by kernel_rfl) (by kernel_rfl) (by kernel_rfl) (fun _ _ _ h => h) (by rfl) ?_ HS ?_
    rotate_left
    · (intro u hu; (try dsimp only at hu); go_simp; try with_reducible rfl)
    simp only [Act.put, List.setIfInBounds_toArray, List.set_cons_zero, List.set_cons_succ]
    refine wpAnyH_ready (rs := [10]) (by kernel_rfl) (by simp) ?_
    refine AllReadyH.cons rfl (fun K hK => ?_) AllReadyH.nil
    go_simp
    clear HS
    refine hK.out _ _ (SOF.out _ (Known.add ((K_b.out.far (p := ⟨W1.heap.size, 0, none⟩) (by first | omega | (simp; done) | (simp; omega) | (simp at *; omega)) _).far (p := ⟨W1.heap.size, 1, none⟩) (by first | omega | (simp; done) | (simp; omega) | (simp at *; omega)) _) (Known.add ((K_t.out.far (p := ⟨W1.heap.size, 0, none⟩) (by first | omega | (simp; done) | (simp; omega) | (simp at *; omega)) _).far (p := ⟨W1.heap.size, 1, none⟩) (by first | omega | (simp; done) | (simp; omega) | (simp at *; omega)) _) (Known.nil _)))) (fun HS => ?_)
    clear hK
    try simp only [Act.put, List.setIfInBounds_toArray, List.set_cons_zero, List.set_cons_succ]
    refine handTake 11 (some 11) ?_ rfl rfl (by kernel_rfl) (by kernel_rfl) (by kernel_rfl) (fun _ _ _ h => h) (by rfl) ?_ HS ?_
    rotate_left
    · (intro u hu; (try dsimp only at hu); go_simp; try with_reducible rfl)
    simp only [Act.put, List.setIfInBounds_toArray, List.set_cons_zero, List.set_cons_succ]
    refine wpAnyH_done (by kernel_rfl) ?_ _
    clear HS SOF
    go_wp2_with fail
    go_ret
    exact ⟨by first | rfl | simp, ((KB.out.setCell (p := ⟨W1.heap.size, 0, none⟩) (by first | omega | (simp; done) | (simp; omega) | (simp at *; omega)) _).setCell (p := ⟨W1.heap.size, 1, none⟩) (by first | omega | (simp; done) | (simp; omega) | (simp at *; omega)) _)⟩
  exact AllReadyH.nil

/-- The bare chain of what a call leaves as it was. -/
theorem chain0 {B : Nat} {a c u : World} (h : Hid (Below B a c)) (hB : B ≤ a.heap.size) (k : Below c.heap.size c u) : Hid (Below B a u) := h.out.trans (k.mono (Nat.le_trans hB h.out.size))
theorem chain1 {B : Nat} {a c u : World} {o : Obj} (h : Hid (Below B a c)) (hB : B ≤ a.heap.size) (k : Below (c.alloc o).heap.size (c.alloc o) u) : Hid (Below B a u) :=
  (h.out.alloc (Nat.le_trans hB h.out.size) o).trans (k.mono (by have := h.out.size; simp; omega))
theorem chain2 {B : Nat} {a c u : World} {o o' : Obj} (h : Hid (Below B a c)) (hB : B ≤ a.heap.size) (k : Below ((c.alloc o).alloc o').heap.size ((c.alloc o).alloc o') u) : Hid (Below B a u) :=
  ((h.out.alloc (Nat.le_trans hB h.out.size) o).alloc (by have := h.out.size; simp; omega) o').trans (k.mono (by have := h.out.size; simp; omega))
theorem promise_is (p b : Ba) (zr zp : Int) (y : Bool) (h : promise p b = (⟨zr, zp⟩, y)) (w : World) :
    Calls Tryd.prog 7 #[.agg p.cells.toArray, .agg b.cells.toArray] w fun e w' => e = .returned (.tuple #[.agg #[.int .i64 zr, .int .i64 zp], .bool y]) ∧ Below w.heap.size w w' := by
  have C := promise_any p b w
  rw [h] at C
  exact C
theorem where_is (s i a e : Int) (h : whereZ s i = (a, e)) (w : World) :
    Calls Tryd.prog 9 #[.int .i64 s, .int .i64 i] w fun z w' => z = .returned (.tuple #[.int .u8 a, .int .i64 e]) ∧ w = w' := by
  have C := where_any s i w
  rw [h] at C
  exact C

set_option maxRecDepth 100000 in
set_option maxHeartbeats 8000000 in
theorem awake_any (w : World) (ht : Tab w) : Calls Tryd.prog 13 #[] w fun e w' => e = .returned (.bool true) ∧ Below w.heap.size w w' := by
  have HB := Lib.hid (Below.refl w.heap.size w)
  have HT := Lib.hid ht
  clear ht
  have KB := Lib.hid (Below.refl w.heap.size w)
  go_enter Tryd.func13, Tryd.ntmps13
  go_wp2_with fail
  refine (of_any _ _ _).mono ?_
  rintro e1 u1 ⟨rfl, hb⟩
  have HB := KB.out.trans (hb.mono (by first | omega | (simp; done) | (simp; omega) | (simp at *; omega)))
  clear hb KB
  have z_u1 := HB.size
  have KB := Lib.hid HB; clear HB
  go_wp2_with fail
  refine (of_any _ _ _).mono ?_
  rintro e2 u2 ⟨rfl, hb⟩
  have HB := KB.out.trans (hb.mono (by first | omega | (simp; done) | (simp; omega) | (simp at *; omega)))
  clear hb KB
  have z_u2 := HB.size
  have KB := Lib.hid HB; clear HB
  go_wp2_with fail
  refine (promise_is ⟨_, _⟩ ⟨_, _⟩ 2 1 true (by rfl) _).mono ?_
  rintro e3 u3 ⟨rfl, hb⟩
  have HB := KB.out.trans (hb.mono (by first | omega | (simp; done) | (simp; omega) | (simp at *; omega)))
  clear hb KB
  have z_u3 := HB.size
  have KB := Lib.hid HB; clear HB
  go_wp2_with fail
  refine (of_any _ _ _).mono ?_
  rintro e4 u4 ⟨rfl, hb⟩
  have H_a : Whole u4 (u3.heap.size) 23 _ := Whole.below (Whole.new _ 23 _) hb (by first | omega | (simp; done) | (simp; omega) | (simp at *; omega))
  have HB := (KB.out.alloc (by first | omega | (simp; done) | (simp; omega) | (simp at *; omega)) _).trans (hb.mono (by first | omega | (simp; done) | (simp; omega) | (simp at *; omega)))
  clear hb KB
  have z_u4 := HB.size
  have c_a_0 := H_a.cell 0; have f_a_0 := H_a.free 0; have c_a_1 := H_a.cell 1; have f_a_1 := H_a.free 1
  simp only [List.set_cons_zero, List.set_cons_succ, List.getElem?_cons_zero, List.getElem?_cons_succ] at c_a_0 c_a_1
  have l_a := H_a.lt; have K_a := Lib.hid H_a; clear H_a
  have KB := Lib.hid HB; clear HB
  go_wp2_with fail
  refine (of_any _ _ _).mono ?_
  rintro e5 u5 ⟨rfl, hb⟩
  have H_a : Whole u5 (u3.heap.size) 23 _ := Whole.below K_a.out hb (by first | omega | (simp; done) | (simp; omega) | (simp at *; omega))
  have HB := KB.out.trans (hb.mono (by first | omega | (simp; done) | (simp; omega) | (simp at *; omega)))
  clear c_a_0 c_a_1 f_a_0 f_a_1 l_a
  clear hb KB K_a
  have z_u5 := HB.size
  have c_a_0 := H_a.cell 0; have f_a_0 := H_a.free 0; have c_a_1 := H_a.cell 1; have f_a_1 := H_a.free 1
  simp only [List.set_cons_zero, List.set_cons_succ, List.getElem?_cons_zero, List.getElem?_cons_succ] at c_a_0 c_a_1
  have l_a := H_a.lt; have K_a := Lib.hid H_a; clear H_a
  have KB := Lib.hid HB; clear HB
  go_wp2_with fail
  refine (promise_is ⟨_, _⟩ ⟨_, _⟩ 3 0 true (by rfl) _).mono ?_
  rintro e6 u6 ⟨rfl, hb⟩
  have H_a : Whole u6 (u3.heap.size) 23 _ := Whole.below K_a.out hb (by first | omega | (simp; done) | (simp; omega) | (simp at *; omega))
  have HB := KB.out.trans (hb.mono (by first | omega | (simp; done) | (simp; omega) | (simp at *; omega)))
  clear c_a_0 c_a_1 f_a_0 f_a_1 l_a
  clear hb KB K_a
  have z_u6 := HB.size
  have c_a_0 := H_a.cell 0; have f_a_0 := H_a.free 0; have c_a_1 := H_a.cell 1; have f_a_1 := H_a.free 1
  simp only [List.set_cons_zero, List.set_cons_succ, List.getElem?_cons_zero, List.getElem?_cons_succ] at c_a_0 c_a_1
  have l_a := H_a.lt; have K_a := Lib.hid H_a; clear H_a
  have KB := Lib.hid HB; clear HB
  go_wp2_with fail
  refine (of_any _ _ _).mono ?_
  rintro e7 u7 ⟨rfl, hb⟩
  have H_a : Whole u7 (u3.heap.size) 23 _ := Whole.below (K_a.out.alloc _) hb (by first | omega | (simp; done) | (simp; omega) | (simp at *; omega))
  have H_c : Whole u7 (u6.heap.size) 23 _ := Whole.below (Whole.new _ 23 _) hb (by first | omega | (simp; done) | (simp; omega) | (simp at *; omega))
  have HB := (KB.out.alloc (by first | omega | (simp; done) | (simp; omega) | (simp at *; omega)) _).trans (hb.mono (by first | omega | (simp; done) | (simp; omega) | (simp at *; omega)))
  clear c_a_0 c_a_1 f_a_0 f_a_1
  clear hb KB K_a
  have z_u7 := HB.size
  have c_a_0 := H_a.cell 0; have f_a_0 := H_a.free 0; have c_a_1 := H_a.cell 1; have f_a_1 := H_a.free 1
  simp only [List.set_cons_zero, List.set_cons_succ, List.getElem?_cons_zero, List.getElem?_cons_succ] at c_a_0 c_a_1
  have c_c_0 := H_c.cell 0; have f_c_0 := H_c.free 0; have c_c_1 := H_c.cell 1; have f_c_1 := H_c.free 1
  simp only [List.set_cons_zero, List.set_cons_succ, List.getElem?_cons_zero, List.getElem?_cons_succ] at c_c_0 c_c_1
  have l_a := H_a.lt; have K_a := Lib.hid H_a; clear H_a
  have l_c := H_c.lt; have K_c := Lib.hid H_c; clear H_c
  have KB := Lib.hid HB; clear HB
  go_wp2_with fail
  refine (of_any _ _ _).mono ?_
  rintro e8 u8 ⟨rfl, hb⟩
  have H_a : Whole u8 (u3.heap.size) 23 _ := Whole.below K_a.out hb (by first | omega | (simp; done) | (simp; omega) | (simp at *; omega))
  have H_c : Whole u8 (u6.heap.size) 23 _ := Whole.below K_c.out hb (by first | omega | (simp; done) | (simp; omega) | (simp at *; omega))
  have HB := KB.out.trans (hb.mono (by first | omega | (simp; done) | (simp; omega) | (simp at *; omega)))
  clear c_a_0 c_a_1 f_a_0 f_a_1 c_c_0 c_c_1 f_c_0 f_c_1 l_a l_c
  clear hb KB K_a K_c
  have z_u8 := HB.size
  have c_a_0 := H_a.cell 0; have f_a_0 := H_a.free 0; have c_a_1 := H_a.cell 1; have f_a_1 := H_a.free 1
  simp only [List.set_cons_zero, List.set_cons_succ, List.getElem?_cons_zero, List.getElem?_cons_succ] at c_a_0 c_a_1
  have c_c_0 := H_c.cell 0; have f_c_0 := H_c.free 0; have c_c_1 := H_c.cell 1; have f_c_1 := H_c.free 1
  simp only [List.set_cons_zero, List.set_cons_succ, List.getElem?_cons_zero, List.getElem?_cons_succ] at c_c_0 c_c_1
  have l_a := H_a.lt; have K_a := Lib.hid H_a; clear H_a
  have l_c := H_c.lt; have K_c := Lib.hid H_c; clear H_c
  have KB := Lib.hid HB; clear HB
  go_wp2_with fail
  refine (promise_is ⟨_, _⟩ ⟨_, _⟩ 2 1 false (by rfl) _).mono ?_
  rintro e9 u9 ⟨rfl, hb⟩
  have H_a : Whole u9 (u3.heap.size) 23 _ := Whole.below K_a.out hb (by first | omega | (simp; done) | (simp; omega) | (simp at *; omega))
  have H_c : Whole u9 (u6.heap.size) 23 _ := Whole.below K_c.out hb (by first | omega | (simp; done) | (simp; omega) | (simp at *; omega))
  have HB := KB.out.trans (hb.mono (by first | omega | (simp; done) | (simp; omega) | (simp at *; omega)))
  clear c_a_0 c_a_1 f_a_0 f_a_1 c_c_0 c_c_1 f_c_0 f_c_1 l_a l_c
  clear hb KB K_a K_c
  have z_u9 := HB.size
  have c_a_0 := H_a.cell 0; have f_a_0 := H_a.free 0; have c_a_1 := H_a.cell 1; have f_a_1 := H_a.free 1
  simp only [List.set_cons_zero, List.set_cons_succ, List.getElem?_cons_zero, List.getElem?_cons_succ] at c_a_0 c_a_1
  have c_c_0 := H_c.cell 0; have f_c_0 := H_c.free 0; have c_c_1 := H_c.cell 1; have f_c_1 := H_c.free 1
  simp only [List.set_cons_zero, List.set_cons_succ, List.getElem?_cons_zero, List.getElem?_cons_succ] at c_c_0 c_c_1
  have l_a := H_a.lt; have K_a := Lib.hid H_a; clear H_a
  have l_c := H_c.lt; have K_c := Lib.hid H_c; clear H_c
  have KB := Lib.hid HB; clear HB
  go_wp2_with fail
  refine (of_any _ _ _).mono ?_
  rintro e10 u10 ⟨rfl, hb⟩
  have H_a : Whole u10 (u3.heap.size) 23 _ := Whole.below (K_a.out.alloc _) hb (by first | omega | (simp; done) | (simp; omega) | (simp at *; omega))
  have H_c : Whole u10 (u6.heap.size) 23 _ := Whole.below (K_c.out.alloc _) hb (by first | omega | (simp; done) | (simp; omega) | (simp at *; omega))
  have H_e : Whole u10 (u9.heap.size) 23 _ := Whole.below (Whole.new _ 23 _) hb (by first | omega | (simp; done) | (simp; omega) | (simp at *; omega))
  have HB := (KB.out.alloc (by first | omega | (simp; done) | (simp; omega) | (simp at *; omega)) _).trans (hb.mono (by first | omega | (simp; done) | (simp; omega) | (simp at *; omega)))
  clear c_a_0 c_a_1 f_a_0 f_a_1 c_c_0 c_c_1 f_c_0 f_c_1
  clear hb KB K_a K_c
  have z_u10 := HB.size
  have c_a_0 := H_a.cell 0; have f_a_0 := H_a.free 0; have c_a_1 := H_a.cell 1; have f_a_1 := H_a.free 1
  simp only [List.set_cons_zero, List.set_cons_succ, List.getElem?_cons_zero, List.getElem?_cons_succ] at c_a_0 c_a_1
  have c_c_0 := H_c.cell 0; have f_c_0 := H_c.free 0; have c_c_1 := H_c.cell 1; have f_c_1 := H_c.free 1
  simp only [List.set_cons_zero, List.set_cons_succ, List.getElem?_cons_zero, List.getElem?_cons_succ] at c_c_0 c_c_1
  have c_e_0 := H_e.cell 0; have f_e_0 := H_e.free 0; have c_e_1 := H_e.cell 1; have f_e_1 := H_e.free 1
  simp only [List.set_cons_zero, List.set_cons_succ, List.getElem?_cons_zero, List.getElem?_cons_succ] at c_e_0 c_e_1
  have l_a := H_a.lt; have K_a := Lib.hid H_a; clear H_a
  have l_c := H_c.lt; have K_c := Lib.hid H_c; clear H_c
  have l_e := H_e.lt; have K_e := Lib.hid H_e; clear H_e
  have KB := Lib.hid HB; clear HB
  go_wp2_with fail
  refine (of_any _ _ _).mono ?_
  rintro e11 u11 ⟨rfl, hb⟩
  have H_a : Whole u11 (u3.heap.size) 23 _ := Whole.below K_a.out hb (by first | omega | (simp; done) | (simp; omega) | (simp at *; omega))
  have H_c : Whole u11 (u6.heap.size) 23 _ := Whole.below K_c.out hb (by first | omega | (simp; done) | (simp; omega) | (simp at *; omega))
  have H_e : Whole u11 (u9.heap.size) 23 _ := Whole.below K_e.out hb (by first | omega | (simp; done) | (simp; omega) | (simp at *; omega))
  have HB := KB.out.trans (hb.mono (by first | omega | (simp; done) | (simp; omega) | (simp at *; omega)))
  clear c_a_0 c_a_1 f_a_0 f_a_1 c_c_0 c_c_1 f_c_0 f_c_1 c_e_0 c_e_1 f_e_0 f_e_1 l_a l_c l_e
  clear hb KB K_a K_c K_e
  have z_u11 := HB.size
  have c_a_0 := H_a.cell 0; have f_a_0 := H_a.free 0; have c_a_1 := H_a.cell 1; have f_a_1 := H_a.free 1
  simp only [List.set_cons_zero, List.set_cons_succ, List.getElem?_cons_zero, List.getElem?_cons_succ] at c_a_0 c_a_1
  have c_c_0 := H_c.cell 0; have f_c_0 := H_c.free 0; have c_c_1 := H_c.cell 1; have f_c_1 := H_c.free 1
  simp only [List.set_cons_zero, List.set_cons_succ, List.getElem?_cons_zero, List.getElem?_cons_succ] at c_c_0 c_c_1
  have c_e_0 := H_e.cell 0; have f_e_0 := H_e.free 0; have c_e_1 := H_e.cell 1; have f_e_1 := H_e.free 1
  simp only [List.set_cons_zero, List.set_cons_succ, List.getElem?_cons_zero, List.getElem?_cons_succ] at c_e_0 c_e_1
  have l_a := H_a.lt; have K_a := Lib.hid H_a; clear H_a
  have l_c := H_c.lt; have K_c := Lib.hid H_c; clear H_c
  have l_e := H_e.lt; have K_e := Lib.hid H_e; clear H_e
  have KB := Lib.hid HB; clear HB
  go_wp2_with fail
  refine (promise_is ⟨_, _⟩ ⟨_, _⟩ 2 1 false (by rfl) _).mono ?_
  rintro e12 u12 ⟨rfl, hb⟩
  have H_a : Whole u12 (u3.heap.size) 23 _ := Whole.below K_a.out hb (by first | omega | (simp; done) | (simp; omega) | (simp at *; omega))
  have H_c : Whole u12 (u6.heap.size) 23 _ := Whole.below K_c.out hb (by first | omega | (simp; done) | (simp; omega) | (simp at *; omega))
  have H_e : Whole u12 (u9.heap.size) 23 _ := Whole.below K_e.out hb (by first | omega | (simp; done) | (simp; omega) | (simp at *; omega))
  have HB := KB.out.trans (hb.mono (by first | omega | (simp; done) | (simp; omega) | (simp at *; omega)))
  clear c_a_0 c_a_1 f_a_0 f_a_1 c_c_0 c_c_1 f_c_0 f_c_1 c_e_0 c_e_1 f_e_0 f_e_1 l_a l_c l_e
  clear hb KB K_a K_c K_e
  have z_u12 := HB.size
  have c_a_0 := H_a.cell 0; have f_a_0 := H_a.free 0; have c_a_1 := H_a.cell 1; have f_a_1 := H_a.free 1
  simp only [List.set_cons_zero, List.set_cons_succ, List.getElem?_cons_zero, List.getElem?_cons_succ] at c_a_0 c_a_1
  have c_c_0 := H_c.cell 0; have f_c_0 := H_c.free 0; have c_c_1 := H_c.cell 1; have f_c_1 := H_c.free 1
  simp only [List.set_cons_zero, List.set_cons_succ, List.getElem?_cons_zero, List.getElem?_cons_succ] at c_c_0 c_c_1
  have c_e_0 := H_e.cell 0; have f_e_0 := H_e.free 0; have c_e_1 := H_e.cell 1; have f_e_1 := H_e.free 1
  simp only [List.set_cons_zero, List.set_cons_succ, List.getElem?_cons_zero, List.getElem?_cons_succ] at c_e_0 c_e_1
  have l_a := H_a.lt; have K_a := Lib.hid H_a; clear H_a
  have l_c := H_c.lt; have K_c := Lib.hid H_c; clear H_c
  have l_e := H_e.lt; have K_e := Lib.hid H_e; clear H_e
  have KB := Lib.hid HB; clear HB
  go_wp2_with fail
  refine (where_is _ _ 0 0 (by rfl) _).mono ?_
  rintro e13 u13 ⟨rfl, rfl⟩
  go_wp2_with fail
  refine (where_is _ _ 1 0 (by rfl) _).mono ?_
  rintro e14 u14 ⟨rfl, rfl⟩
  go_wp2_with fail
  refine (where_is _ _ 1 0 (by rfl) _).mono ?_
  rintro e15 u15 ⟨rfl, rfl⟩
  go_wp2_with fail
  refine (where_is _ _ 2 0 (by rfl) _).mono ?_
  rintro e16 u16 ⟨rfl, rfl⟩
  go_wp2_with fail
  refine (where_is _ _ 0 2 (by rfl) _).mono ?_
  rintro e17 u17 ⟨rfl, rfl⟩
  go_wp2_with fail
  obtain ⟨W18, hW⟩ : ∃ W : World, W = (u12.alloc (.cells #[.int .i64 2, .int .i64 1] 23)) := ⟨_, rfl⟩
  have H_a : Whole W18 (u3.heap.size) 23 [.int .i64 2, .int .i64 1] := by rw [hW]; exact (K_a.out.alloc _)
  have H_c : Whole W18 (u6.heap.size) 23 [.int .i64 3, .int .i64 0] := by rw [hW]; exact (K_c.out.alloc _)
  have H_e : Whole W18 (u9.heap.size) 23 [.int .i64 2, .int .i64 1] := by rw [hW]; exact (K_e.out.alloc _)
  have H_g : Whole W18 (u12.heap.size) 23 [.int .i64 2, .int .i64 1] := by rw [hW]; exact (Whole.new _ 23 _)
  have HB : Below w.heap.size w W18 := by rw [hW]; exact (KB.out.alloc (by first | omega | (simp; done) | (simp; omega) | (simp at *; omega)) _)
  rw [← hW]
  clear c_a_0 c_a_1 f_a_0 f_a_1 c_c_0 c_c_1 f_c_0 f_c_1 c_e_0 c_e_1 f_e_0 f_e_1
  clear hW KB K_a K_c K_e
  have z_W18 := HB.size
  have c_a_0 := H_a.cell 0; have f_a_0 := H_a.free 0; have c_a_1 := H_a.cell 1; have f_a_1 := H_a.free 1
  simp only [List.set_cons_zero, List.set_cons_succ, List.getElem?_cons_zero, List.getElem?_cons_succ] at c_a_0 c_a_1
  have c_c_0 := H_c.cell 0; have f_c_0 := H_c.free 0; have c_c_1 := H_c.cell 1; have f_c_1 := H_c.free 1
  simp only [List.set_cons_zero, List.set_cons_succ, List.getElem?_cons_zero, List.getElem?_cons_succ] at c_c_0 c_c_1
  have c_e_0 := H_e.cell 0; have f_e_0 := H_e.free 0; have c_e_1 := H_e.cell 1; have f_e_1 := H_e.free 1
  simp only [List.set_cons_zero, List.set_cons_succ, List.getElem?_cons_zero, List.getElem?_cons_succ] at c_e_0 c_e_1
  have c_g_0 := H_g.cell 0; have f_g_0 := H_g.free 0; have c_g_1 := H_g.cell 1; have f_g_1 := H_g.free 1
  simp only [List.set_cons_zero, List.set_cons_succ, List.getElem?_cons_zero, List.getElem?_cons_succ] at c_g_0 c_g_1
  have l_a := H_a.lt; have K_a := Lib.hid H_a; clear H_a
  have l_c := H_c.lt; have K_c := Lib.hid H_c; clear H_c
  have l_e := H_e.lt; have K_e := Lib.hid H_e; clear H_e
  have l_g := H_g.lt; have K_g := Lib.hid H_g; clear H_g
  have KB := Lib.hid HB; clear HB
  have SOF : Hid (∀ u : World, Hid (Known u [(u3.heap.size, 23, [.int .i64 2, .int .i64 1]), (u6.heap.size, 23, [.int .i64 3, .int .i64 0]), (u9.heap.size, 23, [.int .i64 2, .int .i64 1])]) → (fun u : World => (u.cell? ⟨u3.heap.size, 0, none⟩ = some (.int .i64 2) ∧ u.cell? ⟨u3.heap.size, 1, none⟩ = some (.int .i64 1) ∧ u.cell? ⟨u6.heap.size, 0, none⟩ = some (.int .i64 3) ∧ u.cell? ⟨u6.heap.size, 1, none⟩ = some (.int .i64 0) ∧ u.cell? ⟨u9.heap.size, 0, none⟩ = some (.int .i64 2) ∧ u.cell? ⟨u9.heap.size, 1, none⟩ = some (.int .i64 1)) ∧ Hid (Known u [(u3.heap.size, 23, [.int .i64 2, .int .i64 1]), (u6.heap.size, 23, [.int .i64 3, .int .i64 0]), (u9.heap.size, 23, [.int .i64 2, .int .i64 1])])) u) := fun u h => ⟨⟨(h.out.head.cell 0), (h.out.head.cell 1), (h.out.tail.head.cell 0), (h.out.tail.head.cell 1), (h.out.tail.tail.head.cell 0), (h.out.tail.tail.head.cell 1)⟩, h⟩
  refine wp_region_held_drew (S := (fun u : World => (u.cell? ⟨u3.heap.size, 0, none⟩ = some (.int .i64 2) ∧ u.cell? ⟨u3.heap.size, 1, none⟩ = some (.int .i64 1) ∧ u.cell? ⟨u6.heap.size, 0, none⟩ = some (.int .i64 3) ∧ u.cell? ⟨u6.heap.size, 1, none⟩ = some (.int .i64 0) ∧ u.cell? ⟨u9.heap.size, 0, none⟩ = some (.int .i64 2) ∧ u.cell? ⟨u9.heap.size, 1, none⟩ = some (.int .i64 1)) ∧ Hid (Known u [(u3.heap.size, 23, [.int .i64 2, .int .i64 1]), (u6.heap.size, 23, [.int .i64 3, .int .i64 0]), (u9.heap.size, 23, [.int .i64 2, .int .i64 1])]))) (by kernel_rfl) (SOF.out _ (Known.add (K_a.out.drew) (Known.add (K_c.out.drew) (Known.add (K_e.out.drew) (Known.nil _))))) (fun HS => ?_)
  refine handTake 0 (some 63) ?_ rfl rfl (by kernel_rfl) (by kernel_rfl) (by kernel_rfl) (fun _ _ _ h => h) (by rfl) ?_ HS ?_
  rotate_left
  · (intro u hu; (try dsimp only at hu); go_simp; try with_reducible rfl)
  simp only [Act.put, List.setIfInBounds_toArray, List.set_cons_zero, List.set_cons_succ]
  refine wpAnyH_ready (rs := [1]) (by kernel_rfl) (by simp) ?_
  refine AllReadyH.cons rfl (fun K hK => ?_) AllReadyH.nil
  go_simp
  clear HS
  refine (of_any _ _ _).mono ?_
  rintro e19 u19 ⟨rfl, hb⟩
  have H_a : Whole u19 (u3.heap.size) 23 _ := Whole.below (K_a.out.drew) hb (by first | omega | (simp; done) | (simp; omega) | (simp at *; omega))
  have H_c : Whole u19 (u6.heap.size) 23 _ := Whole.below (K_c.out.drew) hb (by first | omega | (simp; done) | (simp; omega) | (simp at *; omega))
  have H_e : Whole u19 (u9.heap.size) 23 _ := Whole.below (K_e.out.drew) hb (by first | omega | (simp; done) | (simp; omega) | (simp at *; omega))
  have H_g : Whole u19 (u12.heap.size) 23 _ := Whole.below (K_g.out.drew) hb (by first | omega | (simp; done) | (simp; omega) | (simp at *; omega))
  have HB := (KB.out.drew).trans (hb.mono (by first | omega | (simp; done) | (simp; omega) | (simp at *; omega)))
  clear c_a_0 c_a_1 f_a_0 f_a_1 c_c_0 c_c_1 f_c_0 f_c_1 c_e_0 c_e_1 f_e_0 f_e_1 c_g_0 c_g_1 f_g_0 f_g_1 l_a l_c l_e l_g
  clear hb KB K_a K_c K_e K_g
  have z_u19 := HB.size
  have c_a_0 := H_a.cell 0; have f_a_0 := H_a.free 0; have c_a_1 := H_a.cell 1; have f_a_1 := H_a.free 1
  simp only [List.set_cons_zero, List.set_cons_succ, List.getElem?_cons_zero, List.getElem?_cons_succ] at c_a_0 c_a_1
  have c_c_0 := H_c.cell 0; have f_c_0 := H_c.free 0; have c_c_1 := H_c.cell 1; have f_c_1 := H_c.free 1
  simp only [List.set_cons_zero, List.set_cons_succ, List.getElem?_cons_zero, List.getElem?_cons_succ] at c_c_0 c_c_1
  have c_e_0 := H_e.cell 0; have f_e_0 := H_e.free 0; have c_e_1 := H_e.cell 1; have f_e_1 := H_e.free 1
  simp only [List.set_cons_zero, List.set_cons_succ, List.getElem?_cons_zero, List.getElem?_cons_succ] at c_e_0 c_e_1
  have c_g_0 := H_g.cell 0; have f_g_0 := H_g.free 0; have c_g_1 := H_g.cell 1; have f_g_1 := H_g.free 1
  simp only [List.set_cons_zero, List.set_cons_succ, List.getElem?_cons_zero, List.getElem?_cons_succ] at c_g_0 c_g_1
  have l_a := H_a.lt; have K_a := Lib.hid H_a; clear H_a
  have l_c := H_c.lt; have K_c := Lib.hid H_c; clear H_c
  have l_e := H_e.lt; have K_e := Lib.hid H_e; clear H_e
  have l_g := H_g.lt; have K_g := Lib.hid H_g; clear H_g
  have KB := Lib.hid HB; clear HB
  have HS' := Lib.hid (SOF.out _ (Known.add K_a.out (Known.add K_c.out (Known.add K_e.out (Known.nil _)))))
  go_wp2_with fail
  refine hK.out _ _ HS'.out (fun HS => ?_)
  clear hK HS'
  try simp only [Act.put, List.setIfInBounds_toArray, List.set_cons_zero, List.set_cons_succ]
  refine handTake 2 (some 65) ?_ rfl rfl (by kernel_rfl) (by kernel_rfl) (by kernel_rfl) (fun _ _ _ h => h) (by rfl) ?_ HS ?_
  rotate_left
  · (intro u hu; (try dsimp only at hu); go_simp; try with_reducible rfl)
  simp only [Act.put, List.setIfInBounds_toArray, List.set_cons_zero, List.set_cons_succ]
  refine handTake 3 (some 66) ?_ rfl rfl (by kernel_rfl) (by kernel_rfl) (by kernel_rfl) (fun _ _ _ h => h) (by rfl) ?_ HS ?_
  rotate_left
  · (intro u hu; (try dsimp only at hu); go_simp; try with_reducible rfl)
  simp only [Act.put, List.setIfInBounds_toArray, List.set_cons_zero, List.set_cons_succ]
  refine handTake 4 (some 67) ?_ rfl rfl (by kernel_rfl) (by kernel_rfl) (by kernel_rfl) (fun _ _ _ h => h) (by rfl) ?_ HS ?_
  rotate_left
  · (intro u hu; (try dsimp only at hu); go_simp; try with_reducible rfl)
  simp only [Act.put, List.setIfInBounds_toArray, List.set_cons_zero, List.set_cons_succ]
  refine handTake 5 (some 68) ?_ rfl rfl (by kernel_rfl) (by kernel_rfl) (by kernel_rfl) (fun _ _ _ h => h) (by rfl) ?_ HS ?_
  rotate_left
  · (intro u hu; (try dsimp only at hu); go_simp; try with_reducible rfl)
  simp only [Act.put, List.setIfInBounds_toArray, List.set_cons_zero, List.set_cons_succ]
  refine handTake 6 (some 69) ?_ rfl rfl (by kernel_rfl) (by kernel_rfl) (by kernel_rfl) (fun _ _ _ h => h) (by rfl) ?_ HS ?_
  rotate_left
  · (intro u hu; (try dsimp only at hu); go_simp; try with_reducible rfl)
  simp only [Act.put, List.setIfInBounds_toArray, List.set_cons_zero, List.set_cons_succ]
  refine handTake 7 (some 70) ?_ rfl rfl (by kernel_rfl) (by kernel_rfl) (by kernel_rfl) (fun _ _ _ h => h) (by rfl) ?_ HS ?_
  rotate_left
  · (intro u hu; (try dsimp only at hu); go_simp; try with_reducible rfl)
  simp only [Act.put, List.setIfInBounds_toArray, List.set_cons_zero, List.set_cons_succ]
  refine wpAnyH_ready (rs := [8]) (by kernel_rfl) (by simp) ?_
  refine AllReadyH.cons rfl (fun K hK => ?_) AllReadyH.nil
  go_simp
  clear HS
  refine (of_any _ _ _).mono ?_
  rintro e20 u20 ⟨rfl, hb⟩
  have H_a : Whole u20 (u3.heap.size) 23 _ := Whole.below K_a.out hb (by first | omega | (simp; done) | (simp; omega) | (simp at *; omega))
  have H_c : Whole u20 (u6.heap.size) 23 _ := Whole.below K_c.out hb (by first | omega | (simp; done) | (simp; omega) | (simp at *; omega))
  have H_e : Whole u20 (u9.heap.size) 23 _ := Whole.below K_e.out hb (by first | omega | (simp; done) | (simp; omega) | (simp at *; omega))
  have H_g : Whole u20 (u12.heap.size) 23 _ := Whole.below K_g.out hb (by first | omega | (simp; done) | (simp; omega) | (simp at *; omega))
  have HB := KB.out.trans (hb.mono (by first | omega | (simp; done) | (simp; omega) | (simp at *; omega)))
  clear c_a_0 c_a_1 f_a_0 f_a_1 c_c_0 c_c_1 f_c_0 f_c_1 c_e_0 c_e_1 f_e_0 f_e_1 c_g_0 c_g_1 f_g_0 f_g_1 l_a l_c l_e l_g
  clear hb KB K_a K_c K_e K_g
  have z_u20 := HB.size
  have c_a_0 := H_a.cell 0; have f_a_0 := H_a.free 0; have c_a_1 := H_a.cell 1; have f_a_1 := H_a.free 1
  simp only [List.set_cons_zero, List.set_cons_succ, List.getElem?_cons_zero, List.getElem?_cons_succ] at c_a_0 c_a_1
  have c_c_0 := H_c.cell 0; have f_c_0 := H_c.free 0; have c_c_1 := H_c.cell 1; have f_c_1 := H_c.free 1
  simp only [List.set_cons_zero, List.set_cons_succ, List.getElem?_cons_zero, List.getElem?_cons_succ] at c_c_0 c_c_1
  have c_e_0 := H_e.cell 0; have f_e_0 := H_e.free 0; have c_e_1 := H_e.cell 1; have f_e_1 := H_e.free 1
  simp only [List.set_cons_zero, List.set_cons_succ, List.getElem?_cons_zero, List.getElem?_cons_succ] at c_e_0 c_e_1
  have c_g_0 := H_g.cell 0; have f_g_0 := H_g.free 0; have c_g_1 := H_g.cell 1; have f_g_1 := H_g.free 1
  simp only [List.set_cons_zero, List.set_cons_succ, List.getElem?_cons_zero, List.getElem?_cons_succ] at c_g_0 c_g_1
  have l_a := H_a.lt; have K_a := Lib.hid H_a; clear H_a
  have l_c := H_c.lt; have K_c := Lib.hid H_c; clear H_c
  have l_e := H_e.lt; have K_e := Lib.hid H_e; clear H_e
  have l_g := H_g.lt; have K_g := Lib.hid H_g; clear H_g
  have KB := Lib.hid HB; clear HB
  have HS' := Lib.hid (SOF.out _ (Known.add K_a.out (Known.add K_c.out (Known.add K_e.out (Known.nil _)))))
  go_wp2_with fail
  refine hK.out _ _ HS'.out (fun HS => ?_)
  clear hK HS'
  try simp only [Act.put, List.setIfInBounds_toArray, List.set_cons_zero, List.set_cons_succ]
  refine handTake 9 (some 72) ?_ rfl rfl (by kernel_rfl) (by kernel_rfl) (by kernel_rfl) (fun _ _ _ h => h) (by rfl) ?_ HS ?_
  rotate_left
  · (intro u hu; (try dsimp only at hu); go_simp; try with_reducible rfl)
  simp only [Act.put, List.setIfInBounds_toArray, List.set_cons_zero, List.set_cons_succ]
  refine handTake 10 (some 73) ?_ rfl rfl (by kernel_rfl) (by kernel_rfl) (by kernel_rfl) (fun _ _ _ h => h) (by rfl) ?_ HS ?_
  rotate_left
  · (intro u hu; (try dsimp only at hu); go_simp; try with_reducible rfl)
  simp only [Act.put, List.setIfInBounds_toArray, List.set_cons_zero, List.set_cons_succ]
  refine handTake 11 (some 74) ?_ rfl rfl (by kernel_rfl) (by kernel_rfl) (by kernel_rfl) (fun _ _ _ h => h) (by rfl) ?_ HS ?_
  rotate_left
  · (intro u hu; (try dsimp only at hu); go_simp; try with_reducible rfl)
  simp only [Act.put, List.setIfInBounds_toArray, List.set_cons_zero, List.set_cons_succ]
  refine handTake 12 (some 75) ?_ rfl rfl (by kernel_rfl) (by kernel_rfl) (by kernel_rfl) (fun _ _ _ h => h) (by rfl) ?_ HS ?_
  rotate_left
  · (intro u hu; (try dsimp only at hu); go_simp; try with_reducible rfl)
  simp only [Act.put, List.setIfInBounds_toArray, List.set_cons_zero, List.set_cons_succ]
  refine handTake 13 (some 76) ?_ rfl rfl (by kernel_rfl) (by kernel_rfl) (by kernel_rfl) (fun _ _ _ h => h) (by rfl) ?_ HS ?_
  rotate_left
  · (intro u hu; (try dsimp only at hu); go_simp; try with_reducible rfl)
  simp only [Act.put, List.setIfInBounds_toArray, List.set_cons_zero, List.set_cons_succ]
  refine handTake 14 (some 77) ?_ rfl rfl (by kernel_rfl) (by kernel_rfl) (by kernel_rfl) (fun _ _ _ h => h) (by rfl) ?_ HS ?_
  rotate_left
  · (intro u hu; (try dsimp only at hu); go_simp; try with_reducible rfl)
  simp only [Act.put, List.setIfInBounds_toArray, List.set_cons_zero, List.set_cons_succ]
  refine handTake 15 (some 78) ?_ rfl rfl (by kernel_rfl) (by kernel_rfl) (by kernel_rfl) (fun _ _ _ h => h) (by rfl) ?_ HS ?_
  rotate_left
  · (intro u hu; (try dsimp only at hu); go_simp; try with_reducible rfl)
  simp only [Act.put, List.setIfInBounds_toArray, List.set_cons_zero, List.set_cons_succ]
  refine wpAnyH_ready (rs := [16]) (by kernel_rfl) (by simp) ?_
  refine AllReadyH.cons rfl (fun K hK => ?_) AllReadyH.nil
  go_simp
  clear HS
  refine (of_any _ _ _).mono ?_
  rintro e21 u21 ⟨rfl, hb⟩
  have H_a : Whole u21 (u3.heap.size) 23 _ := Whole.below K_a.out hb (by first | omega | (simp; done) | (simp; omega) | (simp at *; omega))
  have H_c : Whole u21 (u6.heap.size) 23 _ := Whole.below K_c.out hb (by first | omega | (simp; done) | (simp; omega) | (simp at *; omega))
  have H_e : Whole u21 (u9.heap.size) 23 _ := Whole.below K_e.out hb (by first | omega | (simp; done) | (simp; omega) | (simp at *; omega))
  have H_g : Whole u21 (u12.heap.size) 23 _ := Whole.below K_g.out hb (by first | omega | (simp; done) | (simp; omega) | (simp at *; omega))
  have HB := KB.out.trans (hb.mono (by first | omega | (simp; done) | (simp; omega) | (simp at *; omega)))
  clear c_a_0 c_a_1 f_a_0 f_a_1 c_c_0 c_c_1 f_c_0 f_c_1 c_e_0 c_e_1 f_e_0 f_e_1 c_g_0 c_g_1 f_g_0 f_g_1 l_a l_c l_e l_g
  clear hb KB K_a K_c K_e K_g
  have z_u21 := HB.size
  have c_a_0 := H_a.cell 0; have f_a_0 := H_a.free 0; have c_a_1 := H_a.cell 1; have f_a_1 := H_a.free 1
  simp only [List.set_cons_zero, List.set_cons_succ, List.getElem?_cons_zero, List.getElem?_cons_succ] at c_a_0 c_a_1
  have c_c_0 := H_c.cell 0; have f_c_0 := H_c.free 0; have c_c_1 := H_c.cell 1; have f_c_1 := H_c.free 1
  simp only [List.set_cons_zero, List.set_cons_succ, List.getElem?_cons_zero, List.getElem?_cons_succ] at c_c_0 c_c_1
  have c_e_0 := H_e.cell 0; have f_e_0 := H_e.free 0; have c_e_1 := H_e.cell 1; have f_e_1 := H_e.free 1
  simp only [List.set_cons_zero, List.set_cons_succ, List.getElem?_cons_zero, List.getElem?_cons_succ] at c_e_0 c_e_1
  have c_g_0 := H_g.cell 0; have f_g_0 := H_g.free 0; have c_g_1 := H_g.cell 1; have f_g_1 := H_g.free 1
  simp only [List.set_cons_zero, List.set_cons_succ, List.getElem?_cons_zero, List.getElem?_cons_succ] at c_g_0 c_g_1
  have l_a := H_a.lt; have K_a := Lib.hid H_a; clear H_a
  have l_c := H_c.lt; have K_c := Lib.hid H_c; clear H_c
  have l_e := H_e.lt; have K_e := Lib.hid H_e; clear H_e
  have l_g := H_g.lt; have K_g := Lib.hid H_g; clear H_g
  have KB := Lib.hid HB; clear HB
  have HS' := Lib.hid (SOF.out _ (Known.add K_a.out (Known.add K_c.out (Known.add K_e.out (Known.nil _)))))
  go_wp2_with fail
  refine hK.out _ _ HS'.out (fun HS => ?_)
  clear hK HS'
  try simp only [Act.put, List.setIfInBounds_toArray, List.set_cons_zero, List.set_cons_succ]
  refine handTake 17 (some 80) ?_ rfl rfl (by kernel_rfl) (by kernel_rfl) (by kernel_rfl) (fun _ _ _ h => h) (by rfl) ?_ HS ?_
  rotate_left
  · (intro u hu; (try dsimp only at hu); go_simp; try with_reducible rfl)
  simp only [Act.put, List.setIfInBounds_toArray, List.set_cons_zero, List.set_cons_succ]
  refine handTake 18 (some 81) ?_ rfl rfl (by kernel_rfl) (by kernel_rfl) (by kernel_rfl) (fun _ _ _ h => h) (by rfl) ?_ HS ?_
  rotate_left
  · (intro u hu; (try dsimp only at hu); go_simp; try with_reducible rfl)
  simp only [Act.put, List.setIfInBounds_toArray, List.set_cons_zero, List.set_cons_succ]
  refine handTake 19 (some 82) ?_ rfl rfl (by kernel_rfl) (by kernel_rfl) (by kernel_rfl) (fun _ _ _ h => h) (by rfl) ?_ HS ?_
  rotate_left
  · (intro u hu; (try dsimp only at hu); go_simp; try with_reducible rfl)
  simp only [Act.put, List.setIfInBounds_toArray, List.set_cons_zero, List.set_cons_succ]
  refine handTake 20 (some 83) ?_ rfl rfl (by kernel_rfl) (by kernel_rfl) (by kernel_rfl) (fun _ _ _ h => h) (by rfl) ?_ HS ?_
  rotate_left
  · (intro u hu; (try dsimp only at hu); go_simp; try with_reducible rfl)
  simp only [Act.put, List.setIfInBounds_toArray, List.set_cons_zero, List.set_cons_succ]
  refine handTake 21 (some 84) ?_ rfl rfl (by kernel_rfl) (by kernel_rfl) (by kernel_rfl) (fun _ _ _ h => h) (by rfl) ?_ HS ?_
  rotate_left
  · (intro u hu; (try dsimp only at hu); go_simp; try with_reducible rfl)
  simp only [Act.put, List.setIfInBounds_toArray, List.set_cons_zero, List.set_cons_succ]
  refine handTake 22 (some 85) ?_ rfl rfl (by kernel_rfl) (by kernel_rfl) (by kernel_rfl) (fun _ _ _ h => h) (by rfl) ?_ HS ?_
  rotate_left
  · (intro u hu; (try dsimp only at hu); go_simp; try with_reducible rfl)
  simp only [Act.put, List.setIfInBounds_toArray, List.set_cons_zero, List.set_cons_succ]
  refine handTake 23 (some 86) ?_ rfl rfl (by kernel_rfl) (by kernel_rfl) (by kernel_rfl) (fun _ _ _ h => h) (by rfl) ?_ HS ?_
  rotate_left
  · (intro u hu; (try dsimp only at hu); go_simp; try with_reducible rfl)
  simp only [Act.put, List.setIfInBounds_toArray, List.set_cons_zero, List.set_cons_succ]
  refine handTake 24 (some 87) ?_ rfl rfl (by kernel_rfl) (by kernel_rfl) (by kernel_rfl) (fun _ _ _ h => h) (by rfl) ?_ HS ?_
  rotate_left
  · (intro u hu; (try dsimp only at hu); go_simp; try with_reducible rfl)
  simp only [Act.put, List.setIfInBounds_toArray, List.set_cons_zero, List.set_cons_succ]
  refine handTake 25 (some 88) ?_ rfl rfl (by kernel_rfl) (by kernel_rfl) (by kernel_rfl) (fun _ _ _ h => h) (by rfl) ?_ HS ?_
  rotate_left
  · (intro u hu; (try dsimp only at hu); go_simp; try with_reducible rfl)
  simp only [Act.put, List.setIfInBounds_toArray, List.set_cons_zero, List.set_cons_succ]
  refine handTake 26 (some 89) ?_ rfl rfl (by kernel_rfl) (by kernel_rfl) (by kernel_rfl) (fun _ _ _ h => h) (by rfl) ?_ HS ?_
  rotate_left
  · (intro u hu; (try dsimp only at hu); go_simp; try with_reducible rfl)
  simp only [Act.put, List.setIfInBounds_toArray, List.set_cons_zero, List.set_cons_succ]
  refine handTake 27 (some 90) ?_ rfl rfl (by kernel_rfl) (by kernel_rfl) (by kernel_rfl) (fun _ _ _ h => h) (by rfl) ?_ HS ?_
  rotate_left
  · (intro u hu; (try dsimp only at hu); go_simp; try with_reducible rfl)
  simp only [Act.put, List.setIfInBounds_toArray, List.set_cons_zero, List.set_cons_succ]
  refine handTake 28 (some 91) ?_ rfl rfl (by kernel_rfl) (by kernel_rfl) (by kernel_rfl) (fun _ _ _ h => h) (by rfl) ?_ HS ?_
  rotate_left
  · (intro u hu; (try dsimp only at hu); go_simp; try with_reducible rfl)
  simp only [Act.put, List.setIfInBounds_toArray, List.set_cons_zero, List.set_cons_succ]
  refine handTake 29 (some 92) ?_ rfl rfl (by kernel_rfl) (by kernel_rfl) (by kernel_rfl) (fun _ _ _ h => h) (by rfl) ?_ HS ?_
  rotate_left
  · (intro u hu; (try dsimp only at hu); go_simp; try with_reducible rfl)
  simp only [Act.put, List.setIfInBounds_toArray, List.set_cons_zero, List.set_cons_succ]
  refine handTake 30 (some 93) ?_ rfl rfl (by kernel_rfl) (by kernel_rfl) (by kernel_rfl) (fun _ _ _ h => h) (by rfl) ?_ HS ?_
  rotate_left
  · (intro u hu; (try dsimp only at hu); go_simp; try with_reducible rfl)
  simp only [Act.put, List.setIfInBounds_toArray, List.set_cons_zero, List.set_cons_succ]
  refine handTake 31 (some 94) ?_ rfl rfl (by kernel_rfl) (by kernel_rfl) (by kernel_rfl) (fun _ _ _ h => h) (by rfl) ?_ HS ?_
  rotate_left
  · (intro u hu; (try dsimp only at hu); go_simp; try with_reducible rfl)
  simp only [Act.put, List.setIfInBounds_toArray, List.set_cons_zero, List.set_cons_succ]
  refine handTake 32 (some 95) ?_ rfl rfl (by kernel_rfl) (by kernel_rfl) (by kernel_rfl) (fun _ _ _ h => h) (by rfl) ?_ HS ?_
  rotate_left
  · (intro u hu; (try dsimp only at hu); go_simp; try with_reducible rfl)
  simp only [Act.put, List.setIfInBounds_toArray, List.set_cons_zero, List.set_cons_succ]
  refine handTake 33 (some 96) ?_ rfl rfl (by kernel_rfl) (by kernel_rfl) (by kernel_rfl) (fun _ _ _ h => h) (by rfl) ?_ HS ?_
  rotate_left
  · (intro u hu; (try dsimp only at hu); go_simp; try with_reducible rfl)
  simp only [Act.put, List.setIfInBounds_toArray, List.set_cons_zero, List.set_cons_succ]
  refine handTake 34 (some 97) ?_ rfl rfl (by kernel_rfl) (by kernel_rfl) (by kernel_rfl) (fun _ _ _ h => h) (by rfl) ?_ HS ?_
  rotate_left
  · (intro u hu; (try dsimp only at hu); go_simp; try with_reducible rfl)
  simp only [Act.put, List.setIfInBounds_toArray, List.set_cons_zero, List.set_cons_succ]
  refine handTake 35 (some 98) ?_ rfl rfl (by kernel_rfl) (by kernel_rfl) (by kernel_rfl) (fun _ _ _ h => h) (by rfl) ?_ HS ?_
  rotate_left
  · (intro u hu; (try dsimp only at hu); go_simp; try with_reducible rfl)
  simp only [Act.put, List.setIfInBounds_toArray, List.set_cons_zero, List.set_cons_succ]
  refine handTake 36 (some 99) ?_ rfl rfl (by kernel_rfl) (by kernel_rfl) (by kernel_rfl) (fun _ _ _ h => h) (by rfl) ?_ HS ?_
  rotate_left
  · (intro u hu; (try dsimp only at hu); go_simp; try with_reducible rfl)
  simp only [Act.put, List.setIfInBounds_toArray, List.set_cons_zero, List.set_cons_succ]
  refine handTake 37 (some 100) ?_ rfl rfl (by kernel_rfl) (by kernel_rfl) (by kernel_rfl) (fun _ _ _ h => h) (by rfl) ?_ HS ?_
  rotate_left
  · (intro u hu; (try dsimp only at hu); go_simp; try with_reducible rfl)
  simp only [Act.put, List.setIfInBounds_toArray, List.set_cons_zero, List.set_cons_succ]
  refine handTake 38 (some 101) ?_ rfl rfl (by kernel_rfl) (by kernel_rfl) (by kernel_rfl) (fun _ _ _ h => h) (by rfl) ?_ HS ?_
  rotate_left
  · (intro u hu; (try dsimp only at hu); go_simp; try with_reducible rfl)
  simp only [Act.put, List.setIfInBounds_toArray, List.set_cons_zero, List.set_cons_succ]
  refine handTake 39 (some 102) ?_ rfl rfl (by kernel_rfl) (by kernel_rfl) (by kernel_rfl) (fun _ _ _ h => h) (by rfl) ?_ HS ?_
  rotate_left
  · (intro u hu; (try dsimp only at hu); go_simp; try with_reducible rfl)
  simp only [Act.put, List.setIfInBounds_toArray, List.set_cons_zero, List.set_cons_succ]
  refine handTake 40 (some 103) ?_ rfl rfl (by kernel_rfl) (by kernel_rfl) (by kernel_rfl) (fun _ _ _ h => h) (by rfl) ?_ HS ?_
  rotate_left
  · (intro u hu; (try dsimp only at hu); go_simp; try with_reducible rfl)
  simp only [Act.put, List.setIfInBounds_toArray, List.set_cons_zero, List.set_cons_succ]
  refine handTake 41 (some 104) ?_ rfl rfl (by kernel_rfl) (by kernel_rfl) (by kernel_rfl) (fun _ _ _ h => h) (by rfl) ?_ HS ?_
  rotate_left
  · (intro u hu; (try dsimp only at hu); go_simp; try with_reducible rfl)
  simp only [Act.put, List.setIfInBounds_toArray, List.set_cons_zero, List.set_cons_succ]
  refine handTake 42 (some 105) ?_ rfl rfl (by kernel_rfl) (by kernel_rfl) (by kernel_rfl) (fun _ _ _ h => h) (by rfl) ?_ HS ?_
  rotate_left
  · (intro u hu; (try dsimp only at hu); go_simp; try with_reducible rfl)
  simp only [Act.put, List.setIfInBounds_toArray, List.set_cons_zero, List.set_cons_succ]
  refine handTake 43 (some 106) ?_ rfl rfl (by kernel_rfl) (by kernel_rfl) (by kernel_rfl) (fun _ _ _ h => h) (by rfl) ?_ HS ?_
  rotate_left
  · (intro u hu; (try dsimp only at hu); go_simp; try with_reducible rfl)
  simp only [Act.put, List.setIfInBounds_toArray, List.set_cons_zero, List.set_cons_succ]
  refine handTake 44 (some 107) ?_ rfl rfl (by kernel_rfl) (by kernel_rfl) (by kernel_rfl) (fun _ _ _ h => h) (by rfl) ?_ HS ?_
  rotate_left
  · (intro u hu; (try dsimp only at hu); go_simp; try with_reducible rfl)
  simp only [Act.put, List.setIfInBounds_toArray, List.set_cons_zero, List.set_cons_succ]
  refine handTake 45 (some 108) ?_ rfl rfl (by kernel_rfl) (by kernel_rfl) (by kernel_rfl) (fun _ _ _ h => h) (by rfl) ?_ HS ?_
  rotate_left
  · (intro u hu; (try dsimp only at hu); go_simp; try with_reducible rfl)
  simp only [Act.put, List.setIfInBounds_toArray, List.set_cons_zero, List.set_cons_succ]
  refine handTake 46 (some 109) ?_ rfl rfl (by kernel_rfl) (by kernel_rfl) (by kernel_rfl) (fun _ _ _ h => h) (by rfl) ?_ HS ?_
  rotate_left
  · (intro u hu; (try dsimp only at hu); go_simp; try with_reducible rfl)
  simp only [Act.put, List.setIfInBounds_toArray, List.set_cons_zero, List.set_cons_succ]
  refine handTake 47 (some 110) ?_ rfl rfl (by kernel_rfl) (by kernel_rfl) (by kernel_rfl) (fun _ _ _ h => h) (by rfl) ?_ HS ?_
  rotate_left
  · (intro u hu; (try dsimp only at hu); go_simp; try with_reducible rfl)
  simp only [Act.put, List.setIfInBounds_toArray, List.set_cons_zero, List.set_cons_succ]
  refine wpAnyH_ready (rs := [48]) (by kernel_rfl) (by simp) ?_
  refine AllReadyH.cons rfl (fun K hK => ?_) AllReadyH.nil
  go_simp
  clear HS
  refine (of_any _ _ _).mono ?_
  rintro e22 u22 ⟨rfl, hb⟩
  have H_a : Whole u22 (u3.heap.size) 23 _ := Whole.below K_a.out hb (by first | omega | (simp; done) | (simp; omega) | (simp at *; omega))
  have H_c : Whole u22 (u6.heap.size) 23 _ := Whole.below K_c.out hb (by first | omega | (simp; done) | (simp; omega) | (simp at *; omega))
  have H_e : Whole u22 (u9.heap.size) 23 _ := Whole.below K_e.out hb (by first | omega | (simp; done) | (simp; omega) | (simp at *; omega))
  have H_g : Whole u22 (u12.heap.size) 23 _ := Whole.below K_g.out hb (by first | omega | (simp; done) | (simp; omega) | (simp at *; omega))
  have HB := KB.out.trans (hb.mono (by first | omega | (simp; done) | (simp; omega) | (simp at *; omega)))
  clear c_a_0 c_a_1 f_a_0 f_a_1 c_c_0 c_c_1 f_c_0 f_c_1 c_e_0 c_e_1 f_e_0 f_e_1 c_g_0 c_g_1 f_g_0 f_g_1 l_a l_c l_e l_g
  clear hb KB K_a K_c K_e K_g
  have z_u22 := HB.size
  have c_a_0 := H_a.cell 0; have f_a_0 := H_a.free 0; have c_a_1 := H_a.cell 1; have f_a_1 := H_a.free 1
  simp only [List.set_cons_zero, List.set_cons_succ, List.getElem?_cons_zero, List.getElem?_cons_succ] at c_a_0 c_a_1
  have c_c_0 := H_c.cell 0; have f_c_0 := H_c.free 0; have c_c_1 := H_c.cell 1; have f_c_1 := H_c.free 1
  simp only [List.set_cons_zero, List.set_cons_succ, List.getElem?_cons_zero, List.getElem?_cons_succ] at c_c_0 c_c_1
  have c_e_0 := H_e.cell 0; have f_e_0 := H_e.free 0; have c_e_1 := H_e.cell 1; have f_e_1 := H_e.free 1
  simp only [List.set_cons_zero, List.set_cons_succ, List.getElem?_cons_zero, List.getElem?_cons_succ] at c_e_0 c_e_1
  have c_g_0 := H_g.cell 0; have f_g_0 := H_g.free 0; have c_g_1 := H_g.cell 1; have f_g_1 := H_g.free 1
  simp only [List.set_cons_zero, List.set_cons_succ, List.getElem?_cons_zero, List.getElem?_cons_succ] at c_g_0 c_g_1
  have l_a := H_a.lt; have K_a := Lib.hid H_a; clear H_a
  have l_c := H_c.lt; have K_c := Lib.hid H_c; clear H_c
  have l_e := H_e.lt; have K_e := Lib.hid H_e; clear H_e
  have l_g := H_g.lt; have K_g := Lib.hid H_g; clear H_g
  have KB := Lib.hid HB; clear HB
  have HS' := Lib.hid (SOF.out _ (Known.add K_a.out (Known.add K_c.out (Known.add K_e.out (Known.nil _)))))
  go_wp2_with fail
  refine hK.out _ _ HS'.out (fun HS => ?_)
  clear hK HS'
  try simp only [Act.put, List.setIfInBounds_toArray, List.set_cons_zero, List.set_cons_succ]
  refine wpAnyH_ready (rs := [49]) (by kernel_rfl) (by simp) ?_
  refine AllReadyH.cons rfl (fun K hK => ?_) AllReadyH.nil
  go_simp
  clear HS
  refine (of_any _ _ _).mono ?_
  rintro e23 u23 ⟨rfl, hb⟩
  have H_a : Whole u23 (u3.heap.size) 23 _ := Whole.below K_a.out hb (by first | omega | (simp; done) | (simp; omega) | (simp at *; omega))
  have H_c : Whole u23 (u6.heap.size) 23 _ := Whole.below K_c.out hb (by first | omega | (simp; done) | (simp; omega) | (simp at *; omega))
  have H_e : Whole u23 (u9.heap.size) 23 _ := Whole.below K_e.out hb (by first | omega | (simp; done) | (simp; omega) | (simp at *; omega))
  have H_g : Whole u23 (u12.heap.size) 23 _ := Whole.below K_g.out hb (by first | omega | (simp; done) | (simp; omega) | (simp at *; omega))
  have HB := KB.out.trans (hb.mono (by first | omega | (simp; done) | (simp; omega) | (simp at *; omega)))
  clear c_a_0 c_a_1 f_a_0 f_a_1 c_c_0 c_c_1 f_c_0 f_c_1 c_e_0 c_e_1 f_e_0 f_e_1 c_g_0 c_g_1 f_g_0 f_g_1 l_a l_c l_e l_g
  clear hb KB K_a K_c K_e K_g
  have z_u23 := HB.size
  have c_a_0 := H_a.cell 0; have f_a_0 := H_a.free 0; have c_a_1 := H_a.cell 1; have f_a_1 := H_a.free 1
  simp only [List.set_cons_zero, List.set_cons_succ, List.getElem?_cons_zero, List.getElem?_cons_succ] at c_a_0 c_a_1
  have c_c_0 := H_c.cell 0; have f_c_0 := H_c.free 0; have c_c_1 := H_c.cell 1; have f_c_1 := H_c.free 1
  simp only [List.set_cons_zero, List.set_cons_succ, List.getElem?_cons_zero, List.getElem?_cons_succ] at c_c_0 c_c_1
  have c_e_0 := H_e.cell 0; have f_e_0 := H_e.free 0; have c_e_1 := H_e.cell 1; have f_e_1 := H_e.free 1
  simp only [List.set_cons_zero, List.set_cons_succ, List.getElem?_cons_zero, List.getElem?_cons_succ] at c_e_0 c_e_1
  have c_g_0 := H_g.cell 0; have f_g_0 := H_g.free 0; have c_g_1 := H_g.cell 1; have f_g_1 := H_g.free 1
  simp only [List.set_cons_zero, List.set_cons_succ, List.getElem?_cons_zero, List.getElem?_cons_succ] at c_g_0 c_g_1
  have l_a := H_a.lt; have K_a := Lib.hid H_a; clear H_a
  have l_c := H_c.lt; have K_c := Lib.hid H_c; clear H_c
  have l_e := H_e.lt; have K_e := Lib.hid H_e; clear H_e
  have l_g := H_g.lt; have K_g := Lib.hid H_g; clear H_g
  have KB := Lib.hid HB; clear HB
  have HS' := Lib.hid (SOF.out _ (Known.add K_a.out (Known.add K_c.out (Known.add K_e.out (Known.nil _)))))
  go_wp2_with fail
  refine hK.out _ _ HS'.out (fun HS => ?_)
  clear hK HS'
  try simp only [Act.put, List.setIfInBounds_toArray, List.set_cons_zero, List.set_cons_succ]
  refine wpAnyH_ready (rs := [50]) (by kernel_rfl) (by simp) ?_
  refine AllReadyH.cons rfl (fun K hK => ?_) AllReadyH.nil
  go_simp
  clear HS
  refine (does_true _ _ _ _ _ _ (by rfl) _ (HT.out.below KB.out)).mono ?_
  rintro e24 u24 ⟨rfl, hb⟩
  have H_a : Whole u24 (u3.heap.size) 23 _ := Whole.below K_a.out hb (by first | omega | (simp; done) | (simp; omega) | (simp at *; omega))
  have H_c : Whole u24 (u6.heap.size) 23 _ := Whole.below K_c.out hb (by first | omega | (simp; done) | (simp; omega) | (simp at *; omega))
  have H_e : Whole u24 (u9.heap.size) 23 _ := Whole.below K_e.out hb (by first | omega | (simp; done) | (simp; omega) | (simp at *; omega))
  have H_g : Whole u24 (u12.heap.size) 23 _ := Whole.below K_g.out hb (by first | omega | (simp; done) | (simp; omega) | (simp at *; omega))
  have HB := KB.out.trans (hb.mono (by first | omega | (simp; done) | (simp; omega) | (simp at *; omega)))
  clear c_a_0 c_a_1 f_a_0 f_a_1 c_c_0 c_c_1 f_c_0 f_c_1 c_e_0 c_e_1 f_e_0 f_e_1 c_g_0 c_g_1 f_g_0 f_g_1 l_a l_c l_e l_g
  clear hb KB K_a K_c K_e K_g
  have z_u24 := HB.size
  have c_a_0 := H_a.cell 0; have f_a_0 := H_a.free 0; have c_a_1 := H_a.cell 1; have f_a_1 := H_a.free 1
  simp only [List.set_cons_zero, List.set_cons_succ, List.getElem?_cons_zero, List.getElem?_cons_succ] at c_a_0 c_a_1
  have c_c_0 := H_c.cell 0; have f_c_0 := H_c.free 0; have c_c_1 := H_c.cell 1; have f_c_1 := H_c.free 1
  simp only [List.set_cons_zero, List.set_cons_succ, List.getElem?_cons_zero, List.getElem?_cons_succ] at c_c_0 c_c_1
  have c_e_0 := H_e.cell 0; have f_e_0 := H_e.free 0; have c_e_1 := H_e.cell 1; have f_e_1 := H_e.free 1
  simp only [List.set_cons_zero, List.set_cons_succ, List.getElem?_cons_zero, List.getElem?_cons_succ] at c_e_0 c_e_1
  have c_g_0 := H_g.cell 0; have f_g_0 := H_g.free 0; have c_g_1 := H_g.cell 1; have f_g_1 := H_g.free 1
  simp only [List.set_cons_zero, List.set_cons_succ, List.getElem?_cons_zero, List.getElem?_cons_succ] at c_g_0 c_g_1
  have l_a := H_a.lt; have K_a := Lib.hid H_a; clear H_a
  have l_c := H_c.lt; have K_c := Lib.hid H_c; clear H_c
  have l_e := H_e.lt; have K_e := Lib.hid H_e; clear H_e
  have l_g := H_g.lt; have K_g := Lib.hid H_g; clear H_g
  have KB := Lib.hid HB; clear HB
  have HS' := Lib.hid (SOF.out _ (Known.add K_a.out (Known.add K_c.out (Known.add K_e.out (Known.nil _)))))
  go_wp2_with fail
  refine hK.out _ _ HS'.out (fun HS => ?_)
  clear hK HS'
  try simp only [Act.put, List.setIfInBounds_toArray, List.set_cons_zero, List.set_cons_succ]
  refine handTake 51 (some 114) ?_ rfl rfl (by kernel_rfl) (by kernel_rfl) (by kernel_rfl) (fun _ _ _ h => h) (by rfl) ?_ HS ?_
  rotate_left
  · (intro u hu; (try dsimp only at hu); go_simp; try with_reducible rfl)
  simp only [Act.put, List.setIfInBounds_toArray, List.set_cons_zero, List.set_cons_succ]
  refine handTake 52 (some 115) ?_ rfl rfl (by kernel_rfl) (by kernel_rfl) (by kernel_rfl) (fun _ _ _ h => h) (by rfl) ?_ HS ?_
  rotate_left
  · (intro u hu; (try dsimp only at hu); go_simp; try with_reducible rfl)
  simp only [Act.put, List.setIfInBounds_toArray, List.set_cons_zero, List.set_cons_succ]
  refine wpAnyH_ready (rs := [53]) (by kernel_rfl) (by simp) ?_
  refine AllReadyH.cons rfl (fun K hK => ?_) AllReadyH.nil
  go_simp
  clear HS
  refine (of_any _ _ _).mono ?_
  rintro e25 u25 ⟨rfl, hb⟩
  have H_a : Whole u25 (u3.heap.size) 23 _ := Whole.below K_a.out hb (by first | omega | (simp; done) | (simp; omega) | (simp at *; omega))
  have H_c : Whole u25 (u6.heap.size) 23 _ := Whole.below K_c.out hb (by first | omega | (simp; done) | (simp; omega) | (simp at *; omega))
  have H_e : Whole u25 (u9.heap.size) 23 _ := Whole.below K_e.out hb (by first | omega | (simp; done) | (simp; omega) | (simp at *; omega))
  have H_g : Whole u25 (u12.heap.size) 23 _ := Whole.below K_g.out hb (by first | omega | (simp; done) | (simp; omega) | (simp at *; omega))
  have HB := KB.out.trans (hb.mono (by first | omega | (simp; done) | (simp; omega) | (simp at *; omega)))
  clear c_a_0 c_a_1 f_a_0 f_a_1 c_c_0 c_c_1 f_c_0 f_c_1 c_e_0 c_e_1 f_e_0 f_e_1 c_g_0 c_g_1 f_g_0 f_g_1 l_a l_c l_e l_g
  clear hb KB K_a K_c K_e K_g
  have z_u25 := HB.size
  have c_a_0 := H_a.cell 0; have f_a_0 := H_a.free 0; have c_a_1 := H_a.cell 1; have f_a_1 := H_a.free 1
  simp only [List.set_cons_zero, List.set_cons_succ, List.getElem?_cons_zero, List.getElem?_cons_succ] at c_a_0 c_a_1
  have c_c_0 := H_c.cell 0; have f_c_0 := H_c.free 0; have c_c_1 := H_c.cell 1; have f_c_1 := H_c.free 1
  simp only [List.set_cons_zero, List.set_cons_succ, List.getElem?_cons_zero, List.getElem?_cons_succ] at c_c_0 c_c_1
  have c_e_0 := H_e.cell 0; have f_e_0 := H_e.free 0; have c_e_1 := H_e.cell 1; have f_e_1 := H_e.free 1
  simp only [List.set_cons_zero, List.set_cons_succ, List.getElem?_cons_zero, List.getElem?_cons_succ] at c_e_0 c_e_1
  have c_g_0 := H_g.cell 0; have f_g_0 := H_g.free 0; have c_g_1 := H_g.cell 1; have f_g_1 := H_g.free 1
  simp only [List.set_cons_zero, List.set_cons_succ, List.getElem?_cons_zero, List.getElem?_cons_succ] at c_g_0 c_g_1
  have l_a := H_a.lt; have K_a := Lib.hid H_a; clear H_a
  have l_c := H_c.lt; have K_c := Lib.hid H_c; clear H_c
  have l_e := H_e.lt; have K_e := Lib.hid H_e; clear H_e
  have l_g := H_g.lt; have K_g := Lib.hid H_g; clear H_g
  have KB := Lib.hid HB; clear HB
  have HS' := Lib.hid (SOF.out _ (Known.add K_a.out (Known.add K_c.out (Known.add K_e.out (Known.nil _)))))
  go_wp2_with fail
  refine hK.out _ _ HS'.out (fun HS => ?_)
  clear hK HS'
  try simp only [Act.put, List.setIfInBounds_toArray, List.set_cons_zero, List.set_cons_succ]
  refine wpAnyH_ready (rs := [54]) (by kernel_rfl) (by simp) ?_
  refine AllReadyH.cons rfl (fun K hK => ?_) AllReadyH.nil
  go_simp
  clear HS
  refine (of_any _ _ _).mono ?_
  rintro e26 u26 ⟨rfl, hb⟩
  have H_a : Whole u26 (u3.heap.size) 23 _ := Whole.below K_a.out hb (by first | omega | (simp; done) | (simp; omega) | (simp at *; omega))
  have H_c : Whole u26 (u6.heap.size) 23 _ := Whole.below K_c.out hb (by first | omega | (simp; done) | (simp; omega) | (simp at *; omega))
  have H_e : Whole u26 (u9.heap.size) 23 _ := Whole.below K_e.out hb (by first | omega | (simp; done) | (simp; omega) | (simp at *; omega))
  have H_g : Whole u26 (u12.heap.size) 23 _ := Whole.below K_g.out hb (by first | omega | (simp; done) | (simp; omega) | (simp at *; omega))
  have HB := KB.out.trans (hb.mono (by first | omega | (simp; done) | (simp; omega) | (simp at *; omega)))
  clear c_a_0 c_a_1 f_a_0 f_a_1 c_c_0 c_c_1 f_c_0 f_c_1 c_e_0 c_e_1 f_e_0 f_e_1 c_g_0 c_g_1 f_g_0 f_g_1 l_a l_c l_e l_g
  clear hb KB K_a K_c K_e K_g
  have z_u26 := HB.size
  have c_a_0 := H_a.cell 0; have f_a_0 := H_a.free 0; have c_a_1 := H_a.cell 1; have f_a_1 := H_a.free 1
  simp only [List.set_cons_zero, List.set_cons_succ, List.getElem?_cons_zero, List.getElem?_cons_succ] at c_a_0 c_a_1
  have c_c_0 := H_c.cell 0; have f_c_0 := H_c.free 0; have c_c_1 := H_c.cell 1; have f_c_1 := H_c.free 1
  simp only [List.set_cons_zero, List.set_cons_succ, List.getElem?_cons_zero, List.getElem?_cons_succ] at c_c_0 c_c_1
  have c_e_0 := H_e.cell 0; have f_e_0 := H_e.free 0; have c_e_1 := H_e.cell 1; have f_e_1 := H_e.free 1
  simp only [List.set_cons_zero, List.set_cons_succ, List.getElem?_cons_zero, List.getElem?_cons_succ] at c_e_0 c_e_1
  have c_g_0 := H_g.cell 0; have f_g_0 := H_g.free 0; have c_g_1 := H_g.cell 1; have f_g_1 := H_g.free 1
  simp only [List.set_cons_zero, List.set_cons_succ, List.getElem?_cons_zero, List.getElem?_cons_succ] at c_g_0 c_g_1
  have l_a := H_a.lt; have K_a := Lib.hid H_a; clear H_a
  have l_c := H_c.lt; have K_c := Lib.hid H_c; clear H_c
  have l_e := H_e.lt; have K_e := Lib.hid H_e; clear H_e
  have l_g := H_g.lt; have K_g := Lib.hid H_g; clear H_g
  have KB := Lib.hid HB; clear HB
  have HS' := Lib.hid (SOF.out _ (Known.add K_a.out (Known.add K_c.out (Known.add K_e.out (Known.nil _)))))
  go_wp2_with fail
  refine hK.out _ _ HS'.out (fun HS => ?_)
  clear hK HS'
  try simp only [Act.put, List.setIfInBounds_toArray, List.set_cons_zero, List.set_cons_succ]
  refine wpAnyH_ready (rs := [55]) (by kernel_rfl) (by simp) ?_
  refine AllReadyH.cons rfl (fun K hK => ?_) AllReadyH.nil
  go_simp
  clear HS
  refine (does_true _ _ _ _ _ _ (by rfl) _ (HT.out.below KB.out)).mono ?_
  rintro e27 u27 ⟨rfl, hb⟩
  have H_a : Whole u27 (u3.heap.size) 23 _ := Whole.below K_a.out hb (by first | omega | (simp; done) | (simp; omega) | (simp at *; omega))
  have H_c : Whole u27 (u6.heap.size) 23 _ := Whole.below K_c.out hb (by first | omega | (simp; done) | (simp; omega) | (simp at *; omega))
  have H_e : Whole u27 (u9.heap.size) 23 _ := Whole.below K_e.out hb (by first | omega | (simp; done) | (simp; omega) | (simp at *; omega))
  have H_g : Whole u27 (u12.heap.size) 23 _ := Whole.below K_g.out hb (by first | omega | (simp; done) | (simp; omega) | (simp at *; omega))
  have HB := KB.out.trans (hb.mono (by first | omega | (simp; done) | (simp; omega) | (simp at *; omega)))
  clear c_a_0 c_a_1 f_a_0 f_a_1 c_c_0 c_c_1 f_c_0 f_c_1 c_e_0 c_e_1 f_e_0 f_e_1 c_g_0 c_g_1 f_g_0 f_g_1 l_a l_c l_e l_g
  clear hb KB K_a K_c K_e K_g
  have z_u27 := HB.size
  have c_a_0 := H_a.cell 0; have f_a_0 := H_a.free 0; have c_a_1 := H_a.cell 1; have f_a_1 := H_a.free 1
  simp only [List.set_cons_zero, List.set_cons_succ, List.getElem?_cons_zero, List.getElem?_cons_succ] at c_a_0 c_a_1
  have c_c_0 := H_c.cell 0; have f_c_0 := H_c.free 0; have c_c_1 := H_c.cell 1; have f_c_1 := H_c.free 1
  simp only [List.set_cons_zero, List.set_cons_succ, List.getElem?_cons_zero, List.getElem?_cons_succ] at c_c_0 c_c_1
  have c_e_0 := H_e.cell 0; have f_e_0 := H_e.free 0; have c_e_1 := H_e.cell 1; have f_e_1 := H_e.free 1
  simp only [List.set_cons_zero, List.set_cons_succ, List.getElem?_cons_zero, List.getElem?_cons_succ] at c_e_0 c_e_1
  have c_g_0 := H_g.cell 0; have f_g_0 := H_g.free 0; have c_g_1 := H_g.cell 1; have f_g_1 := H_g.free 1
  simp only [List.set_cons_zero, List.set_cons_succ, List.getElem?_cons_zero, List.getElem?_cons_succ] at c_g_0 c_g_1
  have l_a := H_a.lt; have K_a := Lib.hid H_a; clear H_a
  have l_c := H_c.lt; have K_c := Lib.hid H_c; clear H_c
  have l_e := H_e.lt; have K_e := Lib.hid H_e; clear H_e
  have l_g := H_g.lt; have K_g := Lib.hid H_g; clear H_g
  have KB := Lib.hid HB; clear HB
  have HS' := Lib.hid (SOF.out _ (Known.add K_a.out (Known.add K_c.out (Known.add K_e.out (Known.nil _)))))
  go_wp2_with fail
  refine hK.out _ _ HS'.out (fun HS => ?_)
  clear hK HS'
  try simp only [Act.put, List.setIfInBounds_toArray, List.set_cons_zero, List.set_cons_succ]
  refine handTake 56 (some 119) ?_ rfl rfl (by kernel_rfl) (by kernel_rfl) (by kernel_rfl) (fun _ _ _ h => h) (by rfl) ?_ HS ?_
  rotate_left
  · (intro u hu; (try dsimp only at hu); go_simp; try with_reducible rfl)
  simp only [Act.put, List.setIfInBounds_toArray, List.set_cons_zero, List.set_cons_succ]
  refine handTake 57 (some 120) ?_ rfl rfl (by kernel_rfl) (by kernel_rfl) (by kernel_rfl) (fun _ _ _ h => h) (by rfl) ?_ HS ?_
  rotate_left
  · (intro u hu; (try dsimp only at hu); go_simp; try with_reducible rfl)
  simp only [Act.put, List.setIfInBounds_toArray, List.set_cons_zero, List.set_cons_succ]
  refine wpAnyH_ready (rs := [58]) (by kernel_rfl) (by simp) ?_
  refine AllReadyH.cons rfl (fun K hK => ?_) AllReadyH.nil
  go_simp
  clear HS
  refine (of_any _ _ _).mono ?_
  rintro e28 u28 ⟨rfl, hb⟩
  have H_a : Whole u28 (u3.heap.size) 23 _ := Whole.below K_a.out hb (by first | omega | (simp; done) | (simp; omega) | (simp at *; omega))
  have H_c : Whole u28 (u6.heap.size) 23 _ := Whole.below K_c.out hb (by first | omega | (simp; done) | (simp; omega) | (simp at *; omega))
  have H_e : Whole u28 (u9.heap.size) 23 _ := Whole.below K_e.out hb (by first | omega | (simp; done) | (simp; omega) | (simp at *; omega))
  have H_g : Whole u28 (u12.heap.size) 23 _ := Whole.below K_g.out hb (by first | omega | (simp; done) | (simp; omega) | (simp at *; omega))
  have HB := KB.out.trans (hb.mono (by first | omega | (simp; done) | (simp; omega) | (simp at *; omega)))
  clear c_a_0 c_a_1 f_a_0 f_a_1 c_c_0 c_c_1 f_c_0 f_c_1 c_e_0 c_e_1 f_e_0 f_e_1 c_g_0 c_g_1 f_g_0 f_g_1 l_a l_c l_e l_g
  clear hb KB K_a K_c K_e K_g
  have z_u28 := HB.size
  have c_a_0 := H_a.cell 0; have f_a_0 := H_a.free 0; have c_a_1 := H_a.cell 1; have f_a_1 := H_a.free 1
  simp only [List.set_cons_zero, List.set_cons_succ, List.getElem?_cons_zero, List.getElem?_cons_succ] at c_a_0 c_a_1
  have c_c_0 := H_c.cell 0; have f_c_0 := H_c.free 0; have c_c_1 := H_c.cell 1; have f_c_1 := H_c.free 1
  simp only [List.set_cons_zero, List.set_cons_succ, List.getElem?_cons_zero, List.getElem?_cons_succ] at c_c_0 c_c_1
  have c_e_0 := H_e.cell 0; have f_e_0 := H_e.free 0; have c_e_1 := H_e.cell 1; have f_e_1 := H_e.free 1
  simp only [List.set_cons_zero, List.set_cons_succ, List.getElem?_cons_zero, List.getElem?_cons_succ] at c_e_0 c_e_1
  have c_g_0 := H_g.cell 0; have f_g_0 := H_g.free 0; have c_g_1 := H_g.cell 1; have f_g_1 := H_g.free 1
  simp only [List.set_cons_zero, List.set_cons_succ, List.getElem?_cons_zero, List.getElem?_cons_succ] at c_g_0 c_g_1
  have l_a := H_a.lt; have K_a := Lib.hid H_a; clear H_a
  have l_c := H_c.lt; have K_c := Lib.hid H_c; clear H_c
  have l_e := H_e.lt; have K_e := Lib.hid H_e; clear H_e
  have l_g := H_g.lt; have K_g := Lib.hid H_g; clear H_g
  have KB := Lib.hid HB; clear HB
  have HS' := Lib.hid (SOF.out _ (Known.add K_a.out (Known.add K_c.out (Known.add K_e.out (Known.nil _)))))
  go_wp2_with fail
  refine hK.out _ _ HS'.out (fun HS => ?_)
  clear hK HS'
  try simp only [Act.put, List.setIfInBounds_toArray, List.set_cons_zero, List.set_cons_succ]
  refine wpAnyH_ready (rs := [59]) (by kernel_rfl) (by simp) ?_
  refine AllReadyH.cons rfl (fun K hK => ?_) AllReadyH.nil
  go_simp
  clear HS
  refine (of_any _ _ _).mono ?_
  rintro e29 u29 ⟨rfl, hb⟩
  have H_a : Whole u29 (u3.heap.size) 23 _ := Whole.below K_a.out hb (by first | omega | (simp; done) | (simp; omega) | (simp at *; omega))
  have H_c : Whole u29 (u6.heap.size) 23 _ := Whole.below K_c.out hb (by first | omega | (simp; done) | (simp; omega) | (simp at *; omega))
  have H_e : Whole u29 (u9.heap.size) 23 _ := Whole.below K_e.out hb (by first | omega | (simp; done) | (simp; omega) | (simp at *; omega))
  have H_g : Whole u29 (u12.heap.size) 23 _ := Whole.below K_g.out hb (by first | omega | (simp; done) | (simp; omega) | (simp at *; omega))
  have HB := KB.out.trans (hb.mono (by first | omega | (simp; done) | (simp; omega) | (simp at *; omega)))
  clear c_a_0 c_a_1 f_a_0 f_a_1 c_c_0 c_c_1 f_c_0 f_c_1 c_e_0 c_e_1 f_e_0 f_e_1 c_g_0 c_g_1 f_g_0 f_g_1 l_a l_c l_e l_g
  clear hb KB K_a K_c K_e K_g
  have z_u29 := HB.size
  have c_a_0 := H_a.cell 0; have f_a_0 := H_a.free 0; have c_a_1 := H_a.cell 1; have f_a_1 := H_a.free 1
  simp only [List.set_cons_zero, List.set_cons_succ, List.getElem?_cons_zero, List.getElem?_cons_succ] at c_a_0 c_a_1
  have c_c_0 := H_c.cell 0; have f_c_0 := H_c.free 0; have c_c_1 := H_c.cell 1; have f_c_1 := H_c.free 1
  simp only [List.set_cons_zero, List.set_cons_succ, List.getElem?_cons_zero, List.getElem?_cons_succ] at c_c_0 c_c_1
  have c_e_0 := H_e.cell 0; have f_e_0 := H_e.free 0; have c_e_1 := H_e.cell 1; have f_e_1 := H_e.free 1
  simp only [List.set_cons_zero, List.set_cons_succ, List.getElem?_cons_zero, List.getElem?_cons_succ] at c_e_0 c_e_1
  have c_g_0 := H_g.cell 0; have f_g_0 := H_g.free 0; have c_g_1 := H_g.cell 1; have f_g_1 := H_g.free 1
  simp only [List.set_cons_zero, List.set_cons_succ, List.getElem?_cons_zero, List.getElem?_cons_succ] at c_g_0 c_g_1
  have l_a := H_a.lt; have K_a := Lib.hid H_a; clear H_a
  have l_c := H_c.lt; have K_c := Lib.hid H_c; clear H_c
  have l_e := H_e.lt; have K_e := Lib.hid H_e; clear H_e
  have l_g := H_g.lt; have K_g := Lib.hid H_g; clear H_g
  have KB := Lib.hid HB; clear HB
  have HS' := Lib.hid (SOF.out _ (Known.add K_a.out (Known.add K_c.out (Known.add K_e.out (Known.nil _)))))
  go_wp2_with fail
  refine hK.out _ _ HS'.out (fun HS => ?_)
  clear hK HS'
  try simp only [Act.put, List.setIfInBounds_toArray, List.set_cons_zero, List.set_cons_succ]
  refine wpAnyH_ready (rs := [60]) (by kernel_rfl) (by simp) ?_
  refine AllReadyH.cons rfl (fun K hK => ?_) AllReadyH.nil
  go_simp
  clear HS
  refine (does_true _ _ _ _ _ _ (by rfl) _ (HT.out.below KB.out)).mono ?_
  rintro e30 u30 ⟨rfl, hb⟩
  have H_a : Whole u30 (u3.heap.size) 23 _ := Whole.below K_a.out hb (by first | omega | (simp; done) | (simp; omega) | (simp at *; omega))
  have H_c : Whole u30 (u6.heap.size) 23 _ := Whole.below K_c.out hb (by first | omega | (simp; done) | (simp; omega) | (simp at *; omega))
  have H_e : Whole u30 (u9.heap.size) 23 _ := Whole.below K_e.out hb (by first | omega | (simp; done) | (simp; omega) | (simp at *; omega))
  have H_g : Whole u30 (u12.heap.size) 23 _ := Whole.below K_g.out hb (by first | omega | (simp; done) | (simp; omega) | (simp at *; omega))
  have HB := KB.out.trans (hb.mono (by first | omega | (simp; done) | (simp; omega) | (simp at *; omega)))
  clear c_a_0 c_a_1 f_a_0 f_a_1 c_c_0 c_c_1 f_c_0 f_c_1 c_e_0 c_e_1 f_e_0 f_e_1 c_g_0 c_g_1 f_g_0 f_g_1 l_a l_c l_e l_g
  clear hb KB K_a K_c K_e K_g
  have z_u30 := HB.size
  have c_a_0 := H_a.cell 0; have f_a_0 := H_a.free 0; have c_a_1 := H_a.cell 1; have f_a_1 := H_a.free 1
  simp only [List.set_cons_zero, List.set_cons_succ, List.getElem?_cons_zero, List.getElem?_cons_succ] at c_a_0 c_a_1
  have c_c_0 := H_c.cell 0; have f_c_0 := H_c.free 0; have c_c_1 := H_c.cell 1; have f_c_1 := H_c.free 1
  simp only [List.set_cons_zero, List.set_cons_succ, List.getElem?_cons_zero, List.getElem?_cons_succ] at c_c_0 c_c_1
  have c_e_0 := H_e.cell 0; have f_e_0 := H_e.free 0; have c_e_1 := H_e.cell 1; have f_e_1 := H_e.free 1
  simp only [List.set_cons_zero, List.set_cons_succ, List.getElem?_cons_zero, List.getElem?_cons_succ] at c_e_0 c_e_1
  have c_g_0 := H_g.cell 0; have f_g_0 := H_g.free 0; have c_g_1 := H_g.cell 1; have f_g_1 := H_g.free 1
  simp only [List.set_cons_zero, List.set_cons_succ, List.getElem?_cons_zero, List.getElem?_cons_succ] at c_g_0 c_g_1
  have l_a := H_a.lt; have K_a := Lib.hid H_a; clear H_a
  have l_c := H_c.lt; have K_c := Lib.hid H_c; clear H_c
  have l_e := H_e.lt; have K_e := Lib.hid H_e; clear H_e
  have l_g := H_g.lt; have K_g := Lib.hid H_g; clear H_g
  have KB := Lib.hid HB; clear HB
  have HS' := Lib.hid (SOF.out _ (Known.add K_a.out (Known.add K_c.out (Known.add K_e.out (Known.nil _)))))
  go_wp2_with fail
  refine hK.out _ _ HS'.out (fun HS => ?_)
  clear hK HS'
  try simp only [Act.put, List.setIfInBounds_toArray, List.set_cons_zero, List.set_cons_succ]
  refine handTake 61 (some 124) ?_ rfl rfl (by kernel_rfl) (by kernel_rfl) (by kernel_rfl) (fun _ _ _ h => h) (by rfl) ?_ HS ?_
  rotate_left
  · (intro u hu; (try dsimp only at hu); go_simp; try with_reducible rfl)
  simp only [Act.put, List.setIfInBounds_toArray, List.set_cons_zero, List.set_cons_succ]
  refine handTake 62 (some 125) ?_ rfl rfl (by kernel_rfl) (by kernel_rfl) (by kernel_rfl) (fun _ _ _ h => h) (by rfl) ?_ HS ?_
  rotate_left
  · (intro u hu; (try dsimp only at hu); go_simp; try with_reducible rfl)
  simp only [Act.put, List.setIfInBounds_toArray, List.set_cons_zero, List.set_cons_succ]
  refine wpAnyH_ready (rs := [63]) (by kernel_rfl) (by simp) ?_
  refine AllReadyH.cons rfl (fun K hK => ?_) AllReadyH.nil
  go_simp
  clear HS
  refine (of_any _ _ _).mono ?_
  rintro e31 u31 ⟨rfl, hb⟩
  have H_a : Whole u31 (u3.heap.size) 23 _ := Whole.below K_a.out hb (by first | omega | (simp; done) | (simp; omega) | (simp at *; omega))
  have H_c : Whole u31 (u6.heap.size) 23 _ := Whole.below K_c.out hb (by first | omega | (simp; done) | (simp; omega) | (simp at *; omega))
  have H_e : Whole u31 (u9.heap.size) 23 _ := Whole.below K_e.out hb (by first | omega | (simp; done) | (simp; omega) | (simp at *; omega))
  have H_g : Whole u31 (u12.heap.size) 23 _ := Whole.below K_g.out hb (by first | omega | (simp; done) | (simp; omega) | (simp at *; omega))
  have HB := KB.out.trans (hb.mono (by first | omega | (simp; done) | (simp; omega) | (simp at *; omega)))
  clear c_a_0 c_a_1 f_a_0 f_a_1 c_c_0 c_c_1 f_c_0 f_c_1 c_e_0 c_e_1 f_e_0 f_e_1 c_g_0 c_g_1 f_g_0 f_g_1 l_a l_c l_e l_g
  clear hb KB K_a K_c K_e K_g
  have z_u31 := HB.size
  have c_a_0 := H_a.cell 0; have f_a_0 := H_a.free 0; have c_a_1 := H_a.cell 1; have f_a_1 := H_a.free 1
  simp only [List.set_cons_zero, List.set_cons_succ, List.getElem?_cons_zero, List.getElem?_cons_succ] at c_a_0 c_a_1
  have c_c_0 := H_c.cell 0; have f_c_0 := H_c.free 0; have c_c_1 := H_c.cell 1; have f_c_1 := H_c.free 1
  simp only [List.set_cons_zero, List.set_cons_succ, List.getElem?_cons_zero, List.getElem?_cons_succ] at c_c_0 c_c_1
  have c_e_0 := H_e.cell 0; have f_e_0 := H_e.free 0; have c_e_1 := H_e.cell 1; have f_e_1 := H_e.free 1
  simp only [List.set_cons_zero, List.set_cons_succ, List.getElem?_cons_zero, List.getElem?_cons_succ] at c_e_0 c_e_1
  have c_g_0 := H_g.cell 0; have f_g_0 := H_g.free 0; have c_g_1 := H_g.cell 1; have f_g_1 := H_g.free 1
  simp only [List.set_cons_zero, List.set_cons_succ, List.getElem?_cons_zero, List.getElem?_cons_succ] at c_g_0 c_g_1
  have l_a := H_a.lt; have K_a := Lib.hid H_a; clear H_a
  have l_c := H_c.lt; have K_c := Lib.hid H_c; clear H_c
  have l_e := H_e.lt; have K_e := Lib.hid H_e; clear H_e
  have l_g := H_g.lt; have K_g := Lib.hid H_g; clear H_g
  have KB := Lib.hid HB; clear HB
  have HS' := Lib.hid (SOF.out _ (Known.add K_a.out (Known.add K_c.out (Known.add K_e.out (Known.nil _)))))
  go_wp2_with fail
  refine hK.out _ _ HS'.out (fun HS => ?_)
  clear hK HS'
  try simp only [Act.put, List.setIfInBounds_toArray, List.set_cons_zero, List.set_cons_succ]
  refine wpAnyH_ready (rs := [64]) (by kernel_rfl) (by simp) ?_
  refine AllReadyH.cons rfl (fun K hK => ?_) AllReadyH.nil
  go_simp
  clear HS
  refine (of_any _ _ _).mono ?_
  rintro e32 u32 ⟨rfl, hb⟩
  have H_a : Whole u32 (u3.heap.size) 23 _ := Whole.below K_a.out hb (by first | omega | (simp; done) | (simp; omega) | (simp at *; omega))
  have H_c : Whole u32 (u6.heap.size) 23 _ := Whole.below K_c.out hb (by first | omega | (simp; done) | (simp; omega) | (simp at *; omega))
  have H_e : Whole u32 (u9.heap.size) 23 _ := Whole.below K_e.out hb (by first | omega | (simp; done) | (simp; omega) | (simp at *; omega))
  have H_g : Whole u32 (u12.heap.size) 23 _ := Whole.below K_g.out hb (by first | omega | (simp; done) | (simp; omega) | (simp at *; omega))
  have HB := KB.out.trans (hb.mono (by first | omega | (simp; done) | (simp; omega) | (simp at *; omega)))
  clear c_a_0 c_a_1 f_a_0 f_a_1 c_c_0 c_c_1 f_c_0 f_c_1 c_e_0 c_e_1 f_e_0 f_e_1 c_g_0 c_g_1 f_g_0 f_g_1 l_a l_c l_e l_g
  clear hb KB K_a K_c K_e K_g
  have z_u32 := HB.size
  have c_a_0 := H_a.cell 0; have f_a_0 := H_a.free 0; have c_a_1 := H_a.cell 1; have f_a_1 := H_a.free 1
  simp only [List.set_cons_zero, List.set_cons_succ, List.getElem?_cons_zero, List.getElem?_cons_succ] at c_a_0 c_a_1
  have c_c_0 := H_c.cell 0; have f_c_0 := H_c.free 0; have c_c_1 := H_c.cell 1; have f_c_1 := H_c.free 1
  simp only [List.set_cons_zero, List.set_cons_succ, List.getElem?_cons_zero, List.getElem?_cons_succ] at c_c_0 c_c_1
  have c_e_0 := H_e.cell 0; have f_e_0 := H_e.free 0; have c_e_1 := H_e.cell 1; have f_e_1 := H_e.free 1
  simp only [List.set_cons_zero, List.set_cons_succ, List.getElem?_cons_zero, List.getElem?_cons_succ] at c_e_0 c_e_1
  have c_g_0 := H_g.cell 0; have f_g_0 := H_g.free 0; have c_g_1 := H_g.cell 1; have f_g_1 := H_g.free 1
  simp only [List.set_cons_zero, List.set_cons_succ, List.getElem?_cons_zero, List.getElem?_cons_succ] at c_g_0 c_g_1
  have l_a := H_a.lt; have K_a := Lib.hid H_a; clear H_a
  have l_c := H_c.lt; have K_c := Lib.hid H_c; clear H_c
  have l_e := H_e.lt; have K_e := Lib.hid H_e; clear H_e
  have l_g := H_g.lt; have K_g := Lib.hid H_g; clear H_g
  have KB := Lib.hid HB; clear HB
  have HS' := Lib.hid (SOF.out _ (Known.add K_a.out (Known.add K_c.out (Known.add K_e.out (Known.nil _)))))
  go_wp2_with fail
  refine hK.out _ _ HS'.out (fun HS => ?_)
  clear hK HS'
  try simp only [Act.put, List.setIfInBounds_toArray, List.set_cons_zero, List.set_cons_succ]
  refine wpAnyH_ready (rs := [65]) (by kernel_rfl) (by simp) ?_
  refine AllReadyH.cons rfl (fun K hK => ?_) AllReadyH.nil
  go_simp
  clear HS
  refine (does_true _ _ _ _ _ _ (by rfl) _ (HT.out.below KB.out)).mono ?_
  rintro e33 u33 ⟨rfl, hb⟩
  have H_a : Whole u33 (u3.heap.size) 23 _ := Whole.below K_a.out hb (by first | omega | (simp; done) | (simp; omega) | (simp at *; omega))
  have H_c : Whole u33 (u6.heap.size) 23 _ := Whole.below K_c.out hb (by first | omega | (simp; done) | (simp; omega) | (simp at *; omega))
  have H_e : Whole u33 (u9.heap.size) 23 _ := Whole.below K_e.out hb (by first | omega | (simp; done) | (simp; omega) | (simp at *; omega))
  have H_g : Whole u33 (u12.heap.size) 23 _ := Whole.below K_g.out hb (by first | omega | (simp; done) | (simp; omega) | (simp at *; omega))
  have HB := KB.out.trans (hb.mono (by first | omega | (simp; done) | (simp; omega) | (simp at *; omega)))
  clear c_a_0 c_a_1 f_a_0 f_a_1 c_c_0 c_c_1 f_c_0 f_c_1 c_e_0 c_e_1 f_e_0 f_e_1 c_g_0 c_g_1 f_g_0 f_g_1 l_a l_c l_e l_g
  clear hb KB K_a K_c K_e K_g
  have z_u33 := HB.size
  have c_a_0 := H_a.cell 0; have f_a_0 := H_a.free 0; have c_a_1 := H_a.cell 1; have f_a_1 := H_a.free 1
  simp only [List.set_cons_zero, List.set_cons_succ, List.getElem?_cons_zero, List.getElem?_cons_succ] at c_a_0 c_a_1
  have c_c_0 := H_c.cell 0; have f_c_0 := H_c.free 0; have c_c_1 := H_c.cell 1; have f_c_1 := H_c.free 1
  simp only [List.set_cons_zero, List.set_cons_succ, List.getElem?_cons_zero, List.getElem?_cons_succ] at c_c_0 c_c_1
  have c_e_0 := H_e.cell 0; have f_e_0 := H_e.free 0; have c_e_1 := H_e.cell 1; have f_e_1 := H_e.free 1
  simp only [List.set_cons_zero, List.set_cons_succ, List.getElem?_cons_zero, List.getElem?_cons_succ] at c_e_0 c_e_1
  have c_g_0 := H_g.cell 0; have f_g_0 := H_g.free 0; have c_g_1 := H_g.cell 1; have f_g_1 := H_g.free 1
  simp only [List.set_cons_zero, List.set_cons_succ, List.getElem?_cons_zero, List.getElem?_cons_succ] at c_g_0 c_g_1
  have l_a := H_a.lt; have K_a := Lib.hid H_a; clear H_a
  have l_c := H_c.lt; have K_c := Lib.hid H_c; clear H_c
  have l_e := H_e.lt; have K_e := Lib.hid H_e; clear H_e
  have l_g := H_g.lt; have K_g := Lib.hid H_g; clear H_g
  have KB := Lib.hid HB; clear HB
  have HS' := Lib.hid (SOF.out _ (Known.add K_a.out (Known.add K_c.out (Known.add K_e.out (Known.nil _)))))
  go_wp2_with fail
  refine hK.out _ _ HS'.out (fun HS => ?_)
  clear hK HS'
  try simp only [Act.put, List.setIfInBounds_toArray, List.set_cons_zero, List.set_cons_succ]
  refine handTake 66 (some 129) ?_ rfl rfl (by kernel_rfl) (by kernel_rfl) (by kernel_rfl) (fun _ _ _ h => h) (by rfl) ?_ HS ?_
  rotate_left
  · (intro u hu; (try dsimp only at hu); go_simp; try with_reducible rfl)
  simp only [Act.put, List.setIfInBounds_toArray, List.set_cons_zero, List.set_cons_succ]
  refine handTake 67 (some 0) ?_ rfl rfl (by kernel_rfl) (by kernel_rfl) (by kernel_rfl) (fun _ _ _ h => h) (by rfl) ?_ HS ?_
  rotate_left
  · (intro u hu; (try dsimp only at hu); go_simp; try with_reducible rfl)
  simp only [Act.put, List.setIfInBounds_toArray, List.set_cons_zero, List.set_cons_succ]
  refine wpAnyH_done (by kernel_rfl) ?_ _
  clear HS SOF
  go_wp2_with fail
  go_ret
  exact ⟨by first | rfl | simp, KB.out⟩


end Vo
end Go.Proofs.YtojkccdmnhppnaaDoor
