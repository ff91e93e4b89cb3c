/- The chapter's examples hold. -/
import Derived.Test.YtinnpeonokdljaaQueueApi
set_option linter.unusedSimpArgs false
set_option linter.unusedVariables false
namespace Go.Proofs.Ytinnpeonokdljaa
open Go.RowKit

namespace Qu
open Qm
def cA : ByteArray := { data := #[97] }
def c1 : ByteArray := { data := #[49] }
attribute [local go_sem ↓] neq_rq
set_option maxRecDepth 100000 in
set_option maxHeartbeats 8000000 in
theorem awake_is (w : World) : Calls Try.prog 16 #[] w fun e w' => e = .returned (.bool true) ∧ Below w.heap.size w w' := by
  have HN0 := Lib.hid (new_sep 3 0 (by kernel_rfl) (Sep.start w (Below.refl w.heap.size w)))
  obtain ⟨g, hg⟩ : ∃ g, g = w.heap.size := ⟨_, rfl⟩
  rw [← hg] at HN0
  have HG := Lib.hid hg; clear hg
  go_enter Try.func16, Try.ntmps16
  go_wp2_with fail
  refine HN0.out.mono ?_
  rintro e u0 ⟨rfl, h⟩
  have HS0 := Lib.hid h; clear h HN0
  have OK : QOk [] := QOk.nil
  have OK0 := Lib.hid OK
  have OK00 := Lib.hid OK; clear OK
  go_wp2_with fail
  refine (put_law 1 5 _).mono ?_
  rintro e u1 ⟨rfl, hx⟩
  have HS1 := Lib.hid (HS0.out.call hx)
  have OK1 := OK0
  clear hx HS0 OK0
  go_wp2_with fail
  refine (write_sep HS1.out (by decide) OK1.out 1 5 2 cA em c1).mono ?_
  rintro e u2 h
  obtain ⟨rfl, hok, v2, h⟩ := h (true, 0, [⟨⟨1, 5, ⟨2, cA, em, c1⟩⟩, 0, 0, 1⟩]) (by kernel_rfl)
  have HS2 := Lib.hid h; have OK2 := Lib.hid hok
  clear h hok HS1 OK1
  go_wp2_with fail
  refine (put_law 1 5 _).mono ?_
  rintro e u3 ⟨rfl, hx⟩
  have HS3 := Lib.hid (HS2.out.call hx)
  have OK3 := OK2
  clear hx HS2 OK2
  go_wp2_with fail
  refine (write_sep HS3.out (by decide) OK3.out 1 5 2 cA em c1).mono ?_
  rintro e u4 h
  obtain ⟨rfl, hok, v4, h⟩ := h (false, 0, [⟨⟨1, 5, ⟨2, cA, em, c1⟩⟩, 0, 0, 1⟩]) (by kernel_rfl)
  have HS4 := Lib.hid h; have OK4 := Lib.hid hok
  clear h hok HS3 OK3
  go_wp2_with fail
  refine (get_law 2 3 _).mono ?_
  rintro e u5 ⟨rfl, hx⟩
  have HS5 := Lib.hid (HS4.out.call hx)
  have OK5 := OK4
  clear hx HS4 OK4
  go_wp2_with fail
  refine (read_sep HS5.out (by decide) OK5.out 2 3 1 cA em em 7 4).mono ?_
  rintro e u6 h
  obtain ⟨rfl, hok, v6, h⟩ := h (true, 0, [⟨⟨1, 5, ⟨2, cA, em, c1⟩⟩, 0, 0, 1⟩, ⟨⟨2, 3, ⟨1, cA, em, em⟩⟩, 7, 4, 1⟩]) (by kernel_rfl)
  have HS6 := Lib.hid h; have OK6 := Lib.hid hok
  clear h hok HS5 OK5
  go_wp2_with fail
  refine (ready_sep HS6.out (by decide) OK6.out 9 [] (by kernel_rfl) 0 (by kernel_rfl)).mono ?_
  rintro e u7 ⟨A7, c7, v7, rfl, h⟩
  rw [show left (readyB 3 9) [⟨⟨1, 5, ⟨2, cA, em, c1⟩⟩, 0, 0, 1⟩, ⟨⟨2, 3, ⟨1, cA, em, em⟩⟩, 7, 4, 1⟩] = [⟨⟨1, 5, ⟨2, cA, em, c1⟩⟩, 0, 0, 1⟩, ⟨⟨2, 3, ⟨1, cA, em, em⟩⟩, 7, 4, 1⟩] by kernel_rfl] at h
  have HS7 := Lib.hid (Sep.left (a := qI g 3 0 [⟨⟨1, 5, ⟨2, cA, em, c1⟩⟩, 0, 0, 1⟩, ⟨⟨2, 3, ⟨1, cA, em, em⟩⟩, 7, 4, 1⟩] v7) h); have OK7 : Hid (QOk [⟨⟨1, 5, ⟨2, cA, em, c1⟩⟩, 0, 0, 1⟩, ⟨⟨2, 3, ⟨1, cA, em, em⟩⟩, 7, 4, 1⟩]) := Lib.hid ⟨by intro x hx; simp at hx; (try (rcases hx with rfl | rfl)); all_goals (first | decide | (subst hx; decide)), by decide⟩
  clear h HS6 OK6
  go_wp2_with fail
  have e1 : ansR 3 6 1 [⟨⟨1, 5, ⟨2, cA, em, c1⟩⟩, 0, 0, 1⟩, ⟨⟨2, 3, ⟨1, cA, em, em⟩⟩, 7, 4, 1⟩] = (0, [⟨⟨1, 5, ⟨2, cA, em, c1⟩⟩, 0, 0, 1⟩, ⟨⟨2, 3, ⟨1, cA, em, em⟩⟩, 7, 4, 1⟩]) := by kernel_rfl
  refine (answer_sep HS7.out (by decide) OK7.out 6 1).mono ?_
  rintro e u8 ⟨rfl, v8, h⟩
  have hok := ansR_ok (n := 3) (nonce := 6) (r := 1) OK7.out
  rw [e1] at h hok ⊢
  have HS8 := Lib.hid h; have OK8 := Lib.hid hok
  clear h HS7 OK7 hok e1
  go_wp2_with fail
  refine (ready_sep HS8.out (by decide) OK8.out 9 [] (by kernel_rfl) 0 (by kernel_rfl)).mono ?_
  rintro e u9 ⟨A9, c9, v9, rfl, h⟩
  rw [show left (readyB 3 9) [⟨⟨1, 5, ⟨2, cA, em, c1⟩⟩, 0, 0, 1⟩, ⟨⟨2, 3, ⟨1, cA, em, em⟩⟩, 7, 4, 1⟩] = [⟨⟨1, 5, ⟨2, cA, em, c1⟩⟩, 0, 0, 1⟩, ⟨⟨2, 3, ⟨1, cA, em, em⟩⟩, 7, 4, 1⟩] by kernel_rfl] at h
  have HS9 := Lib.hid (Sep.left (a := qI g 3 0 [⟨⟨1, 5, ⟨2, cA, em, c1⟩⟩, 0, 0, 1⟩, ⟨⟨2, 3, ⟨1, cA, em, em⟩⟩, 7, 4, 1⟩] v9) h); have OK9 : Hid (QOk [⟨⟨1, 5, ⟨2, cA, em, c1⟩⟩, 0, 0, 1⟩, ⟨⟨2, 3, ⟨1, cA, em, em⟩⟩, 7, 4, 1⟩]) := Lib.hid ⟨by intro x hx; simp at hx; (try (rcases hx with rfl | rfl)); all_goals (first | decide | (subst hx; decide)), by decide⟩
  clear h HS8 OK8
  go_wp2_with fail
  have e1 : ansR 3 7 1 [⟨⟨1, 5, ⟨2, cA, em, c1⟩⟩, 0, 0, 1⟩, ⟨⟨2, 3, ⟨1, cA, em, em⟩⟩, 7, 4, 1⟩] = (0, [⟨⟨1, 5, ⟨2, cA, em, c1⟩⟩, 0, 0, 1⟩, ⟨⟨2, 3, ⟨1, cA, em, em⟩⟩, 7, 4, 3⟩]) := by kernel_rfl
  refine (answer_sep HS9.out (by decide) OK9.out 7 1).mono ?_
  rintro e u10 ⟨rfl, v10, h⟩
  have hok := ansR_ok (n := 3) (nonce := 7) (r := 1) OK9.out
  rw [e1] at h hok ⊢
  have HS10 := Lib.hid h; have OK10 := Lib.hid hok
  clear h HS9 OK9 hok e1
  go_wp2_with fail
  refine (ready_sep HS10.out (by decide) OK10.out 3 [] (by kernel_rfl) 0 (by kernel_rfl)).mono ?_
  rintro e u11 ⟨A11, c11, v11, rfl, h⟩
  rw [show left (readyB 3 3) [⟨⟨1, 5, ⟨2, cA, em, c1⟩⟩, 0, 0, 1⟩, ⟨⟨2, 3, ⟨1, cA, em, em⟩⟩, 7, 4, 3⟩] = [⟨⟨1, 5, ⟨2, cA, em, c1⟩⟩, 0, 0, 1⟩, ⟨⟨2, 3, ⟨1, cA, em, em⟩⟩, 7, 4, 3⟩] by kernel_rfl] at h
  have HS11 := Lib.hid (Sep.left (a := qI g 3 0 [⟨⟨1, 5, ⟨2, cA, em, c1⟩⟩, 0, 0, 1⟩, ⟨⟨2, 3, ⟨1, cA, em, em⟩⟩, 7, 4, 3⟩] v11) h); have OK11 : Hid (QOk [⟨⟨1, 5, ⟨2, cA, em, c1⟩⟩, 0, 0, 1⟩, ⟨⟨2, 3, ⟨1, cA, em, em⟩⟩, 7, 4, 3⟩]) := Lib.hid ⟨by intro x hx; simp at hx; (try (rcases hx with rfl | rfl)); all_goals (first | decide | (subst hx; decide)), by decide⟩
  clear h HS10 OK10
  go_wp2_with fail
  refine (ready_sep HS11.out (by decide) OK11.out 4 [⟨2, 3, ⟨1, cA, em, em⟩⟩] (by kernel_rfl) 1 (by kernel_rfl)).mono ?_
  rintro e u12 ⟨A12, c12, v12, rfl, h⟩
  rw [show left (readyB 3 4) [⟨⟨1, 5, ⟨2, cA, em, c1⟩⟩, 0, 0, 1⟩, ⟨⟨2, 3, ⟨1, cA, em, em⟩⟩, 7, 4, 3⟩] = [⟨⟨1, 5, ⟨2, cA, em, c1⟩⟩, 0, 0, 1⟩] by kernel_rfl] at h
  have HS12 := Lib.hid h; have OK12 : Hid (QOk [⟨⟨1, 5, ⟨2, cA, em, c1⟩⟩, 0, 0, 1⟩]) := Lib.hid ⟨by intro x hx; simp at hx; (try (rcases hx with rfl | rfl)); all_goals (first | decide | (subst hx; decide)), by decide⟩
  clear h HS11 OK11
  go_wp2_with fail
  refine (get_law 1 6 _).mono ?_
  rintro e u13 ⟨rfl, hx⟩
  have HS13 := Lib.hid (HS12.out.call hx)
  have OK13 := OK12
  clear hx HS12 OK12
  go_wp2_with fail
  refine (write_sep HS13.out (by decide) OK13.out 1 6 1 cA em em).mono ?_
  rintro e u14 h
  obtain ⟨rfl, hok, v14, h⟩ := h (false, 2, [⟨⟨1, 5, ⟨2, cA, em, c1⟩⟩, 0, 0, 1⟩]) (by kernel_rfl)
  have HS14 := Lib.hid h; have OK14 := Lib.hid hok
  clear h hok HS13 OK13
  go_wp2_with fail
  refine (put_law 1 6 _).mono ?_
  rintro e u15 ⟨rfl, hx⟩
  have HS15 := Lib.hid (HS14.out.call hx)
  have OK15 := OK14
  clear hx HS14 OK14
  go_wp2_with fail
  refine (read_sep HS15.out (by decide) OK15.out 1 6 2 cA em c1 8 4).mono ?_
  rintro e u16 h
  obtain ⟨rfl, hok, v16, h⟩ := h (false, 2, [⟨⟨1, 5, ⟨2, cA, em, c1⟩⟩, 0, 0, 1⟩]) (by kernel_rfl)
  have HS16 := Lib.hid h; have OK16 := Lib.hid hok
  clear h hok HS15 OK15
  go_wp2_with fail
  have hro : World.ownsRow u16 _ _ _ _ _ _ := HS16.out.holds (rI u11 (.slice A12 1 c12) [⟨2, 3, ⟨1, cA, em, em⟩⟩]) (by simp)
  obtain ⟨gb, cap, hv, hgb⟩ := own_form hro (by decide)
  obtain ⟨rfl, rfl⟩ : A12 = some ⟨gb, 0, none⟩ ∧ cap = c12 := by injection hv with h1 h2 h3; exact ⟨h1, h3.symm⟩
  have SOF : Hid (∀ u : World, Hid (∃ v, Sep w (qI g 3 0 [⟨⟨1, 5, ⟨2, cA, em, c1⟩⟩, 0, 0, 1⟩] v ++ [rI u11 (.slice (some ⟨gb, 0, none⟩) 1 cap) [⟨2, 3, ⟨1, cA, em, em⟩⟩]]) u) → (fun u : World => (u.cell? ⟨gb, 0, none⟩ = some (.int .i64 2) ∧ u.cell? ⟨gb, 1, none⟩ = some (.int .i64 3) ∧ u.cell? ⟨gb, 2, none⟩ = some (.int .u8 1) ∧ u.cell? ⟨gb, 3, none⟩ = some (.string { data := #[97] }) ∧ u.cell? ⟨gb, 4, none⟩ = some (.string { data := #[] }) ∧ u.cell? ⟨gb, 5, none⟩ = some (.string { data := #[] })) ∧ Hid (∃ v, Sep w (qI g 3 0 [⟨⟨1, 5, ⟨2, cA, em, c1⟩⟩, 0, 0, 1⟩] v ++ [rI u11 (.slice (some ⟨gb, 0, none⟩) 1 cap) [⟨2, 3, ⟨1, cA, em, em⟩⟩]]) u)) u) := fun u h => by
    obtain ⟨v, hs⟩ := h.out
    have hr : World.ownsRow u _ _ _ _ _ _ := hs.holds (rI u11 (.slice (some ⟨gb, 0, none⟩) 1 cap) [⟨2, 3, ⟨1, cA, em, em⟩⟩]) (by simp)
    exact ⟨⟨hr.cellAt 0 (by decide), hr.cellAt 1 (by decide), hr.cellAt 2 (by decide), hr.cellAt 3 (by decide), hr.cellAt 4 (by decide), hr.cellAt 5 (by decide)⟩, h⟩
  have hsame : sameRq 2 3 1 { data := #[97] } { data := #[] } { data := #[] } 2 3 1 { data := #[97] } { data := #[] } { data := #[] } = true := by kernel_rfl
  clear hro hv
  refine wp_region_held_drew (S := (fun u : World => (u.cell? ⟨gb, 0, none⟩ = some (.int .i64 2) ∧ u.cell? ⟨gb, 1, none⟩ = some (.int .i64 3) ∧ u.cell? ⟨gb, 2, none⟩ = some (.int .u8 1) ∧ u.cell? ⟨gb, 3, none⟩ = some (.string { data := #[97] }) ∧ u.cell? ⟨gb, 4, none⟩ = some (.string { data := #[] }) ∧ u.cell? ⟨gb, 5, none⟩ = some (.string { data := #[] })) ∧ Hid (∃ v, Sep w (qI g 3 0 [⟨⟨1, 5, ⟨2, cA, em, c1⟩⟩, 0, 0, 1⟩] v ++ [rI u11 (.slice (some ⟨gb, 0, none⟩) 1 cap) [⟨2, 3, ⟨1, cA, em, em⟩⟩]]) u))) (by kernel_rfl) (SOF.out _ ⟨_, HS16.out.drew⟩) (fun HS => ?_)
  refine handTake 0 (some 74) ?_ rfl rfl (by kernel_rfl) (by kernel_rfl) (by kernel_rfl) (fun _ _ _ h => h) (by rfl) ?_ HS ?_
  rotate_left
  · (intro u hu; (try dsimp only at hu); go_simp; try with_reducible rfl)
  simp only [Act.put, List.setIfInBounds_toArray, List.set_cons_zero, List.set_cons_succ]
  refine handTake 1 (some 75) ?_ rfl rfl (by kernel_rfl) (by kernel_rfl) (by kernel_rfl) (fun _ _ _ h => h) (by rfl) ?_ HS ?_
  rotate_left
  · (intro u hu; (try dsimp only at hu); go_simp; try with_reducible rfl)
  simp only [Act.put, List.setIfInBounds_toArray, List.set_cons_zero, List.set_cons_succ]
  refine handTake 2 (some 76) ?_ rfl rfl (by kernel_rfl) (by kernel_rfl) (by kernel_rfl) (fun _ _ _ h => h) (by rfl) ?_ HS ?_
  rotate_left
  · (intro u hu; (try dsimp only at hu); go_simp; try with_reducible rfl)
  simp only [Act.put, List.setIfInBounds_toArray, List.set_cons_zero, List.set_cons_succ]
  refine handTake 3 (some 77) ?_ rfl rfl (by kernel_rfl) (by kernel_rfl) (by kernel_rfl) (fun _ _ _ h => h) (by rfl) ?_ HS ?_
  rotate_left
  · (intro u hu; (try dsimp only at hu); go_simp; try with_reducible rfl)
  simp only [Act.put, List.setIfInBounds_toArray, List.set_cons_zero, List.set_cons_succ]
  refine handTake 4 (some 78) ?_ rfl rfl (by kernel_rfl) (by kernel_rfl) (by kernel_rfl) (fun _ _ _ h => h) (by rfl) ?_ HS ?_
  rotate_left
  · (intro u hu; (try dsimp only at hu); go_simp; try with_reducible rfl)
  simp only [Act.put, List.setIfInBounds_toArray, List.set_cons_zero, List.set_cons_succ]
  refine handTake 5 (some 79) ?_ rfl rfl (by kernel_rfl) (by kernel_rfl) (by kernel_rfl) (fun _ _ _ h => h) (by rfl) ?_ HS ?_
  rotate_left
  · (intro u hu; (try dsimp only at hu); go_simp; try with_reducible rfl)
  simp only [Act.put, List.setIfInBounds_toArray, List.set_cons_zero, List.set_cons_succ]
  refine handTake 6 (some 80) ?_ rfl rfl (by kernel_rfl) (by kernel_rfl) (by kernel_rfl) (fun _ _ _ h => h) (by rfl) ?_ HS ?_
  rotate_left
  · (intro u hu; (try dsimp only at hu); go_simp; try with_reducible rfl)
  simp only [Act.put, List.setIfInBounds_toArray, List.set_cons_zero, List.set_cons_succ]
  refine handTake 7 (some 81) ?_ rfl rfl (by kernel_rfl) (by kernel_rfl) (by kernel_rfl) (fun _ _ _ h => h) (by rfl) ?_ HS ?_
  rotate_left
  · (intro u hu; (try dsimp only at hu); go_simp; try with_reducible rfl)
  simp only [Act.put, List.setIfInBounds_toArray, List.set_cons_zero, List.set_cons_succ]
  refine handTake 8 (some 82) ?_ rfl rfl (by kernel_rfl) (by kernel_rfl) (by kernel_rfl) (fun _ _ _ h => h) (by rfl) ?_ HS ?_
  rotate_left
  · (intro u hu; (try dsimp only at hu); go_simp; try with_reducible rfl)
  simp only [Act.put, List.setIfInBounds_toArray, List.set_cons_zero, List.set_cons_succ]
  refine handTake 9 (some 83) ?_ rfl rfl (by kernel_rfl) (by kernel_rfl) (by kernel_rfl) (fun _ _ _ h => h) (by rfl) ?_ HS ?_
  rotate_left
  · (intro u hu; (try dsimp only at hu); go_simp; try with_reducible rfl)
  simp only [Act.put, List.setIfInBounds_toArray, List.set_cons_zero, List.set_cons_succ]
  refine handTake 10 (some 84) ?_ rfl rfl (by kernel_rfl) (by kernel_rfl) (by kernel_rfl) (fun _ _ _ h => h) (by rfl) ?_ HS ?_
  rotate_left
  · (intro u hu; (try dsimp only at hu); go_simp; try with_reducible rfl)
  simp only [Act.put, List.setIfInBounds_toArray, List.set_cons_zero, List.set_cons_succ]
  refine handTake 11 (some 85) ?_ rfl rfl (by kernel_rfl) (by kernel_rfl) (by kernel_rfl) (fun _ _ _ h => h) (by rfl) ?_ HS ?_
  rotate_left
  · (intro u hu; (try dsimp only at hu); go_simp; try with_reducible rfl)
  simp only [Act.put, List.setIfInBounds_toArray, List.set_cons_zero, List.set_cons_succ]
  refine handTake 12 (some 86) ?_ rfl rfl (by kernel_rfl) (by kernel_rfl) (by kernel_rfl) (fun _ _ _ h => h) (by rfl) ?_ HS ?_
  rotate_left
  · (intro u hu; (try dsimp only at hu); go_simp; try with_reducible rfl)
  simp only [Act.put, List.setIfInBounds_toArray, List.set_cons_zero, List.set_cons_succ]
  refine handTake 13 (some 87) ?_ rfl rfl (by kernel_rfl) (by kernel_rfl) (by kernel_rfl) (fun _ _ _ h => h) (by rfl) ?_ HS ?_
  rotate_left
  · (intro u hu; (try dsimp only at hu); go_simp; try with_reducible rfl)
  simp only [Act.put, List.setIfInBounds_toArray, List.set_cons_zero, List.set_cons_succ]
  refine handTake 14 (some 88) ?_ rfl rfl (by kernel_rfl) (by kernel_rfl) (by kernel_rfl) (fun _ _ _ h => h) (by rfl) ?_ HS ?_
  rotate_left
  · (intro u hu; (try dsimp only at hu); go_simp; try with_reducible rfl)
  simp only [Act.put, List.setIfInBounds_toArray, List.set_cons_zero, List.set_cons_succ]
  refine handTake 15 (some 89) ?_ rfl rfl (by kernel_rfl) (by kernel_rfl) (by kernel_rfl) (fun _ _ _ h => h) (by rfl) ?_ HS ?_
  rotate_left
  · (intro u hu; (try dsimp only at hu); go_simp; try with_reducible rfl)
  simp only [Act.put, List.setIfInBounds_toArray, List.set_cons_zero, List.set_cons_succ]
  refine handTake 16 (some 90) ?_ rfl rfl (by kernel_rfl) (by kernel_rfl) (by kernel_rfl) (fun _ _ _ h => h) (by rfl) ?_ HS ?_
  rotate_left
  · (intro u hu; (try dsimp only at hu); go_simp; try with_reducible rfl)
  simp only [Act.put, List.setIfInBounds_toArray, List.set_cons_zero, List.set_cons_succ]
  refine handTake 17 (some 91) ?_ rfl rfl (by kernel_rfl) (by kernel_rfl) (by kernel_rfl) (fun _ _ _ h => h) (by rfl) ?_ HS ?_
  rotate_left
  · (intro u hu; (try dsimp only at hu); go_simp; try with_reducible rfl)
  simp only [Act.put, List.setIfInBounds_toArray, List.set_cons_zero, List.set_cons_succ]
  refine handTake 18 (some 92) ?_ rfl rfl (by kernel_rfl) (by kernel_rfl) (by kernel_rfl) (fun _ _ _ h => h) (by rfl) ?_ HS ?_
  rotate_left
  · (intro u hu; (try dsimp only at hu); go_simp; try with_reducible rfl)
  simp only [Act.put, List.setIfInBounds_toArray, List.set_cons_zero, List.set_cons_succ]
  refine handTake 19 (some 93) ?_ rfl rfl (by kernel_rfl) (by kernel_rfl) (by kernel_rfl) (fun _ _ _ h => h) (by rfl) ?_ HS ?_
  rotate_left
  · (intro u hu; (try dsimp only at hu); go_simp; try with_reducible rfl)
  simp only [Act.put, List.setIfInBounds_toArray, List.set_cons_zero, List.set_cons_succ]
  refine handTake 20 (some 94) ?_ rfl rfl (by kernel_rfl) (by kernel_rfl) (by kernel_rfl) (fun _ _ _ h => h) (by rfl) ?_ HS ?_
  rotate_left
  · (intro u hu; (try dsimp only at hu); go_simp; try with_reducible rfl)
  simp only [Act.put, List.setIfInBounds_toArray, List.set_cons_zero, List.set_cons_succ]
  refine handTake 21 (some 95) ?_ rfl rfl (by kernel_rfl) (by kernel_rfl) (by kernel_rfl) (fun _ _ _ h => h) (by rfl) ?_ HS ?_
  rotate_left
  · (intro u hu; (try dsimp only at hu); go_simp; try with_reducible rfl)
  simp only [Act.put, List.setIfInBounds_toArray, List.set_cons_zero, List.set_cons_succ]
  refine handTake 22 (some 96) ?_ rfl rfl (by kernel_rfl) (by kernel_rfl) (by kernel_rfl) (fun _ _ _ h => h) (by rfl) ?_ HS ?_
  rotate_left
  · (intro u hu; (try dsimp only at hu); go_simp; try with_reducible rfl)
  simp only [Act.put, List.setIfInBounds_toArray, List.set_cons_zero, List.set_cons_succ]
  refine handTake 23 (some 97) ?_ rfl rfl (by kernel_rfl) (by kernel_rfl) (by kernel_rfl) (fun _ _ _ h => h) (by rfl) ?_ HS ?_
  rotate_left
  · (intro u hu; (try dsimp only at hu); go_simp; try with_reducible rfl)
  simp only [Act.put, List.setIfInBounds_toArray, List.set_cons_zero, List.set_cons_succ]
  refine handTake 24 (some 98) ?_ rfl rfl (by kernel_rfl) (by kernel_rfl) (by kernel_rfl) (fun _ _ _ h => h) (by rfl) ?_ HS ?_
  rotate_left
  · (intro u hu; (try dsimp only at hu); go_simp; try with_reducible rfl)
  simp only [Act.put, List.setIfInBounds_toArray, List.set_cons_zero, List.set_cons_succ]
  refine handTake 25 (some 99) ?_ rfl rfl (by kernel_rfl) (by kernel_rfl) (by kernel_rfl) (fun _ _ _ h => h) (by rfl) ?_ HS ?_
  rotate_left
  · (intro u hu; (try dsimp only at hu); go_simp; try with_reducible rfl)
  simp only [Act.put, List.setIfInBounds_toArray, List.set_cons_zero, List.set_cons_succ]
  refine handTake 26 (some 100) ?_ rfl rfl (by kernel_rfl) (by kernel_rfl) (by kernel_rfl) (fun _ _ _ h => h) (by rfl) ?_ HS ?_
  rotate_left
  · (intro u hu; (try dsimp only at hu); go_simp; try with_reducible rfl)
  simp only [Act.put, List.setIfInBounds_toArray, List.set_cons_zero, List.set_cons_succ]
  refine handTake 27 (some 101) ?_ rfl rfl (by kernel_rfl) (by kernel_rfl) (by kernel_rfl) (fun _ _ _ h => h) (by rfl) ?_ HS ?_
  rotate_left
  · (intro u hu; (try dsimp only at hu); go_simp; try with_reducible rfl)
  simp only [Act.put, List.setIfInBounds_toArray, List.set_cons_zero, List.set_cons_succ]
  refine handTake 28 (some 102) ?_ rfl rfl (by kernel_rfl) (by kernel_rfl) (by kernel_rfl) (fun _ _ _ h => h) (by rfl) ?_ HS ?_
  rotate_left
  · (intro u hu; (try dsimp only at hu); go_simp; try with_reducible rfl)
  simp only [Act.put, List.setIfInBounds_toArray, List.set_cons_zero, List.set_cons_succ]
  refine handTake 29 (some 103) ?_ rfl rfl (by kernel_rfl) (by kernel_rfl) (by kernel_rfl) (fun _ _ _ h => h) (by rfl) ?_ HS ?_
  rotate_left
  · (intro u hu; (try dsimp only at hu); go_simp; try with_reducible rfl)
  simp only [Act.put, List.setIfInBounds_toArray, List.set_cons_zero, List.set_cons_succ]
  refine handTake 30 (some 104) ?_ rfl rfl (by kernel_rfl) (by kernel_rfl) (by kernel_rfl) (fun _ _ _ h => h) (by rfl) ?_ HS ?_
  rotate_left
  · (intro u hu; (try dsimp only at hu); go_simp; try with_reducible rfl)
  simp only [Act.put, List.setIfInBounds_toArray, List.set_cons_zero, List.set_cons_succ]
  refine handTake 31 (some 105) ?_ rfl rfl (by kernel_rfl) (by kernel_rfl) (by kernel_rfl) (fun _ _ _ h => h) (by rfl) ?_ HS ?_
  rotate_left
  · (intro u hu; (try dsimp only at hu); go_simp; try with_reducible rfl)
  simp only [Act.put, List.setIfInBounds_toArray, List.set_cons_zero, List.set_cons_succ]
  refine handTake 32 (some 106) ?_ rfl rfl (by kernel_rfl) (by kernel_rfl) (by kernel_rfl) (fun _ _ _ h => h) (by rfl) ?_ HS ?_
  rotate_left
  · (intro u hu; (try dsimp only at hu); go_simp; try with_reducible rfl)
  simp only [Act.put, List.setIfInBounds_toArray, List.set_cons_zero, List.set_cons_succ]
  refine handTake 33 (some 107) ?_ rfl rfl (by kernel_rfl) (by kernel_rfl) (by kernel_rfl) (fun _ _ _ h => h) (by rfl) ?_ HS ?_
  rotate_left
  · (intro u hu; (try dsimp only at hu); go_simp; try with_reducible rfl)
  simp only [Act.put, List.setIfInBounds_toArray, List.set_cons_zero, List.set_cons_succ]
  refine handTake 34 (some 108) ?_ rfl rfl (by kernel_rfl) (by kernel_rfl) (by kernel_rfl) (fun _ _ _ h => h) (by rfl) ?_ HS ?_
  rotate_left
  · (intro u hu; (try dsimp only at hu); go_simp; try with_reducible rfl)
  simp only [Act.put, List.setIfInBounds_toArray, List.set_cons_zero, List.set_cons_succ]
  refine handTake 35 (some 109) ?_ rfl rfl (by kernel_rfl) (by kernel_rfl) (by kernel_rfl) (fun _ _ _ h => h) (by rfl) ?_ HS ?_
  rotate_left
  · (intro u hu; (try dsimp only at hu); go_simp; try with_reducible rfl)
  simp only [Act.put, List.setIfInBounds_toArray, List.set_cons_zero, List.set_cons_succ]
  refine handTake 36 (some 110) ?_ rfl rfl (by kernel_rfl) (by kernel_rfl) (by kernel_rfl) (fun _ _ _ h => h) (by rfl) ?_ HS ?_
  rotate_left
  · (intro u hu; (try dsimp only at hu); go_simp; try with_reducible rfl)
  simp only [Act.put, List.setIfInBounds_toArray, List.set_cons_zero, List.set_cons_succ]
  refine handTake 37 (some 111) ?_ rfl rfl (by kernel_rfl) (by kernel_rfl) (by kernel_rfl) (fun _ _ _ h => h) (by rfl) ?_ HS ?_
  rotate_left
  · (intro u hu; (try dsimp only at hu); go_simp; try with_reducible rfl)
  simp only [Act.put, List.setIfInBounds_toArray, List.set_cons_zero, List.set_cons_succ]
  refine handTake 38 (some 112) ?_ rfl rfl (by kernel_rfl) (by kernel_rfl) (by kernel_rfl) (fun _ _ _ h => h) (by rfl) ?_ HS ?_
  rotate_left
  · (intro u hu; (try dsimp only at hu); go_simp; try with_reducible rfl)
  simp only [Act.put, List.setIfInBounds_toArray, List.set_cons_zero, List.set_cons_succ]
  refine handTake 39 (some 113) ?_ rfl rfl (by kernel_rfl) (by kernel_rfl) (by kernel_rfl) (fun _ _ _ h => h) (by rfl) ?_ HS ?_
  rotate_left
  · (intro u hu; (try dsimp only at hu); go_simp; try with_reducible rfl)
  simp only [Act.put, List.setIfInBounds_toArray, List.set_cons_zero, List.set_cons_succ]
  refine handTake 40 (some 114) ?_ rfl rfl (by kernel_rfl) (by kernel_rfl) (by kernel_rfl) (fun _ _ _ h => h) (by rfl) ?_ HS ?_
  rotate_left
  · (intro u hu; (try dsimp only at hu); go_simp; try with_reducible rfl)
  simp only [Act.put, List.setIfInBounds_toArray, List.set_cons_zero, List.set_cons_succ]
  refine handTake 41 (some 115) ?_ rfl rfl (by kernel_rfl) (by kernel_rfl) (by kernel_rfl) (fun _ _ _ h => h) (by rfl) ?_ HS ?_
  rotate_left
  · (intro u hu; (try dsimp only at hu); go_simp; try with_reducible rfl)
  simp only [Act.put, List.setIfInBounds_toArray, List.set_cons_zero, List.set_cons_succ]
  refine handTake 42 (some 116) ?_ rfl rfl (by kernel_rfl) (by kernel_rfl) (by kernel_rfl) (fun _ _ _ h => h) (by rfl) ?_ HS ?_
  rotate_left
  · (intro u hu; (try dsimp only at hu); go_simp; try with_reducible rfl)
  simp only [Act.put, List.setIfInBounds_toArray, List.set_cons_zero, List.set_cons_succ]
  refine handTake 43 (some 117) ?_ rfl rfl (by kernel_rfl) (by kernel_rfl) (by kernel_rfl) (fun _ _ _ h => h) (by rfl) ?_ HS ?_
  rotate_left
  · (intro u hu; (try dsimp only at hu); go_simp; try with_reducible rfl)
  simp only [Act.put, List.setIfInBounds_toArray, List.set_cons_zero, List.set_cons_succ]
  refine handTake 44 (some 118) ?_ rfl rfl (by kernel_rfl) (by kernel_rfl) (by kernel_rfl) (fun _ _ _ h => h) (by rfl) ?_ HS ?_
  rotate_left
  · (intro u hu; (try dsimp only at hu); go_simp; try with_reducible rfl)
  simp only [Act.put, List.setIfInBounds_toArray, List.set_cons_zero, List.set_cons_succ]
  refine handTake 45 (some 119) ?_ rfl rfl (by kernel_rfl) (by kernel_rfl) (by kernel_rfl) (fun _ _ _ h => h) (by rfl) ?_ HS ?_
  rotate_left
  · (intro u hu; (try dsimp only at hu); go_simp; try with_reducible rfl)
  simp only [Act.put, List.setIfInBounds_toArray, List.set_cons_zero, List.set_cons_succ]
  refine wpAnyH_ready (rs := [46]) (by kernel_rfl) (by simp) ?_
  refine AllReadyH.cons rfl (fun K hK => ?_) AllReadyH.nil
  go_simp
  clear HS
  refine (get_law 2 3 _).mono ?_
  rintro e9 u90 ⟨rfl, hx⟩
  have HC1 := Lib.hid (HS16.out.drew.call hx)
  clear hx
  go_wp2_with fail
  refine hK.out _ _ (SOF.out _ ⟨_, HC1.out⟩) (fun HS => ?_)
  clear hK
  try simp only [Act.put, List.setIfInBounds_toArray, List.set_cons_zero, List.set_cons_succ]
  refine handTake 47 (some 121) ?_ rfl rfl (by kernel_rfl) (by kernel_rfl) (by kernel_rfl) (fun _ _ _ h => h) (by rfl) ?_ HS ?_
  rotate_left
  · (intro u hu; (try dsimp only at hu); go_simp; try with_reducible rfl)
  simp only [Act.put, List.setIfInBounds_toArray, List.set_cons_zero, List.set_cons_succ]
  refine handTake 48 (some 122) ?_ rfl rfl (by kernel_rfl) (by kernel_rfl) (by kernel_rfl) (fun _ _ _ h => h) (by rfl) ?_ HS ?_
  rotate_left
  · (intro u hu; (try dsimp only at hu); go_simp; try with_reducible rfl)
  simp only [Act.put, List.setIfInBounds_toArray, List.set_cons_zero, List.set_cons_succ]
  refine handTake 49 (some 123) ?_ rfl rfl (by kernel_rfl) (by kernel_rfl) (by kernel_rfl) (fun _ _ _ h => h) (by rfl) ?_ HS ?_
  rotate_left
  · (intro u hu; (try dsimp only at hu); go_simp; try with_reducible rfl)
  simp only [Act.put, List.setIfInBounds_toArray, List.set_cons_zero, List.set_cons_succ]
  refine handTake 50 (some 124) ?_ rfl rfl (by kernel_rfl) (by kernel_rfl) (by kernel_rfl) (fun _ _ _ h => h) (by rfl) ?_ HS ?_
  rotate_left
  · (intro u hu; (try dsimp only at hu); go_simp; try with_reducible rfl)
  simp only [Act.put, List.setIfInBounds_toArray, List.set_cons_zero, List.set_cons_succ]
  refine handTake 51 (some 125) ?_ rfl rfl (by kernel_rfl) (by kernel_rfl) (by kernel_rfl) (fun _ _ _ h => h) (by rfl) ?_ HS ?_
  rotate_left
  · (intro u hu; (try dsimp only at hu); go_simp; try with_reducible rfl)
  simp only [Act.put, List.setIfInBounds_toArray, List.set_cons_zero, List.set_cons_succ]
  refine handTake 52 (some 126) ?_ rfl rfl (by kernel_rfl) (by kernel_rfl) (by kernel_rfl) (fun _ _ _ h => h) (by rfl) ?_ HS ?_
  rotate_left
  · (intro u hu; (try dsimp only at hu); go_simp; try with_reducible rfl)
  simp only [Act.put, List.setIfInBounds_toArray, List.set_cons_zero, List.set_cons_succ]
  refine handTake 53 (some 127) ?_ rfl rfl (by kernel_rfl) (by kernel_rfl) (by kernel_rfl) (fun _ _ _ h => h) (by rfl) ?_ HS ?_
  rotate_left
  · (intro u hu; (try dsimp only at hu); go_simp; try with_reducible rfl)
  simp only [Act.put, List.setIfInBounds_toArray, List.set_cons_zero, List.set_cons_succ]
  refine handTake 54 (some 128) ?_ rfl rfl (by kernel_rfl) (by kernel_rfl) (by kernel_rfl) (fun _ _ _ h => h) (by rfl) ?_ HS ?_
  rotate_left
  · (intro u hu; (try dsimp only at hu); go_simp; try with_reducible rfl)
  simp only [Act.put, List.setIfInBounds_toArray, List.set_cons_zero, List.set_cons_succ]
  refine handTake 55 (some 129) ?_ rfl rfl (by kernel_rfl) (by kernel_rfl) (by kernel_rfl) (fun _ _ _ h => h) (by rfl) ?_ HS ?_
  rotate_left
  · (intro u hu; (try dsimp only at hu); go_simp; try with_reducible rfl)
  simp only [Act.put, List.setIfInBounds_toArray, List.set_cons_zero, List.set_cons_succ]
  refine handTake 56 (some 130) ?_ rfl rfl (by kernel_rfl) (by kernel_rfl) (by kernel_rfl) (fun _ _ _ h => h) (by rfl) ?_ HS ?_
  rotate_left
  · (intro u hu; (try dsimp only at hu); go_simp; try with_reducible rfl)
  simp only [Act.put, List.setIfInBounds_toArray, List.set_cons_zero, List.set_cons_succ]
  refine handTake 57 (some 131) ?_ rfl rfl (by kernel_rfl) (by kernel_rfl) (by kernel_rfl) (fun _ _ _ h => h) (by rfl) ?_ HS ?_
  rotate_left
  · (intro u hu; (try dsimp only at hu); go_simp; try with_reducible rfl)
  simp only [Act.put, List.setIfInBounds_toArray, List.set_cons_zero, List.set_cons_succ]
  refine handTake 58 (some 132) ?_ rfl rfl (by kernel_rfl) (by kernel_rfl) (by kernel_rfl) (fun _ _ _ h => h) (by rfl) ?_ HS ?_
  rotate_left
  · (intro u hu; (try dsimp only at hu); go_simp; try with_reducible rfl)
  simp only [Act.put, List.setIfInBounds_toArray, List.set_cons_zero, List.set_cons_succ]
  refine wpAnyH_ready (rs := [59]) (by kernel_rfl) (by simp) ?_
  refine AllReadyH.cons rfl (fun K hK => ?_) AllReadyH.nil
  go_simp
  clear HS
  have e1 : ansR 3 0 1 [⟨⟨1, 5, ⟨2, cA, em, c1⟩⟩, 0, 0, 1⟩] = (2, [⟨⟨1, 5, ⟨2, cA, em, c1⟩⟩, 0, 0, 1⟩]) := by kernel_rfl
  refine (answer_sep HC1.out (by decide) OK16.out 0 1).mono ?_
  rintro e91 u91 ⟨rfl, v91, h⟩
  rw [e1] at h ⊢
  have HC2 := Lib.hid h
  clear h e1 HC1
  go_wp2_with fail
  refine hK.out _ _ (SOF.out _ ⟨_, HC2.out⟩) (fun HS => ?_)
  clear hK
  try simp only [Act.put, List.setIfInBounds_toArray, List.set_cons_zero, List.set_cons_succ]
  refine handTake 60 (some 134) ?_ rfl rfl (by kernel_rfl) (by kernel_rfl) (by kernel_rfl) (fun _ _ _ h => h) (by rfl) ?_ HS ?_
  rotate_left
  · (intro u hu; (try dsimp only at hu); go_simp; try with_reducible rfl)
  simp only [Act.put, List.setIfInBounds_toArray, List.set_cons_zero, List.set_cons_succ]
  refine handTake 61 (some 135) ?_ rfl rfl (by kernel_rfl) (by kernel_rfl) (by kernel_rfl) (fun _ _ _ h => h) (by rfl) ?_ HS ?_
  rotate_left
  · (intro u hu; (try dsimp only at hu); go_simp; try with_reducible rfl)
  simp only [Act.put, List.setIfInBounds_toArray, List.set_cons_zero, List.set_cons_succ]
  refine wpAnyH_done (by kernel_rfl) ?_ _
  clear HS
  go_wp2_with fail
  refine (done_sep HC2.out (by decide) OK16.out 1 5 true (by kernel_rfl)).mono ?_
  rintro e u92 ⟨rfl, v92, h⟩
  rw [show left (doneB 1 5) [⟨⟨1, 5, ⟨2, cA, em, c1⟩⟩, 0, 0, 1⟩] = [] by kernel_rfl] at h
  have HC3 := Lib.hid h; clear h HC2
  go_wp2_with fail
  refine (done_sep HC3.out (by decide) OK00.out 1 5 false (by kernel_rfl)).mono ?_
  rintro e u93 ⟨rfl, v93, h⟩
  rw [show left (doneB 1 5) [] = [] by kernel_rfl] at h
  have HC4 := Lib.hid h; clear h HC3
  go_wp2_with fail
  refine (waits_sep HC4.out (by decide) OK00.out [] rfl 0 rfl).mono ?_
  rintro e u94 ⟨A94, c94, rfl, h⟩
  have HC5 := Lib.hid h; clear h HC4
  go_wp2_with fail
  go_ret
  exact ⟨rfl, HC5.out.below⟩

end Qu
end Go.Proofs.Ytinnpeonokdljaa
