/- Write and Read, by put; what a queue that nobody made does; which lists of acts are great. -/
import Derived.Test.YtinnpeonokdljaaQueueMay
import Derived.Test.YtinnpeonokdljaaFoot
set_option linter.unusedSimpArgs false
set_option linter.unusedVariables false
namespace Go.Proofs.Ytinnpeonokdljaa
open Go.RowKit

namespace Qu
/-- p points to a queue that nobody made, or nowhere. -/
def Non (p : Option Addr) (w : World) : Prop := p = none ∨ ∃ g own v, p = some ⟨g, 0, none⟩ ∧ QS w g 0 own v
theorem Non.below {p : Option Addr} {w u : World} (h : Non p w) (hx : Below w.heap.size w u) : Non p u := by
  rcases h with h | ⟨g, own, v, h, k⟩
  · exact .inl h
  · exact .inr ⟨g, own, v, h, Whole.below k hx (Whole.lt k)⟩
theorem Non.alloc {p : Option Addr} {w : World} (h : Non p w) (o : Obj) : Non p (w.alloc o) := h.below (be1 w o)
theorem none_true {p : Option Addr} {w : World} (h : Non p w) : Calls Try.prog 35 #[.pointer p] w fun e w' => e = .returned (.bool true) ∧ w = w' := by
  rcases h with rfl | ⟨g, own, v, rfl, k⟩
  · exact none_nil w
  · exact none_zero g own v w k

set_option maxHeartbeats 1000000 in
theorem put_non (p : Option Addr) (m s : Int) (k : Nat) (a b c : ByteArray) (n i : Int) (r : Bool) (w : World) (hp : Non p w) :
    Calls Try.prog 32 #[.pointer p, .agg #[.int .i64 m, .int .i64 s, .int .u8 (k : Nat), .string a, .string b, .string c, .int .i64 n, .int .i64 i, .int .u8 0], .bool r] w fun e w' => e = .returned (.tuple #[.bool false, .int .i64 1]) ∧ Below w.heap.size w w' := by
  have N := Lib.hid (none_true (hp.alloc (.cells #[.int .i64 m, .int .i64 s, .int .u8 (k : Nat), .string a, .string b, .string c, .int .i64 n, .int .i64 i, .int .u8 0] 66)))
  clear hp
  go_enter Try.func32, Try.ntmps32
  go_wp2_with fail
  refine N.out.mono ?_
  rintro e u ⟨rfl, rfl⟩
  go_wp2_with fail
  go_ret2
  exact ⟨rfl, be1 _ _⟩

set_option maxHeartbeats 2000000 in
theorem write_by (p : Option Addr) (m s : Int) (k : Nat) (a b c : ByteArray) (w : World) (F : Nat → Prop) (hF : ∀ i, F i → i < w.heap.size) (Q : Bool → Int → World → Prop)
    (H : ∀ u, Below w.heap.size w u → Calls Try.prog 32 #[.pointer p, .agg #[.int .i64 m, .int .i64 s, .int .u8 (k : Nat), .string a, .string b, .string c, .int .i64 0, .int .i64 0, .int .u8 0], .bool (!readsB ⟨k, a, b, c⟩)] u fun e w' => (∃ y n, e = .returned (.tuple #[.bool y, .int .i64 n]) ∧ Q y n w') ∧ Foot F u w') :
    Calls Try.prog 9 #[.pointer p, .agg #[.int .i64 m, .int .i64 s, .int .u8 (k : Nat), .string a, .string b, .string c]] w fun e w' => (∃ y n, e = .returned (.tuple #[.bool y, .int .i64 n]) ∧ Q y n w') ∧ Foot F w w' := by
  have HH := Lib.hid H
  have HF := Lib.hid hF
  clear H hF
  have HB0 := Lib.hid (be1 w (.cells #[.int .i64 m, .int .i64 s, .int .u8 (k : Nat), .string a, .string b, .string c] 25))
  have HX0 := Lib.hid (Whole.new w 25 [.int .i64 m, .int .i64 s, .int .u8 (k : Nat), .string a, .string b, .string c])
  have R := Lib.hid (reads_any k a b c)
  generalize readsB ⟨k, a, b, c⟩ = r0 at *
  go_enter Try.func9, Try.ntmps9
  go_wp2_with fail
  refine wp_region_held_drew (S := (fun u : World => u.cell? ⟨w.heap.size, 0, none⟩ = some (.int .i64 m) ∧ u.cell? ⟨w.heap.size, 1, none⟩ = some (.int .i64 s) ∧ u.cell? ⟨w.heap.size, 2, none⟩ = some (.int .u8 (k : Nat)) ∧ u.cell? ⟨w.heap.size, 3, none⟩ = some (.string a) ∧ u.cell? ⟨w.heap.size, 4, none⟩ = some (.string b) ∧ u.cell? ⟨w.heap.size, 5, none⟩ = some (.string c))) (by kernel_rfl) (⟨(HX0.out.drew).cell 0, (HX0.out.drew).cell 1, (HX0.out.drew).cell 2, (HX0.out.drew).cell 3, (HX0.out.drew).cell 4, (HX0.out.drew).cell 5⟩) (fun HS => ?_)
  refine handTake 0 (some 6) ?_ rfl rfl (by kernel_rfl) (by kernel_rfl) (by kernel_rfl) (fun _ _ _ h => h) (by rfl) ?_ HS ?_
  rotate_left
  · (intro u hu; (try dsimp only at hu); go_simp; try with_reducible rfl)
  simp only [Act.put, List.setIfInBounds_toArray, List.set_cons_zero, List.set_cons_succ]
  refine handTake 1 (some 7) ?_ rfl rfl (by kernel_rfl) (by kernel_rfl) (by kernel_rfl) (fun _ _ _ h => h) (by rfl) ?_ HS ?_
  rotate_left
  · (intro u hu; (try dsimp only at hu); go_simp; try with_reducible rfl)
  simp only [Act.put, List.setIfInBounds_toArray, List.set_cons_zero, List.set_cons_succ]
  refine handTake 2 (some 8) ?_ rfl rfl (by kernel_rfl) (by kernel_rfl) (by kernel_rfl) (fun _ _ _ h => h) (by rfl) ?_ HS ?_
  rotate_left
  · (intro u hu; (try dsimp only at hu); go_simp; try with_reducible rfl)
  simp only [Act.put, List.setIfInBounds_toArray, List.set_cons_zero, List.set_cons_succ]
  refine handTake 3 (some 9) ?_ rfl rfl (by kernel_rfl) (by kernel_rfl) (by kernel_rfl) (fun _ _ _ h => h) (by rfl) ?_ HS ?_
  rotate_left
  · (intro u hu; (try dsimp only at hu); go_simp; try with_reducible rfl)
  simp only [Act.put, List.setIfInBounds_toArray, List.set_cons_zero, List.set_cons_succ]
  refine handTake 4 (some 10) ?_ rfl rfl (by kernel_rfl) (by kernel_rfl) (by kernel_rfl) (fun _ _ _ h => h) (by rfl) ?_ HS ?_
  rotate_left
  · (intro u hu; (try dsimp only at hu); go_simp; try with_reducible rfl)
  simp only [Act.put, List.setIfInBounds_toArray, List.set_cons_zero, List.set_cons_succ]
  refine wpAnyH_ready (rs := [5]) (by kernel_rfl) (by simp) ?_
  refine AllReadyH.cons rfl (fun K hK => ?_) AllReadyH.nil
  go_simp
  clear HS
  refine (R.out _).mono ?_
  rintro e1 u1 ⟨rfl, hx⟩
  have HX1 := Lib.hid ((HX0.out.drew).below hx (HX0.out).lt)
  have HB1 := Lib.hid ((HB0.out.drew).trans (hx.mono HB0.out.size))
  clear hx
  go_wp2_with fail
  refine hK.out _ _ (⟨HX1.out.cell 0, HX1.out.cell 1, HX1.out.cell 2, HX1.out.cell 3, HX1.out.cell 4, HX1.out.cell 5⟩) (fun HS => ?_)
  clear hK
  try simp only [Act.put, List.setIfInBounds_toArray, List.set_cons_zero, List.set_cons_succ]
  refine handTake 6 (some 12) ?_ rfl rfl (by kernel_rfl) (by kernel_rfl) (by kernel_rfl) (fun _ _ _ h => h) (by rfl) ?_ HS ?_
  rotate_left
  · (intro u hu; (try dsimp only at hu); go_simp; try with_reducible rfl)
  simp only [Act.put, List.setIfInBounds_toArray, List.set_cons_zero, List.set_cons_succ]
  refine wpAnyH_ready (rs := [7]) (by kernel_rfl) (by simp) ?_
  refine AllReadyH.cons rfl (fun K hK => ?_) AllReadyH.nil
  go_simp
  clear HS
  refine (HH.out _ (HB1.out)).mono ?_
  rintro e9 u9 ⟨⟨y, n, rfl, hq⟩, hf⟩
  have HX9 := Lib.hid (hf.whole (HX1.out) (fun h => by have := HF.out _ h; omega))
  have HZ := Lib.hid ((Foot.of_below (HB1.out)).then hf (fun i hi => .inl hi))
  have HQ := Lib.hid hq
  clear hq hf
  go_wp2_with fail
  refine hK.out _ _ (⟨HX9.out.cell 0, HX9.out.cell 1, HX9.out.cell 2, HX9.out.cell 3, HX9.out.cell 4, HX9.out.cell 5⟩) (fun HS => ?_)
  clear hK
  try simp only [Act.put, List.setIfInBounds_toArray, List.set_cons_zero, List.set_cons_succ]
  refine handTake 8 (some 14) ?_ rfl rfl (by kernel_rfl) (by kernel_rfl) (by kernel_rfl) (fun _ _ _ h => h) (by rfl) ?_ HS ?_
  rotate_left
  · (intro u hu; (try dsimp only at hu); go_simp; try with_reducible rfl)
  simp only [Act.put, List.setIfInBounds_toArray, List.set_cons_zero, List.set_cons_succ]
  refine handTake 9 (some 15) ?_ rfl rfl (by kernel_rfl) (by kernel_rfl) (by kernel_rfl) (fun _ _ _ h => h) (by rfl) ?_ HS ?_
  rotate_left
  · (intro u hu; (try dsimp only at hu); go_simp; try with_reducible rfl)
  simp only [Act.put, List.setIfInBounds_toArray, List.set_cons_zero, List.set_cons_succ]
  refine handTake 10 (some 4) ?_ rfl rfl (by kernel_rfl) (by kernel_rfl) (by kernel_rfl) (fun _ _ _ h => h) (by rfl) ?_ HS ?_
  rotate_left
  · (intro u hu; (try dsimp only at hu); go_simp; try with_reducible rfl)
  simp only [Act.put, List.setIfInBounds_toArray, List.set_cons_zero, List.set_cons_succ]
  refine handTake 11 (some 5) ?_ rfl rfl (by kernel_rfl) (by kernel_rfl) (by kernel_rfl) (fun _ _ _ h => h) (by rfl) ?_ HS ?_
  rotate_left
  · (intro u hu; (try dsimp only at hu); go_simp; try with_reducible rfl)
  simp only [Act.put, List.setIfInBounds_toArray, List.set_cons_zero, List.set_cons_succ]
  refine wpAnyH_done (by kernel_rfl) ?_ _
  clear HS
  go_wp2_with fail
  go_ret2
  exact ⟨⟨_, _, rfl, HQ.out⟩, HZ.out⟩

set_option maxHeartbeats 4000000 in
theorem read_by (p : Option Addr) (m s : Int) (k : Nat) (a b c : ByteArray) (nn ix : Int) (w : World) (F : Nat → Prop) (hF : ∀ i, F i → i < w.heap.size) (Q : Bool → Int → World → Prop)
    (H : ∀ u, Below w.heap.size w u → Calls Try.prog 32 #[.pointer p, .agg #[.int .i64 m, .int .i64 s, .int .u8 (k : Nat), .string a, .string b, .string c, .int .i64 nn, .int .i64 ix, .int .u8 0], .bool (readsB ⟨k, a, b, c⟩ && numB 1 nn && numB 0 ix)] u fun e w' => (∃ y n, e = .returned (.tuple #[.bool y, .int .i64 n]) ∧ Q y n w') ∧ Foot F u w') :
    Calls Try.prog 10 #[.pointer p, .agg #[.int .i64 m, .int .i64 s, .int .u8 (k : Nat), .string a, .string b, .string c], .int .i64 nn, .int .i64 ix] w fun e w' => (∃ y n, e = .returned (.tuple #[.bool y, .int .i64 n]) ∧ Q y n w') ∧ Foot F w w' := by
  have HH := Lib.hid H
  have HF := Lib.hid hF
  clear H hF
  have HB0 := Lib.hid (be1 w (.cells #[.int .i64 m, .int .i64 s, .int .u8 (k : Nat), .string a, .string b, .string c] 25))
  have HX0 := Lib.hid (Whole.new w 25 [.int .i64 m, .int .i64 s, .int .u8 (k : Nat), .string a, .string b, .string c])
  have R := reads_any k a b c
  generalize readsB ⟨k, a, b, c⟩ = r0 at *
  cases r0
  · have R := Lib.hid R
    go_enter Try.func10, Try.ntmps10
    go_wp2_with fail
    refine wp_region_held_drew (S := (fun u : World => u.cell? ⟨w.heap.size, 0, none⟩ = some (.int .i64 m) ∧ u.cell? ⟨w.heap.size, 1, none⟩ = some (.int .i64 s) ∧ u.cell? ⟨w.heap.size, 2, none⟩ = some (.int .u8 (k : Nat)) ∧ u.cell? ⟨w.heap.size, 3, none⟩ = some (.string a) ∧ u.cell? ⟨w.heap.size, 4, none⟩ = some (.string b) ∧ u.cell? ⟨w.heap.size, 5, none⟩ = some (.string c))) (by kernel_rfl) (⟨(HX0.out.drew).cell 0, (HX0.out.drew).cell 1, (HX0.out.drew).cell 2, (HX0.out.drew).cell 3, (HX0.out.drew).cell 4, (HX0.out.drew).cell 5⟩) (fun HS => ?_)
    refine handTake 0 (some 10) ?_ rfl rfl (by kernel_rfl) (by kernel_rfl) (by kernel_rfl) (fun _ _ _ h => h) (by rfl) ?_ HS ?_
    rotate_left
    · (intro u hu; (try dsimp only at hu); go_simp; try with_reducible rfl)
    simp only [Act.put, List.setIfInBounds_toArray, List.set_cons_zero, List.set_cons_succ]
    refine handTake 1 (some 11) ?_ rfl rfl (by kernel_rfl) (by kernel_rfl) (by kernel_rfl) (fun _ _ _ h => h) (by rfl) ?_ HS ?_
    rotate_left
    · (intro u hu; (try dsimp only at hu); go_simp; try with_reducible rfl)
    simp only [Act.put, List.setIfInBounds_toArray, List.set_cons_zero, List.set_cons_succ]
    refine handTake 2 (some 12) ?_ rfl rfl (by kernel_rfl) (by kernel_rfl) (by kernel_rfl) (fun _ _ _ h => h) (by rfl) ?_ HS ?_
    rotate_left
    · (intro u hu; (try dsimp only at hu); go_simp; try with_reducible rfl)
    simp only [Act.put, List.setIfInBounds_toArray, List.set_cons_zero, List.set_cons_succ]
    refine handTake 3 (some 13) ?_ rfl rfl (by kernel_rfl) (by kernel_rfl) (by kernel_rfl) (fun _ _ _ h => h) (by rfl) ?_ HS ?_
    rotate_left
    · (intro u hu; (try dsimp only at hu); go_simp; try with_reducible rfl)
    simp only [Act.put, List.setIfInBounds_toArray, List.set_cons_zero, List.set_cons_succ]
    refine handTake 4 (some 14) ?_ rfl rfl (by kernel_rfl) (by kernel_rfl) (by kernel_rfl) (fun _ _ _ h => h) (by rfl) ?_ HS ?_
    rotate_left
    · (intro u hu; (try dsimp only at hu); go_simp; try with_reducible rfl)
    simp only [Act.put, List.setIfInBounds_toArray, List.set_cons_zero, List.set_cons_succ]
    refine handTake 5 (some 15) ?_ rfl rfl (by kernel_rfl) (by kernel_rfl) (by kernel_rfl) (fun _ _ _ h => h) (by rfl) ?_ HS ?_
    rotate_left
    · (intro u hu; (try dsimp only at hu); go_simp; try with_reducible rfl)
    simp only [Act.put, List.setIfInBounds_toArray, List.set_cons_zero, List.set_cons_succ]
    refine handTake 6 (some 16) ?_ rfl rfl (by kernel_rfl) (by kernel_rfl) (by kernel_rfl) (fun _ _ _ h => h) (by rfl) ?_ HS ?_
    rotate_left
    · (intro u hu; (try dsimp only at hu); go_simp; try with_reducible rfl)
    simp only [Act.put, List.setIfInBounds_toArray, List.set_cons_zero, List.set_cons_succ]
    refine wpAnyH_ready (rs := [7]) (by kernel_rfl) (by simp) ?_
    refine AllReadyH.cons rfl (fun K hK => ?_) AllReadyH.nil
    go_simp
    clear HS
    refine (R.out _).mono ?_
    rintro e1 u1 ⟨rfl, hx⟩
    have HX1 := Lib.hid ((HX0.out.drew).below hx (HX0.out).lt)
    have HB1 := Lib.hid ((HB0.out.drew).trans (hx.mono HB0.out.size))
    clear hx
    go_wp2_with fail
    refine hK.out _ _ (⟨HX1.out.cell 0, HX1.out.cell 1, HX1.out.cell 2, HX1.out.cell 3, HX1.out.cell 4, HX1.out.cell 5⟩) (fun HS => ?_)
    clear hK
    try simp only [Act.put, List.setIfInBounds_toArray, List.set_cons_zero, List.set_cons_succ]
    refine handTake 8 (some 18) ?_ rfl rfl (by kernel_rfl) (by kernel_rfl) (by kernel_rfl) (fun _ _ _ h => h) (by rfl) ?_ HS ?_
    rotate_left
    · (intro u hu; (try dsimp only at hu); go_simp; try with_reducible rfl)
    simp only [Act.put, List.setIfInBounds_toArray, List.set_cons_zero, List.set_cons_succ]
    refine handSkip 9 (some 19) rfl rfl (by kernel_rfl) (by kernel_rfl) (by kernel_rfl) (fun _ _ _ h => h) (by rfl) HS ?_
    simp only [Act.put, List.setIfInBounds_toArray, List.set_cons_zero, List.set_cons_succ]
    refine handSkip 10 (some 20) rfl rfl (by kernel_rfl) (by kernel_rfl) (by kernel_rfl) (fun _ _ _ h => h) (by rfl) HS ?_
    simp only [Act.put, List.setIfInBounds_toArray, List.set_cons_zero, List.set_cons_succ]
    refine handSkip 11 (some 21) rfl rfl (by kernel_rfl) (by kernel_rfl) (by kernel_rfl) (fun _ _ _ h => h) (by rfl) HS ?_
    simp only [Act.put, List.setIfInBounds_toArray, List.set_cons_zero, List.set_cons_succ]
    refine handTake 12 (some 22) ?_ rfl rfl (by kernel_rfl) (by kernel_rfl) (by kernel_rfl) (fun _ _ _ h => h) (by rfl) ?_ HS ?_
    rotate_left
    · (intro u hu; (try dsimp only at hu); go_simp; try with_reducible rfl)
    simp only [Act.put, List.setIfInBounds_toArray, List.set_cons_zero, List.set_cons_succ]
    refine handTake 13 (some 23) ?_ rfl rfl (by kernel_rfl) (by kernel_rfl) (by kernel_rfl) (fun _ _ _ h => h) (by rfl) ?_ HS ?_
    rotate_left
    · (intro u hu; (try dsimp only at hu); go_simp; try with_reducible rfl)
    simp only [Act.put, List.setIfInBounds_toArray, List.set_cons_zero, List.set_cons_succ]
    refine handSkip 14 (some 24) rfl rfl (by kernel_rfl) (by kernel_rfl) (by kernel_rfl) (fun _ _ _ h => h) (by rfl) HS ?_
    simp only [Act.put, List.setIfInBounds_toArray, List.set_cons_zero, List.set_cons_succ]
    refine handSkip 15 (some 25) rfl rfl (by kernel_rfl) (by kernel_rfl) (by kernel_rfl) (fun _ _ _ h => h) (by rfl) HS ?_
    simp only [Act.put, List.setIfInBounds_toArray, List.set_cons_zero, List.set_cons_succ]
    refine handSkip 16 (some 26) rfl rfl (by kernel_rfl) (by kernel_rfl) (by kernel_rfl) (fun _ _ _ h => h) (by rfl) HS ?_
    simp only [Act.put, List.setIfInBounds_toArray, List.set_cons_zero, List.set_cons_succ]
    refine handTake 17 (some 27) ?_ rfl rfl (by kernel_rfl) (by kernel_rfl) (by kernel_rfl) (fun _ _ _ h => h) (by rfl) ?_ HS ?_
    rotate_left
    · (intro u hu; (try dsimp only at hu); go_simp; try with_reducible rfl)
    simp only [Act.put, List.setIfInBounds_toArray, List.set_cons_zero, List.set_cons_succ]
    refine wpAnyH_ready (rs := [18]) (by kernel_rfl) (by simp) ?_
    refine AllReadyH.cons rfl (fun K hK => ?_) AllReadyH.nil
    go_simp
    clear HS
    refine (HH.out _ (HB1.out)).mono ?_
    rintro e9 u9 ⟨⟨y, n, rfl, hq⟩, hf⟩
    have HX9 := Lib.hid (hf.whole (HX1.out) (fun h => by have := HF.out _ h; omega))
    have HZ := Lib.hid ((Foot.of_below (HB1.out)).then hf (fun i hi => .inl hi))
    have HQ := Lib.hid hq
    clear hq hf
    go_wp2_with fail
    refine hK.out _ _ (⟨HX9.out.cell 0, HX9.out.cell 1, HX9.out.cell 2, HX9.out.cell 3, HX9.out.cell 4, HX9.out.cell 5⟩) (fun HS => ?_)
    clear hK
    try simp only [Act.put, List.setIfInBounds_toArray, List.set_cons_zero, List.set_cons_succ]
    refine handTake 19 (some 29) ?_ rfl rfl (by kernel_rfl) (by kernel_rfl) (by kernel_rfl) (fun _ _ _ h => h) (by rfl) ?_ HS ?_
    rotate_left
    · (intro u hu; (try dsimp only at hu); go_simp; try with_reducible rfl)
    simp only [Act.put, List.setIfInBounds_toArray, List.set_cons_zero, List.set_cons_succ]
    refine handTake 20 (some 30) ?_ rfl rfl (by kernel_rfl) (by kernel_rfl) (by kernel_rfl) (fun _ _ _ h => h) (by rfl) ?_ HS ?_
    rotate_left
    · (intro u hu; (try dsimp only at hu); go_simp; try with_reducible rfl)
    simp only [Act.put, List.setIfInBounds_toArray, List.set_cons_zero, List.set_cons_succ]
    refine handTake 21 (some 8) ?_ rfl rfl (by kernel_rfl) (by kernel_rfl) (by kernel_rfl) (fun _ _ _ h => h) (by rfl) ?_ HS ?_
    rotate_left
    · (intro u hu; (try dsimp only at hu); go_simp; try with_reducible rfl)
    simp only [Act.put, List.setIfInBounds_toArray, List.set_cons_zero, List.set_cons_succ]
    refine handTake 22 (some 9) ?_ rfl rfl (by kernel_rfl) (by kernel_rfl) (by kernel_rfl) (fun _ _ _ h => h) (by rfl) ?_ HS ?_
    rotate_left
    · (intro u hu; (try dsimp only at hu); go_simp; try with_reducible rfl)
    simp only [Act.put, List.setIfInBounds_toArray, List.set_cons_zero, List.set_cons_succ]
    refine wpAnyH_done (by kernel_rfl) ?_ _
    clear HS
    go_wp2_with fail
    go_ret2
    exact ⟨⟨_, _, rfl, HQ.out⟩, HZ.out⟩
  have NB := fun (bb : Nat) (u : World) => number_any bb 1 nn u
  cases hn : numB 1 nn
  · rw [hn] at HH NB
    have R := Lib.hid R
    have NB := Lib.hid NB
    go_enter Try.func10, Try.ntmps10
    go_wp2_with fail
    refine wp_region_held_drew (S := (fun u : World => u.cell? ⟨w.heap.size, 0, none⟩ = some (.int .i64 m) ∧ u.cell? ⟨w.heap.size, 1, none⟩ = some (.int .i64 s) ∧ u.cell? ⟨w.heap.size, 2, none⟩ = some (.int .u8 (k : Nat)) ∧ u.cell? ⟨w.heap.size, 3, none⟩ = some (.string a) ∧ u.cell? ⟨w.heap.size, 4, none⟩ = some (.string b) ∧ u.cell? ⟨w.heap.size, 5, none⟩ = some (.string c))) (by kernel_rfl) (⟨(HX0.out.drew).cell 0, (HX0.out.drew).cell 1, (HX0.out.drew).cell 2, (HX0.out.drew).cell 3, (HX0.out.drew).cell 4, (HX0.out.drew).cell 5⟩) (fun HS => ?_)
    refine handTake 0 (some 10) ?_ rfl rfl (by kernel_rfl) (by kernel_rfl) (by kernel_rfl) (fun _ _ _ h => h) (by rfl) ?_ HS ?_
    rotate_left
    · (intro u hu; (try dsimp only at hu); go_simp; try with_reducible rfl)
    simp only [Act.put, List.setIfInBounds_toArray, List.set_cons_zero, List.set_cons_succ]
    refine handTake 1 (some 11) ?_ rfl rfl (by kernel_rfl) (by kernel_rfl) (by kernel_rfl) (fun _ _ _ h => h) (by rfl) ?_ HS ?_
    rotate_left
    · (intro u hu; (try dsimp only at hu); go_simp; try with_reducible rfl)
    simp only [Act.put, List.setIfInBounds_toArray, List.set_cons_zero, List.set_cons_succ]
    refine handTake 2 (some 12) ?_ rfl rfl (by kernel_rfl) (by kernel_rfl) (by kernel_rfl) (fun _ _ _ h => h) (by rfl) ?_ HS ?_
    rotate_left
    · (intro u hu; (try dsimp only at hu); go_simp; try with_reducible rfl)
    simp only [Act.put, List.setIfInBounds_toArray, List.set_cons_zero, List.set_cons_succ]
    refine handTake 3 (some 13) ?_ rfl rfl (by kernel_rfl) (by kernel_rfl) (by kernel_rfl) (fun _ _ _ h => h) (by rfl) ?_ HS ?_
    rotate_left
    · (intro u hu; (try dsimp only at hu); go_simp; try with_reducible rfl)
    simp only [Act.put, List.setIfInBounds_toArray, List.set_cons_zero, List.set_cons_succ]
    refine handTake 4 (some 14) ?_ rfl rfl (by kernel_rfl) (by kernel_rfl) (by kernel_rfl) (fun _ _ _ h => h) (by rfl) ?_ HS ?_
    rotate_left
    · (intro u hu; (try dsimp only at hu); go_simp; try with_reducible rfl)
    simp only [Act.put, List.setIfInBounds_toArray, List.set_cons_zero, List.set_cons_succ]
    refine handTake 5 (some 15) ?_ rfl rfl (by kernel_rfl) (by kernel_rfl) (by kernel_rfl) (fun _ _ _ h => h) (by rfl) ?_ HS ?_
    rotate_left
    · (intro u hu; (try dsimp only at hu); go_simp; try with_reducible rfl)
    simp only [Act.put, List.setIfInBounds_toArray, List.set_cons_zero, List.set_cons_succ]
    refine handTake 6 (some 16) ?_ rfl rfl (by kernel_rfl) (by kernel_rfl) (by kernel_rfl) (fun _ _ _ h => h) (by rfl) ?_ HS ?_
    rotate_left
    · (intro u hu; (try dsimp only at hu); go_simp; try with_reducible rfl)
    simp only [Act.put, List.setIfInBounds_toArray, List.set_cons_zero, List.set_cons_succ]
    refine wpAnyH_ready (rs := [7]) (by kernel_rfl) (by simp) ?_
    refine AllReadyH.cons rfl (fun K hK => ?_) AllReadyH.nil
    go_simp
    clear HS
    refine (R.out _).mono ?_
    rintro e1 u1 ⟨rfl, hx⟩
    have HX1 := Lib.hid ((HX0.out.drew).below hx (HX0.out).lt)
    have HB1 := Lib.hid ((HB0.out.drew).trans (hx.mono HB0.out.size))
    clear hx
    go_wp2_with fail
    refine hK.out _ _ (⟨HX1.out.cell 0, HX1.out.cell 1, HX1.out.cell 2, HX1.out.cell 3, HX1.out.cell 4, HX1.out.cell 5⟩) (fun HS => ?_)
    clear hK
    try simp only [Act.put, List.setIfInBounds_toArray, List.set_cons_zero, List.set_cons_succ]
    refine handTake 8 (some 18) ?_ rfl rfl (by kernel_rfl) (by kernel_rfl) (by kernel_rfl) (fun _ _ _ h => h) (by rfl) ?_ HS ?_
    rotate_left
    · (intro u hu; (try dsimp only at hu); go_simp; try with_reducible rfl)
    simp only [Act.put, List.setIfInBounds_toArray, List.set_cons_zero, List.set_cons_succ]
    refine handTake 9 (some 19) ?_ rfl rfl (by kernel_rfl) (by kernel_rfl) (by kernel_rfl) (fun _ _ _ h => h) (by rfl) ?_ HS ?_
    rotate_left
    · (intro u hu; (try dsimp only at hu); go_simp; try with_reducible rfl)
    simp only [Act.put, List.setIfInBounds_toArray, List.set_cons_zero, List.set_cons_succ]
    refine wpAnyH_ready (rs := [10]) (by kernel_rfl) (by simp) ?_
    refine AllReadyH.cons rfl (fun K hK => ?_) AllReadyH.nil
    go_simp
    clear HS
    have HX2 := Lib.hid (((HX1.out).alloc (.cells #[.int .i64 nn] 3)))
    have HB2 := Lib.hid (((HB1.out).alloc (HB1.out.size) (.cells #[.int .i64 nn] 3)))
    have HC2 := ((Whole.new u1 3 [.int .i64 nn])).cell 0
    simp only [List.getElem?_cons_zero] at HC2
    refine hK.out _ _ (⟨HX2.out.cell 0, HX2.out.cell 1, HX2.out.cell 2, HX2.out.cell 3, HX2.out.cell 4, HX2.out.cell 5⟩) (fun HS => ?_)
    clear hK
    try simp only [Act.put, List.setIfInBounds_toArray, List.set_cons_zero, List.set_cons_succ]
    refine wpAnyH_ready (rs := [11]) (by kernel_rfl) (by simp) ?_
    refine AllReadyH.cons rfl (fun K hK => ?_) AllReadyH.nil
    go_simp
    clear HS
    refine (NB.out _ _ HC2).mono ?_
    rintro e3 u3 ⟨rfl, hx⟩
    have HX3 := Lib.hid ((HX2.out).below hx (HX2.out).lt)
    have HB3 := Lib.hid ((HB2.out).trans (hx.mono HB2.out.size))
    clear hx
    go_wp2_with fail
    refine hK.out _ _ (⟨HX3.out.cell 0, HX3.out.cell 1, HX3.out.cell 2, HX3.out.cell 3, HX3.out.cell 4, HX3.out.cell 5⟩) (fun HS => ?_)
    clear hK
    try simp only [Act.put, List.setIfInBounds_toArray, List.set_cons_zero, List.set_cons_succ]
    refine handTake 12 (some 22) ?_ rfl rfl (by kernel_rfl) (by kernel_rfl) (by kernel_rfl) (fun _ _ _ h => h) (by rfl) ?_ HS ?_
    rotate_left
    · (intro u hu; (try dsimp only at hu); go_simp; try with_reducible rfl)
    simp only [Act.put, List.setIfInBounds_toArray, List.set_cons_zero, List.set_cons_succ]
    refine handTake 13 (some 23) ?_ rfl rfl (by kernel_rfl) (by kernel_rfl) (by kernel_rfl) (fun _ _ _ h => h) (by rfl) ?_ HS ?_
    rotate_left
    · (intro u hu; (try dsimp only at hu); go_simp; try with_reducible rfl)
    simp only [Act.put, List.setIfInBounds_toArray, List.set_cons_zero, List.set_cons_succ]
    refine handSkip 14 (some 24) rfl rfl (by kernel_rfl) (by kernel_rfl) (by kernel_rfl) (fun _ _ _ h => h) (by rfl) HS ?_
    simp only [Act.put, List.setIfInBounds_toArray, List.set_cons_zero, List.set_cons_succ]
    refine handSkip 15 (some 25) rfl rfl (by kernel_rfl) (by kernel_rfl) (by kernel_rfl) (fun _ _ _ h => h) (by rfl) HS ?_
    simp only [Act.put, List.setIfInBounds_toArray, List.set_cons_zero, List.set_cons_succ]
    refine handSkip 16 (some 26) rfl rfl (by kernel_rfl) (by kernel_rfl) (by kernel_rfl) (fun _ _ _ h => h) (by rfl) HS ?_
    simp only [Act.put, List.setIfInBounds_toArray, List.set_cons_zero, List.set_cons_succ]
    refine handTake 17 (some 27) ?_ rfl rfl (by kernel_rfl) (by kernel_rfl) (by kernel_rfl) (fun _ _ _ h => h) (by rfl) ?_ HS ?_
    rotate_left
    · (intro u hu; (try dsimp only at hu); go_simp; try with_reducible rfl)
    simp only [Act.put, List.setIfInBounds_toArray, List.set_cons_zero, List.set_cons_succ]
    refine wpAnyH_ready (rs := [18]) (by kernel_rfl) (by simp) ?_
    refine AllReadyH.cons rfl (fun K hK => ?_) AllReadyH.nil
    go_simp
    clear HS
    refine (HH.out _ (HB3.out)).mono ?_
    rintro e9 u9 ⟨⟨y, n, rfl, hq⟩, hf⟩
    have HX9 := Lib.hid (hf.whole (HX3.out) (fun h => by have := HF.out _ h; omega))
    have HZ := Lib.hid ((Foot.of_below (HB3.out)).then hf (fun i hi => .inl hi))
    have HQ := Lib.hid hq
    clear hq hf
    go_wp2_with fail
    refine hK.out _ _ (⟨HX9.out.cell 0, HX9.out.cell 1, HX9.out.cell 2, HX9.out.cell 3, HX9.out.cell 4, HX9.out.cell 5⟩) (fun HS => ?_)
    clear hK
    try simp only [Act.put, List.setIfInBounds_toArray, List.set_cons_zero, List.set_cons_succ]
    refine handTake 19 (some 29) ?_ rfl rfl (by kernel_rfl) (by kernel_rfl) (by kernel_rfl) (fun _ _ _ h => h) (by rfl) ?_ HS ?_
    rotate_left
    · (intro u hu; (try dsimp only at hu); go_simp; try with_reducible rfl)
    simp only [Act.put, List.setIfInBounds_toArray, List.set_cons_zero, List.set_cons_succ]
    refine handTake 20 (some 30) ?_ rfl rfl (by kernel_rfl) (by kernel_rfl) (by kernel_rfl) (fun _ _ _ h => h) (by rfl) ?_ HS ?_
    rotate_left
    · (intro u hu; (try dsimp only at hu); go_simp; try with_reducible rfl)
    simp only [Act.put, List.setIfInBounds_toArray, List.set_cons_zero, List.set_cons_succ]
    refine handTake 21 (some 8) ?_ rfl rfl (by kernel_rfl) (by kernel_rfl) (by kernel_rfl) (fun _ _ _ h => h) (by rfl) ?_ HS ?_
    rotate_left
    · (intro u hu; (try dsimp only at hu); go_simp; try with_reducible rfl)
    simp only [Act.put, List.setIfInBounds_toArray, List.set_cons_zero, List.set_cons_succ]
    refine handTake 22 (some 9) ?_ rfl rfl (by kernel_rfl) (by kernel_rfl) (by kernel_rfl) (fun _ _ _ h => h) (by rfl) ?_ HS ?_
    rotate_left
    · (intro u hu; (try dsimp only at hu); go_simp; try with_reducible rfl)
    simp only [Act.put, List.setIfInBounds_toArray, List.set_cons_zero, List.set_cons_succ]
    refine wpAnyH_done (by kernel_rfl) ?_ _
    clear HS
    go_wp2_with fail
    go_ret2
    exact ⟨⟨_, _, rfl, HQ.out⟩, HZ.out⟩
  · rw [hn] at HH NB
    have R := Lib.hid R
    have NB := Lib.hid NB
    go_enter Try.func10, Try.ntmps10
    go_wp2_with fail
    refine wp_region_held_drew (S := (fun u : World => u.cell? ⟨w.heap.size, 0, none⟩ = some (.int .i64 m) ∧ u.cell? ⟨w.heap.size, 1, none⟩ = some (.int .i64 s) ∧ u.cell? ⟨w.heap.size, 2, none⟩ = some (.int .u8 (k : Nat)) ∧ u.cell? ⟨w.heap.size, 3, none⟩ = some (.string a) ∧ u.cell? ⟨w.heap.size, 4, none⟩ = some (.string b) ∧ u.cell? ⟨w.heap.size, 5, none⟩ = some (.string c))) (by kernel_rfl) (⟨(HX0.out.drew).cell 0, (HX0.out.drew).cell 1, (HX0.out.drew).cell 2, (HX0.out.drew).cell 3, (HX0.out.drew).cell 4, (HX0.out.drew).cell 5⟩) (fun HS => ?_)
    refine handTake 0 (some 10) ?_ rfl rfl (by kernel_rfl) (by kernel_rfl) (by kernel_rfl) (fun _ _ _ h => h) (by rfl) ?_ HS ?_
    rotate_left
    · (intro u hu; (try dsimp only at hu); go_simp; try with_reducible rfl)
    simp only [Act.put, List.setIfInBounds_toArray, List.set_cons_zero, List.set_cons_succ]
    refine handTake 1 (some 11) ?_ rfl rfl (by kernel_rfl) (by kernel_rfl) (by kernel_rfl) (fun _ _ _ h => h) (by rfl) ?_ HS ?_
    rotate_left
    · (intro u hu; (try dsimp only at hu); go_simp; try with_reducible rfl)
    simp only [Act.put, List.setIfInBounds_toArray, List.set_cons_zero, List.set_cons_succ]
    refine handTake 2 (some 12) ?_ rfl rfl (by kernel_rfl) (by kernel_rfl) (by kernel_rfl) (fun _ _ _ h => h) (by rfl) ?_ HS ?_
    rotate_left
    · (intro u hu; (try dsimp only at hu); go_simp; try with_reducible rfl)
    simp only [Act.put, List.setIfInBounds_toArray, List.set_cons_zero, List.set_cons_succ]
    refine handTake 3 (some 13) ?_ rfl rfl (by kernel_rfl) (by kernel_rfl) (by kernel_rfl) (fun _ _ _ h => h) (by rfl) ?_ HS ?_
    rotate_left
    · (intro u hu; (try dsimp only at hu); go_simp; try with_reducible rfl)
    simp only [Act.put, List.setIfInBounds_toArray, List.set_cons_zero, List.set_cons_succ]
    refine handTake 4 (some 14) ?_ rfl rfl (by kernel_rfl) (by kernel_rfl) (by kernel_rfl) (fun _ _ _ h => h) (by rfl) ?_ HS ?_
    rotate_left
    · (intro u hu; (try dsimp only at hu); go_simp; try with_reducible rfl)
    simp only [Act.put, List.setIfInBounds_toArray, List.set_cons_zero, List.set_cons_succ]
    refine handTake 5 (some 15) ?_ rfl rfl (by kernel_rfl) (by kernel_rfl) (by kernel_rfl) (fun _ _ _ h => h) (by rfl) ?_ HS ?_
    rotate_left
    · (intro u hu; (try dsimp only at hu); go_simp; try with_reducible rfl)
    simp only [Act.put, List.setIfInBounds_toArray, List.set_cons_zero, List.set_cons_succ]
    refine handTake 6 (some 16) ?_ rfl rfl (by kernel_rfl) (by kernel_rfl) (by kernel_rfl) (fun _ _ _ h => h) (by rfl) ?_ HS ?_
    rotate_left
    · (intro u hu; (try dsimp only at hu); go_simp; try with_reducible rfl)
    simp only [Act.put, List.setIfInBounds_toArray, List.set_cons_zero, List.set_cons_succ]
    refine wpAnyH_ready (rs := [7]) (by kernel_rfl) (by simp) ?_
    refine AllReadyH.cons rfl (fun K hK => ?_) AllReadyH.nil
    go_simp
    clear HS
    refine (R.out _).mono ?_
    rintro e1 u1 ⟨rfl, hx⟩
    have HX1 := Lib.hid ((HX0.out.drew).below hx (HX0.out).lt)
    have HB1 := Lib.hid ((HB0.out.drew).trans (hx.mono HB0.out.size))
    clear hx
    go_wp2_with fail
    refine hK.out _ _ (⟨HX1.out.cell 0, HX1.out.cell 1, HX1.out.cell 2, HX1.out.cell 3, HX1.out.cell 4, HX1.out.cell 5⟩) (fun HS => ?_)
    clear hK
    try simp only [Act.put, List.setIfInBounds_toArray, List.set_cons_zero, List.set_cons_succ]
    refine handTake 8 (some 18) ?_ rfl rfl (by kernel_rfl) (by kernel_rfl) (by kernel_rfl) (fun _ _ _ h => h) (by rfl) ?_ HS ?_
    rotate_left
    · (intro u hu; (try dsimp only at hu); go_simp; try with_reducible rfl)
    simp only [Act.put, List.setIfInBounds_toArray, List.set_cons_zero, List.set_cons_succ]
    refine handTake 9 (some 19) ?_ rfl rfl (by kernel_rfl) (by kernel_rfl) (by kernel_rfl) (fun _ _ _ h => h) (by rfl) ?_ HS ?_
    rotate_left
    · (intro u hu; (try dsimp only at hu); go_simp; try with_reducible rfl)
    simp only [Act.put, List.setIfInBounds_toArray, List.set_cons_zero, List.set_cons_succ]
    refine wpAnyH_ready (rs := [10]) (by kernel_rfl) (by simp) ?_
    refine AllReadyH.cons rfl (fun K hK => ?_) AllReadyH.nil
    go_simp
    clear HS
    have HX2 := Lib.hid (((HX1.out).alloc (.cells #[.int .i64 nn] 3)))
    have HB2 := Lib.hid (((HB1.out).alloc (HB1.out.size) (.cells #[.int .i64 nn] 3)))
    have HC2 := ((Whole.new u1 3 [.int .i64 nn])).cell 0
    simp only [List.getElem?_cons_zero] at HC2
    refine hK.out _ _ (⟨HX2.out.cell 0, HX2.out.cell 1, HX2.out.cell 2, HX2.out.cell 3, HX2.out.cell 4, HX2.out.cell 5⟩) (fun HS => ?_)
    clear hK
    try simp only [Act.put, List.setIfInBounds_toArray, List.set_cons_zero, List.set_cons_succ]
    refine wpAnyH_ready (rs := [11]) (by kernel_rfl) (by simp) ?_
    refine AllReadyH.cons rfl (fun K hK => ?_) AllReadyH.nil
    go_simp
    clear HS
    refine (NB.out _ _ HC2).mono ?_
    rintro e3 u3 ⟨rfl, hx⟩
    have HX3 := Lib.hid ((HX2.out).below hx (HX2.out).lt)
    have HB3 := Lib.hid ((HB2.out).trans (hx.mono HB2.out.size))
    clear hx
    go_wp2_with fail
    refine hK.out _ _ (⟨HX3.out.cell 0, HX3.out.cell 1, HX3.out.cell 2, HX3.out.cell 3, HX3.out.cell 4, HX3.out.cell 5⟩) (fun HS => ?_)
    clear hK
    try simp only [Act.put, List.setIfInBounds_toArray, List.set_cons_zero, List.set_cons_succ]
    refine handTake 12 (some 22) ?_ rfl rfl (by kernel_rfl) (by kernel_rfl) (by kernel_rfl) (fun _ _ _ h => h) (by rfl) ?_ HS ?_
    rotate_left
    · (intro u hu; (try dsimp only at hu); go_simp; try with_reducible rfl)
    simp only [Act.put, List.setIfInBounds_toArray, List.set_cons_zero, List.set_cons_succ]
    refine handTake 13 (some 23) ?_ rfl rfl (by kernel_rfl) (by kernel_rfl) (by kernel_rfl) (fun _ _ _ h => h) (by rfl) ?_ HS ?_
    rotate_left
    · (intro u hu; (try dsimp only at hu); go_simp; try with_reducible rfl)
    simp only [Act.put, List.setIfInBounds_toArray, List.set_cons_zero, List.set_cons_succ]
    refine handTake 14 (some 24) ?_ rfl rfl (by kernel_rfl) (by kernel_rfl) (by kernel_rfl) (fun _ _ _ h => h) (by rfl) ?_ HS ?_
    rotate_left
    · (intro u hu; (try dsimp only at hu); go_simp; try with_reducible rfl)
    simp only [Act.put, List.setIfInBounds_toArray, List.set_cons_zero, List.set_cons_succ]
    refine wpAnyH_ready (rs := [15]) (by kernel_rfl) (by simp) ?_
    refine AllReadyH.cons rfl (fun K hK => ?_) AllReadyH.nil
    go_simp
    clear HS
    have HX4 := Lib.hid (((HX3.out).alloc (.cells #[.int .i64 ix] 3)))
    have HB4 := Lib.hid (((HB3.out).alloc (HB3.out.size) (.cells #[.int .i64 ix] 3)))
    have HC4 := ((Whole.new u3 3 [.int .i64 ix])).cell 0
    simp only [List.getElem?_cons_zero] at HC4
    refine hK.out _ _ (⟨HX4.out.cell 0, HX4.out.cell 1, HX4.out.cell 2, HX4.out.cell 3, HX4.out.cell 4, HX4.out.cell 5⟩) (fun HS => ?_)
    clear hK
    try simp only [Act.put, List.setIfInBounds_toArray, List.set_cons_zero, List.set_cons_succ]
    refine wpAnyH_ready (rs := [16]) (by kernel_rfl) (by simp) ?_
    refine AllReadyH.cons rfl (fun K hK => ?_) AllReadyH.nil
    go_simp
    clear HS
    refine (number_any _ 0 ix _ HC4).mono ?_
    rintro e5 u5 ⟨rfl, hx⟩
    have HX5 := Lib.hid ((HX4.out).below hx (HX4.out).lt)
    have HB5 := Lib.hid ((HB4.out).trans (hx.mono HB4.out.size))
    clear hx
    go_wp2_with fail
    refine hK.out _ _ (⟨HX5.out.cell 0, HX5.out.cell 1, HX5.out.cell 2, HX5.out.cell 3, HX5.out.cell 4, HX5.out.cell 5⟩) (fun HS => ?_)
    clear hK
    try simp only [Act.put, List.setIfInBounds_toArray, List.set_cons_zero, List.set_cons_succ]
    refine handTake 17 (some 27) ?_ rfl rfl (by kernel_rfl) (by kernel_rfl) (by kernel_rfl) (fun _ _ _ h => h) (by rfl) ?_ HS ?_
    rotate_left
    · (intro u hu; (try dsimp only at hu); go_simp; try with_reducible rfl)
    simp only [Act.put, List.setIfInBounds_toArray, List.set_cons_zero, List.set_cons_succ]
    refine wpAnyH_ready (rs := [18]) (by kernel_rfl) (by simp) ?_
    refine AllReadyH.cons rfl (fun K hK => ?_) AllReadyH.nil
    go_simp
    clear HS
    refine (HH.out _ (HB5.out)).mono ?_
    rintro e9 u9 ⟨⟨y, n, rfl, hq⟩, hf⟩
    have HX9 := Lib.hid (hf.whole (HX5.out) (fun h => by have := HF.out _ h; omega))
    have HZ := Lib.hid ((Foot.of_below (HB5.out)).then hf (fun i hi => .inl hi))
    have HQ := Lib.hid hq
    clear hq hf
    go_wp2_with fail
    refine hK.out _ _ (⟨HX9.out.cell 0, HX9.out.cell 1, HX9.out.cell 2, HX9.out.cell 3, HX9.out.cell 4, HX9.out.cell 5⟩) (fun HS => ?_)
    clear hK
    try simp only [Act.put, List.setIfInBounds_toArray, List.set_cons_zero, List.set_cons_succ]
    refine handTake 19 (some 29) ?_ rfl rfl (by kernel_rfl) (by kernel_rfl) (by kernel_rfl) (fun _ _ _ h => h) (by rfl) ?_ HS ?_
    rotate_left
    · (intro u hu; (try dsimp only at hu); go_simp; try with_reducible rfl)
    simp only [Act.put, List.setIfInBounds_toArray, List.set_cons_zero, List.set_cons_succ]
    refine handTake 20 (some 30) ?_ rfl rfl (by kernel_rfl) (by kernel_rfl) (by kernel_rfl) (fun _ _ _ h => h) (by rfl) ?_ HS ?_
    rotate_left
    · (intro u hu; (try dsimp only at hu); go_simp; try with_reducible rfl)
    simp only [Act.put, List.setIfInBounds_toArray, List.set_cons_zero, List.set_cons_succ]
    refine handTake 21 (some 8) ?_ rfl rfl (by kernel_rfl) (by kernel_rfl) (by kernel_rfl) (fun _ _ _ h => h) (by rfl) ?_ HS ?_
    rotate_left
    · (intro u hu; (try dsimp only at hu); go_simp; try with_reducible rfl)
    simp only [Act.put, List.setIfInBounds_toArray, List.set_cons_zero, List.set_cons_succ]
    refine handTake 22 (some 9) ?_ rfl rfl (by kernel_rfl) (by kernel_rfl) (by kernel_rfl) (fun _ _ _ h => h) (by rfl) ?_ HS ?_
    rotate_left
    · (intro u hu; (try dsimp only at hu); go_simp; try with_reducible rfl)
    simp only [Act.put, List.setIfInBounds_toArray, List.set_cons_zero, List.set_cons_succ]
    refine wpAnyH_done (by kernel_rfl) ?_ _
    clear HS
    go_wp2_with fail
    go_ret2
    exact ⟨⟨_, _, rfl, HQ.out⟩, HZ.out⟩


end Qu
end Go.Proofs.Ytinnpeonokdljaa
