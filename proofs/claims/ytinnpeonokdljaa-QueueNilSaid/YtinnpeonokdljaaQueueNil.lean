/- The law QueueNil, walked. -/
import Derived.Test.YtinnpeonokdljaaQueueGreat
set_option linter.unusedSimpArgs false
set_option linter.unusedVariables false
namespace Go.Proofs.Ytinnpeonokdljaa
open Go.RowKit

namespace Qu
theorem write_non (p : Option Addr) (m s : Int) (k : Nat) (a b c : ByteArray) (w : World) (hp : Non p w) :
    Calls Try.prog 9 #[.pointer p, .agg #[.int .i64 m, .int .i64 s, .int .u8 (k : Nat), .string a, .string b, .string c]] w fun e w' => e = .returned (.tuple #[.bool false, .int .i64 1]) ∧ Below w.heap.size w w' := by
  refine (write_by p m s k a b c w (fun _ => False) (fun _ h => h.elim) (fun y n _ => y = false ∧ n = 1) fun u hu => ?_).mono ?_
  · refine (put_non p m s k a b c 0 0 _ u (hp.below hu)).mono ?_
    rintro e u' ⟨rfl, hx⟩
    exact ⟨⟨false, 1, rfl, rfl, rfl⟩, Foot.of_below hx⟩
  · rintro e u ⟨⟨y, n, rfl, rfl, rfl⟩, hf⟩
    exact ⟨rfl, hf.below (fun _ h => h.elim) (Nat.le_refl _)⟩
theorem read_non (p : Option Addr) (m s : Int) (k : Nat) (a b c : ByteArray) (nn ix : Int) (w : World) (hp : Non p w) :
    Calls Try.prog 10 #[.pointer p, .agg #[.int .i64 m, .int .i64 s, .int .u8 (k : Nat), .string a, .string b, .string c], .int .i64 nn, .int .i64 ix] w fun e w' => e = .returned (.tuple #[.bool false, .int .i64 1]) ∧ Below w.heap.size w w' := by
  refine (read_by p m s k a b c nn ix w (fun _ => False) (fun _ h => h.elim) (fun y n _ => y = false ∧ n = 1) fun u hu => ?_).mono ?_
  · refine (put_non p m s k a b c nn ix _ u (hp.below hu)).mono ?_
    rintro e u' ⟨rfl, hx⟩
    exact ⟨⟨false, 1, rfl, rfl, rfl⟩, Foot.of_below hx⟩
  · rintro e u ⟨⟨y, n, rfl, rfl, rfl⟩, hf⟩
    exact ⟨rfl, hf.below (fun _ h => h.elim) (Nat.le_refl _)⟩

set_option maxRecDepth 100000 in
set_option maxHeartbeats 8000000 in
theorem queueNil_is (r : Rq) (nn ix : Int) (w : World) :
    Calls Try.prog 3 #[.agg (rqC r).toArray, .int .i64 nn, .int .i64 ix] w fun e w' => e = .returned (.bool true) ∧ Below w.heap.size w w' := by
  obtain ⟨m, s, ⟨k, a, b, c⟩⟩ := r
  simp only [rqC]
  have H1 := wh1_2 w (.cells #[.int .i64 m, .int .i64 s, .int .u8 (k : Nat), .string a, .string b, .string c] 25) 28 [.int .u8 0, .int .i64 m, .int .i64 s, .int .u8 (k : Nat), .string a, .string b, .string c, .int .i64 0, .int .i64 0]
  have GR := great_any [⟨0, ⟨m, s, ⟨k, a, b, c⟩⟩, 0, 0⟩] _ (w.heap.size + 1 + 1) _ (Row.blk (B := w.heap.size + 1 + 1) (n := 1) H1 (xs := [.int .u8 0, .int .i64 m, .int .i64 s, .int .u8 (k : Nat), .string a, .string b, .string c, .int .i64 0, .int .i64 0]) rfl (by omega) (by unfold maxLen; omega)) (by simp)
  have H0 := Lib.hid (wh0_2 w 25 [.int .i64 m, .int .i64 s, .int .u8 (k : Nat), .string a, .string b, .string c] (.cells #[.int .u8 0, .int .i64 m, .int .i64 s, .int .u8 (k : Nat), .string a, .string b, .string c, .int .i64 0, .int .i64 0] 28))
  have HB0 := Lib.hid (be2 w (.cells #[.int .i64 m, .int .i64 s, .int .u8 (k : Nat), .string a, .string b, .string c] 25) (.cells #[.int .u8 0, .int .i64 m, .int .i64 s, .int .u8 (k : Nat), .string a, .string b, .string c, .int .i64 0, .int .i64 0] 28))
  generalize greatB [⟨0, ⟨m, s, ⟨k, a, b, c⟩⟩, 0, 0⟩] = gr at *
  have GR := Lib.hid GR
  clear H1
  go_enter Try.func3, Try.ntmps3
  go_wp2_with fail
  refine GR.out.mono ?_
  rintro e u ⟨rfl, hx⟩
  have HR := Lib.hid (H0.out.below hx H0.out.lt)
  have HB := Lib.hid (HB0.out.trans (hx.mono (by simp; omega)))
  clear hx GR H0 HB0
  cases gr
  case true =>
    go_wp2_with fail
    go_ret
    exact ⟨rfl, HB.out⟩
  go_wp2_with fail
  have hT := wh0_2 u 33 [.int .i64 0, .int .i64 0, .slice none 0 0] (.cells #[.pointer none, .pointer (some ⟨u.heap.size, 0, none⟩)] 30)
  have hL := wh1_2 u (.cells #[.int .i64 0, .int .i64 0, .slice none 0 0] 33) 30 [.pointer none, .pointer (some ⟨u.heap.size, 0, none⟩)]
  have HT := Lib.hid hT
  have HL := Lib.hid hL
  have HRR := Lib.hid ((HR.out.alloc (.cells #[.int .i64 0, .int .i64 0, .slice none 0 0] 33)).alloc (.cells #[.pointer none, .pointer (some ⟨u.heap.size, 0, none⟩)] 30))
  have HW := Lib.hid (HB.out.trans ((be2 u (.cells #[.int .i64 0, .int .i64 0, .slice none 0 0] 33) (.cells #[.pointer none, .pointer (some ⟨u.heap.size, 0, none⟩)] 30)).mono HB.out.size))
  have hlw := HR.out.lt
  have hwu := HB.out.size
  clear hT hL HR HB
  go_loopw [9] (fun iv wr => ∃ j : Nat, j ≤ 2 ∧ iv = .int .i64 j ∧ Below (u.heap.size + 2) ((u.alloc (.cells #[.int .i64 0, .int .i64 0, .slice none 0 0] 33)).alloc (.cells #[.pointer none, .pointer (some ⟨u.heap.size, 0, none⟩)] 30)) wr) (fun iv _ => 2 - (intOf iv).toNat)
  case atStart => exact ⟨0, by omega, rfl, Below.refl _ _⟩
  case round =>
    obtain ⟨j, hj, rfl, hx⟩ := hrel
    have H_T := Lib.hid (HT.out.below hx (by omega))
    have H_R := Lib.hid (HRR.out.below hx (by omega))
    have H_L := HL.out.below hx (by omega)
    have cL0 := H_L.cell 0
    have cL1 := H_L.cell 1
    simp only [List.getElem?_cons_zero, List.getElem?_cons_succ] at cL0 cL1
    have HLE := Lib.hid (show u.heap.size + 2 ≤ wr.heap.size by have := hx.size; simpa using this)
    have HX := Lib.hid hx
    clear H_L hx
    obtain rfl | rfl | rfl : j = 0 ∨ j = 1 ∨ j = 2 := by omega
    · have HP0 : Hid (Non none wr) := (.inl rfl)
      have HR0 := H_R; have HX0 := HX; have HLE0 := HLE
      have r0 := (H_R.out).cell 0; have r1 := (H_R.out).cell 1; have r2 := (H_R.out).cell 2; have r3 := (H_R.out).cell 3; have r4 := (H_R.out).cell 4; have r5 := (H_R.out).cell 5
      simp only [List.getElem?_cons_zero, List.getElem?_cons_succ] at r0 r1 r2 r3 r4 r5
      clear HX HLE
      go_wp2_with fail
      refine (write_non _ m s k a b c _ HP0.out).mono ?_
      rintro e1 u1 ⟨rfl, hx⟩
      have HP1 := Lib.hid (HP0.out.below hx)
      have HR1 := Lib.hid (HR0.out.below hx HR0.out.lt)
      have HX1 := Lib.hid (HX0.out.trans (hx.mono HLE0.out))
      have HLE1 := Lib.hid (Nat.le_trans HLE0.out hx.size)
      clear hx
      have r0 := (HR1.out).cell 0; have r1 := (HR1.out).cell 1; have r2 := (HR1.out).cell 2; have r3 := (HR1.out).cell 3; have r4 := (HR1.out).cell 4; have r5 := (HR1.out).cell 5
      simp only [List.getElem?_cons_zero, List.getElem?_cons_succ] at r0 r1 r2 r3 r4 r5
      go_wp2_with fail
      refine (read_non _ m s k a b c nn ix _ HP1.out).mono ?_
      rintro e2 u2 ⟨rfl, hx⟩
      have HP2 := Lib.hid (HP1.out.below hx)
      have HR2 := Lib.hid (HR1.out.below hx HR1.out.lt)
      have HX2 := Lib.hid (HX1.out.trans (hx.mono HLE1.out))
      have HLE2 := Lib.hid (Nat.le_trans HLE1.out hx.size)
      clear hx
      have r0 := (HR2.out).cell 0; have r1 := (HR2.out).cell 1; have r2 := (HR2.out).cell 2; have r3 := (HR2.out).cell 3; have r4 := (HR2.out).cell 4; have r5 := (HR2.out).cell 5
      simp only [List.getElem?_cons_zero, List.getElem?_cons_succ] at r0 r1 r2 r3 r4 r5
      go_wp2_with fail
      refine (answer_non _ nn ix _ HP2.out).mono ?_
      rintro e0 u0 ⟨rfl, rfl⟩
      go_wp2_with fail
      refine (done_non _ m s _ HP2.out).mono ?_
      rintro e3 u3 ⟨rfl, hx⟩
      have HP3 := Lib.hid (HP2.out.below hx)
      have HR3 := Lib.hid (HR2.out.below hx HR2.out.lt)
      have HX3 := Lib.hid (HX2.out.trans (hx.mono HLE2.out))
      have HLE3 := Lib.hid (Nat.le_trans HLE2.out hx.size)
      clear hx
      have r0 := (HR3.out).cell 0; have r1 := (HR3.out).cell 1; have r2 := (HR3.out).cell 2; have r3 := (HR3.out).cell 3; have r4 := (HR3.out).cell 4; have r5 := (HR3.out).cell 5
      simp only [List.getElem?_cons_zero, List.getElem?_cons_succ] at r0 r1 r2 r3 r4 r5
      go_wp2_with fail
      refine (ready_non _ ix _ HP3.out).mono ?_
      rintro e4 u4 ⟨rfl, hx⟩
      have HP4 := Lib.hid (HP3.out.below hx)
      have HR4 := Lib.hid (HR3.out.below hx HR3.out.lt)
      have HX4 := Lib.hid (HX3.out.trans (hx.mono HLE3.out))
      have HLE4 := Lib.hid (Nat.le_trans HLE3.out hx.size)
      clear hx
      have r0 := (HR4.out).cell 0; have r1 := (HR4.out).cell 1; have r2 := (HR4.out).cell 2; have r3 := (HR4.out).cell 3; have r4 := (HR4.out).cell 4; have r5 := (HR4.out).cell 5
      simp only [List.getElem?_cons_zero, List.getElem?_cons_succ] at r0 r1 r2 r3 r4 r5
      go_wp2_with fail
      refine (clear_non _ _ HP4.out).mono ?_
      rintro e5 u5 ⟨rfl, hx⟩
      have HP5 := Lib.hid (HP4.out.below hx)
      have HR5 := Lib.hid (HR4.out.below hx HR4.out.lt)
      have HX5 := Lib.hid (HX4.out.trans (hx.mono HLE4.out))
      have HLE5 := Lib.hid (Nat.le_trans HLE4.out hx.size)
      clear hx
      have r0 := (HR5.out).cell 0; have r1 := (HR5.out).cell 1; have r2 := (HR5.out).cell 2; have r3 := (HR5.out).cell 3; have r4 := (HR5.out).cell 4; have r5 := (HR5.out).cell 5
      simp only [List.getElem?_cons_zero, List.getElem?_cons_succ] at r0 r1 r2 r3 r4 r5
      go_wp2_with fail
      refine (waits_non _ _ HP5.out).mono ?_
      rintro e0 u0 ⟨rfl, rfl⟩
      go_wp2_with fail
      go_roundw
      case rel => exact ⟨1, by omega, rfl, HX5.out⟩
      case measure => simp [intOf]
    · have HP0 : Hid (Non (some ⟨u.heap.size, 0, none⟩) wr) := (.inr ⟨u.heap.size, 0, .slice none 0 0, rfl, H_T.out⟩)
      have HR0 := H_R; have HX0 := HX; have HLE0 := HLE
      have r0 := (H_R.out).cell 0; have r1 := (H_R.out).cell 1; have r2 := (H_R.out).cell 2; have r3 := (H_R.out).cell 3; have r4 := (H_R.out).cell 4; have r5 := (H_R.out).cell 5
      simp only [List.getElem?_cons_zero, List.getElem?_cons_succ] at r0 r1 r2 r3 r4 r5
      clear HX HLE
      go_wp2_with fail
      refine (write_non _ m s k a b c _ HP0.out).mono ?_
      rintro e1 u1 ⟨rfl, hx⟩
      have HP1 := Lib.hid (HP0.out.below hx)
      have HR1 := Lib.hid (HR0.out.below hx HR0.out.lt)
      have HX1 := Lib.hid (HX0.out.trans (hx.mono HLE0.out))
      have HLE1 := Lib.hid (Nat.le_trans HLE0.out hx.size)
      clear hx
      have r0 := (HR1.out).cell 0; have r1 := (HR1.out).cell 1; have r2 := (HR1.out).cell 2; have r3 := (HR1.out).cell 3; have r4 := (HR1.out).cell 4; have r5 := (HR1.out).cell 5
      simp only [List.getElem?_cons_zero, List.getElem?_cons_succ] at r0 r1 r2 r3 r4 r5
      go_wp2_with fail
      refine (read_non _ m s k a b c nn ix _ HP1.out).mono ?_
      rintro e2 u2 ⟨rfl, hx⟩
      have HP2 := Lib.hid (HP1.out.below hx)
      have HR2 := Lib.hid (HR1.out.below hx HR1.out.lt)
      have HX2 := Lib.hid (HX1.out.trans (hx.mono HLE1.out))
      have HLE2 := Lib.hid (Nat.le_trans HLE1.out hx.size)
      clear hx
      have r0 := (HR2.out).cell 0; have r1 := (HR2.out).cell 1; have r2 := (HR2.out).cell 2; have r3 := (HR2.out).cell 3; have r4 := (HR2.out).cell 4; have r5 := (HR2.out).cell 5
      simp only [List.getElem?_cons_zero, List.getElem?_cons_succ] at r0 r1 r2 r3 r4 r5
      go_wp2_with fail
      refine (answer_non _ nn ix _ HP2.out).mono ?_
      rintro e0 u0 ⟨rfl, rfl⟩
      go_wp2_with fail
      refine (done_non _ m s _ HP2.out).mono ?_
      rintro e3 u3 ⟨rfl, hx⟩
      have HP3 := Lib.hid (HP2.out.below hx)
      have HR3 := Lib.hid (HR2.out.below hx HR2.out.lt)
      have HX3 := Lib.hid (HX2.out.trans (hx.mono HLE2.out))
      have HLE3 := Lib.hid (Nat.le_trans HLE2.out hx.size)
      clear hx
      have r0 := (HR3.out).cell 0; have r1 := (HR3.out).cell 1; have r2 := (HR3.out).cell 2; have r3 := (HR3.out).cell 3; have r4 := (HR3.out).cell 4; have r5 := (HR3.out).cell 5
      simp only [List.getElem?_cons_zero, List.getElem?_cons_succ] at r0 r1 r2 r3 r4 r5
      go_wp2_with fail
      refine (ready_non _ ix _ HP3.out).mono ?_
      rintro e4 u4 ⟨rfl, hx⟩
      have HP4 := Lib.hid (HP3.out.below hx)
      have HR4 := Lib.hid (HR3.out.below hx HR3.out.lt)
      have HX4 := Lib.hid (HX3.out.trans (hx.mono HLE3.out))
      have HLE4 := Lib.hid (Nat.le_trans HLE3.out hx.size)
      clear hx
      have r0 := (HR4.out).cell 0; have r1 := (HR4.out).cell 1; have r2 := (HR4.out).cell 2; have r3 := (HR4.out).cell 3; have r4 := (HR4.out).cell 4; have r5 := (HR4.out).cell 5
      simp only [List.getElem?_cons_zero, List.getElem?_cons_succ] at r0 r1 r2 r3 r4 r5
      go_wp2_with fail
      refine (clear_non _ _ HP4.out).mono ?_
      rintro e5 u5 ⟨rfl, hx⟩
      have HP5 := Lib.hid (HP4.out.below hx)
      have HR5 := Lib.hid (HR4.out.below hx HR4.out.lt)
      have HX5 := Lib.hid (HX4.out.trans (hx.mono HLE4.out))
      have HLE5 := Lib.hid (Nat.le_trans HLE4.out hx.size)
      clear hx
      have r0 := (HR5.out).cell 0; have r1 := (HR5.out).cell 1; have r2 := (HR5.out).cell 2; have r3 := (HR5.out).cell 3; have r4 := (HR5.out).cell 4; have r5 := (HR5.out).cell 5
      simp only [List.getElem?_cons_zero, List.getElem?_cons_succ] at r0 r1 r2 r3 r4 r5
      go_wp2_with fail
      refine (waits_non _ _ HP5.out).mono ?_
      rintro e0 u0 ⟨rfl, rfl⟩
      go_wp2_with fail
      go_roundw
      case rel => exact ⟨2, by omega, rfl, HX5.out⟩
      case measure => simp [intOf]
    · go_wp2_with fail
      go_ret
      exact ⟨rfl, HW.out.trans (HX.out.mono (by omega))⟩

end Qu
end Go.Proofs.Ytinnpeonokdljaa
