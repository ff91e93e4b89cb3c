/- The law TallyNil, walked. -/
import Derived.Test.YtmpcjiacgbcpdaaTallyDrop
set_option linter.unusedSimpArgs false
set_option linter.unusedVariables false
namespace Go.Proofs.Ytmpcjiacgbcpdaa
open Go.RowKit
open Qm

namespace Ta

set_option maxHeartbeats 4000000 in
theorem tallyNil_is (i r : Int) (w : World) :
    Calls Try.prog 3 #[.int .i64 i, .int .i64 r] w fun e w' => e = .returned (.bool true) ∧ Below w.heap.size w w' := by
  go_enter Try.func3, Try.ntmps3
  go_wp2_with fail
  have h0 := wh0_2 w 25 [.int .i64 0, .map none] (.cells #[.pointer none, .pointer (some ⟨w.heap.size, 0, none⟩)] 22)
  have h1 := wh1_2 w (.cells #[.int .i64 0, .map none] 25) 22 [.pointer none, .pointer (some ⟨w.heap.size, 0, none⟩)]
  have HT := Lib.hid h0
  have HL := Lib.hid h1
  clear h0 h1
  go_loopw [7] (fun iv wr => ∃ k : Nat, k ≤ 2 ∧ iv = .int .i64 k ∧ Below (w.heap.size + 2) ((w.alloc (.cells #[.int .i64 0, .map none] 25)).alloc (.cells #[.pointer none, .pointer (some ⟨w.heap.size, 0, none⟩)] 22)) wr) (fun iv _ => 2 - (intOf iv).toNat)
  case atStart => exact ⟨0, by omega, rfl, Below.refl _ _⟩
  case round =>
    obtain ⟨k, hk, rfl, HB⟩ := hrel
    have H_T := HT.out.below HB (by omega)
    have H_L := HL.out.below HB (by omega)
    have KT := Lib.hid H_T
    have HW := Lib.hid (be2 w (.cells #[.int .i64 0, .map none] 25) (.cells #[.pointer none, .pointer (some ⟨w.heap.size, 0, none⟩)] 22))
    have cL0 := H_L.cell 0
    have cL1 := H_L.cell 1
    have HLE := Lib.hid (show w.heap.size + 2 ≤ wr.heap.size by have := HB.size; simpa using this)
    have HB := Lib.hid HB
    clear H_L H_T
    obtain rfl | rfl | rfl : k = 0 ∨ k = 1 ∨ k = 2 := by omega
    · go_wp2_with fail
      refine (note_nil i r _).mono ?_
      rintro e u ⟨rfl, rfl⟩
      go_wp2_with fail
      refine (count_nil i _).mono ?_
      rintro e u ⟨rfl, rfl⟩
      go_wp2_with fail
      refine (upto_nil i _).mono ?_
      rintro e u ⟨rfl, rfl⟩
      go_wp2_with fail
      refine (drop_nil i _).mono ?_
      rintro e u ⟨rfl, hb⟩
      have HD := Lib.hid hb
      clear hb
      go_wp2_with fail
      go_roundw
      case rel => exact ⟨1, by omega, rfl, HB.out.trans (HD.out.mono HLE.out)⟩
      case measure => simp [intOf]
    · go_wp2_with fail
      refine (note_zero w.heap.size _ i r _ KT.out).mono ?_
      rintro e u ⟨rfl, rfl⟩
      go_wp2_with fail
      refine (count_zero w.heap.size _ i _ KT.out).mono ?_
      rintro e u ⟨rfl, rfl⟩
      go_wp2_with fail
      refine (upto_zero w.heap.size _ i _ KT.out).mono ?_
      rintro e u ⟨rfl, rfl⟩
      go_wp2_with fail
      refine (drop_zero w.heap.size _ i _ KT.out).mono ?_
      rintro e u ⟨rfl, hb⟩
      have HD := Lib.hid hb
      clear hb
      go_wp2_with fail
      go_roundw
      case rel => exact ⟨2, by omega, rfl, HB.out.trans (HD.out.mono HLE.out)⟩
      case measure => simp [intOf]
    · go_wp2_with fail
      go_ret
      exact ⟨rfl, HW.out.trans (HB.out.mono (by omega))⟩

end Ta
end Go.Proofs.Ytmpcjiacgbcpdaa
