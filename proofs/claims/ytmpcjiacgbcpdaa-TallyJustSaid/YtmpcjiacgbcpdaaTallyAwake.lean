/- The chapter's examples of tallies: awake. -/
import Derived.Test.YtmpcjiacgbcpdaaTallyNoted2
set_option linter.unusedSimpArgs false
set_option linter.unusedVariables false
namespace Go.Proofs.Ytmpcjiacgbcpdaa
open Go.RowKit
open Qm

namespace Ta

theorem count_is (m : Nat) (g b : Nat) (n : Int) (hn : n ≠ 0) (R : Rows) (hR : Ok R) (i : Int) (hi : inI i) (hm : (membersN (setOf R i) n).length = m) (w : World) (ht : TallyAt w g b n R) :
    Calls Try.prog 10 #[.pointer (some ⟨g, 0, none⟩), .int .i64 i] w fun e w' => e = .returned (.int .i64 (m : Nat)) ∧ Below w.heap.size w w' := by
  have := count_any g b n hn R hR i hi w ht
  rw [hm] at this
  exact this
theorem upto_is (u : Int) (g b : Nat) (n : Int) (hn : n ≠ 0) (R : Rows) (hR : Ok R) (f : Int) (h1 : 0 ≤ f) (h2 : f ≤ 1099511627776) (hu : UptoIs R n f u) (w : World) (ht : TallyAt w g b n R) :
    Calls Try.prog 11 #[.pointer (some ⟨g, 0, none⟩), .int .i64 f] w fun e w' => e = .returned (.int .i64 u) ∧ Below w.heap.size w w' := by
  refine (upto_any g b n hn R hR f h1 h2 w ht).mono ?_
  rintro e w' ⟨⟨u', rfl, hu'⟩, hb'⟩
  rw [hu'.one hu]
  exact ⟨rfl, hb'⟩
def lit6 : Pairs := [(1, 0), (1, 2), (2, 1), (3, 0), (3, 1), (3, 2)]
abbrev rowsA : Rows := [(1, 5), (2, 2), (3, 7)]
abbrev rowsB : Rows := [(1, 5), (2, 3), (3, 7)]
abbrev rowsC : Rows := [(3, 7)]
theorem lit6_rows : noteL [] lit6 = rowsA := by decide
theorem okA : Ok rowsA := ⟨by decide, by decide⟩
theorem okB : Ok rowsB := ⟨by decide, by decide⟩
theorem okC : Ok rowsC := ⟨by decide, by decide⟩
theorem up00 : UptoIs rowsA 3 0 1 := ⟨by decide, fun j a b => by obtain rfl : j = 1 := by omega
                                                                 decide, by decide⟩
theorem up01 : UptoIs rowsA 3 1 1 := ⟨by decide, fun j a b => by omega, by decide⟩
theorem up02 : UptoIs rowsA 3 2 3 := ⟨by decide, fun j a b => by obtain rfl : j = 3 := by omega
                                                                 decide, by decide⟩
theorem up09 : UptoIs rowsA 3 9 9 := ⟨by decide, fun j a b => by omega, by decide⟩
theorem upB0 : UptoIs rowsB 3 0 3 := ⟨by decide, fun j a b => by obtain rfl | rfl | rfl : j = 1 ∨ j = 2 ∨ j = 3 := by omega
                                                                 all_goals decide, by decide⟩
theorem upC0 : UptoIs rowsC 3 0 0 := ⟨by decide, fun j a b => by omega, by decide⟩
theorem upC2 : UptoIs rowsC 3 2 3 := ⟨by decide, fun j a b => by obtain rfl : j = 3 := by omega
                                                                 decide, by decide⟩

set_option maxHeartbeats 8000000 in
set_option maxRecDepth 100000 in
theorem awake_is (w : World) : Calls Try.prog 19 #[] w fun e w' => e = .returned (.bool true) ∧ Below w.heap.size w w' := by
  have hn3 : (3 : Int) ≠ 0 := by decide
  have HN3 := Lib.hid hn3
  clear hn3
  go_enter Try.func19, Try.ntmps19
  go_wp2_with fail
  refine (noted_ok 3 (Or.inl rfl) lit6 (by decide) _ _ (Row.blk (Whole.new w 48 [.int .i64 1, .int .i64 0, .int .i64 1, .int .i64 2, .int .i64 2, .int .i64 1, .int .i64 3, .int .i64 0, .int .i64 3, .int .i64 1, .int .i64 3, .int .i64 2]) rfl (by simp) (by unfold maxLen; decide))).mono ?_
  rintro e u ⟨rfl, hta, hbl⟩
  rw [lit6_rows] at hta
  have HB := Lib.hid ((((Below.refl w.heap.size w).alloc (Nat.le_refl _) _)).trans (hbl.mono (by simp)))
  have HT := Lib.hid hta
  have hbb : w.heap.size ≤ (w.alloc (.cells #[.int .i64 1, .int .i64 0, .int .i64 1, .int .i64 2, .int .i64 2, .int .i64 1, .int .i64 3, .int .i64 0, .int .i64 3, .int .i64 1, .int .i64 3, .int .i64 2] 48)).heap.size := by simp
  generalize (w.alloc (.cells #[.int .i64 1, .int .i64 0, .int .i64 1, .int .i64 2, .int .i64 2, .int .i64 1, .int .i64 3, .int .i64 0, .int .i64 3, .int .i64 1, .int .i64 3, .int .i64 2] 48)).heap.size = b at *
  clear hbl hta
  go_wp2_with fail
  refine (new_bad 4 (by decide) _).mono ?_
  rintro e u1 ⟨rfl, rfl⟩
  go_wp2_with fail
  refine (count_is 2 (b + 1) b 3 HN3.out rowsA okA 1 ⟨by decide, by decide⟩ (by decide) _ HT.out).mono ?_
  rintro e u2 ⟨rfl, hx⟩
  have HT2 := Lib.hid (HT.out.keep hx)
  have HB2 := Lib.hid (HB.out.trans (hx.mono HB.out.size))
  clear HT HB hx
  have HT := HT2
  have HB := HB2
  clear HT2 HB2
  go_wp2_with fail
  refine (count_is 1 (b + 1) b 3 HN3.out rowsA okA 2 ⟨by decide, by decide⟩ (by decide) _ HT.out).mono ?_
  rintro e u3 ⟨rfl, hx⟩
  have HT3 := Lib.hid (HT.out.keep hx)
  have HB3 := Lib.hid (HB.out.trans (hx.mono HB.out.size))
  clear HT HB hx
  have HT := HT3
  have HB := HB3
  clear HT3 HB3
  go_wp2_with fail
  refine (count_is 3 (b + 1) b 3 HN3.out rowsA okA 3 ⟨by decide, by decide⟩ (by decide) _ HT.out).mono ?_
  rintro e u4 ⟨rfl, hx⟩
  have HT4 := Lib.hid (HT.out.keep hx)
  have HB4 := Lib.hid (HB.out.trans (hx.mono HB.out.size))
  clear HT HB hx
  have HT := HT4
  have HB := HB4
  clear HT4 HB4
  go_wp2_with fail
  refine (count_is 0 (b + 1) b 3 HN3.out rowsA okA 4 ⟨by decide, by decide⟩ (by decide) _ HT.out).mono ?_
  rintro e u5 ⟨rfl, hx⟩
  have HT5 := Lib.hid (HT.out.keep hx)
  have HB5 := Lib.hid (HB.out.trans (hx.mono HB.out.size))
  clear HT HB hx
  have HT := HT5
  have HB := HB5
  clear HT5 HB5
  go_wp2_with fail
  refine (upto_is 1 (b + 1) b 3 HN3.out rowsA okA 0 (by decide) (by decide) up00 _ HT.out).mono ?_
  rintro e u6 ⟨rfl, hx⟩
  have HT6 := Lib.hid (HT.out.keep hx)
  have HB6 := Lib.hid (HB.out.trans (hx.mono HB.out.size))
  clear HT HB hx
  have HT := HT6
  have HB := HB6
  clear HT6 HB6
  go_wp2_with fail
  refine (upto_is 1 (b + 1) b 3 HN3.out rowsA okA 1 (by decide) (by decide) up01 _ HT.out).mono ?_
  rintro e u7 ⟨rfl, hx⟩
  have HT7 := Lib.hid (HT.out.keep hx)
  have HB7 := Lib.hid (HB.out.trans (hx.mono HB.out.size))
  clear HT HB hx
  have HT := HT7
  have HB := HB7
  clear HT7 HB7
  go_wp2_with fail
  refine (upto_is 3 (b + 1) b 3 HN3.out rowsA okA 2 (by decide) (by decide) up02 _ HT.out).mono ?_
  rintro e u8 ⟨rfl, hx⟩
  have HT8 := Lib.hid (HT.out.keep hx)
  have HB8 := Lib.hid (HB.out.trans (hx.mono HB.out.size))
  clear HT HB hx
  have HT := HT8
  have HB := HB8
  clear HT8 HB8
  go_wp2_with fail
  refine (upto_is 9 (b + 1) b 3 HN3.out rowsA okA 9 (by decide) (by decide) up09 _ HT.out).mono ?_
  rintro e u9 ⟨rfl, hx⟩
  have HT9 := Lib.hid (HT.out.keep hx)
  have HB9 := Lib.hid (HB.out.trans (hx.mono HB.out.size))
  clear HT HB hx
  have HT := HT9
  have HB := HB9
  clear HT9 HB9
  go_wp2_with fail
  refine (upto_lo (b + 1) b 3 HN3.out rowsA (-1) (by decide) _ HT.out).mono ?_
  rintro e u10 ⟨rfl, rfl⟩
  go_wp2_with fail
  refine ((show Calls _ _ _ _ (fun e w' => e = .returned (.int .i64 0) ∧ TallyAt w' (b + 1) b 3 rowsB ∧ Only b _ w') from note_in (b + 1) b 3 HN3.out rowsA okA 2 0 (by decide) (by decide) (by decide) (by decide) (by decide) _ HT.out)).mono ?_
  rintro e u11 ⟨rfl, hty, hx⟩
  have HT11 := Lib.hid hty
  have HB11 := Lib.hid (Only.below HB.out hx HB.out.size hbb)
  clear HT HB hx hty
  have HT := HT11
  have HB := HB11
  clear HT11 HB11
  go_wp2_with fail
  refine (upto_is 3 (b + 1) b 3 HN3.out rowsB okB 0 (by decide) (by decide) upB0 _ HT.out).mono ?_
  rintro e u12 ⟨rfl, hx⟩
  have HT12 := Lib.hid (HT.out.keep hx)
  have HB12 := Lib.hid (HB.out.trans (hx.mono HB.out.size))
  clear HT HB hx
  have HT := HT12
  have HB := HB12
  clear HT12 HB12
  go_wp2_with fail
  refine (note_lo (b + 1) b 3 HN3.out rowsB 0 1 (by decide) _ HT.out).mono ?_
  rintro e u13 ⟨rfl, rfl⟩
  go_wp2_with fail
  refine (note_rhi (b + 1) b 3 HN3.out rowsB 1 3 (by decide) (by decide) (by decide) (by decide) _ HT.out).mono ?_
  rintro e u14 ⟨rfl, rfl⟩
  go_wp2_with fail
  refine ((show Calls _ _ _ _ (fun e w' => e = .returned (.tuple #[]) ∧ TallyAt w' (b + 1) b 3 rowsC ∧ Only b _ w') from drop_any (b + 1) b 3 HN3.out rowsB okB 2 _ HT.out)).mono ?_
  rintro e u15 ⟨rfl, hty, hx⟩
  have HT15 := Lib.hid hty
  have HB15 := Lib.hid (Only.below HB.out hx HB.out.size hbb)
  clear HT HB hx hty
  have HT := HT15
  have HB := HB15
  clear HT15 HB15
  go_wp2_with fail
  refine (count_is 0 (b + 1) b 3 HN3.out rowsC okC 2 ⟨by decide, by decide⟩ (by decide) _ HT.out).mono ?_
  rintro e u16 ⟨rfl, hx⟩
  have HT16 := Lib.hid (HT.out.keep hx)
  have HB16 := Lib.hid (HB.out.trans (hx.mono HB.out.size))
  clear HT HB hx
  have HT := HT16
  have HB := HB16
  clear HT16 HB16
  go_wp2_with fail
  refine (upto_is 0 (b + 1) b 3 HN3.out rowsC okC 0 (by decide) (by decide) upC0 _ HT.out).mono ?_
  rintro e u17 ⟨rfl, hx⟩
  have HT17 := Lib.hid (HT.out.keep hx)
  have HB17 := Lib.hid (HB.out.trans (hx.mono HB.out.size))
  clear HT HB hx
  have HT := HT17
  have HB := HB17
  clear HT17 HB17
  go_wp2_with fail
  refine (upto_is 3 (b + 1) b 3 HN3.out rowsC okC 2 (by decide) (by decide) upC2 _ HT.out).mono ?_
  rintro e u18 ⟨rfl, hx⟩
  have HT18 := Lib.hid (HT.out.keep hx)
  have HB18 := Lib.hid (HB.out.trans (hx.mono HB.out.size))
  clear HT HB hx
  have HT := HT18
  have HB := HB18
  clear HT18 HB18
  go_wp2_with fail
  go_ret
  exact ⟨rfl, HB.out⟩

end Ta
end Go.Proofs.Ytmpcjiacgbcpdaa
