/- The walks that the statements on sessions without the document's answer begin with. -/
import Derived.Test.YthnolfgbpifcaaaSessionAsks
namespace Go.Proofs.Ythnolfgbpifcaaa
open Go.RowKit

namespace Se

set_option maxHeartbeats 2000000 in
theorem asks_true (t : Tb) (c s : Int) (fr : Bool) (v : ByteArray) (er : Int) (h : ask t c s = (fr, ⟨0, false, v⟩, er)) (w : World) :
    Calls Try.prog 18 #[.agg t.cells.toArray, .int .i64 c, .int .i64 s, .bool fr, .string v, .int .i64 er] w fun e w' => e = .returned (.bool true) ∧ Below w.heap.size w w' := by
  have A1 := ask_any t c s
  rw [h] at A1
  simp only [Rp.cells] at A1
  have A1 := Lib.hid A1
  clear h
  have HT := Lib.hid (Whole.new w 28 t.cells)
  have HB := Lib.hid ((Below.refl w.heap.size w).alloc (Nat.le_refl _) (.cells t.cells.toArray 28))
  go_enter Try.func18, Try.ntmps18
  go_wp2_with (with_reducible refine wpList_load_table rfl (.tmp 6) rfl w.heap.size rfl 28 t HT.out ?_)
  refine (A1.out _).mono ?_
  clear A1
  rintro e1 u1 ⟨rfl, hb⟩
  have hs1 := hb.size
  simp only [World.size_alloc] at hs1
  have HB := Lib.hid (HB.out.trans (hb.mono (by simp)))
  clear hb HT
  have HB2 := Lib.hid (HB.out.alloc (by omega) (.cells #[.int .i64 0, .bool false, .string v] 24))
  go_wp2_with fail
  go_ret
  exact ⟨rfl, HB2.out⟩

def x0 : Rp := ⟨0, false, ⟨#[120]⟩⟩
def t1 : Tb := zeroTb.put 1 ⟨5, x0⟩
theorem zero_zero : isZero zeroRp = true := by simp [isZero, zeroRp, ByteArray.toList_eq]
theorem odd_zeroRw : oddB zeroRw = false := by
  have h : oddB zeroRw = !(isZero zeroRp) := rfl
  rw [h, zero_zero]; rfl
theorem may_zero : mayB zeroTb = true := by
  have h : mayB zeroTb = !(oddB zeroRw || (oddB zeroRw || (oddB zeroRw || (oddB zeroRw || false)))) := rfl
  rw [h, odd_zeroRw]; rfl
theorem may_t1 : mayB t1 = true := by
  have h : mayB t1 = !(oddB zeroRw || (oddB ⟨5, x0⟩ || (oddB zeroRw || (oddB zeroRw || false)))) := rfl
  rw [h, odd_zeroRw]; rfl
theorem note_zero : note zeroTb 1 5 x0 = (t1, 0) := by
  have h : note zeroTb 1 5 x0 = if !(mayB zeroTb) || false then (zeroTb, 2) else (t1, 0) := rfl
  rw [h, may_zero]; rfl
theorem note_t1a : note t1 1 5 zeroRp = (zeroTb, 220) := by
  have h : note t1 1 5 zeroRp = if !(mayB t1) || false then (zeroTb, 2) else (zeroTb, 220) := rfl
  rw [h, may_t1]; rfl
theorem note_t1b : note t1 4 5 zeroRp = (zeroTb, 2) := rfl
theorem note_t1c : note t1 1 0 zeroRp = (zeroTb, 2) := rfl
theorem ask_zero : ask zeroTb 1 5 = (true, ⟨0, false, { data := #[] }⟩, 0) := by
  have h : ask zeroTb 1 5 = if !(mayB zeroTb) then (false, zeroRp, 2) else (true, zeroRp, 0) := rfl
  rw [h, may_zero]; rfl
theorem ask_t1a : ask t1 1 5 = (false, ⟨0, false, { data := #[120] }⟩, 0) := by
  have h : ask t1 1 5 = if !(mayB t1) then (false, zeroRp, 2) else (false, x0, 0) := rfl
  rw [h, may_t1]; rfl
theorem ask_t1b : ask t1 1 6 = (true, ⟨0, false, { data := #[] }⟩, 0) := by
  have h : ask t1 1 6 = if !(mayB t1) then (false, zeroRp, 2) else (true, zeroRp, 0) := rfl
  rw [h, may_t1]; rfl
theorem ask_t1c : ask t1 1 4 = (false, ⟨0, false, { data := #[] }⟩, 220) := by
  have h : ask t1 1 4 = if !(mayB t1) then (false, zeroRp, 2) else (false, zeroRp, 220) := rfl
  rw [h, may_t1]; rfl
theorem ask_t1d : ask t1 0 1 = (true, ⟨0, false, { data := #[] }⟩, 0) := by
  have h : ask t1 0 1 = if !(mayB t1) then (false, zeroRp, 2) else (true, zeroRp, 0) := rfl
  rw [h, may_t1]; rfl

-- AWAKE
set_option maxHeartbeats 4000000 in
theorem awake_is (w : World) : Calls Try.prog 12 #[] w fun e w' => e = .returned (.bool true) ∧ Below w.heap.size w w' := by
  have N1 := note_any zeroTb 1 5 x0
  rw [note_zero] at N1
  have N2 := note_any t1 1 5 zeroRp
  rw [note_t1a] at N2
  have N3 := note_any t1 4 5 zeroRp
  rw [note_t1b] at N3
  have N4 := note_any t1 1 0 zeroRp
  rw [note_t1c] at N4
  have A1 := Lib.hid (asks_true zeroTb 1 5 _ _ _ ask_zero)
  have A2 := asks_true t1 1 5 _ _ _ ask_t1a
  have A3 := asks_true t1 1 6 _ _ _ ask_t1b
  have A4 := asks_true t1 1 4 _ _ _ ask_t1c
  have A5 := asks_true t1 0 1 _ _ _ ask_t1d
  have A6 := may_any t1
  rw [may_t1] at A6
  generalize t1 = tt at *
  have N1 := Lib.hid N1
  have N2 := Lib.hid N2
  have N3 := Lib.hid N3
  have N4 := Lib.hid N4
  have A2 := Lib.hid A2
  have A3 := Lib.hid A3
  have A4 := Lib.hid A4
  have A5 := Lib.hid A5
  have A6 := Lib.hid A6
  have HB := Lib.hid (Below.refl w.heap.size w)
  go_enter Try.func12, Try.ntmps12
  go_wp2_with fail
  refine (N1.out _).mono ?_
  clear N1
  rintro e1 u1 ⟨rfl, hb⟩
  have hs1 := hb.size
  have HB := Lib.hid (HB.out.trans (hb.mono (by omega)))
  clear hb
  have V' : Whole (u1.alloc (.cells #[.int .i64 0, .int .i64 0, .bool false, .string { data := #[] }, .int .i64 0, .int .i64 0, .bool false, .string { data := #[] }, .int .i64 0, .int .i64 0, .bool false, .string { data := #[] }, .int .i64 0, .int .i64 0, .bool false, .string { data := #[] }] 28)) u1.heap.size 28 zeroTb.cells := Whole.new u1 28 zeroTb.cells
  have V := Lib.hid V'
  clear V'
  go_wp2_with (with_reducible refine wpList_store_table rfl (.tmp 1) (.tmp 13) rfl u1.heap.size tt zeroTb rfl rfl V.out ?_)
  intro v1 hw hO
  have VT := Lib.hid hw
  have hb := Only.below ((Below.refl u1.heap.size u1).alloc (Nat.le_refl _) (.cells #[.int .i64 0, .int .i64 0, .bool false, .string { data := #[] }, .int .i64 0, .int .i64 0, .bool false, .string { data := #[] }, .int .i64 0, .int .i64 0, .bool false, .string { data := #[] }, .int .i64 0, .int .i64 0, .bool false, .string { data := #[] }] 28)) hO (by simp) (Nat.le_refl _)
  have ht1 := hb.size
  have hl1 : u1.heap.size < v1.heap.size := hw.lt
  have HB := Lib.hid (HB.out.trans (hb.mono (by omega)))
  clear hb hw hO V
  go_wp2_with (with_reducible refine wpList_load_table rfl (.tmp 1) rfl u1.heap.size rfl 28 tt VT.out ?_)
  refine (N2.out _).mono ?_
  clear N2
  rintro e2 u2 ⟨rfl, hb⟩
  have hs2 := hb.size
  have VT := Lib.hid (VT.out.below hb (by omega))
  have HB := Lib.hid (HB.out.trans (hb.mono (by omega)))
  clear hb
  have V' : Whole (u2.alloc (.cells #[.int .i64 0, .int .i64 0, .bool false, .string { data := #[] }, .int .i64 0, .int .i64 0, .bool false, .string { data := #[] }, .int .i64 0, .int .i64 0, .bool false, .string { data := #[] }, .int .i64 0, .int .i64 0, .bool false, .string { data := #[] }] 28)) u2.heap.size 28 zeroTb.cells := Whole.new u2 28 zeroTb.cells
  have V := Lib.hid V'
  clear V'
  go_wp2_with (with_reducible refine wpList_store_table rfl (.tmp 3) (.tmp 19) rfl u2.heap.size zeroTb zeroTb rfl rfl V.out ?_)
  intro v2 hw hO
  have hb := Only.below ((Below.refl u2.heap.size u2).alloc (Nat.le_refl _) (.cells #[.int .i64 0, .int .i64 0, .bool false, .string { data := #[] }, .int .i64 0, .int .i64 0, .bool false, .string { data := #[] }, .int .i64 0, .int .i64 0, .bool false, .string { data := #[] }, .int .i64 0, .int .i64 0, .bool false, .string { data := #[] }] 28)) hO (by simp) (Nat.le_refl _)
  have ht2 := hb.size
  have hl2 : u2.heap.size < v2.heap.size := hw.lt
  have VT := Lib.hid (VT.out.below hb (by omega))
  have HB := Lib.hid (HB.out.trans (hb.mono (by omega)))
  clear hb hw hO V
  go_wp2_with (with_reducible refine wpList_load_table rfl (.tmp 1) rfl u1.heap.size rfl 28 tt VT.out ?_)
  refine (N3.out _).mono ?_
  clear N3
  rintro e3 u3 ⟨rfl, hb⟩
  have hs3 := hb.size
  have VT := Lib.hid (VT.out.below hb (by omega))
  have HB := Lib.hid (HB.out.trans (hb.mono (by omega)))
  clear hb
  have V' : Whole (u3.alloc (.cells #[.int .i64 0, .int .i64 0, .bool false, .string { data := #[] }, .int .i64 0, .int .i64 0, .bool false, .string { data := #[] }, .int .i64 0, .int .i64 0, .bool false, .string { data := #[] }, .int .i64 0, .int .i64 0, .bool false, .string { data := #[] }] 28)) u3.heap.size 28 zeroTb.cells := Whole.new u3 28 zeroTb.cells
  have V := Lib.hid V'
  clear V'
  go_wp2_with (with_reducible refine wpList_store_table rfl (.tmp 5) (.tmp 25) rfl u3.heap.size zeroTb zeroTb rfl rfl V.out ?_)
  intro v3 hw hO
  have hb := Only.below ((Below.refl u3.heap.size u3).alloc (Nat.le_refl _) (.cells #[.int .i64 0, .int .i64 0, .bool false, .string { data := #[] }, .int .i64 0, .int .i64 0, .bool false, .string { data := #[] }, .int .i64 0, .int .i64 0, .bool false, .string { data := #[] }, .int .i64 0, .int .i64 0, .bool false, .string { data := #[] }] 28)) hO (by simp) (Nat.le_refl _)
  have ht3 := hb.size
  have hl3 : u3.heap.size < v3.heap.size := hw.lt
  have VT := Lib.hid (VT.out.below hb (by omega))
  have HB := Lib.hid (HB.out.trans (hb.mono (by omega)))
  clear hb hw hO V
  go_wp2_with (with_reducible refine wpList_load_table rfl (.tmp 1) rfl u1.heap.size rfl 28 tt VT.out ?_)
  refine (N4.out _).mono ?_
  clear N4
  rintro e4 u4 ⟨rfl, hb⟩
  have hs4 := hb.size
  have VT := Lib.hid (VT.out.below hb (by omega))
  have HB := Lib.hid (HB.out.trans (hb.mono (by omega)))
  clear hb
  have V' : Whole (u4.alloc (.cells #[.int .i64 0, .int .i64 0, .bool false, .string { data := #[] }, .int .i64 0, .int .i64 0, .bool false, .string { data := #[] }, .int .i64 0, .int .i64 0, .bool false, .string { data := #[] }, .int .i64 0, .int .i64 0, .bool false, .string { data := #[] }] 28)) u4.heap.size 28 zeroTb.cells := Whole.new u4 28 zeroTb.cells
  have V := Lib.hid V'
  clear V'
  go_wp2_with (with_reducible refine wpList_store_table rfl (.tmp 7) (.tmp 31) rfl u4.heap.size zeroTb zeroTb rfl rfl V.out ?_)
  intro v4 hw hO
  have hb := Only.below ((Below.refl u4.heap.size u4).alloc (Nat.le_refl _) (.cells #[.int .i64 0, .int .i64 0, .bool false, .string { data := #[] }, .int .i64 0, .int .i64 0, .bool false, .string { data := #[] }, .int .i64 0, .int .i64 0, .bool false, .string { data := #[] }, .int .i64 0, .int .i64 0, .bool false, .string { data := #[] }] 28)) hO (by simp) (Nat.le_refl _)
  have ht4 := hb.size
  have hl4 : u4.heap.size < v4.heap.size := hw.lt
  have VT := Lib.hid (VT.out.below hb (by omega))
  have HB := Lib.hid (HB.out.trans (hb.mono (by omega)))
  clear hb hw hO V
  go_wp2_with (with_reducible refine wpList_load_table rfl (.tmp 1) rfl u1.heap.size rfl 28 tt VT.out ?_)
  refine (A1.out _).mono ?_
  clear A1
  rintro e10 u10 ⟨rfl, hb⟩
  have hs10 := hb.size
  have VT := Lib.hid (VT.out.below hb (by omega))
  have HB := Lib.hid (HB.out.trans (hb.mono (by omega)))
  clear hb
  go_wp2_with (with_reducible refine wpList_load_table rfl (.tmp 1) rfl u1.heap.size rfl 28 tt VT.out ?_)
  refine (A2.out _).mono ?_
  clear A2
  rintro e11 u11 ⟨rfl, hb⟩
  have hs11 := hb.size
  have VT := Lib.hid (VT.out.below hb (by omega))
  have HB := Lib.hid (HB.out.trans (hb.mono (by omega)))
  clear hb
  go_wp2_with (with_reducible refine wpList_load_table rfl (.tmp 1) rfl u1.heap.size rfl 28 tt VT.out ?_)
  refine (A3.out _).mono ?_
  clear A3
  rintro e12 u12 ⟨rfl, hb⟩
  have hs12 := hb.size
  have VT := Lib.hid (VT.out.below hb (by omega))
  have HB := Lib.hid (HB.out.trans (hb.mono (by omega)))
  clear hb
  go_wp2_with (with_reducible refine wpList_load_table rfl (.tmp 1) rfl u1.heap.size rfl 28 tt VT.out ?_)
  refine (A4.out _).mono ?_
  clear A4
  rintro e13 u13 ⟨rfl, hb⟩
  have hs13 := hb.size
  have VT := Lib.hid (VT.out.below hb (by omega))
  have HB := Lib.hid (HB.out.trans (hb.mono (by omega)))
  clear hb
  go_wp2_with (with_reducible refine wpList_load_table rfl (.tmp 1) rfl u1.heap.size rfl 28 tt VT.out ?_)
  refine (A5.out _).mono ?_
  clear A5
  rintro e14 u14 ⟨rfl, hb⟩
  have hs14 := hb.size
  have VT := Lib.hid (VT.out.below hb (by omega))
  have HB := Lib.hid (HB.out.trans (hb.mono (by omega)))
  clear hb
  go_wp2_with (with_reducible refine wpList_load_table rfl (.tmp 1) rfl u1.heap.size rfl 28 tt VT.out ?_)
  refine (A6.out _).mono ?_
  clear A6
  rintro e15 u15 ⟨rfl, hb⟩
  have hs15 := hb.size
  have VT := Lib.hid (VT.out.below hb (by omega))
  have HB := Lib.hid (HB.out.trans (hb.mono (by omega)))
  clear hb
  go_wp2_with (with_reducible refine wpList_load_table rfl (.tmp 1) rfl u1.heap.size rfl 28 tt VT.out ?_)
  go_ret
  exact ⟨rfl, HB.out⟩

end Se
end Go.Proofs.Ythnolfgbpifcaaa
