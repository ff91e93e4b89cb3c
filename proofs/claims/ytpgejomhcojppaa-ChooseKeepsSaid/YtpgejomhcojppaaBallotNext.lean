/- A replica's next ballot: the program's and the document's. -/
import Derived.Test.YtpgejomhcojppaaBallotWalks
namespace Go.Proofs.Ytpgejomhcojppaa
open Go.RowKit

set_option linter.unusedSimpArgs false
set_option linter.unusedVariables false
namespace Bl

set_option maxHeartbeats 1000000 in
theorem next_may (r p i n : Int) (hm : mayB ⟨r, p⟩ n = false) (w : World) :
    Calls Try.prog 28 #[.agg #[.int .i64 r, .int .i64 p], .int .i64 i, .int .i64 n] w fun e w' => e = .returned (.tuple #[.agg #[.int .i64 0, .int .i64 0], .int .i64 2]) ∧ Below w.heap.size w w' := by
  have C := may_any ⟨r, p⟩ n
  rw [hm] at C
  have C := Lib.hid C
  clear hm
  have H0 := Lib.hid (wh0_2 w 27 [.int .i64 r, .int .i64 p] (.cells #[.int .i64 0, .int .i64 0] 27))
  have H1 := Lib.hid (wh1_2 w (.cells #[.int .i64 r, .int .i64 p] 27) 27 [.int .i64 0, .int .i64 0])
  have HB := Lib.hid (be2 w (.cells #[.int .i64 r, .int .i64 p] 27) (.cells #[.int .i64 0, .int .i64 0] 27))
  go_enter Try.func28, Try.ntmps28
  go_wp2_with fail
  refine (C.out _).mono ?_
  rintro e w1 ⟨rfl, hb1⟩
  have H0 := H0.out.below hb1 (by simp; omega)
  have hl0 := H0.lt
  have H1 := H1.out.below hb1 (by simp)
  have HB := HB.out.trans (hb1.mono (by simp; omega))
  obtain ⟨⟨a0, a1⟩, -⟩ := H0.two
  obtain ⟨⟨c0, c1⟩, f0, f1⟩ := H1.two
  have hl := H1.lt
  have HB' := Lib.hid HB
  clear hb1 H0 H1 HB
  go_wp2_with fail
  refine bodyPost_ret (v := .tuple #[.agg #[.int .i64 0, .int .i64 0], .int .i64 2]) (by simp [results, Try.results28, go_sem, c0, c1, f0, f1]) rfl ⟨rfl, ?_⟩
  exact (HB'.out.setCell (p := ⟨w.heap.size + 1, 0, none⟩) (by simp) _).setCell (p := ⟨w.heap.size + 1, 1, none⟩) (by simp) _

set_option maxHeartbeats 1000000 in
theorem next_low (r p i n : Int) (hm : mayB ⟨r, p⟩ n = true) (h1 : i < 0) (w : World) :
    Calls Try.prog 28 #[.agg #[.int .i64 r, .int .i64 p], .int .i64 i, .int .i64 n] w fun e w' => e = .returned (.tuple #[.agg #[.int .i64 0, .int .i64 0], .int .i64 2]) ∧ Below w.heap.size w w' := by
  have C := may_any ⟨r, p⟩ n
  rw [hm] at C
  have C := Lib.hid C
  have d1 : decide (i < 0) = true := decide_eq_true h1
  clear hm
  have H0 := Lib.hid (wh0_2 w 27 [.int .i64 r, .int .i64 p] (.cells #[.int .i64 0, .int .i64 0] 27))
  have H1 := Lib.hid (wh1_2 w (.cells #[.int .i64 r, .int .i64 p] 27) 27 [.int .i64 0, .int .i64 0])
  have HB := Lib.hid (be2 w (.cells #[.int .i64 r, .int .i64 p] 27) (.cells #[.int .i64 0, .int .i64 0] 27))
  go_enter Try.func28, Try.ntmps28
  go_wp2_with fail
  refine (C.out _).mono ?_
  rintro e w1 ⟨rfl, hb1⟩
  have H0 := H0.out.below hb1 (by simp; omega)
  have hl0 := H0.lt
  have H1 := H1.out.below hb1 (by simp)
  have HB := HB.out.trans (hb1.mono (by simp; omega))
  obtain ⟨⟨a0, a1⟩, -⟩ := H0.two
  obtain ⟨⟨c0, c1⟩, f0, f1⟩ := H1.two
  have hl := H1.lt
  have HB' := Lib.hid HB
  clear hb1 H0 H1 HB
  go_wp2_with fail
  refine bodyPost_ret (v := .tuple #[.agg #[.int .i64 0, .int .i64 0], .int .i64 2]) (by simp [results, Try.results28, go_sem, c0, c1, f0, f1]) rfl ⟨rfl, ?_⟩
  exact (HB'.out.setCell (p := ⟨w.heap.size + 1, 0, none⟩) (by simp) _).setCell (p := ⟨w.heap.size + 1, 1, none⟩) (by simp) _

set_option maxHeartbeats 1000000 in
theorem next_high (r p i n : Int) (hm : mayB ⟨r, p⟩ n = true) (h1 : 0 ≤ i) (h2 : n ≤ i) (w : World) :
    Calls Try.prog 28 #[.agg #[.int .i64 r, .int .i64 p], .int .i64 i, .int .i64 n] w fun e w' => e = .returned (.tuple #[.agg #[.int .i64 0, .int .i64 0], .int .i64 2]) ∧ Below w.heap.size w w' := by
  have C := may_any ⟨r, p⟩ n
  rw [hm] at C
  have C := Lib.hid C
  have d1 : decide (i < 0) = false := decide_eq_false (by omega)
  have d2 : decide (n ≤ i) = true := decide_eq_true h2
  clear hm
  have H0 := Lib.hid (wh0_2 w 27 [.int .i64 r, .int .i64 p] (.cells #[.int .i64 0, .int .i64 0] 27))
  have H1 := Lib.hid (wh1_2 w (.cells #[.int .i64 r, .int .i64 p] 27) 27 [.int .i64 0, .int .i64 0])
  have HB := Lib.hid (be2 w (.cells #[.int .i64 r, .int .i64 p] 27) (.cells #[.int .i64 0, .int .i64 0] 27))
  go_enter Try.func28, Try.ntmps28
  go_wp2_with fail
  refine (C.out _).mono ?_
  rintro e w1 ⟨rfl, hb1⟩
  have H0 := H0.out.below hb1 (by simp; omega)
  have hl0 := H0.lt
  have H1 := H1.out.below hb1 (by simp)
  have HB := HB.out.trans (hb1.mono (by simp; omega))
  obtain ⟨⟨a0, a1⟩, -⟩ := H0.two
  obtain ⟨⟨c0, c1⟩, f0, f1⟩ := H1.two
  have hl := H1.lt
  have HB' := Lib.hid HB
  clear hb1 H0 H1 HB
  go_wp2_with fail
  refine bodyPost_ret (v := .tuple #[.agg #[.int .i64 0, .int .i64 0], .int .i64 2]) (by simp [results, Try.results28, go_sem, c0, c1, f0, f1]) rfl ⟨rfl, ?_⟩
  exact (HB'.out.setCell (p := ⟨w.heap.size + 1, 0, none⟩) (by simp) _).setCell (p := ⟨w.heap.size + 1, 1, none⟩) (by simp) _

set_option maxHeartbeats 1000000 in
theorem next_zero (r p i n : Int) (hm : mayB ⟨r, p⟩ n = true) (h1 : 0 ≤ i) (h2 : i < n) (h3 : r < 1) (hL : lessB ⟨r, p⟩ ⟨1, i⟩ = true) (w : World) :
    Calls Try.prog 28 #[.agg #[.int .i64 r, .int .i64 p], .int .i64 i, .int .i64 n] w fun e w' => e = .returned (.tuple #[.agg #[.int .i64 1, .int .i64 i], .int .i64 0]) ∧ Below w.heap.size w w' := by
  have C := may_any ⟨r, p⟩ n
  rw [hm] at C
  have C := Lib.hid C
  have L := less_any ⟨r, p⟩ ⟨1, i⟩
  rw [hL] at L
  have L := Lib.hid L
  have d1 : decide (i < 0) = false := decide_eq_false (by omega)
  have d2 : decide (n ≤ i) = false := decide_eq_false (by omega)
  have m1 : max r 1 = 1 := by omega
  clear hm hL
  have H0 := Lib.hid (wh0_2 w 27 [.int .i64 r, .int .i64 p] (.cells #[.int .i64 0, .int .i64 0] 27))
  have H1 := Lib.hid (wh1_2 w (.cells #[.int .i64 r, .int .i64 p] 27) 27 [.int .i64 0, .int .i64 0])
  have HB := Lib.hid (be2 w (.cells #[.int .i64 r, .int .i64 p] 27) (.cells #[.int .i64 0, .int .i64 0] 27))
  go_enter Try.func28, Try.ntmps28
  go_wp2_with fail
  refine (C.out _).mono ?_
  rintro e w1 ⟨rfl, hb1⟩
  have H0 := H0.out.below hb1 (by simp; omega)
  have hl0 := H0.lt
  have H1 := H1.out.below hb1 (by simp)
  have HB := HB.out.trans (hb1.mono (by simp; omega))
  obtain ⟨⟨a0, a1⟩, -⟩ := H0.two
  obtain ⟨⟨c0, c1⟩, f0, f1⟩ := H1.two
  have hl := H1.lt
  have G0 := Lib.hid (H0.alloc (.cells #[.int .i64 1, .int .i64 i] 27))
  have G1 := Lib.hid (H1.alloc (.cells #[.int .i64 1, .int .i64 i] 27))
  have G2 := Lib.hid (Whole.new w1 27 [.int .i64 1, .int .i64 i])
  have GB := Lib.hid (HB.alloc HB.size (.cells #[.int .i64 1, .int .i64 i] 27))
  clear hb1 H0 H1 HB
  go_wp2_with fail
  refine (L.out _).mono ?_
  rintro e w2 ⟨rfl, hb2⟩
  have H0 := G0.out.below hb2 (by simp; omega)
  have H1 := G1.out.below hb2 (by simp; omega)
  have H2 := G2.out.below hb2 (by simp)
  have HB := GB.out.trans (hb2.mono (by simp; omega))
  obtain ⟨⟨b0, b1⟩, -⟩ := H0.two
  obtain ⟨⟨k0, k1⟩, l0, l1⟩ := H1.two
  obtain ⟨⟨m0, m1⟩, n0, n1⟩ := H2.two
  have hl2 := H2.lt
  have hl3 := H0.lt
  have hl4 := H1.lt
  have HB' := Lib.hid HB
  clear hb2 H0 H1 H2 HB a0 a1 c0 c1 f0 f1 G0 G1 G2 GB
  go_wp2_with fail
  refine bodyPost_ret (v := .tuple #[.agg #[.int .i64 1, .int .i64 i], .int .i64 0]) (by simp [results, Try.results28, go_sem, m0, m1, n0, n1, k0, k1, l0, l1]) rfl ⟨rfl, ?_⟩
  exact (HB'.out.setCell (p := ⟨w.heap.size + 1, 0, none⟩) (by simp) _).setCell (p := ⟨w.heap.size + 1, 1, none⟩) (by simp) _

set_option maxHeartbeats 1000000 in
theorem next_same (r p i n : Int) (hm : mayB ⟨r, p⟩ n = true) (h1 : 0 ≤ i) (h2 : i < n) (h3 : 1 ≤ r) (h4 : r ≤ 1099511627776) (hL : lessB ⟨r, p⟩ ⟨r, i⟩ = true) (w : World) :
    Calls Try.prog 28 #[.agg #[.int .i64 r, .int .i64 p], .int .i64 i, .int .i64 n] w fun e w' => e = .returned (.tuple #[.agg #[.int .i64 r, .int .i64 i], .int .i64 0]) ∧ Below w.heap.size w w' := by
  have C := may_any ⟨r, p⟩ n
  rw [hm] at C
  have C := Lib.hid C
  have L := less_any ⟨r, p⟩ ⟨r, i⟩
  rw [hL] at L
  have L := Lib.hid L
  have d1 : decide (i < 0) = false := decide_eq_false (by omega)
  have d2 : decide (n ≤ i) = false := decide_eq_false (by omega)
  have m1 : max r 1 = r := by omega
  clear hm hL
  have H0 := Lib.hid (wh0_2 w 27 [.int .i64 r, .int .i64 p] (.cells #[.int .i64 0, .int .i64 0] 27))
  have H1 := Lib.hid (wh1_2 w (.cells #[.int .i64 r, .int .i64 p] 27) 27 [.int .i64 0, .int .i64 0])
  have HB := Lib.hid (be2 w (.cells #[.int .i64 r, .int .i64 p] 27) (.cells #[.int .i64 0, .int .i64 0] 27))
  go_enter Try.func28, Try.ntmps28
  go_wp2_with fail
  refine (C.out _).mono ?_
  rintro e w1 ⟨rfl, hb1⟩
  have H0 := H0.out.below hb1 (by simp; omega)
  have hl0 := H0.lt
  have H1 := H1.out.below hb1 (by simp)
  have HB := HB.out.trans (hb1.mono (by simp; omega))
  obtain ⟨⟨a0, a1⟩, -⟩ := H0.two
  obtain ⟨⟨c0, c1⟩, f0, f1⟩ := H1.two
  have hl := H1.lt
  have G0 := Lib.hid (H0.alloc (.cells #[.int .i64 r, .int .i64 i] 27))
  have G1 := Lib.hid (H1.alloc (.cells #[.int .i64 r, .int .i64 i] 27))
  have G2 := Lib.hid (Whole.new w1 27 [.int .i64 r, .int .i64 i])
  have GB := Lib.hid (HB.alloc HB.size (.cells #[.int .i64 r, .int .i64 i] 27))
  clear hb1 H0 H1 HB
  go_wp2_with fail
  refine (L.out _).mono ?_
  rintro e w2 ⟨rfl, hb2⟩
  have H0 := G0.out.below hb2 (by simp; omega)
  have H1 := G1.out.below hb2 (by simp; omega)
  have H2 := G2.out.below hb2 (by simp)
  have HB := GB.out.trans (hb2.mono (by simp; omega))
  obtain ⟨⟨b0, b1⟩, -⟩ := H0.two
  obtain ⟨⟨k0, k1⟩, l0, l1⟩ := H1.two
  obtain ⟨⟨m0, m1⟩, n0, n1⟩ := H2.two
  have hl2 := H2.lt
  have hl3 := H0.lt
  have hl4 := H1.lt
  have HB' := Lib.hid HB
  clear hb2 H0 H1 H2 HB a0 a1 c0 c1 f0 f1 G0 G1 G2 GB
  go_wp2_with fail
  refine bodyPost_ret (v := .tuple #[.agg #[.int .i64 r, .int .i64 i], .int .i64 0]) (by simp [results, Try.results28, go_sem, m0, m1, n0, n1, k0, k1, l0, l1]) rfl ⟨rfl, ?_⟩
  exact (HB'.out.setCell (p := ⟨w.heap.size + 1, 0, none⟩) (by simp) _).setCell (p := ⟨w.heap.size + 1, 1, none⟩) (by simp) _

set_option maxHeartbeats 1000000 in
theorem next_more (r p i n : Int) (hm : mayB ⟨r, p⟩ n = true) (h1 : 0 ≤ i) (h2 : i < n) (h3 : 1 ≤ r) (h4 : r + 1 ≤ 1099511627776) (hL : lessB ⟨r, p⟩ ⟨r, i⟩ = false) (w : World) :
    Calls Try.prog 28 #[.agg #[.int .i64 r, .int .i64 p], .int .i64 i, .int .i64 n] w fun e w' => e = .returned (.tuple #[.agg #[.int .i64 (r + 1), .int .i64 i], .int .i64 0]) ∧ Below w.heap.size w w' := by
  have C := may_any ⟨r, p⟩ n
  rw [hm] at C
  have C := Lib.hid C
  have L := less_any ⟨r, p⟩ ⟨r, i⟩
  rw [hL] at L
  have L := Lib.hid L
  have d1 : decide (i < 0) = false := decide_eq_false (by omega)
  have d2 : decide (n ≤ i) = false := decide_eq_false (by omega)
  have m1 : max r 1 = r := by omega
  clear hm hL
  have H0 := Lib.hid (wh0_2 w 27 [.int .i64 r, .int .i64 p] (.cells #[.int .i64 0, .int .i64 0] 27))
  have H1 := Lib.hid (wh1_2 w (.cells #[.int .i64 r, .int .i64 p] 27) 27 [.int .i64 0, .int .i64 0])
  have HB := Lib.hid (be2 w (.cells #[.int .i64 r, .int .i64 p] 27) (.cells #[.int .i64 0, .int .i64 0] 27))
  go_enter Try.func28, Try.ntmps28
  go_wp2_with fail
  refine (C.out _).mono ?_
  rintro e w1 ⟨rfl, hb1⟩
  have H0 := H0.out.below hb1 (by simp; omega)
  have hl0 := H0.lt
  have H1 := H1.out.below hb1 (by simp)
  have HB := HB.out.trans (hb1.mono (by simp; omega))
  obtain ⟨⟨a0, a1⟩, -⟩ := H0.two
  obtain ⟨⟨c0, c1⟩, f0, f1⟩ := H1.two
  have hl := H1.lt
  have G0 := Lib.hid (H0.alloc (.cells #[.int .i64 r, .int .i64 i] 27))
  have G1 := Lib.hid (H1.alloc (.cells #[.int .i64 r, .int .i64 i] 27))
  have G2 := Lib.hid (Whole.new w1 27 [.int .i64 r, .int .i64 i])
  have GB := Lib.hid (HB.alloc HB.size (.cells #[.int .i64 r, .int .i64 i] 27))
  clear hb1 H0 H1 HB
  go_wp2_with fail
  refine (L.out _).mono ?_
  rintro e w2 ⟨rfl, hb2⟩
  have H0 := G0.out.below hb2 (by simp; omega)
  have H1 := G1.out.below hb2 (by simp; omega)
  have H2 := G2.out.below hb2 (by simp)
  have HB := GB.out.trans (hb2.mono (by simp; omega))
  obtain ⟨⟨b0, b1⟩, -⟩ := H0.two
  obtain ⟨⟨k0, k1⟩, l0, l1⟩ := H1.two
  obtain ⟨⟨m0, m1⟩, n0, n1⟩ := H2.two
  have hl2 := H2.lt
  have hl3 := H0.lt
  have hl4 := H1.lt
  have HB' := Lib.hid HB
  clear hb2 H0 H1 H2 HB a0 a1 c0 c1 f0 f1 G0 G1 G2 GB
  go_wp2_with fail
  refine bodyPost_ret (v := .tuple #[.agg #[.int .i64 (r + 1), .int .i64 i], .int .i64 0]) (by simp [results, Try.results28, go_sem, m0, m1, n0, n1, k0, k1, l0, l1]) rfl ⟨rfl, ?_⟩
  exact ((HB'.out.setCell (p := ⟨w1.heap.size, 0, none⟩) (by simp; omega) _).setCell (p := ⟨w.heap.size + 1, 0, none⟩) (by simp) _).setCell (p := ⟨w.heap.size + 1, 1, none⟩) (by simp) _

set_option maxHeartbeats 1000000 in
theorem next_full (r p i n : Int) (hm : mayB ⟨r, p⟩ n = true) (h1 : 0 ≤ i) (h2 : i < n) (h3 : 1 ≤ r) (h4 : 1099511627776 < r + 1) (h5 : r ≤ 1099511627776) (hL : lessB ⟨r, p⟩ ⟨r, i⟩ = false) (w : World) :
    Calls Try.prog 28 #[.agg #[.int .i64 r, .int .i64 p], .int .i64 i, .int .i64 n] w fun e w' => e = .returned (.tuple #[.agg #[.int .i64 0, .int .i64 0], .int .i64 4]) ∧ Below w.heap.size w w' := by
  have C := may_any ⟨r, p⟩ n
  rw [hm] at C
  have C := Lib.hid C
  have L := less_any ⟨r, p⟩ ⟨r, i⟩
  rw [hL] at L
  have L := Lib.hid L
  have d1 : decide (i < 0) = false := decide_eq_false (by omega)
  have d2 : decide (n ≤ i) = false := decide_eq_false (by omega)
  have m1 : max r 1 = r := by omega
  clear hm hL
  have H0 := Lib.hid (wh0_2 w 27 [.int .i64 r, .int .i64 p] (.cells #[.int .i64 0, .int .i64 0] 27))
  have H1 := Lib.hid (wh1_2 w (.cells #[.int .i64 r, .int .i64 p] 27) 27 [.int .i64 0, .int .i64 0])
  have HB := Lib.hid (be2 w (.cells #[.int .i64 r, .int .i64 p] 27) (.cells #[.int .i64 0, .int .i64 0] 27))
  go_enter Try.func28, Try.ntmps28
  go_wp2_with fail
  refine (C.out _).mono ?_
  rintro e w1 ⟨rfl, hb1⟩
  have H0 := H0.out.below hb1 (by simp; omega)
  have hl0 := H0.lt
  have H1 := H1.out.below hb1 (by simp)
  have HB := HB.out.trans (hb1.mono (by simp; omega))
  obtain ⟨⟨a0, a1⟩, -⟩ := H0.two
  obtain ⟨⟨c0, c1⟩, f0, f1⟩ := H1.two
  have hl := H1.lt
  have G0 := Lib.hid (H0.alloc (.cells #[.int .i64 r, .int .i64 i] 27))
  have G1 := Lib.hid (H1.alloc (.cells #[.int .i64 r, .int .i64 i] 27))
  have G2 := Lib.hid (Whole.new w1 27 [.int .i64 r, .int .i64 i])
  have GB := Lib.hid (HB.alloc HB.size (.cells #[.int .i64 r, .int .i64 i] 27))
  clear hb1 H0 H1 HB
  go_wp2_with fail
  refine (L.out _).mono ?_
  rintro e w2 ⟨rfl, hb2⟩
  have H0 := G0.out.below hb2 (by simp; omega)
  have H1 := G1.out.below hb2 (by simp; omega)
  have H2 := G2.out.below hb2 (by simp)
  have HB := GB.out.trans (hb2.mono (by simp; omega))
  obtain ⟨⟨b0, b1⟩, -⟩ := H0.two
  obtain ⟨⟨k0, k1⟩, l0, l1⟩ := H1.two
  obtain ⟨⟨m0, m1⟩, n0, n1⟩ := H2.two
  have hl2 := H2.lt
  have hl3 := H0.lt
  have hl4 := H1.lt
  have HB' := Lib.hid HB
  clear hb2 H0 H1 H2 HB a0 a1 c0 c1 f0 f1 G0 G1 G2 GB
  go_wp2_with fail
  refine bodyPost_ret (v := .tuple #[.agg #[.int .i64 0, .int .i64 0], .int .i64 4]) (by simp [results, Try.results28, go_sem, m0, m1, n0, n1, k0, k1, l0, l1]) rfl ⟨rfl, ?_⟩
  exact ((HB'.out.setCell (p := ⟨w1.heap.size, 0, none⟩) (by simp; omega) _).setCell (p := ⟨w.heap.size + 1, 0, none⟩) (by simp) _).setCell (p := ⟨w.heap.size + 1, 1, none⟩) (by simp) _

theorem next_any (b : Ba) (i n : Int) (w : World) :
    Calls Try.prog 28 #[.agg b.cells.toArray, .int .i64 i, .int .i64 n] w fun e w' => e = .returned (.tuple #[.agg (nextZ b i n).1.cells.toArray, .int .i64 (nextZ b i n).2]) ∧ Below w.heap.size w w' := by
  obtain ⟨r, p⟩ := b
  cases hm : mayB ⟨r, p⟩ n
  · rw [show nextZ ⟨r, p⟩ i n = (zeroBa, 2) by unfold nextZ; rw [hm]; rfl]
    exact next_may r p i n hm w
  by_cases h1 : i < 0
  · rw [show nextZ ⟨r, p⟩ i n = (zeroBa, 2) by unfold nextZ; rw [hm, decide_eq_true h1]; rfl]
    exact next_low r p i n hm h1 w
  by_cases h2 : n ≤ i
  · rw [show nextZ ⟨r, p⟩ i n = (zeroBa, 2) by unfold nextZ; rw [hm, decide_eq_true h2, Bool.or_true]; rfl]
    exact next_high r p i n hm (by omega) h2 w
  have hz : nextZ ⟨r, p⟩ i n = if 1099511627776 < nextR ⟨r, p⟩ i then (zeroBa, 4) else (⟨nextR ⟨r, p⟩ i, i⟩, 0) := by
    unfold nextZ; rw [hm, decide_eq_false h1, decide_eq_false h2]; rfl
  have hR := next_behind (i := i) hm
  have hmm := may_iff.1 hm
  rw [hz]
  by_cases h3 : r < 1
  · have h : nextR ⟨r, p⟩ i = 1 := if_pos h3
    rw [h] at hR ⊢
    rw [if_neg (by omega)]
    exact next_zero r p i n hm (by omega) (by omega) h3 hR w
  have hle : r ≤ 1099511627776 := by
    obtain ⟨_, h | h⟩ := hmm
    · injection h with ha hb; subst ha; omega
    · exact h.2.1
  by_cases h4 : p < i
  · have h : nextR ⟨r, p⟩ i = r := by unfold nextR; rw [if_neg h3, if_pos h4]
    rw [h] at hR ⊢
    rw [if_neg (by omega)]
    exact next_same r p i n hm (by omega) (by omega) (by omega) hle hR w
  · have h : nextR ⟨r, p⟩ i = r + 1 := by unfold nextR; rw [if_neg h3, if_neg h4]
    rw [h]
    have hL : lessB ⟨r, p⟩ ⟨r, i⟩ = false := less_not.2 (by simp only; omega)
    by_cases h5 : 1099511627776 < r + 1
    · rw [if_pos h5]
      exact next_full r p i n hm (by omega) (by omega) (by omega) h5 hle hL w
    · rw [if_neg h5]
      exact next_more r p i n hm (by omega) (by omega) (by omega) (by omega) hL w

end Bl
end Go.Proofs.Ytpgejomhcojppaa
