/- What the document's Note returns (package sextonref22). -/
import Derived.Test.YthnolfgbpifcaaaSessionRefAsk
import Derived.Test.YthnolfgbpifcaaaMids
namespace Go.Proofs.Ythnolfgbpifcaaa
open Go.RowKit

namespace Se

set_option maxHeartbeats 2000000 in
theorem rnote_arg (t : Tb) (c : Int) (s : Int) (x : Rp) (hbad : c < 0 ∨ 4 ≤ c ∨ s < 1 ∨ 1099511627776 < s) (w : World) :
    Calls Try.prog 9 #[.agg t.cells.toArray, .int .i64 c, .int .i64 s, .agg x.cells.toArray] w fun e w' =>
      e = .returned (.tuple #[.agg zeroTb.cells.toArray, .int .i64 2]) ∧ Below w.heap.size w w' := by
  have hT : Whole (((w.alloc (.cells t.cells.toArray 28)).alloc (.cells x.cells.toArray 24)).alloc (.cells #[.int .i64 0, .int .i64 0, .bool false, .string { data := #[] }, .int .i64 0, .int .i64 0, .bool false, .string { data := #[] }, .int .i64 0, .int .i64 0, .bool false, .string { data := #[] }, .int .i64 0, .int .i64 0, .bool false, .string { data := #[] }] 28)) w.heap.size 28 t.cells := ((Whole.new w 28 t.cells).alloc (.cells x.cells.toArray 24)).alloc (.cells zeroTb.cells.toArray 28)
  have hR : Whole (((w.alloc (.cells t.cells.toArray 28)).alloc (.cells x.cells.toArray 24)).alloc (.cells #[.int .i64 0, .int .i64 0, .bool false, .string { data := #[] }, .int .i64 0, .int .i64 0, .bool false, .string { data := #[] }, .int .i64 0, .int .i64 0, .bool false, .string { data := #[] }, .int .i64 0, .int .i64 0, .bool false, .string { data := #[] }] 28)) (w.alloc (.cells t.cells.toArray 28)).heap.size 24 x.cells := (Whole.new (w.alloc (.cells t.cells.toArray 28)) 24 x.cells).alloc (.cells zeroTb.cells.toArray 28)
  have hZ : Whole (((w.alloc (.cells t.cells.toArray 28)).alloc (.cells x.cells.toArray 24)).alloc (.cells #[.int .i64 0, .int .i64 0, .bool false, .string { data := #[] }, .int .i64 0, .int .i64 0, .bool false, .string { data := #[] }, .int .i64 0, .int .i64 0, .bool false, .string { data := #[] }, .int .i64 0, .int .i64 0, .bool false, .string { data := #[] }] 28)) ((w.alloc (.cells t.cells.toArray 28)).alloc (.cells x.cells.toArray 24)).heap.size 28 zeroTb.cells := Whole.new ((w.alloc (.cells t.cells.toArray 28)).alloc (.cells x.cells.toArray 24)) 28 zeroTb.cells
  rw [World.size_alloc] at hR
  rw [World.size_alloc, World.size_alloc] at hZ
  have hB : Below w.heap.size w (((w.alloc (.cells t.cells.toArray 28)).alloc (.cells x.cells.toArray 24)).alloc (.cells #[.int .i64 0, .int .i64 0, .bool false, .string { data := #[] }, .int .i64 0, .int .i64 0, .bool false, .string { data := #[] }, .int .i64 0, .int .i64 0, .bool false, .string { data := #[] }, .int .i64 0, .int .i64 0, .bool false, .string { data := #[] }] 28)) :=
    (((Below.refl _ _).alloc (Nat.le_refl _) _).alloc (by simp) _).alloc (by simp; omega) _
  have HB := Lib.hid hB; clear hB
  have HT := Lib.hid hT; clear hT
  have HR := Lib.hid hR; clear hR
  have HZ := Lib.hid hZ; clear hZ
  by_cases h1 : c < 0
  · have d1 : decide (c < 0) = true := decide_eq_true h1
    clear hbad
    go_enter Try.func9, Try.ntmps9
    go_wp2_with (with_reducible refine wpList_store_table rfl (.tmp 8) (.tmp 36) rfl (w.heap.size + 1 + 1) zeroTb zeroTb rfl rfl HZ.out ?_)
    intro w2 hw2 hO
    have hW2 := Lib.hid hw2
    have HB3 := Lib.hid (Only.below HB.out hO (by simp; omega) (by omega))
    clear hw2 hO
    go_wp2_with fail
    exact bodyPost_ret (results_table rfl _ _ (w.heap.size + 1 + 1) zeroTb rfl hW2.out) rfl ⟨rfl, HB3.out⟩
  by_cases h2 : 4 ≤ c
  · have d1 : decide (c < 0) = false := decide_eq_false (by omega)
    have d2 : decide (3 < c) = true := decide_eq_true (by omega)
    clear hbad
    go_enter Try.func9, Try.ntmps9
    go_wp2_with (with_reducible refine wpList_store_table rfl (.tmp 8) (.tmp 36) rfl (w.heap.size + 1 + 1) zeroTb zeroTb rfl rfl HZ.out ?_)
    intro w2 hw2 hO
    have hW2 := Lib.hid hw2
    have HB3 := Lib.hid (Only.below HB.out hO (by simp; omega) (by omega))
    clear hw2 hO
    go_wp2_with fail
    exact bodyPost_ret (results_table rfl _ _ (w.heap.size + 1 + 1) zeroTb rfl hW2.out) rfl ⟨rfl, HB3.out⟩
  by_cases h3 : s < 1
  · have d1 : decide (c < 0) = false := decide_eq_false (by omega)
    have d2 : decide (3 < c) = false := decide_eq_false (by omega)
    have d3 : decide (s < 1) = true := decide_eq_true h3
    clear hbad
    go_enter Try.func9, Try.ntmps9
    go_wp2_with (with_reducible refine wpList_store_table rfl (.tmp 8) (.tmp 36) rfl (w.heap.size + 1 + 1) zeroTb zeroTb rfl rfl HZ.out ?_)
    intro w2 hw2 hO
    have hW2 := Lib.hid hw2
    have HB3 := Lib.hid (Only.below HB.out hO (by simp; omega) (by omega))
    clear hw2 hO
    go_wp2_with fail
    exact bodyPost_ret (results_table rfl _ _ (w.heap.size + 1 + 1) zeroTb rfl hW2.out) rfl ⟨rfl, HB3.out⟩
  have d1 : decide (c < 0) = false := decide_eq_false (by omega)
  have d2 : decide (3 < c) = false := decide_eq_false (by omega)
  have d3 : decide (s < 1) = false := decide_eq_false (by omega)
  have d4 : decide (1099511627776 < s) = true := decide_eq_true (by rcases hbad with h | h | h | h <;> omega)
  clear hbad
  go_enter Try.func9, Try.ntmps9
  go_wp2_with (with_reducible refine wpList_store_table rfl (.tmp 8) (.tmp 36) rfl (w.heap.size + 1 + 1) zeroTb zeroTb rfl rfl HZ.out ?_)
  intro w2 hw2 hO
  have hW2 := Lib.hid hw2
  have HB3 := Lib.hid (Only.below HB.out hO (by simp; omega) (by omega))
  clear hw2 hO
  go_wp2_with fail
  exact bodyPost_ret (results_table rfl _ _ (w.heap.size + 1 + 1) zeroTb rfl hW2.out) rfl ⟨rfl, HB3.out⟩

set_option maxHeartbeats 2000000 in
theorem rnote_may (t : Tb) (c : Int) (s : Int) (x : Rp) (h1 : 0 ≤ c) (h2 : c < 4) (h3 : 1 ≤ s) (h4 : s ≤ 1099511627776) (hm : mayB t = false) (w : World) :
    Calls Try.prog 9 #[.agg t.cells.toArray, .int .i64 c, .int .i64 s, .agg x.cells.toArray] w fun e w' =>
      e = .returned (.tuple #[.agg zeroTb.cells.toArray, .int .i64 2]) ∧ Below w.heap.size w w' := by
  have hT : Whole (((w.alloc (.cells t.cells.toArray 28)).alloc (.cells x.cells.toArray 24)).alloc (.cells #[.int .i64 0, .int .i64 0, .bool false, .string { data := #[] }, .int .i64 0, .int .i64 0, .bool false, .string { data := #[] }, .int .i64 0, .int .i64 0, .bool false, .string { data := #[] }, .int .i64 0, .int .i64 0, .bool false, .string { data := #[] }] 28)) w.heap.size 28 t.cells := ((Whole.new w 28 t.cells).alloc (.cells x.cells.toArray 24)).alloc (.cells zeroTb.cells.toArray 28)
  have hR : Whole (((w.alloc (.cells t.cells.toArray 28)).alloc (.cells x.cells.toArray 24)).alloc (.cells #[.int .i64 0, .int .i64 0, .bool false, .string { data := #[] }, .int .i64 0, .int .i64 0, .bool false, .string { data := #[] }, .int .i64 0, .int .i64 0, .bool false, .string { data := #[] }, .int .i64 0, .int .i64 0, .bool false, .string { data := #[] }] 28)) (w.alloc (.cells t.cells.toArray 28)).heap.size 24 x.cells := (Whole.new (w.alloc (.cells t.cells.toArray 28)) 24 x.cells).alloc (.cells zeroTb.cells.toArray 28)
  have hZ : Whole (((w.alloc (.cells t.cells.toArray 28)).alloc (.cells x.cells.toArray 24)).alloc (.cells #[.int .i64 0, .int .i64 0, .bool false, .string { data := #[] }, .int .i64 0, .int .i64 0, .bool false, .string { data := #[] }, .int .i64 0, .int .i64 0, .bool false, .string { data := #[] }, .int .i64 0, .int .i64 0, .bool false, .string { data := #[] }] 28)) ((w.alloc (.cells t.cells.toArray 28)).alloc (.cells x.cells.toArray 24)).heap.size 28 zeroTb.cells := Whole.new ((w.alloc (.cells t.cells.toArray 28)).alloc (.cells x.cells.toArray 24)) 28 zeroTb.cells
  rw [World.size_alloc] at hR
  rw [World.size_alloc, World.size_alloc] at hZ
  have hB : Below w.heap.size w (((w.alloc (.cells t.cells.toArray 28)).alloc (.cells x.cells.toArray 24)).alloc (.cells #[.int .i64 0, .int .i64 0, .bool false, .string { data := #[] }, .int .i64 0, .int .i64 0, .bool false, .string { data := #[] }, .int .i64 0, .int .i64 0, .bool false, .string { data := #[] }, .int .i64 0, .int .i64 0, .bool false, .string { data := #[] }] 28)) :=
    (((Below.refl _ _).alloc (Nat.le_refl _) _).alloc (by simp) _).alloc (by simp; omega) _
  have HB := Lib.hid hB; clear hB
  have HT := Lib.hid hT; clear hT
  have HR := Lib.hid hR; clear hR
  have HZ := Lib.hid hZ; clear hZ
  have d1 : decide (c < 0) = false := decide_eq_false (by omega)
  have d2 : decide (3 < c) = false := decide_eq_false (by omega)
  have d3 : decide (s < 1) = false := decide_eq_false (by omega)
  have d4 : decide (1099511627776 < s) = false := decide_eq_false (by omega)
  have HM := @rmay_any t
  rw [hm] at HM
  have HM := Lib.hid HM
  clear hm
  go_enter Try.func9, Try.ntmps9
  go_wp2_with (with_reducible refine wpList_load_table rfl (.tmp 4) rfl w.heap.size rfl 28 t HT.out ?_)
  refine (HM.out _).mono ?_
  clear HM d1 d2 d3 d4
  rintro e1 w1 ⟨rfl, hb1⟩
  have hsz := hb1.size
  simp only [World.size_alloc] at hsz
  have HT := Lib.hid (HT.out.below hb1 (by simp; omega))
  have HR := Lib.hid (HR.out.below hb1 (by simp))
  have HZ := Lib.hid (HZ.out.below hb1 (by simp))
  have HB := Lib.hid (HB.out.trans (hb1.mono (by simp; omega)))
  clear hb1
  go_wp2_with (with_reducible refine wpList_store_table rfl (.tmp 8) (.tmp 36) rfl (w.heap.size + 1 + 1) zeroTb zeroTb rfl rfl HZ.out ?_)
  intro w2 hw2 hO
  have hW2 := Lib.hid hw2
  have HB3 := Lib.hid (Only.below HB.out hO (by omega) (by omega))
  clear hw2 hO
  go_wp2_with fail
  exact bodyPost_ret (results_table rfl _ _ (w.heap.size + 1 + 1) zeroTb rfl hW2.out) rfl ⟨rfl, HB3.out⟩

set_option maxHeartbeats 2000000 in
theorem rnote_bad (t : Tb) (c : Int) (s : Int) (x : Rp) (h1 : 0 ≤ c) (h2 : c < 4) (h3 : 1 ≤ s) (h4 : s ≤ 1099511627776) (hm : mayB t = true) (hx : badB x = true) (w : World) :
    Calls Try.prog 9 #[.agg t.cells.toArray, .int .i64 c, .int .i64 s, .agg x.cells.toArray] w fun e w' =>
      e = .returned (.tuple #[.agg zeroTb.cells.toArray, .int .i64 2]) ∧ Below w.heap.size w w' := by
  have hT : Whole (((w.alloc (.cells t.cells.toArray 28)).alloc (.cells x.cells.toArray 24)).alloc (.cells #[.int .i64 0, .int .i64 0, .bool false, .string { data := #[] }, .int .i64 0, .int .i64 0, .bool false, .string { data := #[] }, .int .i64 0, .int .i64 0, .bool false, .string { data := #[] }, .int .i64 0, .int .i64 0, .bool false, .string { data := #[] }] 28)) w.heap.size 28 t.cells := ((Whole.new w 28 t.cells).alloc (.cells x.cells.toArray 24)).alloc (.cells zeroTb.cells.toArray 28)
  have hR : Whole (((w.alloc (.cells t.cells.toArray 28)).alloc (.cells x.cells.toArray 24)).alloc (.cells #[.int .i64 0, .int .i64 0, .bool false, .string { data := #[] }, .int .i64 0, .int .i64 0, .bool false, .string { data := #[] }, .int .i64 0, .int .i64 0, .bool false, .string { data := #[] }, .int .i64 0, .int .i64 0, .bool false, .string { data := #[] }] 28)) (w.alloc (.cells t.cells.toArray 28)).heap.size 24 x.cells := (Whole.new (w.alloc (.cells t.cells.toArray 28)) 24 x.cells).alloc (.cells zeroTb.cells.toArray 28)
  have hZ : Whole (((w.alloc (.cells t.cells.toArray 28)).alloc (.cells x.cells.toArray 24)).alloc (.cells #[.int .i64 0, .int .i64 0, .bool false, .string { data := #[] }, .int .i64 0, .int .i64 0, .bool false, .string { data := #[] }, .int .i64 0, .int .i64 0, .bool false, .string { data := #[] }, .int .i64 0, .int .i64 0, .bool false, .string { data := #[] }] 28)) ((w.alloc (.cells t.cells.toArray 28)).alloc (.cells x.cells.toArray 24)).heap.size 28 zeroTb.cells := Whole.new ((w.alloc (.cells t.cells.toArray 28)).alloc (.cells x.cells.toArray 24)) 28 zeroTb.cells
  rw [World.size_alloc] at hR
  rw [World.size_alloc, World.size_alloc] at hZ
  have hB : Below w.heap.size w (((w.alloc (.cells t.cells.toArray 28)).alloc (.cells x.cells.toArray 24)).alloc (.cells #[.int .i64 0, .int .i64 0, .bool false, .string { data := #[] }, .int .i64 0, .int .i64 0, .bool false, .string { data := #[] }, .int .i64 0, .int .i64 0, .bool false, .string { data := #[] }, .int .i64 0, .int .i64 0, .bool false, .string { data := #[] }] 28)) :=
    (((Below.refl _ _).alloc (Nat.le_refl _) _).alloc (by simp) _).alloc (by simp; omega) _
  have HB := Lib.hid hB; clear hB
  have HT := Lib.hid hT; clear hT
  have HR := Lib.hid hR; clear hR
  have HZ := Lib.hid hZ; clear hZ
  have d1 : decide (c < 0) = false := decide_eq_false (by omega)
  have d2 : decide (3 < c) = false := decide_eq_false (by omega)
  have d3 : decide (s < 1) = false := decide_eq_false (by omega)
  have d4 : decide (1099511627776 < s) = false := decide_eq_false (by omega)
  have HX := @rreply_any x
  rw [hx] at HX
  have HX := Lib.hid HX
  clear hx
  have HM := @rmay_any t
  rw [hm] at HM
  have HM := Lib.hid HM
  clear hm
  go_enter Try.func9, Try.ntmps9
  go_wp2_with (with_reducible refine wpList_load_table rfl (.tmp 4) rfl w.heap.size rfl 28 t HT.out ?_)
  refine (HM.out _).mono ?_
  clear HM d1 d2 d3 d4
  rintro e1 w1 ⟨rfl, hb1⟩
  have hsz := hb1.size
  simp only [World.size_alloc] at hsz
  have HT := Lib.hid (HT.out.below hb1 (by simp; omega))
  have HR := Lib.hid (HR.out.below hb1 (by simp))
  have HZ := Lib.hid (HZ.out.below hb1 (by simp))
  have HB := Lib.hid (HB.out.trans (hb1.mono (by simp; omega)))
  clear hb1
  go_wp2_with (with_reducible refine wpList_load_reply rfl (.tmp 7) rfl (w.heap.size + 1) rfl 24 x HR.out ?_)
  refine (HX.out _).mono ?_
  clear HX
  rintro e2 w2 ⟨rfl, hb1⟩
  have hsz2 := hb1.size
  have HT := Lib.hid (HT.out.below hb1 (by omega))
  have HR := Lib.hid (HR.out.below hb1 (by omega))
  have HZ := Lib.hid (HZ.out.below hb1 (by omega))
  have HB := Lib.hid (HB.out.trans (hb1.mono (by omega)))
  clear hb1
  go_wp2_with (with_reducible refine wpList_store_table rfl (.tmp 8) (.tmp 36) rfl (w.heap.size + 1 + 1) zeroTb zeroTb rfl rfl HZ.out ?_)
  intro w3 hw3 hO
  have hW2 := Lib.hid hw3
  have HB3 := Lib.hid (Only.below HB.out hO (by omega) (by omega))
  clear hw3 hO
  go_wp2_with fail
  exact bodyPost_ret (results_table rfl _ _ (w.heap.size + 1 + 1) zeroTb rfl hW2.out) rfl ⟨rfl, HB3.out⟩

set_option maxHeartbeats 2000000 in
theorem rnote_old (t : Tb) (k : Nat) (s : Int) (x : Rp) (hk : k < 4) (h3 : 1 ≤ s) (h4 : s ≤ 1099511627776) (hm : mayB t = true) (hx : badB x = false) (hl : ¬ (t.at_ k).seq < s) (w : World) :
    Calls Try.prog 9 #[.agg t.cells.toArray, .int .i64 k, .int .i64 s, .agg x.cells.toArray] w fun e w' =>
      e = .returned (.tuple #[.agg zeroTb.cells.toArray, .int .i64 220]) ∧ Below w.heap.size w w' := by
  have hT : Whole (((w.alloc (.cells t.cells.toArray 28)).alloc (.cells x.cells.toArray 24)).alloc (.cells #[.int .i64 0, .int .i64 0, .bool false, .string { data := #[] }, .int .i64 0, .int .i64 0, .bool false, .string { data := #[] }, .int .i64 0, .int .i64 0, .bool false, .string { data := #[] }, .int .i64 0, .int .i64 0, .bool false, .string { data := #[] }] 28)) w.heap.size 28 t.cells := ((Whole.new w 28 t.cells).alloc (.cells x.cells.toArray 24)).alloc (.cells zeroTb.cells.toArray 28)
  have hR : Whole (((w.alloc (.cells t.cells.toArray 28)).alloc (.cells x.cells.toArray 24)).alloc (.cells #[.int .i64 0, .int .i64 0, .bool false, .string { data := #[] }, .int .i64 0, .int .i64 0, .bool false, .string { data := #[] }, .int .i64 0, .int .i64 0, .bool false, .string { data := #[] }, .int .i64 0, .int .i64 0, .bool false, .string { data := #[] }] 28)) (w.alloc (.cells t.cells.toArray 28)).heap.size 24 x.cells := (Whole.new (w.alloc (.cells t.cells.toArray 28)) 24 x.cells).alloc (.cells zeroTb.cells.toArray 28)
  have hZ : Whole (((w.alloc (.cells t.cells.toArray 28)).alloc (.cells x.cells.toArray 24)).alloc (.cells #[.int .i64 0, .int .i64 0, .bool false, .string { data := #[] }, .int .i64 0, .int .i64 0, .bool false, .string { data := #[] }, .int .i64 0, .int .i64 0, .bool false, .string { data := #[] }, .int .i64 0, .int .i64 0, .bool false, .string { data := #[] }] 28)) ((w.alloc (.cells t.cells.toArray 28)).alloc (.cells x.cells.toArray 24)).heap.size 28 zeroTb.cells := Whole.new ((w.alloc (.cells t.cells.toArray 28)).alloc (.cells x.cells.toArray 24)) 28 zeroTb.cells
  rw [World.size_alloc] at hR
  rw [World.size_alloc, World.size_alloc] at hZ
  have hB : Below w.heap.size w (((w.alloc (.cells t.cells.toArray 28)).alloc (.cells x.cells.toArray 24)).alloc (.cells #[.int .i64 0, .int .i64 0, .bool false, .string { data := #[] }, .int .i64 0, .int .i64 0, .bool false, .string { data := #[] }, .int .i64 0, .int .i64 0, .bool false, .string { data := #[] }, .int .i64 0, .int .i64 0, .bool false, .string { data := #[] }] 28)) :=
    (((Below.refl _ _).alloc (Nat.le_refl _) _).alloc (by simp) _).alloc (by simp; omega) _
  have HB := Lib.hid hB; clear hB
  have HT := Lib.hid hT; clear hT
  have HR := Lib.hid hR; clear hR
  have HZ := Lib.hid hZ; clear hZ
  have d1 : decide ((k : Int) < 0) = false := decide_eq_false (by omega)
  have d2 : decide (3 < (k : Int)) = false := decide_eq_false (by omega)
  have d3 : decide (s < 1) = false := decide_eq_false (by omega)
  have d4 : decide (1099511627776 < s) = false := decide_eq_false (by omega)
  have HX := @rreply_any x
  rw [hx] at HX
  have HX := Lib.hid HX
  clear hx
  have HM := @rmay_any t
  rw [hm] at HM
  have HM := Lib.hid HM
  clear hm
  go_enter Try.func9, Try.ntmps9
  go_wp2_with (with_reducible refine wpList_load_table rfl (.tmp 4) rfl w.heap.size rfl 28 t HT.out ?_)
  refine (HM.out _).mono ?_
  clear HM d1 d2 d3 d4
  rintro e1 w1 ⟨rfl, hb1⟩
  have hsz := hb1.size
  simp only [World.size_alloc] at hsz
  have HT := Lib.hid (HT.out.below hb1 (by simp; omega))
  have HR := Lib.hid (HR.out.below hb1 (by simp))
  have HZ := Lib.hid (HZ.out.below hb1 (by simp))
  have HB := Lib.hid (HB.out.trans (hb1.mono (by simp; omega)))
  clear hb1
  go_wp2_with (with_reducible refine wpList_load_reply rfl (.tmp 7) rfl (w.heap.size + 1) rfl 24 x HR.out ?_)
  refine (HX.out _).mono ?_
  clear HX
  rintro e2 w2 ⟨rfl, hb1⟩
  have hsz2 := hb1.size
  have HT := Lib.hid (HT.out.below hb1 (by omega))
  have HR := Lib.hid (HR.out.below hb1 (by omega))
  have HZ := Lib.hid (HZ.out.below hb1 (by omega))
  have HB := Lib.hid (HB.out.trans (hb1.mono (by omega)))
  clear hb1
  have hcell := fun j x hj => t.cell_at k _ (t.rows_at k hk) j x hj
  have c0 := (HT.out.cell _).trans (hcell 0 _ rfl)
  simp only [Nat.zero_add, Nat.add_zero] at c0
  clear hcell
  have dl : decide (s ≤ (t.at_ k).seq) = true := decide_eq_true (by omega)
  go_wp2_with (with_reducible refine wpList_store_table rfl (.tmp 8) (.tmp 43) rfl (w.heap.size + 1 + 1) zeroTb zeroTb rfl rfl HZ.out ?_)
  intro w3 hw3 hO
  have hW2 := Lib.hid hw3
  have HB3 := Lib.hid (Only.below HB.out hO (by omega) (by omega))
  clear hw3 hO
  go_wp2_with fail
  exact bodyPost_ret (results_table rfl _ _ (w.heap.size + 1 + 1) zeroTb rfl hW2.out) rfl ⟨rfl, HB3.out⟩


/-- A load of a whole reply, cell by cell told. -/
theorem wpList_load_reply3 {ops : Array Oper} {rest : List Oper} {o : Oper} {a : Act} {w : World} {Q : Exit → Act → World → Prop} (hgd : o.guard = none) (x : Operand) (ho : o.op = .load 24 x)
    (g : Nat) (hx : a.eval x = .pointer (some ⟨g, 0, none⟩)) (tb : Rp) (h : Whole w g 24 tb.cells)
    (hk : wpList Try.prog ops Q rest (a.put o.dst (.agg #[.int .i64 tb.err, .bool tb.found, .string tb.val])) w) : wpList Try.prog ops Q (o :: rest) a w :=
  wpList_load_part hgd 24 x ho g 0 24 tb.cells tb.cells _ hx h (fun i v hv => (congrArg (tb.cells[·]?) (Nat.zero_add i)).trans hv) Try.underlying24 rfl info_reply hk
theorem info_row : (Try.prog.info? 26).map (·.size) = some 4 := by kernel_rfl
/-- A store of a row into a table that is known whole. -/
theorem wpList_store_row4 {ops : Array Oper} {rest : List Oper} {o : Oper} {a : Act} {w : World} {Q : Exit → Act → World → Prop} (hgd : o.guard = none) (x y : Operand) (ho : o.op = .store 26 x y)
    (g j : Nat) (hj : j < 4) (tb : Tb) (r : Rw) (hx : a.eval x = .pointer (some ⟨g, j * 4, none⟩)) (hy : a.eval y = .agg r.cells.toArray) (h : Whole w g 28 tb.cells)
    (hk : ∀ w', Whole w' g 28 (tb.put j r).cells → Only g w w' → wpList Try.prog ops Q rest (a.put o.dst undef) w') : wpList Try.prog ops Q (o :: rest) a w :=
  wpList_store_part hgd 26 x y ho g (j * 4) 28 tb.cells r.cells hx hy h (by show j * 4 + 4 ≤ 16; omega) info_row (by simp [Rw.cells, Value.oneCell'])
    (fun w' hw hO => hk w' (by have e : midSets tb.cells (j * 4) r.cells = (tb.put j r).cells := put_cells tb j hj r
                               rw [← e]; exact hw) hO)
theorem wpList_load_row4 {ops : Array Oper} {rest : List Oper} {o : Oper} {a : Act} {w : World} {Q : Exit → Act → World → Prop} (hgd : o.guard = none) (x : Operand) (ho : o.op = .load 26 x)
    (g j : Nat) (hj : j < 4) (tb : Tb) (hx : a.eval x = .pointer (some ⟨g, j * 4, none⟩)) (h : Whole w g 28 tb.cells)
    (hk : wpList Try.prog ops Q rest (a.put o.dst (.agg (tb.at_ j).cells.toArray)) w) : wpList Try.prog ops Q (o :: rest) a w :=
  wpList_load_part hgd 26 x ho g (j * 4) 28 tb.cells (tb.at_ j).cells _ hx h (fun i v hv => (congrArg (tb.cells[·]?) (by omega)).trans (tb.cell_at j _ (tb.rows_at j hj) i v hv)) Try.underlying26 rfl info_row hk
/-- The table so far: the first j rows noted. -/
def part (t : Tb) (k : Int) (r : Rw) (j : Nat) : Tb :=
  ⟨if 0 < j then (t.put k r).r0 else zeroRw, if 1 < j then (t.put k r).r1 else zeroRw, if 2 < j then (t.put k r).r2 else zeroRw, if 3 < j then (t.put k r).r3 else zeroRw⟩
theorem part_same (t : Tb) (k : Nat) (hk : k < 4) (r : Rw) : (((part t k r k).put k (t.at_ k)).put k r) = part t k r (k + 1) := by
  have h : k = 0 ∨ k = 1 ∨ k = 2 ∨ k = 3 := by omega
  rcases h with rfl | rfl | rfl | rfl <;> rfl
theorem part_other (t : Tb) (k : Nat) (hk : k < 4) (r : Rw) (j : Nat) (hj : j < 4) (hne : j ≠ k) : (part t k r j).put j (t.at_ j) = part t k r (j + 1) := by
  have h : k = 0 ∨ k = 1 ∨ k = 2 ∨ k = 3 := by omega
  have h' : j = 0 ∨ j = 1 ∨ j = 2 ∨ j = 3 := by omega
  rcases h with rfl | rfl | rfl | rfl <;> rcases h' with rfl | rfl | rfl | rfl <;> first | rfl | exact absurd rfl hne
theorem part_all (t : Tb) (k : Nat) (hk : k < 4) (r : Rw) : part t k r 4 = t.put k r := by
  have h : k = 0 ∨ k = 1 ∨ k = 2 ∨ k = 3 := by omega
  rcases h with rfl | rfl | rfl | rfl <;> rfl

set_option maxHeartbeats 2000000 in
theorem rnote_ok (t : Tb) (k : Nat) (s : Int) (x : Rp) (hk : k < 4) (h3 : 1 ≤ s) (h4 : s ≤ 1099511627776) (hm : mayB t = true) (hx : badB x = false) (hl : (t.at_ k).seq < s) (w : World) :
    Calls Try.prog 9 #[.agg t.cells.toArray, .int .i64 k, .int .i64 s, .agg x.cells.toArray] w fun e w' =>
      e = .returned (.tuple #[.agg (t.put k ⟨s, x⟩).cells.toArray, .int .i64 0]) ∧ Below w.heap.size w w' := by
  have hT : Whole (((w.alloc (.cells t.cells.toArray 28)).alloc (.cells x.cells.toArray 24)).alloc (.cells #[.int .i64 0, .int .i64 0, .bool false, .string { data := #[] }, .int .i64 0, .int .i64 0, .bool false, .string { data := #[] }, .int .i64 0, .int .i64 0, .bool false, .string { data := #[] }, .int .i64 0, .int .i64 0, .bool false, .string { data := #[] }] 28)) w.heap.size 28 t.cells := ((Whole.new w 28 t.cells).alloc (.cells x.cells.toArray 24)).alloc (.cells zeroTb.cells.toArray 28)
  have hR : Whole (((w.alloc (.cells t.cells.toArray 28)).alloc (.cells x.cells.toArray 24)).alloc (.cells #[.int .i64 0, .int .i64 0, .bool false, .string { data := #[] }, .int .i64 0, .int .i64 0, .bool false, .string { data := #[] }, .int .i64 0, .int .i64 0, .bool false, .string { data := #[] }, .int .i64 0, .int .i64 0, .bool false, .string { data := #[] }] 28)) (w.alloc (.cells t.cells.toArray 28)).heap.size 24 x.cells := (Whole.new (w.alloc (.cells t.cells.toArray 28)) 24 x.cells).alloc (.cells zeroTb.cells.toArray 28)
  have hZ : Whole (((w.alloc (.cells t.cells.toArray 28)).alloc (.cells x.cells.toArray 24)).alloc (.cells #[.int .i64 0, .int .i64 0, .bool false, .string { data := #[] }, .int .i64 0, .int .i64 0, .bool false, .string { data := #[] }, .int .i64 0, .int .i64 0, .bool false, .string { data := #[] }, .int .i64 0, .int .i64 0, .bool false, .string { data := #[] }] 28)) ((w.alloc (.cells t.cells.toArray 28)).alloc (.cells x.cells.toArray 24)).heap.size 28 zeroTb.cells := Whole.new ((w.alloc (.cells t.cells.toArray 28)).alloc (.cells x.cells.toArray 24)) 28 zeroTb.cells
  rw [World.size_alloc] at hR
  rw [World.size_alloc, World.size_alloc] at hZ
  have hB : Below w.heap.size w (((w.alloc (.cells t.cells.toArray 28)).alloc (.cells x.cells.toArray 24)).alloc (.cells #[.int .i64 0, .int .i64 0, .bool false, .string { data := #[] }, .int .i64 0, .int .i64 0, .bool false, .string { data := #[] }, .int .i64 0, .int .i64 0, .bool false, .string { data := #[] }, .int .i64 0, .int .i64 0, .bool false, .string { data := #[] }] 28)) :=
    (((Below.refl _ _).alloc (Nat.le_refl _) _).alloc (by simp) _).alloc (by simp; omega) _
  have HB := Lib.hid hB; clear hB
  have HT := Lib.hid hT; clear hT
  have HR := Lib.hid hR; clear hR
  have HZ := Lib.hid hZ; clear hZ
  have d1 : decide ((k : Int) < 0) = false := decide_eq_false (by omega)
  have d2 : decide (3 < (k : Int)) = false := decide_eq_false (by omega)
  have d3 : decide (s < 1) = false := decide_eq_false (by omega)
  have d4 : decide (1099511627776 < s) = false := decide_eq_false (by omega)
  have HX := @rreply_any x
  rw [hx] at HX
  have HX := Lib.hid HX
  clear hx
  have HM := @rmay_any t
  rw [hm] at HM
  have HM := Lib.hid HM
  clear hm
  go_enter Try.func9, Try.ntmps9
  go_wp2_with (with_reducible refine wpList_load_table rfl (.tmp 4) rfl w.heap.size rfl 28 t HT.out ?_)
  refine (HM.out _).mono ?_
  clear HM d1 d2 d3 d4
  rintro e1 w1 ⟨rfl, hb1⟩
  have hsz := hb1.size
  simp only [World.size_alloc] at hsz
  have HT := Lib.hid (HT.out.below hb1 (by simp; omega))
  have HR := Lib.hid (HR.out.below hb1 (by simp))
  have HZ := Lib.hid (HZ.out.below hb1 (by simp))
  have HB := Lib.hid (HB.out.trans (hb1.mono (by simp; omega)))
  clear hb1
  go_wp2_with (with_reducible refine wpList_load_reply rfl (.tmp 7) rfl (w.heap.size + 1) rfl 24 x HR.out ?_)
  refine (HX.out _).mono ?_
  clear HX
  rintro e2 w2 ⟨rfl, hb1⟩
  have hsz2 := hb1.size
  have HT := Lib.hid (HT.out.below hb1 (by omega))
  have HR := Lib.hid (HR.out.below hb1 (by omega))
  have HZ := Lib.hid (HZ.out.below hb1 (by omega))
  have HB := Lib.hid (HB.out.trans (hb1.mono (by omega)))
  clear hb1
  have hcell := fun j x hj => t.cell_at k _ (t.rows_at k hk) j x hj
  have c0 := (HT.out.cell _).trans (hcell 0 _ rfl)
  simp only [Nat.zero_add, Nat.add_zero] at c0
  clear hcell
  have dl : decide (s ≤ (t.at_ k).seq) = false := decide_eq_false (by omega)
  have hO := Whole.new w2 28 zeroTb.cells
  have HO := Lib.hid hO; clear hO
  have Hp0 : Hid (part t k ⟨s, x⟩ 0 = zeroTb) := rfl
  have T1 := Lib.hid (HT.out.alloc (.cells zeroTb.cells.toArray 28))
  have R1 := Lib.hid (HR.out.alloc (.cells zeroTb.cells.toArray 28))
  have Z1 := Lib.hid (HZ.out.alloc (.cells zeroTb.cells.toArray 28))
  have B1 := Lib.hid (HB.out.alloc (by omega) (.cells zeroTb.cells.toArray 28))
  clear HR HZ HB
  go_wp2_with fail
  clear dl c0
  generalize hwa : w2.alloc (Obj.cells #[.int .i64 0, .int .i64 0, .bool false, .string { data := #[] }, .int .i64 0, .int .i64 0, .bool false, .string { data := #[] }, .int .i64 0, .int .i64 0, .bool false, .string { data := #[] }, .int .i64 0, .int .i64 0, .bool false, .string { data := #[] }] 28) = wa
  have hwa' : w2.alloc (.cells zeroTb.cells.toArray 28) = wa := hwa
  rw [hwa'] at T1 R1 Z1 B1 HO
  have hsa : w2.heap.size + 1 = wa.heap.size := by rw [← hwa']; simp
  have h1g : w.heap.size + 3 ≤ w2.heap.size := by omega
  clear hwa hwa' hsz hsz2 HT
  generalize w2.heap.size = g at *
  rw [← Hp0.out] at HO
  go_loopw [11] (fun i wr => ∃ j : Nat, j ≤ 4 ∧ i = .int .i64 j ∧ Whole wr g 28 (part t k ⟨s, x⟩ j).cells ∧ Below g wa wr) (fun i _ => 4 - (intOf i).toNat)
  case atStart => exact ⟨0, by omega, rfl, HO.out, Below.refl _ _⟩
  case round =>
    obtain ⟨j, hj, rfl, hOr, hbr⟩ := hrel
    have HT := Lib.hid (T1.out.below hbr (by omega))
    have HR := Lib.hid (R1.out.below hbr (by omega))
    have HZ := Lib.hid (Z1.out.below hbr (by omega))
    have HB := Lib.hid (B1.out.trans (hbr.mono (by omega)))
    have HO := Lib.hid hOr
    have HBR := Lib.hid hbr
    clear hOr hbr T1 R1 Z1 B1
    by_cases hlt : j < 4
    · by_cases hjk : j = k
      · subst hjk
        have HP := Lib.hid (part_same t j hlt ⟨s, x⟩)
        go_wp2_with (first | (with_reducible refine wpList_load_row4 rfl (.tmp 50) rfl w.heap.size j hlt t rfl HT.out ?_) | (with_reducible refine wpList_store_row4 rfl (.tmp 52) (.tmp 51) rfl g j hlt _ (t.at_ j) rfl rfl HO.out ?_))
        intro w3 hw3 hO3
        have hss := HBR.out.size
        have HO3 := Lib.hid hw3
        have HR3 := Lib.hid (hO3.whole HR.out (by omega))
        have HBR3 := Lib.hid (Only.below HBR.out hO3 (by omega) (Nat.le_refl _))
        clear hw3 hO3 HO HR HBR HT HZ HB
        go_wp2_with (first | (with_reducible refine wpList_load_reply3 rfl (.tmp 7) rfl (w.heap.size + 1) rfl x HR3.out ?_) | (with_reducible refine wpList_store_row4 rfl (.tmp 60) (.tmp 59) rfl g j hlt _ ⟨s, x⟩ rfl rfl HO3.out ?_))
        intro w4 hw4 hO4
        rw [HP.out] at hw4
        have HO4 := Lib.hid hw4
        have hss3 := HBR3.out.size
        have HBR4 := Lib.hid (Only.below HBR3.out hO4 (by omega) (Nat.le_refl _))
        clear hw4 hO4 HO3 HBR3 HP
        go_wp2_with fail
        exact ⟨⟨j + 1, by omega, by go_num, HO4.out, HBR4.out⟩, by simp [intOf]; omega⟩
      · have hjk' : ((j : Int) == (k : Int)) = false := by simp; omega
        have HP := Lib.hid (part_other t k hk ⟨s, x⟩ j hlt hjk)
        clear hjk
        go_wp2_with (first | (with_reducible refine wpList_load_row4 rfl (.tmp 50) rfl w.heap.size j hlt t rfl HT.out ?_) | (with_reducible refine wpList_store_row4 rfl (.tmp 52) (.tmp 51) rfl g j hlt _ (t.at_ j) rfl rfl HO.out ?_))
        intro w3 hw3 hO3
        rw [HP.out] at hw3
        have HO3 := Lib.hid hw3
        have hss := HBR.out.size
        have HBR3 := Lib.hid (Only.below HBR.out hO3 (by omega) (Nat.le_refl _))
        clear hw3 hO3 HO HR HBR HT HZ HB HP
        go_wp2_with fail
        exact ⟨⟨j + 1, by omega, by go_num, HO3.out, HBR3.out⟩, by simp [intOf]; omega⟩
    · have e : j = 4 := by omega
      subst e
      rw [part_all t k hk] at HO
      go_wp2_with (first | (with_reducible refine wpList_load_table rfl (.tmp 10) rfl g rfl 28 (t.put k ⟨s, x⟩) HO.out ?_) | (with_reducible refine wpList_store_table rfl (.tmp 8) (.tmp 61) rfl (w.heap.size + 1 + 1) (t.put k ⟨s, x⟩) zeroTb rfl rfl HZ.out ?_))
      intro w3 hw2 hO
      have hW2 := Lib.hid hw2
      have hss := HBR.out.size
      have HB3 := Lib.hid (Only.below HB.out hO (by omega) (by omega))
      clear hw2 hO
      go_wp2_with fail
      exact bodyPost_ret (results_table rfl _ _ (w.heap.size + 1 + 1) (t.put k ⟨s, x⟩) rfl hW2.out) rfl ⟨rfl, HB3.out⟩


/-- What the document's Note returns, of whatever. -/
theorem rnote_any (t : Tb) (c s : Int) (x : Rp) (w : World) :
    Calls Try.prog 9 #[.agg t.cells.toArray, .int .i64 c, .int .i64 s, .agg x.cells.toArray] w fun e w' =>
      e = .returned (.tuple #[.agg (note t c s x).1.cells.toArray, .int .i64 (note t c s x).2]) ∧ Below w.heap.size w w' := by
  by_cases hbad : c < 0 ∨ 4 ≤ c ∨ s < 1 ∨ 1099511627776 < s
  · have h2 : note t c s x = (zeroTb, 2) := by
      have ha : argB t c s = true := by
        unfold argB
        rcases hbad with h | h | h | h
        all_goals simp [h]
      unfold note; rw [ha]; rfl
    rw [h2]
    exact rnote_arg t c s x hbad w
  · have h1 : 0 ≤ c := by omega
    have h2 : c < 4 := by omega
    have h3 : 1 ≤ s := by omega
    have h4 : s ≤ 1099511627776 := by omega
    have ha : argB t c s = !(mayB t) := by
      unfold argB
      rw [decide_eq_false (by omega : ¬ c < 0), decide_eq_false (by omega : ¬ 4 ≤ c), decide_eq_false (by omega : ¬ s < 1), decide_eq_false (by omega : ¬ 1099511627776 < s)]
      rfl
    cases hm : mayB t with
    | false =>
      have h5 : note t c s x = (zeroTb, 2) := by unfold note; rw [ha, hm]; rfl
      rw [h5]
      exact rnote_may t c s x h1 h2 h3 h4 hm w
    | true =>
      cases hx : badB x with
      | true =>
        have h5 : note t c s x = (zeroTb, 2) := by unfold note; rw [ha, hm, hx]; rfl
        rw [h5]
        exact rnote_bad t c s x h1 h2 h3 h4 hm hx w
      | false =>
        obtain ⟨k, rfl⟩ := Int.eq_ofNat_of_zero_le h1
        by_cases hl : (t.at_ k).seq < s
        · have h5 : note t k s x = (t.put k ⟨s, x⟩, 0) := by unfold note; rw [ha, hm, hx, if_pos hl]; rfl
          rw [h5]
          exact rnote_ok t k s x (by omega) h3 h4 hm hx hl w
        · have h5 : note t k s x = (zeroTb, 220) := by unfold note; rw [ha, hm, hx, if_neg hl]; rfl
          rw [h5]
          exact rnote_old t k s x (by omega) h3 h4 hm hx hl w

end Se
end Go.Proofs.Ythnolfgbpifcaaa
