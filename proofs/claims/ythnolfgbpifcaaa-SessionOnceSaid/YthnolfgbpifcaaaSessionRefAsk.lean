/- What the document's Ask returns (package sextonref22). -/
import Derived.Test.YthnolfgbpifcaaaSessionRef
import Derived.RegionTactic
import Derived.BigRegion
namespace Go.Proofs.Ythnolfgbpifcaaa
open Go.RowKit

namespace Se

set_option maxHeartbeats 1000000 in
theorem rask_good (t : Tb) (hm : mayB t = true) (k : Nat) (hk : k < 4) (s : Int) (h3 : 1 ≤ s) (h4 : s ≤ 1099511627776) (w : World) :
    Calls Try.prog 7 #[.agg t.cells.toArray, .int .i64 k, .int .i64 s] w fun e w' =>
      e = .returned (.tuple #[.bool (ask t k s).1, .agg (ask t k s).2.1.cells.toArray, .int .i64 (ask t k s).2.2]) ∧ Below w.heap.size w w' := by
  have hask : ask t k s = if (t.at_ k).seq < s then (true, zeroRp, 0) else if s < (t.at_ k).seq then (false, zeroRp, 220) else (false, (t.at_ k).rep, 0) := by
    have : argB t k s = false := by
      unfold argB
      rw [decide_eq_false (by omega : ¬ (k : Int) < 0), decide_eq_false (by omega : ¬ 4 ≤ (k : Int)), decide_eq_false (by omega : ¬ s < 1), decide_eq_false (by omega : ¬ 1099511627776 < s), hm]
      rfl
    unfold ask
    rw [this]; rfl
  have HM := @rmay_any t
  rw [hm] at HM
  have HM := Lib.hid HM
  have hw := Lib.hid ((Whole.new w 28 t.cells).alloc (.cells #[.int .i64 0, .bool false, .string { data := #[] }] 24))
  have hz := Whole.new (w.alloc (.cells t.cells.toArray 28)) 24 [.int .i64 0, .bool false, .string { data := #[] }]
  rw [World.size_alloc] at hz
  have hz := Lib.hid hz
  have hcell := Lib.hid (fun j x hj => t.cell_at k _ (t.rows_at k hk) j x hj)
  have d1 : decide ((k : Int) < 0) = false := decide_eq_false (by omega)
  have d2 : decide (3 < (k : Int)) = false := decide_eq_false (by omega)
  have d3 : decide (s < 1) = false := decide_eq_false (by omega)
  have d4 : decide (1099511627776 < s) = false := decide_eq_false (by omega)
  clear hm
  generalize t.at_ k = r at *
  go_enter Try.func7, Try.ntmps7
  go_wp2_with (with_reducible refine wpList_load_table rfl (.tmp 3) rfl w.heap.size rfl 28 t hw.out ?_)
  refine (HM.out _).mono ?_
  rintro e1 w1 ⟨rfl, hb1⟩
  have hsz := hb1.size
  simp only [World.size_alloc] at hsz
  have hw1 := hw.out.below hb1 (by simp; omega)
  have hz1 := hz.out.below hb1 (by simp)
  have hbb : Below w.heap.size w w1 := (((Below.refl _ _).alloc (Nat.le_refl _) _).alloc (by simp) _).trans (hb1.mono (by simp; omega))
  clear hb1 hw hz HM d1 d2 d3 d4
  have c0 := (hw1.cell _).trans (hcell.out 0 _ rfl)
  have c1 := (hw1.cell _).trans (hcell.out 1 _ rfl)
  have c2 := (hw1.cell _).trans (hcell.out 2 _ rfl)
  have c3 := (hw1.cell _).trans (hcell.out 3 _ rfl)
  simp only [Nat.zero_add, Nat.add_zero] at c0 c1 c2 c3
  have z0 := hz1.cell 0
  have z1 := hz1.cell 1
  have z2 := hz1.cell 2
  simp only [List.getElem?_cons_zero, List.getElem?_cons_succ] at z0 z1 z2
  have f0 := hz1.free 0
  have f1 := hz1.free 1
  have f2 := hz1.free 2
  have HASK := Lib.hid hask; clear hask
  clear hw1 hz1 hcell
  by_cases hlt : r.seq < s
  · go_wp2_with fail
    refine bodyPost_ret (v := .tuple #[.bool true, .agg zeroRp.cells.toArray, .int .i64 0]) (by simp [results, Try.results7, go_sem, z0, z1, z2, f0, f1, f2]; rfl) rfl ⟨?_, ?_⟩
    · rw [HASK.out, if_pos hlt]
    · exact (((hbb).setCell (p := ⟨w.heap.size + 1, 0, none⟩) (by simp) _).setCell (p := ⟨w.heap.size + 1, 1, none⟩) (by simp) _).setCell (p := ⟨w.heap.size + 1, 2, none⟩) (by simp) _
  by_cases hgt : s < r.seq
  · have hne : (s == r.seq) = false := by simp; omega
    go_wp2_with fail
    refine bodyPost_ret (v := .tuple #[.bool false, .agg zeroRp.cells.toArray, .int .i64 220]) (by simp [results, Try.results7, go_sem, z0, z1, z2, f0, f1, f2]; rfl) rfl ⟨?_, ?_⟩
    · rw [HASK.out, if_neg (by omega), if_pos hgt]
    · exact (((hbb).setCell (p := ⟨w.heap.size + 1, 0, none⟩) (by simp) _).setCell (p := ⟨w.heap.size + 1, 1, none⟩) (by simp) _).setCell (p := ⟨w.heap.size + 1, 2, none⟩) (by simp) _
  · have hne : (s == r.seq) = true := by simp; omega
    go_wp2_with fail
    go_region
    all_goals go_wp2
    all_goals refine bodyPost_ret (v := .tuple #[.bool false, .agg r.rep.cells.toArray, .int .i64 0]) (by simp [results, Try.results7, go_sem, z0, z1, z2, f0, f1, f2]; rfl) rfl ⟨?_, ?_⟩
    · rw [HASK.out, if_neg (by omega), if_neg (by omega)]
    · exact ((((hbb).setCell (p := ⟨w.heap.size + 1, 0, none⟩) (by simp) _).setCell (p := ⟨w.heap.size + 1, 1, none⟩) (by simp) _).setCell (p := ⟨w.heap.size + 1, 2, none⟩) (by simp) _).drew

set_option maxHeartbeats 1000000 in
theorem rask_bad (t : Tb) (c s : Int) (hbad : argB t c s = true) (w : World) :
    Calls Try.prog 7 #[.agg t.cells.toArray, .int .i64 c, .int .i64 s] w fun e w' =>
      e = .returned (.tuple #[.bool false, .agg zeroRp.cells.toArray, .int .i64 2]) ∧ Below w.heap.size w w' := by
  have hb2 : Below w.heap.size w ((w.alloc (.cells t.cells.toArray 28)).alloc (.cells #[.int .i64 0, .bool false, .string { data := #[] }] 24)) := ((Below.refl _ _).alloc (Nat.le_refl _) _).alloc (by simp) _
  unfold argB at hbad
  have hz := Whole.new (w.alloc (.cells t.cells.toArray 28)) 24 [.int .i64 0, .bool false, .string { data := #[] }]
  rw [World.size_alloc] at hz
  by_cases h1 : c < 0
  · have d1 : decide (c < 0) = true := decide_eq_true h1
    clear hbad hz
    go_enter Try.func7, Try.ntmps7
    go_wp2_with fail
    refine bodyPost_ret (v := .tuple #[.bool false, .agg zeroRp.cells.toArray, .int .i64 2]) (by simp [results, Try.results7, go_sem]; rfl) rfl ⟨rfl, ?_⟩
    exact hb2
  by_cases h2 : 4 ≤ c
  · have d2 : decide (3 < c) = true := decide_eq_true (by omega)
    clear hbad hz
    go_enter Try.func7, Try.ntmps7
    go_wp2_with fail
    refine bodyPost_ret (v := .tuple #[.bool false, .agg zeroRp.cells.toArray, .int .i64 2]) (by simp [results, Try.results7, go_sem]; rfl) rfl ⟨rfl, ?_⟩
    exact hb2
  by_cases h3 : s < 1
  · have d1 : decide (c < 0) = false := decide_eq_false (by omega)
    have d2 : decide (3 < c) = false := decide_eq_false (by omega)
    have d3 : decide (s < 1) = true := decide_eq_true h3
    clear hbad hz
    go_enter Try.func7, Try.ntmps7
    go_wp2_with fail
    refine bodyPost_ret (v := .tuple #[.bool false, .agg zeroRp.cells.toArray, .int .i64 2]) (by simp [results, Try.results7, go_sem]; rfl) rfl ⟨rfl, ?_⟩
    exact hb2
  by_cases h4 : 1099511627776 < s
  · have d1 : decide (c < 0) = false := decide_eq_false (by omega)
    have d2 : decide (3 < c) = false := decide_eq_false (by omega)
    have d3 : decide (s < 1) = false := decide_eq_false (by omega)
    have d4 : decide (1099511627776 < s) = true := decide_eq_true h4
    clear hbad hz
    go_enter Try.func7, Try.ntmps7
    go_wp2_with fail
    refine bodyPost_ret (v := .tuple #[.bool false, .agg zeroRp.cells.toArray, .int .i64 2]) (by simp [results, Try.results7, go_sem]; rfl) rfl ⟨rfl, ?_⟩
    exact hb2
  · have d1 : decide (c < 0) = false := decide_eq_false (by omega)
    have d2 : decide (3 < c) = false := decide_eq_false (by omega)
    have d3 : decide (s < 1) = false := decide_eq_false (by omega)
    have d4 : decide (1099511627776 < s) = false := decide_eq_false (by omega)
    rw [d1, decide_eq_false h2, d3, d4] at hbad
    have hm : mayB t = false := by simpa using hbad
    clear hbad
    have HM := @rmay_any t
    rw [hm] at HM
    have HM := Lib.hid HM
    have hw := Lib.hid ((Whole.new w 28 t.cells).alloc (.cells #[.int .i64 0, .bool false, .string { data := #[] }] 24))
    have hz := Lib.hid hz
    clear hm
    go_enter Try.func7, Try.ntmps7
    go_wp2_with (with_reducible refine wpList_load_table rfl (.tmp 3) rfl w.heap.size rfl 28 t hw.out ?_)
    refine (HM.out _).mono ?_
    rintro e1 w1 ⟨rfl, hb1⟩
    have hsz := hb1.size
    simp only [World.size_alloc] at hsz
    have hz1 := hz.out.below hb1 (by simp)
    have hbb : Below w.heap.size w w1 := hb2.trans (hb1.mono (by simp; omega))
    clear hb1 hb2 hw hz HM d1 d2 d3 d4
    have z0 := hz1.cell 0
    have z1 := hz1.cell 1
    have z2 := hz1.cell 2
    simp only [List.getElem?_cons_zero, List.getElem?_cons_succ] at z0 z1 z2
    have f0 := hz1.free 0
    have f1 := hz1.free 1
    have f2 := hz1.free 2
    clear hz1
    go_wp2_with fail
    refine bodyPost_ret (v := .tuple #[.bool false, .agg zeroRp.cells.toArray, .int .i64 2]) (by simp [results, Try.results7, go_sem, z0, z1, z2]; rfl) rfl ⟨rfl, ?_⟩
    exact ((hbb.setCell (p := ⟨w.heap.size + 1, 0, none⟩) (by simp) _).setCell (p := ⟨w.heap.size + 1, 1, none⟩) (by simp) _).setCell (p := ⟨w.heap.size + 1, 2, none⟩) (by simp) _

theorem rask_any (t : Tb) (c s : Int) (w : World) :
    Calls Try.prog 7 #[.agg t.cells.toArray, .int .i64 c, .int .i64 s] w fun e w' =>
      e = .returned (.tuple #[.bool (ask t c s).1, .agg (ask t c s).2.1.cells.toArray, .int .i64 (ask t c s).2.2]) ∧ Below w.heap.size w w' := by
  cases h : argB t c s
  · unfold argB at h
    simp only [Bool.or_eq_false_iff, decide_eq_false_iff_not, Bool.not_eq_false'] at h
    obtain ⟨⟨⟨⟨h1, h2⟩, h3⟩, h4⟩, h5⟩ := h
    obtain ⟨k, rfl⟩ := Int.eq_ofNat_of_zero_le (show 0 ≤ c by omega)
    exact rask_good t h5 k (by omega) s (by omega) (by omega) w
  · have : ask t c s = (false, zeroRp, 2) := by unfold ask; rw [if_pos h]
    rw [this]
    exact rask_bad t c s h w

end Se
end Go.Proofs.Ythnolfgbpifcaaa
