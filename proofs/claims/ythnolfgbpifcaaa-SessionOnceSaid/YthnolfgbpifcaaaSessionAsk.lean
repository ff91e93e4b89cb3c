/- What Ask returns. -/
import Derived.Test.YthnolfgbpifcaaaSessionWalks
import Derived.RegionTactic
import Derived.BigRegion
namespace Go.Proofs.Ythnolfgbpifcaaa
open Go.RowKit

namespace Se

/-- A number of a client, or of a request, that may not be; or a table that may not. -/
def argB (t : Tb) (c s : Int) : Bool := decide (c < 0) || decide (4 ≤ c) || decide (s < 1) || decide (1099511627776 < s) || !(mayB t)
def Tb.at_ (t : Tb) (c : Int) : Rw := if c = 0 then t.r0 else if c = 1 then t.r1 else if c = 2 then t.r2 else t.r3
/-- How a request stands: fresh, the reply, the error. -/
def ask (t : Tb) (c s : Int) : Bool × Rp × Int :=
  if argB t c s then (false, zeroRp, 2)
  else if (t.at_ c).seq < s then (true, zeroRp, 0)
  else if s < (t.at_ c).seq then (false, zeroRp, 220)
  else (false, (t.at_ c).rep, 0)

theorem tcells_size (t : Tb) : t.cells.toArray.size = 16 := rfl
theorem info_table : (Try.prog.info? 28).map (·.size) = some 16 := by kernel_rfl
/-- A load of a whole table, at a guard that says yes. -/
theorem wpList_load_table {ops : Array Oper} {rest : List Oper} {o : Oper} {a : Act} {w : World} {Q : Exit → Act → World → Prop} (hw : Region.wanted o (yielded ops a.tmps) = true) (x : Operand) (ho : o.op = .load 28 x)
    (g : Nat) (hx : a.eval x = .pointer (some ⟨g, 0, none⟩)) (t : TypeId) (tb : Tb) (h : Whole w g t tb.cells)
    (hk : wpList Try.prog ops Q rest (a.put o.dst (.agg tb.cells.toArray)) w) : wpList Try.prog ops Q (o :: rest) a w :=
  BigFrame.wpList_want hw fun _ hK => wp_load_row 28 x ho g hx t tb.cells.toArray (0, 0) _ h Try.underlying28 rfl (by rw [tcells_size]; exact info_table) (hK _ _ hk)

theorem Tb.rows_at (t : Tb) (k : Nat) (hk : k < 4) : t.rows[k]? = some (t.at_ (k : Int)) := by
  have h : k = 0 ∨ k = 1 ∨ k = 2 ∨ k = 3 := by omega
  rcases h with rfl | rfl | rfl | rfl <;> rfl

set_option maxHeartbeats 1000000 in
theorem ask_good (t : Tb) (hm : mayB t = true) (k : Nat) (hk : k < 4) (s : Int) (h3 : 1 ≤ s) (h4 : s ≤ 1099511627776) (w : World) :
    Calls Try.prog 6 #[.agg t.cells.toArray, .int .i64 k, .int .i64 s] w fun e w' =>
      e = .returned (.tuple #[.bool (ask t k s).1, .agg (ask t k s).2.1.cells.toArray, .int .i64 (ask t k s).2.2]) ∧ Below w.heap.size w w' := by
  have hask : ask t k s = if (t.at_ k).seq < s then (true, zeroRp, 0) else if s < (t.at_ k).seq then (false, zeroRp, 220) else (false, (t.at_ k).rep, 0) := by
    have : argB t k s = false := by
      unfold argB
      rw [decide_eq_false (by omega : ¬ (k : Int) < 0), decide_eq_false (by omega : ¬ 4 ≤ (k : Int)), decide_eq_false (by omega : ¬ s < 1), decide_eq_false (by omega : ¬ 1099511627776 < s), hm]
      rfl
    unfold ask
    rw [this]; rfl
  have HM := @may_any t
  rw [hm] at HM
  have HM := Lib.hid HM
  have hw := Lib.hid ((Whole.new w 28 t.cells).alloc (.cells #[.int .i64 0, .bool false, .string { data := #[] }] 24))
  have hz := Whole.new (w.alloc (.cells t.cells.toArray 28)) 24 [.int .i64 0, .bool false, .string { data := #[] }]
  rw [World.size_alloc] at hz
  have hz := Lib.hid hz
  have hcell := Lib.hid (fun j x hj => t.cell_at k _ (t.rows_at k hk) j x hj)
  have d1 : decide ((k : Int) < 0) = false := decide_eq_false (by omega)
  have d2 : decide (4 ≤ (k : Int)) = false := decide_eq_false (by omega)
  have d3 : decide (s < 1) = false := decide_eq_false (by omega)
  have d4 : decide (1099511627776 < s) = false := decide_eq_false (by omega)
  clear hm
  generalize t.at_ k = r at *
  go_enter Try.func6, Try.ntmps6
  go_wp2_with (with_reducible refine wpList_load_table rfl (.tmp 3) rfl w.heap.size rfl 28 t hw.out ?_)
  refine (HM.out _).mono ?_
  rintro e1 w1 ⟨rfl, hb1⟩
  have hsz := hb1.size
  simp only [World.size_alloc] at hsz
  have hw1 := hw.out.below hb1 (by simp; omega)
  have hz1 := (hz.out.below hb1 (by simp)).alloc (.cells #[.int .i64 r.seq, .int .i64 r.rep.err, .bool r.rep.found, .string r.rep.val] 26)
  have hbb : Below w.heap.size w w1 := (((Below.refl _ _).alloc (Nat.le_refl _) _).alloc (by simp) _).trans (hb1.mono (by simp; omega))
  clear hb1 hw hz HM d1 d2 d3 d4
  have c0 := (hw1.cell _).trans (hcell.out 0 _ rfl)
  have c1 := (hw1.cell _).trans (hcell.out 1 _ rfl)
  have c2 := (hw1.cell _).trans (hcell.out 2 _ rfl)
  have c3 := (hw1.cell _).trans (hcell.out 3 _ rfl)
  simp only [Nat.zero_add, Nat.add_zero] at c0 c1 c2 c3
  have z0 := hz1.cell 0
  have z1 := hz1.cell 1
  have z2 := hz1.cell 2
  simp only [List.getElem?_cons_zero, List.getElem?_cons_succ] at z0 z1 z2
  have f0 := hz1.free 0
  have f1 := hz1.free 1
  have f2 := hz1.free 2
  have HASK := Lib.hid hask; clear hask
  clear hw1 hz1 hcell
  by_cases hlt : r.seq < s
  · go_wp2_with fail
    refine bodyPost_ret (v := .tuple #[.bool true, .agg zeroRp.cells.toArray, .int .i64 0]) (by simp [results, Try.results6, go_sem, z0, z1, z2, f0, f1, f2]; rfl) rfl ⟨?_, ?_⟩
    · rw [HASK.out, if_pos hlt]
    · exact (((hbb.alloc hbb.size _).setCell (p := ⟨w.heap.size + 1, 0, none⟩) (by simp) _).setCell (p := ⟨w.heap.size + 1, 1, none⟩) (by simp) _).setCell (p := ⟨w.heap.size + 1, 2, none⟩) (by simp) _
  by_cases hgt : s < r.seq
  · go_wp2_with fail
    refine bodyPost_ret (v := .tuple #[.bool false, .agg zeroRp.cells.toArray, .int .i64 220]) (by simp [results, Try.results6, go_sem, z0, z1, z2, f0, f1, f2]; rfl) rfl ⟨?_, ?_⟩
    · rw [HASK.out, if_neg (by omega), if_pos hgt]
    · exact (((hbb.alloc hbb.size _).setCell (p := ⟨w.heap.size + 1, 0, none⟩) (by simp) _).setCell (p := ⟨w.heap.size + 1, 1, none⟩) (by simp) _).setCell (p := ⟨w.heap.size + 1, 2, none⟩) (by simp) _
  · go_wp2_with fail
    go_region
    all_goals go_wp2
    all_goals refine bodyPost_ret (v := .tuple #[.bool false, .agg r.rep.cells.toArray, .int .i64 0]) (by simp [results, Try.results6, go_sem, z0, z1, z2, f0, f1, f2]; rfl) rfl ⟨?_, ?_⟩
    · rw [HASK.out, if_neg (by omega), if_neg (by omega)]
    · exact ((((hbb.alloc hbb.size _).setCell (p := ⟨w.heap.size + 1, 0, none⟩) (by simp) _).setCell (p := ⟨w.heap.size + 1, 1, none⟩) (by simp) _).setCell (p := ⟨w.heap.size + 1, 2, none⟩) (by simp) _).drew

set_option maxHeartbeats 1000000 in
theorem ask_bad (t : Tb) (c s : Int) (hbad : argB t c s = true) (w : World) :
    Calls Try.prog 6 #[.agg t.cells.toArray, .int .i64 c, .int .i64 s] w fun e w' =>
      e = .returned (.tuple #[.bool false, .agg zeroRp.cells.toArray, .int .i64 2]) ∧ Below w.heap.size w w' := by
  have hb2 : Below w.heap.size w ((w.alloc (.cells t.cells.toArray 28)).alloc (.cells #[.int .i64 0, .bool false, .string { data := #[] }] 24)) := ((Below.refl _ _).alloc (Nat.le_refl _) _).alloc (by simp) _
  unfold argB at hbad
  have hz := Whole.new (w.alloc (.cells t.cells.toArray 28)) 24 [.int .i64 0, .bool false, .string { data := #[] }]
  rw [World.size_alloc] at hz
  by_cases h1 : c < 0
  · have d1 : decide (c < 0) = true := decide_eq_true h1
    clear hbad hz
    go_enter Try.func6, Try.ntmps6
    go_wp2_with fail
    refine bodyPost_ret (v := .tuple #[.bool false, .agg zeroRp.cells.toArray, .int .i64 2]) (by simp [results, Try.results6, go_sem]; rfl) rfl ⟨rfl, ?_⟩
    exact hb2
  by_cases h2 : 4 ≤ c
  · have d2 : decide (4 ≤ c) = true := decide_eq_true h2
    clear hbad hz
    go_enter Try.func6, Try.ntmps6
    go_wp2_with fail
    refine bodyPost_ret (v := .tuple #[.bool false, .agg zeroRp.cells.toArray, .int .i64 2]) (by simp [results, Try.results6, go_sem]; rfl) rfl ⟨rfl, ?_⟩
    exact hb2
  by_cases h3 : s < 1
  · have d1 : decide (c < 0) = false := decide_eq_false (by omega)
    have d2 : decide (4 ≤ c) = false := decide_eq_false (by omega)
    have d3 : decide (s < 1) = true := decide_eq_true h3
    clear hbad hz
    go_enter Try.func6, Try.ntmps6
    go_wp2_with fail
    refine bodyPost_ret (v := .tuple #[.bool false, .agg zeroRp.cells.toArray, .int .i64 2]) (by simp [results, Try.results6, go_sem]; rfl) rfl ⟨rfl, ?_⟩
    exact hb2
  by_cases h4 : 1099511627776 < s
  · have d1 : decide (c < 0) = false := decide_eq_false (by omega)
    have d2 : decide (4 ≤ c) = false := decide_eq_false (by omega)
    have d3 : decide (s < 1) = false := decide_eq_false (by omega)
    have d4 : decide (1099511627776 < s) = true := decide_eq_true h4
    clear hbad hz
    go_enter Try.func6, Try.ntmps6
    go_wp2_with fail
    refine bodyPost_ret (v := .tuple #[.bool false, .agg zeroRp.cells.toArray, .int .i64 2]) (by simp [results, Try.results6, go_sem]; rfl) rfl ⟨rfl, ?_⟩
    exact hb2
  · have d1 : decide (c < 0) = false := decide_eq_false (by omega)
    have d2 : decide (4 ≤ c) = false := decide_eq_false (by omega)
    have d3 : decide (s < 1) = false := decide_eq_false (by omega)
    have d4 : decide (1099511627776 < s) = false := decide_eq_false (by omega)
    rw [d1, d2, d3, d4] at hbad
    have hm : mayB t = false := by simpa using hbad
    clear hbad
    have HM := @may_any t
    rw [hm] at HM
    have HM := Lib.hid HM
    have hw := Lib.hid ((Whole.new w 28 t.cells).alloc (.cells #[.int .i64 0, .bool false, .string { data := #[] }] 24))
    have hz := Lib.hid hz
    clear hm
    go_enter Try.func6, Try.ntmps6
    go_wp2_with (with_reducible refine wpList_load_table rfl (.tmp 3) rfl w.heap.size rfl 28 t hw.out ?_)
    refine (HM.out _).mono ?_
    rintro e1 w1 ⟨rfl, hb1⟩
    have hsz := hb1.size
    simp only [World.size_alloc] at hsz
    have hz1 := hz.out.below hb1 (by simp)
    have hbb : Below w.heap.size w w1 := hb2.trans (hb1.mono (by simp; omega))
    clear hb1 hb2 hw hz HM d1 d2 d3 d4
    have z0 := hz1.cell 0
    have z1 := hz1.cell 1
    have z2 := hz1.cell 2
    simp only [List.getElem?_cons_zero, List.getElem?_cons_succ] at z0 z1 z2
    have f0 := hz1.free 0
    have f1 := hz1.free 1
    have f2 := hz1.free 2
    clear hz1
    go_wp2_with fail
    refine bodyPost_ret (v := .tuple #[.bool false, .agg zeroRp.cells.toArray, .int .i64 2]) (by simp [results, Try.results6, go_sem, z0, z1, z2]; rfl) rfl ⟨rfl, ?_⟩
    exact ((hbb.setCell (p := ⟨w.heap.size + 1, 0, none⟩) (by simp) _).setCell (p := ⟨w.heap.size + 1, 1, none⟩) (by simp) _).setCell (p := ⟨w.heap.size + 1, 2, none⟩) (by simp) _

theorem ask_any (t : Tb) (c s : Int) (w : World) :
    Calls Try.prog 6 #[.agg t.cells.toArray, .int .i64 c, .int .i64 s] w fun e w' =>
      e = .returned (.tuple #[.bool (ask t c s).1, .agg (ask t c s).2.1.cells.toArray, .int .i64 (ask t c s).2.2]) ∧ Below w.heap.size w w' := by
  cases h : argB t c s
  · unfold argB at h
    simp only [Bool.or_eq_false_iff, decide_eq_false_iff_not, Bool.not_eq_false'] at h
    obtain ⟨⟨⟨⟨h1, h2⟩, h3⟩, h4⟩, h5⟩ := h
    obtain ⟨k, rfl⟩ := Int.eq_ofNat_of_zero_le (show 0 ≤ c by omega)
    exact ask_good t h5 k (by omega) s (by omega) (by omega) w
  · have : ask t c s = (false, zeroRp, 2) := by unfold ask; rw [if_pos h]
    rw [this]
    exact ask_bad t c s h w

end Se
end Go.Proofs.Ythnolfgbpifcaaa
