/- The walk of the statement that each request stands as the chapter says. -/
import Derived.Test.YthnolfgbpifcaaaSessionRefNote
import Derived.ChangeKeysEq
import Derived.Deep.RegionHeld3
namespace Go.Proofs.Ythnolfgbpifcaaa
open Go.RowKit

namespace Se

theorem eq_table (tb : Tb) (w : World) : (Op.equalIn 10000 28 (.agg tb.cells.toArray) (.agg tb.cells.toArray)).run Try.prog w = .ok true w := by
  obtain ⟨⟨q0, e0, f0, s0⟩, ⟨q1, e1, f1, s1⟩, ⟨q2, e2, f2, s2⟩, ⟨q3, e3, f3, s3⟩⟩ := tb
  have h : Op.equalIn 10000 = Op.equalIn (9999 + 1) := rfl
  have hc : Try.prog.cellsOf 26 = 4 := by kernel_rfl
  rw [h, run_equalIn_array w 9999 _ _ Try.underlying28 rfl, hc]
  simp [Op.eqItems, Tb.cells, Rw.cells, List.range, List.range.loop, go_sem]
theorem eq_reply (x : Rp) (w : World) : (Op.equalIn 10000 24 (.agg x.cells.toArray) (.agg x.cells.toArray)).run Try.prog w = .ok true w := by
  obtain ⟨e, f, s⟩ := x
  simp [Rp.cells, go_sem]

theorem xcells_one (x : Rp) : x.cells.toArray.all (·.oneCell') = true := by simp [Rp.cells, Value.oneCell']
/-- A store of a whole reply: only that block turns. -/
theorem wpList_store_reply {ops : Array Oper} {rest : List Oper} {o : Oper} {a : Act} {w : World} {Q : Exit → Act → World → Prop} (hgd : o.guard = none) (x y : Operand) (ho : o.op = .store 24 x y)
    (g : Nat) (tb old : Rp) (hx : a.eval x = .pointer (some ⟨g, 0, none⟩)) (hy : a.eval y = .agg tb.cells.toArray) (h : Whole w g 24 old.cells)
    (hk : ∀ w', Whole w' g 24 tb.cells → Only g w w' → wpList Try.prog ops Q rest (a.put o.dst undef) w') : wpList Try.prog ops Q (o :: rest) a w :=
  wpList_store_row hgd 24 x y ho g tb.cells.toArray hx hy 24 old.cells.toArray h (by rw [xcells_size]; exact info_reply) rfl (xcells_one tb) (hk _ (Whole.row h _) ((Only.refl _ _).row _))

set_option maxHeartbeats 4000000 in
theorem asks_any (t : Tb) (c s : Int) (x : Rp) (w : World) :
    Calls Try.prog 3 #[.agg t.cells.toArray, .int .i64 c, .int .i64 s, .agg x.cells.toArray] w fun e w' => e = .returned (.bool true) ∧ Below w.heap.size w w' := by
  have HT := Lib.hid ((Whole.new w 28 t.cells).alloc (.cells x.cells.toArray 24))
  have HR := Lib.hid (Whole.new (w.alloc (.cells t.cells.toArray 28)) 24 x.cells)
  have hx2 : x.cells[2]? = some (.string x.val) := rfl
  have hb := ((Below.refl w.heap.size w).alloc (Nat.le_refl _) (.cells t.cells.toArray 28)).alloc (by simp) (.cells x.cells.toArray 24)
  have HB := Lib.hid hb; clear hb
  rw [World.size_alloc] at HR
  by_cases hv : 100 < x.val.size
  · have hv' : decide (100 < (x.val.size : Int)) = true := decide_eq_true (by omega)
    go_enter Try.func3, Try.ntmps3
    go_wp2_with fail
    go_ret
    exact ⟨rfl, HB.out⟩
  have hv' : decide (100 < (x.val.size : Int)) = false := decide_eq_false (by omega)
  have A1 := ask_any t c s
  have A2 := rask_any t c s
  generalize ask t c s = q at A1 A2
  obtain ⟨fr, rp, er⟩ := q
  simp only at A1 A2
  have A3 := note_any t c s x
  have A4 := rnote_any t c s x
  generalize note t c s x = q at A3 A4
  obtain ⟨nt, nn⟩ := q
  simp only at A3 A4
  have A5 := may_any t
  have A6 := rmay_any t
  generalize mayB t = mb at *
  have A1 := Lib.hid A1
  have A2 := Lib.hid A2
  have A3 := Lib.hid A3
  have A4 := Lib.hid A4
  have A5 := Lib.hid A5
  have A6 := Lib.hid A6
  go_enter Try.func3, Try.ntmps3
  go_wp2_with (with_reducible refine wpList_load_table rfl (.tmp 4) rfl w.heap.size rfl 28 t HT.out ?_)
  refine (A1.out _).mono ?_
  clear A1
  rintro e1 u1 ⟨rfl, hb⟩
  have hs1 := hb.size
  simp only [World.size_alloc] at hs1
  have HT := Lib.hid (HT.out.below hb (by simp; try omega))
  have HR := Lib.hid (HR.out.below hb (by simp; try omega))
  have HB := Lib.hid (HB.out.trans (hb.mono (by simp; omega)))
  clear hb
  have V' : Whole (u1.alloc (.cells #[.int .i64 0, .bool false, .string { data := #[] }] 24)) u1.heap.size 24 zeroRp.cells := Whole.new u1 24 zeroRp.cells
  have V := Lib.hid V'
  clear V'
  go_wp2_with (with_reducible refine wpList_store_reply rfl (.tmp 10) (.tmp 29) rfl u1.heap.size rp zeroRp rfl rfl V.out ?_)
  intro v1 hw hO
  have Vx := Lib.hid hw
  have hb := Only.below ((Below.refl u1.heap.size u1).alloc (Nat.le_refl _) (.cells #[.int .i64 0, .bool false, .string { data := #[] }] 24)) hO (by simp) (Nat.le_refl _)
  have ht1 := hb.size
  have hl1 : u1.heap.size < v1.heap.size := hw.lt
  have HT := Lib.hid (HT.out.below hb (by omega))
  have HR := Lib.hid (HR.out.below hb (by omega))
  have HB := Lib.hid (HB.out.trans (hb.mono (by omega)))
  clear hb hw hO V
  go_wp2_with (first | (with_reducible refine wpList_load_table rfl (.tmp 4) rfl w.heap.size rfl 28 t HT.out ?_) | (with_reducible refine wpList_load_reply rfl (.tmp 7) rfl (w.heap.size + 1) rfl 24 x HR.out ?_))
  refine (A2.out _).mono ?_
  clear A2
  rintro e2 u2 ⟨rfl, hb⟩
  have hs2 := hb.size

  have HT := Lib.hid (HT.out.below hb (by omega))
  have HR := Lib.hid (HR.out.below hb (by omega))
  have Vx := Lib.hid (Vx.out.below hb (by omega))
  have HB := Lib.hid (HB.out.trans (hb.mono (by omega)))
  clear hb
  have V' : Whole (u2.alloc (.cells #[.int .i64 0, .bool false, .string { data := #[] }] 24)) u2.heap.size 24 zeroRp.cells := Whole.new u2 24 zeroRp.cells
  have V := Lib.hid V'
  clear V'
  go_wp2_with (with_reducible refine wpList_store_reply rfl (.tmp 13) (.tmp 37) rfl u2.heap.size rp zeroRp rfl rfl V.out ?_)
  intro v2 hw hO
  have Vy := Lib.hid hw
  have hb := Only.below ((Below.refl u2.heap.size u2).alloc (Nat.le_refl _) (.cells #[.int .i64 0, .bool false, .string { data := #[] }] 24)) hO (by simp) (Nat.le_refl _)
  have ht2 := hb.size
  have hl2 : u2.heap.size < v2.heap.size := hw.lt
  have HT := Lib.hid (HT.out.below hb (by omega))
  have HR := Lib.hid (HR.out.below hb (by omega))
  have Vx := Lib.hid (Vx.out.below hb (by omega))
  have HB := Lib.hid (HB.out.trans (hb.mono (by omega)))
  clear hb hw hO V
  go_wp2_with (first | (with_reducible refine wpList_load_table rfl (.tmp 4) rfl w.heap.size rfl 28 t HT.out ?_) | (with_reducible refine wpList_load_reply rfl (.tmp 7) rfl (w.heap.size + 1) rfl 24 x HR.out ?_))
  refine (A3.out _).mono ?_
  clear A3
  rintro e3 u3 ⟨rfl, hb⟩
  have hs3 := hb.size

  have HT := Lib.hid (HT.out.below hb (by omega))
  have HR := Lib.hid (HR.out.below hb (by omega))
  have Vx := Lib.hid (Vx.out.below hb (by omega))
  have Vy := Lib.hid (Vy.out.below hb (by omega))
  have HB := Lib.hid (HB.out.trans (hb.mono (by omega)))
  clear hb
  have V' : Whole (u3.alloc (.cells #[.int .i64 0, .int .i64 0, .bool false, .string { data := #[] }, .int .i64 0, .int .i64 0, .bool false, .string { data := #[] }, .int .i64 0, .int .i64 0, .bool false, .string { data := #[] }, .int .i64 0, .int .i64 0, .bool false, .string { data := #[] }] 28)) u3.heap.size 28 zeroTb.cells := Whole.new u3 28 zeroTb.cells
  have V := Lib.hid V'
  clear V'
  go_wp2_with (with_reducible refine wpList_store_table rfl (.tmp 15) (.tmp 45) rfl u3.heap.size nt zeroTb rfl rfl V.out ?_)
  intro v3 hw hO
  have Vu := Lib.hid hw
  have hb := Only.below ((Below.refl u3.heap.size u3).alloc (Nat.le_refl _) (.cells #[.int .i64 0, .int .i64 0, .bool false, .string { data := #[] }, .int .i64 0, .int .i64 0, .bool false, .string { data := #[] }, .int .i64 0, .int .i64 0, .bool false, .string { data := #[] }, .int .i64 0, .int .i64 0, .bool false, .string { data := #[] }] 28)) hO (by simp) (Nat.le_refl _)
  have ht3 := hb.size
  have hl3 : u3.heap.size < v3.heap.size := hw.lt
  have HT := Lib.hid (HT.out.below hb (by omega))
  have HR := Lib.hid (HR.out.below hb (by omega))
  have Vx := Lib.hid (Vx.out.below hb (by omega))
  have Vy := Lib.hid (Vy.out.below hb (by omega))
  have HB := Lib.hid (HB.out.trans (hb.mono (by omega)))
  clear hb hw hO V
  go_wp2_with (first | (with_reducible refine wpList_load_table rfl (.tmp 4) rfl w.heap.size rfl 28 t HT.out ?_) | (with_reducible refine wpList_load_reply rfl (.tmp 7) rfl (w.heap.size + 1) rfl 24 x HR.out ?_))
  refine (A4.out _).mono ?_
  clear A4
  rintro e4 u4 ⟨rfl, hb⟩
  have hs4 := hb.size

  have HT := Lib.hid (HT.out.below hb (by omega))
  have HR := Lib.hid (HR.out.below hb (by omega))
  have Vx := Lib.hid (Vx.out.below hb (by omega))
  have Vy := Lib.hid (Vy.out.below hb (by omega))
  have Vu := Lib.hid (Vu.out.below hb (by omega))
  have HB := Lib.hid (HB.out.trans (hb.mono (by omega)))
  clear hb
  have V' : Whole (u4.alloc (.cells #[.int .i64 0, .int .i64 0, .bool false, .string { data := #[] }, .int .i64 0, .int .i64 0, .bool false, .string { data := #[] }, .int .i64 0, .int .i64 0, .bool false, .string { data := #[] }, .int .i64 0, .int .i64 0, .bool false, .string { data := #[] }] 28)) u4.heap.size 28 zeroTb.cells := Whole.new u4 28 zeroTb.cells
  have V := Lib.hid V'
  clear V'
  go_wp2_with (with_reducible refine wpList_store_table rfl (.tmp 17) (.tmp 53) rfl u4.heap.size nt zeroTb rfl rfl V.out ?_)
  intro v4 hw hO
  have Vv := Lib.hid hw
  have hb := Only.below ((Below.refl u4.heap.size u4).alloc (Nat.le_refl _) (.cells #[.int .i64 0, .int .i64 0, .bool false, .string { data := #[] }, .int .i64 0, .int .i64 0, .bool false, .string { data := #[] }, .int .i64 0, .int .i64 0, .bool false, .string { data := #[] }, .int .i64 0, .int .i64 0, .bool false, .string { data := #[] }] 28)) hO (by simp) (Nat.le_refl _)
  have ht4 := hb.size
  have hl4 : u4.heap.size < v4.heap.size := hw.lt
  have HT := Lib.hid (HT.out.below hb (by omega))
  have HR := Lib.hid (HR.out.below hb (by omega))
  have Vx := Lib.hid (Vx.out.below hb (by omega))
  have Vy := Lib.hid (Vy.out.below hb (by omega))
  have Vu := Lib.hid (Vu.out.below hb (by omega))
  have HB := Lib.hid (HB.out.trans (hb.mono (by omega)))
  clear hb hw hO V
  go_wp2_with (first | (with_reducible refine wpList_load_table rfl (.tmp 4) rfl w.heap.size rfl 28 t HT.out ?_) | (with_reducible refine wpList_load_reply rfl (.tmp 7) rfl (w.heap.size + 1) rfl 24 x HR.out ?_))
  have HS : (fun u : World => Hid (Whole u w.heap.size 28 t.cells ∧ Whole u u1.heap.size 24 rp.cells ∧ Whole u u2.heap.size 24 rp.cells ∧ Whole u u3.heap.size 28 nt.cells ∧ Whole u u4.heap.size 28 nt.cells ∧ Below w.heap.size w u ∧ v4.heap.size ≤ u.heap.size)) v4.drew := ⟨HT.out.drew, Vx.out.drew, Vy.out.drew, Vu.out.drew, Vv.out.drew, HB.out.drew, Nat.le_refl _⟩
  have KEEP : Hid (∀ u u' : World, Hid (Whole u w.heap.size 28 t.cells ∧ Whole u u1.heap.size 24 rp.cells ∧ Whole u u2.heap.size 24 rp.cells ∧ Whole u u3.heap.size 28 nt.cells ∧ Whole u u4.heap.size 28 nt.cells ∧ Below w.heap.size w u ∧ v4.heap.size ≤ u.heap.size) → Below u.heap.size u u' → (fun u : World => Hid (Whole u w.heap.size 28 t.cells ∧ Whole u u1.heap.size 24 rp.cells ∧ Whole u u2.heap.size 24 rp.cells ∧ Whole u u3.heap.size 28 nt.cells ∧ Whole u u4.heap.size 28 nt.cells ∧ Below w.heap.size w u ∧ v4.heap.size ≤ u.heap.size)) u') := fun u u' h hb => ⟨h.out.1.below hb (by have := h.out.2.2.2.2.2.2; omega), h.out.2.1.below hb (by have := h.out.2.2.2.2.2.2; omega), h.out.2.2.1.below hb (by have := h.out.2.2.2.2.2.2; omega), h.out.2.2.2.1.below hb (by have := h.out.2.2.2.2.2.2; omega), h.out.2.2.2.2.1.below hb (by have := h.out.2.2.2.2.2.2; omega), h.out.2.2.2.2.2.1.trans (hb.mono (by have := h.out.2.2.2.2.2.2; omega)), Nat.le_trans h.out.2.2.2.2.2.2 hb.size⟩
  have EQR := Lib.hid (eq_reply rp)
  have EQT := Lib.hid (eq_table nt)
  clear HT HR Vx Vy Vu Vv HB
  refine wp_region_held_drew (S := fun u : World => Hid (Whole u w.heap.size 28 t.cells ∧ Whole u u1.heap.size 24 rp.cells ∧ Whole u u2.heap.size 24 rp.cells ∧ Whole u u3.heap.size 28 nt.cells ∧ Whole u u4.heap.size 28 nt.cells ∧ Below w.heap.size w u ∧ v4.heap.size ≤ u.heap.size)) (by kernel_rfl) HS ?_
  clear HS
  intro HS
  refine heldTake 0 (some 55) (.agg t.cells.toArray) rfl rfl (by kernel_rfl) (by kernel_rfl) (by kernel_rfl) (fun _ _ _ h => h) (by rfl) (fun u hu => exec_load 28 (.tmp 4) rfl w.heap.size 28 t.cells _ rfl (hu.out.1) Try.underlying28 rfl info_table) HS ?_
  simp only [Act.put, List.setIfInBounds_toArray, List.set_cons_zero, List.set_cons_succ]
  refine heldTake 2 (some 57) (.agg t.cells.toArray) rfl rfl (by kernel_rfl) (by kernel_rfl) (by kernel_rfl) (fun _ _ _ h => h) (by rfl) (fun u hu => exec_load 28 (.tmp 4) rfl w.heap.size 28 t.cells _ rfl (hu.out.1) Try.underlying28 rfl info_table) HS ?_
  simp only [Act.put, List.setIfInBounds_toArray, List.set_cons_zero, List.set_cons_succ]
  refine wpAnyH_ready (rs := [1]) (by kernel_rfl) (by simp) ?_
  refine AllReadyH.cons rfl (fun K hK => ?_) AllReadyH.nil
  go_simp
  refine (A5.out _).mono ?_
  rintro e5 u5 ⟨rfl, hb⟩
  have HS' := Lib.hid (KEEP.out _ _ HS hb)
  clear hb HS
  go_wp2_with fail
  refine hK.out _ _ HS'.out (fun HS => ?_)
  clear hK HS'
  refine wpAnyH_ready (rs := [3]) (by kernel_rfl) (by simp) ?_
  refine AllReadyH.cons rfl (fun K hK => ?_) AllReadyH.nil
  go_simp
  refine (A6.out _).mono ?_
  rintro e6 u6 ⟨rfl, hb⟩
  have HS' := Lib.hid (KEEP.out _ _ HS hb)
  clear hb HS
  go_wp2_with fail
  refine hK.out _ _ HS'.out (fun HS => ?_)
  clear hK HS'
  refine heldTake 4 (some 59) (.bool true) rfl rfl (by kernel_rfl) (by kernel_rfl) (by kernel_rfl) (fun _ _ _ h => h) (by rfl) (fun u hu => by go_simp) HS ?_
  simp only [Act.put, List.setIfInBounds_toArray, List.set_cons_zero, List.set_cons_succ]
  refine heldTake 5 (some 60) (.bool true) rfl rfl (by kernel_rfl) (by kernel_rfl) (by kernel_rfl) (fun _ _ _ h => h) (by rfl) (fun u hu => by go_simp) HS ?_
  simp only [Act.put, List.setIfInBounds_toArray, List.set_cons_zero, List.set_cons_succ]
  refine heldTake 6 (some 61) (.bool fr) rfl rfl (by kernel_rfl) (by kernel_rfl) (by kernel_rfl) (fun _ _ _ h => h) (by rfl) (fun u hu => by go_simp) HS ?_
  simp only [Act.put, List.setIfInBounds_toArray, List.set_cons_zero, List.set_cons_succ]
  refine heldTake 7 (some 62) (.bool fr) rfl rfl (by kernel_rfl) (by kernel_rfl) (by kernel_rfl) (fun _ _ _ h => h) (by rfl) (fun u hu => by go_simp) HS ?_
  simp only [Act.put, List.setIfInBounds_toArray, List.set_cons_zero, List.set_cons_succ]
  refine heldTake 8 (some 63) (.bool true) rfl rfl (by kernel_rfl) (by kernel_rfl) (by kernel_rfl) (fun _ _ _ h => h) (by rfl) (fun u hu => by go_simp) HS ?_
  simp only [Act.put, List.setIfInBounds_toArray, List.set_cons_zero, List.set_cons_succ]
  refine heldTake 9 (some 64) (.bool true) rfl rfl (by kernel_rfl) (by kernel_rfl) (by kernel_rfl) (fun _ _ _ h => h) (by rfl) (fun u hu => by go_simp) HS ?_
  simp only [Act.put, List.setIfInBounds_toArray, List.set_cons_zero, List.set_cons_succ]
  refine heldTake 10 (some 65) (.bool true) rfl rfl (by kernel_rfl) (by kernel_rfl) (by kernel_rfl) (fun _ _ _ h => h) (by rfl) (fun u hu => by go_simp) HS ?_
  simp only [Act.put, List.setIfInBounds_toArray, List.set_cons_zero, List.set_cons_succ]
  refine heldTake 11 (some 66) (.agg rp.cells.toArray) rfl rfl (by kernel_rfl) (by kernel_rfl) (by kernel_rfl) (fun _ _ _ h => h) (by rfl) (fun u hu => exec_load 24 (.tmp 10) rfl u1.heap.size 24 rp.cells _ rfl (hu.out.2.1) Try.underlying24 rfl info_reply) HS ?_
  simp only [Act.put, List.setIfInBounds_toArray, List.set_cons_zero, List.set_cons_succ]
  refine heldTake 12 (some 67) (.agg rp.cells.toArray) rfl rfl (by kernel_rfl) (by kernel_rfl) (by kernel_rfl) (fun _ _ _ h => h) (by rfl) (fun u hu => exec_load 24 (.tmp 13) rfl u2.heap.size 24 rp.cells _ rfl (hu.out.2.2.1) Try.underlying24 rfl info_reply) HS ?_
  simp only [Act.put, List.setIfInBounds_toArray, List.set_cons_zero, List.set_cons_succ]
  refine heldTake 13 (some 68) (.bool true) rfl rfl (by kernel_rfl) (by kernel_rfl) (by kernel_rfl) (fun _ _ _ h => h) (by rfl) (fun u hu => by exact exec_eql 24 (.tmp 66) (.tmp 67) _ rfl rp.cells.toArray rfl rfl Try.eqGuardType24 (EQR.out u)) HS ?_
  simp only [Act.put, List.setIfInBounds_toArray, List.set_cons_zero, List.set_cons_succ]
  refine heldTake 14 (some 69) (.bool true) rfl rfl (by kernel_rfl) (by kernel_rfl) (by kernel_rfl) (fun _ _ _ h => h) (by rfl) (fun u hu => by go_simp) HS ?_
  simp only [Act.put, List.setIfInBounds_toArray, List.set_cons_zero, List.set_cons_succ]
  refine heldTake 15 (some 70) (.bool true) rfl rfl (by kernel_rfl) (by kernel_rfl) (by kernel_rfl) (fun _ _ _ h => h) (by rfl) (fun u hu => by go_simp) HS ?_
  simp only [Act.put, List.setIfInBounds_toArray, List.set_cons_zero, List.set_cons_succ]
  refine heldTake 16 (some 71) (.int .i64 er) rfl rfl (by kernel_rfl) (by kernel_rfl) (by kernel_rfl) (fun _ _ _ h => h) (by rfl) (fun u hu => by go_simp) HS ?_
  simp only [Act.put, List.setIfInBounds_toArray, List.set_cons_zero, List.set_cons_succ]
  refine heldTake 17 (some 72) (.int .i64 er) rfl rfl (by kernel_rfl) (by kernel_rfl) (by kernel_rfl) (fun _ _ _ h => h) (by rfl) (fun u hu => by go_simp) HS ?_
  simp only [Act.put, List.setIfInBounds_toArray, List.set_cons_zero, List.set_cons_succ]
  refine heldTake 18 (some 73) (.bool true) rfl rfl (by kernel_rfl) (by kernel_rfl) (by kernel_rfl) (fun _ _ _ h => h) (by rfl) (fun u hu => by go_simp) HS ?_
  simp only [Act.put, List.setIfInBounds_toArray, List.set_cons_zero, List.set_cons_succ]
  refine heldTake 19 (some 74) (.bool true) rfl rfl (by kernel_rfl) (by kernel_rfl) (by kernel_rfl) (fun _ _ _ h => h) (by rfl) (fun u hu => by go_simp) HS ?_
  simp only [Act.put, List.setIfInBounds_toArray, List.set_cons_zero, List.set_cons_succ]
  refine heldTake 20 (some 75) (.bool true) rfl rfl (by kernel_rfl) (by kernel_rfl) (by kernel_rfl) (fun _ _ _ h => h) (by rfl) (fun u hu => by go_simp) HS ?_
  simp only [Act.put, List.setIfInBounds_toArray, List.set_cons_zero, List.set_cons_succ]
  refine heldTake 21 (some 76) (.agg nt.cells.toArray) rfl rfl (by kernel_rfl) (by kernel_rfl) (by kernel_rfl) (fun _ _ _ h => h) (by rfl) (fun u hu => exec_load 28 (.tmp 15) rfl u3.heap.size 28 nt.cells _ rfl (hu.out.2.2.2.1) Try.underlying28 rfl info_table) HS ?_
  simp only [Act.put, List.setIfInBounds_toArray, List.set_cons_zero, List.set_cons_succ]
  refine heldTake 22 (some 77) (.agg nt.cells.toArray) rfl rfl (by kernel_rfl) (by kernel_rfl) (by kernel_rfl) (fun _ _ _ h => h) (by rfl) (fun u hu => exec_load 28 (.tmp 17) rfl u4.heap.size 28 nt.cells _ rfl (hu.out.2.2.2.2.1) Try.underlying28 rfl info_table) HS ?_
  simp only [Act.put, List.setIfInBounds_toArray, List.set_cons_zero, List.set_cons_succ]
  refine heldTake 23 (some 78) (.bool true) rfl rfl (by kernel_rfl) (by kernel_rfl) (by kernel_rfl) (fun _ _ _ h => h) (by rfl) (fun u hu => by exact exec_eql 28 (.tmp 76) (.tmp 77) _ rfl nt.cells.toArray rfl rfl Try.eqGuardType28 (EQT.out u)) HS ?_
  simp only [Act.put, List.setIfInBounds_toArray, List.set_cons_zero, List.set_cons_succ]
  refine heldTake 24 (some 79) (.bool true) rfl rfl (by kernel_rfl) (by kernel_rfl) (by kernel_rfl) (fun _ _ _ h => h) (by rfl) (fun u hu => by go_simp) HS ?_
  simp only [Act.put, List.setIfInBounds_toArray, List.set_cons_zero, List.set_cons_succ]
  refine heldTake 25 (some 80) (.bool true) rfl rfl (by kernel_rfl) (by kernel_rfl) (by kernel_rfl) (fun _ _ _ h => h) (by rfl) (fun u hu => by go_simp) HS ?_
  simp only [Act.put, List.setIfInBounds_toArray, List.set_cons_zero, List.set_cons_succ]
  refine heldTake 26 (some 81) (.int .i64 nn) rfl rfl (by kernel_rfl) (by kernel_rfl) (by kernel_rfl) (fun _ _ _ h => h) (by rfl) (fun u hu => by go_simp) HS ?_
  simp only [Act.put, List.setIfInBounds_toArray, List.set_cons_zero, List.set_cons_succ]
  refine heldTake 27 (some 82) (.int .i64 nn) rfl rfl (by kernel_rfl) (by kernel_rfl) (by kernel_rfl) (fun _ _ _ h => h) (by rfl) (fun u hu => by go_simp) HS ?_
  simp only [Act.put, List.setIfInBounds_toArray, List.set_cons_zero, List.set_cons_succ]
  refine heldTake 28 (some 83) (.bool true) rfl rfl (by kernel_rfl) (by kernel_rfl) (by kernel_rfl) (fun _ _ _ h => h) (by rfl) (fun u hu => by go_simp) HS ?_
  simp only [Act.put, List.setIfInBounds_toArray, List.set_cons_zero, List.set_cons_succ]
  refine heldTake 29 (some 84) (.bool true) rfl rfl (by kernel_rfl) (by kernel_rfl) (by kernel_rfl) (fun _ _ _ h => h) (by rfl) (fun u hu => by go_simp) HS ?_
  simp only [Act.put, List.setIfInBounds_toArray, List.set_cons_zero, List.set_cons_succ]
  refine heldTake 30 (some 8) (.bool true) rfl rfl (by kernel_rfl) (by kernel_rfl) (by kernel_rfl) (fun _ _ _ h => h) (by rfl) (fun u hu => by go_simp) HS ?_
  simp only [Act.put, List.setIfInBounds_toArray, List.set_cons_zero, List.set_cons_succ]
  refine wpAnyH_done (by kernel_rfl) ?_ _
  have HB := HS.out.2.2.2.2.2.1
  go_wp2_with fail
  go_ret
  exact ⟨rfl, HB⟩

end Se
end Go.Proofs.Ythnolfgbpifcaaa
