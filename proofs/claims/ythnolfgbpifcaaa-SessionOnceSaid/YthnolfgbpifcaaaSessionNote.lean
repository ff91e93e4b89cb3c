/- What Note returns. -/
import Derived.Test.YthnolfgbpifcaaaSessionAsk
namespace Go.Proofs.Ythnolfgbpifcaaa
open Go.RowKit

namespace Se

def zeroRw : Rw := ⟨0, zeroRp⟩
def zeroTb : Tb := ⟨zeroRw, zeroRw, zeroRw, zeroRw⟩
def Tb.put (t : Tb) (c : Int) (r : Rw) : Tb :=
  if c = 0 then { t with r0 := r } else if c = 1 then { t with r1 := r } else if c = 2 then { t with r2 := r } else { t with r3 := r }
def note (t : Tb) (c s : Int) (x : Rp) : Tb × Int :=
  if argB t c s || badB x then (zeroTb, 2) else if (t.at_ c).seq < s then (t.put c ⟨s, x⟩, 0) else (zeroTb, 220)

theorem put_cells (t : Tb) (k : Nat) (hk : k < 4) (r : Rw) :
    (((t.cells.set (k * 4) (.int .i64 r.seq)).set (k * 4 + 1) (.int .i64 r.rep.err)).set (k * 4 + 2) (.bool r.rep.found)).set (k * 4 + 3) (.string r.rep.val) = (t.put k r).cells := by
  have h : k = 0 ∨ k = 1 ∨ k = 2 ∨ k = 3 := by omega
  rcases h with rfl | rfl | rfl | rfl <;> rfl

theorem cells_one (t : Tb) : t.cells.toArray.all (·.oneCell') = true := by simp [Tb.cells, Rw.cells, Value.oneCell']
/-- A store of a whole table: only that block turns. -/
theorem wpList_store_table {ops : Array Oper} {rest : List Oper} {o : Oper} {a : Act} {w : World} {Q : Exit → Act → World → Prop} (hgd : o.guard = none) (x y : Operand) (ho : o.op = .store 28 x y)
    (g : Nat) (tb old : Tb) (hx : a.eval x = .pointer (some ⟨g, 0, none⟩)) (hy : a.eval y = .agg tb.cells.toArray) (h : Whole w g 28 old.cells)
    (hk : ∀ w', Whole w' g 28 tb.cells → Only g w w' → wpList Try.prog ops Q rest (a.put o.dst undef) w') : wpList Try.prog ops Q (o :: rest) a w :=
  wpList_store_row hgd 28 x y ho g tb.cells.toArray hx hy 28 old.cells.toArray h (by rw [tcells_size]; exact info_table) rfl (cells_one tb) (hk _ (Whole.row h _) ((Only.refl _ _).row _))

/-- Two results: a table that lies in a block, and a number. -/
theorem results_table {fn : Func} {p q : Tmp} (h : fn.results = #[.cell p 28, .tmp q]) (tmps : Array Value) (w : World) (g : Nat) (tb : Tb)
    (hp : tmps.getD p undef = .pointer (some ⟨g, 0, none⟩)) (hg : Whole w g 28 tb.cells) :
    (results fn tmps).run Try.prog w = .ok (.tuple #[.agg tb.cells.toArray, tmps.getD q undef]) w := by
  have hp' : tmps[p]?.getD undef = .pointer (some ⟨g, 0, none⟩) := by simpa using hp
  have hl := run_loadVar_row (P := Try.prog) w g 28 28 tb.cells.toArray (0, 0) _ hg Try.underlying28 rfl (by rw [tcells_size]; exact info_table)
  simp [results, h, hp', asAddr, hl]


theorem xcells_size (x : Rp) : x.cells.toArray.size = 3 := rfl
theorem info_reply : (Try.prog.info? 24).map (·.size) = some 3 := by kernel_rfl
/-- A load of a whole reply, at a guard that says yes. -/
theorem wpList_load_reply {ops : Array Oper} {rest : List Oper} {o : Oper} {a : Act} {w : World} {Q : Exit → Act → World → Prop} (hw : Region.wanted o (yielded ops a.tmps) = true) (x : Operand) (ho : o.op = .load 24 x)
    (g : Nat) (hx : a.eval x = .pointer (some ⟨g, 0, none⟩)) (t : TypeId) (tb : Rp) (h : Whole w g t tb.cells)
    (hk : wpList Try.prog ops Q rest (a.put o.dst (.agg tb.cells.toArray)) w) : wpList Try.prog ops Q (o :: rest) a w :=
  BigFrame.wpList_want hw fun _ hK => wp_load_row 24 x ho g hx t tb.cells.toArray (0, 0) _ h Try.underlying24 rfl (by rw [xcells_size]; exact info_reply) (hK _ _ hk)

set_option maxHeartbeats 2000000 in
theorem note_arg (t : Tb) (c s : Int) (x : Rp) (re : Int) (rf : Bool) (rv : ByteArray) (hask : ask t c s = (false, ⟨re, rf, rv⟩, 2)) (w : World) :
    Calls Try.prog 8 #[.agg t.cells.toArray, .int .i64 c, .int .i64 s, .agg x.cells.toArray] w fun e w' =>
      e = .returned (.tuple #[.agg zeroTb.cells.toArray, .int .i64 2]) ∧ Below w.heap.size w w' := by
  have HA := ask_any t c s
  rw [hask] at HA
  simp only [Rp.cells] at HA
  have HA := Lib.hid HA
  clear hask
  have hT : Whole (((w.alloc (.cells t.cells.toArray 28)).alloc (.cells x.cells.toArray 24)).alloc (.cells #[.int .i64 0, .int .i64 0, .bool false, .string { data := #[] }, .int .i64 0, .int .i64 0, .bool false, .string { data := #[] }, .int .i64 0, .int .i64 0, .bool false, .string { data := #[] }, .int .i64 0, .int .i64 0, .bool false, .string { data := #[] }] 28)) w.heap.size 28 t.cells := ((Whole.new w 28 t.cells).alloc (.cells x.cells.toArray 24)).alloc (.cells zeroTb.cells.toArray 28)
  have hR : Whole (((w.alloc (.cells t.cells.toArray 28)).alloc (.cells x.cells.toArray 24)).alloc (.cells #[.int .i64 0, .int .i64 0, .bool false, .string { data := #[] }, .int .i64 0, .int .i64 0, .bool false, .string { data := #[] }, .int .i64 0, .int .i64 0, .bool false, .string { data := #[] }, .int .i64 0, .int .i64 0, .bool false, .string { data := #[] }] 28)) (w.alloc (.cells t.cells.toArray 28)).heap.size 24 x.cells := (Whole.new (w.alloc (.cells t.cells.toArray 28)) 24 x.cells).alloc (.cells zeroTb.cells.toArray 28)
  have hZ : Whole (((w.alloc (.cells t.cells.toArray 28)).alloc (.cells x.cells.toArray 24)).alloc (.cells #[.int .i64 0, .int .i64 0, .bool false, .string { data := #[] }, .int .i64 0, .int .i64 0, .bool false, .string { data := #[] }, .int .i64 0, .int .i64 0, .bool false, .string { data := #[] }, .int .i64 0, .int .i64 0, .bool false, .string { data := #[] }] 28)) ((w.alloc (.cells t.cells.toArray 28)).alloc (.cells x.cells.toArray 24)).heap.size 28 zeroTb.cells := Whole.new ((w.alloc (.cells t.cells.toArray 28)).alloc (.cells x.cells.toArray 24)) 28 zeroTb.cells
  rw [World.size_alloc] at hR
  rw [World.size_alloc, World.size_alloc] at hZ
  have hB : Below w.heap.size w (((w.alloc (.cells t.cells.toArray 28)).alloc (.cells x.cells.toArray 24)).alloc (.cells #[.int .i64 0, .int .i64 0, .bool false, .string { data := #[] }, .int .i64 0, .int .i64 0, .bool false, .string { data := #[] }, .int .i64 0, .int .i64 0, .bool false, .string { data := #[] }, .int .i64 0, .int .i64 0, .bool false, .string { data := #[] }] 28)) :=
    (((Below.refl _ _).alloc (Nat.le_refl _) _).alloc (by simp) _).alloc (by simp; omega) _
  have HT := Lib.hid hT; clear hT
  have HR := Lib.hid hR; clear hR
  have HZ := Lib.hid hZ; clear hZ
  go_enter Try.func8, Try.ntmps8
  go_wp2_with (with_reducible refine wpList_load_table rfl (.tmp 4) rfl w.heap.size rfl 28 t HT.out ?_)
  refine (HA.out _).mono ?_
  clear HA
  rintro e1 w1 ⟨rfl, hb1⟩
  have hsz := hb1.size
  simp only [World.size_alloc] at hsz
  have T1 := Lib.hid (HT.out.below hb1 (by simp; omega))
  have R1 := Lib.hid (HR.out.below hb1 (by simp))
  have Z1 := Lib.hid (HZ.out.below hb1 (by simp))
  have hbb : Below w.heap.size w w1 := hB.trans (hb1.mono (by simp; omega))
  clear hb1 hB HT HR HZ
  have A1 := Lib.hid (Z1.out.alloc (.cells #[.int .i64 re, .bool rf, .string rv] 24))
  have hs1 : w.heap.size + 3 ≤ w1.heap.size := by omega
  have HB2 := Lib.hid ((hbb.alloc (by omega) (.cells #[.int .i64 re, .bool rf, .string rv] 24)))
  clear hsz hbb
  go_wp2_with (with_reducible refine wpList_store_table rfl (.tmp 8) (.tmp 28) rfl (w.heap.size + 1 + 1) zeroTb zeroTb rfl rfl A1.out ?_)
  intro w2 hw2 hO
  have hW2 := Lib.hid hw2
  have HB3 := Lib.hid (Only.below HB2.out hO (by simp; omega) (by omega))
  clear hw2 hO
  go_wp2_with fail
  exact bodyPost_ret (results_table rfl _ _ (w.heap.size + 1 + 1) zeroTb rfl hW2.out) rfl ⟨rfl, HB3.out⟩

set_option maxHeartbeats 2000000 in
theorem note_bad (t : Tb) (c s : Int) (x : Rp) (re : Int) (rf fr : Bool) (rv : ByteArray) (er : Int) (hask : ask t c s = (fr, ⟨re, rf, rv⟩, er)) (her : (er == 2) = false) (hx : badB x = true) (w : World) :
    Calls Try.prog 8 #[.agg t.cells.toArray, .int .i64 c, .int .i64 s, .agg x.cells.toArray] w fun e w' =>
      e = .returned (.tuple #[.agg zeroTb.cells.toArray, .int .i64 2]) ∧ Below w.heap.size w w' := by
  have HA := ask_any t c s
  rw [hask] at HA
  simp only [Rp.cells] at HA
  have HA := Lib.hid HA
  clear hask
  have hT : Whole (((w.alloc (.cells t.cells.toArray 28)).alloc (.cells x.cells.toArray 24)).alloc (.cells #[.int .i64 0, .int .i64 0, .bool false, .string { data := #[] }, .int .i64 0, .int .i64 0, .bool false, .string { data := #[] }, .int .i64 0, .int .i64 0, .bool false, .string { data := #[] }, .int .i64 0, .int .i64 0, .bool false, .string { data := #[] }] 28)) w.heap.size 28 t.cells := ((Whole.new w 28 t.cells).alloc (.cells x.cells.toArray 24)).alloc (.cells zeroTb.cells.toArray 28)
  have hR : Whole (((w.alloc (.cells t.cells.toArray 28)).alloc (.cells x.cells.toArray 24)).alloc (.cells #[.int .i64 0, .int .i64 0, .bool false, .string { data := #[] }, .int .i64 0, .int .i64 0, .bool false, .string { data := #[] }, .int .i64 0, .int .i64 0, .bool false, .string { data := #[] }, .int .i64 0, .int .i64 0, .bool false, .string { data := #[] }] 28)) (w.alloc (.cells t.cells.toArray 28)).heap.size 24 x.cells := (Whole.new (w.alloc (.cells t.cells.toArray 28)) 24 x.cells).alloc (.cells zeroTb.cells.toArray 28)
  have hZ : Whole (((w.alloc (.cells t.cells.toArray 28)).alloc (.cells x.cells.toArray 24)).alloc (.cells #[.int .i64 0, .int .i64 0, .bool false, .string { data := #[] }, .int .i64 0, .int .i64 0, .bool false, .string { data := #[] }, .int .i64 0, .int .i64 0, .bool false, .string { data := #[] }, .int .i64 0, .int .i64 0, .bool false, .string { data := #[] }] 28)) ((w.alloc (.cells t.cells.toArray 28)).alloc (.cells x.cells.toArray 24)).heap.size 28 zeroTb.cells := Whole.new ((w.alloc (.cells t.cells.toArray 28)).alloc (.cells x.cells.toArray 24)) 28 zeroTb.cells
  rw [World.size_alloc] at hR
  rw [World.size_alloc, World.size_alloc] at hZ
  have hB : Below w.heap.size w (((w.alloc (.cells t.cells.toArray 28)).alloc (.cells x.cells.toArray 24)).alloc (.cells #[.int .i64 0, .int .i64 0, .bool false, .string { data := #[] }, .int .i64 0, .int .i64 0, .bool false, .string { data := #[] }, .int .i64 0, .int .i64 0, .bool false, .string { data := #[] }, .int .i64 0, .int .i64 0, .bool false, .string { data := #[] }] 28)) :=
    (((Below.refl _ _).alloc (Nat.le_refl _) _).alloc (by simp) _).alloc (by simp; omega) _
  have HT := Lib.hid hT; clear hT
  have HR := Lib.hid hR; clear hR
  have HZ := Lib.hid hZ; clear hZ
  go_enter Try.func8, Try.ntmps8
  go_wp2_with (with_reducible refine wpList_load_table rfl (.tmp 4) rfl w.heap.size rfl 28 t HT.out ?_)
  refine (HA.out _).mono ?_
  clear HA
  rintro e1 w1 ⟨rfl, hb1⟩
  have hsz := hb1.size
  simp only [World.size_alloc] at hsz
  have T1 := Lib.hid (HT.out.below hb1 (by simp; omega))
  have R1 := Lib.hid (HR.out.below hb1 (by simp))
  have Z1 := Lib.hid (HZ.out.below hb1 (by simp))
  have hbb : Below w.heap.size w w1 := hB.trans (hb1.mono (by simp; omega))
  clear hb1 hB HT HR HZ
  have R2 := Lib.hid (R1.out.alloc (.cells #[.int .i64 re, .bool rf, .string rv] 24))
  have T2 := Lib.hid (T1.out.alloc (.cells #[.int .i64 re, .bool rf, .string rv] 24))
  have A1 := Lib.hid (Z1.out.alloc (.cells #[.int .i64 re, .bool rf, .string rv] 24))
  have hs1 : w.heap.size + 3 ≤ w1.heap.size := by omega
  have HB2 := Lib.hid ((hbb.alloc (by omega) (.cells #[.int .i64 re, .bool rf, .string rv] 24)))
  clear hsz hbb T1 R1 Z1
  have HX := bad_any x
  rw [hx] at HX
  have HX := Lib.hid HX
  clear hx
  go_wp2_with (with_reducible refine wpList_load_reply rfl (.tmp 7) rfl (w.heap.size + 1) rfl 24 x R2.out ?_)
  have HX := Lib.hid (fun w => HX.out w)
  refine (HX.out _).mono ?_
  clear HX
  rintro e2 w2 ⟨rfl, hb2⟩
  have hs2 := hb2.size
  simp only [World.size_alloc] at hs2
  have T2 := Lib.hid (T2.out.below hb2 (by simp; omega))
  have R2 := Lib.hid (R2.out.below hb2 (by simp; omega))
  have A1 := Lib.hid (A1.out.below hb2 (by simp; omega))
  have HB2 := Lib.hid (HB2.out.trans (hb2.mono (by simp; omega)))
  clear hb2
  go_wp2_with (with_reducible refine wpList_store_table rfl (.tmp 8) (.tmp 28) rfl (w.heap.size + 1 + 1) zeroTb zeroTb rfl rfl A1.out ?_)
  intro w3 hw2 hO
  have hW2 := Lib.hid hw2
  have HB3 := Lib.hid (Only.below HB2.out hO (by omega) (by omega))
  clear hw2 hO
  go_wp2_with fail
  exact bodyPost_ret (results_table rfl _ _ (w.heap.size + 1 + 1) zeroTb rfl hW2.out) rfl ⟨rfl, HB3.out⟩

set_option maxHeartbeats 2000000 in
theorem note_old (t : Tb) (c s : Int) (x : Rp) (re : Int) (rf : Bool) (rv : ByteArray) (er : Int) (hask : ask t c s = (false, ⟨re, rf, rv⟩, er)) (her : (er == 2) = false) (hx : badB x = false) (w : World) :
    Calls Try.prog 8 #[.agg t.cells.toArray, .int .i64 c, .int .i64 s, .agg x.cells.toArray] w fun e w' =>
      e = .returned (.tuple #[.agg zeroTb.cells.toArray, .int .i64 220]) ∧ Below w.heap.size w w' := by
  have HA := ask_any t c s
  rw [hask] at HA
  simp only [Rp.cells] at HA
  have HA := Lib.hid HA
  clear hask
  have hT : Whole (((w.alloc (.cells t.cells.toArray 28)).alloc (.cells x.cells.toArray 24)).alloc (.cells #[.int .i64 0, .int .i64 0, .bool false, .string { data := #[] }, .int .i64 0, .int .i64 0, .bool false, .string { data := #[] }, .int .i64 0, .int .i64 0, .bool false, .string { data := #[] }, .int .i64 0, .int .i64 0, .bool false, .string { data := #[] }] 28)) w.heap.size 28 t.cells := ((Whole.new w 28 t.cells).alloc (.cells x.cells.toArray 24)).alloc (.cells zeroTb.cells.toArray 28)
  have hR : Whole (((w.alloc (.cells t.cells.toArray 28)).alloc (.cells x.cells.toArray 24)).alloc (.cells #[.int .i64 0, .int .i64 0, .bool false, .string { data := #[] }, .int .i64 0, .int .i64 0, .bool false, .string { data := #[] }, .int .i64 0, .int .i64 0, .bool false, .string { data := #[] }, .int .i64 0, .int .i64 0, .bool false, .string { data := #[] }] 28)) (w.alloc (.cells t.cells.toArray 28)).heap.size 24 x.cells := (Whole.new (w.alloc (.cells t.cells.toArray 28)) 24 x.cells).alloc (.cells zeroTb.cells.toArray 28)
  have hZ : Whole (((w.alloc (.cells t.cells.toArray 28)).alloc (.cells x.cells.toArray 24)).alloc (.cells #[.int .i64 0, .int .i64 0, .bool false, .string { data := #[] }, .int .i64 0, .int .i64 0, .bool false, .string { data := #[] }, .int .i64 0, .int .i64 0, .bool false, .string { data := #[] }, .int .i64 0, .int .i64 0, .bool false, .string { data := #[] }] 28)) ((w.alloc (.cells t.cells.toArray 28)).alloc (.cells x.cells.toArray 24)).heap.size 28 zeroTb.cells := Whole.new ((w.alloc (.cells t.cells.toArray 28)).alloc (.cells x.cells.toArray 24)) 28 zeroTb.cells
  rw [World.size_alloc] at hR
  rw [World.size_alloc, World.size_alloc] at hZ
  have hB : Below w.heap.size w (((w.alloc (.cells t.cells.toArray 28)).alloc (.cells x.cells.toArray 24)).alloc (.cells #[.int .i64 0, .int .i64 0, .bool false, .string { data := #[] }, .int .i64 0, .int .i64 0, .bool false, .string { data := #[] }, .int .i64 0, .int .i64 0, .bool false, .string { data := #[] }, .int .i64 0, .int .i64 0, .bool false, .string { data := #[] }] 28)) :=
    (((Below.refl _ _).alloc (Nat.le_refl _) _).alloc (by simp) _).alloc (by simp; omega) _
  have HT := Lib.hid hT; clear hT
  have HR := Lib.hid hR; clear hR
  have HZ := Lib.hid hZ; clear hZ
  go_enter Try.func8, Try.ntmps8
  go_wp2_with (with_reducible refine wpList_load_table rfl (.tmp 4) rfl w.heap.size rfl 28 t HT.out ?_)
  refine (HA.out _).mono ?_
  clear HA
  rintro e1 w1 ⟨rfl, hb1⟩
  have hsz := hb1.size
  simp only [World.size_alloc] at hsz
  have T1 := Lib.hid (HT.out.below hb1 (by simp; omega))
  have R1 := Lib.hid (HR.out.below hb1 (by simp))
  have Z1 := Lib.hid (HZ.out.below hb1 (by simp))
  have hbb : Below w.heap.size w w1 := hB.trans (hb1.mono (by simp; omega))
  clear hb1 hB HT HR HZ
  have R2 := Lib.hid (R1.out.alloc (.cells #[.int .i64 re, .bool rf, .string rv] 24))
  have T2 := Lib.hid (T1.out.alloc (.cells #[.int .i64 re, .bool rf, .string rv] 24))
  have A1 := Lib.hid (Z1.out.alloc (.cells #[.int .i64 re, .bool rf, .string rv] 24))
  have hs1 : w.heap.size + 3 ≤ w1.heap.size := by omega
  have HB2 := Lib.hid ((hbb.alloc (by omega) (.cells #[.int .i64 re, .bool rf, .string rv] 24)))
  clear hsz hbb T1 R1 Z1
  have HX := bad_any x
  rw [hx] at HX
  have HX := Lib.hid HX
  clear hx
  go_wp2_with (with_reducible refine wpList_load_reply rfl (.tmp 7) rfl (w.heap.size + 1) rfl 24 x R2.out ?_)
  have HX := Lib.hid (fun w => HX.out w)
  refine (HX.out _).mono ?_
  clear HX
  rintro e2 w2 ⟨rfl, hb2⟩
  have hs2 := hb2.size
  simp only [World.size_alloc] at hs2
  have T2 := Lib.hid (T2.out.below hb2 (by simp; omega))
  have R2 := Lib.hid (R2.out.below hb2 (by simp; omega))
  have A1 := Lib.hid (A1.out.below hb2 (by simp; omega))
  have HB2 := Lib.hid (HB2.out.trans (hb2.mono (by simp; omega)))
  clear hb2
  go_wp2_with (with_reducible refine wpList_store_table rfl (.tmp 8) (.tmp 32) rfl (w.heap.size + 1 + 1) zeroTb zeroTb rfl rfl A1.out ?_)
  intro w3 hw2 hO
  have hW2 := Lib.hid hw2
  have HB3 := Lib.hid (Only.below HB2.out hO (by omega) (by omega))
  clear hw2 hO
  go_wp2_with fail
  exact bodyPost_ret (results_table rfl _ _ (w.heap.size + 1 + 1) zeroTb rfl hW2.out) rfl ⟨rfl, HB3.out⟩

set_option maxHeartbeats 2000000 in
theorem note_ok (t : Tb) (s : Int) (x : Rp) (k : Nat) (hk : k < 4) (re : Int) (rf : Bool) (rv : ByteArray) (er : Int) (hask : ask t k s = (true, ⟨re, rf, rv⟩, er)) (her : (er == 2) = false) (hx : badB x = false) (w : World) :
    Calls Try.prog 8 #[.agg t.cells.toArray, .int .i64 k, .int .i64 s, .agg x.cells.toArray] w fun e w' =>
      e = .returned (.tuple #[.agg (t.put k ⟨s, x⟩).cells.toArray, .int .i64 0]) ∧ Below w.heap.size w w' := by
  have HA := ask_any t k s
  rw [hask] at HA
  simp only [Rp.cells] at HA
  have HA := Lib.hid HA
  clear hask
  have hT : Whole (((w.alloc (.cells t.cells.toArray 28)).alloc (.cells x.cells.toArray 24)).alloc (.cells #[.int .i64 0, .int .i64 0, .bool false, .string { data := #[] }, .int .i64 0, .int .i64 0, .bool false, .string { data := #[] }, .int .i64 0, .int .i64 0, .bool false, .string { data := #[] }, .int .i64 0, .int .i64 0, .bool false, .string { data := #[] }] 28)) w.heap.size 28 t.cells := ((Whole.new w 28 t.cells).alloc (.cells x.cells.toArray 24)).alloc (.cells zeroTb.cells.toArray 28)
  have hR : Whole (((w.alloc (.cells t.cells.toArray 28)).alloc (.cells x.cells.toArray 24)).alloc (.cells #[.int .i64 0, .int .i64 0, .bool false, .string { data := #[] }, .int .i64 0, .int .i64 0, .bool false, .string { data := #[] }, .int .i64 0, .int .i64 0, .bool false, .string { data := #[] }, .int .i64 0, .int .i64 0, .bool false, .string { data := #[] }] 28)) (w.alloc (.cells t.cells.toArray 28)).heap.size 24 x.cells := (Whole.new (w.alloc (.cells t.cells.toArray 28)) 24 x.cells).alloc (.cells zeroTb.cells.toArray 28)
  have hZ : Whole (((w.alloc (.cells t.cells.toArray 28)).alloc (.cells x.cells.toArray 24)).alloc (.cells #[.int .i64 0, .int .i64 0, .bool false, .string { data := #[] }, .int .i64 0, .int .i64 0, .bool false, .string { data := #[] }, .int .i64 0, .int .i64 0, .bool false, .string { data := #[] }, .int .i64 0, .int .i64 0, .bool false, .string { data := #[] }] 28)) ((w.alloc (.cells t.cells.toArray 28)).alloc (.cells x.cells.toArray 24)).heap.size 28 zeroTb.cells := Whole.new ((w.alloc (.cells t.cells.toArray 28)).alloc (.cells x.cells.toArray 24)) 28 zeroTb.cells
  rw [World.size_alloc] at hR
  rw [World.size_alloc, World.size_alloc] at hZ
  have hB : Below w.heap.size w (((w.alloc (.cells t.cells.toArray 28)).alloc (.cells x.cells.toArray 24)).alloc (.cells #[.int .i64 0, .int .i64 0, .bool false, .string { data := #[] }, .int .i64 0, .int .i64 0, .bool false, .string { data := #[] }, .int .i64 0, .int .i64 0, .bool false, .string { data := #[] }, .int .i64 0, .int .i64 0, .bool false, .string { data := #[] }] 28)) :=
    (((Below.refl _ _).alloc (Nat.le_refl _) _).alloc (by simp) _).alloc (by simp; omega) _
  have HT := Lib.hid hT; clear hT
  have HR := Lib.hid hR; clear hR
  have HZ := Lib.hid hZ; clear hZ
  go_enter Try.func8, Try.ntmps8
  go_wp2_with (with_reducible refine wpList_load_table rfl (.tmp 4) rfl w.heap.size rfl 28 t HT.out ?_)
  refine (HA.out _).mono ?_
  clear HA
  rintro e1 w1 ⟨rfl, hb1⟩
  have hsz := hb1.size
  simp only [World.size_alloc] at hsz
  have T1 := Lib.hid (HT.out.below hb1 (by simp; omega))
  have R1 := Lib.hid (HR.out.below hb1 (by simp))
  have Z1 := Lib.hid (HZ.out.below hb1 (by simp))
  have hbb : Below w.heap.size w w1 := hB.trans (hb1.mono (by simp; omega))
  clear hb1 hB HT HR HZ
  have R2 := Lib.hid (R1.out.alloc (.cells #[.int .i64 re, .bool rf, .string rv] 24))
  have T2 := Lib.hid (T1.out.alloc (.cells #[.int .i64 re, .bool rf, .string rv] 24))
  have A1 := Lib.hid (Z1.out.alloc (.cells #[.int .i64 re, .bool rf, .string rv] 24))
  have hs1 : w.heap.size + 3 ≤ w1.heap.size := by omega
  have HB2 := Lib.hid ((hbb.alloc (by omega) (.cells #[.int .i64 re, .bool rf, .string rv] 24)))
  clear hsz hbb T1 R1 Z1
  have HX := bad_any x
  rw [hx] at HX
  have HX := Lib.hid HX
  clear hx
  go_wp2_with (with_reducible refine wpList_load_reply rfl (.tmp 7) rfl (w.heap.size + 1) rfl 24 x R2.out ?_)
  have HX := Lib.hid (fun w => HX.out w)
  refine (HX.out _).mono ?_
  clear HX
  rintro e2 w2 ⟨rfl, hb2⟩
  have hs2 := hb2.size
  simp only [World.size_alloc] at hs2
  have T2 := Lib.hid (T2.out.below hb2 (by simp; omega))
  have R2 := Lib.hid (R2.out.below hb2 (by simp; omega))
  have A1 := Lib.hid (A1.out.below hb2 (by simp; omega))
  have HB2 := Lib.hid (HB2.out.trans (hb2.mono (by simp; omega)))
  clear hb2
  have HP := Lib.hid (put_cells t k hk ⟨s, x⟩)
  obtain ⟨xe, xf, xv⟩ := x
  simp only at HP
  have hcell := fun j x hj => t.cell_at k _ (t.rows_at k hk) j x hj
  have c0 := (T2.out.cell _).trans (hcell 0 _ rfl)
  have c1 := (T2.out.cell _).trans (hcell 1 _ rfl)
  have c2 := (T2.out.cell _).trans (hcell 2 _ rfl)
  have c3 := (T2.out.cell _).trans (hcell 3 _ rfl)
  clear hcell
  generalize t.at_ k = r at c0 c1 c2 c3
  simp only [Nat.zero_add, Nat.add_zero] at c0 c1 c2 c3
  have f0 := T2.out.free (k * 4)
  have f1 := T2.out.free (k * 4 + 1)
  have f2 := T2.out.free (k * 4 + 2)
  have f3 := T2.out.free (k * 4 + 3)
  have r0 := R2.out.cell 0
  have r1 := R2.out.cell 1
  have r2 := R2.out.cell 2
  simp only [Rp.cells, List.getElem?_cons_zero, List.getElem?_cons_succ] at r0 r1 r2
  have T3 := (((T2.out.set (k * 4) (.int .i64 s)).set (k * 4 + 1) (.int .i64 xe)).set (k * 4 + 2) (.bool xf)).set (k * 4 + 3) (.string xv)
  have T3 := HP.out ▸ T3
  have T3 := Lib.hid T3
  have A3 := Lib.hid ((((A1.out.far (p := ⟨w.heap.size, k * 4, none⟩) (by simp; omega) (.int .i64 s)).far (p := ⟨w.heap.size, k * 4 + 1, none⟩) (by simp; omega) (.int .i64 xe)).far (p := ⟨w.heap.size, k * 4 + 2, none⟩) (by simp; omega) (.bool xf)).far (p := ⟨w.heap.size, k * 4 + 3, none⟩) (by simp; omega) (.string xv))
  have B3 := Lib.hid ((((HB2.out.setCell (p := ⟨w.heap.size, k * 4, none⟩) (by simp) (.int .i64 s)).setCell (p := ⟨w.heap.size, k * 4 + 1, none⟩) (by simp) (.int .i64 xe)).setCell (p := ⟨w.heap.size, k * 4 + 2, none⟩) (by simp) (.bool xf)).setCell (p := ⟨w.heap.size, k * 4 + 3, none⟩) (by simp) (.string xv))
  clear HP T2 R2 A1
  go_wp2_with (first | (with_reducible refine wpList_load_table rfl (.tmp 4) rfl w.heap.size rfl 28 (t.put k ⟨s, xe, xf, xv⟩) T3.out ?_) | (with_reducible refine wpList_store_table rfl (.tmp 8) (.tmp 38) rfl (w.heap.size + 1 + 1) (t.put k ⟨s, xe, xf, xv⟩) zeroTb rfl rfl A3.out ?_))
  intro w3 hw2 hO
  have hW2 := Lib.hid hw2
  have HB3 := Lib.hid (Only.below B3.out hO (by simp; omega) (by omega))
  clear hw2 hO
  go_wp2_with fail
  exact bodyPost_ret (results_table rfl _ _ (w.heap.size + 1 + 1) (t.put k ⟨s, xe, xf, xv⟩) rfl hW2.out) rfl ⟨rfl, HB3.out⟩


theorem argB_false {t : Tb} {c s : Int} (h : argB t c s = false) : 0 ≤ c ∧ c < 4 ∧ 1 ≤ s ∧ s ≤ 1099511627776 ∧ mayB t = true := by
  unfold argB at h
  simp only [Bool.or_eq_false_iff, decide_eq_false_iff_not, Bool.not_eq_false'] at h
  obtain ⟨⟨⟨⟨h1, h2⟩, h3⟩, h4⟩, h5⟩ := h
  exact ⟨by omega, by omega, by omega, by omega, h5⟩

/-- What Note returns, of whatever. -/
theorem note_any (t : Tb) (c s : Int) (x : Rp) (w : World) :
    Calls Try.prog 8 #[.agg t.cells.toArray, .int .i64 c, .int .i64 s, .agg x.cells.toArray] w fun e w' =>
      e = .returned (.tuple #[.agg (note t c s x).1.cells.toArray, .int .i64 (note t c s x).2]) ∧ Below w.heap.size w w' := by
  cases ha : argB t c s with
  | true =>
    have h1 : ask t c s = (false, ⟨0, false, ByteArray.empty⟩, 2) := by unfold ask; rw [if_pos ha]; rfl
    have h2 : note t c s x = (zeroTb, 2) := by unfold note; rw [ha]; rfl
    rw [h2]
    exact note_arg t c s x 0 false ByteArray.empty h1 w
  | false =>
    obtain ⟨hc0, hc4, _⟩ := argB_false ha
    obtain ⟨k, rfl⟩ := Int.eq_ofNat_of_zero_le hc0
    have hk : k < 4 := by omega
    have h1 : ∃ fr re rf rv er, ask t k s = (fr, ⟨re, rf, rv⟩, er) ∧ (er == 2) = false ∧ fr = decide ((t.at_ k).seq < s) := by
      unfold ask
      rw [ha]
      by_cases hl : (t.at_ k).seq < s
      · exact ⟨true, 0, false, ByteArray.empty, 0, by rw [if_pos hl]; rfl, rfl, (decide_eq_true hl).symm⟩
      · by_cases hg : s < (t.at_ k).seq
        · exact ⟨false, 0, false, ByteArray.empty, 220, by rw [if_neg hl, if_pos hg]; rfl, rfl, (decide_eq_false hl).symm⟩
        · exact ⟨false, _, _, _, 0, by rw [if_neg hl, if_neg hg]; rfl, rfl, (decide_eq_false hl).symm⟩
    obtain ⟨fr, re, rf, rv, er, h1, her, hfr⟩ := h1
    cases hb : badB x with
    | true =>
      have h2 : note t k s x = (zeroTb, 2) := by unfold note; rw [ha, hb]; rfl
      rw [h2]
      exact note_bad t k s x re rf fr rv er h1 her hb w
    | false =>
      by_cases hl : (t.at_ k).seq < s
      · rw [hfr, decide_eq_true hl] at h1
        have h2 : note t k s x = (t.put k ⟨s, x⟩, 0) := by unfold note; rw [ha, hb, if_pos hl]; rfl
        rw [h2]
        exact note_ok t s x k hk re rf rv er h1 her hb w
      · rw [hfr, decide_eq_false hl] at h1
        have h2 : note t k s x = (zeroTb, 220) := by unfold note; rw [ha, hb, if_neg hl]; rfl
        rw [h2]
        exact note_old t k s x re rf rv er h1 her hb w

end Se
end Go.Proofs.Ythnolfgbpifcaaa
