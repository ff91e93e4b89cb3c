/- The chapter's examples: awake. -/
import Derived.Test.YtnjejffbcgchlaaDiskDo
set_option linter.unusedSimpArgs false
set_option linter.unusedVariables false
namespace Go.Proofs.Ytnjejffbcgchlaa
open Go.RowKit
namespace Di
theorem Stays.of_box {w0 : World} {l : List It} {g : Nat} {t : TypeId} {n : Nat} {cs : List Value} (h : .box g t cs ∈ l) (hn : n ≤ maxLen) : Stays w0 l (.slice (some ⟨g, 0, none⟩) n n) n cs := fun a u hs => by
  have hw : Whole u g t cs := hs.holds _ (List.mem_append_right _ h)
  exact Row.blk (show u.heap[g]? = some (.cells cs.toArray t (0, 0)) from hw) rfl hw.lt hn
theorem wpList_go_want {P : Program} {ops : Array Oper} {rest : List Oper} {o : Oper} {a : Act} {w : World} {Q : Exit → Act → World → Prop} (hw : Region.wanted o (yielded ops a.tmps) = true) (v : Value) (w' : World) (hx : (execOp a.eval o).run P w = .ok (.value v) w') (h : wpList P ops Q rest (a.put o.dst v) w') : wpList P ops Q (o :: rest) a w :=
  BigFrame.wpList_want hw fun K hK => by
    unfold Oper.wp
    rw [hx]
    exact hK _ _ h
theorem exec_make64 {op : Oper} {a : Act} {w : World} (ho : op.op = .makeSlice 22 (.const (.int .i64 64)) (.const (.int .i64 64))) :
    (execOp a.eval op).run Try.prog w = .ok (.value (.slice (some ⟨w.heap.size, 0, none⟩) 64 64)) (w.alloc (.cells (u8s (List.replicate 64 0)).toArray 5)) := by
  obtain ⟨i0, hi, hz0, hz1, hz2⟩ := info_parts info_u8
  have hr := run_make (P := Try.prog) w 22 5 i0 _ Try.underlying22 hi hz0 .i64 .i64 64 64 (by omega) (by omega) (by rw [hz2]; omega) (by omega)
  have he : madeCells (Value.int .u8 0).cells ((64 : Int).toNat * i0.size) = (u8s (List.replicate 64 0)).toArray := by
    apply Array.ext'
    rw [hz1, show (Value.int .u8 0).cells = #[Value.int .u8 0] from rfl, toList_madeCells_one]
    simp [u8s]
  rw [he] at hr
  unfold execOp
  simp only [ho, Act.eval, hr, Sem.run_bind, Result.andThen_ok, Sem.run_pure]
  rfl
def a0 : Dk := new 4
theorem a0_ok : Ok a0 := new_ok (by decide) (by decide)
def a1 : Dk := writeD a0 1 (sectorL 5 [])
theorem a1_ok : Ok a1 := write_ok a0_ok _ _
def a2 : Dk := crashD a1 []
theorem a2_ok : Ok a2 := crash_ok a1_ok _
def a3 : Dk := startD a2
theorem a3_ok : Ok a3 := start_ok a2_ok
def a4 : Dk := writeD a3 1 (sectorL 5 [])
theorem a4_ok : Ok a4 := write_ok a3_ok _ _
def a5 : Dk := writeD a4 2 (sectorL 6 [])
theorem a5_ok : Ok a5 := write_ok a4_ok _ _
def a6 : Dk := crashD a5 [false, true]
theorem a6_ok : Ok a6 := crash_ok a5_ok _
def a7 : Dk := startD a6
theorem a7_ok : Ok a7 := start_ok a6_ok
def a8 : Dk := flipD a7 0 9
theorem a8_ok : Ok a8 := flip_ok a7_ok _ _
def a9 : Dk := loseD a8 3
theorem a9_ok : Ok a9 := lose_ok a8_ok _
def a10 : Dk := writeD a9 3 (sectorL 7 [])
theorem a10_ok : Ok a10 := write_ok a9_ok _ _
def a11 : Dk := flushD a10
theorem a11_ok : Ok a11 := flush_ok a10_ok
theorem aw_e1 : writeE a0 1 (sectorL 5 []) = 0 := by kernel_rfl
theorem aw_e2 : crashE a1 = 0 := by kernel_rfl
theorem aw_e3 : startE a2 = 0 := by kernel_rfl
theorem aw_r3 : readsB a3 1 0 = true := by kernel_rfl
theorem aw_e4 : writeE a3 1 (sectorL 5 []) = 0 := by kernel_rfl
theorem aw_e5 : writeE a4 2 (sectorL 6 []) = 0 := by kernel_rfl
theorem aw_e6 : crashE a5 = 0 := by kernel_rfl
theorem aw_e7 : startE a6 = 0 := by kernel_rfl
theorem aw_r7a : readsB a7 1 0 = true := by kernel_rfl
theorem aw_r7b : readsB a7 2 6 = true := by kernel_rfl
theorem aw_e8 : faultE a7 0 9 = 0 := by kernel_rfl
theorem aw_e8r : readE a8 0 = 0 := by kernel_rfl
theorem aw_v8r : readV a8 0 = 0 :: 2 :: 0 :: List.replicate 61 0 := by kernel_rfl
theorem aw_e8m : thereE a8 [0] = 0 := by kernel_rfl
theorem aw_v8m : meantV a8 0 = List.replicate 64 0 := by kernel_rfl
theorem aw_e9 : thereE a8 [3] = 0 := by kernel_rfl
theorem aw_e9r : readE a9 3 = 50 := by kernel_rfl
theorem aw_e10 : writeE a9 3 (sectorL 7 []) = 0 := by kernel_rfl
theorem aw_r10 : readsB a10 3 7 = true := by kernel_rfl
theorem aw_e11 : flushE a10 = 0 := by kernel_rfl
theorem aw_r11 : readsB a11 3 7 = true := by kernel_rfl
theorem a0_few : a0.waits.length ≤ 1000000000 := by decide +kernel
theorem a3_few : a3.waits.length ≤ 1000000000 := by decide +kernel
theorem a4_few : a4.waits.length ≤ 1000000000 := by decide +kernel
theorem a9_few : a9.waits.length ≤ 1000000000 := by decide +kernel

set_option maxRecDepth 100000 in
set_option maxHeartbeats 8000000 in
theorem awake_is (w : World) : Calls Try.prog 10 #[] w fun e w' => e = .returned (.bool true) ∧ Below w.heap.size w w' := by
  have N := Lib.hid (new_is 4 (by omega) (by omega) w (Sep.start w (Below.refl _ _)))
  go_enter Try.func10, Try.ntmps10
  go_wp2_with fail
  refine N.out.mono ?_
  rintro e u0 ⟨b, pv, rfl, hs⟩
  have H0 : Hid (Sep w (dI w.heap.size b pv (.slice none 0 0) a0 ++ []) u0) := hs
  clear hs N
  have C := Lib.hid (sector_is 0 0 5 [] (.slice none 0 0) (.slice none 0 0) u0 H0.out (Stays.nil _ _) (by simp))
  go_wp2_with fail
  refine C.out.mono ?_
  rintro e u1 ⟨v, rfl, hs⟩
  have hs9 : Sep w (dI w.heap.size b pv (.slice none 0 0) a0 ++ [rowB w.heap.size v (sectorL 5 [])]) u1 := hs
  clear C hs
  have C := write_is a0 a0_ok 1 (sectorL 5 []) b pv _ v u1 hs9 (Stays.of_own (base := w.heap.size) (e := 5) (K := 1) (by simp [rowB])) a0_few
  rw [aw_e1] at C
  have C := Lib.hid C
  go_wp2_with fail
  refine C.out.mono ?_
  rintro e u2 ⟨rfl, wv2, hs⟩
  have H2 : Hid (Sep w (dI w.heap.size b pv wv2 a1 ++ []) u2) := hs.first
  clear hs C H0
  clear hs9
  have C := crash_is a1 a1_ok [] b pv _ (.slice none 0 0) u2 H2.out (Stays.nil _ _)
  rw [aw_e2] at C
  have C := Lib.hid C
  go_wp2_with fail
  refine C.out.mono ?_
  rintro e u3 ⟨rfl, wv3, hs⟩
  have H3 : Hid (Sep w (dI w.heap.size b pv wv3 a2 ++ []) u3) := hs.first
  clear hs C H2
  have C := start_is a2 a2_ok b pv _ u3 H3.out
  rw [aw_e3] at C
  have C := Lib.hid C
  go_wp2_with fail
  refine C.out.mono ?_
  rintro e u4 ⟨rfl, hs⟩
  have H4 : Hid (Sep w (dI w.heap.size b pv wv3 a3 ++ []) u4) := hs.first
  clear hs C H3
  have C := reads_is a3 a3_ok 1 0 (by omega) (by omega) b pv _ u4 H4.out
  rw [aw_r3] at C
  have C := Lib.hid C
  go_wp2_with fail
  refine C.out.mono ?_
  rintro e u5 ⟨rfl, hs⟩
  have H5 : Hid (Sep w (dI w.heap.size b pv wv3 a3 ++ []) u5) := hs.first
  clear hs C H4
  have C := Lib.hid (sector_is 0 0 5 [] (.slice none 0 0) (.slice none 0 0) u5 H5.out (Stays.nil _ _) (by simp))
  go_wp2_with fail
  refine C.out.mono ?_
  rintro e u6 ⟨v, rfl, hs⟩
  have hs9 : Sep w (dI w.heap.size b pv wv3 a3 ++ [rowB w.heap.size v (sectorL 5 [])]) u6 := hs
  clear C hs
  have C := write_is a3 a3_ok 1 (sectorL 5 []) b pv _ v u6 hs9 (Stays.of_own (base := w.heap.size) (e := 5) (K := 1) (by simp [rowB])) a3_few
  rw [aw_e4] at C
  have C := Lib.hid C
  go_wp2_with fail
  refine C.out.mono ?_
  rintro e u7 ⟨rfl, wv7, hs⟩
  have H7 : Hid (Sep w (dI w.heap.size b pv wv7 a4 ++ []) u7) := hs.first
  clear hs C H5
  clear hs9
  have C := Lib.hid (sector_is 0 0 6 [] (.slice none 0 0) (.slice none 0 0) u7 H7.out (Stays.nil _ _) (by simp))
  go_wp2_with fail
  refine C.out.mono ?_
  rintro e u8 ⟨v, rfl, hs⟩
  have hs9 : Sep w (dI w.heap.size b pv wv7 a4 ++ [rowB w.heap.size v (sectorL 6 [])]) u8 := hs
  clear C hs
  have C := write_is a4 a4_ok 2 (sectorL 6 []) b pv _ v u8 hs9 (Stays.of_own (base := w.heap.size) (e := 5) (K := 1) (by simp [rowB])) a4_few
  rw [aw_e5] at C
  have C := Lib.hid C
  go_wp2_with fail
  refine C.out.mono ?_
  rintro e u9 ⟨rfl, wv9, hs⟩
  have H9 : Hid (Sep w (dI w.heap.size b pv wv9 a5 ++ []) u9) := hs.first
  clear hs C H7
  clear hs9
  have hs9 : Sep w (dI w.heap.size b pv wv9 a5 ++ [.box u9.heap.size 4 [.bool false, .bool true]]) (u9.alloc (.cells #[.bool false, .bool true] 4)) := (H9.out.alloc 4 [.bool false, .bool true]).perm (List.perm_append_singleton _ _).symm
  have C := crash_is a5 a5_ok [false, true] b pv _ (.slice (some ⟨u9.heap.size, 0, none⟩) 2 2) _ hs9 (Stays.of_box (t := 4) (n := 2) (cs := [.bool false, .bool true]) (by simp) (by simp [maxLen]))
  rw [aw_e6] at C
  have C := Lib.hid C
  go_wp2_with fail
  refine C.out.mono ?_
  rintro e u10 ⟨rfl, wv10, hs⟩
  have H10 : Hid (Sep w (dI w.heap.size b pv wv10 a6 ++ []) u10) := hs.first
  clear hs C H9
  clear hs9
  have C := start_is a6 a6_ok b pv _ u10 H10.out
  rw [aw_e7] at C
  have C := Lib.hid C
  go_wp2_with fail
  refine C.out.mono ?_
  rintro e u11 ⟨rfl, hs⟩
  have H11 : Hid (Sep w (dI w.heap.size b pv wv10 a7 ++ []) u11) := hs.first
  clear hs C H10
  have C := reads_is a7 a7_ok 1 0 (by omega) (by omega) b pv _ u11 H11.out
  rw [aw_r7a] at C
  have C := Lib.hid C
  go_wp2_with fail
  refine C.out.mono ?_
  rintro e u12 ⟨rfl, hs⟩
  have H12 : Hid (Sep w (dI w.heap.size b pv wv10 a7 ++ []) u12) := hs.first
  clear hs C H11
  have C := reads_is a7 a7_ok 2 6 (by omega) (by omega) b pv _ u12 H12.out
  rw [aw_r7b] at C
  have C := Lib.hid C
  go_wp2_with fail
  refine C.out.mono ?_
  rintro e u13 ⟨rfl, hs⟩
  have H13 : Hid (Sep w (dI w.heap.size b pv wv10 a7 ++ []) u13) := hs.first
  clear hs C H12
  have C := flip_is a7 a7_ok 0 9 b pv _ u13 H13.out
  rw [aw_e8] at C
  have C := Lib.hid C
  go_wp2_with fail
  refine C.out.mono ?_
  rintro e u14 ⟨rfl, hs⟩
  have H14 : Hid (Sep w (dI w.heap.size b pv wv10 a8 ++ []) u14) := hs.first
  clear hs C H13
  have C := read_is a8 a8_ok 0 b pv _ u14 H14.out
  rw [aw_e8r] at C
  have C := Lib.hid C
  go_wp2_with fail
  refine C.out.mono ?_
  rintro e u15 ⟨vb, rfl, hs⟩
  have C := meant_is a8 a8_ok 0 b pv _ u15 hs
  rw [aw_e8m] at C
  have C := Lib.hid C
  clear hs H14
  go_wp2_with fail
  refine C.out.mono ?_
  rintro e u16 ⟨vm, rfl, hs⟩
  clear C
  have hvb := hs.holds (rowB w.heap.size vb (readV a8 0)) (by simp)
  unfold rowB at hvb
  rw [aw_v8r] at hvb
  obtain ⟨gb, cb, hv, _⟩ := own_form hvb (by simp)
  rw [show (0 :: 2 :: 0 :: List.replicate 61 (0 : Int)).length = 64 from rfl] at hvb hv
  subst hv
  have b0 : u16.cell? ⟨gb, 0, none⟩ = some (.int .u8 0) := World.ownsRow.cellAt hvb 0 (by omega)
  have b1 : u16.cell? ⟨gb, 1, none⟩ = some (.int .u8 2) := World.ownsRow.cellAt hvb 1 (by omega)
  have b2 : u16.cell? ⟨gb, 2, none⟩ = some (.int .u8 0) := World.ownsRow.cellAt hvb 2 (by omega)
  have HM := Lib.hid (rowB_row (base := w.heap.size) hs (v := vm) (xs := meantV a8 0) (by simp))
  rw [aw_v8m] at HM
  have H16 : Hid (Sep w (dI w.heap.size b pv wv10 a8 ++ []) u16) := hs.first
  clear hs hvb
  have HM2 : Hid (Row (u16.alloc (.cells (u8s (List.replicate 64 0)).toArray 5)) u16.heap.size vm (List.replicate 64 (0 : Int)).length (u8s (List.replicate 64 0))) := HM.out.alloc (Nat.le_refl _) _
  have HZ : Hid (Row (u16.alloc (.cells (u8s (List.replicate 64 0)).toArray 5)) (u16.heap.size + 1) (.slice (some ⟨u16.heap.size, 0, none⟩) 64 64) (List.replicate 64 (0 : Int)).length (u8s (List.replicate 64 0))) := Row.blk (Whole.new _ _ _) rfl (by omega) (by simp [maxLen])
  have SM := same_is _ _ _ _ _ _ _ HM2.out HZ.out
  rw [decide_eq_true rfl] at SM
  have SM := Lib.hid SM
  clear HM HM2 HZ
  go_wp2_with (with_reducible refine wpList_go_want rfl _ _ (exec_make64 rfl) ?_)
  refine SM.out.mono ?_
  rintro e u17 ⟨rfl, hb⟩
  have H17 : Hid (Sep w (dI w.heap.size b pv wv10 a8 ++ []) u17) := (H16.out.fresh _).call hb
  clear hb SM H16
  have C := lose_is a8 a8_ok 3 b pv _ u17 H17.out
  rw [aw_e9] at C
  have C := Lib.hid C
  go_wp2_with fail
  refine C.out.mono ?_
  rintro e u18 ⟨rfl, hs⟩
  have H18 : Hid (Sep w (dI w.heap.size b pv wv10 a9 ++ []) u18) := hs.first
  clear hs C H17
  have C := read_is a9 a9_ok 3 b pv _ u18 H18.out
  rw [aw_e9r] at C
  have C := Lib.hid C
  go_wp2_with fail
  refine C.out.mono ?_
  rintro e u19 ⟨vl, rfl, hs⟩
  have H19 : Hid (Sep w (dI w.heap.size b pv wv10 a9 ++ []) u19) := hs.first
  clear hs C H18
  have C := Lib.hid (sector_is 0 0 7 [] (.slice none 0 0) (.slice none 0 0) u19 H19.out (Stays.nil _ _) (by simp))
  go_wp2_with fail
  refine C.out.mono ?_
  rintro e u20 ⟨v, rfl, hs⟩
  have hs9 : Sep w (dI w.heap.size b pv wv10 a9 ++ [rowB w.heap.size v (sectorL 7 [])]) u20 := hs
  clear C hs
  have C := write_is a9 a9_ok 3 (sectorL 7 []) b pv _ v u20 hs9 (Stays.of_own (base := w.heap.size) (e := 5) (K := 1) (by simp [rowB])) a9_few
  rw [aw_e10] at C
  have C := Lib.hid C
  go_wp2_with fail
  refine C.out.mono ?_
  rintro e u21 ⟨rfl, wv21, hs⟩
  have H21 : Hid (Sep w (dI w.heap.size b pv wv21 a10 ++ []) u21) := hs.first
  clear hs C H19
  clear hs9
  have C := reads_is a10 a10_ok 3 7 (by omega) (by omega) b pv _ u21 H21.out
  rw [aw_r10] at C
  have C := Lib.hid C
  go_wp2_with fail
  refine C.out.mono ?_
  rintro e u22 ⟨rfl, hs⟩
  have H22 : Hid (Sep w (dI w.heap.size b pv wv21 a10 ++ []) u22) := hs.first
  clear hs C H21
  have C := flush_is a10 a10_ok b pv _ u22 H22.out
  rw [aw_e11] at C
  have C := Lib.hid C
  go_wp2_with fail
  refine C.out.mono ?_
  rintro e u23 ⟨rfl, wv23, hs⟩
  have H23 : Hid (Sep w (dI w.heap.size b pv wv23 a11 ++ []) u23) := hs.first
  clear hs C H22
  have C := reads_is a11 a11_ok 3 7 (by omega) (by omega) b pv _ u23 H23.out
  rw [aw_r11] at C
  have C := Lib.hid C
  go_wp2_with fail
  refine C.out.mono ?_
  rintro e u24 ⟨rfl, hs⟩
  have H24 : Hid (Sep w (dI w.heap.size b pv wv23 a11 ++ []) u24) := hs.first
  clear hs C H23
  go_wp2_with fail
  go_ret
  exact ⟨rfl, H24.out.below⟩
end Di
end Go.Proofs.Ytnjejffbcgchlaa
