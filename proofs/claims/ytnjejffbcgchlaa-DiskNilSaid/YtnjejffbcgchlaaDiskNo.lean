/- A disk that nobody made (none, or a zero one): each function. -/
import Derived.Test.YtnjejffbcgchlaaDiskOpen
set_option linter.unusedSimpArgs false
set_option linter.unusedVariables false
namespace Go.Proofs.Ytnjejffbcgchlaa
open Go.RowKit
namespace Di
/-- No disk, or one that New did not make. -/
def No (u : World) (v : Value) : Prop := v = .pointer none ∨ ∃ b, v = .pointer (some ⟨b, 0, none⟩) ∧ u.cell? ⟨b, 0, none⟩ = some (.slice none 0 0) ∧ b < u.heap.size
theorem No.below {u u' : World} {v : Value} (h : No u v) (hb : Below u.heap.size u u') : No u' v := by
  rcases h with h | ⟨b, h, hc, hl⟩
  · exact .inl h
  · exact .inr ⟨b, h, (hb.cell (p := ⟨b, 0, none⟩) hl).trans hc, Nat.lt_of_lt_of_le hl hb.size⟩
theorem No.fresh {u : World} {v : Value} (h : No u v) (o : Obj) : No (u.alloc o) v := h.below (be1 _ _)
set_option maxHeartbeats 400000 in
theorem size_no {v : Value} {w : World} (h : No w v) : Calls Try.prog 27 #[v] w fun e w' => e = .returned (.int .i64 0) ∧ w = w' := by
  rcases h with rfl | ⟨b, rfl, hc, _⟩
  · exact size_none w
  · exact size_is b none 0 0 w hc
set_option maxHeartbeats 400000 in
theorem there_no {v : Value} {w : World} (h : No w v) (x : Value) : Calls Try.prog 36 #[v, x] w fun e w' => e = .returned (.int .i64 1) ∧ w = w' := by
  have C := Lib.hid (size_no h)
  clear h
  go_enter Try.func36, Try.ntmps36
  go_wp2_with fail
  refine C.out.mono ?_
  rintro e u ⟨rfl, rfl⟩
  go_wp2_with fail
  go_ret
  exact ⟨rfl, rfl⟩
set_option maxHeartbeats 400000 in
theorem live_no {v : Value} {w : World} (h : No w v) (x : Value) : Calls Try.prog 33 #[v, x] w fun e w' => e = .returned (.int .i64 1) ∧ w = w' := by
  have C := Lib.hid (size_no h)
  have T := Lib.hid (there_no h x)
  clear h
  go_enter Try.func33, Try.ntmps33
  go_wp2_with fail
  refine C.out.mono ?_
  rintro e u ⟨rfl, rfl⟩
  go_wp2_with fail
  refine T.out.mono ?_
  rintro e u ⟨rfl, rfl⟩
  go_wp2_with fail
  go_ret
  exact ⟨rfl, rfl⟩
set_option maxHeartbeats 400000 in
theorem read_no {v : Value} {w : World} (h : No w v) (s : Int) : Calls Try.prog 23 #[v, .int .i64 s] w fun e w' => e = .returned (.tuple #[.slice none 0 0, .int .i64 1]) ∧ Below w.heap.size w w' := by
  have T := fun x => live_no (h.fresh (.cells #[.int .i64 s] 3)) x
  have T := Lib.hid T
  clear h
  go_enter Try.func23, Try.ntmps23
  go_wp2_with fail
  refine (T.out _).mono ?_
  rintro e u ⟨rfl, rfl⟩
  go_wp2_with fail
  go_ret2
  exact ⟨rfl, be1 _ _⟩
set_option maxHeartbeats 400000 in
theorem rest_no {v : Value} {w : World} (h : No w v) (s : Int) : Calls Try.prog 26 #[v, .int .i64 s] w fun e w' => e = .returned (.tuple #[.slice none 0 0, .bool false, .int .i64 1]) ∧ Below w.heap.size w w' := by
  have T := fun x => there_no (h.fresh (.cells #[.int .i64 s] 3)) x
  have T := Lib.hid T
  clear h
  go_enter Try.func26, Try.ntmps26
  go_wp2_with fail
  refine (T.out _).mono ?_
  rintro e u ⟨rfl, rfl⟩
  go_wp2_with fail
  go_ret3
  exact ⟨rfl, be1 _ _⟩
set_option maxHeartbeats 400000 in
theorem meant_no {v : Value} {w : World} (h : No w v) (s : Int) : Calls Try.prog 24 #[v, .int .i64 s] w fun e w' => e = .returned (.tuple #[.slice none 0 0, .int .i64 1]) ∧ Below w.heap.size w w' := by
  have T := fun x => there_no (h.fresh (.cells #[.int .i64 s] 3)) x
  have T := Lib.hid T
  clear h
  go_enter Try.func24, Try.ntmps24
  go_wp2_with fail
  refine (T.out _).mono ?_
  rintro e u ⟨rfl, rfl⟩
  go_wp2_with fail
  go_ret2
  exact ⟨rfl, be1 _ _⟩
set_option maxHeartbeats 400000 in
theorem write_no {v : Value} {w : World} (h : No w v) (s : Int) (bv : Value) : Calls Try.prog 12 #[v, .int .i64 s, bv] w fun e w' => e = .returned (.int .i64 1) ∧ Below w.heap.size w w' := by
  have T := fun x => live_no (h.fresh (.cells #[.int .i64 s] 3)) x
  have T := Lib.hid T
  clear h
  go_enter Try.func12, Try.ntmps12
  go_wp2_with fail
  refine (T.out _).mono ?_
  rintro e u ⟨rfl, rfl⟩
  go_wp2_with fail
  go_ret
  exact ⟨rfl, be1 _ _⟩
set_option maxHeartbeats 400000 in
theorem flip_no {v : Value} {w : World} (h : No w v) (s n : Int) : Calls Try.prog 31 #[v, .int .i64 s, .int .i64 n] w fun e w' => e = .returned (.int .i64 1) ∧ Below w.heap.size w w' := by
  have T := fun x => there_no (h.fresh (.cells #[.int .i64 s] 3)) x
  have T := Lib.hid T
  clear h
  go_enter Try.func31, Try.ntmps31
  go_wp2_with fail
  refine (T.out _).mono ?_
  rintro e u ⟨rfl, rfl⟩
  go_wp2_with fail
  go_ret
  exact ⟨rfl, be1 _ _⟩
set_option maxHeartbeats 400000 in
theorem lose_no {v : Value} {w : World} (h : No w v) (s : Int) : Calls Try.prog 32 #[v, .int .i64 s] w fun e w' => e = .returned (.int .i64 1) ∧ Below w.heap.size w w' := by
  have T := fun x => there_no (h.fresh (.cells #[.int .i64 s] 3)) x
  have T := Lib.hid T
  clear h
  go_enter Try.func32, Try.ntmps32
  go_wp2_with fail
  refine (T.out _).mono ?_
  rintro e u ⟨rfl, rfl⟩
  go_wp2_with fail
  go_ret
  exact ⟨rfl, be1 _ _⟩
set_option maxHeartbeats 400000 in
theorem stray_no {v : Value} {w : World} (h : No w v) (s n : Int) : Calls Try.prog 40 #[v, .int .i64 s, .int .i64 n] w fun e w' => e = .returned (.int .i64 1) ∧ Below w.heap.size w w' := by
  have T := fun x => there_no (h.fresh (.cells #[.int .i64 s, .int .i64 n] 3)) x
  have T := Lib.hid T
  clear h
  go_enter Try.func40, Try.ntmps40
  go_wp2_with fail
  refine (T.out _).mono ?_
  rintro e u ⟨rfl, rfl⟩
  go_wp2_with fail
  go_ret
  exact ⟨rfl, be1 _ _⟩
set_option maxHeartbeats 400000 in
theorem flush_no {v : Value} {w : World} (h : No w v) : Calls Try.prog 20 #[v] w fun e w' => e = .returned (.int .i64 1) ∧ Below w.heap.size w w' := by
  have T := fun x => live_no h x
  have T := Lib.hid T
  clear h
  go_enter Try.func20, Try.ntmps20
  go_wp2_with fail
  refine (T.out _).mono ?_
  rintro e u ⟨rfl, rfl⟩
  go_wp2_with fail
  go_ret
  exact ⟨rfl, Below.refl _ _⟩
set_option maxHeartbeats 400000 in
theorem power_no {v : Value} {w : World} (h : No w v) (n : Int) : Calls Try.prog 19 #[v, .int .i64 n] w fun e w' => e = .returned (.int .i64 1) ∧ Below w.heap.size w w' := by
  have T := fun x => live_no h x
  have T := Lib.hid T
  clear h
  go_enter Try.func19, Try.ntmps19
  go_wp2_with fail
  refine (T.out _).mono ?_
  rintro e u ⟨rfl, rfl⟩
  go_wp2_with fail
  go_ret
  exact ⟨rfl, Below.refl _ _⟩
set_option maxHeartbeats 400000 in
theorem start_no {v : Value} {w : World} (h : No w v) : Calls Try.prog 17 #[v] w fun e w' => e = .returned (.int .i64 1) ∧ Below w.heap.size w w' := by
  have T := fun x => there_no h x
  have T := Lib.hid T
  clear h
  go_enter Try.func17, Try.ntmps17
  go_wp2_with fail
  refine (T.out _).mono ?_
  rintro e u ⟨rfl, rfl⟩
  go_wp2_with fail
  go_ret
  exact ⟨rfl, Below.refl _ _⟩
set_option maxHeartbeats 400000 in
theorem crash_no {v : Value} {w : World} (h : No w v) (ka : Option Addr) (kn kc : Nat) : Calls Try.prog 15 #[v, .slice ka kn kc] w fun e w' => e = .returned (.int .i64 1) ∧ Below w.heap.size w w' := by
  have C := Lib.hid (size_no (h.fresh (.cells #[.slice ka kn kc] 23)))
  have T := Lib.hid (fun x => there_no (h.fresh (.cells #[.slice ka kn kc] 23)) x)
  clear h
  go_enter Try.func15, Try.ntmps15
  go_wp2_with fail
  refine C.out.mono ?_
  rintro e u ⟨rfl, rfl⟩
  go_wp2_with fail
  refine (T.out _).mono ?_
  rintro e u ⟨rfl, rfl⟩
  go_wp2_with fail
  go_ret
  exact ⟨rfl, be1 _ _⟩
set_option maxHeartbeats 400000 in
theorem waits_no {v : Value} {w : World} (h : No w v) : Calls Try.prog 14 #[v] w fun e w' => e = .returned (.int .i64 0) ∧ w = w' := by
  have C := Lib.hid (size_no h)
  clear h
  go_enter Try.func14, Try.ntmps14
  go_wp2_with fail
  refine C.out.mono ?_
  rintro e u ⟨rfl, rfl⟩
  go_wp2_with fail
  go_ret
  exact ⟨rfl, rfl⟩
set_option maxHeartbeats 400000 in
theorem up_no {v : Value} {w : World} (h : No w v) : Calls Try.prog 16 #[v] w fun e w' => e = .returned (.bool false) ∧ w = w' := by
  have C := Lib.hid (size_no h)
  clear h
  go_enter Try.func16, Try.ntmps16
  go_wp2_with fail
  refine C.out.mono ?_
  rintro e u ⟨rfl, rfl⟩
  go_wp2_with fail
  go_ret
  exact ⟨rfl, rfl⟩
set_option maxHeartbeats 4000000 in
theorem do_no (a : Ac) (hkd : a.kind < 256) {v bv kv : Value} {w : World} (h : No w v) (hB : Row w w.heap.size bv a.bytes.length (u8s a.bytes)) (hK : Row w w.heap.size kv a.keep.length (bools a.keep))
    (hbl : a.bytes.length ≤ 1000000000) :
    Calls Try.prog 22 #[v, .agg #[.int .u8 (a.kind : Nat), .int .i64 a.sector, .int .i64 a.n, bv, kv]] w fun e w' => e = .returned (.int .i64 1) ∧ Below w.heap.size w w' := by
  obtain ⟨k, s, n, bs, keep⟩ := a
  dsimp only at *
  obtain ⟨Ab, cb, rfl, _, _⟩ := hB.slice
  obtain ⟨Ak, ck, rfl, _, _⟩ := hK.slice
  have H0 := Lib.hid h
  have HNO := Lib.hid (h.fresh (.cells #[.int .u8 (k : Nat), .int .i64 s, .int .i64 n, .slice Ab bs.length cb, .slice Ak keep.length ck] 33))
  have HS := Lib.hid ((Sep.start w (Below.refl _ _)).alloc 33 [.int .u8 (k : Nat), .int .i64 s, .int .i64 n, .slice Ab bs.length cb, .slice Ak keep.length ck])
  have HB : Hid (Stays w [.box w.heap.size 33 [.int .u8 (k : Nat), .int .i64 s, .int .i64 n, .slice Ab bs.length cb, .slice Ak keep.length ck]] (.slice Ab bs.length cb) bs.length (u8s bs)) := Stays.of_row hB (Nat.le_refl _)
  have HW : Whole (w.alloc (.cells #[.int .u8 (k : Nat), .int .i64 s, .int .i64 n, .slice Ab bs.length cb, .slice Ak keep.length ck] 33)) w.heap.size 33 [.int .u8 (k : Nat), .int .i64 s, .int .i64 n, .slice Ab bs.length cb, .slice Ak keep.length ck] := Whole.new _ _ _
  have hw0 := HW.cell 0; have hw1 := HW.cell 1; have hw2 := HW.cell 2; have hw3 := HW.cell 3; have hw4 := HW.cell 4
  simp only [List.getElem?_cons_zero, List.getElem?_cons_succ] at hw0 hw1 hw2 hw3 hw4
  have HWH := Lib.hid HW
  have HBL := Lib.hid hbl
  have HE : Hid (∀ u : World, Below (w.heap.size + 1) (w.alloc (.cells #[.int .u8 (k : Nat), .int .i64 s, .int .i64 n, .slice Ab bs.length cb, .slice Ak keep.length ck] 33)) u → Below w.heap.size w u) := fun u hb => (be1 w _).trans (hb.mono (by omega))
  obtain ⟨q, hq, hqm, hqi⟩ := do_cases k hkd
  clear hB hK hbl h hqm HW
  have hq' : q = 0 ∨ q = 1 ∨ q = 2 ∨ q = 3 ∨ q = 4 ∨ q = 5 ∨ q = 8 ∨ q = 6 ∨ q = 7 := by omega
  rcases hq' with rfl | rfl | rfl | rfl | rfl | rfl | rfl | rfl | rfl
  · go_enter Try.func22, Try.ntmps22
    go_wp2_with fail
    refine (flush_no HNO.out).mono ?_
    rintro e u ⟨rfl, hb⟩
    rw [sz1] at hb
    have HR := Lib.hid (HE.out _ hb)
    clear hb
    go_wp2_with fail
    go_ret
    exact ⟨rfl, HR.out⟩
  · go_enter Try.func22, Try.ntmps22
    go_wp2_with fail
    refine (crash_no HNO.out _ _ _).mono ?_
    rintro e u ⟨rfl, hb⟩
    rw [sz1] at hb
    have HR := Lib.hid (HE.out _ hb)
    clear hb
    go_wp2_with fail
    go_ret
    exact ⟨rfl, HR.out⟩
  · go_enter Try.func22, Try.ntmps22
    go_wp2_with fail
    refine (start_no HNO.out).mono ?_
    rintro e u ⟨rfl, hb⟩
    rw [sz1] at hb
    have HR := Lib.hid (HE.out _ hb)
    clear hb
    go_wp2_with fail
    go_ret
    exact ⟨rfl, HR.out⟩
  · go_enter Try.func22, Try.ntmps22
    go_wp2_with fail
    refine (flip_no HNO.out s n).mono ?_
    rintro e u ⟨rfl, hb⟩
    rw [sz1] at hb
    have HR := Lib.hid (HE.out _ hb)
    clear hb
    go_wp2_with fail
    go_ret
    exact ⟨rfl, HR.out⟩
  · go_enter Try.func22, Try.ntmps22
    go_wp2_with fail
    refine (lose_no HNO.out s).mono ?_
    rintro e u ⟨rfl, hb⟩
    rw [sz1] at hb
    have HR := Lib.hid (HE.out _ hb)
    clear hb
    go_wp2_with fail
    go_ret
    exact ⟨rfl, HR.out⟩
  · go_enter Try.func22, Try.ntmps22
    go_wp2_with fail
    refine (stray_no HNO.out s n).mono ?_
    rintro e u ⟨rfl, hb⟩
    rw [sz1] at hb
    have HR := Lib.hid (HE.out _ hb)
    clear hb
    go_wp2_with fail
    go_ret
    exact ⟨rfl, HR.out⟩
  · go_enter Try.func22, Try.ntmps22
    go_wp2_with fail
    refine (power_no HNO.out n).mono ?_
    rintro e u ⟨rfl, hb⟩
    rw [sz1] at hb
    have HR := Lib.hid (HE.out _ hb)
    clear hb
    go_wp2_with fail
    go_ret
    exact ⟨rfl, HR.out⟩
  · have C := Lib.hid (sector_is (l := [.box w.heap.size 33 [.int .u8 (k : Nat), .int .i64 s, .int .i64 n, .slice Ab bs.length cb, .slice Ak keep.length ck]]) (k : Nat) s n bs (.slice Ab bs.length cb) (.slice Ak keep.length ck) _ HS.out HB.out HBL.out)
    have HPOS := Lib.hid (sectorL_pos n bs)
    have HFL := Lib.hid (sectorL_few n bs HBL.out)
    go_enter Try.func22, Try.ntmps22
    go_wp2_with fail
    refine C.out.mono ?_
    rintro e u ⟨v2, rfl, hs⟩
    have HNO2 : Hid (No u v) := H0.out.below hs.below
    have hwu : Whole u w.heap.size 33 [.int .u8 (k : Nat), .int .i64 s, .int .i64 n, .slice Ab bs.length cb, .slice Ak keep.length ck] := hs.holds (.box w.heap.size 33 [.int .u8 (k : Nat), .int .i64 s, .int .i64 n, .slice Ab bs.length cb, .slice Ak keep.length ck]) (by simp)
    have cu1 := hwu.cell 1
    simp only [List.getElem?_cons_zero, List.getElem?_cons_succ] at cu1
    obtain ⟨g, c, hv, _⟩ := own_form (hs.holds (rowB w.heap.size v2 (sectorL n bs)) (by simp)) HPOS.out
    subst hv
    generalize sectorL n bs = L at *
    obtain ⟨N, hN⟩ : ∃ N, L.length = N := ⟨_, rfl⟩
    have HN := Lib.hid hN
    have hN9 : N ≤ 1000000000 := by rw [← hN]; exact HFL.out
    rw [hN] at hs ⊢
    have HS2 := Lib.hid hs
    clear hs hwu hN
    go_wp2_with fail
    refine (write_no HNO2.out s _).mono ?_
    rintro e u2 ⟨rfl, hb⟩
    have HS3 := Lib.hid (HS2.out.call hb)
    clear hb
    go_wp2_with fail
    go_loopw [7] (fun i wr => ∃ (j : Nat) (ys : List Int), ys.length = N ∧ j ≤ N ∧ i = .int .i64 j ∧ Sep w ([.box w.heap.size 33 [.int .u8 (k : Nat), .int .i64 s, .int .i64 n, .slice Ab bs.length cb, .slice Ak keep.length ck]] ++ [rowB w.heap.size (.slice (some ⟨g, 0, none⟩) N c) ys]) wr) (fun i _ => N - (intOf i).toNat)
    case atStart => exact ⟨0, L, HN.out, Nat.zero_le _, rfl, HS3.out⟩
    case round =>
      obtain ⟨j, ys, hy, hj, rfl, hs⟩ := hrel
      have HS4 := Lib.hid hs
      have HY := Lib.hid hy
      have ho := hs.holds (rowB w.heap.size (.slice (some ⟨g, 0, none⟩) N c) ys) (by simp)
      clear hs hy
      by_cases hlt : j < N
      · have hly : j < ys.length := by rw [HY.out]; exact hlt
        have hc : wr.cell? ⟨g, j, none⟩ = some (.int .u8 ys[j]) := by
          have ho' : wr.ownsRow w.heap.size 5 1 (.slice (some ⟨g, 0, none⟩) N c) N (u8s ys) := by have := ho; unfold rowB at this; rw [HY.out] at this; exact this
          rw [ho'.cellAt j (by omega), u8s_get, List.getElem?_eq_getElem hly]
          rfl
        have hf : wr.frozen? ⟨g, j, none⟩ = false := by
          have ho' : wr.ownsRow w.heap.size 5 1 (.slice (some ⟨g, 0, none⟩) N c) N (u8s ys) := by have := ho; unfold rowB at this; rw [HY.out] at this; exact this
          exact ho'.frozenAt j
        generalize ys[j] = y at *
        have hj0 : (0 : Int) ≤ (j : Int) := by omega
        have hj1 : (j : Int) < (N : Int) := by omega
        clear ho
        go_wp2_with fail
        go_round
        · exact ⟨j + 1, ys.set j (IntKind.u8.wrap (y + 1)), by rw [List.length_set]; exact HY.out, by omega, by go_num, Sep.lastSet HS4.out HY.out j (IntKind.u8.wrap (y + 1))⟩
        · show N - ((j : Int) + 1).toNat < N - (j : Int).toNat; omega
      · have hjN : j = N := by omega
        subst hjN
        clear ho
        go_wp2_with fail
        go_ret
        exact ⟨rfl, HS4.out.below⟩
  · have C := Lib.hid (sector_is (l := [.box w.heap.size 33 [.int .u8 (k : Nat), .int .i64 s, .int .i64 n, .slice Ab bs.length cb, .slice Ak keep.length ck]]) (k : Nat) s n bs (.slice Ab bs.length cb) (.slice Ak keep.length ck) _ HS.out HB.out HBL.out)
    have HPOS := Lib.hid (sectorL_pos n bs)
    have HFL := Lib.hid (sectorL_few n bs HBL.out)
    go_enter Try.func22, Try.ntmps22
    go_wp2_with fail
    refine C.out.mono ?_
    rintro e u ⟨v2, rfl, hs⟩
    have HNO2 : Hid (No u v) := H0.out.below hs.below
    have hwu : Whole u w.heap.size 33 [.int .u8 (k : Nat), .int .i64 s, .int .i64 n, .slice Ab bs.length cb, .slice Ak keep.length ck] := hs.holds (.box w.heap.size 33 [.int .u8 (k : Nat), .int .i64 s, .int .i64 n, .slice Ab bs.length cb, .slice Ak keep.length ck]) (by simp)
    have cu1 := hwu.cell 1
    simp only [List.getElem?_cons_zero, List.getElem?_cons_succ] at cu1
    obtain ⟨g, c, hv, _⟩ := own_form (hs.holds (rowB w.heap.size v2 (sectorL n bs)) (by simp)) HPOS.out
    subst hv
    generalize sectorL n bs = L at *
    obtain ⟨N, hN⟩ : ∃ N, L.length = N := ⟨_, rfl⟩
    have HN := Lib.hid hN
    have hN9 : N ≤ 1000000000 := by rw [← hN]; exact HFL.out
    rw [hN] at hs ⊢
    have HS2 := Lib.hid hs
    clear hs hwu hN
    go_wp2_with fail
    refine (write_no HNO2.out s _).mono ?_
    rintro e u2 ⟨rfl, hb⟩
    have HS3 := Lib.hid (HS2.out.call hb)
    clear hb
    go_wp2_with fail
    go_loopw [7] (fun i wr => ∃ (j : Nat) (ys : List Int), ys.length = N ∧ j ≤ N ∧ i = .int .i64 j ∧ Sep w ([.box w.heap.size 33 [.int .u8 (k : Nat), .int .i64 s, .int .i64 n, .slice Ab bs.length cb, .slice Ak keep.length ck]] ++ [rowB w.heap.size (.slice (some ⟨g, 0, none⟩) N c) ys]) wr) (fun i _ => N - (intOf i).toNat)
    case atStart => exact ⟨0, L, HN.out, Nat.zero_le _, rfl, HS3.out⟩
    case round =>
      obtain ⟨j, ys, hy, hj, rfl, hs⟩ := hrel
      have HS4 := Lib.hid hs
      have HY := Lib.hid hy
      have ho := hs.holds (rowB w.heap.size (.slice (some ⟨g, 0, none⟩) N c) ys) (by simp)
      clear hs hy
      by_cases hlt : j < N
      · have hly : j < ys.length := by rw [HY.out]; exact hlt
        have hc : wr.cell? ⟨g, j, none⟩ = some (.int .u8 ys[j]) := by
          have ho' : wr.ownsRow w.heap.size 5 1 (.slice (some ⟨g, 0, none⟩) N c) N (u8s ys) := by have := ho; unfold rowB at this; rw [HY.out] at this; exact this
          rw [ho'.cellAt j (by omega), u8s_get, List.getElem?_eq_getElem hly]
          rfl
        have hf : wr.frozen? ⟨g, j, none⟩ = false := by
          have ho' : wr.ownsRow w.heap.size 5 1 (.slice (some ⟨g, 0, none⟩) N c) N (u8s ys) := by have := ho; unfold rowB at this; rw [HY.out] at this; exact this
          exact ho'.frozenAt j
        generalize ys[j] = y at *
        have hj0 : (0 : Int) ≤ (j : Int) := by omega
        have hj1 : (j : Int) < (N : Int) := by omega
        clear ho
        go_wp2_with fail
        go_round
        · exact ⟨j + 1, ys.set j (IntKind.u8.wrap (y + 1)), by rw [List.length_set]; exact HY.out, by omega, by go_num, Sep.lastSet HS4.out HY.out j (IntKind.u8.wrap (y + 1))⟩
        · show N - ((j : Int) + 1).toNat < N - (j : Int).toNat; omega
      · have hjN : j = N := by omega
        subst hjN
        clear ho
        go_wp2_with fail
        go_ret
        exact ⟨rfl, HS4.out.below⟩
end Di
end Go.Proofs.Ytnjejffbcgchlaa
