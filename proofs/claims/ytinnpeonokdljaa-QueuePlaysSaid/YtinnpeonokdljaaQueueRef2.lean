/- The document's queue: a request comes to wait. -/
import Derived.Test.YtinnpeonokdljaaQueueRef
import Derived.StillTailTactics
import Derived.Deep.RegionLaw
set_option linter.unusedSimpArgs false
set_option linter.unusedVariables false
namespace Go.Proofs.Ytinnpeonokdljaa
open Go.RowKit

namespace Qu
open Qm
def MAt (w : World) (g : Nat) (n own : Int) (M : List En) (y : Value) : Prop := Whole w g 75 [.int .i64 n, .int .i64 own, y] ∧ w.ownsRow (g + 1) 78 10 y M.length (M.flatMap enC)
theorem MAt.below {w u : World} {g : Nat} {n own : Int} {M : List En} {y : Value} (h : MAt w g n own M y) (hx : Below w.heap.size w u) : MAt u g n own M y := ⟨Whole.below h.1 hx (Whole.lt h.1), own_below h.2 hx⟩
def MTo (w w' : World) (g : Nat) (n own : Int) (M : List En) (y : Value) : Prop := ∃ y', MAt w' g n own M y' ∧ Foot (fun k => k = g ∨ y.ownBlock = some k) w w' ∧ (y'.ownBlock = y.ownBlock ∨ ∀ k, y'.ownBlock = some k → w.heap.size ≤ k)
theorem MTo.same {w w' : World} {g : Nat} {n own : Int} {M : List En} {y : Value} (h : MAt w g n own M y) (hx : Below w.heap.size w w') : MTo w w' g n own M y := ⟨y, h.below hx, Foot.of_below hx, .inl rfl⟩
theorem MTo.after {w u w' : World} {g : Nat} {n own : Int} {M : List En} {y : Value} (hB : Below w.heap.size w u) (h : MTo u w' g n own M y) : MTo w w' g n own M y := by
  obtain ⟨y', h1, h2, h3⟩ := h
  have zs := hB.size
  exact ⟨y', h1, (Foot.of_below hB).then h2 (fun i hi => .inl hi), h3.imp id fun h k hk => by have := h k hk; omega⟩
/-- In wait: the queue, the boxes, all that was. -/
structure PW (w : World) (g : Nat) (n own : Int) (M : List En) (y : Value) (e : En) (u : World) : Prop where
  q : MAt u g n own M y
  bx : Whole u w.heap.size 78 (enC e)
  b2 : Whole u (w.heap.size + 1) 25 (rqC e.r)
  below : Below w.heap.size w u
theorem PW.call {w u u' : World} {g : Nat} {n own : Int} {M : List En} {y : Value} {e : En} (h : PW w g n own M y e u) (hx : Below u.heap.size u u') : PW w g n own M y e u' := ⟨h.q.below hx, h.bx.below hx h.bx.lt, h.b2.below hx h.b2.lt, h.below.trans (hx.mono h.below.size)⟩
theorem PW.start {w : World} {g : Nat} {n own : Int} {M : List En} {y : Value} (e : En) (h : MAt w g n own M y) : PW w g n own M y e ((w.alloc (.cells (enC e).toArray 78)).alloc (.cells (rqC e.r).toArray 25)) :=
  ⟨h.below (be2 _ _ _), (Whole.new _ _ _).alloc _, wh1_2 w _ 25 (rqC e.r), be2 _ _ _⟩
def isE (m s : Int) (x : En) : Bool := decide (x.r.client = m) && decide (x.r.seq = s)
def hasE (M : List En) (m s : Int) : Bool := M.any (isE m s)
theorem info_en : (Try.prog.info? 78).map (fun i => (i.zero, i.size, i.bytes)) = some (some (.agg #[.int .i64 0, .int .i64 0, .int .u8 0, .string { data := #[] }, .string { data := #[] }, .string { data := #[] }, .bool false, .int .i64 0, .int .i64 0, .int .u8 0]), 10, 104) := by kernel_rfl
set_option maxRecDepth 100000 in
set_option maxHeartbeats 4000000 in
theorem wait_lo (g : Nat) (n own : Int) (M : List En) (y : Value) (m s : Int) (k : Nat) (a b c : ByteArray) (rd : Bool) (nn ix : Int) (st : Nat) (w : World) (hq : MAt w g n own M y) (h1 : m < 0) :
    Calls Try.prog 42 #[.pointer (some ⟨g, 0, none⟩), .agg #[.int .i64 m, .int .i64 s, .int .u8 (k : Nat), .string a, .string b, .string c, .bool rd, .int .i64 nn, .int .i64 ix, .int .u8 (st : Nat)]] w fun e w' => e = .returned (.tuple #[.bool false, .int .i64 2]) ∧ Below w.heap.size w w' := by
  have HT := Lib.hid (PW.start ⟨⟨m, s, ⟨k, a, b, c⟩⟩, rd, nn, ix, st⟩ hq)
  have hbd := (Row.of_own hq.2).bound
  obtain ⟨A, cp, rfl, _, _⟩ := (Row.of_own hq.2).slice
  have hgl : g < w.heap.size := Whole.lt hq.1
  clear hq
  go_enter Try.func42, Try.ntmps42
  go_wp2_with fail
  go_ret2
  exact ⟨rfl, HT.out.below⟩

set_option maxRecDepth 100000 in
set_option maxHeartbeats 4000000 in
theorem wait_hi (g : Nat) (n own : Int) (M : List En) (y : Value) (m s : Int) (k : Nat) (a b c : ByteArray) (rd : Bool) (nn ix : Int) (st : Nat) (w : World) (hq : MAt w g n own M y) (h1 : 0 ≤ m) (h2 : 3 < m) :
    Calls Try.prog 42 #[.pointer (some ⟨g, 0, none⟩), .agg #[.int .i64 m, .int .i64 s, .int .u8 (k : Nat), .string a, .string b, .string c, .bool rd, .int .i64 nn, .int .i64 ix, .int .u8 (st : Nat)]] w fun e w' => e = .returned (.tuple #[.bool false, .int .i64 2]) ∧ Below w.heap.size w w' := by
  have HT := Lib.hid (PW.start ⟨⟨m, s, ⟨k, a, b, c⟩⟩, rd, nn, ix, st⟩ hq)
  have hbd := (Row.of_own hq.2).bound
  obtain ⟨A, cp, rfl, _, _⟩ := (Row.of_own hq.2).slice
  have hgl : g < w.heap.size := Whole.lt hq.1
  clear hq
  go_enter Try.func42, Try.ntmps42
  go_wp2_with fail
  go_ret2
  exact ⟨rfl, HT.out.below⟩

set_option maxRecDepth 100000 in
set_option maxHeartbeats 4000000 in
theorem wait_num (g : Nat) (n own : Int) (M : List En) (y : Value) (m s : Int) (k : Nat) (a b c : ByteArray) (rd : Bool) (nn ix : Int) (st : Nat) (w : World) (hq : MAt w g n own M y) (h1 : 0 ≤ m) (h2 : m ≤ 3) (hs : numB 1 s = false) :
    Calls Try.prog 42 #[.pointer (some ⟨g, 0, none⟩), .agg #[.int .i64 m, .int .i64 s, .int .u8 (k : Nat), .string a, .string b, .string c, .bool rd, .int .i64 nn, .int .i64 ix, .int .u8 (st : Nat)]] w fun e w' => e = .returned (.tuple #[.bool false, .int .i64 2]) ∧ Below w.heap.size w w' := by
  have HT := Lib.hid (PW.start ⟨⟨m, s, ⟨k, a, b, c⟩⟩, rd, nn, ix, st⟩ hq)
  have hbd := (Row.of_own hq.2).bound
  obtain ⟨A, cp, rfl, _, _⟩ := (Row.of_own hq.2).slice
  have hgl : g < w.heap.size := Whole.lt hq.1
  clear hq
  go_enter Try.func42, Try.ntmps42
  go_wp2_with fail
  refine (whole_any s 1 _).mono ?_
  rintro e u0 ⟨rfl, rfl⟩
  rw [hs]
  go_wp2_with fail
  go_ret2
  exact ⟨rfl, HT.out.below⟩

set_option maxRecDepth 100000 in
set_option maxHeartbeats 4000000 in
theorem wait_op (g : Nat) (n own : Int) (M : List En) (y : Value) (m s : Int) (k : Nat) (a b c : ByteArray) (rd : Bool) (nn ix : Int) (st : Nat) (w : World) (hq : MAt w g n own M y) (h1 : 0 ≤ m) (h2 : m ≤ 3) (hs : numB 1 s = true) (ho : mayOpB ⟨k, a, b, c⟩ = false) :
    Calls Try.prog 42 #[.pointer (some ⟨g, 0, none⟩), .agg #[.int .i64 m, .int .i64 s, .int .u8 (k : Nat), .string a, .string b, .string c, .bool rd, .int .i64 nn, .int .i64 ix, .int .u8 (st : Nat)]] w fun e w' => e = .returned (.tuple #[.bool false, .int .i64 2]) ∧ Below w.heap.size w w' := by
  have HT := Lib.hid (PW.start ⟨⟨m, s, ⟨k, a, b, c⟩⟩, rd, nn, ix, st⟩ hq)
  have hbd := (Row.of_own hq.2).bound
  obtain ⟨A, cp, rfl, _, _⟩ := (Row.of_own hq.2).slice
  have hgl : g < w.heap.size := Whole.lt hq.1
  clear hq
  go_enter Try.func42, Try.ntmps42
  go_wp2_with fail
  refine (whole_any s 1 _).mono ?_
  rintro e u0 ⟨rfl, rfl⟩
  rw [hs]
  go_wp2_with fail
  refine (rmay_any k a b c _).mono ?_
  rintro e u2 ⟨rfl, hx⟩
  rw [ho]
  have HT2 := Lib.hid (HT.out.call hx)
  clear hx HT
  have hqc := HT2.out.q.1
  have q2 := Whole.cell hqc 2
  have z2 := Whole.free hqc 2
  have hql := Whole.lt hqc
  simp only [List.getElem?_cons_zero, List.getElem?_cons_succ] at q2
  have hbc := HT2.out.bx
  have b0 := hbc.cell 0; have b1 := hbc.cell 1; have b2 := hbc.cell 2; have b3 := hbc.cell 3; have b4 := hbc.cell 4; have b5 := hbc.cell 5; have b6 := hbc.cell 6; have b7 := hbc.cell 7; have b8 := hbc.cell 8; have b9 := hbc.cell 9
  simp only [enC, List.getElem?_cons_zero, List.getElem?_cons_succ] at b0 b1 b2 b3 b4 b5 b6 b7 b8 b9
  have hbr := HT2.out.b2
  have r0 := hbr.cell 0; have r1 := hbr.cell 1; have r2 := hbr.cell 2; have r3 := hbr.cell 3; have r4 := hbr.cell 4; have r5 := hbr.cell 5
  simp only [rqC, List.getElem?_cons_zero, List.getElem?_cons_succ] at r0 r1 r2 r3 r4 r5
  have hbl := hbr.lt
  clear hqc hbc hbr
  go_wp2_with fail
  go_ret2
  exact ⟨rfl, HT2.out.below⟩

set_option maxRecDepth 100000 in
set_option maxHeartbeats 4000000 in
theorem wait_kind (g : Nat) (n own : Int) (M : List En) (y : Value) (m s : Int) (k : Nat) (a b c : ByteArray) (rd : Bool) (nn ix : Int) (st : Nat) (w : World) (hq : MAt w g n own M y) (h1 : 0 ≤ m) (h2 : m ≤ 3) (hs : numB 1 s = true) (ho : mayOpB ⟨k, a, b, c⟩ = true) (hk : ((k : Int) == 1) = !rd) :
    Calls Try.prog 42 #[.pointer (some ⟨g, 0, none⟩), .agg #[.int .i64 m, .int .i64 s, .int .u8 (k : Nat), .string a, .string b, .string c, .bool rd, .int .i64 nn, .int .i64 ix, .int .u8 (st : Nat)]] w fun e w' => e = .returned (.tuple #[.bool false, .int .i64 2]) ∧ Below w.heap.size w w' := by
  have HT := Lib.hid (PW.start ⟨⟨m, s, ⟨k, a, b, c⟩⟩, rd, nn, ix, st⟩ hq)
  have hbd := (Row.of_own hq.2).bound
  obtain ⟨A, cp, rfl, _, _⟩ := (Row.of_own hq.2).slice
  have hgl : g < w.heap.size := Whole.lt hq.1
  clear hq
  go_enter Try.func42, Try.ntmps42
  go_wp2_with fail
  refine (whole_any s 1 _).mono ?_
  rintro e u0 ⟨rfl, rfl⟩
  rw [hs]
  go_wp2_with fail
  refine (rmay_any k a b c _).mono ?_
  rintro e u2 ⟨rfl, hx⟩
  rw [ho]
  have HT2 := Lib.hid (HT.out.call hx)
  clear hx HT
  have hqc := HT2.out.q.1
  have q2 := Whole.cell hqc 2
  have z2 := Whole.free hqc 2
  have hql := Whole.lt hqc
  simp only [List.getElem?_cons_zero, List.getElem?_cons_succ] at q2
  have hbc := HT2.out.bx
  have b0 := hbc.cell 0; have b1 := hbc.cell 1; have b2 := hbc.cell 2; have b3 := hbc.cell 3; have b4 := hbc.cell 4; have b5 := hbc.cell 5; have b6 := hbc.cell 6; have b7 := hbc.cell 7; have b8 := hbc.cell 8; have b9 := hbc.cell 9
  simp only [enC, List.getElem?_cons_zero, List.getElem?_cons_succ] at b0 b1 b2 b3 b4 b5 b6 b7 b8 b9
  have hbr := HT2.out.b2
  have r0 := hbr.cell 0; have r1 := hbr.cell 1; have r2 := hbr.cell 2; have r3 := hbr.cell 3; have r4 := hbr.cell 4; have r5 := hbr.cell 5
  simp only [rqC, List.getElem?_cons_zero, List.getElem?_cons_succ] at r0 r1 r2 r3 r4 r5
  have hbl := hbr.lt
  clear hqc hbc hbr
  go_wp2_with fail
  go_ret2
  exact ⟨rfl, HT2.out.below⟩

set_option maxRecDepth 100000 in
set_option maxHeartbeats 4000000 in
theorem wait_has (g : Nat) (n own : Int) (M : List En) (y : Value) (m s : Int) (k : Nat) (a b c : ByteArray) (rd : Bool) (nn ix : Int) (st : Nat) (w : World) (hq : MAt w g n own M y) (h1 : 0 ≤ m) (h2 : m ≤ 3) (hs : numB 1 s = true) (ho : mayOpB ⟨k, a, b, c⟩ = true) (hk : ((k : Int) == 1) = rd) (hh : hasE M m s = true) :
    Calls Try.prog 42 #[.pointer (some ⟨g, 0, none⟩), .agg #[.int .i64 m, .int .i64 s, .int .u8 (k : Nat), .string a, .string b, .string c, .bool rd, .int .i64 nn, .int .i64 ix, .int .u8 (st : Nat)]] w fun e w' => e = .returned (.tuple #[.bool false, .int .i64 0]) ∧ Below w.heap.size w w' := by
  have HT := Lib.hid (PW.start ⟨⟨m, s, ⟨k, a, b, c⟩⟩, rd, nn, ix, st⟩ hq)
  have hbd := (Row.of_own hq.2).bound
  obtain ⟨A, cp, rfl, _, _⟩ := (Row.of_own hq.2).slice
  have hgl : g < w.heap.size := Whole.lt hq.1
  clear hq
  go_enter Try.func42, Try.ntmps42
  go_wp2_with fail
  refine (whole_any s 1 _).mono ?_
  rintro e u0 ⟨rfl, rfl⟩
  rw [hs]
  go_wp2_with fail
  refine (rmay_any k a b c _).mono ?_
  rintro e u2 ⟨rfl, hx⟩
  rw [ho]
  have HT2 := Lib.hid (HT.out.call hx)
  clear hx HT
  have hqc := HT2.out.q.1
  have q2 := Whole.cell hqc 2
  have z2 := Whole.free hqc 2
  have hql := Whole.lt hqc
  simp only [List.getElem?_cons_zero, List.getElem?_cons_succ] at q2
  have hbc := HT2.out.bx
  have b0 := hbc.cell 0; have b1 := hbc.cell 1; have b2 := hbc.cell 2; have b3 := hbc.cell 3; have b4 := hbc.cell 4; have b5 := hbc.cell 5; have b6 := hbc.cell 6; have b7 := hbc.cell 7; have b8 := hbc.cell 8; have b9 := hbc.cell 9
  simp only [enC, List.getElem?_cons_zero, List.getElem?_cons_succ] at b0 b1 b2 b3 b4 b5 b6 b7 b8 b9
  have hbr := HT2.out.b2
  have r0 := hbr.cell 0; have r1 := hbr.cell 1; have r2 := hbr.cell 2; have r3 := hbr.cell 3; have r4 := hbr.cell 4; have r5 := hbr.cell 5
  simp only [rqC, List.getElem?_cons_zero, List.getElem?_cons_succ] at r0 r1 r2 r3 r4 r5
  have hbl := hbr.lt
  clear hqc hbc hbr
  go_wp2_with fail
  go_loopw [7] (fun iv wr => ∃ j : Nat, j ≤ M.length ∧ iv = .int .i64 j ∧ (M.take j).any (isE m s) = false ∧ PW w g n own M (.slice A M.length cp) ⟨⟨m, s, ⟨k, a, b, c⟩⟩, rd, nn, ix, st⟩ wr) (fun iv _ => M.length - (intOf iv).toNat)
  case atStart => exact ⟨0, Nat.zero_le _, rfl, by simp, HT2.out⟩
  case round =>
    obtain ⟨j, hj, rfl, hno, hpw⟩ := hrel
    have Hno := Lib.hid hno; clear hno
    have HT3 := Lib.hid hpw
    clear hpw q2 z2 hql b0 b1 b2 b3 b4 b5 b6 b7 b8 b9 r0 r1 r2 r3 r4 r5 hbl
    have hqc := HT3.out.q.1
    have q2 := Whole.cell hqc 2
    have z2 := Whole.free hqc 2
    have hql := Whole.lt hqc
    simp only [List.getElem?_cons_zero, List.getElem?_cons_succ] at q2
    have hbc := HT3.out.bx
    have b0 := hbc.cell 0; have b1 := hbc.cell 1; have b2 := hbc.cell 2; have b3 := hbc.cell 3; have b4 := hbc.cell 4; have b5 := hbc.cell 5; have b6 := hbc.cell 6; have b7 := hbc.cell 7; have b8 := hbc.cell 8; have b9 := hbc.cell 9
    simp only [enC, List.getElem?_cons_zero, List.getElem?_cons_succ] at b0 b1 b2 b3 b4 b5 b6 b7 b8 b9
    have hbr := HT3.out.b2
    have r0 := hbr.cell 0; have r1 := hbr.cell 1; have r2 := hbr.cell 2; have r3 := hbr.cell 3; have r4 := hbr.cell 4; have r5 := hbr.cell 5
    simp only [rqC, List.getElem?_cons_zero, List.getElem?_cons_succ] at r0 r1 r2 r3 r4 r5
    have hbl := hbr.lt
    clear hqc hbc hbr
    by_cases hlt' : j < M.length
    · have h2 := Row.of_own HT3.out.q.2
      obtain ⟨bb, oo, rfl, hb2, hx2⟩ := h2.elem enC_len (by omega) hlt'
      have y0 : wr.cell? ⟨bb, oo + j * 10, none⟩ = some (.int .i64 M[j].r.client) := hx2 0 _ rfl
      have y1 : wr.cell? ⟨bb, oo + j * 10 + 1, none⟩ = some (.int .i64 M[j].r.seq) := by rw [Nat.add_assoc]; exact hx2 1 _ rfl
      clear hx2 h2
      have hnext : (M.take (j + 1)).any (isE m s) = isE m s M[j] := by
        rw [List.take_succ_eq_append_getElem hlt', List.any_append, Hno.out]; simp
      have hall : isE m s M[j] = true → M.any (isE m s) = true := fun h => List.any_eq_true.2 ⟨M[j], List.getElem_mem hlt', h⟩
      have HN := Lib.hid hnext; clear hnext
      have HA := Lib.hid hall; clear hall
      generalize M[j] = x at *
      obtain ⟨⟨xm, xs, xo⟩, xr, xn, xi, xt⟩ := x
      dsimp only at y0 y1
      have hk0 : (0 : Int) ≤ (j : Int) := by omega
      have hk1 : (j : Int) < (M.length : Int) := by omega
      by_cases e1 : xm = m
      · have e1' : (xm == m) = true := by simp [e1]
        by_cases e2 : xs = s
        · have e2' : (xs == s) = true := by simp [e2]
          have hex : hasE M m s = true := HA.out (by unfold isE; simp [e1, e2])
          go_wp2_with fail
          go_quiet (fail)
          go_wp2_with fail
          go_ret2
          exact ⟨rfl, drewN_below HT3.out.below _⟩
        · have e2' : (xs == s) = false := by simp [e2]
          go_wp2_with fail
          go_quiet (fail)
          go_wp2_with fail
          exact ⟨⟨j + 1, by omega, by go_num, by rw [HN.out]; unfold isE; simp [e1, e2], HT3.out.call (drewN_below (Below.refl _ _) _)⟩, by simp [intOf]; omega⟩
      · have e1' : (xm == m) = false := by simp [e1]
        go_wp2_with fail
        go_quiet (fail)
        go_wp2_with fail
        exact ⟨⟨j + 1, by omega, by go_num, by rw [HN.out]; unfold isE; simp [e1], HT3.out.call (drewN_below (Below.refl _ _) _)⟩, by simp [intOf]; omega⟩
    · have e : j = M.length := by omega
      subst e
      have hfin : hasE M m s = false := by have := Hno.out; rw [List.take_length] at this; exact this
      rw [hh] at hfin; cases hfin

set_option maxRecDepth 100000 in
set_option maxHeartbeats 4000000 in
theorem wait_full (g : Nat) (n own : Int) (M : List En) (y : Value) (m s : Int) (k : Nat) (a b c : ByteArray) (rd : Bool) (nn ix : Int) (st : Nat) (w : World) (hq : MAt w g n own M y) (h1 : 0 ≤ m) (h2 : m ≤ 3) (hs : numB 1 s = true) (ho : mayOpB ⟨k, a, b, c⟩ = true) (hk : ((k : Int) == 1) = rd) (hh : hasE M m s = false) (hl : ((M.length : Int) == 8) = true) :
    Calls Try.prog 42 #[.pointer (some ⟨g, 0, none⟩), .agg #[.int .i64 m, .int .i64 s, .int .u8 (k : Nat), .string a, .string b, .string c, .bool rd, .int .i64 nn, .int .i64 ix, .int .u8 (st : Nat)]] w fun e w' => e = .returned (.tuple #[.bool false, .int .i64 4]) ∧ Below w.heap.size w w' := by
  have HT := Lib.hid (PW.start ⟨⟨m, s, ⟨k, a, b, c⟩⟩, rd, nn, ix, st⟩ hq)
  have hbd := (Row.of_own hq.2).bound
  obtain ⟨A, cp, rfl, _, _⟩ := (Row.of_own hq.2).slice
  have hgl : g < w.heap.size := Whole.lt hq.1
  clear hq
  go_enter Try.func42, Try.ntmps42
  go_wp2_with fail
  refine (whole_any s 1 _).mono ?_
  rintro e u0 ⟨rfl, rfl⟩
  rw [hs]
  go_wp2_with fail
  refine (rmay_any k a b c _).mono ?_
  rintro e u2 ⟨rfl, hx⟩
  rw [ho]
  have HT2 := Lib.hid (HT.out.call hx)
  clear hx HT
  have hqc := HT2.out.q.1
  have q2 := Whole.cell hqc 2
  have z2 := Whole.free hqc 2
  have hql := Whole.lt hqc
  simp only [List.getElem?_cons_zero, List.getElem?_cons_succ] at q2
  have hbc := HT2.out.bx
  have b0 := hbc.cell 0; have b1 := hbc.cell 1; have b2 := hbc.cell 2; have b3 := hbc.cell 3; have b4 := hbc.cell 4; have b5 := hbc.cell 5; have b6 := hbc.cell 6; have b7 := hbc.cell 7; have b8 := hbc.cell 8; have b9 := hbc.cell 9
  simp only [enC, List.getElem?_cons_zero, List.getElem?_cons_succ] at b0 b1 b2 b3 b4 b5 b6 b7 b8 b9
  have hbr := HT2.out.b2
  have r0 := hbr.cell 0; have r1 := hbr.cell 1; have r2 := hbr.cell 2; have r3 := hbr.cell 3; have r4 := hbr.cell 4; have r5 := hbr.cell 5
  simp only [rqC, List.getElem?_cons_zero, List.getElem?_cons_succ] at r0 r1 r2 r3 r4 r5
  have hbl := hbr.lt
  clear hqc hbc hbr
  go_wp2_with fail
  go_loopw [7] (fun iv wr => ∃ j : Nat, j ≤ M.length ∧ iv = .int .i64 j ∧ (M.take j).any (isE m s) = false ∧ PW w g n own M (.slice A M.length cp) ⟨⟨m, s, ⟨k, a, b, c⟩⟩, rd, nn, ix, st⟩ wr) (fun iv _ => M.length - (intOf iv).toNat)
  case atStart => exact ⟨0, Nat.zero_le _, rfl, by simp, HT2.out⟩
  case round =>
    obtain ⟨j, hj, rfl, hno, hpw⟩ := hrel
    have Hno := Lib.hid hno; clear hno
    have HT3 := Lib.hid hpw
    clear hpw q2 z2 hql b0 b1 b2 b3 b4 b5 b6 b7 b8 b9 r0 r1 r2 r3 r4 r5 hbl
    have hqc := HT3.out.q.1
    have q2 := Whole.cell hqc 2
    have z2 := Whole.free hqc 2
    have hql := Whole.lt hqc
    simp only [List.getElem?_cons_zero, List.getElem?_cons_succ] at q2
    have hbc := HT3.out.bx
    have b0 := hbc.cell 0; have b1 := hbc.cell 1; have b2 := hbc.cell 2; have b3 := hbc.cell 3; have b4 := hbc.cell 4; have b5 := hbc.cell 5; have b6 := hbc.cell 6; have b7 := hbc.cell 7; have b8 := hbc.cell 8; have b9 := hbc.cell 9
    simp only [enC, List.getElem?_cons_zero, List.getElem?_cons_succ] at b0 b1 b2 b3 b4 b5 b6 b7 b8 b9
    have hbr := HT3.out.b2
    have r0 := hbr.cell 0; have r1 := hbr.cell 1; have r2 := hbr.cell 2; have r3 := hbr.cell 3; have r4 := hbr.cell 4; have r5 := hbr.cell 5
    simp only [rqC, List.getElem?_cons_zero, List.getElem?_cons_succ] at r0 r1 r2 r3 r4 r5
    have hbl := hbr.lt
    clear hqc hbc hbr
    by_cases hlt' : j < M.length
    · have h2 := Row.of_own HT3.out.q.2
      obtain ⟨bb, oo, rfl, hb2, hx2⟩ := h2.elem enC_len (by omega) hlt'
      have y0 : wr.cell? ⟨bb, oo + j * 10, none⟩ = some (.int .i64 M[j].r.client) := hx2 0 _ rfl
      have y1 : wr.cell? ⟨bb, oo + j * 10 + 1, none⟩ = some (.int .i64 M[j].r.seq) := by rw [Nat.add_assoc]; exact hx2 1 _ rfl
      clear hx2 h2
      have hnext : (M.take (j + 1)).any (isE m s) = isE m s M[j] := by
        rw [List.take_succ_eq_append_getElem hlt', List.any_append, Hno.out]; simp
      have hall : isE m s M[j] = true → M.any (isE m s) = true := fun h => List.any_eq_true.2 ⟨M[j], List.getElem_mem hlt', h⟩
      have HN := Lib.hid hnext; clear hnext
      have HA := Lib.hid hall; clear hall
      generalize M[j] = x at *
      obtain ⟨⟨xm, xs, xo⟩, xr, xn, xi, xt⟩ := x
      dsimp only at y0 y1
      have hk0 : (0 : Int) ≤ (j : Int) := by omega
      have hk1 : (j : Int) < (M.length : Int) := by omega
      by_cases e1 : xm = m
      · have e1' : (xm == m) = true := by simp [e1]
        by_cases e2 : xs = s
        · have e2' : (xs == s) = true := by simp [e2]
          have hex : hasE M m s = true := HA.out (by unfold isE; simp [e1, e2])
          rw [hh] at hex; cases hex
        · have e2' : (xs == s) = false := by simp [e2]
          go_wp2_with fail
          go_quiet (fail)
          go_wp2_with fail
          exact ⟨⟨j + 1, by omega, by go_num, by rw [HN.out]; unfold isE; simp [e1, e2], HT3.out.call (drewN_below (Below.refl _ _) _)⟩, by simp [intOf]; omega⟩
      · have e1' : (xm == m) = false := by simp [e1]
        go_wp2_with fail
        go_quiet (fail)
        go_wp2_with fail
        exact ⟨⟨j + 1, by omega, by go_num, by rw [HN.out]; unfold isE; simp [e1], HT3.out.call (drewN_below (Below.refl _ _) _)⟩, by simp [intOf]; omega⟩
    · have e : j = M.length := by omega
      subst e
      have hfin : hasE M m s = false := by have := Hno.out; rw [List.take_length] at this; exact this
      go_wp2_with fail
      go_ret2
      exact ⟨rfl, HT3.out.below⟩

set_option maxRecDepth 100000 in
set_option maxHeartbeats 4000000 in
theorem wait_ok (g : Nat) (n own : Int) (M : List En) (y : Value) (m s : Int) (k : Nat) (a b c : ByteArray) (rd : Bool) (nn ix : Int) (st : Nat) (w : World) (hq : MAt w g n own M y) (h1 : 0 ≤ m) (h2 : m ≤ 3) (hs : numB 1 s = true) (ho : mayOpB ⟨k, a, b, c⟩ = true) (hk : ((k : Int) == 1) = rd) (hh : hasE M m s = false) (hl : ((M.length : Int) == 8) = false) (hl2 : M.length ≤ 8) :
    Calls Try.prog 42 #[.pointer (some ⟨g, 0, none⟩), .agg #[.int .i64 m, .int .i64 s, .int .u8 (k : Nat), .string a, .string b, .string c, .bool rd, .int .i64 nn, .int .i64 ix, .int .u8 (st : Nat)]] w fun e w' => e = .returned (.tuple #[.bool true, .int .i64 0]) ∧ MTo w w' g n own (M ++ [(⟨⟨m, s, ⟨k, a, b, c⟩⟩, rd, nn, ix, st⟩ : En)]) y := by
  have HT := Lib.hid (PW.start ⟨⟨m, s, ⟨k, a, b, c⟩⟩, rd, nn, ix, st⟩ hq)
  have hbd := (Row.of_own hq.2).bound
  obtain ⟨A, cp, rfl, _, _⟩ := (Row.of_own hq.2).slice
  have hgl : g < w.heap.size := Whole.lt hq.1
  obtain ⟨i0, hi, hz0, hz1, hz2⟩ := info_parts info_en
  have HOB : Hid (∀ i, (Value.slice A M.length cp).ownBlock = some i → i = w.heap.size → False) := fun i h e => by have := own_lt hq.2 h; omega
  have HEND : Hid (∀ (A7 : Option Addr) (c7 : Nat) (w7 : World), Whole w7 g 75 [.int .i64 n, .int .i64 own, .slice A M.length cp] → w7.ownsRow (g + 1) 78 10 (.slice A7 (M.length + 1) c7) (M.length + 1) (M.flatMap enC ++ [.int .i64 m, .int .i64 s, .int .u8 (k : Nat), .string a, .string b, .string c, .bool rd, .int .i64 nn, .int .i64 ix, .int .u8 (st : Nat)]) →
      Foot (fun k => (Value.slice A M.length cp).ownBlock = some k) w w7 → ((Value.slice A7 (M.length + 1) c7).ownBlock = (Value.slice A M.length cp).ownBlock ∨ ∀ k, (Value.slice A7 (M.length + 1) c7).ownBlock = some k → w.heap.size ≤ k) →
      MTo w (w7.setCell ⟨g, 2, none⟩ (.slice A7 (M.length + 1) c7)) g n own (M ++ [(⟨⟨m, s, ⟨k, a, b, c⟩⟩, rd, nn, ix, st⟩ : En)]) (.slice A M.length cp)) := by
    intro A7 c7 w7 h1 h2 h3 h4
    refine ⟨.slice A7 (M.length + 1) c7, ⟨Whole.set h1 2 _, ?_⟩, (Foot.mono (G := fun k => k = g ∨ (Value.slice A M.length cp).ownBlock = some k) h3 fun i hi => .inr hi).set (p := ⟨g, 2, none⟩) (.inl (.inl rfl)) _, h4⟩
    have h5 : w7.ownsRow (g + 1) 78 10 (.slice A7 (M.length + 1) c7) (M ++ [(⟨⟨m, s, ⟨k, a, b, c⟩⟩, rd, nn, ix, st⟩ : En)]).length ((M ++ [(⟨⟨m, s, ⟨k, a, b, c⟩⟩, rd, nn, ix, st⟩ : En)]).flatMap enC) := by
      rw [List.length_append, List.flatMap_append]; exact h2
    exact ownsRow_setCell_below h5 (a := ⟨g, 2, none⟩) (Nat.lt_succ_self g) _
  clear hq
  go_enter Try.func42, Try.ntmps42
  go_wp2_with fail
  refine (whole_any s 1 _).mono ?_
  rintro e u0 ⟨rfl, rfl⟩
  rw [hs]
  go_wp2_with fail
  refine (rmay_any k a b c _).mono ?_
  rintro e u2 ⟨rfl, hx⟩
  rw [ho]
  have HT2 := Lib.hid (HT.out.call hx)
  clear hx HT
  have hqc := HT2.out.q.1
  have q2 := Whole.cell hqc 2
  have z2 := Whole.free hqc 2
  have hql := Whole.lt hqc
  simp only [List.getElem?_cons_zero, List.getElem?_cons_succ] at q2
  have hbc := HT2.out.bx
  have b0 := hbc.cell 0; have b1 := hbc.cell 1; have b2 := hbc.cell 2; have b3 := hbc.cell 3; have b4 := hbc.cell 4; have b5 := hbc.cell 5; have b6 := hbc.cell 6; have b7 := hbc.cell 7; have b8 := hbc.cell 8; have b9 := hbc.cell 9
  simp only [enC, List.getElem?_cons_zero, List.getElem?_cons_succ] at b0 b1 b2 b3 b4 b5 b6 b7 b8 b9
  have hbr := HT2.out.b2
  have r0 := hbr.cell 0; have r1 := hbr.cell 1; have r2 := hbr.cell 2; have r3 := hbr.cell 3; have r4 := hbr.cell 4; have r5 := hbr.cell 5
  simp only [rqC, List.getElem?_cons_zero, List.getElem?_cons_succ] at r0 r1 r2 r3 r4 r5
  have hbl := hbr.lt
  clear hqc hbc hbr
  go_wp2_with fail
  go_loopw [7] (fun iv wr => ∃ j : Nat, j ≤ M.length ∧ iv = .int .i64 j ∧ (M.take j).any (isE m s) = false ∧ PW w g n own M (.slice A M.length cp) ⟨⟨m, s, ⟨k, a, b, c⟩⟩, rd, nn, ix, st⟩ wr) (fun iv _ => M.length - (intOf iv).toNat)
  case atStart => exact ⟨0, Nat.zero_le _, rfl, by simp, HT2.out⟩
  case round =>
    obtain ⟨j, hj, rfl, hno, hpw⟩ := hrel
    have Hno := Lib.hid hno; clear hno
    have HT3 := Lib.hid hpw
    clear hpw q2 z2 hql b0 b1 b2 b3 b4 b5 b6 b7 b8 b9 r0 r1 r2 r3 r4 r5 hbl
    have hqc := HT3.out.q.1
    have q2 := Whole.cell hqc 2
    have z2 := Whole.free hqc 2
    have hql := Whole.lt hqc
    simp only [List.getElem?_cons_zero, List.getElem?_cons_succ] at q2
    have hbc := HT3.out.bx
    have b0 := hbc.cell 0; have b1 := hbc.cell 1; have b2 := hbc.cell 2; have b3 := hbc.cell 3; have b4 := hbc.cell 4; have b5 := hbc.cell 5; have b6 := hbc.cell 6; have b7 := hbc.cell 7; have b8 := hbc.cell 8; have b9 := hbc.cell 9
    simp only [enC, List.getElem?_cons_zero, List.getElem?_cons_succ] at b0 b1 b2 b3 b4 b5 b6 b7 b8 b9
    have hbr := HT3.out.b2
    have r0 := hbr.cell 0; have r1 := hbr.cell 1; have r2 := hbr.cell 2; have r3 := hbr.cell 3; have r4 := hbr.cell 4; have r5 := hbr.cell 5
    simp only [rqC, List.getElem?_cons_zero, List.getElem?_cons_succ] at r0 r1 r2 r3 r4 r5
    have hbl := hbr.lt
    clear hqc hbc hbr
    by_cases hlt' : j < M.length
    · have h2 := Row.of_own HT3.out.q.2
      obtain ⟨bb, oo, rfl, hb2, hx2⟩ := h2.elem enC_len (by omega) hlt'
      have y0 : wr.cell? ⟨bb, oo + j * 10, none⟩ = some (.int .i64 M[j].r.client) := hx2 0 _ rfl
      have y1 : wr.cell? ⟨bb, oo + j * 10 + 1, none⟩ = some (.int .i64 M[j].r.seq) := by rw [Nat.add_assoc]; exact hx2 1 _ rfl
      clear hx2 h2
      have hnext : (M.take (j + 1)).any (isE m s) = isE m s M[j] := by
        rw [List.take_succ_eq_append_getElem hlt', List.any_append, Hno.out]; simp
      have hall : isE m s M[j] = true → M.any (isE m s) = true := fun h => List.any_eq_true.2 ⟨M[j], List.getElem_mem hlt', h⟩
      have HN := Lib.hid hnext; clear hnext
      have HA := Lib.hid hall; clear hall
      generalize M[j] = x at *
      obtain ⟨⟨xm, xs, xo⟩, xr, xn, xi, xt⟩ := x
      dsimp only at y0 y1
      have hk0 : (0 : Int) ≤ (j : Int) := by omega
      have hk1 : (j : Int) < (M.length : Int) := by omega
      by_cases e1 : xm = m
      · have e1' : (xm == m) = true := by simp [e1]
        by_cases e2 : xs = s
        · have e2' : (xs == s) = true := by simp [e2]
          have hex : hasE M m s = true := HA.out (by unfold isE; simp [e1, e2])
          rw [hh] at hex; cases hex
        · have e2' : (xs == s) = false := by simp [e2]
          go_wp2_with fail
          go_quiet (fail)
          go_wp2_with fail
          exact ⟨⟨j + 1, by omega, by go_num, by rw [HN.out]; unfold isE; simp [e1, e2], HT3.out.call (drewN_below (Below.refl _ _) _)⟩, by simp [intOf]; omega⟩
      · have e1' : (xm == m) = false := by simp [e1]
        go_wp2_with fail
        go_quiet (fail)
        go_wp2_with fail
        exact ⟨⟨j + 1, by omega, by go_num, by rw [HN.out]; unfold isE; simp [e1], HT3.out.call (drewN_below (Below.refl _ _) _)⟩, by simp [intOf]; omega⟩
    · have e : j = M.length := by omega
      subst e
      have hfin : hasE M m s = false := by have := Hno.out; rw [List.take_length] at this; exact this
      have HOB2 := HOB
      have HX6 : Hid (∀ x ∈ ([.int .i64 m, .int .i64 s, .int .u8 (k : Nat), .string a, .string b, .string c, .bool rd, .int .i64 nn, .int .i64 ix, .int .u8 (st : Nat)] : List Value), x.oneCell' = true) := by
        intro x hx
        simp only [List.mem_cons, List.not_mem_nil, or_false] at hx
        rcases hx with rfl | rfl | rfl | rfl | rfl | rfl | rfl | rfl | rfl | rfl <;> rfl
      go_wp2_with fail
      have HT6 := Lib.hid ((HT3.out.call (be1 wr (.cells #[.int .i64 m, .int .i64 s, .int .u8 (k : Nat), .string a, .string b, .string c, .bool rd, .int .i64 nn, .int .i64 ix, .int .u8 (st : Nat)] 78))).call ((Below.refl _ _).drew))
      have HW6 := Lib.hid ((Whole.new wr 78 [.int .i64 m, .int .i64 s, .int .u8 (k : Nat), .string a, .string b, .string c, .bool rd, .int .i64 nn, .int .i64 ix, .int .u8 (st : Nat)]).drew)
      go_region_law (refine step_append_foot _ rfl (.tmp 84) (.tmp 86) _ (by rfl) (g + 1) 78 i0 _ 10 104 Try.underlying73 hi hz0 hz1 hz2 rfl (by decide) _ M.length (M.flatMap enC) (by rfl) HT6.out.q.2 (wr.heap.size + 1) _ 1 [.int .i64 m, .int .i64 s, .int .u8 (k : Nat), .string a, .string b, .string c, .bool rd, .int .i64 nn, .int .i64 ix, .int .u8 (st : Nat)] (by rfl) (Row.blk HW6.out rfl (by omega) (by unfold maxLen; omega)) rfl HX6.out (by unfold maxLen; omega) (by omega) (by show g + 1 ≤ (wr.alloc _).heap.size; simp; omega) ?_
                     intro v7 w7 hown hgr hv
                     have HF7 := Lib.hid (Foot.of_grown hgr)
                     have hq7 := HF7.out.whole HT6.out.q.1 (fun e => by have := own_lt HT6.out.q.2 e; omega)
                     have c7' := Whole.cell hq7 2
                     have f7 := Whole.free hq7 2
                     simp only [List.getElem?_cons_zero, List.getElem?_cons_succ] at c7'
                     have HQ7 := Lib.hid hq7
                     obtain ⟨A7, c7, rfl, _, _⟩ := (Row.of_own hown).slice
                     have HO7 := Lib.hid hown
                     have HV7 := Lib.hid hv
                     clear hown hgr hv hq7)
      all_goals
        go_wp2_with fail
        go_ret2
        exact ⟨rfl, HEND.out _ _ _ HQ7.out HO7.out ((Foot.of_below HT6.out.below).then HF7.out (fun i hi => .inl hi)) (HV7.out.imp id fun e k hk => by rw [hk] at e; injection e with e; have := HT6.out.below.size; omega)⟩


end Qu
end Go.Proofs.Ytinnpeonokdljaa
