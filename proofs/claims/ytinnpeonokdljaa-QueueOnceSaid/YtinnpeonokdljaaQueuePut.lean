/- A request comes to wait: put. -/
import Derived.Test.YtinnpeonokdljaaQueueGreat
import Derived.Test.YtinnpeonokdljaaRowMids
import Derived.StillTailTactics
import Derived.Deep.RegionLaw
set_option linter.unusedSimpArgs false
set_option linter.unusedVariables false
namespace Go.Proofs.Ytinnpeonokdljaa
open Go.RowKit

namespace Qu
open Qm
/-- Is this the request of a client, of a number? -/
def isB (m s : Int) (x : Wt) : Bool := decide (x.r.client = m) && decide (x.r.seq = s)
def hasB (L : List Wt) (m s : Int) : Bool := L.any (isB m s)

set_option maxHeartbeats 2000000 in
theorem put1_any (xm xs : Int) (xk : Nat) (xa xb xc : ByteArray) (xn xi : Int) (xt : Nat) (cb : Nat) (m s : Int) (u : World) (h0 : u.cell? ⟨cb, 0, none⟩ = some (.int .i64 m)) (h1 : u.cell? ⟨cb, 1, none⟩ = some (.int .i64 s)) :
    Calls Try.prog 51 #[.agg #[.int .i64 xm, .int .i64 xs, .int .u8 (xk : Nat), .string xa, .string xb, .string xc, .int .i64 xn, .int .i64 xi, .int .u8 (xt : Nat)], .pointer (some ⟨cb, 0, none⟩)] u fun e w' => e = .returned (.bool (isB m s ⟨⟨xm, xs, ⟨xk, xa, xb, xc⟩⟩, xn, xi, xt⟩)) ∧ Below u.heap.size u w' := by
  have hlt := World.block_lt_of_cell? u ⟨cb, 0, none⟩ h0
  go_enter Try.func51, Try.ntmps51
  by_cases e1 : xm = m
  · by_cases e2 : xs = s
    · have e1' : (xm == m) = true := by simp [e1]
      have e2' : (xs == s) = true := by simp [e2]
      go_wp2_with fail
      go_ret
      exact ⟨ret_bool (by unfold isB; simp [e1, e2]), be1 _ _⟩
    · have e1' : (xm == m) = true := by simp [e1]
      have e2' : (xs == s) = false := by simp [e2]
      go_wp2_with fail
      go_ret
      exact ⟨ret_bool (by unfold isB; simp [e1, e2]), be1 _ _⟩
  · have e1' : (xm == m) = false := by simp [e1]
    go_wp2_with fail
    go_ret
    exact ⟨ret_bool (by unfold isB; simp [e1]), be1 _ _⟩

set_option maxHeartbeats 2000000 in
theorem index_put (L : List Wt) (v : Value) (B : Nat) (cb : Nat) (m s : Int) (w : World) (hr : Row w B v L.length (L.flatMap wtC)) (hB : B ≤ w.heap.size) (h0 : w.cell? ⟨cb, 0, none⟩ = some (.int .i64 m)) (h1 : w.cell? ⟨cb, 1, none⟩ = some (.int .i64 s)) :
    Calls Try.prog 62 #[v, .func (.func 51) #[] #[.pointer (some ⟨cb, 0, none⟩)]] w fun e w' =>
      (∃ n : Int, e = .returned (.int .i64 n) ∧ decide (0 ≤ n) = hasB L m s) ∧ Below w.heap.size w w' := by
  have hlt := World.block_lt_of_cell? w ⟨cb, 0, none⟩ h0
  have hbd := hr.bound
  obtain ⟨A, c, rfl, _, _⟩ := hr.slice
  have HR := Lib.hid (hr.more hB)
  have H0 := Lib.hid h0
  have H1 := Lib.hid h1
  clear hr hB h0 h1
  unfold hasB
  go_enter Try.func62, Try.ntmps62
  go_wp2_with fail
  go_loopw [8] (fun i wr => ∃ k : Nat, k ≤ L.length ∧ i = .int .i64 k ∧ (L.take k).any (isB m s) = false ∧ Below w.heap.size w wr) (fun i _ => L.length - (intOf i).toNat)
  case atStart => exact ⟨0, Nat.zero_le _, rfl, by simp, Below.refl _ _⟩
  case round =>
    obtain ⟨k, hk, rfl, hno, hx⟩ := hrel
    have Hno := Lib.hid hno; clear hno
    have zs := hx.size
    by_cases hlt' : k < L.length
    · have h2 := HR.out
      obtain ⟨b2, o2, rfl, hb2, hx2⟩ := h2.elem wtC_len (by omega) hlt'
      have hy : ∀ j x, (wtC L[k])[j]? = some x → wr.cell? ⟨b2, o2 + k * 9 + j, none⟩ = some x := fun j x h => by
        rw [Nat.add_assoc]; exact (hx.cell (p := ⟨b2, o2 + (k * 9 + j), none⟩) hb2).trans (hx2 j x h)
      have y0 := hy 0 _ rfl
      have y1 := hy 1 _ rfl
      have y2 := hy 2 _ rfl
      have y3 := hy 3 _ rfl
      have y4 := hy 4 _ rfl
      have y5 := hy 5 _ rfl
      have y6 := hy 6 _ rfl
      have y7 := hy 7 _ rfl
      have y8 := hy 8 _ rfl
      simp only [Nat.add_zero] at y0
      clear hx2 h2 hy
      have hnext : (L.take (k + 1)).any (isB m s) = isB m s L[k] := by
        rw [List.take_succ_eq_append_getElem hlt', List.any_append, Hno.out]; simp
      have hall : isB m s L[k] = true → L.any (isB m s) = true := fun h => List.any_eq_true.2 ⟨L[k], List.getElem_mem hlt', h⟩
      have HN := Lib.hid hnext; clear hnext
      have HA := Lib.hid hall; clear hall
      generalize L[k] = x at *
      obtain ⟨⟨xm, xs, ⟨xk, xa, xb, xc⟩⟩, xn, xi, xt⟩ := x
      dsimp only at y0 y1 y2 y3 y4 y5 y6 y7 y8
      have HO := put1_any xm xs xk xa xb xc xn xi xt cb m s wr ((hx.cell (p := ⟨cb, 0, none⟩) hlt).trans H0.out) ((hx.cell (p := ⟨cb, 1, none⟩) hlt).trans H1.out)
      have hk0 : (0 : Int) ≤ (k : Int) := by omega
      have hk1 : (k : Int) < (L.length : Int) := by omega
      cases ho : isB m s ⟨⟨xm, xs, ⟨xk, xa, xb, xc⟩⟩, xn, xi, xt⟩
      all_goals
        rw [ho] at HN HA HO
        clear ho
        have HO' := Lib.hid HO; clear HO
        go_wp2_with fail
        refine HO'.out.mono ?_
        rintro e1 w1 ⟨rfl, hb1⟩
        have hbr1 := hx.trans (hb1.mono hx.size)
        clear hb1
        go_wp2_with fail
      · exact ⟨⟨k + 1, by omega, by go_num, HN.out, hbr1⟩, by simp [intOf]; omega⟩
      · go_ret
        refine ⟨⟨k, rfl, ?_⟩, hbr1⟩
        rw [HA.out trivial]
        simp
    · have e : k = L.length := by omega
      subst e
      go_wp2_with fail
      go_ret
      refine ⟨⟨-1, rfl, ?_⟩, hx⟩
      have := Hno.out
      rw [List.take_length] at this
      rw [this]
      rfl
set_option maxHeartbeats 400000 in
theorem contains_put (L : List Wt) (v : Value) (B : Nat) (cb : Nat) (m s : Int) (w : World) (hr : Row w B v L.length (L.flatMap wtC)) (hB : B ≤ w.heap.size) (h0 : w.cell? ⟨cb, 0, none⟩ = some (.int .i64 m)) (h1 : w.cell? ⟨cb, 1, none⟩ = some (.int .i64 s)) :
    Calls Try.prog 50 #[v, .func (.func 51) #[] #[.pointer (some ⟨cb, 0, none⟩)]] w fun e w' => e = .returned (.bool (hasB L m s)) ∧ Below w.heap.size w w' := by
  have HI := Lib.hid (index_put L v B cb m s w hr hB h0 h1)
  clear hr hB h0 h1
  go_enter Try.func50, Try.ntmps50
  go_wp2_with fail
  refine HI.out.mono ?_
  rintro e w1 ⟨⟨n, rfl, hn⟩, hb1⟩
  have HN := Lib.hid hn; clear hn
  go_wp2_with fail
  go_ret
  exact ⟨ret_bool HN.out, hb1⟩

/-- A queue whose slice is v, that holds these. -/
def QAtV (w : World) (g : Nat) (n own : Int) (L : List Wt) (v : Value) : Prop := QS w g n own v ∧ w.ownsRow (g + 1) 66 9 v L.length (L.flatMap wtC)
/-- What it may turn: its own block, its row's, what is new; its row's is then the same, or new. -/
def QTo (w w' : World) (g : Nat) (n own : Int) (L : List Wt) (v : Value) : Prop := ∃ v', QAtV w' g n own L v' ∧ Foot (fun k => k = g ∨ v.ownBlock = some k) w w' ∧ (v'.ownBlock = v.ownBlock ∨ ∀ k, v'.ownBlock = some k → w.heap.size ≤ k)
theorem QAtV.below {w u : World} {g : Nat} {n own : Int} {L : List Wt} {v : Value} (h : QAtV w g n own L v) (hx : Below w.heap.size w u) : QAtV u g n own L v := ⟨Whole.below h.1 hx (Whole.lt h.1), own_below h.2 hx⟩
theorem QAtV.drew {w : World} {g : Nat} {n own : Int} {L : List Wt} {v : Value} (h : QAtV w g n own L v) : QAtV w.drew g n own L v := ⟨Whole.drew h.1, own_drew h.2⟩
theorem QTo.same {w w' : World} {g : Nat} {n own : Int} {L : List Wt} {v : Value} (h : QAtV w g n own L v) (hx : Below w.heap.size w w') : QTo w w' g n own L v := ⟨v, h.below hx, Foot.of_below hx, .inl rfl⟩

/-- In put: the queue, the box, all that was. -/
structure PT (w : World) (g : Nat) (n own : Int) (L : List Wt) (v : Value) (cs : List Value) (u : World) : Prop where
  q : QAtV u g n own L v
  bx : Whole u w.heap.size 66 cs
  below : Below w.heap.size w u
theorem PT.call {w u u' : World} {g : Nat} {n own : Int} {L : List Wt} {v : Value} {cs : List Value} (h : PT w g n own L v cs u) (hx : Below u.heap.size u u') : PT w g n own L v cs u' := ⟨h.q.below hx, h.bx.below hx h.bx.lt, h.below.trans (hx.mono h.below.size)⟩
theorem PT.alloc {w u : World} {g : Nat} {n own : Int} {L : List Wt} {v : Value} {cs : List Value} (h : PT w g n own L v cs u) (ob : Obj) : PT w g n own L v cs (u.alloc ob) := h.call (be1 u ob)
theorem PT.drew {w u : World} {g : Nat} {n own : Int} {L : List Wt} {v : Value} {cs : List Value} (h : PT w g n own L v cs u) : PT w g n own L v cs u.drew := ⟨h.q.drew, h.bx.drew, h.below.drew⟩
theorem PT.start {w : World} {g : Nat} {n own : Int} {L : List Wt} {v : Value} (cs : List Value) (h : QAtV w g n own L v) : PT w g n own L v cs (w.alloc (.cells cs.toArray 66)) := ⟨h.below (be1 _ _), Whole.new _ _ _, be1 _ _⟩

theorem info_wt : (Try.prog.info? 66).map (fun i => (i.zero, i.size, i.bytes)) = some (some (.agg #[.int .i64 0, .int .i64 0, .int .u8 0, .string { data := #[] }, .string { data := #[] }, .string { data := #[] }, .int .i64 0, .int .i64 0, .int .u8 0]), 9, 96) := by kernel_rfl
set_option maxRecDepth 100000 in
set_option maxHeartbeats 4000000 in
theorem put_right (g : Nat) (n own : Int) (hn : n ≠ 0) (L : List Wt) (v : Value) (m s : Int) (k : Nat) (a b c : ByteArray) (nn ix : Int) (r : Bool) (w : World) (hq : QAtV w g n own L v) (hr : r = false) :
    Calls Try.prog 32 #[.pointer (some ⟨g, 0, none⟩), .agg #[.int .i64 m, .int .i64 s, .int .u8 (k : Nat), .string a, .string b, .string c, .int .i64 nn, .int .i64 ix, .int .u8 0], .bool r] w fun e w' => e = .returned (.tuple #[.bool false, .int .i64 2]) ∧ Below w.heap.size w w' := by
  have HT := Lib.hid (PT.start [.int .i64 m, .int .i64 s, .int .u8 (k : Nat), .string a, .string b, .string c, .int .i64 nn, .int .i64 ix, .int .u8 0] hq)
  have N := Lib.hid (none_false g n own hn v _ HT.out.q.1)
  obtain ⟨A, cp, rfl, _, _⟩ := (Row.of_own hq.2).slice
  have hgl : g < w.heap.size := Whole.lt hq.1
  clear hq hn
  go_enter Try.func32, Try.ntmps32
  go_wp2_with fail
  refine N.out.mono ?_
  rintro e u ⟨rfl, rfl⟩
  have hqc := HT.out.q.1
  have q0 := Whole.cell hqc 0
  have q1 := Whole.cell hqc 1
  have q2 := Whole.cell hqc 2
  have z2 := Whole.free hqc 2
  have hql := Whole.lt hqc
  simp only [List.getElem?_cons_zero, List.getElem?_cons_succ] at q0 q1 q2
  clear hqc
  subst hr
  go_wp2_with fail
  go_ret2
  exact ⟨rfl, HT.out.below⟩

set_option maxRecDepth 100000 in
set_option maxHeartbeats 4000000 in
theorem put_lo (g : Nat) (n own : Int) (hn : n ≠ 0) (L : List Wt) (v : Value) (m s : Int) (k : Nat) (a b c : ByteArray) (nn ix : Int) (r : Bool) (w : World) (hq : QAtV w g n own L v) (hr : r = true) (h1 : m < 0) :
    Calls Try.prog 32 #[.pointer (some ⟨g, 0, none⟩), .agg #[.int .i64 m, .int .i64 s, .int .u8 (k : Nat), .string a, .string b, .string c, .int .i64 nn, .int .i64 ix, .int .u8 0], .bool r] w fun e w' => e = .returned (.tuple #[.bool false, .int .i64 2]) ∧ Below w.heap.size w w' := by
  have HT := Lib.hid (PT.start [.int .i64 m, .int .i64 s, .int .u8 (k : Nat), .string a, .string b, .string c, .int .i64 nn, .int .i64 ix, .int .u8 0] hq)
  have N := Lib.hid (none_false g n own hn v _ HT.out.q.1)
  obtain ⟨A, cp, rfl, _, _⟩ := (Row.of_own hq.2).slice
  have hgl : g < w.heap.size := Whole.lt hq.1
  clear hq hn
  go_enter Try.func32, Try.ntmps32
  go_wp2_with fail
  refine N.out.mono ?_
  rintro e u ⟨rfl, rfl⟩
  have hqc := HT.out.q.1
  have q0 := Whole.cell hqc 0
  have q1 := Whole.cell hqc 1
  have q2 := Whole.cell hqc 2
  have z2 := Whole.free hqc 2
  have hql := Whole.lt hqc
  simp only [List.getElem?_cons_zero, List.getElem?_cons_succ] at q0 q1 q2
  clear hqc
  subst hr
  go_wp2_with fail
  go_ret2
  exact ⟨rfl, HT.out.below⟩

set_option maxRecDepth 100000 in
set_option maxHeartbeats 4000000 in
theorem put_hi (g : Nat) (n own : Int) (hn : n ≠ 0) (L : List Wt) (v : Value) (m s : Int) (k : Nat) (a b c : ByteArray) (nn ix : Int) (r : Bool) (w : World) (hq : QAtV w g n own L v) (hr : r = true) (h1 : 0 ≤ m) (h2 : 4 ≤ m) :
    Calls Try.prog 32 #[.pointer (some ⟨g, 0, none⟩), .agg #[.int .i64 m, .int .i64 s, .int .u8 (k : Nat), .string a, .string b, .string c, .int .i64 nn, .int .i64 ix, .int .u8 0], .bool r] w fun e w' => e = .returned (.tuple #[.bool false, .int .i64 2]) ∧ Below w.heap.size w w' := by
  have HT := Lib.hid (PT.start [.int .i64 m, .int .i64 s, .int .u8 (k : Nat), .string a, .string b, .string c, .int .i64 nn, .int .i64 ix, .int .u8 0] hq)
  have N := Lib.hid (none_false g n own hn v _ HT.out.q.1)
  obtain ⟨A, cp, rfl, _, _⟩ := (Row.of_own hq.2).slice
  have hgl : g < w.heap.size := Whole.lt hq.1
  clear hq hn
  go_enter Try.func32, Try.ntmps32
  go_wp2_with fail
  refine N.out.mono ?_
  rintro e u ⟨rfl, rfl⟩
  have hqc := HT.out.q.1
  have q0 := Whole.cell hqc 0
  have q1 := Whole.cell hqc 1
  have q2 := Whole.cell hqc 2
  have z2 := Whole.free hqc 2
  have hql := Whole.lt hqc
  simp only [List.getElem?_cons_zero, List.getElem?_cons_succ] at q0 q1 q2
  clear hqc
  subst hr
  go_wp2_with fail
  go_ret2
  exact ⟨rfl, HT.out.below⟩

set_option maxRecDepth 100000 in
set_option maxHeartbeats 4000000 in
theorem put_num (g : Nat) (n own : Int) (hn : n ≠ 0) (L : List Wt) (v : Value) (m s : Int) (k : Nat) (a b c : ByteArray) (nn ix : Int) (r : Bool) (w : World) (hq : QAtV w g n own L v) (hr : r = true) (h1 : 0 ≤ m) (h2 : m < 4) (hs : numB 1 s = false) :
    Calls Try.prog 32 #[.pointer (some ⟨g, 0, none⟩), .agg #[.int .i64 m, .int .i64 s, .int .u8 (k : Nat), .string a, .string b, .string c, .int .i64 nn, .int .i64 ix, .int .u8 0], .bool r] w fun e w' => e = .returned (.tuple #[.bool false, .int .i64 2]) ∧ Below w.heap.size w w' := by
  have HT := Lib.hid (PT.start [.int .i64 m, .int .i64 s, .int .u8 (k : Nat), .string a, .string b, .string c, .int .i64 nn, .int .i64 ix, .int .u8 0] hq)
  have N := Lib.hid (none_false g n own hn v _ HT.out.q.1)
  obtain ⟨A, cp, rfl, _, _⟩ := (Row.of_own hq.2).slice
  have hgl : g < w.heap.size := Whole.lt hq.1
  clear hq hn
  go_enter Try.func32, Try.ntmps32
  go_wp2_with fail
  refine N.out.mono ?_
  rintro e u ⟨rfl, rfl⟩
  have hqc := HT.out.q.1
  have q0 := Whole.cell hqc 0
  have q1 := Whole.cell hqc 1
  have q2 := Whole.cell hqc 2
  have z2 := Whole.free hqc 2
  have hql := Whole.lt hqc
  simp only [List.getElem?_cons_zero, List.getElem?_cons_succ] at q0 q1 q2
  clear hqc
  subst hr
  have HI1 := Lib.hid (HT.out.alloc (.cells #[.int .i64 s] 3))
  have HS1 := ((wh1_2 w (.cells #[.int .i64 m, .int .i64 s, .int .u8 (k : Nat), .string a, .string b, .string c, .int .i64 nn, .int .i64 ix, .int .u8 0] 66) 3 [.int .i64 s]).cell 0)
  simp only [List.getElem?_cons_zero] at HS1
  have NB := number_any (w.heap.size + 1) 1 s _ HS1
  rw [hs] at NB
  have NB := Lib.hid NB
  clear HS1
  go_wp2_with fail
  refine NB.out.mono ?_
  rintro e u1 ⟨rfl, hx⟩
  have HT1 := Lib.hid (HI1.out.call hx)
  clear hx NB q0 q1 q2 z2 hql
  have hqc := HT1.out.q.1
  have q0 := Whole.cell hqc 0
  have q1 := Whole.cell hqc 1
  have q2 := Whole.cell hqc 2
  have z2 := Whole.free hqc 2
  have hql := Whole.lt hqc
  simp only [List.getElem?_cons_zero, List.getElem?_cons_succ] at q0 q1 q2
  have hbc := HT1.out.bx
  have b0 := hbc.cell 0; have b1 := hbc.cell 1; have b2 := hbc.cell 2; have b3 := hbc.cell 3; have b4 := hbc.cell 4; have b5 := hbc.cell 5; have b6 := hbc.cell 6; have b7 := hbc.cell 7; have b8 := hbc.cell 8
  simp only [List.getElem?_cons_zero, List.getElem?_cons_succ] at b0 b1 b2 b3 b4 b5 b6 b7 b8
  have z8 := hbc.free 8
  have hbl := hbc.lt
  clear hqc hbc
  go_wp2_with fail
  go_ret2
  exact ⟨rfl, HT1.out.below⟩

set_option maxRecDepth 100000 in
set_option maxHeartbeats 4000000 in
theorem put_op (g : Nat) (n own : Int) (hn : n ≠ 0) (L : List Wt) (v : Value) (m s : Int) (k : Nat) (a b c : ByteArray) (nn ix : Int) (r : Bool) (w : World) (hq : QAtV w g n own L v) (hr : r = true) (h1 : 0 ≤ m) (h2 : m < 4) (hs : numB 1 s = true) (ho : mayOpB ⟨k, a, b, c⟩ = false) :
    Calls Try.prog 32 #[.pointer (some ⟨g, 0, none⟩), .agg #[.int .i64 m, .int .i64 s, .int .u8 (k : Nat), .string a, .string b, .string c, .int .i64 nn, .int .i64 ix, .int .u8 0], .bool r] w fun e w' => e = .returned (.tuple #[.bool false, .int .i64 2]) ∧ Below w.heap.size w w' := by
  have HT := Lib.hid (PT.start [.int .i64 m, .int .i64 s, .int .u8 (k : Nat), .string a, .string b, .string c, .int .i64 nn, .int .i64 ix, .int .u8 0] hq)
  have N := Lib.hid (none_false g n own hn v _ HT.out.q.1)
  obtain ⟨A, cp, rfl, _, _⟩ := (Row.of_own hq.2).slice
  have hgl : g < w.heap.size := Whole.lt hq.1
  clear hq hn
  go_enter Try.func32, Try.ntmps32
  go_wp2_with fail
  refine N.out.mono ?_
  rintro e u ⟨rfl, rfl⟩
  have hqc := HT.out.q.1
  have q0 := Whole.cell hqc 0
  have q1 := Whole.cell hqc 1
  have q2 := Whole.cell hqc 2
  have z2 := Whole.free hqc 2
  have hql := Whole.lt hqc
  simp only [List.getElem?_cons_zero, List.getElem?_cons_succ] at q0 q1 q2
  clear hqc
  subst hr
  have HI1 := Lib.hid (HT.out.alloc (.cells #[.int .i64 s] 3))
  have HS1 := ((wh1_2 w (.cells #[.int .i64 m, .int .i64 s, .int .u8 (k : Nat), .string a, .string b, .string c, .int .i64 nn, .int .i64 ix, .int .u8 0] 66) 3 [.int .i64 s]).cell 0)
  simp only [List.getElem?_cons_zero] at HS1
  have NB := number_any (w.heap.size + 1) 1 s _ HS1
  rw [hs] at NB
  have NB := Lib.hid NB
  clear HS1
  go_wp2_with fail
  refine NB.out.mono ?_
  rintro e u1 ⟨rfl, hx⟩
  have HT1 := Lib.hid (HI1.out.call hx)
  clear hx NB q0 q1 q2 z2 hql
  have hqc := HT1.out.q.1
  have q0 := Whole.cell hqc 0
  have q1 := Whole.cell hqc 1
  have q2 := Whole.cell hqc 2
  have z2 := Whole.free hqc 2
  have hql := Whole.lt hqc
  simp only [List.getElem?_cons_zero, List.getElem?_cons_succ] at q0 q1 q2
  have hbc := HT1.out.bx
  have b0 := hbc.cell 0; have b1 := hbc.cell 1; have b2 := hbc.cell 2; have b3 := hbc.cell 3; have b4 := hbc.cell 4; have b5 := hbc.cell 5; have b6 := hbc.cell 6; have b7 := hbc.cell 7; have b8 := hbc.cell 8
  simp only [List.getElem?_cons_zero, List.getElem?_cons_succ] at b0 b1 b2 b3 b4 b5 b6 b7 b8
  have z8 := hbc.free 8
  have hbl := hbc.lt
  clear hqc hbc
  have MO := mayOp_any k a b c u1
  rw [ho] at MO
  have MO := Lib.hid MO
  go_wp2_with fail
  refine MO.out.mono ?_
  rintro e u2 ⟨rfl, hx⟩
  have HT2 := Lib.hid (HT1.out.call hx)
  clear hx MO HT1
  clear q0 q1 q2 z2 hql b0 b1 b2 b3 b4 b5 b6 b7 b8 z8 hbl
  have hqc := HT2.out.q.1
  have q0 := Whole.cell hqc 0
  have q1 := Whole.cell hqc 1
  have q2 := Whole.cell hqc 2
  have z2 := Whole.free hqc 2
  have hql := Whole.lt hqc
  simp only [List.getElem?_cons_zero, List.getElem?_cons_succ] at q0 q1 q2
  have hbc := HT2.out.bx
  have b0 := hbc.cell 0; have b1 := hbc.cell 1; have b2 := hbc.cell 2; have b3 := hbc.cell 3; have b4 := hbc.cell 4; have b5 := hbc.cell 5; have b6 := hbc.cell 6; have b7 := hbc.cell 7; have b8 := hbc.cell 8
  simp only [List.getElem?_cons_zero, List.getElem?_cons_succ] at b0 b1 b2 b3 b4 b5 b6 b7 b8
  have z8 := hbc.free 8
  have hbl := hbc.lt
  clear hqc hbc
  go_wp2_with fail
  go_ret2
  exact ⟨rfl, HT2.out.below⟩

set_option maxRecDepth 100000 in
set_option maxHeartbeats 4000000 in
theorem put_has (g : Nat) (n own : Int) (hn : n ≠ 0) (L : List Wt) (v : Value) (m s : Int) (k : Nat) (a b c : ByteArray) (nn ix : Int) (r : Bool) (w : World) (hq : QAtV w g n own L v) (hr : r = true) (h1 : 0 ≤ m) (h2 : m < 4) (hs : numB 1 s = true) (ho : mayOpB ⟨k, a, b, c⟩ = true) (hh : hasB L m s = true) :
    Calls Try.prog 32 #[.pointer (some ⟨g, 0, none⟩), .agg #[.int .i64 m, .int .i64 s, .int .u8 (k : Nat), .string a, .string b, .string c, .int .i64 nn, .int .i64 ix, .int .u8 0], .bool r] w fun e w' => e = .returned (.tuple #[.bool false, .int .i64 0]) ∧ Below w.heap.size w w' := by
  have HT := Lib.hid (PT.start [.int .i64 m, .int .i64 s, .int .u8 (k : Nat), .string a, .string b, .string c, .int .i64 nn, .int .i64 ix, .int .u8 0] hq)
  have N := Lib.hid (none_false g n own hn v _ HT.out.q.1)
  obtain ⟨A, cp, rfl, _, _⟩ := (Row.of_own hq.2).slice
  have hgl : g < w.heap.size := Whole.lt hq.1
  clear hq hn
  go_enter Try.func32, Try.ntmps32
  go_wp2_with fail
  refine N.out.mono ?_
  rintro e u ⟨rfl, rfl⟩
  have hqc := HT.out.q.1
  have q0 := Whole.cell hqc 0
  have q1 := Whole.cell hqc 1
  have q2 := Whole.cell hqc 2
  have z2 := Whole.free hqc 2
  have hql := Whole.lt hqc
  simp only [List.getElem?_cons_zero, List.getElem?_cons_succ] at q0 q1 q2
  clear hqc
  subst hr
  have HI1 := Lib.hid (HT.out.alloc (.cells #[.int .i64 s] 3))
  have HS1 := ((wh1_2 w (.cells #[.int .i64 m, .int .i64 s, .int .u8 (k : Nat), .string a, .string b, .string c, .int .i64 nn, .int .i64 ix, .int .u8 0] 66) 3 [.int .i64 s]).cell 0)
  simp only [List.getElem?_cons_zero] at HS1
  have NB := number_any (w.heap.size + 1) 1 s _ HS1
  rw [hs] at NB
  have NB := Lib.hid NB
  clear HS1
  go_wp2_with fail
  refine NB.out.mono ?_
  rintro e u1 ⟨rfl, hx⟩
  have HT1 := Lib.hid (HI1.out.call hx)
  clear hx NB q0 q1 q2 z2 hql
  have hqc := HT1.out.q.1
  have q0 := Whole.cell hqc 0
  have q1 := Whole.cell hqc 1
  have q2 := Whole.cell hqc 2
  have z2 := Whole.free hqc 2
  have hql := Whole.lt hqc
  simp only [List.getElem?_cons_zero, List.getElem?_cons_succ] at q0 q1 q2
  have hbc := HT1.out.bx
  have b0 := hbc.cell 0; have b1 := hbc.cell 1; have b2 := hbc.cell 2; have b3 := hbc.cell 3; have b4 := hbc.cell 4; have b5 := hbc.cell 5; have b6 := hbc.cell 6; have b7 := hbc.cell 7; have b8 := hbc.cell 8
  simp only [List.getElem?_cons_zero, List.getElem?_cons_succ] at b0 b1 b2 b3 b4 b5 b6 b7 b8
  have z8 := hbc.free 8
  have hbl := hbc.lt
  clear hqc hbc
  have MO := mayOp_any k a b c u1
  rw [ho] at MO
  have MO := Lib.hid MO
  go_wp2_with fail
  refine MO.out.mono ?_
  rintro e u2 ⟨rfl, hx⟩
  have HT2 := Lib.hid (HT1.out.call hx)
  clear hx MO HT1
  clear q0 q1 q2 z2 hql b0 b1 b2 b3 b4 b5 b6 b7 b8 z8 hbl
  have hqc := HT2.out.q.1
  have q0 := Whole.cell hqc 0
  have q1 := Whole.cell hqc 1
  have q2 := Whole.cell hqc 2
  have z2 := Whole.free hqc 2
  have hql := Whole.lt hqc
  simp only [List.getElem?_cons_zero, List.getElem?_cons_succ] at q0 q1 q2
  have hbc := HT2.out.bx
  have b0 := hbc.cell 0; have b1 := hbc.cell 1; have b2 := hbc.cell 2; have b3 := hbc.cell 3; have b4 := hbc.cell 4; have b5 := hbc.cell 5; have b6 := hbc.cell 6; have b7 := hbc.cell 7; have b8 := hbc.cell 8
  simp only [List.getElem?_cons_zero, List.getElem?_cons_succ] at b0 b1 b2 b3 b4 b5 b6 b7 b8
  have z8 := hbc.free 8
  have hbl := hbc.lt
  clear hqc hbc
  have CO := contains_put L _ _ w.heap.size m s u2 (Row.of_own HT2.out.q.2) (Nat.le_refl _) b0 b1
  rw [hh] at CO
  have CO := Lib.hid CO
  go_wp2_with fail
  refine CO.out.mono ?_
  rintro e u3 ⟨rfl, hx⟩
  have HT3 := Lib.hid (HT2.out.call hx)
  clear hx CO HT2
  clear q0 q1 q2 z2 hql b0 b1 b2 b3 b4 b5 b6 b7 b8 z8 hbl
  have hqc := HT3.out.q.1
  have q0 := Whole.cell hqc 0
  have q1 := Whole.cell hqc 1
  have q2 := Whole.cell hqc 2
  have z2 := Whole.free hqc 2
  have hql := Whole.lt hqc
  simp only [List.getElem?_cons_zero, List.getElem?_cons_succ] at q0 q1 q2
  have hbc := HT3.out.bx
  have b0 := hbc.cell 0; have b1 := hbc.cell 1; have b2 := hbc.cell 2; have b3 := hbc.cell 3; have b4 := hbc.cell 4; have b5 := hbc.cell 5; have b6 := hbc.cell 6; have b7 := hbc.cell 7; have b8 := hbc.cell 8
  simp only [List.getElem?_cons_zero, List.getElem?_cons_succ] at b0 b1 b2 b3 b4 b5 b6 b7 b8
  have z8 := hbc.free 8
  have hbl := hbc.lt
  clear hqc hbc
  go_wp2_with fail
  go_ret2
  exact ⟨rfl, HT3.out.below⟩

set_option maxRecDepth 100000 in
set_option maxHeartbeats 4000000 in
theorem put_full (g : Nat) (n own : Int) (hn : n ≠ 0) (L : List Wt) (v : Value) (m s : Int) (k : Nat) (a b c : ByteArray) (nn ix : Int) (r : Bool) (w : World) (hq : QAtV w g n own L v) (hr : r = true) (h1 : 0 ≤ m) (h2 : m < 4) (hs : numB 1 s = true) (ho : mayOpB ⟨k, a, b, c⟩ = true) (hh : hasB L m s = false) (hl : (8 : Int) ≤ (L.length : Int)) :
    Calls Try.prog 32 #[.pointer (some ⟨g, 0, none⟩), .agg #[.int .i64 m, .int .i64 s, .int .u8 (k : Nat), .string a, .string b, .string c, .int .i64 nn, .int .i64 ix, .int .u8 0], .bool r] w fun e w' => e = .returned (.tuple #[.bool false, .int .i64 4]) ∧ Below w.heap.size w w' := by
  have HT := Lib.hid (PT.start [.int .i64 m, .int .i64 s, .int .u8 (k : Nat), .string a, .string b, .string c, .int .i64 nn, .int .i64 ix, .int .u8 0] hq)
  have N := Lib.hid (none_false g n own hn v _ HT.out.q.1)
  obtain ⟨A, cp, rfl, _, _⟩ := (Row.of_own hq.2).slice
  have hgl : g < w.heap.size := Whole.lt hq.1
  clear hq hn
  go_enter Try.func32, Try.ntmps32
  go_wp2_with fail
  refine N.out.mono ?_
  rintro e u ⟨rfl, rfl⟩
  have hqc := HT.out.q.1
  have q0 := Whole.cell hqc 0
  have q1 := Whole.cell hqc 1
  have q2 := Whole.cell hqc 2
  have z2 := Whole.free hqc 2
  have hql := Whole.lt hqc
  simp only [List.getElem?_cons_zero, List.getElem?_cons_succ] at q0 q1 q2
  clear hqc
  subst hr
  have HI1 := Lib.hid (HT.out.alloc (.cells #[.int .i64 s] 3))
  have HS1 := ((wh1_2 w (.cells #[.int .i64 m, .int .i64 s, .int .u8 (k : Nat), .string a, .string b, .string c, .int .i64 nn, .int .i64 ix, .int .u8 0] 66) 3 [.int .i64 s]).cell 0)
  simp only [List.getElem?_cons_zero] at HS1
  have NB := number_any (w.heap.size + 1) 1 s _ HS1
  rw [hs] at NB
  have NB := Lib.hid NB
  clear HS1
  go_wp2_with fail
  refine NB.out.mono ?_
  rintro e u1 ⟨rfl, hx⟩
  have HT1 := Lib.hid (HI1.out.call hx)
  clear hx NB q0 q1 q2 z2 hql
  have hqc := HT1.out.q.1
  have q0 := Whole.cell hqc 0
  have q1 := Whole.cell hqc 1
  have q2 := Whole.cell hqc 2
  have z2 := Whole.free hqc 2
  have hql := Whole.lt hqc
  simp only [List.getElem?_cons_zero, List.getElem?_cons_succ] at q0 q1 q2
  have hbc := HT1.out.bx
  have b0 := hbc.cell 0; have b1 := hbc.cell 1; have b2 := hbc.cell 2; have b3 := hbc.cell 3; have b4 := hbc.cell 4; have b5 := hbc.cell 5; have b6 := hbc.cell 6; have b7 := hbc.cell 7; have b8 := hbc.cell 8
  simp only [List.getElem?_cons_zero, List.getElem?_cons_succ] at b0 b1 b2 b3 b4 b5 b6 b7 b8
  have z8 := hbc.free 8
  have hbl := hbc.lt
  clear hqc hbc
  have MO := mayOp_any k a b c u1
  rw [ho] at MO
  have MO := Lib.hid MO
  go_wp2_with fail
  refine MO.out.mono ?_
  rintro e u2 ⟨rfl, hx⟩
  have HT2 := Lib.hid (HT1.out.call hx)
  clear hx MO HT1
  clear q0 q1 q2 z2 hql b0 b1 b2 b3 b4 b5 b6 b7 b8 z8 hbl
  have hqc := HT2.out.q.1
  have q0 := Whole.cell hqc 0
  have q1 := Whole.cell hqc 1
  have q2 := Whole.cell hqc 2
  have z2 := Whole.free hqc 2
  have hql := Whole.lt hqc
  simp only [List.getElem?_cons_zero, List.getElem?_cons_succ] at q0 q1 q2
  have hbc := HT2.out.bx
  have b0 := hbc.cell 0; have b1 := hbc.cell 1; have b2 := hbc.cell 2; have b3 := hbc.cell 3; have b4 := hbc.cell 4; have b5 := hbc.cell 5; have b6 := hbc.cell 6; have b7 := hbc.cell 7; have b8 := hbc.cell 8
  simp only [List.getElem?_cons_zero, List.getElem?_cons_succ] at b0 b1 b2 b3 b4 b5 b6 b7 b8
  have z8 := hbc.free 8
  have hbl := hbc.lt
  clear hqc hbc
  have CO := contains_put L _ _ w.heap.size m s u2 (Row.of_own HT2.out.q.2) (Nat.le_refl _) b0 b1
  rw [hh] at CO
  have CO := Lib.hid CO
  go_wp2_with fail
  refine CO.out.mono ?_
  rintro e u3 ⟨rfl, hx⟩
  have HT3 := Lib.hid (HT2.out.call hx)
  clear hx CO HT2
  clear q0 q1 q2 z2 hql b0 b1 b2 b3 b4 b5 b6 b7 b8 z8 hbl
  have hqc := HT3.out.q.1
  have q0 := Whole.cell hqc 0
  have q1 := Whole.cell hqc 1
  have q2 := Whole.cell hqc 2
  have z2 := Whole.free hqc 2
  have hql := Whole.lt hqc
  simp only [List.getElem?_cons_zero, List.getElem?_cons_succ] at q0 q1 q2
  have hbc := HT3.out.bx
  have b0 := hbc.cell 0; have b1 := hbc.cell 1; have b2 := hbc.cell 2; have b3 := hbc.cell 3; have b4 := hbc.cell 4; have b5 := hbc.cell 5; have b6 := hbc.cell 6; have b7 := hbc.cell 7; have b8 := hbc.cell 8
  simp only [List.getElem?_cons_zero, List.getElem?_cons_succ] at b0 b1 b2 b3 b4 b5 b6 b7 b8
  have z8 := hbc.free 8
  have hbl := hbc.lt
  clear hqc hbc
  go_wp2_with fail
  go_ret2
  exact ⟨rfl, HT3.out.below⟩

set_option maxRecDepth 100000 in
set_option maxHeartbeats 4000000 in
theorem put_ok (g : Nat) (n own : Int) (hn : n ≠ 0) (L : List Wt) (v : Value) (m s : Int) (k : Nat) (a b c : ByteArray) (nn ix : Int) (r : Bool) (w : World) (hq : QAtV w g n own L v) (hr : r = true) (h1 : 0 ≤ m) (h2 : m < 4) (hs : numB 1 s = true) (ho : mayOpB ⟨k, a, b, c⟩ = true) (hh : hasB L m s = false) (hl : (L.length : Int) < 8) :
    Calls Try.prog 32 #[.pointer (some ⟨g, 0, none⟩), .agg #[.int .i64 m, .int .i64 s, .int .u8 (k : Nat), .string a, .string b, .string c, .int .i64 nn, .int .i64 ix, .int .u8 0], .bool r] w fun e w' => e = .returned (.tuple #[.bool true, .int .i64 0]) ∧ QTo w w' g n own (L ++ [(⟨⟨m, s, ⟨k, a, b, c⟩⟩, nn, ix, addN 0 own⟩ : Wt)]) v := by
  have HT := Lib.hid (PT.start [.int .i64 m, .int .i64 s, .int .u8 (k : Nat), .string a, .string b, .string c, .int .i64 nn, .int .i64 ix, .int .u8 0] hq)
  have N := Lib.hid (none_false g n own hn v _ HT.out.q.1)
  obtain ⟨A, cp, rfl, _, _⟩ := (Row.of_own hq.2).slice
  have hgl : g < w.heap.size := Whole.lt hq.1
  obtain ⟨i0, hi, hz0, hz1, hz2⟩ := info_parts info_wt
  have HOB : Hid (∀ i, i < w.heap.size ∨ True → (Value.slice A L.length cp).ownBlock = some i → i = w.heap.size → False) := fun i _ h e => by have := own_lt hq.2 h; omega
  have HEND : Hid (∀ (A7 : Option Addr) (c7 : Nat) (w7 : World), QS w7 g n own (.slice A L.length cp) → w7.ownsRow (g + 1) 66 9 (.slice A7 (L.length + 1) c7) (L.length + 1) (L.flatMap wtC ++ [.int .i64 m, .int .i64 s, .int .u8 (k : Nat), .string a, .string b, .string c, .int .i64 nn, .int .i64 ix, .int .u8 ((addN 0 own : Nat) : Int)]) →
      Foot (fun k => (Value.slice A L.length cp).ownBlock = some k) w w7 → ((Value.slice A7 (L.length + 1) c7).ownBlock = (Value.slice A L.length cp).ownBlock ∨ ∀ k, (Value.slice A7 (L.length + 1) c7).ownBlock = some k → w.heap.size ≤ k) →
      QTo w (w7.setCell ⟨g, 2, none⟩ (.slice A7 (L.length + 1) c7)) g n own (L ++ [(⟨⟨m, s, ⟨k, a, b, c⟩⟩, nn, ix, addN 0 own⟩ : Wt)]) (.slice A L.length cp)) := by
    intro A7 c7 w7 h1 h2 h3 h4
    refine ⟨.slice A7 (L.length + 1) c7, ⟨Whole.set h1 2 _, ?_⟩, (Foot.mono (G := fun k => k = g ∨ (Value.slice A L.length cp).ownBlock = some k) h3 fun i hi => .inr hi).set (p := ⟨g, 2, none⟩) (.inl (.inl rfl)) _, h4⟩
    have h5 : w7.ownsRow (g + 1) 66 9 (.slice A7 (L.length + 1) c7) (L ++ [(⟨⟨m, s, ⟨k, a, b, c⟩⟩, nn, ix, addN 0 own⟩ : Wt)]).length ((L ++ [(⟨⟨m, s, ⟨k, a, b, c⟩⟩, nn, ix, addN 0 own⟩ : Wt)]).flatMap wtC) := by
      rw [List.length_append, List.flatMap_append]; exact h2
    exact ownsRow_setCell_below h5 (a := ⟨g, 2, none⟩) (Nat.lt_succ_self g) _
  clear hq hn
  go_enter Try.func32, Try.ntmps32
  go_wp2_with fail
  refine N.out.mono ?_
  rintro e u ⟨rfl, rfl⟩
  have hqc := HT.out.q.1
  have q0 := Whole.cell hqc 0
  have q1 := Whole.cell hqc 1
  have q2 := Whole.cell hqc 2
  have z2 := Whole.free hqc 2
  have hql := Whole.lt hqc
  simp only [List.getElem?_cons_zero, List.getElem?_cons_succ] at q0 q1 q2
  clear hqc
  subst hr
  have HI1 := Lib.hid (HT.out.alloc (.cells #[.int .i64 s] 3))
  have HS1 := ((wh1_2 w (.cells #[.int .i64 m, .int .i64 s, .int .u8 (k : Nat), .string a, .string b, .string c, .int .i64 nn, .int .i64 ix, .int .u8 0] 66) 3 [.int .i64 s]).cell 0)
  simp only [List.getElem?_cons_zero] at HS1
  have NB := number_any (w.heap.size + 1) 1 s _ HS1
  rw [hs] at NB
  have NB := Lib.hid NB
  clear HS1
  go_wp2_with fail
  refine NB.out.mono ?_
  rintro e u1 ⟨rfl, hx⟩
  have HT1 := Lib.hid (HI1.out.call hx)
  clear hx NB q0 q1 q2 z2 hql
  have hqc := HT1.out.q.1
  have q0 := Whole.cell hqc 0
  have q1 := Whole.cell hqc 1
  have q2 := Whole.cell hqc 2
  have z2 := Whole.free hqc 2
  have hql := Whole.lt hqc
  simp only [List.getElem?_cons_zero, List.getElem?_cons_succ] at q0 q1 q2
  have hbc := HT1.out.bx
  have b0 := hbc.cell 0; have b1 := hbc.cell 1; have b2 := hbc.cell 2; have b3 := hbc.cell 3; have b4 := hbc.cell 4; have b5 := hbc.cell 5; have b6 := hbc.cell 6; have b7 := hbc.cell 7; have b8 := hbc.cell 8
  simp only [List.getElem?_cons_zero, List.getElem?_cons_succ] at b0 b1 b2 b3 b4 b5 b6 b7 b8
  have z8 := hbc.free 8
  have hbl := hbc.lt
  clear hqc hbc
  have MO := mayOp_any k a b c u1
  rw [ho] at MO
  have MO := Lib.hid MO
  go_wp2_with fail
  refine MO.out.mono ?_
  rintro e u2 ⟨rfl, hx⟩
  have HT2 := Lib.hid (HT1.out.call hx)
  clear hx MO HT1
  clear q0 q1 q2 z2 hql b0 b1 b2 b3 b4 b5 b6 b7 b8 z8 hbl
  have hqc := HT2.out.q.1
  have q0 := Whole.cell hqc 0
  have q1 := Whole.cell hqc 1
  have q2 := Whole.cell hqc 2
  have z2 := Whole.free hqc 2
  have hql := Whole.lt hqc
  simp only [List.getElem?_cons_zero, List.getElem?_cons_succ] at q0 q1 q2
  have hbc := HT2.out.bx
  have b0 := hbc.cell 0; have b1 := hbc.cell 1; have b2 := hbc.cell 2; have b3 := hbc.cell 3; have b4 := hbc.cell 4; have b5 := hbc.cell 5; have b6 := hbc.cell 6; have b7 := hbc.cell 7; have b8 := hbc.cell 8
  simp only [List.getElem?_cons_zero, List.getElem?_cons_succ] at b0 b1 b2 b3 b4 b5 b6 b7 b8
  have z8 := hbc.free 8
  have hbl := hbc.lt
  clear hqc hbc
  have CO := contains_put L _ _ w.heap.size m s u2 (Row.of_own HT2.out.q.2) (Nat.le_refl _) b0 b1
  rw [hh] at CO
  have CO := Lib.hid CO
  go_wp2_with fail
  refine CO.out.mono ?_
  rintro e u3 ⟨rfl, hx⟩
  have HT3 := Lib.hid (HT2.out.call hx)
  clear hx CO HT2
  clear q0 q1 q2 z2 hql b0 b1 b2 b3 b4 b5 b6 b7 b8 z8 hbl
  have hqc := HT3.out.q.1
  have q0 := Whole.cell hqc 0
  have q1 := Whole.cell hqc 1
  have q2 := Whole.cell hqc 2
  have z2 := Whole.free hqc 2
  have hql := Whole.lt hqc
  simp only [List.getElem?_cons_zero, List.getElem?_cons_succ] at q0 q1 q2
  have hbc := HT3.out.bx
  have b0 := hbc.cell 0; have b1 := hbc.cell 1; have b2 := hbc.cell 2; have b3 := hbc.cell 3; have b4 := hbc.cell 4; have b5 := hbc.cell 5; have b6 := hbc.cell 6; have b7 := hbc.cell 7; have b8 := hbc.cell 8
  simp only [List.getElem?_cons_zero, List.getElem?_cons_succ] at b0 b1 b2 b3 b4 b5 b6 b7 b8
  have z8 := hbc.free 8
  have hbl := hbc.lt
  clear hqc hbc
  have AD := Lib.hid (add_any 0 (by omega) own)

  go_wp2_with fail
  refine wp_region_still_tail 8 (by kernel_rfl) (by kernel_rfl) ?_
  simp only [List.take_succ_cons, List.take_zero, List.drop_succ_cons, List.drop_zero]
  refine wpStill_step (fun K hK => ?_)
  go_simp
  refine hK _ ?_
  clear hK K
  refine wpStill_step (fun K hK => ?_)
  go_simp
  refine hK _ ?_
  clear hK K
  refine wpStill_step (fun K hK => ?_)
  go_simp
  refine hK _ ?_
  clear hK K
  refine wpStill_step (fun K hK => ?_)
  go_simp
  refine hK _ ?_
  clear hK K
  refine wpStill_step (fun K hK => ?_)
  go_simp
  refine hK _ ?_
  clear hK K
  refine wpStill_step (fun K hK => ?_)
  go_simp
  refine hK _ ?_
  clear hK K
  refine wpStill_step (fun K hK => ?_)
  go_simp
  refine ⟨_, (AD.out _).mono (fun e w' h => ⟨h.1, h.2.symm⟩), hK _ ?_⟩
  clear hK K
  refine wpStill_step (fun K hK => ?_)
  go_simp
  refine hK _ ?_
  clear hK K
  refine wpStill_nil ?_
  go_wp2_with fail
  have HT4 : Hid (PT w g n own L (.slice A L.length cp) [.int .i64 m, .int .i64 s, .int .u8 (k : Nat), .string a, .string b, .string c, .int .i64 nn, .int .i64 ix, .int .u8 ((addN 0 own : Nat) : Int)] (u3.setCell ⟨w.heap.size, 8, none⟩ (.int .u8 ((addN 0 own : Nat) : Int))).drew) := by
    refine PT.drew ?_
    have h := HT3.out
    refine ⟨⟨Whole.far h.q.1 (p := ⟨w.heap.size, 8, none⟩) (by simp; omega) _, ?_⟩, h.bx.set 8 _, h.below.setCell (p := ⟨w.heap.size, 8, none⟩) (by simp) _⟩
    exact (Foot.set (F := fun k => k = w.heap.size) (Foot.refl _ u3) (p := ⟨w.heap.size, 8, none⟩) (.inl rfl) _).own h.q.2 (fun i hi e => HOB.out i (.inr trivial) hi e)
  obtain ⟨U, hU⟩ : ∃ U : World, U = (u3.setCell ⟨w.heap.size, 8, none⟩ (.int .u8 ((addN 0 own : Nat) : Int))).drew := ⟨_, rfl⟩
  rw [← hU] at HT4 ⊢
  clear hU HT3 AD
  clear q0 q1 q2 z2 hql b0 b1 b2 b3 b4 b5 b6 b7 b8 z8 hbl
  have hqc := HT4.out.q.1
  have q0 := Whole.cell hqc 0
  have q1 := Whole.cell hqc 1
  have q2 := Whole.cell hqc 2
  have z2 := Whole.free hqc 2
  have hql := Whole.lt hqc
  simp only [List.getElem?_cons_zero, List.getElem?_cons_succ] at q0 q1 q2
  have hbc := HT4.out.bx
  have b0 := hbc.cell 0; have b1 := hbc.cell 1; have b2 := hbc.cell 2; have b3 := hbc.cell 3; have b4 := hbc.cell 4; have b5 := hbc.cell 5; have b6 := hbc.cell 6; have b7 := hbc.cell 7; have b8 := hbc.cell 8
  simp only [List.getElem?_cons_zero, List.getElem?_cons_succ] at b0 b1 b2 b3 b4 b5 b6 b7 b8
  have z8 := hbc.free 8
  have hbl := hbc.lt
  clear hqc hbc
  have HT6 := Lib.hid ((HT4.out.alloc (.cells #[.int .i64 m, .int .i64 s, .int .u8 (k : Nat), .string a, .string b, .string c, .int .i64 nn, .int .i64 ix, .int .u8 ((addN 0 own : Nat) : Int)] 66)).drew)
  have HW6 := Lib.hid ((Whole.new U 66 [.int .i64 m, .int .i64 s, .int .u8 (k : Nat), .string a, .string b, .string c, .int .i64 nn, .int .i64 ix, .int .u8 ((addN 0 own : Nat) : Int)]).drew)
  have HX6 : Hid (∀ x ∈ ([.int .i64 m, .int .i64 s, .int .u8 (k : Nat), .string a, .string b, .string c, .int .i64 nn, .int .i64 ix, .int .u8 ((addN 0 own : Nat) : Int)] : List Value), x.oneCell' = true) := by
    intro x hx
    simp only [List.mem_cons, List.not_mem_nil, or_false] at hx
    rcases hx with rfl | rfl | rfl | rfl | rfl | rfl | rfl | rfl | rfl <;> rfl
  go_region_law (refine step_append_foot _ rfl (.tmp 67) (.tmp 69) _ (by rfl) (g + 1) 66 i0 _ 9 96 Try.underlying31 hi hz0 hz1 hz2 rfl (by decide) _ L.length (L.flatMap wtC) (by rfl) HT6.out.q.2 (U.heap.size + 1) _ 1 [.int .i64 m, .int .i64 s, .int .u8 (k : Nat), .string a, .string b, .string c, .int .i64 nn, .int .i64 ix, .int .u8 ((addN 0 own : Nat) : Int)] (by rfl) (Row.blk HW6.out rfl (by omega) (by unfold maxLen; omega)) rfl HX6.out (by unfold maxLen; omega) (by omega) (by show g + 1 ≤ (U.alloc _).heap.size; simp; omega) ?_
                 intro v7 w7 hown hgr hv
                 have HF7 := Lib.hid (Foot.of_grown hgr)
                 have hq7 := HF7.out.whole HT6.out.q.1 (fun e => by have := own_lt HT6.out.q.2 e; omega)
                 have HB7 := Lib.hid (HF7.out.whole HT6.out.bx (fun e => HOB.out w.heap.size (.inr trivial) e rfl))
                 have c7' := Whole.cell hq7 2
                 have f7 := Whole.free hq7 2
                 simp only [List.getElem?_cons_zero, List.getElem?_cons_succ] at c7'
                 have HQ7 := Lib.hid hq7
                 obtain ⟨A7, c7, rfl, _, _⟩ := (Row.of_own hown).slice
                 have HO7 := Lib.hid hown
                 have HV7 := Lib.hid hv
                 clear hown hgr hv hq7)
  all_goals
    go_wp2_with fail
    go_ret2
    exact ⟨rfl, HEND.out _ _ _ HQ7.out HO7.out ((Foot.of_below HT6.out.below).then HF7.out (fun i hi => .inl hi)) (HV7.out.imp id fun e k hk => by rw [hk] at e; injection e with e; have := HT6.out.below.size; omega)⟩

end Qu
end Go.Proofs.Ytinnpeonokdljaa
