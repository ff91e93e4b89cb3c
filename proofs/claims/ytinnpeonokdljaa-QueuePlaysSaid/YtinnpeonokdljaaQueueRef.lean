/- The document's queue: numbers, operations, New, Same. -/
import Derived.Test.YtinnpeonokdljaaQueueApi
import Derived.Test.YtinnpeonokdljaaQuorumRef
import Derived.BigQuiet
set_option linter.unusedSimpArgs false
set_option linter.unusedVariables false
namespace Go.Proofs.Ytinnpeonokdljaa
open Go.RowKit

namespace Qu
open Qm
attribute [local go_sem ↓] neq_rq

set_option maxHeartbeats 400000 in
theorem whole_any (n least : Int) (w : World) : Calls Try.prog 43 #[.int .i64 n, .int .i64 least] w fun e w' => e = .returned (.bool (numB least n)) ∧ w = w' := by
  go_enter Try.func43, Try.ntmps43
  by_cases h : least ≤ n
  · have h' : decide (least ≤ n) = true := by simp [h]
    go_wp2_with fail
    go_ret
    exact ⟨ret_bool (by unfold numB; simp [h]), rfl⟩
  · have h' : decide (least ≤ n) = false := by simp [h]
    go_wp2_with fail
    go_ret
    exact ⟨ret_bool (by unfold numB; rw [decide_eq_false (by omega : ¬ least ≤ n)]; rfl), rfl⟩
set_option maxHeartbeats 400000 in
theorem crowd_any (n : Int) (w : World) : Calls Try.prog 41 #[.int .i64 n] w fun e w' => e = .returned (.bool (decide (0 < mostN n))) ∧ w = w' := by
  rcases most_cases n with ⟨rfl, h⟩ | ⟨rfl, h⟩ | ⟨rfl, h⟩ | ⟨h3, h5, h7, h⟩
  · rw [h]
    go_enter Try.func41, Try.ntmps41
    go_wp2_with fail
    go_ret
    exact ⟨rfl, rfl⟩
  · rw [h]
    go_enter Try.func41, Try.ntmps41
    go_wp2_with fail
    go_ret
    exact ⟨rfl, rfl⟩
  · rw [h]
    go_enter Try.func41, Try.ntmps41
    go_wp2_with fail
    go_ret
    exact ⟨rfl, rfl⟩
  · rw [h]
    have e3 : (n == 3) = false := by simp [h3]
    have e5 : (n == 5) = false := by simp [h5]
    have e7 : (n == 7) = false := by simp [h7]
    clear h h3 h5 h7
    go_enter Try.func41, Try.ntmps41
    go_wp2_with fail
    go_ret
    exact ⟨rfl, rfl⟩

/-- The document's queue: its block, what waits. -/
structure En where
  r : Rq
  reads : Bool
  nonce : Int
  index : Int
  set : Nat
def enC (x : En) : List Value := [.int .i64 x.r.client, .int .i64 x.r.seq, .int .u8 (x.r.op.kind : Nat), .string x.r.op.key, .string x.r.op.old, .string x.r.op.val, .bool x.reads, .int .i64 x.nonce, .int .i64 x.index, .int .u8 (x.set : Nat)]
theorem enC_len (x : En) : (enC x).length = 10 := rfl
def mI (g : Nat) (n own : Int) (M : List En) (y : Value) : List It := [.box g 75 [.int .i64 n, .int .i64 own, y], .row (g + 1) 78 10 y M.length (M.flatMap enC)]

set_option maxHeartbeats 1000000 in
theorem rnew_bad (n own : Int) (h : madeB n own = false) (w : World) : Calls Try.prog 20 #[.int .i64 n, .int .i64 own] w fun e w' => e = .returned (.pointer none) ∧ w = w' := by
  have C := crowd_any n
  unfold madeB at h
  by_cases h0 : 0 < mostN n
  · by_cases h1 : own < 0
    · rw [decide_eq_true h0] at C
      have C := Lib.hid C
      clear h h0
      go_enter Try.func20, Try.ntmps20
      go_wp2_with fail
      refine (C.out _).mono ?_
      rintro e u ⟨rfl, rfl⟩
      go_wp2_with fail
      go_ret
      exact ⟨rfl, rfl⟩
    · have h2 : n ≤ own := by
        rw [decide_eq_true h0, decide_eq_true (by omega : 0 ≤ own)] at h
        simpa using h
      rw [decide_eq_true h0] at C
      have C := Lib.hid C
      clear h h0
      go_enter Try.func20, Try.ntmps20
      go_wp2_with fail
      refine (C.out _).mono ?_
      rintro e u ⟨rfl, rfl⟩
      go_wp2_with fail
      go_ret
      exact ⟨rfl, rfl⟩
  · rw [decide_eq_false h0] at C
    have C := Lib.hid C
    clear h h0
    go_enter Try.func20, Try.ntmps20
    go_wp2_with fail
    refine (C.out _).mono ?_
    rintro e u ⟨rfl, rfl⟩
    go_wp2_with fail
    go_ret
    exact ⟨rfl, rfl⟩
set_option maxHeartbeats 1000000 in
theorem rnew_sep {w0 : World} {l : List It} (n own : Int) (h : madeB n own = true) (w : World) (hS : Sep w0 l w) : Calls Try.prog 20 #[.int .i64 n, .int .i64 own] w fun e w' =>
    e = .returned (.pointer (some ⟨w.heap.size, 0, none⟩)) ∧ Sep w0 (mI w.heap.size n own [] (.slice none 0 0) ++ l) w' := by
  have C := crowd_any n
  unfold madeB at h
  simp only [Bool.and_eq_true, decide_eq_true_eq] at h
  obtain ⟨⟨h0, h1⟩, h2⟩ := h
  rw [decide_eq_true h0] at C
  have C := Lib.hid C
  have HS := Lib.hid hS
  clear h0 hS
  go_enter Try.func20, Try.ntmps20
  go_wp2_with fail
  refine (C.out _).mono ?_
  rintro e u ⟨rfl, rfl⟩
  go_wp2_with fail
  go_ret
  refine ⟨rfl, ?_⟩
  refine Sep.turn (a := []) (a' := mI w.heap.size n own [] (.slice none 0 0)) (F := fun _ => False) HS.out (Foot.of_below (be1 _ _)) (fun _ h => h.elim) ?_ ?_ ?_
  · intro x hx
    simp only [mI, List.mem_cons, List.not_mem_nil, or_false] at hx
    rcases hx with rfl | rfl
    · exact Whole.new _ _ _
    · exact ⟨rfl, .inl ⟨rfl, rfl⟩⟩
  · intro x hx k hk
    simp only [mI, List.mem_cons, List.not_mem_nil, or_false] at hx
    rcases hx with rfl | rfl
    · injection hk with hk; exact .inr (by omega)
    · cases hk
  · refine List.pairwise_cons.2 ⟨?_, List.pairwise_singleton _ _⟩
    intro x hx k hk hk'
    simp only [List.mem_singleton] at hx
    subst hx
    cases hk'

theorem size_pos {a : ByteArray} : (a.size == 0) = !decide (1 ≤ a.size) := by
  by_cases h : a.size = 0
  · simp [h]
  · have : 1 ≤ a.size := by omega
    simp [h, this]
theorem empty_iff (b : ByteArray) : b.toList.isEmpty = decide (b = { data := #[] }) := by
  rw [Bool.eq_iff_iff, List.isEmpty_iff, decide_eq_true_eq]
  have h0 : ({ data := #[] } : ByteArray).toList = [] := by rw [ByteArray.toList_eq]
  exact ⟨fun h => bytes_eq.1 (h.trans h0.symm), fun h => by rw [h]; exact h0⟩
set_option maxHeartbeats 4000000 in
theorem rmay_any (k : Nat) (a b c : ByteArray) (w : World) : Calls Try.prog 56 #[.agg #[.int .u8 (k : Nat), .string a, .string b, .string c]] w fun e w' => e = .returned (.bool (mayOpB ⟨k, a, b, c⟩)) ∧ Below w.heap.size w w' := by
  obtain ⟨y, hy⟩ : ∃ y, mayOpB ⟨k, a, b, c⟩ = y := ⟨_, rfl⟩
  rw [hy]
  have HY := Lib.hid hy; clear hy
  go_enter Try.func56, Try.ntmps56
  by_cases z1 : a.size = 0
  · have z1' : ((a.size : Int) == 0) = true := by simp [z1]
    go_wp2_with fail
    go_ret
    exact ⟨ret_bool (by rw [← HY.out]; unfold mayOpB sizeB; simp [z1]), be1 _ _⟩
  have z1' : ((a.size : Int) == 0) = false := by simp [z1]
  by_cases z2 : (8 : Int) < a.size
  · go_wp2_with fail
    go_ret
    exact ⟨ret_bool (by rw [← HY.out]; unfold mayOpB sizeB; simp; intros; omega), be1 _ _⟩
  by_cases z3 : (16 : Int) < b.size
  · go_wp2_with fail
    go_ret
    exact ⟨ret_bool (by rw [← HY.out]; unfold mayOpB sizeB; simp; intros; omega), be1 _ _⟩
  by_cases z4 : (16 : Int) < c.size
  · go_wp2_with fail
    go_ret
    exact ⟨ret_bool (by rw [← HY.out]; unfold mayOpB sizeB; simp; intros; omega), be1 _ _⟩
  have hs : sizeB ⟨k, a, b, c⟩ = true := by unfold sizeB; simp; omega
  have HB : Hid (bareB ⟨k, a, b, c⟩ = y) := by
    have := HY.out
    unfold mayOpB at this
    rw [hs, Bool.and_true] at this
    exact this
  clear HY hs
  have HBE : bareB ⟨k, a, b, c⟩ = if k = 1 ∨ k = 3 then decide (b = { data := #[] }) && decide (c = { data := #[] }) else if k = 2 then decide (b = { data := #[] }) else decide (k = 4) := rfl
  rw [HBE] at HB
  clear HBE
  have HB := HB.out
  rw [← empty_iff, ← empty_iff] at HB
  obtain ⟨e1, he1⟩ : ∃ e1, b.toList.isEmpty = e1 := ⟨_, rfl⟩
  obtain ⟨e2, he2⟩ : ∃ e2, c.toList.isEmpty = e2 := ⟨_, rfl⟩
  rw [he1, he2] at HB
  by_cases k1 : k = 1
  · subst k1
    rw [if_pos (.inl rfl)] at HB
    cases e1 <;> cases e2 <;> simp at HB <;> subst HB
    all_goals
      go_wp2_with fail
      go_ret
      exact ⟨rfl, be1 _ _⟩
  by_cases k3 : k = 3
  · subst k3
    rw [if_pos (.inr rfl)] at HB
    cases e1 <;> cases e2 <;> simp at HB <;> subst HB
    all_goals
      go_wp2_with fail
      go_ret
      exact ⟨rfl, be1 _ _⟩
  rw [if_neg (by omega)] at HB
  by_cases k2 : k = 2
  · subst k2
    rw [if_pos rfl] at HB
    subst HB
    go_wp2_with fail
    go_ret
    exact ⟨rfl, be1 _ _⟩
  rw [if_neg k2] at HB
  by_cases k4 : k = 4
  · subst k4
    simp at HB
    subst HB
    go_wp2_with fail
    go_ret
    exact ⟨rfl, be1 _ _⟩
  have n1 : ((k : Int) == 1) = false := by simp; omega
  have n2 : ((k : Int) == 2) = false := by simp; omega
  have n3 : ((k : Int) == 3) = false := by simp; omega
  have n4 : ((k : Int) == 4) = false := by simp; omega
  simp [k4] at HB
  subst HB
  go_wp2_with fail
  go_ret
  exact ⟨rfl, be1 _ _⟩

/-- Same. -/
theorem rq_take_step {a b : List Rq} {k : Nat} (ha : k < a.length) (hb : k < b.length) (h : a.take k = b.take k) (hs : a[k] = b[k]) : a.take (k + 1) = b.take (k + 1) := by
  rw [List.take_succ_eq_append_getElem ha, List.take_succ_eq_append_getElem hb, h, hs]
set_option maxHeartbeats 4000000 in
theorem same_rq (xs ys : List Rq) (v u : Value) (B B' : Nat) (w : World) (hx : Row w B v xs.length (xs.flatMap rqC)) (hy : Row w B' u ys.length (ys.flatMap rqC)) (hB : B ≤ w.heap.size) (hB' : B' ≤ w.heap.size) :
    Calls Try.prog 24 #[v, u] w fun e w' => e = .returned (.bool (decide (xs = ys))) ∧ Below w.heap.size w w' := by
  have h63 := hx.bound
  have h63' := hy.bound
  obtain ⟨A1, c1, rfl, _, _⟩ := hx.slice
  obtain ⟨A2, c2, rfl, _, _⟩ := hy.slice
  have HX := Lib.hid hx
  have HY := Lib.hid hy
  clear hx hy
  go_enter Try.func24, Try.ntmps24
  by_cases hl : xs.length = ys.length
  · have hl' : ((xs.length : Int) == (ys.length : Int)) = true := by simp; omega
    go_wp2_with fail
    go_loopw [5] (fun iv wr => ∃ k : Nat, k ≤ xs.length ∧ iv = .int .i64 k ∧ xs.take k = ys.take k ∧ Below w.heap.size w wr) (fun iv _ => xs.length - (intOf iv).toNat)
    case atStart => exact ⟨0, Nat.zero_le _, rfl, rfl, Below.refl _ _⟩
    case round =>
      obtain ⟨k, hk, rfl, heq, hb⟩ := hrel
      have zs := hb.size
      by_cases hlt : k < xs.length
      · have hlt2 : k < ys.length := by omega
        have h1 := HX.out
        have h2 := HY.out
        obtain ⟨b1, o1, rfl, hb1, hx1⟩ := h1.elem rqC_len (by omega) hlt
        obtain ⟨b2, o2, rfl, hb2, hx2⟩ := h2.elem rqC_len (by omega) hlt2
        have hfx : ∀ j x, (rqC xs[k])[j]? = some x → wr.cell? ⟨b1, o1 + k * 6 + j, none⟩ = some x := fun j x h => by
          rw [Nat.add_assoc]; exact (hb.cell (p := ⟨b1, o1 + (k * 6 + j), none⟩) (Nat.lt_of_lt_of_le hb1 hB)).trans (hx1 j x h)
        have hfy : ∀ j x, (rqC ys[k])[j]? = some x → wr.cell? ⟨b2, o2 + k * 6 + j, none⟩ = some x := fun j x h => by
          rw [Nat.add_assoc]; exact (hb.cell (p := ⟨b2, o2 + (k * 6 + j), none⟩) (Nat.lt_of_lt_of_le hb2 hB')).trans (hx2 j x h)
        have x0 := hfx 0 _ rfl; have y0 := hfy 0 _ rfl
        have x1 := hfx 1 _ rfl; have y1 := hfy 1 _ rfl
        have x2 := hfx 2 _ rfl; have y2 := hfy 2 _ rfl
        have x3 := hfx 3 _ rfl; have y3 := hfy 3 _ rfl
        have x4 := hfx 4 _ rfl; have y4 := hfy 4 _ rfl
        have x5 := hfx 5 _ rfl; have y5 := hfy 5 _ rfl
        simp only [Nat.add_zero] at x0 y0
        have HN := Lib.hid (fun h => rq_take_step hlt hlt2 heq h)
        have HQ : Hid (xs[k] ≠ ys[k] → xs ≠ ys) := fun h e => h (by subst e; rfl)
        have HE := Lib.hid (sameRq_iff xs[k] ys[k])
        have hk0 : (0 : Int) ≤ (k : Int) := by omega
        have hk1 : (k : Int) < (xs.length : Int) := by omega
        have hk2 : (k : Int) < (ys.length : Int) := by omega
        clear hfx hfy hx1 hx2 h1 h2 heq
        have HB := Lib.hid hb; clear hb
        generalize xs[k] = x at *
        generalize ys[k] = y at *
        obtain ⟨xm, xs', ⟨xk, xa, xb, xc⟩⟩ := x
        obtain ⟨ym, ys', ⟨yk, ya, yb, yc⟩⟩ := y
        dsimp only at x0 x1 x2 x3 x4 x5 y0 y1 y2 y3 y4 y5 HE
        by_cases hxy : (⟨xm, xs', ⟨xk, xa, xb, xc⟩⟩ : Rq) = ⟨ym, ys', ⟨yk, ya, yb, yc⟩⟩
        · have hs : sameRq xm xs' xk xa xb xc ym ys' yk ya yb yc = true := by rw [HE.out]; exact decide_eq_true hxy
          go_wp2_with fail
          go_quiet (fail)
          go_wp2_with fail
          exact ⟨⟨k + 1, by omega, by go_num, HN.out hxy, drewN_below HB.out _⟩, by simp [intOf]; omega⟩
        · have hs : sameRq xm xs' xk xa xb xc ym ys' yk ya yb yc = false := by rw [HE.out]; exact decide_eq_false hxy
          go_wp2_with fail
          go_quiet (fail)
          go_wp2_with fail
          go_ret
          exact ⟨ret_bool (decide_eq_false (HQ.out hxy)).symm, drewN_below HB.out _⟩
      · have e : k = xs.length := by omega
        subst e
        go_wp2_with fail
        go_ret
        rw [List.take_length, hl, List.take_length] at heq
        exact ⟨ret_bool (decide_eq_true heq).symm, hb⟩
  · have hl' : ((xs.length : Int) == (ys.length : Int)) = false := by simp; omega
    go_wp2_with fail
    go_ret
    exact ⟨ret_bool (decide_eq_false (fun e => hl (by rw [e]))).symm, Below.refl _ _⟩

end Qu
end Go.Proofs.Ytinnpeonokdljaa
