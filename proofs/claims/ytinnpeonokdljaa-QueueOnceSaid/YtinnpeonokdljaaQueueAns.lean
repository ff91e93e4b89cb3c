/- Waits and Answer of a queue that somebody made. -/
import Derived.Test.YtinnpeonokdljaaQueueOps
set_option linter.unusedSimpArgs false
set_option linter.unusedVariables false
namespace Go.Proofs.Ytinnpeonokdljaa
open Go.RowKit

/-- One cell of the k-th element is written. -/
theorem flat_set1 {α : Type} {f : α → List Value} {K : Nat} (hf : ∀ a, (f a).length = K) : ∀ (l : List α) (k j : Nat) (v : Value) (a : α) (hk : k < l.length), j < K → f a = (f l[k]).set j v → (l.flatMap f).set (k * K + j) v = (l.set k a).flatMap f
  | [], k, _, _, _, h, _, _ => by simp at h
  | b :: l, 0, j, v, a, _, hj, h => by
    rw [List.flatMap_cons, Nat.zero_mul, Nat.zero_add, List.set_append_left _ _ (by rw [hf]; exact hj), List.set_cons_zero, List.flatMap_cons, h]
    rfl
  | b :: l, k + 1, j, v, a, hk, hj, h => by
    rw [List.flatMap_cons, show (k + 1) * K + j = K + (k * K + j) by rw [Nat.succ_mul]; omega, List.set_append_right _ _ (by rw [hf]; omega), hf, show K + (k * K + j) - K = k * K + j by omega,
      flat_set1 hf l k j v a (by simpa using hk) hj (by simpa using h), List.set_cons_succ, List.flatMap_cons]

namespace Qu
open Qm
/-- A replica answered. -/
def ansW (nonce r : Int) (x : Wt) : Wt := if 0 < x.nonce ∧ x.nonce ≤ nonce then { x with set := addN x.set r } else x
def ansL (nonce r : Int) (L : List Wt) : List Wt := L.map (ansW nonce r)
def ansK (nonce r : Int) (L : List Wt) (k : Nat) : List Wt := (L.take k).map (ansW nonce r) ++ L.drop k
theorem ansK_len (nonce r : Int) (L : List Wt) (k : Nat) (hk : k ≤ L.length) : (ansK nonce r L k).length = L.length := by unfold ansK; simp; omega
theorem ansK_zero (nonce r : Int) (L : List Wt) : ansK nonce r L 0 = L := by unfold ansK; simp
theorem ansK_all (nonce r : Int) (L : List Wt) : ansK nonce r L L.length = ansL nonce r L := by unfold ansK ansL; simp
theorem ansK_at (nonce r : Int) (L : List Wt) (k : Nat) (hk : k < L.length) : ∃ h : k < (ansK nonce r L k).length, (ansK nonce r L k)[k] = L[k] := by
  refine ⟨by rw [ansK_len _ _ _ _ (by omega)]; exact hk, ?_⟩
  unfold ansK
  rw [List.getElem_append_right (by simp; omega)]
  simp only [List.length_map, List.length_take, List.getElem_drop]
  congr 1
  omega
theorem ansK_next (nonce r : Int) (L : List Wt) (k : Nat) (hk : k < L.length) : ansK nonce r L (k + 1) = (ansK nonce r L k).set k (ansW nonce r L[k]) := by
  unfold ansK
  have hl : ((L.take k).map (ansW nonce r)).length = k := by rw [List.length_map, List.length_take]; omega
  rw [List.set_append_right _ _ (by rw [hl]; exact Nat.le_refl _), hl, Nat.sub_self, List.take_succ_eq_append_getElem hk, List.map_append, List.append_assoc, List.drop_eq_getElem_cons hk]
  rfl
theorem ansK_same (nonce r : Int) (L : List Wt) (k : Nat) (hk : k < L.length) (h : ansW nonce r L[k] = L[k]) : ansK nonce r L (k + 1) = ansK nonce r L k := by
  obtain ⟨h1, h2⟩ := ansK_at nonce r L k hk
  rw [ansK_next _ _ _ _ hk, h]
  conv => lhs; rw [← h2]
  exact List.set_getElem_self h1
theorem ans_sets {nonce r : Int} {L : List Wt} (h : SetOk L) : SetOk (ansL nonce r L) := by
  intro x hx
  obtain ⟨y, hy, rfl⟩ := List.mem_map.1 hx
  unfold ansW
  split
  · exact addN_lt (h y hy) r
  · exact h y hy

set_option maxHeartbeats 4000000 in
theorem waits_any (g : Nat) (n own : Int) (hn : n ≠ 0) (L : List Wt) (v : Value) (w : World) (hq : QAtV w g n own L v) (hL : L.length ≤ 500) :
    Calls Try.prog 15 #[.pointer (some ⟨g, 0, none⟩)] w fun e w' =>
      ∃ vo, e = .returned vo ∧ w'.ownsRow w.heap.size 25 6 vo (L.map (·.r)).length ((L.map (·.r)).flatMap rqC) ∧ Below w.heap.size w w' := by
  have N := Lib.hid (none_false g n own hn v _ hq.1)
  have HR := Lib.hid (Row.of_own hq.2)
  obtain ⟨A, cp, rfl, _, _⟩ := HR.out.slice
  have hbd := HR.out.bound
  obtain ⟨i0, hi, hz0, hz1, hz2⟩ := info_parts info_rq
  have q2 := Whole.cell hq.1 2
  have hgl := Whole.lt hq.1
  simp only [List.getElem?_cons_zero, List.getElem?_cons_succ] at q2
  clear hq
  go_enter Try.func15, Try.ntmps15
  go_wp2_with fail
  refine N.out.mono ?_
  rintro e u ⟨rfl, rfl⟩
  go_wp2_with fail
  go_loopw [3, 13] (fun ov iv wr => ∃ k : Nat, k ≤ L.length ∧ iv = .int .i64 k ∧ wr.ownsRow w.heap.size 25 6 ov k (((L.take k).map (·.r)).flatMap rqC) ∧ Below w.heap.size w wr) (fun _ iv _ => L.length - (intOf iv).toNat)
  case atStart => exact ⟨0, Nat.zero_le _, rfl, ⟨rfl, .inl ⟨rfl, rfl⟩⟩, Below.refl _ _⟩
  case round =>
    obtain ⟨k, hk, rfl, hown, hx⟩ := hrel
    have zs := hx.size
    obtain ⟨Ao, co, rfl, _, _⟩ := (Row.of_own hown).slice
    have HO := Lib.hid hown
    have HB := Lib.hid hx
    clear hown
    by_cases hlt' : k < L.length
    · have h2 := HR.out
      obtain ⟨b2, o2, rfl, hb2, hx2⟩ := h2.elem wtC_len (by omega) hlt'
      have hy : ∀ j x, (wtC L[k])[j]? = some x → wr.cell? ⟨b2, o2 + k * 9 + j, none⟩ = some x := fun j x h => by
        rw [Nat.add_assoc]; exact (hx.cell (p := ⟨b2, o2 + (k * 9 + j), none⟩) hb2).trans (hx2 j x h)
      have y0 := hy 0 _ rfl
      have y1 := hy 1 _ rfl
      have y2 := hy 2 _ rfl
      have y3 := hy 3 _ rfl
      have y4 := hy 4 _ rfl
      have y5 := hy 5 _ rfl
      have y6 := hy 6 _ rfl
      have y7 := hy 7 _ rfl
      have y8 := hy 8 _ rfl
      simp only [Nat.add_zero] at y0
      have hnext : ((L.take (k + 1)).map (·.r)).flatMap rqC = ((L.take k).map (·.r)).flatMap rqC ++ rqC L[k].r := by
        rw [List.take_succ_eq_append_getElem hlt', List.map_append, List.flatMap_append]; simp
      have HN := Lib.hid hnext
      clear hx2 h2 hy hx hnext
      generalize L[k] = x at HN y0 y1 y2 y3 y4 y5 y6 y7 y8
      obtain ⟨⟨xm, xs, ⟨xk, xa, xb, xc⟩⟩, xn, xi, xt⟩ := x
      dsimp only at HN y0 y1 y2 y3 y4 y5 y6 y7 y8
      have hk0 : (0 : Int) ≤ (k : Int) := by omega
      have hk1 : (k : Int) < (L.length : Int) := by omega
      have HX6 : Hid (∀ x ∈ ([.int .i64 xm, .int .i64 xs, .int .u8 (xk : Nat), .string xa, .string xb, .string xc] : List Value), x.oneCell' = true) := by
        intro x hx
        simp only [List.mem_cons, List.not_mem_nil, or_false] at hx
        rcases hx with rfl | rfl | rfl | rfl | rfl | rfl <;> rfl
      go_wp2_with (at_builtin
                   refine wpList_append_foot _ rfl (.tmp 17) (.tmp 20) _ rfl w.heap.size 25 i0 _ 6 72 Try.underlying41 hi hz0 hz1 hz2 rfl (by decide) _ k (((L.take k).map (·.r)).flatMap rqC) rfl ((HO.out.alloc _).alloc _) (wr.heap.size + 1 + 1) _ 1 [.int .i64 xm, .int .i64 xs, .int .u8 (xk : Nat), .string xa, .string xb, .string xc] rfl (Row.blk (wh1_2 wr _ 25 [.int .i64 xm, .int .i64 xs, .int .u8 (xk : Nat), .string xa, .string xb, .string xc]) rfl (by omega) (by unfold maxLen; omega)) rfl HX6.out (by unfold maxLen; omega) (by omega) (by simp; omega) ?_
                   intro v7 w7 hown7 hg7 hv7
                   have HB7 := Lib.hid (below_grown _ ((HO.out.alloc _).alloc _) (by simp; omega) hg7)
                   have HO7 := Lib.hid hown7
                   clear hown7 hg7 hv7)
      refine ⟨⟨k + 1, by omega, by go_num, ?_, ?_⟩, by simp [intOf]; omega⟩
      · rw [HN.out]; exact HO7.out
      · exact ((HB.out.alloc zs _).alloc (by simp; omega) _).trans HB7.out
    · have e : k = L.length := by omega
      subst e
      clear hx
      go_wp2_with fail
      go_ret
      refine ⟨_, rfl, ?_, HB.out⟩
      have h := HO.out
      rw [List.take_length] at h
      rw [List.length_map]
      exact h

set_option maxHeartbeats 4000000 in
theorem answer_num (g : Nat) (n own : Int) (hn : n ≠ 0) (L : List Wt) (v : Value) (nonce r : Int) (w : World) (hq : QAtV w g n own L v) (hs : numB 1 nonce = false) :
    Calls Try.prog 11 #[.pointer (some ⟨g, 0, none⟩), .int .i64 nonce, .int .i64 r] w fun e w' => e = .returned (.int .i64 2) ∧ Below w.heap.size w w' := by
  have N := Lib.hid (none_false g n own hn v _ hq.1)
  have hB0 := be1 w (.cells #[.int .i64 nonce] 3)
  have HQ := Lib.hid (hq.below hB0)
  have NB := number_any w.heap.size 1 nonce (w.alloc (.cells #[.int .i64 nonce] 3)) ((Whole.new w 3 [.int .i64 nonce]).cell 0)
  rw [hs] at NB
  have NB := Lib.hid NB
  have HB0 := Lib.hid hB0
  clear hq hB0 hs
  go_enter Try.func11, Try.ntmps11
  go_wp2_with fail
  refine N.out.mono ?_
  rintro e u ⟨rfl, rfl⟩
  go_wp2_with fail
  refine NB.out.mono ?_
  rintro e u1 ⟨rfl, hx⟩
  have HQ1 := Lib.hid (HQ.out.below hx)
  have HB1 := Lib.hid (HB0.out.trans (hx.mono HB0.out.size))
  have q0 := Whole.cell HQ1.out.1 0
  have q2 := Whole.cell HQ1.out.1 2
  have hgl := Whole.lt HQ1.out.1
  simp only [List.getElem?_cons_zero, List.getElem?_cons_succ] at q0 q2
  clear hx HQ HB0 N NB
  go_wp2_with fail
  go_ret
  exact ⟨rfl, HB1.out⟩

set_option maxHeartbeats 4000000 in
theorem answer_lo (g : Nat) (n own : Int) (hn : n ≠ 0) (L : List Wt) (v : Value) (nonce r : Int) (w : World) (hq : QAtV w g n own L v) (hs : numB 1 nonce = true) (hr : r < 0) :
    Calls Try.prog 11 #[.pointer (some ⟨g, 0, none⟩), .int .i64 nonce, .int .i64 r] w fun e w' => e = .returned (.int .i64 2) ∧ Below w.heap.size w w' := by
  have N := Lib.hid (none_false g n own hn v _ hq.1)
  have hB0 := be1 w (.cells #[.int .i64 nonce] 3)
  have HQ := Lib.hid (hq.below hB0)
  have NB := number_any w.heap.size 1 nonce (w.alloc (.cells #[.int .i64 nonce] 3)) ((Whole.new w 3 [.int .i64 nonce]).cell 0)
  rw [hs] at NB
  have NB := Lib.hid NB
  have HB0 := Lib.hid hB0
  clear hq hB0 hs
  go_enter Try.func11, Try.ntmps11
  go_wp2_with fail
  refine N.out.mono ?_
  rintro e u ⟨rfl, rfl⟩
  go_wp2_with fail
  refine NB.out.mono ?_
  rintro e u1 ⟨rfl, hx⟩
  have HQ1 := Lib.hid (HQ.out.below hx)
  have HB1 := Lib.hid (HB0.out.trans (hx.mono HB0.out.size))
  have q0 := Whole.cell HQ1.out.1 0
  have q2 := Whole.cell HQ1.out.1 2
  have hgl := Whole.lt HQ1.out.1
  simp only [List.getElem?_cons_zero, List.getElem?_cons_succ] at q0 q2
  clear hx HQ HB0 N NB
  go_wp2_with fail
  go_ret
  exact ⟨rfl, HB1.out⟩

set_option maxHeartbeats 4000000 in
theorem answer_hi (g : Nat) (n own : Int) (hn : n ≠ 0) (L : List Wt) (v : Value) (nonce r : Int) (w : World) (hq : QAtV w g n own L v) (hs : numB 1 nonce = true) (hr : 0 ≤ r) (hr2 : n ≤ r) :
    Calls Try.prog 11 #[.pointer (some ⟨g, 0, none⟩), .int .i64 nonce, .int .i64 r] w fun e w' => e = .returned (.int .i64 2) ∧ Below w.heap.size w w' := by
  have N := Lib.hid (none_false g n own hn v _ hq.1)
  have hB0 := be1 w (.cells #[.int .i64 nonce] 3)
  have HQ := Lib.hid (hq.below hB0)
  have NB := number_any w.heap.size 1 nonce (w.alloc (.cells #[.int .i64 nonce] 3)) ((Whole.new w 3 [.int .i64 nonce]).cell 0)
  rw [hs] at NB
  have NB := Lib.hid NB
  have HB0 := Lib.hid hB0
  clear hq hB0 hs
  go_enter Try.func11, Try.ntmps11
  go_wp2_with fail
  refine N.out.mono ?_
  rintro e u ⟨rfl, rfl⟩
  go_wp2_with fail
  refine NB.out.mono ?_
  rintro e u1 ⟨rfl, hx⟩
  have HQ1 := Lib.hid (HQ.out.below hx)
  have HB1 := Lib.hid (HB0.out.trans (hx.mono HB0.out.size))
  have q0 := Whole.cell HQ1.out.1 0
  have q2 := Whole.cell HQ1.out.1 2
  have hgl := Whole.lt HQ1.out.1
  simp only [List.getElem?_cons_zero, List.getElem?_cons_succ] at q0 q2
  clear hx HQ HB0 N NB
  go_wp2_with fail
  go_ret
  exact ⟨rfl, HB1.out⟩

set_option maxHeartbeats 4000000 in
theorem answer_ok (g : Nat) (n own : Int) (hn : n ≠ 0) (L : List Wt) (v : Value) (nonce r : Int) (w : World) (hq : QAtV w g n own L v) (hs : numB 1 nonce = true) (hr : 0 ≤ r) (hr2 : r < n) (hS : SetOk L) :
    Calls Try.prog 11 #[.pointer (some ⟨g, 0, none⟩), .int .i64 nonce, .int .i64 r] w fun e w' => e = .returned (.int .i64 0) ∧ QTo w w' g n own (ansL nonce r L) v := by
  have N := Lib.hid (none_false g n own hn v _ hq.1)
  have hB0 := be1 w (.cells #[.int .i64 nonce] 3)
  have HQ := Lib.hid (hq.below hB0)
  have NB := number_any w.heap.size 1 nonce (w.alloc (.cells #[.int .i64 nonce] 3)) ((Whole.new w 3 [.int .i64 nonce]).cell 0)
  rw [hs] at NB
  have NB := Lib.hid NB
  have HB0 := Lib.hid hB0
  clear hq hB0 hs
  go_enter Try.func11, Try.ntmps11
  go_wp2_with fail
  refine N.out.mono ?_
  rintro e u ⟨rfl, rfl⟩
  go_wp2_with fail
  refine NB.out.mono ?_
  rintro e u1 ⟨rfl, hx⟩
  have HQ1 := Lib.hid (HQ.out.below hx)
  have HB1 := Lib.hid (HB0.out.trans (hx.mono HB0.out.size))
  have q0 := Whole.cell HQ1.out.1 0
  have q2 := Whole.cell HQ1.out.1 2
  have hgl := Whole.lt HQ1.out.1
  simp only [List.getElem?_cons_zero, List.getElem?_cons_succ] at q0 q2
  clear hx HQ HB0 N NB
  have HR := Lib.hid (Row.of_own HQ1.out.2)
  obtain ⟨A, cp, rfl, _, _⟩ := HR.out.slice
  have hbd := HR.out.bound
  have hob : Hid (∀ i, (Value.slice A L.length cp).ownBlock = some i → i < u1.heap.size ∧ g < i) := fun i hi => by have := own_lt HQ1.out.2 hi; omega
  have HS := Lib.hid hS
  clear hS
  go_wp2_with fail
  go_loopw [34] (fun iv wr => ∃ k : Nat, k ≤ L.length ∧ iv = .int .i64 k ∧ QAtV wr g n own (ansK nonce r L k) (.slice A L.length cp) ∧ Foot (fun k => (Value.slice A L.length cp).ownBlock = some k) u1 wr) (fun iv _ => L.length - (intOf iv).toNat)
  case atStart => exact ⟨0, Nat.zero_le _, rfl, by rw [ansK_zero]; exact HQ1.out, Foot.refl _ _⟩
  case round =>
    obtain ⟨k, hk, rfl, hqk, hf⟩ := hrel
    have zs := hf.size
    have HQK := Lib.hid hqk
    have HF := Lib.hid hf
    clear hqk hf q0 q2
    have q2 := Whole.cell HQK.out.1 2
    simp only [List.getElem?_cons_zero, List.getElem?_cons_succ] at q2
    by_cases hlt' : k < L.length
    · obtain ⟨hkX, hXk⟩ := ansK_at nonce r L k hlt'
      have hA : ∃ rb, A = some ⟨rb, 0, none⟩ := by
        rcases HQ1.out.2.2 with ⟨h', _⟩ | ⟨g', cap', cur, h', _⟩
        · simp only [Value.slice.injEq] at h'; omega
        · simp only [Value.slice.injEq] at h'; exact ⟨g', h'.1⟩
      obtain ⟨rb, rfl⟩ := hA
      have hlen := ansK_len nonce r L k hk
      have hown : wr.ownsRow (g + 1) 66 9 (.slice (some ⟨rb, 0, none⟩) L.length cp) L.length ((ansK nonce r L k).flatMap wtC) := by have := HQK.out.2; rw [hlen] at this; exact this
      have hrx : Row wr wr.heap.size (.slice (some ⟨rb, 0, none⟩) (ansK nonce r L k).length cp) (ansK nonce r L k).length ((ansK nonce r L k).flatMap wtC) := by rw [hlen]; exact Row.of_own hown
      obtain ⟨b2, o2, hA2, hb2, hx2⟩ := hrx.elem wtC_len (by omega) hkX
      obtain ⟨rfl, rfl⟩ : rb = b2 ∧ 0 = o2 := by injection hA2 with hA2; injection hA2 with e1 e2; exact ⟨e1, e2⟩
      rw [hXk] at hx2
      have hy : ∀ j x, (wtC L[k])[j]? = some x → wr.cell? ⟨rb, k * 9 + j, none⟩ = some x := fun j x h => by
        have := hx2 j x h
        rwa [Nat.zero_add] at this
      have y6 := hy 6 _ rfl
      have y8 := hy 8 _ rfl
      have f8 : wr.frozen? ⟨rb, k * 9 + 8, none⟩ = false := hown.frozenAt _
      have HO := Lib.hid hown
      have hsx := HS.out _ (List.getElem_mem hlt')
      have HN : Hid (∀ k', k' = k + 1 → ansK nonce r L k' = (ansK nonce r L k).set k (ansW nonce r L[k])) := fun k' h => by subst h; exact ansK_next nonce r L k hlt'
      have HM : Hid (ansW nonce r L[k] = L[k] → ansK nonce r L (k + 1) = ansK nonce r L k) := fun h => ansK_same nonce r L k hlt' h
      have HKX := Lib.hid hkX
      have HXK : Hid ((ansK nonce r L k)[k]'HKX.out = L[k]) := hXk
      clear hx2 hy hrx hA2 hXk hown hkX
      have hk0 : (0 : Int) ≤ (k : Int) := by omega
      have hk1 : (k : Int) < (L.length : Int) := by omega
      generalize hgx : L[k] = x at y6 y8 hsx
      have HGX := Lib.hid hgx
      obtain ⟨⟨xm, xs, ⟨xk, xa, xb, xc⟩⟩, xn, xi, xt⟩ := x
      dsimp only at y6 y8 hsx
      clear hgx
      have AD := Lib.hid (add_any xt hsx r)
      by_cases h1 : 0 < xn
      · have h1' : decide (0 < xn) = true := by simp [h1]
        by_cases h2 : xn ≤ nonce
        · have h2' : decide (xn ≤ nonce) = true := by simp [h2]
          go_wp2_with fail
          refine (AD.out _).mono ?_
          rintro e w2 ⟨rfl, rfl⟩
          go_wp2_with fail
          have hst := (HO.out.stored (k * 9 + 8) (.int .u8 (addN xt r : Nat))).1
          have e1 : ansW nonce r L[k] = ⟨⟨xm, xs, ⟨xk, xa, xb, xc⟩⟩, xn, xi, addN xt r⟩ := by rw [HGX.out]; unfold ansW; exact if_pos ⟨h1, h2⟩
          have e2 := flat_set1 wtC_len (ansK nonce r L k) k 8 (.int .u8 (addN xt r : Nat)) (ansW nonce r L[k]) HKX.out (by omega) (by rw [HXK.out, e1, HGX.out]; rfl)
          rw [e2, ← HN.out _ rfl] at hst
          refine ⟨⟨k + 1, by omega, by go_num, ⟨Whole.far HQK.out.1 (p := ⟨rb, k * 9 + 8, none⟩) (by have := hob.out rb rfl; show g ≠ rb; omega) _, ?_⟩, ?_⟩, by simp [intOf]; omega⟩
          · rw [ansK_len _ _ _ _ (by omega)]; exact hst
          · exact HF.out.set (p := ⟨rb, k * 9 + 8, none⟩) (.inl rfl) _
        · have h2' : decide (xn ≤ nonce) = false := by simp [h2]
          go_wp2_with fail
          refine ⟨⟨k + 1, by omega, by go_num, ?_, HF.out⟩, by simp [intOf]; omega⟩
          rw [HM.out (by rw [HGX.out]; unfold ansW; exact if_neg (fun h => h2 h.2))]
          exact HQK.out
      · have h1' : decide (0 < xn) = false := by simp [h1]
        go_wp2_with fail
        refine ⟨⟨k + 1, by omega, by go_num, ?_, HF.out⟩, by simp [intOf]; omega⟩
        rw [HM.out (by rw [HGX.out]; unfold ansW; exact if_neg (fun h => h1 h.1))]
        exact HQK.out
    · have e : k = L.length := by omega
      subst e
      have h := HQK.out
      rw [ansK_all] at h
      have HE := Lib.hid h
      clear h
      go_wp2_with fail
      go_ret
      exact ⟨rfl, _, HE.out, (Foot.of_below HB1.out).then (HF.out.mono (G := fun j => j = g ∨ (Value.slice A L.length cp).ownBlock = some j) fun i hi => .inr hi) (fun i hi => .inl hi), .inl rfl⟩

end Qu
end Go.Proofs.Ytinnpeonokdljaa
