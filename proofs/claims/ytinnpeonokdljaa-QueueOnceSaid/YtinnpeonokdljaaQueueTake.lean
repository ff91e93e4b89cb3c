/- Requests are taken out: take$1, slices.IndexFunc and slices.DeleteFunc with it, take. -/
import Derived.Test.YtinnpeonokdljaaQueuePut
set_option linter.unusedSimpArgs false
set_option linter.unusedVariables false
namespace Go.Proofs.Ytinnpeonokdljaa
open Go.RowKit

namespace Qu
/-- Block h holds the slice vo, of one's own, of these requests. -/
def OV (h : Nat) (u : World) (M : List Rq) (vo : Value) : Prop := Whole u h 41 [vo] ∧ u.ownsRow (h + 1) 25 6 vo M.length (M.flatMap rqC)
theorem OV.lt {h : Nat} {u : World} {M : List Rq} {vo : Value} (k : OV h u M vo) : h < u.heap.size := Whole.lt k.1
theorem OV.below {h : Nat} {u u' : World} {M : List Rq} {vo : Value} (k : OV h u M vo) (hx : Below u.heap.size u u') : OV h u' M vo := ⟨Whole.below k.1 hx k.lt, own_below k.2 hx⟩
theorem OV.drew {h : Nat} {u : World} {M : List Rq} {vo : Value} (k : OV h u M vo) : OV h u.drew M vo := k
theorem OV.foot {h : Nat} {u u' : World} {M : List Rq} {vo : Value} {F : Nat → Prop} (k : OV h u M vo) (hx : Foot F u u') (hF : ∀ i, F i → i < h) : OV h u' M vo :=
  ⟨hx.whole k.1 (fun e => by have := hF _ e; omega), hx.own k.2 (fun i hi e => by have := hF _ e; have := own_lt k.2 hi; omega)⟩
/-- What takes from there may turn. -/
def OF (h : Nat) (vo : Value) (k : Nat) : Prop := k = h ∨ vo.ownBlock = some k
theorem OV.feet {h : Nat} {u : World} {M : List Rq} {vo : Value} (k : OV h u M vo) : ∀ i, OF h vo i → h ≤ i ∧ i < u.heap.size := by
  rintro i (rfl | hi)
  · exact ⟨Nat.le_refl _, k.lt⟩
  · have := own_lt k.2 hi; omega
theorem OV.under {h : Nat} {u u' : World} {M : List Rq} {vo : Value} (k : OV h u M vo) (hx : Foot (OF h vo) u u') : Below h u u' := hx.below (fun i hi => (k.feet i hi).1) (Nat.le_of_lt k.lt)
theorem info_rq : (Try.prog.info? 25).map (fun i => (i.zero, i.size, i.bytes)) = some (some (.agg #[.int .i64 0, .int .i64 0, .int .u8 0, .string { data := #[] }, .string { data := #[] }, .string { data := #[] }]), 6, 72) := by kernel_rfl
/-- What take$1 leaves. -/
def tookN (p : Bool) (M : List Rq) (r : Rq) : List Rq := if p then M ++ [r] else M
set_option maxHeartbeats 4000000 in
theorem take1_done (c1 c2 : Nat) (p : Bool) (h0 h1 : Nat) (M : List Rq) (vo : Value) (xm xs : Int) (xk : Nat) (xa xb xc : ByteArray) (xn xi : Int) (xt : Nat) (u : World) (hh : h0 < h1) (hM : M.length ≤ 1000)
    (HC : ∀ u', Below u.heap.size u u' → Calls Try.prog 37 #[.agg #[.int .i64 xm, .int .i64 xs, .int .u8 (xk : Nat), .string xa, .string xb, .string xc, .int .i64 xn, .int .i64 xi, .int .u8 (xt : Nat)], .pointer (some ⟨c1, 0, none⟩), .pointer (some ⟨c2, 0, none⟩)] u' fun e w' => e = .returned (.bool p) ∧ Below u'.heap.size u' w')
    (hf : Whole u h0 71 [.func (.func 37) #[] #[.pointer (some ⟨c1, 0, none⟩), .pointer (some ⟨c2, 0, none⟩)]]) (hox : OV h1 u M vo) :
    Calls Try.prog 55 #[.agg #[.int .i64 xm, .int .i64 xs, .int .u8 (xk : Nat), .string xa, .string xb, .string xc, .int .i64 xn, .int .i64 xi, .int .u8 (xt : Nat)], .pointer (some ⟨h0, 0, none⟩), .pointer (some ⟨h1, 0, none⟩)] u fun e w' => e = .returned (.bool p) ∧ (∃ vo', OV h1 w' (tookN p M ⟨xm, xs, ⟨xk, xa, xb, xc⟩⟩) vo') ∧ Foot (OF h1 vo) u w' := by
  have hlt := hox.lt
  have HB0 := be1 u (.cells #[.int .i64 xm, .int .i64 xs, .int .u8 (xk : Nat), .string xa, .string xb, .string xc, .int .i64 xn, .int .i64 xi, .int .u8 (xt : Nat)] 66)
  have HX0 := Lib.hid (hox.below HB0)
  have HC1 := Lib.hid (HC _ HB0)
  have c0 := (hf.below HB0 hf.lt).cell 0
  have HBX := Lib.hid (Whole.new u 66 [.int .i64 xm, .int .i64 xs, .int .u8 (xk : Nat), .string xa, .string xb, .string xc, .int .i64 xn, .int .i64 xi, .int .u8 (xt : Nat)])
  have HB := Lib.hid HB0
  obtain ⟨i0, hi, hz0, hz1, hz2⟩ := info_parts info_rq
  simp only [List.getElem?_cons_zero] at c0
  clear HC hf hox HB0
  go_enter Try.func55, Try.ntmps55
  go_wp2_with fail
  refine HC1.out.mono ?_
  rintro e u1 ⟨rfl, hx⟩
  have HX1 := Lib.hid (HX0.out.below hx)
  have HB1 := Lib.hid (HB.out.trans (hx.mono HB.out.size))
  have HBX1 := HBX.out.below hx HBX.out.lt
  have hz := hx.size
  rw [World.size_alloc] at hz
  cases p
  · clear hx HX0 HB HC1 c0 HBX HBX1
    go_wp2_with fail
    go_ret
    exact ⟨rfl, ⟨_, HX1.out⟩, Foot.of_below HB1.out⟩
  · have b0 := HBX1.cell 0; have b1 := HBX1.cell 1; have b2 := HBX1.cell 2; have b3 := HBX1.cell 3; have b4 := HBX1.cell 4; have b5 := HBX1.cell 5
    simp only [List.getElem?_cons_zero, List.getElem?_cons_succ] at b0 b1 b2 b3 b4 b5
    obtain ⟨hw, hown⟩ := HX1.out
    have o0 := hw.cell 0
    simp only [List.getElem?_cons_zero] at o0
    have HW := Lib.hid hw
    have HO := Lib.hid hown
    have HX6 : Hid (∀ x ∈ ([.int .i64 xm, .int .i64 xs, .int .u8 (xk : Nat), .string xa, .string xb, .string xc] : List Value), x.oneCell' = true) := by
      intro x hx
      simp only [List.mem_cons, List.not_mem_nil, or_false] at hx
      rcases hx with rfl | rfl | rfl | rfl | rfl | rfl <;> rfl
    clear hx HX0 HX1 HB HC1 c0 HBX HBX1 hw hown
    go_wp2_with (at_builtin
                 refine wpList_append_foot _ rfl (.tmp 9) (.tmp 12) _ rfl (h1 + 1) 25 i0 _ 6 72 Try.underlying41 hi hz0 hz1 hz2 rfl (by decide) _ M.length (M.flatMap rqC) rfl (HO.out.alloc _) (u1.heap.size + 1) _ 1 [.int .i64 xm, .int .i64 xs, .int .u8 (xk : Nat), .string xa, .string xb, .string xc] rfl (Row.blk (Whole.new _ 25 [.int .i64 xm, .int .i64 xs, .int .u8 (xk : Nat), .string xa, .string xb, .string xc]) rfl (by omega) (by unfold maxLen; omega)) rfl HX6.out (by unfold maxLen; omega) (by omega) (by simp; omega) ?_
                 intro v7 w7 hown7 hg7 hv7
                 have HF7 := Lib.hid (Foot.of_grown hg7)
                 have hw7 := HF7.out.whole (HW.out.alloc (.cells #[.int .i64 xm, .int .i64 xs, .int .u8 (xk : Nat), .string xa, .string xb, .string xc] 25)) (fun e => by have := own_lt HO.out e; omega)
                 have d0 := hw7.cell 0
                 have fz := hw7.free 0
                 simp only [List.getElem?_cons_zero] at d0
                 have HW7 := Lib.hid hw7
                 obtain ⟨A7, c7, rfl, _, _⟩ := (Row.of_own hown7).slice
                 have HO7 := Lib.hid hown7
                 clear hown7 hg7 hv7 hw7)
    go_ret
    refine ⟨rfl, ⟨_, HW7.out.set 0 _, ?_⟩, ?_⟩
    · have h5 : w7.ownsRow (h1 + 1) 25 6 (.slice A7 (M.length + 1) c7) (M ++ [(⟨xm, xs, ⟨xk, xa, xb, xc⟩⟩ : Rq)]).length ((M ++ [(⟨xm, xs, ⟨xk, xa, xb, xc⟩⟩ : Rq)]).flatMap rqC) := by
        rw [List.length_append, List.flatMap_append]; exact HO7.out
      exact ownsRow_setCell_below h5 (a := ⟨h1, 0, none⟩) (Nat.lt_succ_self h1) _
    · have z1 := HB1.out.size
      have b8 : Foot (OF h1 vo) u (u1.alloc (.cells #[.int .i64 xm, .int .i64 xs, .int .u8 (xk : Nat), .string xa, .string xb, .string xc] 25)) := (Foot.of_below HB1.out).alloc _
      have b7 : Foot (OF h1 vo) (u1.alloc (.cells #[.int .i64 xm, .int .i64 xs, .int .u8 (xk : Nat), .string xa, .string xb, .string xc] 25)) w7 := HF7.out.mono fun k hk => .inr hk
      exact (b8.trans b7).set (p := ⟨h1, 0, none⟩) (.inl (.inl rfl)) _

set_option maxHeartbeats 4000000 in
theorem take1_ready (c1 c2 : Nat) (p : Bool) (h0 h1 : Nat) (M : List Rq) (vo : Value) (xm xs : Int) (xk : Nat) (xa xb xc : ByteArray) (xn xi : Int) (xt : Nat) (u : World) (hh : h0 < h1) (hM : M.length ≤ 1000)
    (HC : ∀ u', Below u.heap.size u u' → Calls Try.prog 38 #[.agg #[.int .i64 xm, .int .i64 xs, .int .u8 (xk : Nat), .string xa, .string xb, .string xc, .int .i64 xn, .int .i64 xi, .int .u8 (xt : Nat)], .pointer (some ⟨c1, 0, none⟩), .pointer (some ⟨c2, 0, none⟩)] u' fun e w' => e = .returned (.bool p) ∧ Below u'.heap.size u' w')
    (hf : Whole u h0 71 [.func (.func 38) #[] #[.pointer (some ⟨c1, 0, none⟩), .pointer (some ⟨c2, 0, none⟩)]]) (hox : OV h1 u M vo) :
    Calls Try.prog 55 #[.agg #[.int .i64 xm, .int .i64 xs, .int .u8 (xk : Nat), .string xa, .string xb, .string xc, .int .i64 xn, .int .i64 xi, .int .u8 (xt : Nat)], .pointer (some ⟨h0, 0, none⟩), .pointer (some ⟨h1, 0, none⟩)] u fun e w' => e = .returned (.bool p) ∧ (∃ vo', OV h1 w' (tookN p M ⟨xm, xs, ⟨xk, xa, xb, xc⟩⟩) vo') ∧ Foot (OF h1 vo) u w' := by
  have hlt := hox.lt
  have HB0 := be1 u (.cells #[.int .i64 xm, .int .i64 xs, .int .u8 (xk : Nat), .string xa, .string xb, .string xc, .int .i64 xn, .int .i64 xi, .int .u8 (xt : Nat)] 66)
  have HX0 := Lib.hid (hox.below HB0)
  have HC1 := Lib.hid (HC _ HB0)
  have c0 := (hf.below HB0 hf.lt).cell 0
  have HBX := Lib.hid (Whole.new u 66 [.int .i64 xm, .int .i64 xs, .int .u8 (xk : Nat), .string xa, .string xb, .string xc, .int .i64 xn, .int .i64 xi, .int .u8 (xt : Nat)])
  have HB := Lib.hid HB0
  obtain ⟨i0, hi, hz0, hz1, hz2⟩ := info_parts info_rq
  simp only [List.getElem?_cons_zero] at c0
  clear HC hf hox HB0
  go_enter Try.func55, Try.ntmps55
  go_wp2_with fail
  refine HC1.out.mono ?_
  rintro e u1 ⟨rfl, hx⟩
  have HX1 := Lib.hid (HX0.out.below hx)
  have HB1 := Lib.hid (HB.out.trans (hx.mono HB.out.size))
  have HBX1 := HBX.out.below hx HBX.out.lt
  have hz := hx.size
  rw [World.size_alloc] at hz
  cases p
  · clear hx HX0 HB HC1 c0 HBX HBX1
    go_wp2_with fail
    go_ret
    exact ⟨rfl, ⟨_, HX1.out⟩, Foot.of_below HB1.out⟩
  · have b0 := HBX1.cell 0; have b1 := HBX1.cell 1; have b2 := HBX1.cell 2; have b3 := HBX1.cell 3; have b4 := HBX1.cell 4; have b5 := HBX1.cell 5
    simp only [List.getElem?_cons_zero, List.getElem?_cons_succ] at b0 b1 b2 b3 b4 b5
    obtain ⟨hw, hown⟩ := HX1.out
    have o0 := hw.cell 0
    simp only [List.getElem?_cons_zero] at o0
    have HW := Lib.hid hw
    have HO := Lib.hid hown
    have HX6 : Hid (∀ x ∈ ([.int .i64 xm, .int .i64 xs, .int .u8 (xk : Nat), .string xa, .string xb, .string xc] : List Value), x.oneCell' = true) := by
      intro x hx
      simp only [List.mem_cons, List.not_mem_nil, or_false] at hx
      rcases hx with rfl | rfl | rfl | rfl | rfl | rfl <;> rfl
    clear hx HX0 HX1 HB HC1 c0 HBX HBX1 hw hown
    go_wp2_with (at_builtin
                 refine wpList_append_foot _ rfl (.tmp 9) (.tmp 12) _ rfl (h1 + 1) 25 i0 _ 6 72 Try.underlying41 hi hz0 hz1 hz2 rfl (by decide) _ M.length (M.flatMap rqC) rfl (HO.out.alloc _) (u1.heap.size + 1) _ 1 [.int .i64 xm, .int .i64 xs, .int .u8 (xk : Nat), .string xa, .string xb, .string xc] rfl (Row.blk (Whole.new _ 25 [.int .i64 xm, .int .i64 xs, .int .u8 (xk : Nat), .string xa, .string xb, .string xc]) rfl (by omega) (by unfold maxLen; omega)) rfl HX6.out (by unfold maxLen; omega) (by omega) (by simp; omega) ?_
                 intro v7 w7 hown7 hg7 hv7
                 have HF7 := Lib.hid (Foot.of_grown hg7)
                 have hw7 := HF7.out.whole (HW.out.alloc (.cells #[.int .i64 xm, .int .i64 xs, .int .u8 (xk : Nat), .string xa, .string xb, .string xc] 25)) (fun e => by have := own_lt HO.out e; omega)
                 have d0 := hw7.cell 0
                 have fz := hw7.free 0
                 simp only [List.getElem?_cons_zero] at d0
                 have HW7 := Lib.hid hw7
                 obtain ⟨A7, c7, rfl, _, _⟩ := (Row.of_own hown7).slice
                 have HO7 := Lib.hid hown7
                 clear hown7 hg7 hv7 hw7)
    go_ret
    refine ⟨rfl, ⟨_, HW7.out.set 0 _, ?_⟩, ?_⟩
    · have h5 : w7.ownsRow (h1 + 1) 25 6 (.slice A7 (M.length + 1) c7) (M ++ [(⟨xm, xs, ⟨xk, xa, xb, xc⟩⟩ : Rq)]).length ((M ++ [(⟨xm, xs, ⟨xk, xa, xb, xc⟩⟩ : Rq)]).flatMap rqC) := by
        rw [List.length_append, List.flatMap_append]; exact HO7.out
      exact ownsRow_setCell_below h5 (a := ⟨h1, 0, none⟩) (Nat.lt_succ_self h1) _
    · have z1 := HB1.out.size
      have b8 : Foot (OF h1 vo) u (u1.alloc (.cells #[.int .i64 xm, .int .i64 xs, .int .u8 (xk : Nat), .string xa, .string xb, .string xc] 25)) := (Foot.of_below HB1.out).alloc _
      have b7 : Foot (OF h1 vo) (u1.alloc (.cells #[.int .i64 xm, .int .i64 xs, .int .u8 (xk : Nat), .string xa, .string xb, .string xc] 25)) w7 := HF7.out.mono fun k hk => .inr hk
      exact (b8.trans b7).set (p := ⟨h1, 0, none⟩) (.inl (.inl rfl)) _

set_option maxHeartbeats 4000000 in
theorem take1_clear (p : Bool) (h0 h1 : Nat) (M : List Rq) (vo : Value) (xm xs : Int) (xk : Nat) (xa xb xc : ByteArray) (xn xi : Int) (xt : Nat) (u : World) (hh : h0 < h1) (hM : M.length ≤ 1000)
    (HC : ∀ u', Below u.heap.size u u' → Calls Try.prog 39 #[.agg #[.int .i64 xm, .int .i64 xs, .int .u8 (xk : Nat), .string xa, .string xb, .string xc, .int .i64 xn, .int .i64 xi, .int .u8 (xt : Nat)]] u' fun e w' => e = .returned (.bool p) ∧ Below u'.heap.size u' w')
    (hf : Whole u h0 71 [.func (.func 39) #[] #[]]) (hox : OV h1 u M vo) :
    Calls Try.prog 55 #[.agg #[.int .i64 xm, .int .i64 xs, .int .u8 (xk : Nat), .string xa, .string xb, .string xc, .int .i64 xn, .int .i64 xi, .int .u8 (xt : Nat)], .pointer (some ⟨h0, 0, none⟩), .pointer (some ⟨h1, 0, none⟩)] u fun e w' => e = .returned (.bool p) ∧ (∃ vo', OV h1 w' (tookN p M ⟨xm, xs, ⟨xk, xa, xb, xc⟩⟩) vo') ∧ Foot (OF h1 vo) u w' := by
  have hlt := hox.lt
  have HB0 := be1 u (.cells #[.int .i64 xm, .int .i64 xs, .int .u8 (xk : Nat), .string xa, .string xb, .string xc, .int .i64 xn, .int .i64 xi, .int .u8 (xt : Nat)] 66)
  have HX0 := Lib.hid (hox.below HB0)
  have HC1 := Lib.hid (HC _ HB0)
  have c0 := (hf.below HB0 hf.lt).cell 0
  have HBX := Lib.hid (Whole.new u 66 [.int .i64 xm, .int .i64 xs, .int .u8 (xk : Nat), .string xa, .string xb, .string xc, .int .i64 xn, .int .i64 xi, .int .u8 (xt : Nat)])
  have HB := Lib.hid HB0
  obtain ⟨i0, hi, hz0, hz1, hz2⟩ := info_parts info_rq
  simp only [List.getElem?_cons_zero] at c0
  clear HC hf hox HB0
  go_enter Try.func55, Try.ntmps55
  go_wp2_with fail
  refine HC1.out.mono ?_
  rintro e u1 ⟨rfl, hx⟩
  have HX1 := Lib.hid (HX0.out.below hx)
  have HB1 := Lib.hid (HB.out.trans (hx.mono HB.out.size))
  have HBX1 := HBX.out.below hx HBX.out.lt
  have hz := hx.size
  rw [World.size_alloc] at hz
  cases p
  · clear hx HX0 HB HC1 c0 HBX HBX1
    go_wp2_with fail
    go_ret
    exact ⟨rfl, ⟨_, HX1.out⟩, Foot.of_below HB1.out⟩
  · have b0 := HBX1.cell 0; have b1 := HBX1.cell 1; have b2 := HBX1.cell 2; have b3 := HBX1.cell 3; have b4 := HBX1.cell 4; have b5 := HBX1.cell 5
    simp only [List.getElem?_cons_zero, List.getElem?_cons_succ] at b0 b1 b2 b3 b4 b5
    obtain ⟨hw, hown⟩ := HX1.out
    have o0 := hw.cell 0
    simp only [List.getElem?_cons_zero] at o0
    have HW := Lib.hid hw
    have HO := Lib.hid hown
    have HX6 : Hid (∀ x ∈ ([.int .i64 xm, .int .i64 xs, .int .u8 (xk : Nat), .string xa, .string xb, .string xc] : List Value), x.oneCell' = true) := by
      intro x hx
      simp only [List.mem_cons, List.not_mem_nil, or_false] at hx
      rcases hx with rfl | rfl | rfl | rfl | rfl | rfl <;> rfl
    clear hx HX0 HX1 HB HC1 c0 HBX HBX1 hw hown
    go_wp2_with (at_builtin
                 refine wpList_append_foot _ rfl (.tmp 9) (.tmp 12) _ rfl (h1 + 1) 25 i0 _ 6 72 Try.underlying41 hi hz0 hz1 hz2 rfl (by decide) _ M.length (M.flatMap rqC) rfl (HO.out.alloc _) (u1.heap.size + 1) _ 1 [.int .i64 xm, .int .i64 xs, .int .u8 (xk : Nat), .string xa, .string xb, .string xc] rfl (Row.blk (Whole.new _ 25 [.int .i64 xm, .int .i64 xs, .int .u8 (xk : Nat), .string xa, .string xb, .string xc]) rfl (by omega) (by unfold maxLen; omega)) rfl HX6.out (by unfold maxLen; omega) (by omega) (by simp; omega) ?_
                 intro v7 w7 hown7 hg7 hv7
                 have HF7 := Lib.hid (Foot.of_grown hg7)
                 have hw7 := HF7.out.whole (HW.out.alloc (.cells #[.int .i64 xm, .int .i64 xs, .int .u8 (xk : Nat), .string xa, .string xb, .string xc] 25)) (fun e => by have := own_lt HO.out e; omega)
                 have d0 := hw7.cell 0
                 have fz := hw7.free 0
                 simp only [List.getElem?_cons_zero] at d0
                 have HW7 := Lib.hid hw7
                 obtain ⟨A7, c7, rfl, _, _⟩ := (Row.of_own hown7).slice
                 have HO7 := Lib.hid hown7
                 clear hown7 hg7 hv7 hw7)
    go_ret
    refine ⟨rfl, ⟨_, HW7.out.set 0 _, ?_⟩, ?_⟩
    · have h5 : w7.ownsRow (h1 + 1) 25 6 (.slice A7 (M.length + 1) c7) (M ++ [(⟨xm, xs, ⟨xk, xa, xb, xc⟩⟩ : Rq)]).length ((M ++ [(⟨xm, xs, ⟨xk, xa, xb, xc⟩⟩ : Rq)]).flatMap rqC) := by
        rw [List.length_append, List.flatMap_append]; exact HO7.out
      exact ownsRow_setCell_below h5 (a := ⟨h1, 0, none⟩) (Nat.lt_succ_self h1) _
    · have z1 := HB1.out.size
      have b8 : Foot (OF h1 vo) u (u1.alloc (.cells #[.int .i64 xm, .int .i64 xs, .int .u8 (xk : Nat), .string xa, .string xb, .string xc] 25)) := (Foot.of_below HB1.out).alloc _
      have b7 : Foot (OF h1 vo) (u1.alloc (.cells #[.int .i64 xm, .int .i64 xs, .int .u8 (xk : Nat), .string xa, .string xb, .string xc] 25)) w7 := HF7.out.mono fun k hk => .inr hk
      exact (b8.trans b7).set (p := ⟨h1, 0, none⟩) (.inl (.inl rfl)) _

/-- What take$1 must do, from the world W0 on: it tells p, notes the request, and turns nothing ahead of the block h1. -/
def T1 (h0 h1 : Nat) (p : Wt → Bool) (G : Nat → Prop) (W0 : World) : Prop := ∀ (xm xs : Int) (xk : Nat) (xa xb xc : ByteArray) (xn xi : Int) (xt : Nat) (M : List Rq) (vo : Value) (u : World), xt < 256 → M.length ≤ 1000 → OV h1 u M vo → Foot G W0 u →
    Calls Try.prog 55 #[.agg #[.int .i64 xm, .int .i64 xs, .int .u8 (xk : Nat), .string xa, .string xb, .string xc, .int .i64 xn, .int .i64 xi, .int .u8 (xt : Nat)], .pointer (some ⟨h0, 0, none⟩), .pointer (some ⟨h1, 0, none⟩)] u fun e w' => e = .returned (.bool (p ⟨⟨xm, xs, ⟨xk, xa, xb, xc⟩⟩, xn, xi, xt⟩)) ∧ (∃ vo', OV h1 w' (tookN (p ⟨⟨xm, xs, ⟨xk, xa, xb, xc⟩⟩, xn, xi, xt⟩) M ⟨xm, xs, ⟨xk, xa, xb, xc⟩⟩) vo') ∧ Foot (OF h1 vo) u w'
/-- Which requests are taken, of the first ones. -/
def took (p : Wt → Bool) (L : List Wt) : List Rq := (L.filter p).map (·.r)
theorem took_len (p : Wt → Bool) (L : List Wt) : (took p L).length ≤ L.length := by unfold took; rw [List.length_map]; exact List.length_filter_le _ _
theorem took_next (p : Wt → Bool) (L : List Wt) (k : Nat) (hk : k < L.length) : took p (L.take (k + 1)) = tookN (p L[k]) (took p (L.take k)) L[k].r := by
  unfold took tookN
  rw [List.take_succ_eq_append_getElem hk, List.filter_append, List.map_append]
  cases h : p L[k] <;> simp [h]
theorem took_none {p : Wt → Bool} {L : List Wt} (h : L.any p = false) : took p L = [] := by
  unfold took
  rw [List.filter_eq_nil_iff.2 (fun x hx hp => by have := List.any_eq_true.2 ⟨x, hx, hp⟩; rw [h] at this; exact absurd this (by decide))]; rfl
theorem left_none {p : Wt → Bool} {L : List Wt} (h : L.any p = false) : L.filter (fun x => !p x) = L :=
  List.filter_eq_self.2 fun x hx => by
    cases hp : p x
    · rfl
    · have := List.any_eq_true.2 ⟨x, hx, hp⟩; rw [h] at this; exact absurd this (by decide)
theorem left_next (p : Wt → Bool) (L : List Wt) (k : Nat) (hk : k < L.length) : (L.take (k + 1)).filter (fun x => !p x) = (L.take k).filter (fun x => !p x) ++ (if p L[k] then [] else [L[k]]) := by
  rw [List.take_succ_eq_append_getElem hk, List.filter_append]
  cases h : p L[k] <;> simp [h]

set_option maxHeartbeats 2000000 in
theorem index_take (p : Wt → Bool) (G : Nat → Prop) (h0 h1 : Nat) (L : List Wt) (v : Value) (w : World) (hr : Row w h1 v L.length (L.flatMap wtC)) (hG : ∀ k, h1 ≤ k → G k) (hL : L.length ≤ 500) (hs : ∀ x ∈ L, x.set < 256) (vo : Value) (hox : OV h1 w [] vo) (ht : T1 h0 h1 p G w) :
    Calls Try.prog 62 #[v, .func (.func 55) #[] #[.pointer (some ⟨h0, 0, none⟩), .pointer (some ⟨h1, 0, none⟩)]] w fun e w' =>
      ((∃ k, ∃ hk : k < L.length, e = .returned (.int .i64 (k : Nat)) ∧ (L.take k).any p = false ∧ p L[k] = true ∧ ∃ vo', OV h1 w' [L[k].r] vo') ∨ (e = .returned (.int .i64 (-1)) ∧ L.any p = false ∧ ∃ vo', OV h1 w' [] vo')) ∧ Below h1 w w' := by
  have hlt := hox.lt
  have hbd := hr.bound
  obtain ⟨A, c, rfl, _, _⟩ := hr.slice
  have HR := Lib.hid hr
  have HT := Lib.hid ht
  have HG := Lib.hid hG
  have HX := Lib.hid hox
  have HS := Lib.hid hs
  clear hr ht hG hox hs
  go_enter Try.func62, Try.ntmps62
  go_wp2_with fail
  go_loopw [8] (fun i wr => ∃ k : Nat, k ≤ L.length ∧ i = .int .i64 k ∧ (L.take k).any p = false ∧ (∃ vo, OV h1 wr [] vo) ∧ Below h1 w wr) (fun i _ => L.length - (intOf i).toNat)
  case atStart => exact ⟨0, Nat.zero_le _, rfl, by simp, ⟨_, HX.out⟩, Below.refl _ _⟩
  case round =>
    obtain ⟨k, hk, rfl, hno, ⟨vo, hox⟩, hx⟩ := hrel
    have Hno := Lib.hid hno; clear hno
    have HOX := Lib.hid hox; clear hox HX
    have zs := hx.size
    by_cases hlt' : k < L.length
    · have h2 := HR.out
      obtain ⟨b2, o2, rfl, hb2, hx2⟩ := h2.elem wtC_len (by omega) hlt'
      have hy : ∀ j x, (wtC L[k])[j]? = some x → wr.cell? ⟨b2, o2 + k * 9 + j, none⟩ = some x := fun j x h => by
        rw [Nat.add_assoc]; exact (hx.cell (p := ⟨b2, o2 + (k * 9 + j), none⟩) hb2).trans (hx2 j x h)
      have y0 := hy 0 _ rfl
      have y1 := hy 1 _ rfl
      have y2 := hy 2 _ rfl
      have y3 := hy 3 _ rfl
      have y4 := hy 4 _ rfl
      have y5 := hy 5 _ rfl
      have y6 := hy 6 _ rfl
      have y7 := hy 7 _ rfl
      have y8 := hy 8 _ rfl
      simp only [Nat.add_zero] at y0
      clear hx2 h2 hy
      have hnext : (L.take (k + 1)).any p = p L[k] := by
        rw [List.take_succ_eq_append_getElem hlt', List.any_append, Hno.out]; simp
      have HN := Lib.hid hnext; clear hnext
      have HF : Hid (∀ x, x = L[k] → ∃ hk : k < L.length, L[k] = x) := fun x hx => ⟨hlt', hx.symm⟩
      have h256 := HS.out _ (List.getElem_mem hlt')
      generalize hgx : L[k] = x at HN h256 y0 y1 y2 y3 y4 y5 y6 y7 y8
      have HE := Lib.hid hgx; clear hgx HF
      obtain ⟨⟨xm, xs, ⟨xk, xa, xb, xc⟩⟩, xn, xi, xt⟩ := x
      dsimp only at h256 y0 y1 y2 y3 y4 y5 y6 y7 y8
      have HO := HT.out xm xs xk xa xb xc xn xi xt [] vo wr h256 (by simp) HOX.out ((Foot.mono (F := fun k => h1 ≤ k) ⟨hx.os, hx.tape, hx.output, hx.size, fun i _ hn => hx.block i (by omega)⟩ HG.out))
      have hk0 : (0 : Int) ≤ (k : Int) := by omega
      have hk1 : (k : Int) < (L.length : Int) := by omega
      cases ho : p ⟨⟨xm, xs, ⟨xk, xa, xb, xc⟩⟩, xn, xi, xt⟩
      all_goals
        rw [ho] at HN HO
        have HP := Lib.hid ho
        clear ho
        have HO' := Lib.hid HO; clear HO
        go_wp2_with fail
        refine HO'.out.mono ?_
        rintro e1 w1 ⟨rfl, hox1, hb1⟩
        have hbr1 := hx.trans (HOX.out.under hb1)
        clear hb1
        go_wp2_with fail
      · exact ⟨⟨k + 1, by omega, by go_num, HN.out, hox1, hbr1⟩, by simp [intOf]; omega⟩
      · go_ret
        exact ⟨.inl ⟨k, hlt', rfl, Hno.out, by rw [HE.out]; exact HP.out, by rw [HE.out]; exact hox1⟩, hbr1⟩
    · have e : k = L.length := by omega
      subst e
      go_wp2_with fail
      go_ret
      have := Hno.out
      rw [List.take_length] at this
      exact ⟨.inr ⟨rfl, this, _, HOX.out⟩, hx⟩


end Qu
end Go.Proofs.Ytinnpeonokdljaa
