/- The document's queue: who is taken out, who waits. -/
import Derived.Test.YtinnpeonokdljaaQueueRef
import Derived.Test.YtinnpeonokdljaaQueueOncePlain
import Derived.StillTailTactics
set_option linter.unusedSimpArgs false
set_option linter.unusedVariables false
namespace Go.Proofs.Ytinnpeonokdljaa
open Go.RowKit

namespace Qu
open Qm
def MAt' (w : World) (g : Nat) (n own : Int) (M : List En) (y : Value) : Prop := Whole w g 75 [.int .i64 n, .int .i64 own, y] ∧ w.ownsRow (g + 1) 78 10 y M.length (M.flatMap enC)
theorem mI_at {w0 u : World} {g : Nat} {n own : Int} {M : List En} {y : Value} {l : List It} (h : Sep w0 (mI g n own M y ++ l) u) : MAt' u g n own M y :=
  ⟨h.holds _ List.mem_cons_self, h.holds _ (List.mem_cons_of_mem _ List.mem_cons_self)⟩
theorem info_en' : (Try.prog.info? 78).map (fun i => (i.zero, i.size, i.bytes)) = some (some (.agg #[.int .i64 0, .int .i64 0, .int .u8 0, .string { data := #[] }, .string { data := #[] }, .string { data := #[] }, .bool false, .int .i64 0, .int .i64 0, .int .u8 0]), 10, 104) := by kernel_rfl
/-- A list of its own is put in. -/
theorem mI_put {w0 u : World} {g : Nat} {n own : Int} {M D : List En} {y v : Value} {base k : Nat} {xs : List Value} {l : List It} (hk : k = D.length) (hxs : xs = D.flatMap enC) (h : Sep w0 (.row base 78 10 v k xs :: (mI g n own M y ++ l)) u) (hb : g < base) :
    Sep w0 (mI g n own D v ++ l) (u.setCell ⟨g, 2, none⟩ v) := by
  subst hk hxs
  have hr : u.ownsRow base 78 10 v D.length (D.flatMap enC) := h.head
  have hg : Whole u g 75 [.int .i64 n, .int .i64 own, y] := h.tail.head
  refine Sep.turn (a := .row base 78 10 v D.length (D.flatMap enC) :: mI g n own M y) (a' := mI g n own D v) (F := fun k => k = g) h ((Foot.refl (fun k => k = g) u).set (p := ⟨g, 2, none⟩) (.inl rfl) _) ?_ ?_ ?_ ?_
  · rintro k rfl
    exact .inl ⟨_, List.mem_cons_of_mem _ List.mem_cons_self, rfl⟩
  · intro x hx
    simp only [mI, List.mem_cons, List.not_mem_nil, or_false] at hx
    rcases hx with rfl | rfl
    · exact Whole.set hg 2 _
    · exact ownsRow_setCell_below (own_base hr (by omega)) (a := ⟨g, 2, none⟩) (Nat.lt_succ_self g) _
  · intro x hx k hk
    simp only [mI, List.mem_cons, List.not_mem_nil, or_false] at hx
    rcases hx with rfl | rfl
    · exact .inl ⟨_, List.mem_cons_of_mem _ List.mem_cons_self, hk⟩
    · exact .inl ⟨_, List.mem_cons_self, hk⟩
  · refine List.pairwise_cons.2 ⟨?_, List.pairwise_singleton _ _⟩
    intro x hx k hk hk'
    simp only [List.mem_singleton] at hx
    subst hx
    injection hk with hk
    have := own_lt hr hk'
    omega
theorem mI_nil {w0 u : World} {g : Nat} {n own : Int} {M : List En} {y : Value} {l : List It} (h : Sep w0 (mI g n own M y ++ l) u) : Sep w0 (mI g n own [] (.slice none 0 0) ++ l) (u.setCell ⟨g, 2, none⟩ (.slice none 0 0)) := by
  have hg : Whole u g 75 [.int .i64 n, .int .i64 own, y] := h.head
  refine Sep.turn (a' := mI g n own [] (.slice none 0 0)) (F := fun k => k = g) h ((Foot.refl (fun k => k = g) u).set (p := ⟨g, 2, none⟩) (.inl rfl) _) ?_ ?_ ?_ ?_
  · rintro k rfl
    exact .inl ⟨_, List.mem_cons_self, rfl⟩
  · intro x hx
    simp only [mI, List.mem_cons, List.not_mem_nil, or_false] at hx
    rcases hx with rfl | rfl
    · exact Whole.set hg 2 _
    · exact ⟨rfl, .inl ⟨rfl, rfl⟩⟩
  · intro x hx k hk
    simp only [mI, List.mem_cons, List.not_mem_nil, or_false] at hx
    rcases hx with rfl | rfl
    · exact .inl ⟨_, List.mem_cons_self, hk⟩
    · cases hk
  · refine List.pairwise_cons.2 ⟨?_, List.pairwise_singleton _ _⟩
    intro x hx k hk hk'
    simp only [List.mem_singleton] at hx
    subst hx
    cases hk'
theorem own_slice' {u : World} {base : Nat} {e : TypeId} {K : Nat} {vo : Value} {n : Nat} {xs : List Value} (h : u.ownsRow base e K vo n xs) : ∃ A c, vo = .slice A n c := by
  obtain ⟨A, c, h1, _⟩ := (Row.of_own h).slice
  exact ⟨A, c, h1⟩
def keepD (m s : Int) (x : En) : Bool := x.reads || !decide (x.r.client = m) || !decide (x.r.seq = s)
def readyE (n ap : Int) (x : En) : Bool := x.reads && decide (x.index ≤ ap) && enoughB x.set n
theorem filter_next {p : En → Bool} {M : List En} {k : Nat} (hk : k < M.length) : (M.take (k + 1)).filter p = (M.take k).filter p ++ (if p M[k] then [M[k]] else []) := by
  rw [List.take_succ_eq_append_getElem hk, List.filter_append]
  cases h : p M[k] <;> simp [h]
set_option maxRecDepth 100000 in
set_option maxHeartbeats 8000000 in
theorem rwaits_sep {w0 : World} {l : List It} (g : Nat) (n own : Int) (M : List En) (y : Value) (w : World) (hS : Sep w0 (mI g n own M y ++ l) w) (hL : M.length ≤ 500) :
    Calls Try.prog 28 #[.pointer (some ⟨g, 0, none⟩)] w fun e w' => ∃ A c, e = .returned (.slice A M.length c) ∧ Sep w0 (mI g n own M y ++ (l ++ [.row w.heap.size 25 6 (.slice A M.length c) M.length ((M.map (·.r)).flatMap rqC)])) w' := by
  have hgl : g < w.heap.size := Whole.lt (mI_at hS).1
  obtain ⟨A, cp, hyv⟩ := own_slice' (mI_at hS).2
  subst hyv
  obtain ⟨i0, hi, hz0, hz1, hz2⟩ := info_parts info_rq
  have HS0 := Lib.hid hS
  have q2 := Whole.cell (mI_at hS).1 2
  simp only [List.getElem?_cons_zero, List.getElem?_cons_succ] at q2
  clear hS
  go_enter Try.func28, Try.ntmps28
  go_wp2_with fail
  go_loopw [3, 4] (fun ov iv wr => ∃ k : Nat, k ≤ M.length ∧ iv = .int .i64 k ∧ Sep w0 (.row w.heap.size 25 6 ov k (((M.take k).map (·.r)).flatMap rqC) :: (mI g n own M (.slice A M.length cp) ++ l)) wr ∧ w.heap.size ≤ wr.heap.size) (fun _ iv _ => M.length - (intOf iv).toNat)
  case atStart => exact ⟨0, Nat.zero_le _, rfl, HS0.out.empty _ _ _, Nat.le_refl _⟩
  case round =>
    obtain ⟨k, hk, rfl, hsep, zs⟩ := hrel
    obtain ⟨Ao, co, hov⟩ := own_slice' hsep.head
    subst hov
    have HS := Lib.hid hsep
    have HM := Lib.hid (mI_at hsep.tail)
    clear q2 hsep
    have q2 := Whole.cell HM.out.1 2
    simp only [List.getElem?_cons_zero, List.getElem?_cons_succ] at q2
    by_cases hlt : k < M.length
    · have hk0 : (0 : Int) ≤ (k : Int) := by omega
      have hk1 : (k : Int) < (M.length : Int) := by omega
      have h2 := Row.of_own HM.out.2
      obtain ⟨bb, oo, rfl, hb2, hx2⟩ := h2.elem enC_len (by omega) hlt
      have hy : ∀ j x, (enC M[k])[j]? = some x → wr.cell? ⟨bb, oo + k * 10 + j, none⟩ = some x := fun j x h => by rw [Nat.add_assoc]; exact hx2 j x h
      have y0 := hy 0 _ rfl
      have y1 := hy 1 _ rfl
      have y2 := hy 2 _ rfl
      have y3 := hy 3 _ rfl
      have y4 := hy 4 _ rfl
      have y5 := hy 5 _ rfl
      have y6 := hy 6 _ rfl
      have y7 := hy 7 _ rfl
      have y8 := hy 8 _ rfl
      have y9 := hy 9 _ rfl
      simp only [Nat.add_zero] at y0
      clear hx2 h2 hy
      have hnext : ((M.take (k + 1)).map (·.r)).flatMap rqC = ((M.take k).map (·.r)).flatMap rqC ++ rqC M[k].r := by
        rw [List.take_succ_eq_append_getElem hlt, List.map_append, List.flatMap_append]; simp
      have HN := Lib.hid hnext
      clear hnext
      generalize M[k] = x at HN y0 y1 y2 y3 y4 y5 y6 y7 y8 y9
      obtain ⟨⟨em1, es, ⟨ek, ea, eb, ec⟩⟩, er, en, ei, et⟩ := x
      dsimp only at HN y0 y1 y2 y3 y4 y5 y6 y7 y8 y9
      have HX6 : Hid (∀ x ∈ ([.int .i64 em1, .int .i64 es, .int .u8 (ek : Nat), .string ea, .string eb, .string ec] : List Value), x.oneCell' = true) := by
        intro x hx
        simp only [List.mem_cons, List.not_mem_nil, or_false] at hx
        rcases hx with rfl | rfl | rfl | rfl | rfl | rfl <;> rfl
      have HSA := Lib.hid (HS.out.fresh (.cells #[.int .i64 em1, .int .i64 es, .int .u8 (ek : Nat), .string ea, .string eb, .string ec] 25))
      have HRA := Lib.hid (show World.ownsRow _ w.heap.size 25 6 (.slice Ao k co) k (((M.take k).map (·.r)).flatMap rqC) from HSA.out.head)
      go_wp2_with (at_builtin
                   refine wpList_append_foot _ rfl (.tmp 14) (.tmp 23) _ rfl w.heap.size 25 i0 _ 6 72 Try.underlying41 hi hz0 hz1 hz2 rfl (by decide) _ k _ rfl HRA.out (wr.heap.size + 1) _ 1 [.int .i64 em1, .int .i64 es, .int .u8 (ek : Nat), .string ea, .string eb, .string ec] rfl (Row.blk (Whole.new wr 25 [.int .i64 em1, .int .i64 es, .int .u8 (ek : Nat), .string ea, .string eb, .string ec]) rfl (by omega) (by unfold maxLen; omega)) rfl HX6.out (by unfold maxLen; omega) (by omega) (by simp; omega) ?_
                   intro v7 w7 hown7 hg7 hv7
                   have HS7 := Lib.hid (Sep.grown HSA.out hown7 hg7 hv7)
                   have HZ7 := Lib.hid (Foot.of_grown hg7).size
                   clear hown7 hg7 hv7)
      refine ⟨⟨k + 1, by omega, by go_num, ?_, ?_⟩, by simp [intOf]; omega⟩
      · rw [HN.out]; exact HS7.out
      · have := HZ7.out; simp at this; omega
    · have e : k = M.length := by omega
      subst e
      go_wp2_with fail
      go_ret
      have h := HS.out
      rw [List.take_length] at h
      exact ⟨_, _, rfl, h.perm (to_end _ _ _)⟩

set_option maxHeartbeats 2000000 in
theorem rclear_sep {w0 : World} {l : List It} (g : Nat) (n own : Int) (M : List En) (y : Value) (w : World) (hS : Sep w0 (mI g n own M y ++ l) w) (hL : M.length ≤ 500) :
    Calls Try.prog 25 #[.pointer (some ⟨g, 0, none⟩)] w fun e w' => ∃ A c, e = .returned (.slice A M.length c) ∧ Sep w0 (mI g n own [] (.slice none 0 0) ++ (l ++ [.row w.heap.size 25 6 (.slice A M.length c) M.length ((M.map (·.r)).flatMap rqC)])) w' := by
  have HW := Lib.hid (rwaits_sep g n own M y w hS hL)
  clear hS
  go_enter Try.func25, Try.ntmps25
  go_wp2_with fail
  refine HW.out.mono ?_
  rintro e u ⟨A, c, rfl, h⟩
  have HS := Lib.hid h
  have q2 := Whole.cell (mI_at h).1 2
  have z2 := Whole.free (mI_at h).1 2
  simp only [List.getElem?_cons_zero, List.getElem?_cons_succ] at q2
  clear h HW
  go_wp2_with fail
  go_ret
  exact ⟨A, c, rfl, mI_nil HS.out⟩

set_option maxRecDepth 100000 in
set_option maxHeartbeats 8000000 in
theorem rdone_sep {w0 : World} {l : List It} (g : Nat) (n own : Int) (M : List En) (y : Value) (w : World) (hS : Sep w0 (mI g n own M y ++ l) w) (hL : M.length ≤ 500) (m s : Int) :
    Calls Try.prog 26 #[.pointer (some ⟨g, 0, none⟩), .int .i64 m, .int .i64 s] w fun e w' => e = .returned (.bool (decide ((M.filter (keepD m s)).length < M.length))) ∧ ∃ y', Sep w0 (mI g n own (M.filter (keepD m s)) y' ++ l) w' := by
  have hgl : g < w.heap.size := Whole.lt (mI_at hS).1
  obtain ⟨A, cp, hyv⟩ := own_slice' (mI_at hS).2
  subst hyv
  obtain ⟨i0, hi, hz0, hz1, hz2⟩ := info_parts info_en'
  have HS0 := Lib.hid hS
  have q2 := Whole.cell (mI_at hS).1 2
  simp only [List.getElem?_cons_zero, List.getElem?_cons_succ] at q2
  clear hS
  go_enter Try.func26, Try.ntmps26
  go_wp2_with fail
  go_loopw [7, 8] (fun lv iv wr => ∃ (k : Nat) (D : List En), D = (M.take k).filter (keepD m s) ∧ D.length ≤ k ∧ k ≤ M.length ∧ iv = .int .i64 k ∧ Sep w0 (.row w.heap.size 78 10 lv D.length (D.flatMap enC) :: (mI g n own M (.slice A M.length cp) ++ l)) wr ∧ w.heap.size ≤ wr.heap.size) (fun _ iv _ => M.length - (intOf iv).toNat)
  case atStart => exact ⟨0, [], by simp, Nat.le_refl _, Nat.zero_le _, rfl, HS0.out.empty _ _ _, Nat.le_refl _⟩
  case round =>
    obtain ⟨k, D, hD, hDk, hk, rfl, hsep, zs⟩ := hrel
    obtain ⟨Ao, co, hov⟩ := own_slice' hsep.head
    subst hov
    have HS := Lib.hid hsep
    have HM := Lib.hid (mI_at hsep.tail)
    have HD := Lib.hid hD
    clear q2 hsep hD
    have q2 := Whole.cell HM.out.1 2
    have z2 := Whole.free HM.out.1 2
    have hgl2 := Whole.lt HM.out.1
    simp only [List.getElem?_cons_zero, List.getElem?_cons_succ] at q2
    by_cases hlt : k < M.length
    · have hk0 : (0 : Int) ≤ (k : Int) := by omega
      have hk1 : (k : Int) < (M.length : Int) := by omega
      have h2 := Row.of_own HM.out.2
      obtain ⟨bb, oo, rfl, hb2, hx2⟩ := h2.elem enC_len (by omega) hlt
      have hy : ∀ j x, (enC M[k])[j]? = some x → wr.cell? ⟨bb, oo + k * 10 + j, none⟩ = some x := fun j x h => by rw [Nat.add_assoc]; exact hx2 j x h
      have y0 := hy 0 _ rfl
      have y1 := hy 1 _ rfl
      have y2 := hy 2 _ rfl
      have y3 := hy 3 _ rfl
      have y4 := hy 4 _ rfl
      have y5 := hy 5 _ rfl
      have y6 := hy 6 _ rfl
      have y7 := hy 7 _ rfl
      have y8 := hy 8 _ rfl
      have y9 := hy 9 _ rfl
      simp only [Nat.add_zero] at y0
      clear hx2 h2 hy
      have HN := Lib.hid (filter_next (p := keepD m s) hlt)
      rw [← HD.out] at HN
      generalize M[k] = x at HN y0 y1 y2 y3 y4 y5 y6 y7 y8 y9
      obtain ⟨⟨em1, es, ⟨ek, ea, eb, ec⟩⟩, er, en, ei, et⟩ := x
      dsimp only at y0 y1 y2 y3 y4 y5 y6 y7 y8 y9
      cases er
      · by_cases e1 : em1 = m
        · subst e1
          by_cases e2 : es = s
          · subst e2
            have hkp : keepD em1 es ⟨⟨em1, es, ⟨ek, ea, eb, ec⟩⟩, false, en, ei, et⟩ = false := by unfold keepD; simp
            rw [hkp] at HN
            go_wp2_with fail
            exact ⟨⟨k + 1, D, by rw [HN.out]; simp, by omega, by omega, by go_num, HS.out.fresh _, by simp; omega⟩, by simp [intOf]; omega⟩
          · have e2' : (es == s) = false := by simp [e2]
            have hkp : keepD em1 s ⟨⟨em1, es, ⟨ek, ea, eb, ec⟩⟩, false, en, ei, et⟩ = true := by unfold keepD; simp [e2]
            clear e2
            rw [hkp] at HN
            have HX10 : Hid (∀ x ∈ ([.int .i64 em1, .int .i64 es, .int .u8 (ek : Nat), .string ea, .string eb, .string ec, .bool false, .int .i64 en, .int .i64 ei, .int .u8 (et : Nat)] : List Value), x.oneCell' = true) := by
              intro x hx
              simp only [List.mem_cons, List.not_mem_nil, or_false] at hx
              rcases hx with rfl | rfl | rfl | rfl | rfl | rfl | rfl | rfl | rfl | rfl <;> rfl
            have HSA := Lib.hid ((HS.out.fresh (.cells #[.int .i64 em1, .int .i64 es, .int .u8 (ek : Nat), .string ea, .string eb, .string ec, .bool false, .int .i64 en, .int .i64 ei, .int .u8 (et : Nat)] 78)).fresh (.cells #[.int .i64 em1, .int .i64 es, .int .u8 (ek : Nat), .string ea, .string eb, .string ec, .bool false, .int .i64 en, .int .i64 ei, .int .u8 (et : Nat)] 78))
            have HRA := Lib.hid (show World.ownsRow _ w.heap.size 78 10 (.slice Ao D.length co) D.length (D.flatMap enC) from HSA.out.head)
            go_wp2_with (at_builtin
                         refine wpList_append_foot _ rfl (.tmp 43) (.tmp 45) _ rfl w.heap.size 78 i0 _ 10 104 Try.underlying73 hi hz0 hz1 hz2 rfl (by decide) _ D.length _ rfl HRA.out (wr.heap.size + 1 + 1) _ 1 [.int .i64 em1, .int .i64 es, .int .u8 (ek : Nat), .string ea, .string eb, .string ec, .bool false, .int .i64 en, .int .i64 ei, .int .u8 (et : Nat)] rfl (Row.blk (wh1_2 wr _ 78 [.int .i64 em1, .int .i64 es, .int .u8 (ek : Nat), .string ea, .string eb, .string ec, .bool false, .int .i64 en, .int .i64 ei, .int .u8 (et : Nat)]) rfl (by omega) (by unfold maxLen; omega)) rfl HX10.out (by unfold maxLen; omega) (by omega) (by simp; omega) ?_
                         intro v7 w7 hown7 hg7 hv7
                         have HS7 := Lib.hid (Sep.grown HSA.out hown7 hg7 hv7)
                         have HZ7 := Lib.hid (Foot.of_grown hg7).size
                         clear hown7 hg7 hv7)
            have h7 := HS7.out
            refine ⟨⟨k + 1, D ++ [(⟨⟨em1, es, ⟨ek, ea, eb, ec⟩⟩, false, en, ei, et⟩ : En)], by rw [HN.out]; simp, by rw [List.length_append, List.length_singleton]; omega, by omega, by go_num, by rw [List.length_append, List.flatMap_append]; exact h7, by have := HZ7.out; simp at this; omega⟩, by simp [intOf]; omega⟩
        · have e1' : (em1 == m) = false := by simp [e1]
          have hkp : keepD m s ⟨⟨em1, es, ⟨ek, ea, eb, ec⟩⟩, false, en, ei, et⟩ = true := by unfold keepD; simp [e1]
          clear e1
          rw [hkp] at HN
          have HX10 : Hid (∀ x ∈ ([.int .i64 em1, .int .i64 es, .int .u8 (ek : Nat), .string ea, .string eb, .string ec, .bool false, .int .i64 en, .int .i64 ei, .int .u8 (et : Nat)] : List Value), x.oneCell' = true) := by
            intro x hx
            simp only [List.mem_cons, List.not_mem_nil, or_false] at hx
            rcases hx with rfl | rfl | rfl | rfl | rfl | rfl | rfl | rfl | rfl | rfl <;> rfl
          have HSA := Lib.hid ((HS.out.fresh (.cells #[.int .i64 em1, .int .i64 es, .int .u8 (ek : Nat), .string ea, .string eb, .string ec, .bool false, .int .i64 en, .int .i64 ei, .int .u8 (et : Nat)] 78)).fresh (.cells #[.int .i64 em1, .int .i64 es, .int .u8 (ek : Nat), .string ea, .string eb, .string ec, .bool false, .int .i64 en, .int .i64 ei, .int .u8 (et : Nat)] 78))
          have HRA := Lib.hid (show World.ownsRow _ w.heap.size 78 10 (.slice Ao D.length co) D.length (D.flatMap enC) from HSA.out.head)
          go_wp2_with (at_builtin
                       refine wpList_append_foot _ rfl (.tmp 43) (.tmp 45) _ rfl w.heap.size 78 i0 _ 10 104 Try.underlying73 hi hz0 hz1 hz2 rfl (by decide) _ D.length _ rfl HRA.out (wr.heap.size + 1 + 1) _ 1 [.int .i64 em1, .int .i64 es, .int .u8 (ek : Nat), .string ea, .string eb, .string ec, .bool false, .int .i64 en, .int .i64 ei, .int .u8 (et : Nat)] rfl (Row.blk (wh1_2 wr _ 78 [.int .i64 em1, .int .i64 es, .int .u8 (ek : Nat), .string ea, .string eb, .string ec, .bool false, .int .i64 en, .int .i64 ei, .int .u8 (et : Nat)]) rfl (by omega) (by unfold maxLen; omega)) rfl HX10.out (by unfold maxLen; omega) (by omega) (by simp; omega) ?_
                       intro v7 w7 hown7 hg7 hv7
                       have HS7 := Lib.hid (Sep.grown HSA.out hown7 hg7 hv7)
                       have HZ7 := Lib.hid (Foot.of_grown hg7).size
                       clear hown7 hg7 hv7)
          have h7 := HS7.out
          refine ⟨⟨k + 1, D ++ [(⟨⟨em1, es, ⟨ek, ea, eb, ec⟩⟩, false, en, ei, et⟩ : En)], by rw [HN.out]; simp, by rw [List.length_append, List.length_singleton]; omega, by omega, by go_num, by rw [List.length_append, List.flatMap_append]; exact h7, by have := HZ7.out; simp at this; omega⟩, by simp [intOf]; omega⟩
      · have hkp : keepD m s ⟨⟨em1, es, ⟨ek, ea, eb, ec⟩⟩, true, en, ei, et⟩ = true := by unfold keepD; simp
        rw [hkp] at HN
        have HX10 : Hid (∀ x ∈ ([.int .i64 em1, .int .i64 es, .int .u8 (ek : Nat), .string ea, .string eb, .string ec, .bool true, .int .i64 en, .int .i64 ei, .int .u8 (et : Nat)] : List Value), x.oneCell' = true) := by
          intro x hx
          simp only [List.mem_cons, List.not_mem_nil, or_false] at hx
          rcases hx with rfl | rfl | rfl | rfl | rfl | rfl | rfl | rfl | rfl | rfl <;> rfl
        have HSA := Lib.hid ((HS.out.fresh (.cells #[.int .i64 em1, .int .i64 es, .int .u8 (ek : Nat), .string ea, .string eb, .string ec, .bool true, .int .i64 en, .int .i64 ei, .int .u8 (et : Nat)] 78)).fresh (.cells #[.int .i64 em1, .int .i64 es, .int .u8 (ek : Nat), .string ea, .string eb, .string ec, .bool true, .int .i64 en, .int .i64 ei, .int .u8 (et : Nat)] 78))
        have HRA := Lib.hid (show World.ownsRow _ w.heap.size 78 10 (.slice Ao D.length co) D.length (D.flatMap enC) from HSA.out.head)
        go_wp2_with (at_builtin
                     refine wpList_append_foot _ rfl (.tmp 43) (.tmp 45) _ rfl w.heap.size 78 i0 _ 10 104 Try.underlying73 hi hz0 hz1 hz2 rfl (by decide) _ D.length _ rfl HRA.out (wr.heap.size + 1 + 1) _ 1 [.int .i64 em1, .int .i64 es, .int .u8 (ek : Nat), .string ea, .string eb, .string ec, .bool true, .int .i64 en, .int .i64 ei, .int .u8 (et : Nat)] rfl (Row.blk (wh1_2 wr _ 78 [.int .i64 em1, .int .i64 es, .int .u8 (ek : Nat), .string ea, .string eb, .string ec, .bool true, .int .i64 en, .int .i64 ei, .int .u8 (et : Nat)]) rfl (by omega) (by unfold maxLen; omega)) rfl HX10.out (by unfold maxLen; omega) (by omega) (by simp; omega) ?_
                     intro v7 w7 hown7 hg7 hv7
                     have HS7 := Lib.hid (Sep.grown HSA.out hown7 hg7 hv7)
                     have HZ7 := Lib.hid (Foot.of_grown hg7).size
                     clear hown7 hg7 hv7)
        have h7 := HS7.out
        refine ⟨⟨k + 1, D ++ [(⟨⟨em1, es, ⟨ek, ea, eb, ec⟩⟩, true, en, ei, et⟩ : En)], by rw [HN.out]; simp, by rw [List.length_append, List.length_singleton]; omega, by omega, by go_num, by rw [List.length_append, List.flatMap_append]; exact h7, by have := HZ7.out; simp at this; omega⟩, by simp [intOf]; omega⟩
    · have e : k = M.length := by omega
      subst e
      go_wp2_with fail
      go_ret
      have hf := HD.out
      rw [List.take_length] at hf
      subst hf
      exact ⟨rfl, _, mI_put rfl rfl HS.out hgl⟩


end Qu
end Go.Proofs.Ytinnpeonokdljaa
