/- The document's queue: Ready, Answer, Write, Read. -/
import Derived.Test.YtinnpeonokdljaaQueueRef2
import Derived.Test.YtinnpeonokdljaaQueueRef3
import Derived.Deep.Cut
import Derived.Deep.CutRange
set_option linter.unusedSimpArgs false
set_option linter.unusedVariables false
namespace Go.Proofs.Ytinnpeonokdljaa
open Go.RowKit

namespace Qu
open Qm
set_option maxHeartbeats 1000000 in
theorem radd_nat (s : Nat) (hs : s < 256) (k : Nat) (hk : k < 7) (w : World) :
    Calls Try.prog 44 #[.int .u8 s, .int .i64 k] w fun e w' => e = .returned (.int .u8 (addN s k : Nat)) ∧ w = w' := by
  cases hh : Qm.hasB s (k : Int)
  · have HP := Lib.hid (add_plus hs k hk hh)
    have RH := Lib.hid (rhas_any s hs k)
    rw [hh] at RH
    clear hh
    go_enter Try.func44, Try.ntmps44
    go_wp2_with fail
    refine (RH.out _).mono ?_
    rintro e u ⟨rfl, rfl⟩
    go_wp2_with fail
    go_loop [5, 6] (fun o j => ∃ m : Nat, m ≤ k ∧ j = .int .i64 m ∧ ∃ a : Nat, a ≤ 64 ∧ o = .int .u8 a ∧ a = 2 ^ m) (fun _ j => k - (intOf j).toNat)
    case atStart => exact ⟨0, Nat.zero_le _, rfl, 1, by omega, rfl, rfl⟩
    case round =>
      obtain ⟨m, hm, rfl, a, ha, rfl, haa⟩ := hrel
      have HA := Lib.hid haa; clear haa
      by_cases hlt : m < k
      · have ha2 : a ≤ 32 := by
          rw [HA.out]
          have : 2 ^ m ≤ 2 ^ 5 := Nat.pow_le_pow_right (by omega) (by omega)
          simpa using this
        go_wp2_with fail
        go_round
        case rel => exact ⟨m + 1, by omega, by go_num, a * 2, by omega, by go_num, by rw [HA.out, Nat.pow_succ]⟩
        case measure => simp [intOf]; omega
      · have e : m = k := by omega
        subst e
        have hq : s + a < 256 := by rw [HA.out, HP.out.1]; exact HP.out.2
        have hw : IntKind.u8.wrap ((s : Int) + (a : Int)) = ((addN s m : Nat) : Int) := by rw [← HP.out.1, ← HA.out, IntKind.wrap_u8]; omega
        go_wp2_with fail
        go_ret
        exact ⟨by first | rfl | (simp [hw]; done) | (rw [hw]), rfl⟩
  · have HP := Lib.hid (add_same hs k hk hh)
    have RH := Lib.hid (rhas_any s hs k)
    rw [hh] at RH
    clear hh
    go_enter Try.func44, Try.ntmps44
    go_wp2_with fail
    refine (RH.out _).mono ?_
    rintro e u ⟨rfl, rfl⟩
    go_wp2_with fail
    go_ret
    exact ⟨by rw [HP.out]; rfl, rfl⟩

theorem radd_int (s : Nat) (hs : s < 256) (k : Int) (h0 : 0 ≤ k) (hk : k < 7) (w : World) :
    Calls Try.prog 44 #[.int .u8 s, .int .i64 k] w fun e w' => e = .returned (.int .u8 (addN s k : Nat)) ∧ w = w' := by
  obtain ⟨j, rfl⟩ := Int.eq_ofNat_of_zero_le h0
  exact radd_nat s hs j (by omega) w
theorem sep_m {w0 u u' : World} {g : Nat} {n own : Int} {M M' : List En} {y : Value} {l : List It} (h : Sep w0 (mI g n own M y ++ l) u) (hq : MTo u u' g n own M' y) : ∃ y', Sep w0 (mI g n own M' y' ++ l) u' := by
  obtain ⟨y', h1, h2, h3⟩ := hq
  refine ⟨y', Sep.turn h h2 ?_ ?_ ?_ ?_⟩
  · rintro k (rfl | hk)
    · exact .inl ⟨_, List.mem_cons_self, rfl⟩
    · exact .inl ⟨_, List.mem_cons_of_mem _ List.mem_cons_self, hk⟩
  · intro x hx
    simp only [mI, List.mem_cons, List.not_mem_nil, or_false] at hx
    rcases hx with rfl | rfl
    · exact h1.1
    · exact h1.2
  · intro x hx k hk
    simp only [mI, List.mem_cons, List.not_mem_nil, or_false] at hx
    rcases hx with rfl | rfl
    · exact .inl ⟨_, List.mem_cons_self, hk⟩
    · rcases h3 with h3 | h3
      · refine .inl ⟨_, List.mem_cons_of_mem _ List.mem_cons_self, ?_⟩
        show y.ownBlock = some k
        rw [← h3]; exact hk
      · exact .inr (h3 k hk)
  · refine List.pairwise_cons.2 ⟨?_, List.pairwise_singleton _ _⟩
    intro x hx k hk hk'
    simp only [List.mem_singleton] at hx
    subst hx
    injection hk with hk
    have := own_lt h1.2 hk'
    omega
theorem filter_next' {p : En → Bool} {M : List En} {k : Nat} {y : Bool} (hk : k < M.length) (hy : p M[k] = y) : (M.take (k + 1)).filter p = (M.take k).filter p ++ (if y then [M[k]] else []) := by
  rw [filter_next hk, hy]
set_option maxRecDepth 100000 in
set_option maxHeartbeats 8000000 in
theorem rready_sep {w0 : World} {l : List It} (g : Nat) (n own : Int) (M : List En) (y : Value) (w : World) (hS : Sep w0 (mI g n own M y ++ l) w) (hL : M.length ≤ 500) (hs : ∀ x ∈ M, x.set < 256) (ap : Int) :
    Calls Try.prog 27 #[.pointer (some ⟨g, 0, none⟩), .int .i64 ap] w fun e w' => ∃ A c y', e = .returned (.slice A ((M.filter (readyE n ap)).map (·.r)).length c) ∧ Sep w0 (mI g n own (M.filter (fun x => !readyE n ap x)) y' ++ (l ++ [.row w.heap.size 25 6 (.slice A ((M.filter (readyE n ap)).map (·.r)).length c) ((M.filter (readyE n ap)).map (·.r)).length (((M.filter (readyE n ap)).map (·.r)).flatMap rqC)])) w' := by
  have hgl : g < w.heap.size := Whole.lt (mI_at hS).1
  obtain ⟨A, cp, hyv⟩ := own_slice' (mI_at hS).2
  subst hyv
  obtain ⟨i0, hi, hz0, hz1, hz2⟩ := info_parts info_en'
  obtain ⟨i1, gi, gz0, gz1, gz2⟩ := info_parts info_rq
  have HS0 := Lib.hid hS
  have q2 := Whole.cell (mI_at hS).1 2
  simp only [List.getElem?_cons_zero, List.getElem?_cons_succ] at q2
  have HST := Lib.hid hs
  clear hS hs
  go_enter Try.func27, Try.ntmps27
  go_wp2_with fail
  go_loopw [5, 6, 7] (fun lv ov iv wr => ∃ (k : Nat) (D : List En) (E : List Rq), D = (M.take k).filter (fun x => !readyE n ap x) ∧ E = ((M.take k).filter (readyE n ap)).map (·.r) ∧ D.length ≤ k ∧ E.length ≤ k ∧ k ≤ M.length ∧ iv = .int .i64 k ∧ Sep w0 (.row w.heap.size 78 10 lv D.length (D.flatMap enC) :: .row w.heap.size 25 6 ov E.length (E.flatMap rqC) :: (mI g n own M (.slice A M.length cp) ++ l)) wr ∧ w.heap.size ≤ wr.heap.size) (fun _ _ iv _ => M.length - (intOf iv).toNat)
  case atStart => exact ⟨0, [], [], by simp, by simp, Nat.le_refl _, Nat.le_refl _, Nat.zero_le _, rfl, (HS0.out.empty _ _ _).empty _ _ _, Nat.le_refl _⟩
  case round =>
    obtain ⟨k, D, E, hD, hE, hDk, hEk, hk, rfl, hsep, zs⟩ := hrel
    obtain ⟨Al, cl, hlv⟩ := own_slice' hsep.head
    subst hlv
    obtain ⟨Ao, co, hov⟩ := own_slice' hsep.tail.head
    subst hov
    have HS := Lib.hid hsep
    have HM := Lib.hid (mI_at hsep.tail.tail)
    have HD := Lib.hid hD
    have HE := Lib.hid hE
    clear q2 hsep hD hE
    have q0 := Whole.cell HM.out.1 0
    have q2 := Whole.cell HM.out.1 2
    have z2 := Whole.free HM.out.1 2
    have hgl2 := Whole.lt HM.out.1
    simp only [List.getElem?_cons_zero, List.getElem?_cons_succ] at q0 q2
    by_cases hlt : k < M.length
    · have hk0 : (0 : Int) ≤ (k : Int) := by omega
      have hk1 : (k : Int) < (M.length : Int) := by omega
      have h2 := Row.of_own HM.out.2
      obtain ⟨bb, oo, rfl, hb2, hx2⟩ := h2.elem enC_len (by omega) hlt
      have hy : ∀ j x, (enC M[k])[j]? = some x → wr.cell? ⟨bb, oo + k * 10 + j, none⟩ = some x := fun j x h => by rw [Nat.add_assoc]; exact hx2 j x h
      have y0 := hy 0 _ rfl
      have y1 := hy 1 _ rfl
      have y2 := hy 2 _ rfl
      have y3 := hy 3 _ rfl
      have y4 := hy 4 _ rfl
      have y5 := hy 5 _ rfl
      have y6 := hy 6 _ rfl
      have y7 := hy 7 _ rfl
      have y8 := hy 8 _ rfl
      have y9 := hy 9 _ rfl
      simp only [Nat.add_zero] at y0
      clear hx2 h2 hy
      have HN : Hid (∀ y, readyE n ap M[k] = y → (M.take (k + 1)).filter (readyE n ap) = (M.take k).filter (readyE n ap) ++ (if y then [M[k]] else [])) := fun y hy => filter_next' hlt hy
      have HN2 : Hid (∀ y, readyE n ap M[k] = y → (M.take (k + 1)).filter (fun x => !readyE n ap x) = D ++ (if y then [] else [M[k]])) := fun y hy => by
        rw [HD.out, filter_next' (p := fun x => !readyE n ap x) (y := !y) hlt (by rw [hy])]; cases y <;> rfl
      have h256 := HST.out _ (List.getElem_mem hlt)
      generalize M[k] = x at HN HN2 h256 y0 y1 y2 y3 y4 y5 y6 y7 y8 y9
      obtain ⟨⟨em1, es, ⟨ek, ea, eb, ec⟩⟩, er, en, ei, et⟩ := x
      dsimp only at h256 y0 y1 y2 y3 y4 y5 y6 y7 y8 y9
      obtain ⟨W, hW⟩ : ∃ W : World, W = wr.alloc (.cells #[.int .i64 em1, .int .i64 es, .int .u8 (ek : Nat), .string ea, .string eb, .string ec, .bool er, .int .i64 en, .int .i64 ei, .int .u8 (et : Nat)] 78) := ⟨_, rfl⟩
      have HSB : Hid (Sep w0 (.box wr.heap.size 78 [.int .i64 em1, .int .i64 es, .int .u8 (ek : Nat), .string ea, .string eb, .string ec, .bool er, .int .i64 en, .int .i64 ei, .int .u8 (et : Nat)] :: .row w.heap.size 78 10 (.slice Al D.length cl) D.length (D.flatMap enC) :: .row w.heap.size 25 6 (.slice Ao E.length co) E.length (E.flatMap rqC) :: (mI g n own M (.slice (some ⟨bb, oo, none⟩) M.length cp) ++ l)) W) := by rw [hW]; exact HS.out.alloc 78 [.int .i64 em1, .int .i64 es, .int .u8 (ek : Nat), .string ea, .string eb, .string ec, .bool er, .int .i64 en, .int .i64 ei, .int .u8 (et : Nat)]
      have hWz : W.heap.size = wr.heap.size + 1 := by rw [hW]; simp
      have HX6 : Hid (∀ x ∈ ([.int .i64 em1, .int .i64 es, .int .u8 (ek : Nat), .string ea, .string eb, .string ec] : List Value), x.oneCell' = true) := by
        intro x hx
        simp only [List.mem_cons, List.not_mem_nil, or_false] at hx
        rcases hx with rfl | rfl | rfl | rfl | rfl | rfl <;> rfl
      have HX10 : Hid (∀ x ∈ ([.int .i64 em1, .int .i64 es, .int .u8 (ek : Nat), .string ea, .string eb, .string ec, .bool er, .int .i64 en, .int .i64 ei, .int .u8 (et : Nat)] : List Value), x.oneCell' = true) := by
        intro x hx
        simp only [List.mem_cons, List.not_mem_nil, or_false] at hx
        rcases hx with rfl | rfl | rfl | rfl | rfl | rfl | rfl | rfl | rfl | rfl <;> rfl
      go_upto_region 7 with fail
      rw [← hW]
      clear hW y0 y1 y2 y3 y4 y5 y6 y7 y8 y9 q0 q2 z2
      have hbx : Whole W wr.heap.size 78 [.int .i64 em1, .int .i64 es, .int .u8 (ek : Nat), .string ea, .string eb, .string ec, .bool er, .int .i64 en, .int .i64 ei, .int .u8 (et : Nat)] := HSB.out.head
      have b0 := hbx.cell 0; have b1 := hbx.cell 1; have b2 := hbx.cell 2; have b3 := hbx.cell 3; have b4 := hbx.cell 4; have b5 := hbx.cell 5; have b6 := hbx.cell 6; have b7 := hbx.cell 7; have b8 := hbx.cell 8; have b9 := hbx.cell 9
      simp only [List.getElem?_cons_zero, List.getElem?_cons_succ] at b0 b1 b2 b3 b4 b5 b6 b7 b8 b9
      have hbl := hbx.lt
      have hqq : Whole W g 75 [.int .i64 n, .int .i64 own, .slice (some ⟨bb, oo, none⟩) M.length cp] := HSB.out.tail.tail.tail.head
      have q0 := hqq.cell 0; have q2 := hqq.cell 2; have z2 := hqq.free 2; have hgl2 := hqq.lt
      simp only [List.getElem?_cons_zero, List.getElem?_cons_succ] at q0 q2
      clear hbx hqq
      have EN := Lib.hid (renough_any et h256 n)
      cases er
      · have hr : readyE n ap ⟨⟨em1, es, ⟨ek, ea, eb, ec⟩⟩, false, en, ei, et⟩ = false := by unfold readyE; simp
        go_quiet (fail)
        obtain ⟨U, hU⟩ : ∃ U : World, U = W.drewN nq := ⟨_, rfl⟩
        have HSU0 := (HSB.out.drewN nq)
        rw [← hU] at HSU0 ⊢
        have HSU := Lib.hid HSU0
        clear HSU0 hU 
        clear b0 b1 b2 b3 b4 b5 b6 b7 b8 b9 hbl q0 q2 z2 hgl2
        have hbx : Whole U wr.heap.size 78 [.int .i64 em1, .int .i64 es, .int .u8 (ek : Nat), .string ea, .string eb, .string ec, .bool false, .int .i64 en, .int .i64 ei, .int .u8 (et : Nat)] := HSU.out.head
        have b0 := hbx.cell 0; have b1 := hbx.cell 1; have b2 := hbx.cell 2; have b3 := hbx.cell 3; have b4 := hbx.cell 4; have b5 := hbx.cell 5; have b6 := hbx.cell 6; have b7 := hbx.cell 7; have b8 := hbx.cell 8; have b9 := hbx.cell 9
        simp only [List.getElem?_cons_zero, List.getElem?_cons_succ] at b0 b1 b2 b3 b4 b5 b6 b7 b8 b9
        have hbl := hbx.lt
        have hqq : Whole U g 75 [.int .i64 n, .int .i64 own, .slice (some ⟨bb, oo, none⟩) M.length cp] := HSU.out.tail.tail.tail.head
        have q0 := hqq.cell 0; have q2 := hqq.cell 2; have z2 := hqq.free 2; have hgl2 := hqq.lt
        simp only [List.getElem?_cons_zero, List.getElem?_cons_succ] at q0 q2
        clear hbx hqq
        have HSA := Lib.hid (HSU.out.tail.fresh (.cells #[.int .i64 em1, .int .i64 es, .int .u8 (ek : Nat), .string ea, .string eb, .string ec, .bool false, .int .i64 en, .int .i64 ei, .int .u8 (et : Nat)] 78))
        have HRA := Lib.hid (show World.ownsRow _ w.heap.size 78 10 (.slice Al D.length cl) D.length (D.flatMap enC) from HSA.out.head)
        have hzU : w.heap.size ≤ U.heap.size := by omega
        go_wp2_with (at_builtin
                     refine wpList_append_foot _ rfl (.tmp 47) (.tmp 49) _ rfl w.heap.size 78 i0 _ 10 104 Try.underlying73 hi hz0 hz1 hz2 rfl (by decide) _ D.length _ rfl HRA.out (U.heap.size + 1) _ 1 [.int .i64 em1, .int .i64 es, .int .u8 (ek : Nat), .string ea, .string eb, .string ec, .bool false, .int .i64 en, .int .i64 ei, .int .u8 (et : Nat)] rfl (Row.blk (Whole.new U 78 [.int .i64 em1, .int .i64 es, .int .u8 (ek : Nat), .string ea, .string eb, .string ec, .bool false, .int .i64 en, .int .i64 ei, .int .u8 (et : Nat)]) rfl (by omega) (by unfold maxLen; omega)) rfl HX10.out (by unfold maxLen; omega) (by omega) (by simp; omega) ?_
                     intro v7 w7 hown7 hg7 hv7
                     have HS7 := Lib.hid (Sep.grown HSA.out hown7 hg7 hv7)
                     have HZ7 := Lib.hid (Foot.of_grown hg7).size
                     clear hown7 hg7 hv7)
        have h7 := HS7.out
        refine ⟨⟨k + 1, D ++ [(⟨⟨em1, es, ⟨ek, ea, eb, ec⟩⟩, false, en, ei, et⟩ : En)], E, by rw [HN2.out _ hr]; rfl, by rw [HN.out _ hr, List.map_append, ← HE.out]; simp, by rw [List.length_append, List.length_singleton]; omega, by omega, by omega, by go_num, by rw [List.length_append, List.flatMap_append]; exact h7, by have := HZ7.out; simp at this; omega⟩, by simp [intOf]; omega⟩
      · by_cases hle : ei ≤ ap
        · have hle' : decide (ei ≤ ap) = true := by simp [hle]
          have hr : readyE n ap ⟨⟨em1, es, ⟨ek, ea, eb, ec⟩⟩, true, en, ei, et⟩ = enoughB et n := by unfold readyE; simp [hle]
          generalize enoughB et n = yes at EN hr
          cases yes
          · have SOF : Hid (∀ u : World, Hid (Sep w0 (.box wr.heap.size 78 [.int .i64 em1, .int .i64 es, .int .u8 (ek : Nat), .string ea, .string eb, .string ec, .bool true, .int .i64 en, .int .i64 ei, .int .u8 (et : Nat)] :: .row w.heap.size 78 10 (.slice Al D.length cl) D.length (D.flatMap enC) :: .row w.heap.size 25 6 (.slice Ao E.length co) E.length (E.flatMap rqC) :: (mI g n own M (.slice (some ⟨bb, oo, none⟩) M.length cp) ++ l)) u) → (fun u : World => (u.cell? ⟨wr.heap.size, 0, none⟩ = some (.int .i64 em1) ∧ u.cell? ⟨wr.heap.size, 1, none⟩ = some (.int .i64 es) ∧ u.cell? ⟨wr.heap.size, 2, none⟩ = some (.int .u8 (ek : Nat)) ∧ u.cell? ⟨wr.heap.size, 3, none⟩ = some (.string ea) ∧ u.cell? ⟨wr.heap.size, 4, none⟩ = some (.string eb) ∧ u.cell? ⟨wr.heap.size, 5, none⟩ = some (.string ec) ∧ u.cell? ⟨wr.heap.size, 6, none⟩ = some (.bool true) ∧ u.cell? ⟨wr.heap.size, 7, none⟩ = some (.int .i64 en) ∧ u.cell? ⟨wr.heap.size, 8, none⟩ = some (.int .i64 ei) ∧ u.cell? ⟨wr.heap.size, 9, none⟩ = some (.int .u8 (et : Nat)) ∧ u.cell? ⟨g, 0, none⟩ = some (.int .i64 n)) ∧ Hid (Sep w0 (.box wr.heap.size 78 [.int .i64 em1, .int .i64 es, .int .u8 (ek : Nat), .string ea, .string eb, .string ec, .bool true, .int .i64 en, .int .i64 ei, .int .u8 (et : Nat)] :: .row w.heap.size 78 10 (.slice Al D.length cl) D.length (D.flatMap enC) :: .row w.heap.size 25 6 (.slice Ao E.length co) E.length (E.flatMap rqC) :: (mI g n own M (.slice (some ⟨bb, oo, none⟩) M.length cp) ++ l)) u)) u) := fun u h => by
              have hbx : Whole u wr.heap.size 78 [.int .i64 em1, .int .i64 es, .int .u8 (ek : Nat), .string ea, .string eb, .string ec, .bool true, .int .i64 en, .int .i64 ei, .int .u8 (et : Nat)] := h.out.head
              have hqq : Whole u g 75 [.int .i64 n, .int .i64 own, .slice (some ⟨bb, oo, none⟩) M.length cp] := h.out.tail.tail.tail.head
              exact ⟨⟨hbx.cell 0, hbx.cell 1, hbx.cell 2, hbx.cell 3, hbx.cell 4, hbx.cell 5, hbx.cell 6, hbx.cell 7, hbx.cell 8, hbx.cell 9, hqq.cell 0⟩, h⟩
            refine wp_region_held_drew (S := (fun u : World => (u.cell? ⟨wr.heap.size, 0, none⟩ = some (.int .i64 em1) ∧ u.cell? ⟨wr.heap.size, 1, none⟩ = some (.int .i64 es) ∧ u.cell? ⟨wr.heap.size, 2, none⟩ = some (.int .u8 (ek : Nat)) ∧ u.cell? ⟨wr.heap.size, 3, none⟩ = some (.string ea) ∧ u.cell? ⟨wr.heap.size, 4, none⟩ = some (.string eb) ∧ u.cell? ⟨wr.heap.size, 5, none⟩ = some (.string ec) ∧ u.cell? ⟨wr.heap.size, 6, none⟩ = some (.bool true) ∧ u.cell? ⟨wr.heap.size, 7, none⟩ = some (.int .i64 en) ∧ u.cell? ⟨wr.heap.size, 8, none⟩ = some (.int .i64 ei) ∧ u.cell? ⟨wr.heap.size, 9, none⟩ = some (.int .u8 (et : Nat)) ∧ u.cell? ⟨g, 0, none⟩ = some (.int .i64 n)) ∧ Hid (Sep w0 (.box wr.heap.size 78 [.int .i64 em1, .int .i64 es, .int .u8 (ek : Nat), .string ea, .string eb, .string ec, .bool true, .int .i64 en, .int .i64 ei, .int .u8 (et : Nat)] :: .row w.heap.size 78 10 (.slice Al D.length cl) D.length (D.flatMap enC) :: .row w.heap.size 25 6 (.slice Ao E.length co) E.length (E.flatMap rqC) :: (mI g n own M (.slice (some ⟨bb, oo, none⟩) M.length cp) ++ l)) u))) (by kernel_rfl) (SOF.out _ (Lib.hid HSB.out.drew)) (fun HS => ?_)
            refine handTake 0 (some 25) ?_ rfl rfl (by kernel_rfl) (by kernel_rfl) (by kernel_rfl) (fun _ _ _ h => h) (by rfl) ?_ HS ?_
            rotate_left
            · (intro u hu; (try dsimp only at hu); go_simp; try with_reducible rfl)
            simp only [Act.put, List.setIfInBounds_toArray, List.set_cons_zero, List.set_cons_succ]
            refine handTake 1 (some 26) ?_ rfl rfl (by kernel_rfl) (by kernel_rfl) (by kernel_rfl) (fun _ _ _ h => h) (by rfl) ?_ HS ?_
            rotate_left
            · (intro u hu; (try dsimp only at hu); go_simp; try with_reducible rfl)
            simp only [Act.put, List.setIfInBounds_toArray, List.set_cons_zero, List.set_cons_succ]
            refine handTake 2 (some 27) ?_ rfl rfl (by kernel_rfl) (by kernel_rfl) (by kernel_rfl) (fun _ _ _ h => h) (by rfl) ?_ HS ?_
            rotate_left
            · (intro u hu; (try dsimp only at hu); go_simp; try with_reducible rfl)
            simp only [Act.put, List.setIfInBounds_toArray, List.set_cons_zero, List.set_cons_succ]
            refine handTake 3 (some 28) ?_ rfl rfl (by kernel_rfl) (by kernel_rfl) (by kernel_rfl) (fun _ _ _ h => h) (by rfl) ?_ HS ?_
            rotate_left
            · (intro u hu; (try dsimp only at hu); go_simp; try with_reducible rfl)
            simp only [Act.put, List.setIfInBounds_toArray, List.set_cons_zero, List.set_cons_succ]
            refine handTake 4 (some 29) ?_ rfl rfl (by kernel_rfl) (by kernel_rfl) (by kernel_rfl) (fun _ _ _ h => h) (by rfl) ?_ HS ?_
            rotate_left
            · (intro u hu; (try dsimp only at hu); go_simp; try with_reducible rfl)
            simp only [Act.put, List.setIfInBounds_toArray, List.set_cons_zero, List.set_cons_succ]
            refine handTake 5 (some 30) ?_ rfl rfl (by kernel_rfl) (by kernel_rfl) (by kernel_rfl) (fun _ _ _ h => h) (by rfl) ?_ HS ?_
            rotate_left
            · (intro u hu; (try dsimp only at hu); go_simp; try with_reducible rfl)
            simp only [Act.put, List.setIfInBounds_toArray, List.set_cons_zero, List.set_cons_succ]
            refine handTake 6 (some 31) ?_ rfl rfl (by kernel_rfl) (by kernel_rfl) (by kernel_rfl) (fun _ _ _ h => h) (by rfl) ?_ HS ?_
            rotate_left
            · (intro u hu; (try dsimp only at hu); go_simp; try with_reducible rfl)
            simp only [Act.put, List.setIfInBounds_toArray, List.set_cons_zero, List.set_cons_succ]
            refine handTake 7 (some 32) ?_ rfl rfl (by kernel_rfl) (by kernel_rfl) (by kernel_rfl) (fun _ _ _ h => h) (by rfl) ?_ HS ?_
            rotate_left
            · (intro u hu; (try dsimp only at hu); go_simp; try with_reducible rfl)
            simp only [Act.put, List.setIfInBounds_toArray, List.set_cons_zero, List.set_cons_succ]
            refine handTake 8 (some 33) ?_ rfl rfl (by kernel_rfl) (by kernel_rfl) (by kernel_rfl) (fun _ _ _ h => h) (by rfl) ?_ HS ?_
            rotate_left
            · (intro u hu; (try dsimp only at hu); go_simp; try with_reducible rfl)
            simp only [Act.put, List.setIfInBounds_toArray, List.set_cons_zero, List.set_cons_succ]
            refine handTake 9 (some 34) ?_ rfl rfl (by kernel_rfl) (by kernel_rfl) (by kernel_rfl) (fun _ _ _ h => h) (by rfl) ?_ HS ?_
            rotate_left
            · (intro u hu; (try dsimp only at hu); go_simp; try with_reducible rfl)
            simp only [Act.put, List.setIfInBounds_toArray, List.set_cons_zero, List.set_cons_succ]
            refine handTake 10 (some 35) ?_ rfl rfl (by kernel_rfl) (by kernel_rfl) (by kernel_rfl) (fun _ _ _ h => h) (by rfl) ?_ HS ?_
            rotate_left
            · (intro u hu; (try dsimp only at hu); go_simp; try with_reducible rfl)
            simp only [Act.put, List.setIfInBounds_toArray, List.set_cons_zero, List.set_cons_succ]
            refine handTake 11 (some 36) ?_ rfl rfl (by kernel_rfl) (by kernel_rfl) (by kernel_rfl) (fun _ _ _ h => h) (by rfl) ?_ HS ?_
            rotate_left
            · (intro u hu; (try dsimp only at hu); go_simp; try with_reducible rfl)
            simp only [Act.put, List.setIfInBounds_toArray, List.set_cons_zero, List.set_cons_succ]
            refine handTake 12 (some 37) ?_ rfl rfl (by kernel_rfl) (by kernel_rfl) (by kernel_rfl) (fun _ _ _ h => h) (by rfl) ?_ HS ?_
            rotate_left
            · (intro u hu; (try dsimp only at hu); go_simp; try with_reducible rfl)
            simp only [Act.put, List.setIfInBounds_toArray, List.set_cons_zero, List.set_cons_succ]
            refine handTake 13 (some 38) ?_ rfl rfl (by kernel_rfl) (by kernel_rfl) (by kernel_rfl) (fun _ _ _ h => h) (by rfl) ?_ HS ?_
            rotate_left
            · (intro u hu; (try dsimp only at hu); go_simp; try with_reducible rfl)
            simp only [Act.put, List.setIfInBounds_toArray, List.set_cons_zero, List.set_cons_succ]
            refine handTake 14 (some 39) ?_ rfl rfl (by kernel_rfl) (by kernel_rfl) (by kernel_rfl) (fun _ _ _ h => h) (by rfl) ?_ HS ?_
            rotate_left
            · (intro u hu; (try dsimp only at hu); go_simp; try with_reducible rfl)
            simp only [Act.put, List.setIfInBounds_toArray, List.set_cons_zero, List.set_cons_succ]
            refine wpAnyH_ready (rs := [15]) (by kernel_rfl) (by simp) ?_
            refine AllReadyH.cons rfl (fun K hK => ?_) AllReadyH.nil
            go_simp
            clear HS
            refine (EN.out _).mono ?_
            rintro e9 u90 ⟨rfl, hx⟩
            have HC1 := Lib.hid (HSB.out.drew.call hx)
            have HZ1 := Lib.hid hx.size
            clear hx
            go_wp2_with fail
            refine hK.out _ _ (SOF.out _ HC1) (fun HS => ?_)
            clear hK
            try simp only [Act.put, List.setIfInBounds_toArray, List.set_cons_zero, List.set_cons_succ]
            refine handTake 16 (some 41) ?_ rfl rfl (by kernel_rfl) (by kernel_rfl) (by kernel_rfl) (fun _ _ _ h => h) (by rfl) ?_ HS ?_
            rotate_left
            · (intro u hu; (try dsimp only at hu); go_simp; try with_reducible rfl)
            simp only [Act.put, List.setIfInBounds_toArray, List.set_cons_zero, List.set_cons_succ]
            refine wpAnyH_done (by kernel_rfl) ?_ _
            clear HS SOF
            obtain ⟨U, hU⟩ : ∃ U : World, U = u90 := ⟨_, rfl⟩
            have HSU0 := HC1.out
            rw [← hU] at HSU0 ⊢
            have HSU := Lib.hid HSU0
            clear HSU0 hU 
            clear b0 b1 b2 b3 b4 b5 b6 b7 b8 b9 hbl q0 q2 z2 hgl2
            have hbx : Whole U wr.heap.size 78 [.int .i64 em1, .int .i64 es, .int .u8 (ek : Nat), .string ea, .string eb, .string ec, .bool true, .int .i64 en, .int .i64 ei, .int .u8 (et : Nat)] := HSU.out.head
            have b0 := hbx.cell 0; have b1 := hbx.cell 1; have b2 := hbx.cell 2; have b3 := hbx.cell 3; have b4 := hbx.cell 4; have b5 := hbx.cell 5; have b6 := hbx.cell 6; have b7 := hbx.cell 7; have b8 := hbx.cell 8; have b9 := hbx.cell 9
            simp only [List.getElem?_cons_zero, List.getElem?_cons_succ] at b0 b1 b2 b3 b4 b5 b6 b7 b8 b9
            have hbl := hbx.lt
            have hqq : Whole U g 75 [.int .i64 n, .int .i64 own, .slice (some ⟨bb, oo, none⟩) M.length cp] := HSU.out.tail.tail.tail.head
            have q0 := hqq.cell 0; have q2 := hqq.cell 2; have z2 := hqq.free 2; have hgl2 := hqq.lt
            simp only [List.getElem?_cons_zero, List.getElem?_cons_succ] at q0 q2
            clear hbx hqq
            have HSA := Lib.hid (HSU.out.tail.fresh (.cells #[.int .i64 em1, .int .i64 es, .int .u8 (ek : Nat), .string ea, .string eb, .string ec, .bool true, .int .i64 en, .int .i64 ei, .int .u8 (et : Nat)] 78))
            have HRA := Lib.hid (show World.ownsRow _ w.heap.size 78 10 (.slice Al D.length cl) D.length (D.flatMap enC) from HSA.out.head)
            have hzU : w.heap.size ≤ U.heap.size := by omega
            go_wp2_with (at_builtin
                         refine wpList_append_foot _ rfl (.tmp 47) (.tmp 49) _ rfl w.heap.size 78 i0 _ 10 104 Try.underlying73 hi hz0 hz1 hz2 rfl (by decide) _ D.length _ rfl HRA.out (U.heap.size + 1) _ 1 [.int .i64 em1, .int .i64 es, .int .u8 (ek : Nat), .string ea, .string eb, .string ec, .bool true, .int .i64 en, .int .i64 ei, .int .u8 (et : Nat)] rfl (Row.blk (Whole.new U 78 [.int .i64 em1, .int .i64 es, .int .u8 (ek : Nat), .string ea, .string eb, .string ec, .bool true, .int .i64 en, .int .i64 ei, .int .u8 (et : Nat)]) rfl (by omega) (by unfold maxLen; omega)) rfl HX10.out (by unfold maxLen; omega) (by omega) (by simp; omega) ?_
                         intro v7 w7 hown7 hg7 hv7
                         have HS7 := Lib.hid (Sep.grown HSA.out hown7 hg7 hv7)
                         have HZ7 := Lib.hid (Foot.of_grown hg7).size
                         clear hown7 hg7 hv7)
            have h7 := HS7.out
            refine ⟨⟨k + 1, D ++ [(⟨⟨em1, es, ⟨ek, ea, eb, ec⟩⟩, true, en, ei, et⟩ : En)], E, by rw [HN2.out _ hr]; rfl, by rw [HN.out _ hr, List.map_append, ← HE.out]; simp, by rw [List.length_append, List.length_singleton]; omega, by omega, by omega, by go_num, by rw [List.length_append, List.flatMap_append]; exact h7, by have := HZ7.out; simp at this; omega⟩, by simp [intOf]; omega⟩
          · have SOF : Hid (∀ u : World, Hid (Sep w0 (.box wr.heap.size 78 [.int .i64 em1, .int .i64 es, .int .u8 (ek : Nat), .string ea, .string eb, .string ec, .bool true, .int .i64 en, .int .i64 ei, .int .u8 (et : Nat)] :: .row w.heap.size 78 10 (.slice Al D.length cl) D.length (D.flatMap enC) :: .row w.heap.size 25 6 (.slice Ao E.length co) E.length (E.flatMap rqC) :: (mI g n own M (.slice (some ⟨bb, oo, none⟩) M.length cp) ++ l)) u) → (fun u : World => (u.cell? ⟨wr.heap.size, 0, none⟩ = some (.int .i64 em1) ∧ u.cell? ⟨wr.heap.size, 1, none⟩ = some (.int .i64 es) ∧ u.cell? ⟨wr.heap.size, 2, none⟩ = some (.int .u8 (ek : Nat)) ∧ u.cell? ⟨wr.heap.size, 3, none⟩ = some (.string ea) ∧ u.cell? ⟨wr.heap.size, 4, none⟩ = some (.string eb) ∧ u.cell? ⟨wr.heap.size, 5, none⟩ = some (.string ec) ∧ u.cell? ⟨wr.heap.size, 6, none⟩ = some (.bool true) ∧ u.cell? ⟨wr.heap.size, 7, none⟩ = some (.int .i64 en) ∧ u.cell? ⟨wr.heap.size, 8, none⟩ = some (.int .i64 ei) ∧ u.cell? ⟨wr.heap.size, 9, none⟩ = some (.int .u8 (et : Nat)) ∧ u.cell? ⟨g, 0, none⟩ = some (.int .i64 n)) ∧ Hid (Sep w0 (.box wr.heap.size 78 [.int .i64 em1, .int .i64 es, .int .u8 (ek : Nat), .string ea, .string eb, .string ec, .bool true, .int .i64 en, .int .i64 ei, .int .u8 (et : Nat)] :: .row w.heap.size 78 10 (.slice Al D.length cl) D.length (D.flatMap enC) :: .row w.heap.size 25 6 (.slice Ao E.length co) E.length (E.flatMap rqC) :: (mI g n own M (.slice (some ⟨bb, oo, none⟩) M.length cp) ++ l)) u)) u) := fun u h => by
              have hbx : Whole u wr.heap.size 78 [.int .i64 em1, .int .i64 es, .int .u8 (ek : Nat), .string ea, .string eb, .string ec, .bool true, .int .i64 en, .int .i64 ei, .int .u8 (et : Nat)] := h.out.head
              have hqq : Whole u g 75 [.int .i64 n, .int .i64 own, .slice (some ⟨bb, oo, none⟩) M.length cp] := h.out.tail.tail.tail.head
              exact ⟨⟨hbx.cell 0, hbx.cell 1, hbx.cell 2, hbx.cell 3, hbx.cell 4, hbx.cell 5, hbx.cell 6, hbx.cell 7, hbx.cell 8, hbx.cell 9, hqq.cell 0⟩, h⟩
            refine wp_region_held_drew (S := (fun u : World => (u.cell? ⟨wr.heap.size, 0, none⟩ = some (.int .i64 em1) ∧ u.cell? ⟨wr.heap.size, 1, none⟩ = some (.int .i64 es) ∧ u.cell? ⟨wr.heap.size, 2, none⟩ = some (.int .u8 (ek : Nat)) ∧ u.cell? ⟨wr.heap.size, 3, none⟩ = some (.string ea) ∧ u.cell? ⟨wr.heap.size, 4, none⟩ = some (.string eb) ∧ u.cell? ⟨wr.heap.size, 5, none⟩ = some (.string ec) ∧ u.cell? ⟨wr.heap.size, 6, none⟩ = some (.bool true) ∧ u.cell? ⟨wr.heap.size, 7, none⟩ = some (.int .i64 en) ∧ u.cell? ⟨wr.heap.size, 8, none⟩ = some (.int .i64 ei) ∧ u.cell? ⟨wr.heap.size, 9, none⟩ = some (.int .u8 (et : Nat)) ∧ u.cell? ⟨g, 0, none⟩ = some (.int .i64 n)) ∧ Hid (Sep w0 (.box wr.heap.size 78 [.int .i64 em1, .int .i64 es, .int .u8 (ek : Nat), .string ea, .string eb, .string ec, .bool true, .int .i64 en, .int .i64 ei, .int .u8 (et : Nat)] :: .row w.heap.size 78 10 (.slice Al D.length cl) D.length (D.flatMap enC) :: .row w.heap.size 25 6 (.slice Ao E.length co) E.length (E.flatMap rqC) :: (mI g n own M (.slice (some ⟨bb, oo, none⟩) M.length cp) ++ l)) u))) (by kernel_rfl) (SOF.out _ (Lib.hid HSB.out.drew)) (fun HS => ?_)
            refine handTake 0 (some 25) ?_ rfl rfl (by kernel_rfl) (by kernel_rfl) (by kernel_rfl) (fun _ _ _ h => h) (by rfl) ?_ HS ?_
            rotate_left
            · (intro u hu; (try dsimp only at hu); go_simp; try with_reducible rfl)
            simp only [Act.put, List.setIfInBounds_toArray, List.set_cons_zero, List.set_cons_succ]
            refine handTake 1 (some 26) ?_ rfl rfl (by kernel_rfl) (by kernel_rfl) (by kernel_rfl) (fun _ _ _ h => h) (by rfl) ?_ HS ?_
            rotate_left
            · (intro u hu; (try dsimp only at hu); go_simp; try with_reducible rfl)
            simp only [Act.put, List.setIfInBounds_toArray, List.set_cons_zero, List.set_cons_succ]
            refine handTake 2 (some 27) ?_ rfl rfl (by kernel_rfl) (by kernel_rfl) (by kernel_rfl) (fun _ _ _ h => h) (by rfl) ?_ HS ?_
            rotate_left
            · (intro u hu; (try dsimp only at hu); go_simp; try with_reducible rfl)
            simp only [Act.put, List.setIfInBounds_toArray, List.set_cons_zero, List.set_cons_succ]
            refine handTake 3 (some 28) ?_ rfl rfl (by kernel_rfl) (by kernel_rfl) (by kernel_rfl) (fun _ _ _ h => h) (by rfl) ?_ HS ?_
            rotate_left
            · (intro u hu; (try dsimp only at hu); go_simp; try with_reducible rfl)
            simp only [Act.put, List.setIfInBounds_toArray, List.set_cons_zero, List.set_cons_succ]
            refine handTake 4 (some 29) ?_ rfl rfl (by kernel_rfl) (by kernel_rfl) (by kernel_rfl) (fun _ _ _ h => h) (by rfl) ?_ HS ?_
            rotate_left
            · (intro u hu; (try dsimp only at hu); go_simp; try with_reducible rfl)
            simp only [Act.put, List.setIfInBounds_toArray, List.set_cons_zero, List.set_cons_succ]
            refine handTake 5 (some 30) ?_ rfl rfl (by kernel_rfl) (by kernel_rfl) (by kernel_rfl) (fun _ _ _ h => h) (by rfl) ?_ HS ?_
            rotate_left
            · (intro u hu; (try dsimp only at hu); go_simp; try with_reducible rfl)
            simp only [Act.put, List.setIfInBounds_toArray, List.set_cons_zero, List.set_cons_succ]
            refine handTake 6 (some 31) ?_ rfl rfl (by kernel_rfl) (by kernel_rfl) (by kernel_rfl) (fun _ _ _ h => h) (by rfl) ?_ HS ?_
            rotate_left
            · (intro u hu; (try dsimp only at hu); go_simp; try with_reducible rfl)
            simp only [Act.put, List.setIfInBounds_toArray, List.set_cons_zero, List.set_cons_succ]
            refine handTake 7 (some 32) ?_ rfl rfl (by kernel_rfl) (by kernel_rfl) (by kernel_rfl) (fun _ _ _ h => h) (by rfl) ?_ HS ?_
            rotate_left
            · (intro u hu; (try dsimp only at hu); go_simp; try with_reducible rfl)
            simp only [Act.put, List.setIfInBounds_toArray, List.set_cons_zero, List.set_cons_succ]
            refine handTake 8 (some 33) ?_ rfl rfl (by kernel_rfl) (by kernel_rfl) (by kernel_rfl) (fun _ _ _ h => h) (by rfl) ?_ HS ?_
            rotate_left
            · (intro u hu; (try dsimp only at hu); go_simp; try with_reducible rfl)
            simp only [Act.put, List.setIfInBounds_toArray, List.set_cons_zero, List.set_cons_succ]
            refine handTake 9 (some 34) ?_ rfl rfl (by kernel_rfl) (by kernel_rfl) (by kernel_rfl) (fun _ _ _ h => h) (by rfl) ?_ HS ?_
            rotate_left
            · (intro u hu; (try dsimp only at hu); go_simp; try with_reducible rfl)
            simp only [Act.put, List.setIfInBounds_toArray, List.set_cons_zero, List.set_cons_succ]
            refine handTake 10 (some 35) ?_ rfl rfl (by kernel_rfl) (by kernel_rfl) (by kernel_rfl) (fun _ _ _ h => h) (by rfl) ?_ HS ?_
            rotate_left
            · (intro u hu; (try dsimp only at hu); go_simp; try with_reducible rfl)
            simp only [Act.put, List.setIfInBounds_toArray, List.set_cons_zero, List.set_cons_succ]
            refine handTake 11 (some 36) ?_ rfl rfl (by kernel_rfl) (by kernel_rfl) (by kernel_rfl) (fun _ _ _ h => h) (by rfl) ?_ HS ?_
            rotate_left
            · (intro u hu; (try dsimp only at hu); go_simp; try with_reducible rfl)
            simp only [Act.put, List.setIfInBounds_toArray, List.set_cons_zero, List.set_cons_succ]
            refine handTake 12 (some 37) ?_ rfl rfl (by kernel_rfl) (by kernel_rfl) (by kernel_rfl) (fun _ _ _ h => h) (by rfl) ?_ HS ?_
            rotate_left
            · (intro u hu; (try dsimp only at hu); go_simp; try with_reducible rfl)
            simp only [Act.put, List.setIfInBounds_toArray, List.set_cons_zero, List.set_cons_succ]
            refine handTake 13 (some 38) ?_ rfl rfl (by kernel_rfl) (by kernel_rfl) (by kernel_rfl) (fun _ _ _ h => h) (by rfl) ?_ HS ?_
            rotate_left
            · (intro u hu; (try dsimp only at hu); go_simp; try with_reducible rfl)
            simp only [Act.put, List.setIfInBounds_toArray, List.set_cons_zero, List.set_cons_succ]
            refine handTake 14 (some 39) ?_ rfl rfl (by kernel_rfl) (by kernel_rfl) (by kernel_rfl) (fun _ _ _ h => h) (by rfl) ?_ HS ?_
            rotate_left
            · (intro u hu; (try dsimp only at hu); go_simp; try with_reducible rfl)
            simp only [Act.put, List.setIfInBounds_toArray, List.set_cons_zero, List.set_cons_succ]
            refine wpAnyH_ready (rs := [15]) (by kernel_rfl) (by simp) ?_
            refine AllReadyH.cons rfl (fun K hK => ?_) AllReadyH.nil
            go_simp
            clear HS
            refine (EN.out _).mono ?_
            rintro e9 u90 ⟨rfl, hx⟩
            have HC1 := Lib.hid (HSB.out.drew.call hx)
            have HZ1 := Lib.hid hx.size
            clear hx
            go_wp2_with fail
            refine hK.out _ _ (SOF.out _ HC1) (fun HS => ?_)
            clear hK
            try simp only [Act.put, List.setIfInBounds_toArray, List.set_cons_zero, List.set_cons_succ]
            refine handTake 16 (some 41) ?_ rfl rfl (by kernel_rfl) (by kernel_rfl) (by kernel_rfl) (fun _ _ _ h => h) (by rfl) ?_ HS ?_
            rotate_left
            · (intro u hu; (try dsimp only at hu); go_simp; try with_reducible rfl)
            simp only [Act.put, List.setIfInBounds_toArray, List.set_cons_zero, List.set_cons_succ]
            refine wpAnyH_done (by kernel_rfl) ?_ _
            clear HS SOF
            obtain ⟨U, hU⟩ : ∃ U : World, U = u90 := ⟨_, rfl⟩
            have HSU0 := HC1.out
            rw [← hU] at HSU0 ⊢
            have HSU := Lib.hid HSU0
            clear HSU0 hU
            clear b0 b1 b2 b3 b4 b5 b6 b7 b8 b9 hbl q0 q2 z2 hgl2
            have hbx : Whole U wr.heap.size 78 [.int .i64 em1, .int .i64 es, .int .u8 (ek : Nat), .string ea, .string eb, .string ec, .bool true, .int .i64 en, .int .i64 ei, .int .u8 (et : Nat)] := HSU.out.head
            have b0 := hbx.cell 0; have b1 := hbx.cell 1; have b2 := hbx.cell 2; have b3 := hbx.cell 3; have b4 := hbx.cell 4; have b5 := hbx.cell 5; have b6 := hbx.cell 6; have b7 := hbx.cell 7; have b8 := hbx.cell 8; have b9 := hbx.cell 9
            simp only [List.getElem?_cons_zero, List.getElem?_cons_succ] at b0 b1 b2 b3 b4 b5 b6 b7 b8 b9
            have hbl := hbx.lt
            have hqq : Whole U g 75 [.int .i64 n, .int .i64 own, .slice (some ⟨bb, oo, none⟩) M.length cp] := HSU.out.tail.tail.tail.head
            have q0 := hqq.cell 0; have q2 := hqq.cell 2; have z2 := hqq.free 2; have hgl2 := hqq.lt
            simp only [List.getElem?_cons_zero, List.getElem?_cons_succ] at q0 q2
            clear hbx hqq
            have HSA := Lib.hid (HSU.out.tail.exch.fresh (.cells #[.int .i64 em1, .int .i64 es, .int .u8 (ek : Nat), .string ea, .string eb, .string ec] 25))
            have HRA := Lib.hid (show World.ownsRow _ w.heap.size 25 6 (.slice Ao E.length co) E.length (E.flatMap rqC) from HSA.out.head)
            have hzU : w.heap.size ≤ U.heap.size := by omega
            go_wp2_with (at_builtin
                         refine wpList_append_foot _ rfl (.tmp 42) (.tmp 45) _ rfl w.heap.size 25 i1 _ 6 72 Try.underlying41 gi gz0 gz1 gz2 rfl (by decide) _ E.length _ rfl HRA.out (U.heap.size + 1) _ 1 [.int .i64 em1, .int .i64 es, .int .u8 (ek : Nat), .string ea, .string eb, .string ec] rfl (Row.blk (Whole.new U 25 [.int .i64 em1, .int .i64 es, .int .u8 (ek : Nat), .string ea, .string eb, .string ec]) rfl (by omega) (by unfold maxLen; omega)) rfl HX6.out (by unfold maxLen; omega) (by omega) (by simp; omega) ?_
                         intro v7 w7 hown7 hg7 hv7
                         have HS7 := Lib.hid (Sep.grown HSA.out hown7 hg7 hv7)
                         have HZ7 := Lib.hid (Foot.of_grown hg7).size
                         clear hown7 hg7 hv7)
            have h7 := HS7.out.exch
            refine ⟨⟨k + 1, D, E ++ [(⟨em1, es, ⟨ek, ea, eb, ec⟩⟩ : Rq)], by rw [HN2.out _ hr]; simp, by rw [HN.out _ hr, List.map_append, ← HE.out]; rfl, by omega, by rw [List.length_append, List.length_singleton]; omega, by omega, by go_num, by rw [List.length_append, List.flatMap_append]; exact h7, by have := HZ7.out; simp at this; omega⟩, by simp [intOf]; omega⟩
        · have hle' : decide (ei ≤ ap) = false := by simp [hle]
          have hr : readyE n ap ⟨⟨em1, es, ⟨ek, ea, eb, ec⟩⟩, true, en, ei, et⟩ = false := by unfold readyE; simp [hle]
          go_quiet (fail)
          obtain ⟨U, hU⟩ : ∃ U : World, U = W.drewN nq := ⟨_, rfl⟩
          have HSU0 := (HSB.out.drewN nq)
          rw [← hU] at HSU0 ⊢
          have HSU := Lib.hid HSU0
          clear HSU0 hU 
          clear b0 b1 b2 b3 b4 b5 b6 b7 b8 b9 hbl q0 q2 z2 hgl2
          have hbx : Whole U wr.heap.size 78 [.int .i64 em1, .int .i64 es, .int .u8 (ek : Nat), .string ea, .string eb, .string ec, .bool true, .int .i64 en, .int .i64 ei, .int .u8 (et : Nat)] := HSU.out.head
          have b0 := hbx.cell 0; have b1 := hbx.cell 1; have b2 := hbx.cell 2; have b3 := hbx.cell 3; have b4 := hbx.cell 4; have b5 := hbx.cell 5; have b6 := hbx.cell 6; have b7 := hbx.cell 7; have b8 := hbx.cell 8; have b9 := hbx.cell 9
          simp only [List.getElem?_cons_zero, List.getElem?_cons_succ] at b0 b1 b2 b3 b4 b5 b6 b7 b8 b9
          have hbl := hbx.lt
          have hqq : Whole U g 75 [.int .i64 n, .int .i64 own, .slice (some ⟨bb, oo, none⟩) M.length cp] := HSU.out.tail.tail.tail.head
          have q0 := hqq.cell 0; have q2 := hqq.cell 2; have z2 := hqq.free 2; have hgl2 := hqq.lt
          simp only [List.getElem?_cons_zero, List.getElem?_cons_succ] at q0 q2
          clear hbx hqq
          have HSA := Lib.hid (HSU.out.tail.fresh (.cells #[.int .i64 em1, .int .i64 es, .int .u8 (ek : Nat), .string ea, .string eb, .string ec, .bool true, .int .i64 en, .int .i64 ei, .int .u8 (et : Nat)] 78))
          have HRA := Lib.hid (show World.ownsRow _ w.heap.size 78 10 (.slice Al D.length cl) D.length (D.flatMap enC) from HSA.out.head)
          have hzU : w.heap.size ≤ U.heap.size := by omega
          go_wp2_with (at_builtin
                       refine wpList_append_foot _ rfl (.tmp 47) (.tmp 49) _ rfl w.heap.size 78 i0 _ 10 104 Try.underlying73 hi hz0 hz1 hz2 rfl (by decide) _ D.length _ rfl HRA.out (U.heap.size + 1) _ 1 [.int .i64 em1, .int .i64 es, .int .u8 (ek : Nat), .string ea, .string eb, .string ec, .bool true, .int .i64 en, .int .i64 ei, .int .u8 (et : Nat)] rfl (Row.blk (Whole.new U 78 [.int .i64 em1, .int .i64 es, .int .u8 (ek : Nat), .string ea, .string eb, .string ec, .bool true, .int .i64 en, .int .i64 ei, .int .u8 (et : Nat)]) rfl (by omega) (by unfold maxLen; omega)) rfl HX10.out (by unfold maxLen; omega) (by omega) (by simp; omega) ?_
                       intro v7 w7 hown7 hg7 hv7
                       have HS7 := Lib.hid (Sep.grown HSA.out hown7 hg7 hv7)
                       have HZ7 := Lib.hid (Foot.of_grown hg7).size
                       clear hown7 hg7 hv7)
          have h7 := HS7.out
          refine ⟨⟨k + 1, D ++ [(⟨⟨em1, es, ⟨ek, ea, eb, ec⟩⟩, true, en, ei, et⟩ : En)], E, by rw [HN2.out _ hr]; rfl, by rw [HN.out _ hr, List.map_append, ← HE.out]; simp, by rw [List.length_append, List.length_singleton]; omega, by omega, by omega, by go_num, by rw [List.length_append, List.flatMap_append]; exact h7, by have := HZ7.out; simp at this; omega⟩, by simp [intOf]; omega⟩
    · have e : k = M.length := by omega
      subst e
      go_wp2_with fail
      go_ret
      have hf := HD.out
      have hg := HE.out
      rw [List.take_length] at hf hg
      subst hf hg
      have h1 := HS.out.perm (List.Perm.cons _ (List.perm_middle (a := .row w.heap.size 25 6 (.slice Ao ((M.filter (readyE n ap)).map (·.r)).length co) ((M.filter (readyE n ap)).map (·.r)).length (((M.filter (readyE n ap)).map (·.r)).flatMap rqC)) (l₁ := mI g n own M (.slice A M.length cp)) (l₂ := l)).symm)
      have h2 := mI_put rfl rfl h1 hgl
      exact ⟨_, _, _, rfl, h2.perm (List.Perm.append_left _ (List.perm_append_singleton _ _).symm)⟩


end Qu
end Go.Proofs.Ytinnpeonokdljaa
