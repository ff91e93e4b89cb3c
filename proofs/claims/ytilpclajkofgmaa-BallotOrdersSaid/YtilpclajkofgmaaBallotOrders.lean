/- The walk of the statement that any two ballots stand to each other as the chapter says, and the greatest of any is what it says. -/
import Derived.Test.YtilpclajkofgmaaBallotRmax
import Derived.Test.YtilpclajkofgmaaBallotEql
import Derived.Test.YtilpclajkofgmaaAppend
import Derived.Deep.QuietTactic
import Derived.BigQuiet
set_option linter.unusedSimpArgs false
set_option linter.unusedVariables false
namespace Go.Proofs.Ytilpclajkofgmaa
open Go.RowKit

namespace Bl
attribute [local go_sem ↓] Bl.eql_ba Bl.neq_ba

theorem info_ballot : (Try.prog.info? 23).map (fun i => (i.zero, i.size, i.bytes)) = some (some (.agg #[.int .i64 0, .int .i64 0]), 2, 16) := by kernel_rfl
theorem cells_one {l : List Ba} : ∀ u ∈ l.flatMap Ba.cells, u.oneCell' = true := by
  intro u hu
  obtain ⟨a, _, hu⟩ := List.mem_flatMap.1 hu
  simp only [Ba.cells, List.mem_cons, List.not_mem_nil, or_false] at hu
  rcases hu with rfl | rfl <;> rfl

theorem max_lit (l : List Ba) (v : Value) (w : World) (hr : Row w w.heap.size v l.length (l.flatMap Ba.cells)) :
    Calls Try.prog 9 #[v] w fun e w' => e = .returned (.agg #[.int .i64 (maxL l).r, .int .i64 (maxL l).p]) ∧ Below w.heap.size w w' := max_any l v w hr
theorem rmax_lit (l : List Ba) (v : Value) (w : World) (hr : Row w w.heap.size v l.length (l.flatMap Ba.cells)) :
    Calls Try.prog 12 #[v] w fun e w' => e = .returned (.agg #[.int .i64 (maxL l).r, .int .i64 (maxL l).p]) ∧ Below w.heap.size w w' := rmax_any l v w hr

set_option maxHeartbeats 4000000 in
theorem orders_any (a b : Ba) (l : List Ba) (v : Value) (w : World) (hr : Row w w.heap.size v l.length (l.flatMap Ba.cells)) :
    Calls Try.prog 3 #[.agg a.cells.toArray, .agg b.cells.toArray, v] w fun e w' => e = .returned (.bool true) ∧ Below w.heap.size w w' := by
  obtain ⟨A, c, rfl, hn, hc⟩ := hr.slice
  have hlen := hr.bound
  have HR := Lib.hid hr; clear hr
  have L1 := Lib.hid (less_any a b)
  have L2 := Lib.hid (rless_any a b)
  obtain ⟨ar, ap⟩ := a
  obtain ⟨br, bp⟩ := b
  by_cases hbig : 200 < l.length
  · have hbig' : (200 : Int) < (l.length : Int) := by omega
    unfold Ba.cells
    go_enter Try.func3, Try.ntmps3
    go_wp2_with fail
    go_ret
    exact ⟨rfl, be2 _ _ _⟩
  have hbig' : (l.length : Int) ≤ 200 := by omega
  obtain ⟨i0, hi, hz0, hz1, hz2⟩ := info_parts info_ballot
  unfold Ba.cells
  have KB := Lib.hid (Below.refl w.heap.size w)
  go_enter Try.func3, Try.ntmps3
  go_wp2_with (at_builtin; refine wpList_append_row _ rfl (.tmp 13) (.tmp 14) _ rfl (w.heap.size + 2) 23 i0 _ 2 16 Try.underlying24 hi hz0 hz1 hz2 rfl (by decide) (.slice none 0 0) 0 [] rfl (World.ownsRow_nil _ _ _ _) w.heap.size (.slice A l.length c) l.length (l.flatMap Ba.cells) rfl ((HR.out.alloc (Nat.le_refl _) _).alloc (by simp) _) (flat_len cells_len l) cells_one (by unfold maxLen; omega) (by omega) (by simp) ?_; intro v1 w1 hown hb)
  rw [Nat.zero_add, List.nil_append] at hown
  have HM := Lib.hid (Row.of_own hown)
  clear hown
  obtain ⟨A1, c1, rfl, hn1, hc1⟩ := HM.out.slice
  have H_a : Whole w1 (w.heap.size) 23 _ := Whole.below ((Whole.new _ 23 _).alloc _) hb (by first | omega | (simp; done) | (simp; omega) | (simp at *; omega))
  have H_b : Whole w1 (w.heap.size + 1) 23 _ := Whole.below (wh_at w 1 _ 23 _ (by simp)) hb (by first | omega | (simp; done) | (simp; omega) | (simp at *; omega))
  have HB := ((KB.out.alloc (by first | omega | (simp; done) | (simp; omega) | (simp at *; omega)) _).alloc (by first | omega | (simp; done) | (simp; omega) | (simp at *; omega)) _).trans (hb.mono (by first | omega | (simp; done) | (simp; omega) | (simp at *; omega)))
  clear hb KB
  have z_w1 := HB.size
  have c_a_0 := H_a.cell 0; have f_a_0 := H_a.free 0; have c_a_1 := H_a.cell 1; have f_a_1 := H_a.free 1
  simp only [List.set_cons_zero, List.set_cons_succ, List.getElem?_cons_zero, List.getElem?_cons_succ] at c_a_0 c_a_1
  have c_b_0 := H_b.cell 0; have f_b_0 := H_b.free 0; have c_b_1 := H_b.cell 1; have f_b_1 := H_b.free 1
  simp only [List.set_cons_zero, List.set_cons_succ, List.getElem?_cons_zero, List.getElem?_cons_succ] at c_b_0 c_b_1
  have l_a := H_a.lt; have K_a := Lib.hid H_a; clear H_a
  have l_b := H_b.lt; have K_b := Lib.hid H_b; clear H_b
  have KB := Lib.hid HB; clear HB
  go_wp2_with fail
  refine (max_lit l _ _ (HM.out.more (Nat.le_refl _))).mono ?_
  rintro e2 u2 ⟨rfl, hb⟩
  have HW := Lib.hid hb
  have H_a : Whole u2 (w.heap.size) 23 _ := Whole.below K_a.out hb (by first | omega | (simp; done) | (simp; omega) | (simp at *; omega))
  have H_b : Whole u2 (w.heap.size + 1) 23 _ := Whole.below K_b.out hb (by first | omega | (simp; done) | (simp; omega) | (simp at *; omega))
  have HB := KB.out.trans (hb.mono (by first | omega | (simp; done) | (simp; omega) | (simp at *; omega)))
  clear c_a_0 c_a_1 f_a_0 f_a_1 c_b_0 c_b_1 f_b_0 f_b_1 l_a l_b
  clear hb KB K_a K_b
  have z_u2 := HB.size
  have c_a_0 := H_a.cell 0; have f_a_0 := H_a.free 0; have c_a_1 := H_a.cell 1; have f_a_1 := H_a.free 1
  simp only [List.set_cons_zero, List.set_cons_succ, List.getElem?_cons_zero, List.getElem?_cons_succ] at c_a_0 c_a_1
  have c_b_0 := H_b.cell 0; have f_b_0 := H_b.free 0; have c_b_1 := H_b.cell 1; have f_b_1 := H_b.free 1
  simp only [List.set_cons_zero, List.set_cons_succ, List.getElem?_cons_zero, List.getElem?_cons_succ] at c_b_0 c_b_1
  have l_a := H_a.lt; have K_a := Lib.hid H_a; clear H_a
  have l_b := H_b.lt; have K_b := Lib.hid H_b; clear H_b
  have KB := Lib.hid HB; clear HB
  go_wp2_with fail
  obtain ⟨W3, hW⟩ : ∃ W : World, W = (u2.alloc (.cells #[.int .i64 (maxL l).r, .int .i64 (maxL l).p] 23)) := ⟨_, rfl⟩
  have H_a : Whole W3 (w.heap.size) 23 [.int .i64 ar, .int .i64 ap] := by rw [hW]; exact (K_a.out.alloc _)
  have H_b : Whole W3 (w.heap.size + 1) 23 [.int .i64 br, .int .i64 bp] := by rw [hW]; exact (K_b.out.alloc _)
  have H_m : Whole W3 (u2.heap.size) 23 [.int .i64 (maxL l).r, .int .i64 (maxL l).p] := by rw [hW]; exact (Whole.new _ 23 _)
  have HB : Below w.heap.size w W3 := by rw [hW]; exact (KB.out.alloc (by first | omega | (simp; done) | (simp; omega) | (simp at *; omega)) _)
  have HW2 : Hid (Below w1.heap.size w1 W3) := by rw [hW]; exact (HW.out.alloc (by exact HW.out.size) _)
  rw [← hW]
  clear c_a_0 c_a_1 f_a_0 f_a_1 c_b_0 c_b_1 f_b_0 f_b_1
  clear hW KB K_a K_b
  have z_W3 := HB.size
  have c_a_0 := H_a.cell 0; have f_a_0 := H_a.free 0; have c_a_1 := H_a.cell 1; have f_a_1 := H_a.free 1
  simp only [List.set_cons_zero, List.set_cons_succ, List.getElem?_cons_zero, List.getElem?_cons_succ] at c_a_0 c_a_1
  have c_b_0 := H_b.cell 0; have f_b_0 := H_b.free 0; have c_b_1 := H_b.cell 1; have f_b_1 := H_b.free 1
  simp only [List.set_cons_zero, List.set_cons_succ, List.getElem?_cons_zero, List.getElem?_cons_succ] at c_b_0 c_b_1
  have c_m_0 := H_m.cell 0; have f_m_0 := H_m.free 0; have c_m_1 := H_m.cell 1; have f_m_1 := H_m.free 1
  simp only [List.set_cons_zero, List.set_cons_succ, List.getElem?_cons_zero, List.getElem?_cons_succ] at c_m_0 c_m_1
  have l_a := H_a.lt; have K_a := Lib.hid H_a; clear H_a
  have l_b := H_b.lt; have K_b := Lib.hid H_b; clear H_b
  have l_m := H_m.lt; have K_m := Lib.hid H_m; clear H_m
  have KB := Lib.hid HB; clear HB
  go_wp2_with fail
  have SS := Lib.hid (@same_self)
  go_loopw [9] (fun iv wr => ∃ k : Nat, k ≤ l.length ∧ iv = .int .i64 k ∧ Below W3.heap.size W3 wr) (fun iv _ => l.length - (intOf iv).toNat)
  case atStart => exact ⟨0, Nat.zero_le _, rfl, Below.refl _ _⟩
  case round =>
    obtain ⟨k, hk, rfl, hbr⟩ := hrel
    by_cases hlt : k < l.length
    · have h1 := HM.out
      have h2 := HR.out
      obtain ⟨b1, o1, rfl, hb1, hx1⟩ := h1.elem cells_len (by omega) hlt
      obtain ⟨b2, o2, rfl, hb2, hx2⟩ := h2.elem cells_len (by omega) hlt
      clear h1 h2
      have hw2 := HW2.out
      have hkb := KB.out
      have hz1 := hw2.size
      have x0 := (hbr.cell (p := ⟨b1, o1 + (k * 2 + 0), none⟩) (by simp; omega)).trans ((hw2.cell (p := ⟨b1, o1 + (k * 2 + 0), none⟩) hb1).trans (hx1 0 _ rfl))
      have x1 := (hbr.cell (p := ⟨b1, o1 + (k * 2 + 1), none⟩) (by simp; omega)).trans ((hw2.cell (p := ⟨b1, o1 + (k * 2 + 1), none⟩) hb1).trans (hx1 1 _ rfl))
      have y0 := (hbr.cell (p := ⟨b2, o2 + (k * 2 + 0), none⟩) (by simp; omega)).trans ((hkb.cell (p := ⟨b2, o2 + (k * 2 + 0), none⟩) hb2).trans (hx2 0 _ rfl))
      have y1 := (hbr.cell (p := ⟨b2, o2 + (k * 2 + 1), none⟩) (by simp; omega)).trans ((hkb.cell (p := ⟨b2, o2 + (k * 2 + 1), none⟩) hb2).trans (hx2 1 _ rfl))
      simp only [Nat.add_zero] at x0 y0
      rw [← Nat.add_assoc] at x1 y1
      have s1 : sameB ⟨l[k].r, l[k].p⟩ ⟨l[k].r, l[k].p⟩ = true := same_self _
      clear hx1 hx2 hw2 hkb
      have hbr' := Lib.hid hbr; clear hbr
      generalize l[k] = x at *
      go_wp2_with fail
      go_quiet (fail)
      go_wp2_with fail
      go_roundw
      case rel => exact ⟨k + 1, by omega, by go_num, below_drewN' hbr'.out _⟩
      case measure => simp [intOf]; omega
    · have e : k = l.length := by omega
      subst e
      have H_a := K_a.out.below hbr K_a.out.lt
      have H_b := K_b.out.below hbr K_b.out.lt
      have H_m := K_m.out.below hbr K_m.out.lt
      have HB := KB.out.trans (hbr.mono KB.out.size)
      clear hbr
      have s1 : sameB ⟨(maxL l).r, (maxL l).p⟩ ⟨(maxL l).r, (maxL l).p⟩ = true := same_self _
      clear c_a_0 c_a_1 c_b_0 c_b_1 c_m_0 c_m_1 f_a_0 f_a_1 f_b_0 f_b_1 f_m_0 f_m_1 l_a l_b l_m K_a K_b K_m KB
      have z_wr := HB.size
      have c_a_0 := H_a.cell 0; have f_a_0 := H_a.free 0; have c_a_1 := H_a.cell 1; have f_a_1 := H_a.free 1
      simp only [List.set_cons_zero, List.set_cons_succ, List.getElem?_cons_zero, List.getElem?_cons_succ] at c_a_0 c_a_1
      have c_b_0 := H_b.cell 0; have f_b_0 := H_b.free 0; have c_b_1 := H_b.cell 1; have f_b_1 := H_b.free 1
      simp only [List.set_cons_zero, List.set_cons_succ, List.getElem?_cons_zero, List.getElem?_cons_succ] at c_b_0 c_b_1
      have c_m_0 := H_m.cell 0; have f_m_0 := H_m.free 0; have c_m_1 := H_m.cell 1; have f_m_1 := H_m.free 1
      simp only [List.set_cons_zero, List.set_cons_succ, List.getElem?_cons_zero, List.getElem?_cons_succ] at c_m_0 c_m_1
      have l_a := H_a.lt; have K_a := Lib.hid H_a; clear H_a
      have l_b := H_b.lt; have K_b := Lib.hid H_b; clear H_b
      have l_m := H_m.lt; have K_m := Lib.hid H_m; clear H_m
      have KB := Lib.hid HB; clear HB
      go_wp2_with fail
      have SOF : Hid (∀ u : World, Hid (Known u [(w.heap.size, 23, [.int .i64 ar, .int .i64 ap]), (w.heap.size + 1, 23, [.int .i64 br, .int .i64 bp]), (u2.heap.size, 23, [.int .i64 (maxL l).r, .int .i64 (maxL l).p])]) → (fun u : World => (u.cell? ⟨w.heap.size, 0, none⟩ = some (.int .i64 ar) ∧ u.cell? ⟨w.heap.size, 1, none⟩ = some (.int .i64 ap) ∧ u.cell? ⟨w.heap.size + 1, 0, none⟩ = some (.int .i64 br) ∧ u.cell? ⟨w.heap.size + 1, 1, none⟩ = some (.int .i64 bp) ∧ u.cell? ⟨u2.heap.size, 0, none⟩ = some (.int .i64 (maxL l).r) ∧ u.cell? ⟨u2.heap.size, 1, none⟩ = some (.int .i64 (maxL l).p)) ∧ Hid (Known u [(w.heap.size, 23, [.int .i64 ar, .int .i64 ap]), (w.heap.size + 1, 23, [.int .i64 br, .int .i64 bp]), (u2.heap.size, 23, [.int .i64 (maxL l).r, .int .i64 (maxL l).p])])) u) := fun u h => ⟨⟨(h.out.head.cell 0), (h.out.head.cell 1), (h.out.tail.head.cell 0), (h.out.tail.head.cell 1), (h.out.tail.tail.head.cell 0), (h.out.tail.tail.head.cell 1)⟩, h⟩
      refine wp_region_held_drew (S := (fun u : World => (u.cell? ⟨w.heap.size, 0, none⟩ = some (.int .i64 ar) ∧ u.cell? ⟨w.heap.size, 1, none⟩ = some (.int .i64 ap) ∧ u.cell? ⟨w.heap.size + 1, 0, none⟩ = some (.int .i64 br) ∧ u.cell? ⟨w.heap.size + 1, 1, none⟩ = some (.int .i64 bp) ∧ u.cell? ⟨u2.heap.size, 0, none⟩ = some (.int .i64 (maxL l).r) ∧ u.cell? ⟨u2.heap.size, 1, none⟩ = some (.int .i64 (maxL l).p)) ∧ Hid (Known u [(w.heap.size, 23, [.int .i64 ar, .int .i64 ap]), (w.heap.size + 1, 23, [.int .i64 br, .int .i64 bp]), (u2.heap.size, 23, [.int .i64 (maxL l).r, .int .i64 (maxL l).p])]))) (by kernel_rfl) (SOF.out _ (Known.add (K_a.out.drew) (Known.add (K_b.out.drew) (Known.add (K_m.out.drew) (Known.nil _))))) (fun HS => ?_)
      refine handTake 0 (some 33) ?_ rfl rfl (by kernel_rfl) (by kernel_rfl) (by kernel_rfl) (fun _ _ _ h => h) (by rfl) ?_ HS ?_
      rotate_left
      · (intro u hu; (try dsimp only at hu); go_simp; try with_reducible rfl)
      simp only [Act.put, List.setIfInBounds_toArray, List.set_cons_zero, List.set_cons_succ]
      refine handTake 1 (some 34) ?_ rfl rfl (by kernel_rfl) (by kernel_rfl) (by kernel_rfl) (fun _ _ _ h => h) (by rfl) ?_ HS ?_
      rotate_left
      · (intro u hu; (try dsimp only at hu); go_simp; try with_reducible rfl)
      simp only [Act.put, List.setIfInBounds_toArray, List.set_cons_zero, List.set_cons_succ]
      refine handTake 3 (some 36) ?_ rfl rfl (by kernel_rfl) (by kernel_rfl) (by kernel_rfl) (fun _ _ _ h => h) (by rfl) ?_ HS ?_
      rotate_left
      · (intro u hu; (try dsimp only at hu); go_simp; try with_reducible rfl)
      simp only [Act.put, List.setIfInBounds_toArray, List.set_cons_zero, List.set_cons_succ]
      refine handTake 4 (some 37) ?_ rfl rfl (by kernel_rfl) (by kernel_rfl) (by kernel_rfl) (fun _ _ _ h => h) (by rfl) ?_ HS ?_
      rotate_left
      · (intro u hu; (try dsimp only at hu); go_simp; try with_reducible rfl)
      simp only [Act.put, List.setIfInBounds_toArray, List.set_cons_zero, List.set_cons_succ]
      refine wpAnyH_ready (rs := [2]) (by kernel_rfl) (by simp) ?_
      refine AllReadyH.cons rfl (fun K hK => ?_) AllReadyH.nil
      go_simp
      clear HS
      refine (L1.out _).mono ?_
      rintro e4 u4 ⟨rfl, hb⟩
      have H_a : Whole u4 (w.heap.size) 23 _ := Whole.below (K_a.out.drew) hb (by first | omega | (simp; done) | (simp; omega) | (simp at *; omega))
      have H_b : Whole u4 (w.heap.size + 1) 23 _ := Whole.below (K_b.out.drew) hb (by first | omega | (simp; done) | (simp; omega) | (simp at *; omega))
      have H_m : Whole u4 (u2.heap.size) 23 _ := Whole.below (K_m.out.drew) hb (by first | omega | (simp; done) | (simp; omega) | (simp at *; omega))
      have HB := (KB.out.drew).trans (hb.mono (by first | omega | (simp; done) | (simp; omega) | (simp at *; omega)))
      clear c_a_0 c_a_1 f_a_0 f_a_1 c_b_0 c_b_1 f_b_0 f_b_1 c_m_0 c_m_1 f_m_0 f_m_1 l_a l_b l_m
      clear hb KB K_a K_b K_m
      have z_u4 := HB.size
      have c_a_0 := H_a.cell 0; have f_a_0 := H_a.free 0; have c_a_1 := H_a.cell 1; have f_a_1 := H_a.free 1
      simp only [List.set_cons_zero, List.set_cons_succ, List.getElem?_cons_zero, List.getElem?_cons_succ] at c_a_0 c_a_1
      have c_b_0 := H_b.cell 0; have f_b_0 := H_b.free 0; have c_b_1 := H_b.cell 1; have f_b_1 := H_b.free 1
      simp only [List.set_cons_zero, List.set_cons_succ, List.getElem?_cons_zero, List.getElem?_cons_succ] at c_b_0 c_b_1
      have c_m_0 := H_m.cell 0; have f_m_0 := H_m.free 0; have c_m_1 := H_m.cell 1; have f_m_1 := H_m.free 1
      simp only [List.set_cons_zero, List.set_cons_succ, List.getElem?_cons_zero, List.getElem?_cons_succ] at c_m_0 c_m_1
      have l_a := H_a.lt; have K_a := Lib.hid H_a; clear H_a
      have l_b := H_b.lt; have K_b := Lib.hid H_b; clear H_b
      have l_m := H_m.lt; have K_m := Lib.hid H_m; clear H_m
      have KB := Lib.hid HB; clear HB
      have HS' := Lib.hid (SOF.out _ (Known.add K_a.out (Known.add K_b.out (Known.add K_m.out (Known.nil _)))))
      go_wp2_with fail
      refine hK.out _ _ HS'.out (fun HS => ?_)
      clear hK HS'
      try simp only [Act.put, List.setIfInBounds_toArray, List.set_cons_zero, List.set_cons_succ]
      refine wpAnyH_ready (rs := [5]) (by kernel_rfl) (by simp) ?_
      refine AllReadyH.cons rfl (fun K hK => ?_) AllReadyH.nil
      go_simp
      clear HS
      refine (L2.out _).mono ?_
      rintro e5 u5 ⟨rfl, hb⟩
      have H_a : Whole u5 (w.heap.size) 23 _ := Whole.below K_a.out hb (by first | omega | (simp; done) | (simp; omega) | (simp at *; omega))
      have H_b : Whole u5 (w.heap.size + 1) 23 _ := Whole.below K_b.out hb (by first | omega | (simp; done) | (simp; omega) | (simp at *; omega))
      have H_m : Whole u5 (u2.heap.size) 23 _ := Whole.below K_m.out hb (by first | omega | (simp; done) | (simp; omega) | (simp at *; omega))
      have HB := KB.out.trans (hb.mono (by first | omega | (simp; done) | (simp; omega) | (simp at *; omega)))
      clear c_a_0 c_a_1 f_a_0 f_a_1 c_b_0 c_b_1 f_b_0 f_b_1 c_m_0 c_m_1 f_m_0 f_m_1 l_a l_b l_m
      clear hb KB K_a K_b K_m
      have z_u5 := HB.size
      have c_a_0 := H_a.cell 0; have f_a_0 := H_a.free 0; have c_a_1 := H_a.cell 1; have f_a_1 := H_a.free 1
      simp only [List.set_cons_zero, List.set_cons_succ, List.getElem?_cons_zero, List.getElem?_cons_succ] at c_a_0 c_a_1
      have c_b_0 := H_b.cell 0; have f_b_0 := H_b.free 0; have c_b_1 := H_b.cell 1; have f_b_1 := H_b.free 1
      simp only [List.set_cons_zero, List.set_cons_succ, List.getElem?_cons_zero, List.getElem?_cons_succ] at c_b_0 c_b_1
      have c_m_0 := H_m.cell 0; have f_m_0 := H_m.free 0; have c_m_1 := H_m.cell 1; have f_m_1 := H_m.free 1
      simp only [List.set_cons_zero, List.set_cons_succ, List.getElem?_cons_zero, List.getElem?_cons_succ] at c_m_0 c_m_1
      have l_a := H_a.lt; have K_a := Lib.hid H_a; clear H_a
      have l_b := H_b.lt; have K_b := Lib.hid H_b; clear H_b
      have l_m := H_m.lt; have K_m := Lib.hid H_m; clear H_m
      have KB := Lib.hid HB; clear HB
      have HS' := Lib.hid (SOF.out _ (Known.add K_a.out (Known.add K_b.out (Known.add K_m.out (Known.nil _)))))
      go_wp2_with fail
      refine hK.out _ _ HS'.out (fun HS => ?_)
      clear hK HS'
      try simp only [Act.put, List.setIfInBounds_toArray, List.set_cons_zero, List.set_cons_succ]
      refine handTake 6 (some 39) ?_ rfl rfl (by kernel_rfl) (by kernel_rfl) (by kernel_rfl) (fun _ _ _ h => h) (by rfl) ?_ HS ?_
      rotate_left
      · (intro u hu; (try dsimp only at hu); go_simp; try with_reducible rfl)
      simp only [Act.put, List.setIfInBounds_toArray, List.set_cons_zero, List.set_cons_succ]
      refine handTake 7 (some 40) ?_ rfl rfl (by kernel_rfl) (by kernel_rfl) (by kernel_rfl) (fun _ _ _ h => h) (by rfl) ?_ HS ?_
      rotate_left
      · (intro u hu; (try dsimp only at hu); go_simp; try with_reducible rfl)
      simp only [Act.put, List.setIfInBounds_toArray, List.set_cons_zero, List.set_cons_succ]
      refine handTake 8 (some 41) ?_ rfl rfl (by kernel_rfl) (by kernel_rfl) (by kernel_rfl) (fun _ _ _ h => h) (by rfl) ?_ HS ?_
      rotate_left
      · (intro u hu; (try dsimp only at hu); go_simp; try with_reducible rfl)
      simp only [Act.put, List.setIfInBounds_toArray, List.set_cons_zero, List.set_cons_succ]
      refine handTake 9 (some 42) ?_ rfl rfl (by kernel_rfl) (by kernel_rfl) (by kernel_rfl) (fun _ _ _ h => h) (by rfl) ?_ HS ?_
      rotate_left
      · (intro u hu; (try dsimp only at hu); go_simp; try with_reducible rfl)
      simp only [Act.put, List.setIfInBounds_toArray, List.set_cons_zero, List.set_cons_succ]
      refine wpAnyH_ready (rs := [10]) (by kernel_rfl) (by simp) ?_
      refine AllReadyH.cons rfl (fun K hK => ?_) AllReadyH.nil
      go_simp
      clear HS
      refine (rmax_lit l _ _ ((HR.out.below KB.out).more (by first | omega | (simp; done) | (simp; omega) | (simp at *; omega)))).mono ?_
      rintro e6 u6 ⟨rfl, hb⟩
      have H_a : Whole u6 (w.heap.size) 23 _ := Whole.below K_a.out hb (by first | omega | (simp; done) | (simp; omega) | (simp at *; omega))
      have H_b : Whole u6 (w.heap.size + 1) 23 _ := Whole.below K_b.out hb (by first | omega | (simp; done) | (simp; omega) | (simp at *; omega))
      have H_m : Whole u6 (u2.heap.size) 23 _ := Whole.below K_m.out hb (by first | omega | (simp; done) | (simp; omega) | (simp at *; omega))
      have HB := KB.out.trans (hb.mono (by first | omega | (simp; done) | (simp; omega) | (simp at *; omega)))
      clear c_a_0 c_a_1 f_a_0 f_a_1 c_b_0 c_b_1 f_b_0 f_b_1 c_m_0 c_m_1 f_m_0 f_m_1 l_a l_b l_m
      clear hb KB K_a K_b K_m
      have z_u6 := HB.size
      have c_a_0 := H_a.cell 0; have f_a_0 := H_a.free 0; have c_a_1 := H_a.cell 1; have f_a_1 := H_a.free 1
      simp only [List.set_cons_zero, List.set_cons_succ, List.getElem?_cons_zero, List.getElem?_cons_succ] at c_a_0 c_a_1
      have c_b_0 := H_b.cell 0; have f_b_0 := H_b.free 0; have c_b_1 := H_b.cell 1; have f_b_1 := H_b.free 1
      simp only [List.set_cons_zero, List.set_cons_succ, List.getElem?_cons_zero, List.getElem?_cons_succ] at c_b_0 c_b_1
      have c_m_0 := H_m.cell 0; have f_m_0 := H_m.free 0; have c_m_1 := H_m.cell 1; have f_m_1 := H_m.free 1
      simp only [List.set_cons_zero, List.set_cons_succ, List.getElem?_cons_zero, List.getElem?_cons_succ] at c_m_0 c_m_1
      have l_a := H_a.lt; have K_a := Lib.hid H_a; clear H_a
      have l_b := H_b.lt; have K_b := Lib.hid H_b; clear H_b
      have l_m := H_m.lt; have K_m := Lib.hid H_m; clear H_m
      have KB := Lib.hid HB; clear HB
      have HS' := Lib.hid (SOF.out _ (Known.add K_a.out (Known.add K_b.out (Known.add K_m.out (Known.nil _)))))
      go_wp2_with fail
      refine hK.out _ _ HS'.out (fun HS => ?_)
      clear hK HS'
      try simp only [Act.put, List.setIfInBounds_toArray, List.set_cons_zero, List.set_cons_succ]
      refine handTake 11 (some 44) ?_ rfl rfl (by kernel_rfl) (by kernel_rfl) (by kernel_rfl) (fun _ _ _ h => h) (by rfl) ?_ HS ?_
      rotate_left
      · (intro u hu; (try dsimp only at hu); go_simp; try with_reducible rfl)
      simp only [Act.put, List.setIfInBounds_toArray, List.set_cons_zero, List.set_cons_succ]
      refine handTake 12 (some 45) ?_ rfl rfl (by kernel_rfl) (by kernel_rfl) (by kernel_rfl) (fun _ _ _ h => h) (by rfl) ?_ HS ?_
      rotate_left
      · (intro u hu; (try dsimp only at hu); go_simp; try with_reducible rfl)
      simp only [Act.put, List.setIfInBounds_toArray, List.set_cons_zero, List.set_cons_succ]
      refine handTake 13 (some 6) ?_ rfl rfl (by kernel_rfl) (by kernel_rfl) (by kernel_rfl) (fun _ _ _ h => h) (by rfl) ?_ HS ?_
      rotate_left
      · (intro u hu; (try dsimp only at hu); go_simp; try with_reducible rfl)
      simp only [Act.put, List.setIfInBounds_toArray, List.set_cons_zero, List.set_cons_succ]
      refine wpAnyH_done (by kernel_rfl) ?_ _
      clear HS SOF
      go_wp2_with fail
      go_ret
      exact ⟨by first | rfl | (simp; done), KB.out⟩


end Bl
end Go.Proofs.Ytilpclajkofgmaa
