/- The document's tally: Drop. -/
import Derived.Test.YtmpcjiacgbcpdaaTallyRefNote
set_option linter.unusedSimpArgs false
set_option linter.unusedVariables false
namespace Go.Proofs.Ytmpcjiacgbcpdaa
open Go.RowKit
open Qm

namespace Ta

theorem own_mono {w : World} {base base' : Nat} {e : TypeId} {size : Nat} {v : Value} {n : Nat} {xs : List Value} (h : w.ownsRow base e size v n xs) (hb : base' ≤ base) : w.ownsRow base' e size v n xs := by
  refine ⟨h.1, ?_⟩
  rcases h.2 with h2 | ⟨g, cap, cur, hv, hg, r⟩
  · exact .inl h2
  · exact .inr ⟨g, cap, cur, hv, Nat.le_trans hb hg, r⟩
theorem drop_snoc (R : Rows) (i : Int) (k : Nat) (h : k < R.length) : drop (R.take (k + 1)) i = if i < R[k].1 then drop (R.take k) i ++ [R[k]] else drop (R.take k) i := by
  unfold drop
  rw [List.take_succ_eq_append_getElem h, List.filter_append]
  by_cases hq : i < R[k].1
  · rw [if_pos hq]; simp [hq]
  · rw [if_neg hq]; simp [hq]
theorem drop_len (R : Rows) (i : Int) : (drop R i).length ≤ R.length := List.length_filter_le _ _

set_option maxHeartbeats 4000000 in
theorem rdrop_any (g : Nat) (n : Int) (R : Rows) (i : Int) (hlen : R.length ≤ 64) (v : Value) (w : World) (ht : RAtV w g n R v) :
    Calls Try.prog 16 #[.pointer (some ⟨g, 0, none⟩), .int .i64 i] w fun e w' => e = .returned (.tuple #[]) ∧ RTo w w' g n (drop R i) v := by
  obtain ⟨hw, hown⟩ := ht
  have hr := Row.of_own hown
  obtain ⟨A, c, rfl, _, _⟩ := hr.slice
  obtain ⟨i0, hi, hz0, hz1, hz2⟩ := info_parts info_row
  have hlg := hw.lt
  have HW := Lib.hid hw
  have HR := Lib.hid hr
  have c1' := hw.cell 1
  clear hw hown hr c1'
  go_enter Try.func16, Try.ntmps16
  go_wp2_with fail
  go_loopw [4, 5] (fun lv iv wr => ∃ k : Nat, k ≤ R.length ∧ iv = .int .i64 k ∧ wr.ownsRow w.heap.size 63 2 lv (drop (R.take k) i).length ((drop (R.take k) i).flatMap rc) ∧ Below w.heap.size w wr) (fun _ iv _ => R.length - (intOf iv).toNat)
  case atStart => exact ⟨0, Nat.zero_le _, rfl, World.ownsRow_nil _ _ _ _, Below.refl _ _⟩
  case round =>
    obtain ⟨k, hk, rfl, hown, HB⟩ := hrel
    have zs := HB.size
    have hw := HW.out.below HB hlg
    have c1 := hw.cell 1
    have f1 := hw.free 1
    simp only [List.getElem?_cons_zero, List.getElem?_cons_succ] at c1
    have HW1 := Lib.hid hw
    have HO := Lib.hid hown
    clear hw hown
    by_cases hlt : k < R.length
    · have hri := HR.out
      obtain ⟨b, off, rfl, hb0, hx⟩ := hri.elem rc_len (by omega) hlt
      have x0 := (HB.cell (p := ⟨b, off + (k * 2 + 0), none⟩) hb0).trans (hx 0 _ rfl)
      have x1 := (HB.cell (p := ⟨b, off + (k * 2 + 1), none⟩) hb0).trans (hx 1 _ rfl)
      simp only [Nat.add_zero] at x0
      rw [← Nat.add_assoc] at x1
      have HS := Lib.hid (drop_snoc R i k hlt)
      have hdl := drop_len (R.take k) i
      rw [List.length_take] at hdl
      have HBB := Lib.hid HB
      clear hx hri HB
      generalize R[k] = p at *
      generalize hd : drop (R.take k) i = D at *
      have HD := Lib.hid hd
      clear hd
      by_cases hq : i < p.1
      · have HQ := Lib.hid hq
        go_wp2_with (at_builtin; refine wpList_append_row _ rfl (.tmp 25) (.tmp 33) _ rfl w.heap.size 63 i0 _ 2 16 Try.underlying59 hi hz0 hz1 hz2 rfl (by decide) _ D.length (D.flatMap rc) rfl (HO.out.alloc _) (wr.heap.size + 1) _ 1 [.int .i64 p.1, .int .u8 (p.2 : Nat)] rfl (Row.blk (Whole.new _ 63 [.int .i64 p.1, .int .u8 (p.2 : Nat)]) rfl (by omega) (by unfold maxLen; omega)) rfl (by intro u hu; simp only [List.mem_cons, List.not_mem_nil, or_false] at hu; rcases hu with rfl | rfl <;> rfl) (by unfold maxLen; omega) (by omega) (by simp; omega) ?_; intro v1 w1 hown1 hb1; have HO1 := Lib.hid hown1; have HB1 := Lib.hid hb1; clear hown1 hb1)
        go_roundw
        case rel =>
          refine ⟨k + 1, by omega, by go_num, ?_, (HBB.out.alloc zs _).trans HB1.out⟩
          rw [HS.out, if_pos HQ.out, List.length_append, List.flatMap_append]
          exact HO1.out
        case measure => simp [intOf]; omega
      · have HQ := Lib.hid hq
        have hq1 : p.1 ≤ i := by omega
        go_wp2_with fail
        go_roundw
        case rel =>
          refine ⟨k + 1, by omega, by go_num, ?_, HBB.out⟩
          rw [HS.out, if_neg HQ.out]
          exact HO.out
        case measure => simp [intOf]; omega
    · have e : k = R.length := by omega
      subst e
      have HBB := Lib.hid HB
      have HX := HO.out
      rw [List.take_length] at HX
      obtain ⟨A2, c2, rfl, _, _⟩ := (Row.of_own HX).slice
      have HX := Lib.hid HX
      clear HB HO
      go_wp2_with fail
      go_end0
      exact ⟨rfl, _, ⟨HW1.out.set 1 _, own_mono (ownsRow_setCell_below HX.out (a := ⟨g, 1, none⟩) hlg _) (by omega)⟩, (Foot.of_below HBB.out).set (p := ⟨g, 1, none⟩) (.inl (.inl rfl)) _, .inr fun k hk => (own_lt HX.out hk).1⟩

end Ta
end Go.Proofs.Ytmpcjiacgbcpdaa
