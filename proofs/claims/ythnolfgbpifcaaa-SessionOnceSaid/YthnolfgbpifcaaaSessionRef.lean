/- What the document's functions on sessions return (package sextonref22). -/
import Derived.Test.YthnolfgbpifcaaaSessionNote
namespace Go.Proofs.Ythnolfgbpifcaaa
open Go.RowKit

namespace Se

set_option maxHeartbeats 400000 in
theorem rreply_any (x : Rp) (w : World) :
   Calls Try.prog 15 #[.agg x.cells.toArray] w fun e w' => e = .returned (.bool (!(badB x))) ∧ Below w.heap.size w w' := by
 obtain ⟨e, f, s⟩ := x
 have hb : Hid (badB ⟨e, f, s⟩ = (decide (e < 0) || decide (999 < e) || decide (16 < s.size))) := rfl
 unfold Rp.cells
 by_cases h1 : e < 0
 · go_enter Try.func15, Try.ntmps15
   go_wp2
   go_ret
   refine ⟨by rw [hb.out]; simp [h1], (Below.refl _ _).alloc (Nat.le_refl _) _⟩
 by_cases h2 : 999 < e
 · go_enter Try.func15, Try.ntmps15
   go_wp2
   go_ret
   refine ⟨by rw [hb.out]; simp [h2], (Below.refl _ _).alloc (Nat.le_refl _) _⟩
 · go_enter Try.func15, Try.ntmps15
   go_wp2
   go_ret
   refine ⟨?_, (Below.refl _ _).alloc (Nat.le_refl _) _⟩
   rw [hb.out, decide_eq_false (by omega : ¬ e < 0), decide_eq_false (by omega : ¬ 999 < e)]
   simp only [Bool.false_or, Ending.returned.injEq, Value.bool.injEq]
   by_cases hs : 16 < s.size
   · rw [decide_eq_true hs, decide_eq_false (by omega)]; rfl
   · rw [decide_eq_false hs, decide_eq_true (by omega)]; rfl

theorem odd_zero {q : Int} {x : Rp} (h : isZero x = true) : oddB ⟨q, x⟩ = (decide (q < 0) || decide (1099511627776 < q)) := by
  obtain ⟨e, f, s⟩ := x
  simp only [isZero, Bool.and_eq_true, decide_eq_true_eq, Bool.not_eq_true'] at h
  obtain ⟨⟨rfl, rfl⟩, hs⟩ := h
  have hz : badB ⟨0, false, s⟩ = false := by
    have : s.size = 0 := by
      rw [ByteArray.toList_eq] at hs
      have h : s.data.toList.length = 0 := by rw [hs]; rfl
      exact h
    simp [badB, this]
  have hi : isZero ⟨0, false, s⟩ = true := by simp [isZero, hs]
  unfold oddB
  by_cases h0 : q = 0
  · subst h0; rw [if_pos rfl, hi]; rfl
  · rw [if_neg h0, hz]; simp
theorem odd_not {q : Int} {x : Rp} (h : isZero x = false) : oddB ⟨q, x⟩ = (decide (q < 0) || decide (1099511627776 < q) || badB x || (q == 0)) := by
  unfold oddB
  by_cases h0 : q = 0
  · subst h0; rw [if_pos rfl]; simp [h]
  · rw [if_neg h0]; simp [h0]

set_option maxHeartbeats 4000000 in
theorem rmay_any (t : Tb) (w : World) :
    Calls Try.prog 11 #[.agg t.cells.toArray] w fun e w' => e = .returned (.bool (mayB t)) ∧ Below w.heap.size w w' := by
  have hT := Whole.new w 28 t.cells
  have hT := Lib.hid hT
  have hb := (Below.refl w.heap.size w).alloc (Nat.le_refl _) (.cells t.cells.toArray 28)
  go_enter Try.func11, Try.ntmps11
  go_wp2_with fail
  go_loopw [3] (fun i wr => ∃ k : Nat, k ≤ 4 ∧ i = .int .i64 k ∧ (t.rows.take k).any oddB = false ∧ Whole wr w.heap.size 28 t.cells ∧ Below w.heap.size w wr ∧ w.heap.size < wr.heap.size) (fun i _ => 4 - (intOf i).toNat)
  case atStart => exact ⟨0, by omega, rfl, by simp, hT.out, hb, by simp⟩
  case round =>
    obtain ⟨k, hk, rfl, hno, hTr, hbr, hszr⟩ := hrel
    clear hT hb
    have Hno := Lib.hid hno; clear hno
    have HT := Lib.hid hTr; clear hTr
    by_cases hlt : k < 4
    · have hc : ∀ (j : Nat) (x : Value), (t.at_ k).cells[j]? = some x → wr.cell? ⟨w.heap.size, k * 4 + j, none⟩ = some x := fun j x hx => (HT.out.cell _).trans ((congrArg (t.cells[·]?) (by omega)).trans (t.cell_at k _ (t.rows_at k hlt) j x hx))
      have c0 := hc 0 _ rfl
      have c1 := hc 1 _ rfl
      have c2 := hc 2 _ rfl
      have c3 := hc 3 _ rfl
      clear hc
      simp only [Nat.add_zero] at c0
      have hnext : (t.rows.take (k + 1)).any oddB = oddB (t.at_ k) := by
        have hl : k < t.rows.length := hlt
        have hg : t.rows[k] = t.at_ k := by
          have := t.rows_at k hlt
          rw [List.getElem?_eq_getElem hl] at this
          exact Option.some.inj this
        rw [List.take_succ_eq_append_getElem hl, List.any_append, Hno.out, hg]; simp
      have hall : oddB (t.at_ k) = true → mayB t = false := fun h => by
        have : t.rows.any oddB = true := List.any_eq_true.2 ⟨t.at_ k, List.mem_of_getElem? (t.rows_at k hlt), h⟩
        unfold mayB; rw [this]; rfl
      generalize t.at_ k = r at *
      obtain ⟨q, e, f, s⟩ := r
      simp only at c0 c1 c2 c3
      have HN := Lib.hid hnext; clear hnext
      have HA := Lib.hid hall; clear hall
      have HM := @rreply_any ⟨e, f, s⟩
      have key : ∀ (z : Bool), isZero ⟨e, f, s⟩ = z → z = z := fun _ _ => rfl
      clear key
      have hz : isZero ⟨e, f, s⟩ = (decide (e = 0) && !f && decide (s.toList = [])) := rfl
      by_cases hall0 : (decide (e = 0) && !f && decide (s.toList = [])) = true
      · rw [hall0] at hz
        have ho := odd_zero (q := q) hz
        rw [ho] at HN HA
        clear ho HM hz
        simp only [Bool.and_eq_true, decide_eq_true_eq, Bool.not_eq_true'] at hall0
        obtain ⟨⟨rfl, rfl⟩, hs⟩ := hall0
        have hb0 : badB ⟨0, false, s⟩ = false := by
          have hz0 : s.size = 0 := by
            have h : s.data.toList.length = 0 := by rw [← ByteArray.toList_eq, hs]; rfl
            exact h
          simp [badB, hz0]
        have HM := @rreply_any ⟨0, false, s⟩
        rw [hb0] at HM
        have HM := Lib.hid HM
        by_cases q1 : q < 0
        · go_wp2_with fail
          go_ret
          exact ⟨congrArg (fun b => Ending.returned (.bool b)) (HA.out (by simp [q1])).symm, hbr⟩
        by_cases q2 : 1099511627776 < q
        · go_wp2_with fail
          go_ret
          exact ⟨congrArg (fun b => Ending.returned (.bool b)) (HA.out (by simp [q2])).symm, hbr⟩
        have hnn : (t.rows.take (k + 1)).any oddB = false := HN.out.trans (by rw [decide_eq_false q1, decide_eq_false q2]; rfl)
        have HNN := Lib.hid hnn
        clear hnn HA HN
        cases q3 : (q == 0)
        all_goals
          go_wp2_with fail
          refine (HM.out _).mono ?_
          rintro e1 w1 ⟨rfl, hb1⟩
          have c0' := (hb1.cell (p := ⟨w.heap.size, k * 4, none⟩) hszr).trans c0
          have T1 := Lib.hid (HT.out.below hb1 hszr)
          have hs1 := hb1.size
          have hbr1 := hbr.trans (hb1.mono (by omega))
          clear hb1
          go_wp2_with fail
          exact ⟨⟨k + 1, by omega, by go_num, HNN.out, T1.out, hbr1, by omega⟩, by simp [intOf]; omega⟩
      · have hz' : isZero ⟨e, f, s⟩ = false := by rw [hz]; simpa using hall0
        have ho := odd_not (q := q) hz'
        rw [ho] at HN HA
        clear ho hz hz'
        have hcase : ((e == 0) = false) ∨ (e = 0 ∧ f = true) ∨ (e = 0 ∧ f = false ∧ (s.toList == []) = false) := by
          by_cases h1 : e = 0
          · cases f
            · refine .inr (.inr ⟨h1, rfl, ?_⟩)
              simp only [h1] at hall0
              simpa using hall0
            · exact .inr (.inl ⟨h1, rfl⟩)
          · exact .inl (by simpa using h1)
        clear hall0
        by_cases q1 : q < 0
        · rcases hcase with he | ⟨rfl, rfl⟩ | ⟨rfl, rfl, hs⟩
          all_goals
            go_wp2_with fail
            go_ret
            exact ⟨congrArg (fun b => Ending.returned (.bool b)) (HA.out (by simp [q1])).symm, hbr⟩
        by_cases q2 : 1099511627776 < q
        · rcases hcase with he | ⟨rfl, rfl⟩ | ⟨rfl, rfl, hs⟩
          all_goals
            go_wp2_with fail
            go_ret
            exact ⟨congrArg (fun b => Ending.returned (.bool b)) (HA.out (by simp [q2])).symm, hbr⟩
        cases hbd : badB ⟨e, f, s⟩
        · rw [hbd] at HM HN HA
          have HM := Lib.hid HM
          cases q3 : (q == 0)
          · have hnn : (t.rows.take (k + 1)).any oddB = false := HN.out.trans (by rw [decide_eq_false q1, decide_eq_false q2, q3]; rfl)
            have HNN := Lib.hid hnn
            clear hnn HA HN hbd
            rcases hcase with he | ⟨rfl, rfl⟩ | ⟨rfl, rfl, hs⟩
            all_goals
              go_wp2_with fail
              refine (HM.out _).mono ?_
              rintro e1 w1 ⟨rfl, hb1⟩
              have c0' := (hb1.cell (p := ⟨w.heap.size, k * 4, none⟩) hszr).trans c0
              have T1 := Lib.hid (HT.out.below hb1 hszr)
              have hs1 := hb1.size
              have hbr1 := hbr.trans (hb1.mono (by omega))
              clear hb1
              go_wp2_with fail
              exact ⟨⟨k + 1, by omega, by go_num, HNN.out, T1.out, hbr1, by omega⟩, by simp [intOf]; omega⟩
          · have hmm : mayB t = false := HA.out (by rw [q3]; simp)
            have HMM := Lib.hid hmm
            clear hmm HA HN hbd
            rcases hcase with he | ⟨rfl, rfl⟩ | ⟨rfl, rfl, hs⟩
            all_goals
              go_wp2_with fail
              refine (HM.out _).mono ?_
              rintro e1 w1 ⟨rfl, hb1⟩
              have c0' := (hb1.cell (p := ⟨w.heap.size, k * 4, none⟩) hszr).trans c0
              have hbr1 := hbr.trans (hb1.mono (by omega))
              clear hb1
              go_wp2_with fail
              go_ret
              exact ⟨congrArg (fun b => Ending.returned (.bool b)) HMM.out.symm, hbr1⟩
        · rw [hbd] at HM HN HA
          have HM := Lib.hid HM
          have hmm : mayB t = false := HA.out (by simp)
          have HMM := Lib.hid hmm
          clear hmm HA HN hbd
          rcases hcase with he | ⟨rfl, rfl⟩ | ⟨rfl, rfl, hs⟩
          all_goals
            go_wp2_with fail
            refine (HM.out _).mono ?_
            rintro e1 w1 ⟨rfl, hb1⟩
            have c0' := (hb1.cell (p := ⟨w.heap.size, k * 4, none⟩) hszr).trans c0
            have hbr1 := hbr.trans (hb1.mono (by omega))
            clear hb1
            go_wp2_with fail
            go_ret
            exact ⟨congrArg (fun b => Ending.returned (.bool b)) HMM.out.symm, hbr1⟩
    · have e : k = 4 := by omega
      subst e
      go_wp2_with fail
      go_ret
      refine ⟨?_, hbr⟩
      have := Hno.out
      rw [List.take_of_length_le (by show 4 ≤ 4; omega)] at this
      unfold mayB
      rw [this]
      rfl

end Se
end Go.Proofs.Ythnolfgbpifcaaa
