/- What the program's functions on sessions return (package session), function by function. -/
import Derived.Test.YthnolfgbpifcaaaSessionPlain
import Derived.Test.YthnolfgbpifcaaaBlocks
import Derived.Test.YthnolfgbpifcaaaWords
import Derived.Test.YthnolfgbpifcaaaRows
import Derived.WalkKit
import Derived.WalkSpells
import Derived.WalkLawsBesides
import Derived.Deep.QuietTactic
import Derived.BigQuiet
namespace Go.Proofs.Ythnolfgbpifcaaa
open Go.RowKit

namespace Se

def Rp.cells (x : Rp) : List Value := [.int .i64 x.err, .bool x.found, .string x.val]
def Rw.cells (r : Rw) : List Value := [.int .i64 r.seq, .int .i64 r.rep.err, .bool r.rep.found, .string r.rep.val]
def Tb.cells (t : Tb) : List Value := t.r0.cells ++ t.r1.cells ++ t.r2.cells ++ t.r3.cells

set_option maxHeartbeats 400000 in
theorem bad_any (x : Rp) (w : World) :
    Calls Try.prog 14 #[.agg x.cells.toArray] w fun e w' => e = .returned (.bool (badB x)) ∧ Below w.heap.size w w' := by
  obtain ⟨e, f, s⟩ := x
  have hb : Hid (badB ⟨e, f, s⟩ = (decide (e < 0) || decide (999 < e) || decide (16 < s.size))) := rfl
  unfold Rp.cells
  by_cases h1 : e < 0
  · go_enter Try.func14, Try.ntmps14
    go_wp2
    go_ret
    refine ⟨by rw [hb.out]; simp [h1], (Below.refl _ _).alloc (Nat.le_refl _) _⟩
  by_cases h2 : 999 < e
  · go_enter Try.func14, Try.ntmps14
    go_wp2
    go_ret
    refine ⟨by rw [hb.out]; simp [h2], (Below.refl _ _).alloc (Nat.le_refl _) _⟩
  · go_enter Try.func14, Try.ntmps14
    go_wp2
    go_ret
    refine ⟨?_, (Below.refl _ _).alloc (Nat.le_refl _) _⟩
    rw [hb.out, decide_eq_false (by omega : ¬ e < 0), decide_eq_false (by omega : ¬ 999 < e)]
    simp
    omega

set_option maxHeartbeats 400000 in
theorem odd_any (r : Rw) (w : World) :
    Calls Try.prog 17 #[.agg r.cells.toArray] w fun e w' => e = .returned (.bool (oddB r)) ∧ Below w.heap.size w w' := by
  obtain ⟨q, e, f, s⟩ := r
  by_cases h0 : q = 0
  · subst h0
    have hb : Hid (oddB ⟨0, e, f, s⟩ = !(decide (e = 0) && !f && decide (s.toList = []))) := rfl
    unfold Rw.cells
    by_cases he : e = 0
    · subst he
      cases f
      · by_cases hs : s.toList = []
        · go_enter Try.func17, Try.ntmps17
          go_wp2
          go_ret
          exact ⟨by rw [hb.out]; simp [hs], (Below.refl _ _).alloc (Nat.le_refl _) _⟩
        · go_enter Try.func17, Try.ntmps17
          go_wp2
          go_ret
          exact ⟨by rw [hb.out]; simp [hs], (Below.refl _ _).alloc (Nat.le_refl _) _⟩
      · go_enter Try.func17, Try.ntmps17
        go_wp2
        go_ret
        exact ⟨by rw [hb.out]; simp, (Below.refl _ _).alloc (Nat.le_refl _) _⟩
    · go_enter Try.func17, Try.ntmps17
      go_wp2
      go_ret
      exact ⟨by rw [hb.out]; simp [he], (Below.refl _ _).alloc (Nat.le_refl _) _⟩
  · have hb : Hid (oddB ⟨q, e, f, s⟩ = (decide (q < 0) || decide (1099511627776 < q) || badB ⟨e, f, s⟩)) := by unfold oddB; rw [if_neg h0]; exact rfl
    have hq : (q == 0) = false := by simpa using h0
    clear h0
    have B1 := Lib.hid (bad_any ⟨e, f, s⟩)
    unfold Rw.cells
    by_cases h1 : q < 0
    · go_enter Try.func17, Try.ntmps17
      go_wp2
      go_ret
      exact ⟨by rw [hb.out, decide_eq_true h1]; simp, (Below.refl _ _).alloc (Nat.le_refl _) _⟩
    by_cases h2 : 1099511627776 < q
    · go_enter Try.func17, Try.ntmps17
      go_wp2
      go_ret
      exact ⟨by rw [hb.out, decide_eq_true h2]; simp, (Below.refl _ _).alloc (Nat.le_refl _) _⟩
    · go_enter Try.func17, Try.ntmps17
      go_wp2_with fail
      refine (B1.out _).mono ?_
      rintro e1 w1 ⟨rfl, hb1⟩
      go_wp2_with fail
      go_ret
      refine ⟨?_, ((Below.refl _ _).alloc (Nat.le_refl _) _).trans (hb1.mono (by simp))⟩
      rw [hb.out, decide_eq_false (by omega : ¬ q < 0), decide_eq_false (by omega : ¬ 1099511627776 < q)]
      simp

/-- The rows are cells of one block, from 'off' on. -/
def RowsAt (w : World) (b off : Nat) (rs : List Rw) : Prop := ∀ (i : Nat) (r : Rw), rs[i]? = some r → ∀ (j : Nat) (x : Value), r.cells[j]? = some x → w.cell? ⟨b, off + i * 4 + j, none⟩ = some x

set_option maxHeartbeats 1000000 in
theorem index_any (b off c : Nat) (rs : List Rw) (hlen : rs.length ≤ 1000) (w : World) (hb : b < w.heap.size) (hr : RowsAt w b off rs) :
    Calls Try.prog 19 #[.slice (some ⟨b, off, none⟩) rs.length c, .func (.func 17) #[] #[]] w fun e w' =>
      (∃ n : Int, e = .returned (.int .i64 n) ∧ decide (0 ≤ n) = rs.any oddB) ∧ Below w.heap.size w w' := by
  go_enter Try.func19, Try.ntmps19
  go_wp2_with fail
  have HR := Lib.hid hr; clear hr
  go_loopw [8] (fun i wr => ∃ k : Nat, k ≤ rs.length ∧ i = .int .i64 k ∧ (rs.take k).any oddB = false ∧ Below w.heap.size w wr) (fun i _ => rs.length - (intOf i).toNat)
  case atStart => exact ⟨0, Nat.zero_le _, rfl, by simp, Below.refl _ _⟩
  case round =>
    obtain ⟨k, hk, rfl, hno, hbr⟩ := hrel
    have Hno := Lib.hid hno; clear hno
    by_cases hlt : k < rs.length
    · have hc : ∀ (j : Nat) (x : Value), rs[k].cells[j]? = some x → wr.cell? ⟨b, off + k * 4 + j, none⟩ = some x := fun j x hx => (hbr.cell (p := ⟨b, off + k * 4 + j, none⟩) hb).trans (HR.out k rs[k] (List.getElem?_eq_getElem hlt) j x hx)
      have c0 := hc 0 _ rfl
      have c1 := hc 1 _ rfl
      have c2 := hc 2 _ rfl
      have c3 := hc 3 _ rfl
      clear hc
      simp only [Nat.add_zero] at c0
      have hnext : (rs.take (k + 1)).any oddB = oddB rs[k] := by
        rw [List.take_succ_eq_append_getElem hlt, List.any_append, Hno.out]; simp
      have hall : oddB rs[k] = true → rs.any oddB = true := fun h => List.any_eq_true.2 ⟨rs[k], List.getElem_mem hlt, h⟩
      have HN := Lib.hid hnext; clear hnext
      have HA := Lib.hid hall; clear hall
      have HO := @odd_any rs[k]
      cases ho : oddB rs[k]
      all_goals
        rw [ho] at HN HA HO
        clear ho
        have HO' := Lib.hid HO; clear HO
        go_wp2_with fail
        refine (HO'.out _).mono ?_
        rintro e1 w1 ⟨rfl, hb1⟩
        have hbr1 := hbr.trans (hb1.mono hbr.size)
        clear hb1
        go_wp2_with fail
      · exact ⟨⟨k + 1, by omega, by go_num, HN.out, hbr1⟩, by simp [intOf]; omega⟩
      · go_ret
        refine ⟨⟨k, rfl, ?_⟩, hbr1⟩
        rw [HA.out trivial]
        simp
    · have e : k = rs.length := by omega
      subst e
      go_wp2_with fail
      go_ret
      refine ⟨⟨-1, rfl, ?_⟩, hbr⟩
      have := Hno.out
      rw [List.take_length] at this
      rw [this]
      rfl

set_option maxHeartbeats 400000 in
theorem contains_any (b off c : Nat) (rs : List Rw) (hlen : rs.length ≤ 1000) (w : World) (hb : b < w.heap.size) (hr : RowsAt w b off rs) :
    Calls Try.prog 16 #[.slice (some ⟨b, off, none⟩) rs.length c, .func (.func 17) #[] #[]] w fun e w' =>
      e = .returned (.bool (rs.any oddB)) ∧ Below w.heap.size w w' := by
  have HI := Lib.hid (index_any b off c rs hlen w hb hr)
  clear hr
  go_enter Try.func16, Try.ntmps16
  go_wp2_with fail
  refine HI.out.mono ?_
  rintro e w1 ⟨⟨n, rfl, hn⟩, hb1⟩
  have HN := Lib.hid hn; clear hn
  go_wp2_with fail
  go_ret
  refine ⟨?_, hb1⟩
  rw [← HN.out]
  rfl

/-- Block b holds a table. -/
def IsTable (w : World) (b : Nat) (t : Tb) : Prop := Whole w b 26 t.cells

theorem Tb.cell_at (t : Tb) (i : Nat) (r : Rw) (hi : t.rows[i]? = some r) (j : Nat) (x : Value) (hj : r.cells[j]? = some x) : t.cells[0 + i * 4 + j]? = some x := by
  have hj4 : j < 4 := by obtain ⟨h, _⟩ := List.getElem?_eq_some_iff.1 hj; exact h
  obtain ⟨r0, r1, r2, r3⟩ := t
  have hi4 : i < 4 := by obtain ⟨h, _⟩ := List.getElem?_eq_some_iff.1 hi; exact h
  have hii : i = 0 ∨ i = 1 ∨ i = 2 ∨ i = 3 := by omega
  have hjj : j = 0 ∨ j = 1 ∨ j = 2 ∨ j = 3 := by omega
  rcases hii with rfl | rfl | rfl | rfl
  all_goals
    simp only [Tb.rows, List.getElem?_cons_zero, List.getElem?_cons_succ, Option.some.injEq] at hi
    subst hi
    rcases hjj with rfl | rfl | rfl | rfl <;> exact hj

set_option maxHeartbeats 400000 in
theorem may_any (t : Tb) (w : World) :
    Calls Try.prog 10 #[.agg t.cells.toArray] w fun e w' => e = .returned (.bool (mayB t)) ∧ Below w.heap.size w w' := by
  have hw := Whole.new w 28 t.cells
  have hr : RowsAt (w.alloc (.cells t.cells.toArray 28)) w.heap.size 0 t.rows := fun i r hi j x hj => (hw.cell _).trans (t.cell_at i r hi j x hj)
  have hlt := hw.lt
  have HC := Lib.hid (contains_any w.heap.size 0 4 t.rows (by show 4 ≤ 1000; omega) _ hlt hr)
  clear hr hw hlt
  go_enter Try.func10, Try.ntmps10
  go_wp2_with fail
  refine HC.out.mono ?_
  rintro e w1 ⟨rfl, hb1⟩
  go_wp2_with fail
  go_ret
  exact ⟨rfl, ((Below.refl _ _).alloc (Nat.le_refl _) _).trans (hb1.mono (by simp))⟩

end Se
end Go.Proofs.Ythnolfgbpifcaaa
