/- The replies of the law SessionOnce. -/
import Derived.Test.YthnolfgbpifcaaaSessionLaws
import Derived.Test.YthnolfgbpifcaaaMids
import Derived.Test.YthnolfgbpifcaaaSteps
import Derived.Laws.BytesArg
set_option linter.unusedSimpArgs false
set_option linter.unusedVariables false
namespace Go.Proofs.Ythnolfgbpifcaaa
open Go.RowKit

namespace Se

def repI (i : Nat) : Rp := ⟨(i : Int) % 3, ((i : Int) % 2 == 1), strOfNums [(i : Int) % 256, (i : Int) / 256]⟩
theorem rep_good (i : Nat) : badB (repI i) = false := by
  unfold badB repI
  have h : (strOfNums [(i : Int) % 256, (i : Int) / 256]).size = 2 := strOfNums_size _
  dsimp only
  rw [h, decide_eq_false (by omega), decide_eq_false (by omega)]
  rfl
set_option maxHeartbeats 1000000 in
theorem reply_any (i : Nat) (hi : i ≤ 300) (w : World) :
    Calls Try.prog 13 #[.int .i64 i] w fun e w' => e = .returned (.agg #[.int .i64 (repI i).err, .bool (repI i).found, .string (repI i).val]) ∧ Below w.heap.size w w' := by
  have H1 := wh1_2 w (.cells #[.int .i64 0, .bool false, .string { data := #[] }] 24) 5 [.int .u8 ((i : Int) % 256), .int .u8 ((i : Int) / 256)]
  have CV := run_convert_bytes_arg (P := Try.prog) _ 53 5 Try.underlying53 Try.underlying5 (w.heap.size + 1) 0 2 2 [(i : Int) % 256, (i : Int) / 256] rfl
    (fun j hj => by
      rw [Nat.zero_add, H1.cell j]
      rcases (by omega : j = 0 ∨ j = 1) with rfl | rfl <;> rfl) 9 Try.underlying9
  clear H1
  go_enter Try.func13, Try.ntmps13
  go_wp2_with fail
  have H0 := wh0_2 w 24 [.int .i64 ((i : Int) % 3), .bool ((i : Int) % 2 == 1), .string (strOfNums [(i : Int) % 256, (i : Int) / 256])] (.cells #[.int .u8 ((i : Int) % 256), .int .u8 ((i : Int) / 256)] 5)
  have c0 := H0.cell 0
  have c1 := H0.cell 1
  have c2 := H0.cell 2
  have f0 := H0.free 0
  have f1 := H0.free 1
  have f2 := H0.free 2
  simp only [List.getElem?_cons_zero, List.getElem?_cons_succ] at c0 c1 c2
  refine bodyPost_ret (v := .agg #[.int .i64 (repI i).err, .bool (repI i).found, .string (repI i).val]) (by simp [results, Try.results13, go_sem, c0, c1, c2, f0, f1, f2, repI]) rfl ⟨rfl, be2 _ _ _⟩

theorem ask_arg {t : Tb} {c s : Int} (h : argB t c s = true) : ask t c s = (false, ⟨0, false, { data := #[] }⟩, 2) := by unfold ask; rw [if_pos h]; rfl
theorem argB_ok {t : Tb} {c s : Int} (hm : mayB t = true) (h : 0 ≤ c ∧ c < 4 ∧ 1 ≤ s ∧ s ≤ 1099511627776) : argB t c s = false := by
  unfold argB
  rw [decide_eq_false (by omega), decide_eq_false (by omega), decide_eq_false (by omega), decide_eq_false (by omega), hm]; rfl
theorem argB_bad {t : Tb} {c s : Int} (h : c < 0 ∨ 4 ≤ c ∨ s < 1 ∨ 1099511627776 < s) : argB t c s = true := by
  cases e : argB t c s with
  | true => rfl
  | false => have := argB_false e; omega
theorem ask_new {t : Tb} {c s : Int} (h1 : argB t c s = false) (h3 : (t.at_ c).seq < s) : ask t c s = (true, ⟨0, false, { data := #[] }⟩, 0) := by
  unfold ask; rw [h1, if_neg (by simp), if_pos h3]; rfl
theorem ask_same {t : Tb} {c s : Int} (h1 : argB t c s = false) (h3 : (t.at_ c).seq = s) : ask t c s = (false, (t.at_ c).rep, 0) := by
  unfold ask; rw [h1, if_neg (by simp), if_neg (by omega), if_neg (by omega)]
theorem ask_past {t : Tb} {c s : Int} (h1 : argB t c s = false) (h3 : s < (t.at_ c).seq) : ask t c s = (false, ⟨0, false, { data := #[] }⟩, 220) := by
  unfold ask; rw [h1, if_neg (by simp), if_neg (by omega), if_pos h3]; rfl
theorem note_new {t : Tb} {c s : Int} {x : Rp} (h1 : argB t c s = false) (h2 : badB x = false) (h3 : (t.at_ c).seq < s) : note t c s x = (t.put c ⟨s, x⟩, 0) := by
  unfold note; rw [h1, h2, if_neg (by simp), if_pos h3]
theorem may_rows4 (t : Tb) : mayB t = true ↔ oddB t.r0 = false ∧ oddB t.r1 = false ∧ oddB t.r2 = false ∧ oddB t.r3 = false := by
  have h : mayB t = !(oddB t.r0 || (oddB t.r1 || (oddB t.r2 || (oddB t.r3 || false)))) := rfl
  rw [h]
  cases oddB t.r0 <;> cases oddB t.r1 <;> cases oddB t.r2 <;> cases oddB t.r3 <;> simp
theorem odd_good {s : Int} {x : Rp} (h1 : 1 ≤ s) (h2 : s ≤ 1099511627776) (hx : badB x = false) : oddB ⟨s, x⟩ = false := by
  have h : oddB ⟨s, x⟩ = (decide (s < 0) || decide (1099511627776 < s) || badB x) := by unfold oddB; rw [if_neg (by show ¬ s = 0; omega)]; first | done | exact rfl
  rw [h, hx, decide_eq_false (by omega), decide_eq_false (by omega)]; rfl
theorem may_set {t : Tb} {a : Int} {A : Rw} (ht : mayB t = true) (hA : oddB A = false) : mayB (t.put a A) = true := by
  rw [may_rows4] at ht ⊢
  obtain ⟨h0, h1, h2, h3⟩ := ht
  unfold Tb.put
  split
  · exact ⟨hA, h1, h2, h3⟩
  split
  · exact ⟨h0, hA, h2, h3⟩
  split
  · exact ⟨h0, h1, hA, h3⟩
  · exact ⟨h0, h1, h2, hA⟩
/-- The numbers that were last done; the replies that were told. -/
def lastC (t : Tb) : List Value := [.int .i64 t.r0.seq, .int .i64 t.r1.seq, .int .i64 t.r2.seq, .int .i64 t.r3.seq]
def toldC (t : Tb) : List Value := t.r0.rep.cells ++ t.r1.rep.cells ++ t.r2.rep.cells ++ t.r3.rep.cells
theorem four {k : Nat} (h : k < 4) : k = 0 ∨ k = 1 ∨ k = 2 ∨ k = 3 := by omega
theorem last_at (t : Tb) (k : Nat) (h : k < 4) : (lastC t)[k]? = some (.int .i64 (t.at_ k).seq) := by rcases four h with rfl | rfl | rfl | rfl <;> rfl
theorem told_at (t : Tb) (k : Nat) (h : k < 4) (j : Nat) (v : Value) (hv : (t.at_ k).rep.cells[j]? = some v) : (toldC t)[k * 3 + j]? = some v := by
  have hj : j < 3 := by obtain ⟨h, _⟩ := List.getElem?_eq_some_iff.1 hv; exact h
  rcases four h with rfl | rfl | rfl | rfl <;> rcases (by omega : j = 0 ∨ j = 1 ∨ j = 2) with rfl | rfl | rfl <;> exact hv
theorem last_set (t : Tb) (k : Nat) (h : k < 4) (r : Rw) : (lastC t).set k (.int .i64 r.seq) = lastC (t.put k r) := by rcases four h with rfl | rfl | rfl | rfl <;> rfl
theorem told_set (t : Tb) (k : Nat) (h : k < 4) (r : Rw) : midSets (toldC t) (k * 3) r.rep.cells = toldC (t.put k r) := by rcases four h with rfl | rfl | rfl | rfl <;> rfl
theorem told_set3 (t : Tb) (k : Nat) (h : k < 4) (r : Rw) : (((toldC t).set (k * 3) (.int .i64 r.rep.err)).set (k * 3 + 1) (.bool r.rep.found)).set (k * 3 + 2) (.string r.rep.val) = toldC (t.put k r) := by rcases four h with rfl | rfl | rfl | rfl <;> rfl

end Se
end Go.Proofs.Ythnolfgbpifcaaa
