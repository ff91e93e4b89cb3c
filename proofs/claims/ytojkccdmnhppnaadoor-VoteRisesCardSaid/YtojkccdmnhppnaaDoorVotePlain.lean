/- What a replica promises and accepts, in plain Lean. Nothing of the program stands here. -/
import Derived.Test.YtojkccdmnhppnaaDoorBallotPlain
namespace Go.Proofs.YtojkccdmnhppnaaDoor

namespace Vo
open Bl

/-- What is promised behind a request, and whether it is b. -/
def promise (pr b : Ba) : Ba × Bool := if sameB b zeroBa || lessB b pr then (pr, false) else (b, true)
def badW (s i : Int) : Bool := decide (s < 0) || decide (1099511627776 < s) || decide (i < 1) || decide (1099511627776 < i)
/-- Where a slot is, and the error. -/
def whereZ (s i : Int) : Int × Int := if badW s i then (0, 2) else if i ≤ s then (0, 0) else if i - s ≤ 24 then (1, 0) else (2, 0)
def doneZ (a : Int) : Int := if a = 0 then 1 else if a = 1 then 3 else 2
/-- What is done of a request to accept, what is promised then, and the error. -/
def accept (pr : Ba) (s : Int) (b : Ba) (i : Int) : Int × Ba × Int :=
  if (whereZ s i).2 = 2 then (0, zeroBa, 2) else if (promise pr b).2 then (doneZ (whereZ s i).1, (promise pr b).1, 0) else (0, (promise pr b).1, 0)

theorem badW_false {s i : Int} : badW s i = false ↔ 0 ≤ s ∧ s ≤ 1099511627776 ∧ 1 ≤ i ∧ i ≤ 1099511627776 := by
  unfold badW
  simp only [Bool.or_eq_false_iff, decide_eq_false_iff_not]
  omega
theorem where_cases (s i : Int) : (badW s i = true ∧ whereZ s i = (0, 2)) ∨ (badW s i = false ∧ i ≤ s ∧ whereZ s i = (0, 0)) ∨ (badW s i = false ∧ s < i ∧ i - s ≤ 24 ∧ whereZ s i = (1, 0)) ∨ (badW s i = false ∧ s < i ∧ 24 < i - s ∧ whereZ s i = (2, 0)) := by
  unfold whereZ
  cases h : badW s i
  · by_cases h1 : i ≤ s
    · exact .inr (.inl ⟨rfl, h1, by rw [if_neg (by simp), if_pos h1]⟩)
    · by_cases h2 : i - s ≤ 24
      · exact .inr (.inr (.inl ⟨rfl, by omega, h2, by rw [if_neg (by simp), if_neg h1, if_pos h2]⟩))
      · exact .inr (.inr (.inr ⟨rfl, by omega, by omega, by rw [if_neg (by simp), if_neg h1, if_neg h2]⟩))
  · exact .inl ⟨rfl, by rw [if_pos rfl]⟩
theorem promise_cases (pr b : Ba) : (b = zeroBa ∧ promise pr b = (pr, false)) ∨ (b ≠ zeroBa ∧ lessB b pr = true ∧ promise pr b = (pr, false)) ∨ (b ≠ zeroBa ∧ lessB b pr = false ∧ promise pr b = (b, true)) := by
  unfold promise
  cases h : sameB b zeroBa
  · have hn := same_not.1 h
    cases h2 : lessB b pr
    · exact .inr (.inr ⟨hn, rfl, by simp⟩)
    · exact .inr (.inl ⟨hn, rfl, by simp⟩)
  · exact .inl ⟨same_iff.1 h, by simp⟩

end Vo
end Go.Proofs.YtojkccdmnhppnaaDoor
