/- Plain: what is noted depends on the pairs that are there, not on their order or number. -/
import Derived.Test.YtmpcjiacgbcpdaaTallyMorePlain
set_option linter.unusedSimpArgs false
set_option linter.unusedVariables false
namespace Go.Proofs.Ytmpcjiacgbcpdaa
open Go.RowKit
open Qm

namespace Ta

theorem bit_list : ∀ (l : Pairs) (R : Rows) (j : Int) (b : Nat), (setOf (noteL R l) j).testBit b = ((setOf R j).testBit b || l.any fun p => decide (p.1 = j) && (oneN p.2).testBit b)
  | [], R, j, b => by simp [noteL]
  | p :: l, R, j, b => by
    have ih := bit_list l (noteR R p) j b
    show (setOf (noteL (noteR R p) l) j).testBit b = _
    rw [ih]
    unfold noteR
    rw [set_put, List.any_cons]
    by_cases e : j = p.1
    · subst e
      rw [if_pos rfl]
      unfold addN
      rw [Nat.testBit_or]
      simp [Bool.or_assoc]
    · rw [if_neg e]
      have e' : ¬ p.1 = j := fun h => e h.symm
      simp [e']
theorem set_same {l m : Pairs} (h : ∀ p, p ∈ l ↔ p ∈ m) (j : Int) : setOf (noteL [] l) j = setOf (noteL [] m) j := by
  apply Nat.eq_of_testBit_eq
  intro b
  rw [bit_list, bit_list]
  congr 1
  rw [Bool.eq_iff_iff, List.any_eq_true, List.any_eq_true]
  constructor
  · rintro ⟨p, hp, q⟩; exact ⟨p, (h p).1 hp, q⟩
  · rintro ⟨p, hp, q⟩; exact ⟨p, (h p).2 hp, q⟩
theorem upto_same {R S : Rows} {n f u v : Int} (h : ∀ j, setOf R j = setOf S j) (hu : UptoIs R n f u) (hv : UptoIs S n f v) : u = v := by
  have : UptoIs R n f v := ⟨hv.1, fun j a b => by rw [h]; exact hv.2.1 j a b, by rw [h]; exact hv.2.2⟩
  exact hu.one this

end Ta
end Go.Proofs.Ytmpcjiacgbcpdaa
