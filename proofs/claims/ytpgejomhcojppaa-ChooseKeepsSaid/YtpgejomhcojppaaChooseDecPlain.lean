/- What may be proposed, in plain Lean: as the program goes. -/
import Derived.Test.YtpgejomhcojppaaChooseBallots
import Derived.Test.YtpgejomhcojppaaQuorumWalks
set_option linter.unusedSimpArgs false
set_option linter.unusedVariables false
namespace Go.Proofs.Ytpgejomhcojppaa
open Go.RowKit
namespace Ch
open Bl Qm
/-- The loop over the ballots: nothing: it breaks off. -/
def loopP (most : Int) (I X : List Rp) : Int → List Ba → Option (Nat × En)
  | _, [] => some (1, noopEn)
  | many, b :: r => if firstB b I then some (2, firstE b I) else if most ≤ many + (byB b X).length then none else loopP most I X (many + (byB b X).length) r
theorem loopP_nil (most : Int) (I X : List Rp) (m : Int) : loopP most I X m [] = some (1, noopEn) := rfl
theorem loopP_cons (most : Int) (I X : List Rp) (m : Int) (b : Ba) (r : List Ba) : loopP most I X m (b :: r) = if firstB b I then some (2, firstE b I) else if most ≤ m + (byB b X).length then none else loopP most I X (m + (byB b X).length) r := rfl
/-- Behind the loop. -/
def restP (L : List Rp) : Nat × En × Int :=
  if 0 < (only [0] L).length then (0, zeroEn, 0)
  else match ballots (only [2] L) with
    | [] => (1, noopEn, 0)
    | b :: _ => (2, firstE b (only [2] L), 0)
def decW (n : Int) (L : List Rp) : Nat × En × Int :=
  if mostN n = 0 ∨ (L.length : Int) ≠ n ∨ ((only [0, 1, 2, 3, 4] L).length : Int) ≠ n then (0, zeroEn, 2)
  else match (if (mostN n : Int) ≤ n - (only [0, 4] L).length then loopP (mostN n) (only [2] L) (only [3] L) (only [0, 4] L).length (ballots (only [2, 3] L)) else none) with
    | some (k, e) => (k, e, 0)
    | none => restP L
theorem only_le (S : List Nat) (L : List Rp) : (only S L).length ≤ L.length := List.length_filter_le _ _
theorem byB_le (b : Ba) (L : List Rp) : (byB b L).length ≤ L.length := List.length_filter_le _ _
theorem ballots_le (L : List Rp) : (ballots L).length ≤ L.length := by
  unfold ballots
  have h1 := ddN_le (sortD (L.map (·.b))) (sortD (L.map (·.b))).length
  have h2 : (sortD (L.map (·.b))).length = L.length := ((sortD_perm _).length_eq).trans (List.length_map ..)
  show (ddN _ _).length ≤ _
  omega
def lenOf : Value → Nat
  | .slice _ n _ => n
  | _ => 0
end Ch
end Go.Proofs.Ytpgejomhcojppaa
