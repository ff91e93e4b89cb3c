/-
  No cell of these rows narrows 'for every input' (looked for: loops, veiled, ifaces, maps, wideKeys, modest, calm, conditions, laid).
  DERIVED. THE GIVEN ROWS OF THIS SEAT. 6 by the template 'for every input the law returns true; each argument reads behind the call as it read before'; 0 by the template 'total and deterministic' (their statements: YtilpclajkofgmaaTotals.lean).
  GIVEN WITH THE SEED: the statements are not yours to turn. If you find one false, say at which input.
  Laid BY PROGRAM, IN A SANDBOX (cutbox-rows.mjs): the forced cells as the released guide's own fill.sh prints them over the translation afbd0495f5c9cb2b… (all of the seat's roots in one cut). By AI agents, Wed Nov 11 2026. No macro, syntax, notation, axiom, sorry.
-/
import Derived.Test.YtilpclajkofgmaaChecked
import GoSem.Claim
import GoSem.ClaimJoined
import GoSem.ClaimMapViews
import Derived.JoinedTies
import Derived.KernelRfl
namespace Go.Proofs.Ytilpclajkofgmaa
/- THE CELL 'sum', in the pinned program and in every row, IS THE sha256 OF THE DUMP (.gsa) THAT YtilpclajkofgmaaProg.lean LOADS. Nothing in Lean hashes anything: it is a label: what it is worth is what the hold of that sum in a sandbox is worth. -/
noncomputable def Try.pinned : Pinned := { name := "ytilpclajkofgmaa", sum := "afbd0495f5c9cb2b570c27d56703829c7750cae43a781918e84aafd9624b3479", checked := Try.checked }
namespace Rows
def none {H : Type} : Left H := { results := [], args := [] }

/-- 'sextonlaw14.BallotOrders': WHATEVER THE INPUT: true; the input reads as it did. -/
def ballotOrdersSpec : ChangeSpec := { name := "ballotOrders", fn := fun _ => fun
  | [d1, d2, d3] => { results := [.lit (.bool true)], args := [d1, d2, d3] }
  | _ => none }
def ballotOrdersRow : OpenClaim := { program := "ytilpclajkofgmaa", sum := "afbd0495f5c9cb2b570c27d56703829c7750cae43a781918e84aafd9624b3479", func := "sexton/sextonlaw14.BallotOrders", spec := "ballotOrders", unfollowed := true, recurses := true, apart := false }
def BallotOrdersSaid : Prop := ballotOrdersRow.holds Try.pinned (OpenSpec.ofChange ballotOrdersSpec)

/-- ITS FALSE NEIGHBOUR: 'it returns false'. Refute it at one input. -/
def ballotOrdersWrong : ChangeSpec := { name := "ballotOrders", fn := fun _ => fun
  | [d1, d2, d3] => { results := [.lit (.bool false)], args := [d1, d2, d3] }
  | _ => none }
def BallotOrdersWrongFalsely : Prop := ballotOrdersRow.holds Try.pinned (OpenSpec.ofChange ballotOrdersWrong)

/-- 'sextonlaw14.BallotNexts': WHATEVER THE INPUT: true; the input reads as it did. -/
def ballotNextsSpec : ChangeSpec := { name := "ballotNexts", fn := fun _ => fun
  | [d1, d2, d3] => { results := [.lit (.bool true)], args := [d1, d2, d3] }
  | _ => none }
def ballotNextsRow : OpenClaim := { program := "ytilpclajkofgmaa", sum := "afbd0495f5c9cb2b570c27d56703829c7750cae43a781918e84aafd9624b3479", func := "sexton/sextonlaw14.BallotNexts", spec := "ballotNexts", apart := false }
def BallotNextsSaid : Prop := ballotNextsRow.holds Try.pinned (OpenSpec.ofChange ballotNextsSpec)

/-- ITS FALSE NEIGHBOUR: 'it returns false'. Refute it at one input. -/
def ballotNextsWrong : ChangeSpec := { name := "ballotNexts", fn := fun _ => fun
  | [d1, d2, d3] => { results := [.lit (.bool false)], args := [d1, d2, d3] }
  | _ => none }
def BallotNextsWrongFalsely : Prop := ballotNextsRow.holds Try.pinned (OpenSpec.ofChange ballotNextsWrong)

/-- 'sextonlaw14.BallotTotal': WHATEVER THE INPUT: true; the input reads as it did. -/
def ballotTotalSpec : ChangeSpec := { name := "ballotTotal", fn := fun _ => fun
  | [d1, d2, d3] => { results := [.lit (.bool true)], args := [d1, d2, d3] }
  | _ => none }
def ballotTotalRow : OpenClaim := { program := "ytilpclajkofgmaa", sum := "afbd0495f5c9cb2b570c27d56703829c7750cae43a781918e84aafd9624b3479", func := "sexton/sextonlaw14.BallotTotal", spec := "ballotTotal", unfollowed := true, recurses := true, apart := false }
def BallotTotalSaid : Prop := ballotTotalRow.holds Try.pinned (OpenSpec.ofChange ballotTotalSpec)

/-- ITS FALSE NEIGHBOUR: 'it returns false'. Refute it at one input. -/
def ballotTotalWrong : ChangeSpec := { name := "ballotTotal", fn := fun _ => fun
  | [d1, d2, d3] => { results := [.lit (.bool false)], args := [d1, d2, d3] }
  | _ => none }
def BallotTotalWrongFalsely : Prop := ballotTotalRow.holds Try.pinned (OpenSpec.ofChange ballotTotalWrong)

/-- 'sextonlaw14.BallotGreatest': WHATEVER THE INPUT: true; the input reads as it did. -/
def ballotGreatestSpec : ChangeSpec := { name := "ballotGreatest", fn := fun _ => fun
  | [d1, d2] => { results := [.lit (.bool true)], args := [d1, d2] }
  | _ => none }
def ballotGreatestRow : OpenClaim := { program := "ytilpclajkofgmaa", sum := "afbd0495f5c9cb2b570c27d56703829c7750cae43a781918e84aafd9624b3479", func := "sexton/sextonlaw14.BallotGreatest", spec := "ballotGreatest", unfollowed := true, recurses := true, apart := false }
def BallotGreatestSaid : Prop := ballotGreatestRow.holds Try.pinned (OpenSpec.ofChange ballotGreatestSpec)

/-- ITS FALSE NEIGHBOUR: 'it returns false'. Refute it at one input. -/
def ballotGreatestWrong : ChangeSpec := { name := "ballotGreatest", fn := fun _ => fun
  | [d1, d2] => { results := [.lit (.bool false)], args := [d1, d2] }
  | _ => none }
def BallotGreatestWrongFalsely : Prop := ballotGreatestRow.holds Try.pinned (OpenSpec.ofChange ballotGreatestWrong)

/-- 'sextonlaw14.BallotBehind': WHATEVER THE INPUT: true; the input reads as it did. -/
def ballotBehindSpec : ChangeSpec := { name := "ballotBehind", fn := fun _ => fun
  | [d1, d2, d3, d4] => { results := [.lit (.bool true)], args := [d1, d2, d3, d4] }
  | _ => none }
def ballotBehindRow : OpenClaim := { program := "ytilpclajkofgmaa", sum := "afbd0495f5c9cb2b570c27d56703829c7750cae43a781918e84aafd9624b3479", func := "sexton/sextonlaw14.BallotBehind", spec := "ballotBehind", unfollowed := true, recurses := true, apart := false }
def BallotBehindSaid : Prop := ballotBehindRow.holds Try.pinned (OpenSpec.ofChange ballotBehindSpec)

/-- ITS FALSE NEIGHBOUR: 'it returns false'. Refute it at one input. -/
def ballotBehindWrong : ChangeSpec := { name := "ballotBehind", fn := fun _ => fun
  | [d1, d2, d3, d4] => { results := [.lit (.bool false)], args := [d1, d2, d3, d4] }
  | _ => none }
def BallotBehindWrongFalsely : Prop := ballotBehindRow.holds Try.pinned (OpenSpec.ofChange ballotBehindWrong)

/-- 'sextonlaw14.BallotAgain': WHATEVER THE INPUT: true; the input reads as it did. -/
def ballotAgainSpec : ChangeSpec := { name := "ballotAgain", fn := fun _ => fun
  | [d1, d2] => { results := [.lit (.bool true)], args := [d1, d2] }
  | _ => none }
def ballotAgainRow : OpenClaim := { program := "ytilpclajkofgmaa", sum := "afbd0495f5c9cb2b570c27d56703829c7750cae43a781918e84aafd9624b3479", func := "sexton/sextonlaw14.BallotAgain", spec := "ballotAgain", unfollowed := true, recurses := true, apart := false }
def BallotAgainSaid : Prop := ballotAgainRow.holds Try.pinned (OpenSpec.ofChange ballotAgainSpec)

/-- ITS FALSE NEIGHBOUR: 'it returns false'. Refute it at one input. -/
def ballotAgainWrong : ChangeSpec := { name := "ballotAgain", fn := fun _ => fun
  | [d1, d2] => { results := [.lit (.bool false)], args := [d1, d2] }
  | _ => none }
def BallotAgainWrongFalsely : Prop := ballotAgainRow.holds Try.pinned (OpenSpec.ofChange ballotAgainWrong)

/- THE SECOND FORM. 'bulk': how many values and letters a reading holds, each counted each time it is reached (what is shared counts as often as it is met; a slice's spare places count too). A statement '..UptoSaid' is the law's where the arguments, and the package variables that the reading takes, are together of bulk at most 1048576: NARROWER than '..Said'. Prove '..Said' where nothing that the law and all that it calls make is longer than what came in: it says more and counts as full. Else prove '..UptoSaid'. A law counts once. -/
mutual
def uptoBulk {H : Type} : DataW H → Nat
  | .lit (.string bytes) => bytes.length + 1
  | .lit _ => 1
  | .nil => 1
  | .ptr d => uptoBulk d + 1
  | .slice elems spare => uptoBulkAll elems + uptoBulkAll spare + 1
  | .agg parts => uptoBulkAll parts + 1
  | .iface _ d => uptoBulk d + 1
  | .map entries => uptoBulkEntries entries + 1
  | .held _ => 1
def uptoBulkAll {H : Type} : List (DataW H) → Nat
  | [] => 0
  | d :: r => uptoBulk d + uptoBulkAll r
def uptoBulkEntries {H : Type} : List (Lit × DataW H) → Nat
  | [] => 0
  | x :: r => uptoBulkEntry x + uptoBulkEntries r
def uptoBulkEntry {H : Type} : Lit × DataW H → Nat
  | (.string bytes, d) => bytes.length + uptoBulk d + 1
  | (_, d) => uptoBulk d + 1
 end
def uptoSmall : (H : Type) → List (DataW H) → Bool := fun _ ds => decide (uptoBulkAll ds ≤ 1048576)
def OpenSpec.upto (s : _root_.Go.ChangeSpec) : _root_.Go.OpenSpec := { _root_.Go.OpenSpec.ofChange s with cond := some uptoSmall }

/-- 'sextonlaw14.BallotOrders', WHERE WHAT IT READS IS OF BULK AT MOST 1048576: true; the input reads as it did. -/
def ballotOrdersUptoRow : OpenClaim := { program := "ytilpclajkofgmaa", sum := "afbd0495f5c9cb2b570c27d56703829c7750cae43a781918e84aafd9624b3479", func := "sexton/sextonlaw14.BallotOrders", spec := "ballotOrders", unfollowed := true, recurses := true, apart := false, narrowed := true }
def BallotOrdersUptoSaid : Prop := ballotOrdersUptoRow.holds Try.pinned (OpenSpec.upto ballotOrdersSpec)

/-- 'sextonlaw14.BallotNexts', WHERE WHAT IT READS IS OF BULK AT MOST 1048576: true; the input reads as it did. -/
def ballotNextsUptoRow : OpenClaim := { program := "ytilpclajkofgmaa", sum := "afbd0495f5c9cb2b570c27d56703829c7750cae43a781918e84aafd9624b3479", func := "sexton/sextonlaw14.BallotNexts", spec := "ballotNexts", apart := false, narrowed := true }
def BallotNextsUptoSaid : Prop := ballotNextsUptoRow.holds Try.pinned (OpenSpec.upto ballotNextsSpec)

/-- 'sextonlaw14.BallotTotal', WHERE WHAT IT READS IS OF BULK AT MOST 1048576: true; the input reads as it did. -/
def ballotTotalUptoRow : OpenClaim := { program := "ytilpclajkofgmaa", sum := "afbd0495f5c9cb2b570c27d56703829c7750cae43a781918e84aafd9624b3479", func := "sexton/sextonlaw14.BallotTotal", spec := "ballotTotal", unfollowed := true, recurses := true, apart := false, narrowed := true }
def BallotTotalUptoSaid : Prop := ballotTotalUptoRow.holds Try.pinned (OpenSpec.upto ballotTotalSpec)

/-- 'sextonlaw14.BallotGreatest', WHERE WHAT IT READS IS OF BULK AT MOST 1048576: true; the input reads as it did. -/
def ballotGreatestUptoRow : OpenClaim := { program := "ytilpclajkofgmaa", sum := "afbd0495f5c9cb2b570c27d56703829c7750cae43a781918e84aafd9624b3479", func := "sexton/sextonlaw14.BallotGreatest", spec := "ballotGreatest", unfollowed := true, recurses := true, apart := false, narrowed := true }
def BallotGreatestUptoSaid : Prop := ballotGreatestUptoRow.holds Try.pinned (OpenSpec.upto ballotGreatestSpec)

/-- 'sextonlaw14.BallotBehind', WHERE WHAT IT READS IS OF BULK AT MOST 1048576: true; the input reads as it did. -/
def ballotBehindUptoRow : OpenClaim := { program := "ytilpclajkofgmaa", sum := "afbd0495f5c9cb2b570c27d56703829c7750cae43a781918e84aafd9624b3479", func := "sexton/sextonlaw14.BallotBehind", spec := "ballotBehind", unfollowed := true, recurses := true, apart := false, narrowed := true }
def BallotBehindUptoSaid : Prop := ballotBehindUptoRow.holds Try.pinned (OpenSpec.upto ballotBehindSpec)

/-- 'sextonlaw14.BallotAgain', WHERE WHAT IT READS IS OF BULK AT MOST 1048576: true; the input reads as it did. -/
def ballotAgainUptoRow : OpenClaim := { program := "ytilpclajkofgmaa", sum := "afbd0495f5c9cb2b570c27d56703829c7750cae43a781918e84aafd9624b3479", func := "sexton/sextonlaw14.BallotAgain", spec := "ballotAgain", unfollowed := true, recurses := true, apart := false, narrowed := true }
def BallotAgainUptoSaid : Prop := ballotAgainUptoRow.holds Try.pinned (OpenSpec.upto ballotAgainSpec)

end Rows
end Go.Proofs.Ytilpclajkofgmaa
