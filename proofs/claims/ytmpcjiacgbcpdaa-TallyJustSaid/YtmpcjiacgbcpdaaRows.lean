/-
  No cell of these rows narrows 'for every input' (looked for: loops, veiled, ifaces, maps, wideKeys, modest, calm, conditions, laid).
  DERIVED. THE GIVEN ROWS OF THIS SEAT. 6 by the template 'for every input the law returns true; each argument reads behind the call as it read before'; 0 by the template 'total and deterministic' (their statements: YtmpcjiacgbcpdaaTotals.lean).
  GIVEN WITH THE SEED: the statements are not yours to turn. If you find one false, say at which input.
  Laid BY PROGRAM, IN A SANDBOX (cutbox-rows.mjs): the forced cells as the released guide's own fill.sh prints them over the translation 8df727084111cbf5… (all of the seat's roots in one cut). By AI agents, Wed Nov 11 2026. No macro, syntax, notation, axiom, sorry.
-/
import Derived.Test.YtmpcjiacgbcpdaaChecked
import GoSem.Claim
import GoSem.ClaimJoined
import GoSem.ClaimMapViews
import Derived.JoinedTies
import Derived.KernelRfl
namespace Go.Proofs.Ytmpcjiacgbcpdaa
/- THE CELL 'sum', in the pinned program and in every row, IS THE sha256 OF THE DUMP (.gsa) THAT YtmpcjiacgbcpdaaProg.lean LOADS. Nothing in Lean hashes anything: it is a label: what it is worth is what the hold of that sum in a sandbox is worth. -/
noncomputable def Try.pinned : Pinned := { name := "ytmpcjiacgbcpdaa", sum := "8df727084111cbf538b73092aa42c4fc39fbf6d7c2567239b501c7f562bc453a", checked := Try.checked }
namespace Rows
def none {H : Type} : Left H := { results := [], args := [] }

/-- 'sextonlaw18.TallyNil': WHATEVER THE INPUT: true; the input reads as it did. -/
def tallyNilSpec : ChangeSpec := { name := "tallyNil", fn := fun _ => fun
  | [d1, d2] => { results := [.lit (.bool true)], args := [d1, d2] }
  | _ => none }
def tallyNilRow : OpenClaim := { program := "ytmpcjiacgbcpdaa", sum := "8df727084111cbf538b73092aa42c4fc39fbf6d7c2567239b501c7f562bc453a", func := "sexton/sextonlaw18.TallyNil", spec := "tallyNil", unfollowed := true, recurses := true, apart := false }
def TallyNilSaid : Prop := tallyNilRow.holds Try.pinned (OpenSpec.ofChange tallyNilSpec)

/-- ITS FALSE NEIGHBOUR: 'it returns false'. Refute it at one input. -/
def tallyNilWrong : ChangeSpec := { name := "tallyNil", fn := fun _ => fun
  | [d1, d2] => { results := [.lit (.bool false)], args := [d1, d2] }
  | _ => none }
def TallyNilWrongFalsely : Prop := tallyNilRow.holds Try.pinned (OpenSpec.ofChange tallyNilWrong)

/-- 'sextonlaw18.TallyPlays': WHATEVER THE INPUT: true; the input reads as it did. -/
def tallyPlaysSpec : ChangeSpec := { name := "tallyPlays", fn := fun _ => fun
  | [d1, d2] => { results := [.lit (.bool true)], args := [d1, d2] }
  | _ => none }
def tallyPlaysRow : OpenClaim := { program := "ytmpcjiacgbcpdaa", sum := "8df727084111cbf538b73092aa42c4fc39fbf6d7c2567239b501c7f562bc453a", func := "sexton/sextonlaw18.TallyPlays", spec := "tallyPlays", unfollowed := true, recurses := true, apart := false }
def TallyPlaysSaid : Prop := tallyPlaysRow.holds Try.pinned (OpenSpec.ofChange tallyPlaysSpec)

/-- ITS FALSE NEIGHBOUR: 'it returns false'. Refute it at one input. -/
def tallyPlaysWrong : ChangeSpec := { name := "tallyPlays", fn := fun _ => fun
  | [d1, d2] => { results := [.lit (.bool false)], args := [d1, d2] }
  | _ => none }
def TallyPlaysWrongFalsely : Prop := tallyPlaysRow.holds Try.pinned (OpenSpec.ofChange tallyPlaysWrong)

/-- 'sextonlaw18.TallyJust': WHATEVER THE INPUT: true; the input reads as it did. -/
def tallyJustSpec : ChangeSpec := { name := "tallyJust", fn := fun _ => fun
  | [d1, d2, d3] => { results := [.lit (.bool true)], args := [d1, d2, d3] }
  | _ => none }
def tallyJustRow : OpenClaim := { program := "ytmpcjiacgbcpdaa", sum := "8df727084111cbf538b73092aa42c4fc39fbf6d7c2567239b501c7f562bc453a", func := "sexton/sextonlaw18.TallyJust", spec := "tallyJust", unfollowed := true, recurses := true, apart := false }
def TallyJustSaid : Prop := tallyJustRow.holds Try.pinned (OpenSpec.ofChange tallyJustSpec)

/-- ITS FALSE NEIGHBOUR: 'it returns false'. Refute it at one input. -/
def tallyJustWrong : ChangeSpec := { name := "tallyJust", fn := fun _ => fun
  | [d1, d2, d3] => { results := [.lit (.bool false)], args := [d1, d2, d3] }
  | _ => none }
def TallyJustWrongFalsely : Prop := tallyJustRow.holds Try.pinned (OpenSpec.ofChange tallyJustWrong)

/-- 'sextonlaw18.TallyOrder': WHATEVER THE INPUT: true; the input reads as it did. -/
def tallyOrderSpec : ChangeSpec := { name := "tallyOrder", fn := fun _ => fun
  | [d1, d2, d3] => { results := [.lit (.bool true)], args := [d1, d2, d3] }
  | _ => none }
def tallyOrderRow : OpenClaim := { program := "ytmpcjiacgbcpdaa", sum := "8df727084111cbf538b73092aa42c4fc39fbf6d7c2567239b501c7f562bc453a", func := "sexton/sextonlaw18.TallyOrder", spec := "tallyOrder", unfollowed := true, recurses := true, apart := false }
def TallyOrderSaid : Prop := tallyOrderRow.holds Try.pinned (OpenSpec.ofChange tallyOrderSpec)

/-- ITS FALSE NEIGHBOUR: 'it returns false'. Refute it at one input. -/
def tallyOrderWrong : ChangeSpec := { name := "tallyOrder", fn := fun _ => fun
  | [d1, d2, d3] => { results := [.lit (.bool false)], args := [d1, d2, d3] }
  | _ => none }
def TallyOrderWrongFalsely : Prop := tallyOrderRow.holds Try.pinned (OpenSpec.ofChange tallyOrderWrong)

/-- 'sextonlaw18.TallyMore': WHATEVER THE INPUT: true; the input reads as it did. -/
def tallyMoreSpec : ChangeSpec := { name := "tallyMore", fn := fun _ => fun
  | [d1, d2, d3, d4] => { results := [.lit (.bool true)], args := [d1, d2, d3, d4] }
  | _ => none }
def tallyMoreRow : OpenClaim := { program := "ytmpcjiacgbcpdaa", sum := "8df727084111cbf538b73092aa42c4fc39fbf6d7c2567239b501c7f562bc453a", func := "sexton/sextonlaw18.TallyMore", spec := "tallyMore", unfollowed := true, recurses := true, apart := false }
def TallyMoreSaid : Prop := tallyMoreRow.holds Try.pinned (OpenSpec.ofChange tallyMoreSpec)

/-- ITS FALSE NEIGHBOUR: 'it returns false'. Refute it at one input. -/
def tallyMoreWrong : ChangeSpec := { name := "tallyMore", fn := fun _ => fun
  | [d1, d2, d3, d4] => { results := [.lit (.bool false)], args := [d1, d2, d3, d4] }
  | _ => none }
def TallyMoreWrongFalsely : Prop := tallyMoreRow.holds Try.pinned (OpenSpec.ofChange tallyMoreWrong)

/-- 'sextonlaw18.TallyFull': WHATEVER THE INPUT: true; the input reads as it did. -/
def tallyFullSpec : ChangeSpec := { name := "tallyFull", fn := fun _ => fun
  | [d] => { results := [.lit (.bool true)], args := [d] }
  | _ => none }
def tallyFullRow : OpenClaim := { program := "ytmpcjiacgbcpdaa", sum := "8df727084111cbf538b73092aa42c4fc39fbf6d7c2567239b501c7f562bc453a", func := "sexton/sextonlaw18.TallyFull", spec := "tallyFull", unfollowed := true, recurses := true, apart := false }
def TallyFullSaid : Prop := tallyFullRow.holds Try.pinned (OpenSpec.ofChange tallyFullSpec)

/-- ITS FALSE NEIGHBOUR: 'it returns false'. Refute it at one input. -/
def tallyFullWrong : ChangeSpec := { name := "tallyFull", fn := fun _ => fun
  | [d] => { results := [.lit (.bool false)], args := [d] }
  | _ => none }
def TallyFullWrongFalsely : Prop := tallyFullRow.holds Try.pinned (OpenSpec.ofChange tallyFullWrong)

/- THE SECOND FORM. 'bulk': how many values and letters a reading holds, each counted each time it is reached (what is shared counts as often as it is met; a slice's spare places count too). A statement '..UptoSaid' is the law's where the arguments, and the package variables that the reading takes, are together of bulk at most 1048576: NARROWER than '..Said'. Prove '..Said' where nothing that the law and all that it calls make is longer than what came in: it says more and counts as full. Else prove '..UptoSaid'. A law counts once. -/
mutual
def uptoBulk {H : Type} : DataW H → Nat
  | .lit (.string bytes) => bytes.length + 1
  | .lit _ => 1
  | .nil => 1
  | .ptr d => uptoBulk d + 1
  | .slice elems spare => uptoBulkAll elems + uptoBulkAll spare + 1
  | .agg parts => uptoBulkAll parts + 1
  | .iface _ d => uptoBulk d + 1
  | .map entries => uptoBulkEntries entries + 1
  | .held _ => 1
def uptoBulkAll {H : Type} : List (DataW H) → Nat
  | [] => 0
  | d :: r => uptoBulk d + uptoBulkAll r
def uptoBulkEntries {H : Type} : List (Lit × DataW H) → Nat
  | [] => 0
  | x :: r => uptoBulkEntry x + uptoBulkEntries r
def uptoBulkEntry {H : Type} : Lit × DataW H → Nat
  | (.string bytes, d) => bytes.length + uptoBulk d + 1
  | (_, d) => uptoBulk d + 1
 end
def uptoSmall : (H : Type) → List (DataW H) → Bool := fun _ ds => decide (uptoBulkAll ds ≤ 1048576)
def OpenSpec.upto (s : _root_.Go.ChangeSpec) : _root_.Go.OpenSpec := { _root_.Go.OpenSpec.ofChange s with cond := some uptoSmall }

/-- 'sextonlaw18.TallyNil', WHERE WHAT IT READS IS OF BULK AT MOST 1048576: true; the input reads as it did. -/
def tallyNilUptoRow : OpenClaim := { program := "ytmpcjiacgbcpdaa", sum := "8df727084111cbf538b73092aa42c4fc39fbf6d7c2567239b501c7f562bc453a", func := "sexton/sextonlaw18.TallyNil", spec := "tallyNil", unfollowed := true, recurses := true, apart := false, narrowed := true }
def TallyNilUptoSaid : Prop := tallyNilUptoRow.holds Try.pinned (OpenSpec.upto tallyNilSpec)

/-- 'sextonlaw18.TallyPlays', WHERE WHAT IT READS IS OF BULK AT MOST 1048576: true; the input reads as it did. -/
def tallyPlaysUptoRow : OpenClaim := { program := "ytmpcjiacgbcpdaa", sum := "8df727084111cbf538b73092aa42c4fc39fbf6d7c2567239b501c7f562bc453a", func := "sexton/sextonlaw18.TallyPlays", spec := "tallyPlays", unfollowed := true, recurses := true, apart := false, narrowed := true }
def TallyPlaysUptoSaid : Prop := tallyPlaysUptoRow.holds Try.pinned (OpenSpec.upto tallyPlaysSpec)

/-- 'sextonlaw18.TallyJust', WHERE WHAT IT READS IS OF BULK AT MOST 1048576: true; the input reads as it did. -/
def tallyJustUptoRow : OpenClaim := { program := "ytmpcjiacgbcpdaa", sum := "8df727084111cbf538b73092aa42c4fc39fbf6d7c2567239b501c7f562bc453a", func := "sexton/sextonlaw18.TallyJust", spec := "tallyJust", unfollowed := true, recurses := true, apart := false, narrowed := true }
def TallyJustUptoSaid : Prop := tallyJustUptoRow.holds Try.pinned (OpenSpec.upto tallyJustSpec)

/-- 'sextonlaw18.TallyOrder', WHERE WHAT IT READS IS OF BULK AT MOST 1048576: true; the input reads as it did. -/
def tallyOrderUptoRow : OpenClaim := { program := "ytmpcjiacgbcpdaa", sum := "8df727084111cbf538b73092aa42c4fc39fbf6d7c2567239b501c7f562bc453a", func := "sexton/sextonlaw18.TallyOrder", spec := "tallyOrder", unfollowed := true, recurses := true, apart := false, narrowed := true }
def TallyOrderUptoSaid : Prop := tallyOrderUptoRow.holds Try.pinned (OpenSpec.upto tallyOrderSpec)

/-- 'sextonlaw18.TallyMore', WHERE WHAT IT READS IS OF BULK AT MOST 1048576: true; the input reads as it did. -/
def tallyMoreUptoRow : OpenClaim := { program := "ytmpcjiacgbcpdaa", sum := "8df727084111cbf538b73092aa42c4fc39fbf6d7c2567239b501c7f562bc453a", func := "sexton/sextonlaw18.TallyMore", spec := "tallyMore", unfollowed := true, recurses := true, apart := false, narrowed := true }
def TallyMoreUptoSaid : Prop := tallyMoreUptoRow.holds Try.pinned (OpenSpec.upto tallyMoreSpec)

/-- 'sextonlaw18.TallyFull', WHERE WHAT IT READS IS OF BULK AT MOST 1048576: true; the input reads as it did. -/
def tallyFullUptoRow : OpenClaim := { program := "ytmpcjiacgbcpdaa", sum := "8df727084111cbf538b73092aa42c4fc39fbf6d7c2567239b501c7f562bc453a", func := "sexton/sextonlaw18.TallyFull", spec := "tallyFull", unfollowed := true, recurses := true, apart := false, narrowed := true }
def TallyFullUptoSaid : Prop := tallyFullUptoRow.holds Try.pinned (OpenSpec.upto tallyFullSpec)

end Rows
end Go.Proofs.Ytmpcjiacgbcpdaa
