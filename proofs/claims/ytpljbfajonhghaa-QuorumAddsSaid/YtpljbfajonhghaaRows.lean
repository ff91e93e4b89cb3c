/-
  No cell of these rows narrows 'for every input' (looked for: loops, veiled, ifaces, maps, wideKeys, modest, calm, conditions, laid).
  DERIVED. THE GIVEN ROWS OF THIS SEAT. 5 by the template 'for every input the law returns true; each argument reads behind the call as it read before'; 0 by the template 'total and deterministic' (their statements: YtpljbfajonhghaaTotals.lean).
  GIVEN WITH THE SEED: the statements are not yours to turn. If you find one false, say at which input.
  Laid BY PROGRAM, IN A SANDBOX (cutbox-rows.mjs): the forced cells as the released guide's own fill.sh prints them over the translation c667e9e99feed250… (all of the seat's roots in one cut). By AI agents, Wed Nov 11 2026. No macro, syntax, notation, axiom, sorry.
-/
import Derived.Test.YtpljbfajonhghaaChecked
import GoSem.Claim
import GoSem.ClaimJoined
import GoSem.ClaimMapViews
import Derived.JoinedTies
import Derived.KernelRfl
namespace Go.Proofs.Ytpljbfajonhghaa
/- THE CELL 'sum', in the pinned program and in every row, IS THE sha256 OF THE DUMP (.gsa) THAT YtpljbfajonhghaaProg.lean LOADS. Nothing in Lean hashes anything: it is a label: what it is worth is what the hold of that sum in a sandbox is worth. -/
noncomputable def Try.pinned : Pinned := { name := "ytpljbfajonhghaa", sum := "c667e9e99feed2506ee1815bde1b5b03c4e966881fc9b3bf05727d9aaf9128de", checked := Try.checked }
namespace Rows
def none {H : Type} : Left H := { results := [], args := [] }

/-- 'sextonlaw15.QuorumMosts': WHATEVER THE INPUT: true; the input reads as it did. -/
def quorumMostsSpec : ChangeSpec := { name := "quorumMosts", fn := fun _ => fun
  | [d1, d2] => { results := [.lit (.bool true)], args := [d1, d2] }
  | _ => none }
def quorumMostsRow : OpenClaim := { program := "ytpljbfajonhghaa", sum := "c667e9e99feed2506ee1815bde1b5b03c4e966881fc9b3bf05727d9aaf9128de", func := "sexton/sextonlaw15.QuorumMosts", spec := "quorumMosts", unfollowed := true, recurses := true, apart := false }
def QuorumMostsSaid : Prop := quorumMostsRow.holds Try.pinned (OpenSpec.ofChange quorumMostsSpec)

/-- ITS FALSE NEIGHBOUR: 'it returns false'. Refute it at one input. -/
def quorumMostsWrong : ChangeSpec := { name := "quorumMosts", fn := fun _ => fun
  | [d1, d2] => { results := [.lit (.bool false)], args := [d1, d2] }
  | _ => none }
def QuorumMostsWrongFalsely : Prop := quorumMostsRow.holds Try.pinned (OpenSpec.ofChange quorumMostsWrong)

/-- 'sextonlaw15.QuorumMeet': WHATEVER THE INPUT: true; the input reads as it did. -/
def quorumMeetSpec : ChangeSpec := { name := "quorumMeet", fn := fun _ => fun
  | [d1, d2, d3] => { results := [.lit (.bool true)], args := [d1, d2, d3] }
  | _ => none }
def quorumMeetRow : OpenClaim := { program := "ytpljbfajonhghaa", sum := "c667e9e99feed2506ee1815bde1b5b03c4e966881fc9b3bf05727d9aaf9128de", func := "sexton/sextonlaw15.QuorumMeet", spec := "quorumMeet", unfollowed := true, recurses := true, apart := false }
def QuorumMeetSaid : Prop := quorumMeetRow.holds Try.pinned (OpenSpec.ofChange quorumMeetSpec)

/-- ITS FALSE NEIGHBOUR: 'it returns false'. Refute it at one input. -/
def quorumMeetWrong : ChangeSpec := { name := "quorumMeet", fn := fun _ => fun
  | [d1, d2, d3] => { results := [.lit (.bool false)], args := [d1, d2, d3] }
  | _ => none }
def QuorumMeetWrongFalsely : Prop := quorumMeetRow.holds Try.pinned (OpenSpec.ofChange quorumMeetWrong)

/-- 'sextonlaw15.QuorumLeast': WHATEVER THE INPUT: true; the input reads as it did. -/
def quorumLeastSpec : ChangeSpec := { name := "quorumLeast", fn := fun _ => fun
  | [d1, d2] => { results := [.lit (.bool true)], args := [d1, d2] }
  | _ => none }
def quorumLeastRow : OpenClaim := { program := "ytpljbfajonhghaa", sum := "c667e9e99feed2506ee1815bde1b5b03c4e966881fc9b3bf05727d9aaf9128de", func := "sexton/sextonlaw15.QuorumLeast", spec := "quorumLeast", unfollowed := true, recurses := true, apart := false }
def QuorumLeastSaid : Prop := quorumLeastRow.holds Try.pinned (OpenSpec.ofChange quorumLeastSpec)

/-- ITS FALSE NEIGHBOUR: 'it returns false'. Refute it at one input. -/
def quorumLeastWrong : ChangeSpec := { name := "quorumLeast", fn := fun _ => fun
  | [d1, d2] => { results := [.lit (.bool false)], args := [d1, d2] }
  | _ => none }
def QuorumLeastWrongFalsely : Prop := quorumLeastRow.holds Try.pinned (OpenSpec.ofChange quorumLeastWrong)

/-- 'sextonlaw15.QuorumOther': WHATEVER THE INPUT: true; the input reads as it did. -/
def quorumOtherSpec : ChangeSpec := { name := "quorumOther", fn := fun _ => fun
  | [d1, d2, d3] => { results := [.lit (.bool true)], args := [d1, d2, d3] }
  | _ => none }
def quorumOtherRow : OpenClaim := { program := "ytpljbfajonhghaa", sum := "c667e9e99feed2506ee1815bde1b5b03c4e966881fc9b3bf05727d9aaf9128de", func := "sexton/sextonlaw15.QuorumOther", spec := "quorumOther", unfollowed := true, recurses := true, apart := false }
def QuorumOtherSaid : Prop := quorumOtherRow.holds Try.pinned (OpenSpec.ofChange quorumOtherSpec)

/-- ITS FALSE NEIGHBOUR: 'it returns false'. Refute it at one input. -/
def quorumOtherWrong : ChangeSpec := { name := "quorumOther", fn := fun _ => fun
  | [d1, d2, d3] => { results := [.lit (.bool false)], args := [d1, d2, d3] }
  | _ => none }
def QuorumOtherWrongFalsely : Prop := quorumOtherRow.holds Try.pinned (OpenSpec.ofChange quorumOtherWrong)

/-- 'sextonlaw15.QuorumAdds': WHATEVER THE INPUT: true; the input reads as it did. -/
def quorumAddsSpec : ChangeSpec := { name := "quorumAdds", fn := fun _ => fun
  | [d1, d2, d3, d4] => { results := [.lit (.bool true)], args := [d1, d2, d3, d4] }
  | _ => none }
def quorumAddsRow : OpenClaim := { program := "ytpljbfajonhghaa", sum := "c667e9e99feed2506ee1815bde1b5b03c4e966881fc9b3bf05727d9aaf9128de", func := "sexton/sextonlaw15.QuorumAdds", spec := "quorumAdds", unfollowed := true, recurses := true, apart := false }
def QuorumAddsSaid : Prop := quorumAddsRow.holds Try.pinned (OpenSpec.ofChange quorumAddsSpec)

/-- ITS FALSE NEIGHBOUR: 'it returns false'. Refute it at one input. -/
def quorumAddsWrong : ChangeSpec := { name := "quorumAdds", fn := fun _ => fun
  | [d1, d2, d3, d4] => { results := [.lit (.bool false)], args := [d1, d2, d3, d4] }
  | _ => none }
def QuorumAddsWrongFalsely : Prop := quorumAddsRow.holds Try.pinned (OpenSpec.ofChange quorumAddsWrong)

/- THE SECOND FORM. 'bulk': how many values and letters a reading holds, each counted each time it is reached (what is shared counts as often as it is met; a slice's spare places count too). A statement '..UptoSaid' is the law's where the arguments, and the package variables that the reading takes, are together of bulk at most 1048576: NARROWER than '..Said'. Prove '..Said' where nothing that the law and all that it calls make is longer than what came in: it says more and counts as full. Else prove '..UptoSaid'. A law counts once. -/
mutual
def uptoBulk {H : Type} : DataW H → Nat
  | .lit (.string bytes) => bytes.length + 1
  | .lit _ => 1
  | .nil => 1
  | .ptr d => uptoBulk d + 1
  | .slice elems spare => uptoBulkAll elems + uptoBulkAll spare + 1
  | .agg parts => uptoBulkAll parts + 1
  | .iface _ d => uptoBulk d + 1
  | .map entries => uptoBulkEntries entries + 1
  | .held _ => 1
def uptoBulkAll {H : Type} : List (DataW H) → Nat
  | [] => 0
  | d :: r => uptoBulk d + uptoBulkAll r
def uptoBulkEntries {H : Type} : List (Lit × DataW H) → Nat
  | [] => 0
  | x :: r => uptoBulkEntry x + uptoBulkEntries r
def uptoBulkEntry {H : Type} : Lit × DataW H → Nat
  | (.string bytes, d) => bytes.length + uptoBulk d + 1
  | (_, d) => uptoBulk d + 1
 end
def uptoSmall : (H : Type) → List (DataW H) → Bool := fun _ ds => decide (uptoBulkAll ds ≤ 1048576)
def OpenSpec.upto (s : _root_.Go.ChangeSpec) : _root_.Go.OpenSpec := { _root_.Go.OpenSpec.ofChange s with cond := some uptoSmall }

/-- 'sextonlaw15.QuorumMosts', WHERE WHAT IT READS IS OF BULK AT MOST 1048576: true; the input reads as it did. -/
def quorumMostsUptoRow : OpenClaim := { program := "ytpljbfajonhghaa", sum := "c667e9e99feed2506ee1815bde1b5b03c4e966881fc9b3bf05727d9aaf9128de", func := "sexton/sextonlaw15.QuorumMosts", spec := "quorumMosts", unfollowed := true, recurses := true, apart := false, narrowed := true }
def QuorumMostsUptoSaid : Prop := quorumMostsUptoRow.holds Try.pinned (OpenSpec.upto quorumMostsSpec)

/-- 'sextonlaw15.QuorumMeet', WHERE WHAT IT READS IS OF BULK AT MOST 1048576: true; the input reads as it did. -/
def quorumMeetUptoRow : OpenClaim := { program := "ytpljbfajonhghaa", sum := "c667e9e99feed2506ee1815bde1b5b03c4e966881fc9b3bf05727d9aaf9128de", func := "sexton/sextonlaw15.QuorumMeet", spec := "quorumMeet", unfollowed := true, recurses := true, apart := false, narrowed := true }
def QuorumMeetUptoSaid : Prop := quorumMeetUptoRow.holds Try.pinned (OpenSpec.upto quorumMeetSpec)

/-- 'sextonlaw15.QuorumLeast', WHERE WHAT IT READS IS OF BULK AT MOST 1048576: true; the input reads as it did. -/
def quorumLeastUptoRow : OpenClaim := { program := "ytpljbfajonhghaa", sum := "c667e9e99feed2506ee1815bde1b5b03c4e966881fc9b3bf05727d9aaf9128de", func := "sexton/sextonlaw15.QuorumLeast", spec := "quorumLeast", unfollowed := true, recurses := true, apart := false, narrowed := true }
def QuorumLeastUptoSaid : Prop := quorumLeastUptoRow.holds Try.pinned (OpenSpec.upto quorumLeastSpec)

/-- 'sextonlaw15.QuorumOther', WHERE WHAT IT READS IS OF BULK AT MOST 1048576: true; the input reads as it did. -/
def quorumOtherUptoRow : OpenClaim := { program := "ytpljbfajonhghaa", sum := "c667e9e99feed2506ee1815bde1b5b03c4e966881fc9b3bf05727d9aaf9128de", func := "sexton/sextonlaw15.QuorumOther", spec := "quorumOther", unfollowed := true, recurses := true, apart := false, narrowed := true }
def QuorumOtherUptoSaid : Prop := quorumOtherUptoRow.holds Try.pinned (OpenSpec.upto quorumOtherSpec)

/-- 'sextonlaw15.QuorumAdds', WHERE WHAT IT READS IS OF BULK AT MOST 1048576: true; the input reads as it did. -/
def quorumAddsUptoRow : OpenClaim := { program := "ytpljbfajonhghaa", sum := "c667e9e99feed2506ee1815bde1b5b03c4e966881fc9b3bf05727d9aaf9128de", func := "sexton/sextonlaw15.QuorumAdds", spec := "quorumAdds", unfollowed := true, recurses := true, apart := false, narrowed := true }
def QuorumAddsUptoSaid : Prop := quorumAddsUptoRow.holds Try.pinned (OpenSpec.upto quorumAddsSpec)

end Rows
end Go.Proofs.Ytpljbfajonhghaa
