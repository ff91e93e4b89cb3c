/-
  No cell of these rows narrows 'for every input' (looked for: loops, veiled, ifaces, maps, wideKeys, modest, calm, conditions, laid).
  DERIVED. THE GIVEN ROWS OF THIS SEAT. 5 by the template 'for every input the law returns true; each argument reads behind the call as it read before'; 0 by the template 'total and deterministic' (their statements: YtgjcenmjjjkigaaTotals.lean).
  GIVEN WITH THE SEED: the statements are not yours to turn. If you find one false, say at which input.
  Laid BY PROGRAM, IN A SANDBOX (cutbox-rows.mjs): the forced cells as the released guide's own fill.sh prints them over the translation 5cc3b26b24e8a04a… (all of the seat's roots in one cut). By AI agents, Wed Nov 11 2026. No macro, syntax, notation, axiom, sorry.
-/
import Derived.Test.YtgjcenmjjjkigaaChecked
import GoSem.Claim
import GoSem.ClaimJoined
import GoSem.ClaimMapViews
import Derived.JoinedTies
import Derived.KernelRfl
namespace Go.Proofs.Ytgjcenmjjjkigaa
/- THE CELL 'sum', in the pinned program and in every row, IS THE sha256 OF THE DUMP (.gsa) THAT YtgjcenmjjjkigaaProg.lean LOADS. Nothing in Lean hashes anything: it is a label: what it is worth is what the hold of that sum in a sandbox is worth. -/
noncomputable def Try.pinned : Pinned := { name := "ytgjcenmjjjkigaa", sum := "5cc3b26b24e8a04a96598e7a3fa56fd6aeba286c56c72c08013a21fcfa74566b", checked := Try.checked }
namespace Rows
def none {H : Type} : Left H := { results := [], args := [] }

/-- 'sextonlaw19.ClockPlays': WHATEVER THE INPUT: true; the input reads as it did. -/
def clockPlaysSpec : ChangeSpec := { name := "clockPlays", fn := fun _ => fun
  | [d1, d2] => { results := [.lit (.bool true)], args := [d1, d2] }
  | _ => none }
def clockPlaysRow : OpenClaim := { program := "ytgjcenmjjjkigaa", sum := "5cc3b26b24e8a04a96598e7a3fa56fd6aeba286c56c72c08013a21fcfa74566b", func := "sexton/sextonlaw19.ClockPlays", spec := "clockPlays", apart := false }
def ClockPlaysSaid : Prop := clockPlaysRow.holds Try.pinned (OpenSpec.ofChange clockPlaysSpec)

/-- ITS FALSE NEIGHBOUR: 'it returns false'. Refute it at one input. -/
def clockPlaysWrong : ChangeSpec := { name := "clockPlays", fn := fun _ => fun
  | [d1, d2] => { results := [.lit (.bool false)], args := [d1, d2] }
  | _ => none }
def ClockPlaysWrongFalsely : Prop := clockPlaysRow.holds Try.pinned (OpenSpec.ofChange clockPlaysWrong)

/-- 'sextonlaw19.ClockNil': WHATEVER THE INPUT: true; the input reads as it did. -/
def clockNilSpec : ChangeSpec := { name := "clockNil", fn := fun _ => fun
  | [d1, d2] => { results := [.lit (.bool true)], args := [d1, d2] }
  | _ => none }
def clockNilRow : OpenClaim := { program := "ytgjcenmjjjkigaa", sum := "5cc3b26b24e8a04a96598e7a3fa56fd6aeba286c56c72c08013a21fcfa74566b", func := "sexton/sextonlaw19.ClockNil", spec := "clockNil", apart := false }
def ClockNilSaid : Prop := clockNilRow.holds Try.pinned (OpenSpec.ofChange clockNilSpec)

/-- ITS FALSE NEIGHBOUR: 'it returns false'. Refute it at one input. -/
def clockNilWrong : ChangeSpec := { name := "clockNil", fn := fun _ => fun
  | [d1, d2] => { results := [.lit (.bool false)], args := [d1, d2] }
  | _ => none }
def ClockNilWrongFalsely : Prop := clockNilRow.holds Try.pinned (OpenSpec.ofChange clockNilWrong)

/-- 'sextonlaw19.ClockOften': WHATEVER THE INPUT: true; the input reads as it did. -/
def clockOftenSpec : ChangeSpec := { name := "clockOften", fn := fun _ => fun
  | [d1, d2, d3] => { results := [.lit (.bool true)], args := [d1, d2, d3] }
  | _ => none }
def clockOftenRow : OpenClaim := { program := "ytgjcenmjjjkigaa", sum := "5cc3b26b24e8a04a96598e7a3fa56fd6aeba286c56c72c08013a21fcfa74566b", func := "sexton/sextonlaw19.ClockOften", spec := "clockOften", apart := false }
def ClockOftenSaid : Prop := clockOftenRow.holds Try.pinned (OpenSpec.ofChange clockOftenSpec)

/-- ITS FALSE NEIGHBOUR: 'it returns false'. Refute it at one input. -/
def clockOftenWrong : ChangeSpec := { name := "clockOften", fn := fun _ => fun
  | [d1, d2, d3] => { results := [.lit (.bool false)], args := [d1, d2, d3] }
  | _ => none }
def ClockOftenWrongFalsely : Prop := clockOftenRow.holds Try.pinned (OpenSpec.ofChange clockOftenWrong)

/-- 'sextonlaw19.ClockHeard': WHATEVER THE INPUT: true; the input reads as it did. -/
def clockHeardSpec : ChangeSpec := { name := "clockHeard", fn := fun _ => fun
  | [d1, d2, d3] => { results := [.lit (.bool true)], args := [d1, d2, d3] }
  | _ => none }
def clockHeardRow : OpenClaim := { program := "ytgjcenmjjjkigaa", sum := "5cc3b26b24e8a04a96598e7a3fa56fd6aeba286c56c72c08013a21fcfa74566b", func := "sexton/sextonlaw19.ClockHeard", spec := "clockHeard", apart := false }
def ClockHeardSaid : Prop := clockHeardRow.holds Try.pinned (OpenSpec.ofChange clockHeardSpec)

/-- ITS FALSE NEIGHBOUR: 'it returns false'. Refute it at one input. -/
def clockHeardWrong : ChangeSpec := { name := "clockHeard", fn := fun _ => fun
  | [d1, d2, d3] => { results := [.lit (.bool false)], args := [d1, d2, d3] }
  | _ => none }
def ClockHeardWrongFalsely : Prop := clockHeardRow.holds Try.pinned (OpenSpec.ofChange clockHeardWrong)

/-- 'sextonlaw19.ClockApart': WHATEVER THE INPUT: true; the input reads as it did. -/
def clockApartSpec : ChangeSpec := { name := "clockApart", fn := fun _ => fun
  | [d1, d2, d3] => { results := [.lit (.bool true)], args := [d1, d2, d3] }
  | _ => none }
def clockApartRow : OpenClaim := { program := "ytgjcenmjjjkigaa", sum := "5cc3b26b24e8a04a96598e7a3fa56fd6aeba286c56c72c08013a21fcfa74566b", func := "sexton/sextonlaw19.ClockApart", spec := "clockApart", apart := false }
def ClockApartSaid : Prop := clockApartRow.holds Try.pinned (OpenSpec.ofChange clockApartSpec)

/-- ITS FALSE NEIGHBOUR: 'it returns false'. Refute it at one input. -/
def clockApartWrong : ChangeSpec := { name := "clockApart", fn := fun _ => fun
  | [d1, d2, d3] => { results := [.lit (.bool false)], args := [d1, d2, d3] }
  | _ => none }
def ClockApartWrongFalsely : Prop := clockApartRow.holds Try.pinned (OpenSpec.ofChange clockApartWrong)

/- THE SECOND FORM. 'bulk': how many values and letters a reading holds, each counted each time it is reached (what is shared counts as often as it is met; a slice's spare places count too). A statement '..UptoSaid' is the law's where the arguments, and the package variables that the reading takes, are together of bulk at most 1048576: NARROWER than '..Said'. Prove '..Said' where nothing that the law and all that it calls make is longer than what came in: it says more and counts as full. Else prove '..UptoSaid'. A law counts once. -/
mutual
def uptoBulk {H : Type} : DataW H → Nat
  | .lit (.string bytes) => bytes.length + 1
  | .lit _ => 1
  | .nil => 1
  | .ptr d => uptoBulk d + 1
  | .slice elems spare => uptoBulkAll elems + uptoBulkAll spare + 1
  | .agg parts => uptoBulkAll parts + 1
  | .iface _ d => uptoBulk d + 1
  | .map entries => uptoBulkEntries entries + 1
  | .held _ => 1
def uptoBulkAll {H : Type} : List (DataW H) → Nat
  | [] => 0
  | d :: r => uptoBulk d + uptoBulkAll r
def uptoBulkEntries {H : Type} : List (Lit × DataW H) → Nat
  | [] => 0
  | x :: r => uptoBulkEntry x + uptoBulkEntries r
def uptoBulkEntry {H : Type} : Lit × DataW H → Nat
  | (.string bytes, d) => bytes.length + uptoBulk d + 1
  | (_, d) => uptoBulk d + 1
 end
def uptoSmall : (H : Type) → List (DataW H) → Bool := fun _ ds => decide (uptoBulkAll ds ≤ 1048576)
def OpenSpec.upto (s : _root_.Go.ChangeSpec) : _root_.Go.OpenSpec := { _root_.Go.OpenSpec.ofChange s with cond := some uptoSmall }

/-- 'sextonlaw19.ClockPlays', WHERE WHAT IT READS IS OF BULK AT MOST 1048576: true; the input reads as it did. -/
def clockPlaysUptoRow : OpenClaim := { program := "ytgjcenmjjjkigaa", sum := "5cc3b26b24e8a04a96598e7a3fa56fd6aeba286c56c72c08013a21fcfa74566b", func := "sexton/sextonlaw19.ClockPlays", spec := "clockPlays", apart := false, narrowed := true }
def ClockPlaysUptoSaid : Prop := clockPlaysUptoRow.holds Try.pinned (OpenSpec.upto clockPlaysSpec)

/-- 'sextonlaw19.ClockNil', WHERE WHAT IT READS IS OF BULK AT MOST 1048576: true; the input reads as it did. -/
def clockNilUptoRow : OpenClaim := { program := "ytgjcenmjjjkigaa", sum := "5cc3b26b24e8a04a96598e7a3fa56fd6aeba286c56c72c08013a21fcfa74566b", func := "sexton/sextonlaw19.ClockNil", spec := "clockNil", apart := false, narrowed := true }
def ClockNilUptoSaid : Prop := clockNilUptoRow.holds Try.pinned (OpenSpec.upto clockNilSpec)

/-- 'sextonlaw19.ClockOften', WHERE WHAT IT READS IS OF BULK AT MOST 1048576: true; the input reads as it did. -/
def clockOftenUptoRow : OpenClaim := { program := "ytgjcenmjjjkigaa", sum := "5cc3b26b24e8a04a96598e7a3fa56fd6aeba286c56c72c08013a21fcfa74566b", func := "sexton/sextonlaw19.ClockOften", spec := "clockOften", apart := false, narrowed := true }
def ClockOftenUptoSaid : Prop := clockOftenUptoRow.holds Try.pinned (OpenSpec.upto clockOftenSpec)

/-- 'sextonlaw19.ClockHeard', WHERE WHAT IT READS IS OF BULK AT MOST 1048576: true; the input reads as it did. -/
def clockHeardUptoRow : OpenClaim := { program := "ytgjcenmjjjkigaa", sum := "5cc3b26b24e8a04a96598e7a3fa56fd6aeba286c56c72c08013a21fcfa74566b", func := "sexton/sextonlaw19.ClockHeard", spec := "clockHeard", apart := false, narrowed := true }
def ClockHeardUptoSaid : Prop := clockHeardUptoRow.holds Try.pinned (OpenSpec.upto clockHeardSpec)

/-- 'sextonlaw19.ClockApart', WHERE WHAT IT READS IS OF BULK AT MOST 1048576: true; the input reads as it did. -/
def clockApartUptoRow : OpenClaim := { program := "ytgjcenmjjjkigaa", sum := "5cc3b26b24e8a04a96598e7a3fa56fd6aeba286c56c72c08013a21fcfa74566b", func := "sexton/sextonlaw19.ClockApart", spec := "clockApart", apart := false, narrowed := true }
def ClockApartUptoSaid : Prop := clockApartUptoRow.holds Try.pinned (OpenSpec.upto clockApartSpec)

end Rows
end Go.Proofs.Ytgjcenmjjjkigaa
