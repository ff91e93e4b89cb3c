/-
  No cell of these rows narrows 'for every input' (looked for: loops, veiled, ifaces, maps, wideKeys, modest, calm, conditions, laid).
  DERIVED. THE GIVEN ROWS OF THIS SEAT. 6 by the template 'for every input the law returns true; each argument reads behind the call as it read before'; 0 by the template 'total and deterministic' (their statements: YtpgejomhcojppaaTotals.lean).
  GIVEN WITH THE SEED: the statements are not yours to turn. If you find one false, say at which input.
  Laid BY PROGRAM, IN A SANDBOX (cutbox-rows.mjs): the forced cells as the released guide's own fill.sh prints them over the translation 1b4f8d8c7837d3c9… (all of the seat's roots in one cut). By AI agents, Wed Nov 11 2026. No macro, syntax, notation, axiom, sorry.
-/
import Derived.Test.YtpgejomhcojppaaChecked
import GoSem.Claim
import GoSem.ClaimJoined
import GoSem.ClaimMapViews
import Derived.JoinedTies
import Derived.KernelRfl
namespace Go.Proofs.Ytpgejomhcojppaa
/- THE CELL 'sum', in the pinned program and in every row, IS THE sha256 OF THE DUMP (.gsa) THAT YtpgejomhcojppaaProg.lean LOADS. Nothing in Lean hashes anything: it is a label: what it is worth is what the hold of that sum in a sandbox is worth. -/
noncomputable def Try.pinned : Pinned := { name := "ytpgejomhcojppaa", sum := "1b4f8d8c7837d3c9b4afb15ef6e6ea5005a63d16afc7cb52daadd919d4d2e8c2", checked := Try.checked }
namespace Rows
def none {H : Type} : Left H := { results := [], args := [] }

/-- 'sextonlaw17.ChooseMore': WHATEVER THE INPUT: true; the input reads as it did. -/
def chooseMoreSpec : ChangeSpec := { name := "chooseMore", fn := fun _ => fun
  | [d1, d2, d3] => { results := [.lit (.bool true)], args := [d1, d2, d3] }
  | _ => none }
def chooseMoreRow : OpenClaim := { program := "ytpgejomhcojppaa", sum := "1b4f8d8c7837d3c9b4afb15ef6e6ea5005a63d16afc7cb52daadd919d4d2e8c2", func := "sexton/sextonlaw17.ChooseMore", spec := "chooseMore", unfollowed := true, recurses := true, apart := false }
def ChooseMoreSaid : Prop := chooseMoreRow.holds Try.pinned (OpenSpec.ofChange chooseMoreSpec)

/-- ITS FALSE NEIGHBOUR: 'it returns false'. Refute it at one input. -/
def chooseMoreWrong : ChangeSpec := { name := "chooseMore", fn := fun _ => fun
  | [d1, d2, d3] => { results := [.lit (.bool false)], args := [d1, d2, d3] }
  | _ => none }
def ChooseMoreWrongFalsely : Prop := chooseMoreRow.holds Try.pinned (OpenSpec.ofChange chooseMoreWrong)

/-- 'sextonlaw17.ChooseKeeps': WHATEVER THE INPUT: true; the input reads as it did. -/
def chooseKeepsSpec : ChangeSpec := { name := "chooseKeeps", fn := fun _ => fun
  | [d1, d2] => { results := [.lit (.bool true)], args := [d1, d2] }
  | _ => none }
def chooseKeepsRow : OpenClaim := { program := "ytpgejomhcojppaa", sum := "1b4f8d8c7837d3c9b4afb15ef6e6ea5005a63d16afc7cb52daadd919d4d2e8c2", func := "sexton/sextonlaw17.ChooseKeeps", spec := "chooseKeeps", unfollowed := true, recurses := true, apart := false }
def ChooseKeepsSaid : Prop := chooseKeepsRow.holds Try.pinned (OpenSpec.ofChange chooseKeepsSpec)

/-- ITS FALSE NEIGHBOUR: 'it returns false'. Refute it at one input. -/
def chooseKeepsWrong : ChangeSpec := { name := "chooseKeeps", fn := fun _ => fun
  | [d1, d2] => { results := [.lit (.bool false)], args := [d1, d2] }
  | _ => none }
def ChooseKeepsWrongFalsely : Prop := chooseKeepsRow.holds Try.pinned (OpenSpec.ofChange chooseKeepsWrong)

/-- 'sextonlaw17.ChooseDecides': WHATEVER THE INPUT: true; the input reads as it did. -/
def chooseDecidesSpec : ChangeSpec := { name := "chooseDecides", fn := fun _ => fun
  | [d1, d2] => { results := [.lit (.bool true)], args := [d1, d2] }
  | _ => none }
def chooseDecidesRow : OpenClaim := { program := "ytpgejomhcojppaa", sum := "1b4f8d8c7837d3c9b4afb15ef6e6ea5005a63d16afc7cb52daadd919d4d2e8c2", func := "sexton/sextonlaw17.ChooseDecides", spec := "chooseDecides", unfollowed := true, recurses := true, apart := false }
def ChooseDecidesSaid : Prop := chooseDecidesRow.holds Try.pinned (OpenSpec.ofChange chooseDecidesSpec)

/-- ITS FALSE NEIGHBOUR: 'it returns false'. Refute it at one input. -/
def chooseDecidesWrong : ChangeSpec := { name := "chooseDecides", fn := fun _ => fun
  | [d1, d2] => { results := [.lit (.bool false)], args := [d1, d2] }
  | _ => none }
def ChooseDecidesWrongFalsely : Prop := chooseDecidesRow.holds Try.pinned (OpenSpec.ofChange chooseDecidesWrong)

/-- 'sextonlaw17.ChooseGoes': WHATEVER THE INPUT: true; the input reads as it did. -/
def chooseGoesSpec : ChangeSpec := { name := "chooseGoes", fn := fun _ => fun
  | [d1, d2] => { results := [.lit (.bool true)], args := [d1, d2] }
  | _ => none }
def chooseGoesRow : OpenClaim := { program := "ytpgejomhcojppaa", sum := "1b4f8d8c7837d3c9b4afb15ef6e6ea5005a63d16afc7cb52daadd919d4d2e8c2", func := "sexton/sextonlaw17.ChooseGoes", spec := "chooseGoes", unfollowed := true, recurses := true, apart := false }
def ChooseGoesSaid : Prop := chooseGoesRow.holds Try.pinned (OpenSpec.ofChange chooseGoesSpec)

/-- ITS FALSE NEIGHBOUR: 'it returns false'. Refute it at one input. -/
def chooseGoesWrong : ChangeSpec := { name := "chooseGoes", fn := fun _ => fun
  | [d1, d2] => { results := [.lit (.bool false)], args := [d1, d2] }
  | _ => none }
def ChooseGoesWrongFalsely : Prop := chooseGoesRow.holds Try.pinned (OpenSpec.ofChange chooseGoesWrong)

/-- 'sextonlaw17.ChooseGreatest': WHATEVER THE INPUT: true; the input reads as it did. -/
def chooseGreatestSpec : ChangeSpec := { name := "chooseGreatest", fn := fun _ => fun
  | [d1, d2] => { results := [.lit (.bool true)], args := [d1, d2] }
  | _ => none }
def chooseGreatestRow : OpenClaim := { program := "ytpgejomhcojppaa", sum := "1b4f8d8c7837d3c9b4afb15ef6e6ea5005a63d16afc7cb52daadd919d4d2e8c2", func := "sexton/sextonlaw17.ChooseGreatest", spec := "chooseGreatest", unfollowed := true, recurses := true, apart := false }
def ChooseGreatestSaid : Prop := chooseGreatestRow.holds Try.pinned (OpenSpec.ofChange chooseGreatestSpec)

/-- ITS FALSE NEIGHBOUR: 'it returns false'. Refute it at one input. -/
def chooseGreatestWrong : ChangeSpec := { name := "chooseGreatest", fn := fun _ => fun
  | [d1, d2] => { results := [.lit (.bool false)], args := [d1, d2] }
  | _ => none }
def ChooseGreatestWrongFalsely : Prop := chooseGreatestRow.holds Try.pinned (OpenSpec.ofChange chooseGreatestWrong)

/-- 'sextonlaw17.ChooseTurned': WHATEVER THE INPUT: true; the input reads as it did. -/
def chooseTurnedSpec : ChangeSpec := { name := "chooseTurned", fn := fun _ => fun
  | [d1, d2, d3, d4] => { results := [.lit (.bool true)], args := [d1, d2, d3, d4] }
  | _ => none }
def chooseTurnedRow : OpenClaim := { program := "ytpgejomhcojppaa", sum := "1b4f8d8c7837d3c9b4afb15ef6e6ea5005a63d16afc7cb52daadd919d4d2e8c2", func := "sexton/sextonlaw17.ChooseTurned", spec := "chooseTurned", unfollowed := true, recurses := true, apart := false }
def ChooseTurnedSaid : Prop := chooseTurnedRow.holds Try.pinned (OpenSpec.ofChange chooseTurnedSpec)

/-- ITS FALSE NEIGHBOUR: 'it returns false'. Refute it at one input. -/
def chooseTurnedWrong : ChangeSpec := { name := "chooseTurned", fn := fun _ => fun
  | [d1, d2, d3, d4] => { results := [.lit (.bool false)], args := [d1, d2, d3, d4] }
  | _ => none }
def ChooseTurnedWrongFalsely : Prop := chooseTurnedRow.holds Try.pinned (OpenSpec.ofChange chooseTurnedWrong)

/- THE SECOND FORM. 'bulk': how many values and letters a reading holds, each counted each time it is reached (what is shared counts as often as it is met; a slice's spare places count too). A statement '..UptoSaid' is the law's where the arguments, and the package variables that the reading takes, are together of bulk at most 1048576: NARROWER than '..Said'. Prove '..Said' where nothing that the law and all that it calls make is longer than what came in: it says more and counts as full. Else prove '..UptoSaid'. A law counts once. -/
mutual
def uptoBulk {H : Type} : DataW H → Nat
  | .lit (.string bytes) => bytes.length + 1
  | .lit _ => 1
  | .nil => 1
  | .ptr d => uptoBulk d + 1
  | .slice elems spare => uptoBulkAll elems + uptoBulkAll spare + 1
  | .agg parts => uptoBulkAll parts + 1
  | .iface _ d => uptoBulk d + 1
  | .map entries => uptoBulkEntries entries + 1
  | .held _ => 1
def uptoBulkAll {H : Type} : List (DataW H) → Nat
  | [] => 0
  | d :: r => uptoBulk d + uptoBulkAll r
def uptoBulkEntries {H : Type} : List (Lit × DataW H) → Nat
  | [] => 0
  | x :: r => uptoBulkEntry x + uptoBulkEntries r
def uptoBulkEntry {H : Type} : Lit × DataW H → Nat
  | (.string bytes, d) => bytes.length + uptoBulk d + 1
  | (_, d) => uptoBulk d + 1
 end
def uptoSmall : (H : Type) → List (DataW H) → Bool := fun _ ds => decide (uptoBulkAll ds ≤ 1048576)
def OpenSpec.upto (s : _root_.Go.ChangeSpec) : _root_.Go.OpenSpec := { _root_.Go.OpenSpec.ofChange s with cond := some uptoSmall }

/-- 'sextonlaw17.ChooseMore', WHERE WHAT IT READS IS OF BULK AT MOST 1048576: true; the input reads as it did. -/
def chooseMoreUptoRow : OpenClaim := { program := "ytpgejomhcojppaa", sum := "1b4f8d8c7837d3c9b4afb15ef6e6ea5005a63d16afc7cb52daadd919d4d2e8c2", func := "sexton/sextonlaw17.ChooseMore", spec := "chooseMore", unfollowed := true, recurses := true, apart := false, narrowed := true }
def ChooseMoreUptoSaid : Prop := chooseMoreUptoRow.holds Try.pinned (OpenSpec.upto chooseMoreSpec)

/-- 'sextonlaw17.ChooseKeeps', WHERE WHAT IT READS IS OF BULK AT MOST 1048576: true; the input reads as it did. -/
def chooseKeepsUptoRow : OpenClaim := { program := "ytpgejomhcojppaa", sum := "1b4f8d8c7837d3c9b4afb15ef6e6ea5005a63d16afc7cb52daadd919d4d2e8c2", func := "sexton/sextonlaw17.ChooseKeeps", spec := "chooseKeeps", unfollowed := true, recurses := true, apart := false, narrowed := true }
def ChooseKeepsUptoSaid : Prop := chooseKeepsUptoRow.holds Try.pinned (OpenSpec.upto chooseKeepsSpec)

/-- 'sextonlaw17.ChooseDecides', WHERE WHAT IT READS IS OF BULK AT MOST 1048576: true; the input reads as it did. -/
def chooseDecidesUptoRow : OpenClaim := { program := "ytpgejomhcojppaa", sum := "1b4f8d8c7837d3c9b4afb15ef6e6ea5005a63d16afc7cb52daadd919d4d2e8c2", func := "sexton/sextonlaw17.ChooseDecides", spec := "chooseDecides", unfollowed := true, recurses := true, apart := false, narrowed := true }
def ChooseDecidesUptoSaid : Prop := chooseDecidesUptoRow.holds Try.pinned (OpenSpec.upto chooseDecidesSpec)

/-- 'sextonlaw17.ChooseGoes', WHERE WHAT IT READS IS OF BULK AT MOST 1048576: true; the input reads as it did. -/
def chooseGoesUptoRow : OpenClaim := { program := "ytpgejomhcojppaa", sum := "1b4f8d8c7837d3c9b4afb15ef6e6ea5005a63d16afc7cb52daadd919d4d2e8c2", func := "sexton/sextonlaw17.ChooseGoes", spec := "chooseGoes", unfollowed := true, recurses := true, apart := false, narrowed := true }
def ChooseGoesUptoSaid : Prop := chooseGoesUptoRow.holds Try.pinned (OpenSpec.upto chooseGoesSpec)

/-- 'sextonlaw17.ChooseGreatest', WHERE WHAT IT READS IS OF BULK AT MOST 1048576: true; the input reads as it did. -/
def chooseGreatestUptoRow : OpenClaim := { program := "ytpgejomhcojppaa", sum := "1b4f8d8c7837d3c9b4afb15ef6e6ea5005a63d16afc7cb52daadd919d4d2e8c2", func := "sexton/sextonlaw17.ChooseGreatest", spec := "chooseGreatest", unfollowed := true, recurses := true, apart := false, narrowed := true }
def ChooseGreatestUptoSaid : Prop := chooseGreatestUptoRow.holds Try.pinned (OpenSpec.upto chooseGreatestSpec)

/-- 'sextonlaw17.ChooseTurned', WHERE WHAT IT READS IS OF BULK AT MOST 1048576: true; the input reads as it did. -/
def chooseTurnedUptoRow : OpenClaim := { program := "ytpgejomhcojppaa", sum := "1b4f8d8c7837d3c9b4afb15ef6e6ea5005a63d16afc7cb52daadd919d4d2e8c2", func := "sexton/sextonlaw17.ChooseTurned", spec := "chooseTurned", unfollowed := true, recurses := true, apart := false, narrowed := true }
def ChooseTurnedUptoSaid : Prop := chooseTurnedUptoRow.holds Try.pinned (OpenSpec.upto chooseTurnedSpec)

end Rows
end Go.Proofs.Ytpgejomhcojppaa
