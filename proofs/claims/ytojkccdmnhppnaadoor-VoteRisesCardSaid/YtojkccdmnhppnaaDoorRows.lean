/-
  NARROWER THAN 'FOR EVERY INPUT', by the rows' own cells (each row's printed sentence says how): VoteAnswers: laid · VoteRises: laid · VoteWindow: laid · VoteOnce: laid.
  DERIVED. THE GIVEN ROWS OF THIS SEAT. 4 by the template 'for every input the law returns true; each argument reads behind the call as it read before'; 0 by the template 'total and deterministic' (their statements: YtojkccdmnhppnaaDoorTotals.lean).
  GIVEN WITH THE SEED: the statements are not yours to turn. If you find one false, say at which input.
  Laid BY PROGRAM, IN A SANDBOX (cutbox-rows.mjs): the forced cells as the released guide's own fill.sh prints them over the translation 80495614b15a8c82… (all of the seat's roots in one cut). By AI agents, Wed Nov 11 2026. No macro, syntax, notation, axiom, sorry.
-/
import Derived.Test.YtojkccdmnhppnaaDoorChecked
import GoSem.Claim
import GoSem.ClaimJoined
import GoSem.ClaimMapViews
import Derived.JoinedTies
import Derived.KernelRfl
namespace Go.Proofs.YtojkccdmnhppnaaDoor
/- THE CELL 'sum', in the pinned program and in every row, IS THE sha256 OF THE DUMP (.gsa) THAT YtojkccdmnhppnaaDoorProg.lean LOADS. Nothing in Lean hashes anything: it is a label: what it is worth is what the hold of that sum in a sandbox is worth. -/
noncomputable def Tryd.pinned : Pinned := { name := "ytojkccdmnhppnaadoor", sum := "80495614b15a8c8299af36a6f612e5c0c4d3b863c7a045840e327ccbc782032b", checked := Tryd.checked }
namespace Rows
def none {H : Type} : Left H := { results := [], args := [] }

/- WHAT THE LISTED PACKAGE-LEVEL VARIABLES READ AS WHEN THE CALL BEGINS. Each datum BY PROGRAM (the guide's laid-datum.mjs) off the statement by which the dump's own 'gosem.cut.vars' lays the variable. In a bare row this is a premise. The card (YtojkccdmnhppnaaDoorCards.lean) ties it to the program's text. -/
def laid_sexton_vote_done {H : Type} : DataW H := .agg [.lit (.int .u8 1), .lit (.int .u8 3), .lit (.int .u8 2)]

/-- 'sextonlaw16.VoteAnswers': WHATEVER THE INPUT: true; the input reads as it did. -/
def voteAnswersSpec : ChangeSpec := { name := "voteAnswers", fn := fun _ => fun
  | [d1, d2, d3, d4] => { results := [.lit (.bool true)], args := [d1, d2, d3, d4] }
  | _ => none }
def voteAnswersRow : OpenClaim := { program := "ytojkccdmnhppnaadoor", sum := "80495614b15a8c8299af36a6f612e5c0c4d3b863c7a045840e327ccbc782032b", func := "sexton/sextonlaw16.VoteAnswers", spec := "voteAnswers", named := ["sexton/vote.done"], apart := false, laid := [("sexton/vote.done", laid_sexton_vote_done)] }
def VoteAnswersSaid : Prop := voteAnswersRow.holds Tryd.pinned (OpenSpec.ofChange voteAnswersSpec)

/-- ITS FALSE NEIGHBOUR: 'it returns false'. Refute it at one input. -/
def voteAnswersWrong : ChangeSpec := { name := "voteAnswers", fn := fun _ => fun
  | [d1, d2, d3, d4] => { results := [.lit (.bool false)], args := [d1, d2, d3, d4] }
  | _ => none }
def VoteAnswersWrongFalsely : Prop := voteAnswersRow.holds Tryd.pinned (OpenSpec.ofChange voteAnswersWrong)

/-- 'sextonlaw16.VoteRises': WHATEVER THE INPUT: true; the input reads as it did. -/
def voteRisesSpec : ChangeSpec := { name := "voteRises", fn := fun _ => fun
  | [d1, d2] => { results := [.lit (.bool true)], args := [d1, d2] }
  | _ => none }
def voteRisesRow : OpenClaim := { program := "ytojkccdmnhppnaadoor", sum := "80495614b15a8c8299af36a6f612e5c0c4d3b863c7a045840e327ccbc782032b", func := "sexton/sextonlaw16.VoteRises", spec := "voteRises", named := ["sexton/vote.done"], apart := false, laid := [("sexton/vote.done", laid_sexton_vote_done)] }
def VoteRisesSaid : Prop := voteRisesRow.holds Tryd.pinned (OpenSpec.ofChange voteRisesSpec)

/-- ITS FALSE NEIGHBOUR: 'it returns false'. Refute it at one input. -/
def voteRisesWrong : ChangeSpec := { name := "voteRises", fn := fun _ => fun
  | [d1, d2] => { results := [.lit (.bool false)], args := [d1, d2] }
  | _ => none }
def VoteRisesWrongFalsely : Prop := voteRisesRow.holds Tryd.pinned (OpenSpec.ofChange voteRisesWrong)

/-- 'sextonlaw16.VoteWindow': WHATEVER THE INPUT: true; the input reads as it did. -/
def voteWindowSpec : ChangeSpec := { name := "voteWindow", fn := fun _ => fun
  | [d1, d2, d3] => { results := [.lit (.bool true)], args := [d1, d2, d3] }
  | _ => none }
def voteWindowRow : OpenClaim := { program := "ytojkccdmnhppnaadoor", sum := "80495614b15a8c8299af36a6f612e5c0c4d3b863c7a045840e327ccbc782032b", func := "sexton/sextonlaw16.VoteWindow", spec := "voteWindow", named := ["sexton/vote.done"], apart := false, laid := [("sexton/vote.done", laid_sexton_vote_done)] }
def VoteWindowSaid : Prop := voteWindowRow.holds Tryd.pinned (OpenSpec.ofChange voteWindowSpec)

/-- ITS FALSE NEIGHBOUR: 'it returns false'. Refute it at one input. -/
def voteWindowWrong : ChangeSpec := { name := "voteWindow", fn := fun _ => fun
  | [d1, d2, d3] => { results := [.lit (.bool false)], args := [d1, d2, d3] }
  | _ => none }
def VoteWindowWrongFalsely : Prop := voteWindowRow.holds Tryd.pinned (OpenSpec.ofChange voteWindowWrong)

/-- 'sextonlaw16.VoteOnce': WHATEVER THE INPUT: true; the input reads as it did. -/
def voteOnceSpec : ChangeSpec := { name := "voteOnce", fn := fun _ => fun
  | [d1, d2, d3, d4] => { results := [.lit (.bool true)], args := [d1, d2, d3, d4] }
  | _ => none }
def voteOnceRow : OpenClaim := { program := "ytojkccdmnhppnaadoor", sum := "80495614b15a8c8299af36a6f612e5c0c4d3b863c7a045840e327ccbc782032b", func := "sexton/sextonlaw16.VoteOnce", spec := "voteOnce", named := ["sexton/vote.done"], apart := false, laid := [("sexton/vote.done", laid_sexton_vote_done)] }
def VoteOnceSaid : Prop := voteOnceRow.holds Tryd.pinned (OpenSpec.ofChange voteOnceSpec)

/-- ITS FALSE NEIGHBOUR: 'it returns false'. Refute it at one input. -/
def voteOnceWrong : ChangeSpec := { name := "voteOnce", fn := fun _ => fun
  | [d1, d2, d3, d4] => { results := [.lit (.bool false)], args := [d1, d2, d3, d4] }
  | _ => none }
def VoteOnceWrongFalsely : Prop := voteOnceRow.holds Tryd.pinned (OpenSpec.ofChange voteOnceWrong)

/- THE SECOND FORM. 'bulk': how many values and letters a reading holds, each counted each time it is reached (what is shared counts as often as it is met; a slice's spare places count too). A statement '..UptoSaid' is the law's where the arguments, and the package variables that the reading takes, are together of bulk at most 1048576: NARROWER than '..Said'. Prove '..Said' where nothing that the law and all that it calls make is longer than what came in: it says more and counts as full. Else prove '..UptoSaid'. A law counts once. -/
mutual
def uptoBulk {H : Type} : DataW H → Nat
  | .lit (.string bytes) => bytes.length + 1
  | .lit _ => 1
  | .nil => 1
  | .ptr d => uptoBulk d + 1
  | .slice elems spare => uptoBulkAll elems + uptoBulkAll spare + 1
  | .agg parts => uptoBulkAll parts + 1
  | .iface _ d => uptoBulk d + 1
  | .map entries => uptoBulkEntries entries + 1
  | .held _ => 1
def uptoBulkAll {H : Type} : List (DataW H) → Nat
  | [] => 0
  | d :: r => uptoBulk d + uptoBulkAll r
def uptoBulkEntries {H : Type} : List (Lit × DataW H) → Nat
  | [] => 0
  | x :: r => uptoBulkEntry x + uptoBulkEntries r
def uptoBulkEntry {H : Type} : Lit × DataW H → Nat
  | (.string bytes, d) => bytes.length + uptoBulk d + 1
  | (_, d) => uptoBulk d + 1
 end
def uptoSmall : (H : Type) → List (DataW H) → Bool := fun _ ds => decide (uptoBulkAll ds ≤ 1048576)
def OpenSpec.upto (s : _root_.Go.ChangeSpec) : _root_.Go.OpenSpec := { _root_.Go.OpenSpec.ofChange s with cond := some uptoSmall }

/-- 'sextonlaw16.VoteAnswers', WHERE WHAT IT READS IS OF BULK AT MOST 1048576: true; the input reads as it did. -/
def voteAnswersUptoRow : OpenClaim := { program := "ytojkccdmnhppnaadoor", sum := "80495614b15a8c8299af36a6f612e5c0c4d3b863c7a045840e327ccbc782032b", func := "sexton/sextonlaw16.VoteAnswers", spec := "voteAnswers", named := ["sexton/vote.done"], apart := false, laid := [("sexton/vote.done", laid_sexton_vote_done)], narrowed := true }
def VoteAnswersUptoSaid : Prop := voteAnswersUptoRow.holds Tryd.pinned (OpenSpec.upto voteAnswersSpec)

/-- 'sextonlaw16.VoteRises', WHERE WHAT IT READS IS OF BULK AT MOST 1048576: true; the input reads as it did. -/
def voteRisesUptoRow : OpenClaim := { program := "ytojkccdmnhppnaadoor", sum := "80495614b15a8c8299af36a6f612e5c0c4d3b863c7a045840e327ccbc782032b", func := "sexton/sextonlaw16.VoteRises", spec := "voteRises", named := ["sexton/vote.done"], apart := false, laid := [("sexton/vote.done", laid_sexton_vote_done)], narrowed := true }
def VoteRisesUptoSaid : Prop := voteRisesUptoRow.holds Tryd.pinned (OpenSpec.upto voteRisesSpec)

/-- 'sextonlaw16.VoteWindow', WHERE WHAT IT READS IS OF BULK AT MOST 1048576: true; the input reads as it did. -/
def voteWindowUptoRow : OpenClaim := { program := "ytojkccdmnhppnaadoor", sum := "80495614b15a8c8299af36a6f612e5c0c4d3b863c7a045840e327ccbc782032b", func := "sexton/sextonlaw16.VoteWindow", spec := "voteWindow", named := ["sexton/vote.done"], apart := false, laid := [("sexton/vote.done", laid_sexton_vote_done)], narrowed := true }
def VoteWindowUptoSaid : Prop := voteWindowUptoRow.holds Tryd.pinned (OpenSpec.upto voteWindowSpec)

/-- 'sextonlaw16.VoteOnce', WHERE WHAT IT READS IS OF BULK AT MOST 1048576: true; the input reads as it did. -/
def voteOnceUptoRow : OpenClaim := { program := "ytojkccdmnhppnaadoor", sum := "80495614b15a8c8299af36a6f612e5c0c4d3b863c7a045840e327ccbc782032b", func := "sexton/sextonlaw16.VoteOnce", spec := "voteOnce", named := ["sexton/vote.done"], apart := false, laid := [("sexton/vote.done", laid_sexton_vote_done)], narrowed := true }
def VoteOnceUptoSaid : Prop := voteOnceUptoRow.holds Tryd.pinned (OpenSpec.upto voteOnceSpec)

end Rows
end Go.Proofs.YtojkccdmnhppnaaDoor
