/-
  DERIVED. GIVEN WITH THE SEED: THE CARDS: each row of YtojkccdmnhppnaaDoorRows.lean that lists a variable, with what it lists TIED to the program's text (the seventh form; the later family's looks); each row that meets fmt, with fmt's text TOLD by the authors' own Lean function (tested against real Go, not proved from fmt's source: count such statements apart). THE CARD IS WHAT COUNTS. Prove the row's statement (the work); the ties are given (YtojkccdmnhppnaaDoorTie.lean); close each card by the builder's one call (the guide's Derived/Test/ToyasCard.lean, 'card_holds'). Laid BY PROGRAM, IN A SANDBOX (cutbox-door.mjs). By AI agents, Wed Nov 11 2026. No macro, syntax, notation, axiom, sorry.
-/
import Derived.Test.YtojkccdmnhppnaaDoorRows
import GoSem.ClaimSeven
namespace Go.Proofs.YtojkccdmnhppnaaDoor
namespace Rows

/-- THE TIED CARD OF 'sextonlaw16.VoteAnswers'. -/
def voteAnswersCard : Claim7 := { stood := { row := voteAnswersRow, standIns := [], harness := (true, "dd6f8f10d17f21d2ad2a70c70e8f5d1f45bc489ebabfd4d12e105999e383d90d"), looks := false }, kinds := [], alts := [], laidByText := true, laidKinds := [.data], laidTests := true, laidLooks := .later }
def VoteAnswersCardSaid : Prop := Claim7.holds Tryd.pinned (.plain (OpenSpec.ofChange voteAnswersSpec)) voteAnswersCard

/-- THE TIED CARD OF 'sextonlaw16.VoteRises'. -/
def voteRisesCard : Claim7 := { stood := { row := voteRisesRow, standIns := [], harness := (true, "dd6f8f10d17f21d2ad2a70c70e8f5d1f45bc489ebabfd4d12e105999e383d90d"), looks := false }, kinds := [], alts := [], laidByText := true, laidKinds := [.data], laidTests := true, laidLooks := .later }
def VoteRisesCardSaid : Prop := Claim7.holds Tryd.pinned (.plain (OpenSpec.ofChange voteRisesSpec)) voteRisesCard

/-- THE TIED CARD OF 'sextonlaw16.VoteWindow'. -/
def voteWindowCard : Claim7 := { stood := { row := voteWindowRow, standIns := [], harness := (true, "dd6f8f10d17f21d2ad2a70c70e8f5d1f45bc489ebabfd4d12e105999e383d90d"), looks := false }, kinds := [], alts := [], laidByText := true, laidKinds := [.data], laidTests := true, laidLooks := .later }
def VoteWindowCardSaid : Prop := Claim7.holds Tryd.pinned (.plain (OpenSpec.ofChange voteWindowSpec)) voteWindowCard

/-- THE TIED CARD OF 'sextonlaw16.VoteOnce'. -/
def voteOnceCard : Claim7 := { stood := { row := voteOnceRow, standIns := [], harness := (true, "dd6f8f10d17f21d2ad2a70c70e8f5d1f45bc489ebabfd4d12e105999e383d90d"), looks := false }, kinds := [], alts := [], laidByText := true, laidKinds := [.data], laidTests := true, laidLooks := .later }
def VoteOnceCardSaid : Prop := Claim7.holds Tryd.pinned (.plain (OpenSpec.ofChange voteOnceSpec)) voteOnceCard

/-- THE SECOND FORM's CARD OF 'sextonlaw16.VoteAnswers'. -/
def voteAnswersUptoCard : Claim7 := { stood := { row := voteAnswersUptoRow, standIns := [], harness := (true, "dd6f8f10d17f21d2ad2a70c70e8f5d1f45bc489ebabfd4d12e105999e383d90d"), looks := false }, kinds := [], alts := [], laidByText := true, laidKinds := [.data], laidTests := true, laidLooks := .later }
def VoteAnswersUptoCardSaid : Prop := Claim7.holds Tryd.pinned (.plain (OpenSpec.upto voteAnswersSpec)) voteAnswersUptoCard

/-- THE SECOND FORM's CARD OF 'sextonlaw16.VoteRises'. -/
def voteRisesUptoCard : Claim7 := { stood := { row := voteRisesUptoRow, standIns := [], harness := (true, "dd6f8f10d17f21d2ad2a70c70e8f5d1f45bc489ebabfd4d12e105999e383d90d"), looks := false }, kinds := [], alts := [], laidByText := true, laidKinds := [.data], laidTests := true, laidLooks := .later }
def VoteRisesUptoCardSaid : Prop := Claim7.holds Tryd.pinned (.plain (OpenSpec.upto voteRisesSpec)) voteRisesUptoCard

/-- THE SECOND FORM's CARD OF 'sextonlaw16.VoteWindow'. -/
def voteWindowUptoCard : Claim7 := { stood := { row := voteWindowUptoRow, standIns := [], harness := (true, "dd6f8f10d17f21d2ad2a70c70e8f5d1f45bc489ebabfd4d12e105999e383d90d"), looks := false }, kinds := [], alts := [], laidByText := true, laidKinds := [.data], laidTests := true, laidLooks := .later }
def VoteWindowUptoCardSaid : Prop := Claim7.holds Tryd.pinned (.plain (OpenSpec.upto voteWindowSpec)) voteWindowUptoCard

/-- THE SECOND FORM's CARD OF 'sextonlaw16.VoteOnce'. -/
def voteOnceUptoCard : Claim7 := { stood := { row := voteOnceUptoRow, standIns := [], harness := (true, "dd6f8f10d17f21d2ad2a70c70e8f5d1f45bc489ebabfd4d12e105999e383d90d"), looks := false }, kinds := [], alts := [], laidByText := true, laidKinds := [.data], laidTests := true, laidLooks := .later }
def VoteOnceUptoCardSaid : Prop := Claim7.holds Tryd.pinned (.plain (OpenSpec.upto voteOnceSpec)) voteOnceUptoCard
end Rows
end Go.Proofs.YtojkccdmnhppnaaDoor
