/- What the listed variable (package vote's table) gives the walks, and a world in which it lies so. -/
import Derived.Test.YtojkccdmnhppnaaDoorVoteWalks
import Derived.Test.YtojkccdmnhppnaaDoorFrame
import Derived.Test.YtojkccdmnhppnaaDoorTie
import Derived.ProofKit
import Derived.LaidMore
import Derived.OpenShut
import Derived.Stop.Joined
import Derived.Lib.LaidTab
namespace Go.Proofs.YtojkccdmnhppnaaDoor
open Go.ChangeShapes Go.WideShapes Go.ChangeAt Go.RowKit

def laid1 : List (String × DataW Unit) := [("sexton/vote.done", Rows.laid_sexton_vote_done)]
theorem gDone : Tryd.prog.globalNamed "sexton/vote.done" = some 0 := by kernel_rfl
theorem tDone : (Tryd.prog.globals[0]?).map (·.type) = some 43 := by kernel_rfl
theorem door_met (os : Os) (args : Array Value) : laidMetH Tryd.prog laid1 ((World.doorLaid Tryd.prog 400 os).forCall (fun _ _ => 0) ⟨#[], args, []⟩).memory :=
  laidMetH_of_parts3 (fuel := 8) (laidMet_of_run' 8 (by kernel_rfl) (by kernel_rfl)) (by kernel_rfl) (by kernel_rfl)
theorem tab_of_laid {W : World} (h : laidMetH Tryd.prog laid1 W) : Vo.Tab W := by
  rw [MakeChecks.laidMetH_plain _ _ _ (by kernel_rfl)] at h
  have hT := Lib.tabIs_of_head (zs := [1, 3, 2]) (k := .u8) gDone tDone Tryd.underlying43 Tryd.underlying5 (by kernel_rfl) (by kernel_rfl) (show laidMet Tryd.prog (("sexton/vote.done", Lib.tabData .u8 [1, 3, 2]) :: []) W from h)
  have c0 := hT.cell gDone 0 (by decide)
  have c1 := hT.cell gDone 1 (by decide)
  have c2 := hT.cell gDone 2 (by decide)
  exact ⟨World.block_lt_of_cell? W _ c0, c0, c1, c2⟩
end Go.Proofs.YtojkccdmnhppnaaDoor
