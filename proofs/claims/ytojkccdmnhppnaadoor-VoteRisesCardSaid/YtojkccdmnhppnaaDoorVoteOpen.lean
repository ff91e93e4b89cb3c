/- How a request that comes in reads. -/
import Derived.Test.YtojkccdmnhppnaaDoorVoteRises
import Derived.Test.YtojkccdmnhppnaaDoorBallotOpen
namespace Go.Proofs.YtojkccdmnhppnaaDoor
open Go.RowKit Go.ChangeShapes Go.WideShapes Go.Deep

namespace Vo
open Bl
section
variable {H : Type} {enc : TypeId × Value → H} {w : World} {spare : Nat → Bool} {held : Bool}

theorem read_ask (n : Nat) (cs : List Value) (y : DataW H × List MemPlace) (h : DataW.trod enc Tryd.prog w 0 spare held n 39 cs = some y) : ∃ x : Ak, True ∧ cs = x.cells := by
  obtain ⟨y0, y1, m, _, hl, h0, h1⟩ := trod_struct2 Tryd.underlying39 h
  obtain ⟨b, _, hb⟩ := read_ballot _ _ _ h0
  obtain ⟨i, hi, _⟩ := DataW.trod_int Tryd.underlying3 h1
  refine ⟨⟨b, i⟩, trivial, ?_⟩
  have hl : cs.length = 3 := hl
  have hb : (cs.drop 0).take 2 = b.cells := hb
  have hi : cs[2]? = some _ := cut1 hi
  match cs, hl with
  | [a, c, d], _ =>
    simp at hi
    subst hi
    simp only [Ba.cells, List.drop_zero, List.take_succ_cons, List.take_zero, List.cons.injEq] at hb
    obtain ⟨rfl, rfl, _⟩ := hb
    rfl
end
end Vo
end Go.Proofs.YtojkccdmnhppnaaDoor
