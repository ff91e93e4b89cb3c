/- How a slice of pairs that comes in reads. -/
import Derived.Test.YtmpcjiacgbcpdaaTallyNoted
import Derived.Test.YtmpcjiacgbcpdaaOpen
namespace Go.Proofs.Ytmpcjiacgbcpdaa
open Go.RowKit Go.ChangeShapes Go.WideShapes Go.Deep

namespace Ta
theorem cut1 {cs : List Value} {o : Nat} {v : Value} (h : (cs.drop o).take 1 = [v]) : cs[o]? = some v := by
  have h0 := congrArg (·[0]?) h
  simpa using h0
section
variable {H : Type} {enc : TypeId × Value → H} {w : World} {spare : Nat → Bool} {held : Bool}

theorem read_pair (n : Nat) (cs : List Value) (y : DataW H × List MemPlace) (h : DataW.trod enc Try.prog w 0 spare held n 48 cs = some y) :
    ∃ x : Int × Int, True ∧ cs = pc x := by
  obtain ⟨y0, y1, m, _, hl, h0, h1⟩ := trod_struct2 Try.underlying48 h
  obtain ⟨e, he, _, b0⟩ := DataW.trod_int Try.underlying3 h0
  obtain ⟨f, hf, _, b1⟩ := DataW.trod_int Try.underlying3 h1
  refine ⟨(e, f), trivial, ?_⟩
  have hl : cs.length = 2 := hl
  have he : cs[0]? = some _ := cut1 he
  have hf : cs[1]? = some _ := cut1 hf
  match cs, hl with
  | [a, b], _ =>
    simp at he hf
    subst he; subst hf
    rfl
end
end Ta
end Go.Proofs.Ytmpcjiacgbcpdaa
