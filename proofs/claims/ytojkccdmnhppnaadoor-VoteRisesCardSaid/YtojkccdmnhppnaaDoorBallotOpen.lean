/- How a ballot that comes in reads, and a slice of ballots. -/
import Derived.Test.YtojkccdmnhppnaaDoorBallotLess
import Derived.Test.YtojkccdmnhppnaaDoorOpen
namespace Go.Proofs.YtojkccdmnhppnaaDoor
open Go.RowKit Go.ChangeShapes Go.WideShapes Go.Deep

theorem cut1 {cs : List Value} {o : Nat} {v : Value} (h : (cs.drop o).take 1 = [v]) : cs[o]? = some v := by
  have h0 := congrArg (·[0]?) h
  simpa using h0

namespace Bl
section
variable {H : Type} {enc : TypeId × Value → H} {w : World} {spare : Nat → Bool} {held : Bool}

theorem read_ballot (n : Nat) (cs : List Value) (y : DataW H × List MemPlace) (h : DataW.trod enc Tryd.prog w 0 spare held n 23 cs = some y) :
    ∃ x : Ba, (-9223372036854775808 ≤ x.r ∧ x.r ≤ 9223372036854775807 ∧ -9223372036854775808 ≤ x.p ∧ x.p ≤ 9223372036854775807) ∧ cs = x.cells := by
  obtain ⟨y0, y1, m, _, hl, h0, h1⟩ := trod_struct2 Tryd.underlying23 h
  obtain ⟨e, he, _, b0⟩ := DataW.trod_int Tryd.underlying3 h0
  obtain ⟨f, hf, _, b1⟩ := DataW.trod_int Tryd.underlying3 h1
  have b0 := bounds_i64 b0
  have b1 := bounds_i64 b1
  refine ⟨⟨e, f⟩, ⟨b0.1, b0.2, b1.1, b1.2⟩, ?_⟩
  have hl : cs.length = 2 := hl
  have he : cs[0]? = some _ := cut1 he
  have hf : cs[1]? = some _ := cut1 hf
  match cs, hl with
  | [a, b], _ =>
    simp at he hf
    subst he; subst hf
    rfl

theorem open_ballot {W : World} {r : Reach} {b : Nat} {v : Value} {d : DataW H} {ps : List MemPlace} (hval : Value.okWide Tryd.prog W r b 23 v) (h : DataW.Trod enc Tryd.prog w 0 spare held 23 v d ps) :
    ∃ x : Ba, (-9223372036854775808 ≤ x.r ∧ x.r ≤ 9223372036854775807 ∧ -9223372036854775808 ≤ x.p ∧ x.p ≤ 9223372036854775807) ∧ v = .agg x.cells.toArray := by
  obtain ⟨cs, rfl, _⟩ := okWide_struct Tryd.underlying23 hval
  obtain ⟨fuel, hf⟩ := h
  obtain ⟨x, hb, hx⟩ := read_ballot _ _ _ hf
  have hx : cs.toList = x.cells := hx
  exact ⟨x, hb, by rw [← hx]⟩
theorem open_ba {W : World} {r : Reach} {b : Nat} {v : Value} {d : DataW H} {ps : List MemPlace} (hval : Value.okWide Tryd.prog W r b 23 v) (h : DataW.Trod enc Tryd.prog w 0 spare held 23 v d ps) :
    ∃ x : Ba, v = .agg x.cells.toArray := by
  obtain ⟨x, _, hx⟩ := open_ballot hval h
  exact ⟨x, hx⟩
end
end Bl
end Go.Proofs.YtojkccdmnhppnaaDoor
