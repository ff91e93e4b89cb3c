/- How a request that comes in reads. -/
import Derived.Test.YthnolfgbpifcaaaSessionOpen
namespace Go.Proofs.Ythnolfgbpifcaaa
open Go.RowKit Go.ChangeShapes Go.WideShapes Go.Deep

namespace Se
section
variable {H : Type} {enc : TypeId × Value → H} {w : World} {spare : Nat → Bool} {held : Bool}
theorem read_req (n : Nat) (cs : List Value) (y : DataW H × List MemPlace) (h : DataW.trod enc Try.prog w 0 spare held n 44 cs = some y) : ∃ x : Int × Int, True ∧ cs = [.int .i64 x.1, .int .i64 x.2] := by
  obtain ⟨y0, y1, m, _, hl, h0, h1⟩ := trod_struct2 Try.underlying44 h
  obtain ⟨e, he, _⟩ := DataW.trod_int Try.underlying3 h0
  obtain ⟨f, hf, _⟩ := DataW.trod_int Try.underlying3 h1
  refine ⟨(e, f), trivial, ?_⟩
  have hl : cs.length = 2 := hl
  have he : cs[0]? = some _ := cut1 he
  have hf : cs[1]? = some _ := cut1 hf
  match cs, hl with
  | [a, b], _ =>
    simp at he hf
    subst he; subst hf
    rfl
theorem open_req {W : World} {r : Reach} {b : Nat} {v : Value} {d : DataW H} {ps : List MemPlace} (hval : Value.okWide Try.prog W r b 44 v) (h : DataW.Trod enc Try.prog w 0 spare held 44 v d ps) :
    ∃ x : Int × Int, v = .agg #[.int .i64 x.1, .int .i64 x.2] := by
  obtain ⟨cs, rfl, _⟩ := okWide_struct Try.underlying44 hval
  obtain ⟨fuel, hf⟩ := h
  obtain ⟨x, _, hx⟩ := read_req _ _ _ hf
  have hx : cs.toList = _ := hx
  exact ⟨x, by rw [← hx]⟩
end
end Se
end Go.Proofs.Ythnolfgbpifcaaa
