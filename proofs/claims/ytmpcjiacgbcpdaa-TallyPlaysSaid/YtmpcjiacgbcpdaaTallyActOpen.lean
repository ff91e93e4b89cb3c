/- How a slice of acts that comes in reads. -/
import Derived.Test.YtmpcjiacgbcpdaaTallyPlays
import Derived.Test.YtmpcjiacgbcpdaaOpen
import Derived.Deep.Strs
namespace Go.Proofs.Ytmpcjiacgbcpdaa
open Go.RowKit Go.ChangeShapes Go.WideShapes Go.Deep

namespace Ta
theorem cut1a {cs : List Value} {o : Nat} {v : Value} (h : (cs.drop o).take 1 = [v]) : cs[o]? = some v := by
  have h0 := congrArg (·[0]?) h
  simpa using h0
section
variable {H : Type} {enc : TypeId × Value → H} {w : World} {spare : Nat → Bool} {held : Bool}

theorem read_act (n : Nat) (cs : List Value) (y : DataW H × List MemPlace) (h : DataW.trod enc Try.prog w 0 spare held n 38 cs = some y) :
    ∃ x : TAct, actOk x ∧ cs = acf x := by
  obtain ⟨y0, y1, y2, m, _, hl, h0, h1, h2⟩ := trod_struct3 Try.underlying38 h
  obtain ⟨d, hd, _, b2⟩ := DataW.trod_int Try.underlying5 h0
  obtain ⟨e, he, _, b0⟩ := DataW.trod_int Try.underlying3 h1
  obtain ⟨f, hf, _, b1⟩ := DataW.trod_int Try.underlying3 h2
  have hb0 := bounds_u8 b2
  obtain ⟨k, rfl⟩ := Int.eq_ofNat_of_zero_le hb0.1
  refine ⟨(k, e, f), ⟨by show k < 256; omega, bounds_i64 b0⟩, ?_⟩
  have hl : cs.length = 3 := hl
  have hd : cs[0]? = some _ := cut1a hd
  have he : cs[1]? = some _ := cut1a he
  have hf : cs[2]? = some _ := cut1a hf
  match cs, hl with
  | [a, b, c], _ =>
    simp at hd he hf
    subst hd; subst he; subst hf
    rfl
end
end Ta
end Go.Proofs.Ytmpcjiacgbcpdaa
