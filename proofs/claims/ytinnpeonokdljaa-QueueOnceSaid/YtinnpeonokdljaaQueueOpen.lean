/- How requests and acts that come in read. -/
import Derived.Test.YtinnpeonokdljaaQueueGreat
import Derived.Test.YtinnpeonokdljaaOpen
import Derived.Deep.Strs
import Derived.Lib.SmallJoins
namespace Go.Proofs.Ytinnpeonokdljaa
open Go.RowKit Go.ChangeShapes Go.WideShapes Go.Deep Go.Joins

namespace Qu
section
variable {H : Type} {enc : TypeId × Value → H} {w : World} {spare : Nat → Bool} {held : Bool}

theorem cut1 {cs : List Value} {o : Nat} {v : Value} (h : (cs.drop o).take 1 = [v]) : cs[o]? = some v := by
  have h0 := congrArg (·[0]?) h
  simpa using h0
theorem read_po (n : Nat) (cs : List Value) (y : DataW H × List MemPlace) (h : DataW.trod enc Try.prog w 0 spare held n 23 cs = some y) : ∃ x : Po, x.kind < 256 ∧ cs = opC x := by
  obtain ⟨y0, y1, y2, y3, m, _, hl, h0, h1, h2, h3⟩ := trod_struct4 Try.underlying23 h
  obtain ⟨e, he, _, b0⟩ := DataW.trod_int Try.underlying5 h0
  obtain ⟨f, hf, _⟩ := DataW.trod_string Try.underlying9 h1
  obtain ⟨g, hg, _⟩ := DataW.trod_string Try.underlying9 h2
  obtain ⟨s, hs, _⟩ := DataW.trod_string Try.underlying9 h3
  have hb0 := bounds_u8 b0
  obtain ⟨k, rfl⟩ := Int.eq_ofNat_of_zero_le hb0.1
  refine ⟨⟨k, f, g, s⟩, by show k < 256; omega, ?_⟩
  have hl : cs.length = 4 := hl
  have he : cs[0]? = some _ := cut1 he
  have hf : cs[1]? = some _ := cut1 hf
  have hg : cs[2]? = some _ := cut1 hg
  have hs : cs[3]? = some _ := cut1 hs
  match cs, hl with
  | [a, b, c, d], _ =>
    simp at he hf hg hs
    subst he; subst hf; subst hg; subst hs
    rfl
theorem read_rq (n : Nat) (cs : List Value) (y : DataW H × List MemPlace) (h : DataW.trod enc Try.prog w 0 spare held n 25 cs = some y) : ∃ x : Rq, x.op.kind < 256 ∧ cs = rqC x := by
  obtain ⟨y0, y1, y2, m, _, hl, h0, h1, h2⟩ := trod_struct3 Try.underlying25 h
  obtain ⟨e, he, _⟩ := DataW.trod_int Try.underlying3 h0
  obtain ⟨f, hf, _⟩ := DataW.trod_int Try.underlying3 h1
  obtain ⟨p, hk, hp⟩ := read_po _ _ _ h2
  refine ⟨⟨e, f, p⟩, hk, ?_⟩
  have hl : cs.length = 6 := hl
  have he : cs[0]? = some _ := cut1 he
  have hf : cs[1]? = some _ := cut1 hf
  have hp : (cs.drop 2).take 4 = opC p := hp
  match cs, hl with
  | [a, b, c, d, e', f'], _ =>
    simp at he hf hp
    subst he; subst hf
    simp only [opC, List.cons.injEq] at hp
    obtain ⟨rfl, rfl, rfl, rfl, _⟩ := hp
    rfl
theorem open_rq {W : World} {r : Reach} {b : Nat} {v : Value} {d : DataW H} {ps : List MemPlace} (hval : Value.okWide Try.prog W r b 25 v) (h : DataW.Trod enc Try.prog w 0 spare held 25 v d ps) : ∃ x : Rq, v = .agg (rqC x).toArray := by
  obtain ⟨cs, rfl, _⟩ := okWide_struct Try.underlying25 hval
  obtain ⟨fuel, hf⟩ := h
  obtain ⟨x, _, hx⟩ := read_rq _ _ _ hf
  have hx : cs.toList = rqC x := hx
  exact ⟨x, by rw [← hx]⟩
/-- What an act's numbers may be. -/
def acOk (x : Ac) : Prop := x.kind < 256 ∧ x.r.op.kind < 256
theorem read_ac (n : Nat) (cs : List Value) (y : DataW H × List MemPlace) (h : DataW.trod enc Try.prog w 0 spare held n 28 cs = some y) : ∃ x : Ac, acOk x ∧ cs = acC x := by
  obtain ⟨y0, y1, y2, y3, m, _, hl, h0, h1, h2, h3⟩ := trod_struct4 Try.underlying28 h
  obtain ⟨e, he, _, b0⟩ := DataW.trod_int Try.underlying5 h0
  obtain ⟨r, hk, hr⟩ := read_rq _ _ _ h1
  obtain ⟨g, hg, _⟩ := DataW.trod_int Try.underlying3 h2
  obtain ⟨s, hs, _⟩ := DataW.trod_int Try.underlying3 h3
  have hb0 := bounds_u8 b0
  obtain ⟨k, rfl⟩ := Int.eq_ofNat_of_zero_le hb0.1
  refine ⟨⟨k, r, g, s⟩, ⟨by show k < 256; omega, hk⟩, ?_⟩
  have hl : cs.length = 9 := hl
  have he : cs[0]? = some _ := cut1 he
  have hr : (cs.drop 1).take 6 = rqC r := hr
  have hg : cs[7]? = some _ := cut1 hg
  have hs : cs[8]? = some _ := cut1 hs
  match cs, hl with
  | [a, b, c, d, e', f', g', h', i'], _ =>
    simp at he hr hg hs
    subst he; subst hg; subst hs
    simp only [rqC, List.cons.injEq] at hr
    obtain ⟨rfl, rfl, rfl, rfl, rfl, rfl, _⟩ := hr
    rfl
end
end Qu
end Go.Proofs.Ytinnpeonokdljaa
