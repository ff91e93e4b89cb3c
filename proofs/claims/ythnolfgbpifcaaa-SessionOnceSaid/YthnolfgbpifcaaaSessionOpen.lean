/- How a reply, a row and a table that come in read. -/
import Derived.Test.YthnolfgbpifcaaaSessionPlain
import Derived.Test.YthnolfgbpifcaaaSessionWalks
import Derived.Test.YthnolfgbpifcaaaOpen
import Derived.Deep.Strs
namespace Go.Proofs.Ythnolfgbpifcaaa
open Go.RowKit Go.ChangeShapes Go.WideShapes Go.Deep

namespace Se
section
variable {H : Type} {enc : TypeId × Value → H} {w : World} {spare : Nat → Bool} {held : Bool}

theorem cut1 {cs : List Value} {o : Nat} {v : Value} (h : (cs.drop o).take 1 = [v]) : cs[o]? = some v := by
  have h0 := congrArg (·[0]?) h
  simpa using h0

theorem read_reply (n : Nat) (cs : List Value) (y : DataW H × List MemPlace) (h : DataW.trod enc Try.prog w 0 spare held n 24 cs = some y) : ∃ x : Rp, cs = x.cells := by
  obtain ⟨y0, y1, y2, m, _, hl, h0, h1, h2⟩ := trod_struct3 Try.underlying24 h
  obtain ⟨e, he, _⟩ := DataW.trod_int Try.underlying22 h0
  obtain ⟨f, hf, _⟩ := DataW.trod_bool Try.underlying4 h1
  obtain ⟨s, hs, _⟩ := DataW.trod_string Try.underlying9 h2
  refine ⟨⟨e, f, s⟩, ?_⟩
  have hl : cs.length = 3 := hl
  have he : cs[0]? = some _ := cut1 he
  have hf : cs[1]? = some _ := cut1 hf
  have hs : cs[2]? = some _ := cut1 hs
  match cs, hl with
  | [a, b, c], _ =>
    simp at he hf hs
    subst he; subst hf; subst hs
    rfl

theorem read_row (n : Nat) (cs : List Value) (y : DataW H × List MemPlace) (h : DataW.trod enc Try.prog w 0 spare held n 26 cs = some y) : ∃ x : Rw, cs = x.cells := by
  obtain ⟨y0, y1, m, _, hl, h0, h1⟩ := trod_struct2 Try.underlying26 h
  obtain ⟨q, hq, _⟩ := DataW.trod_int Try.underlying3 h0
  obtain ⟨r, hr⟩ := read_reply _ _ _ h1
  refine ⟨⟨q, r⟩, ?_⟩
  have hl : cs.length = 4 := hl
  have hq : cs[0]? = some _ := cut1 hq
  have hr : (cs.drop 1).take 3 = r.cells := hr
  match cs, hl with
  | [a, b, c, d], _ =>
    simp at hq hr
    subst hq
    show _ = [Value.int .i64 q, _, _, _]
    simp only [Rp.cells, List.cons.injEq] at hr
    obtain ⟨rfl, rfl, rfl, _⟩ := hr
    rfl

theorem read_table (n : Nat) (cs : List Value) (y : DataW H × List MemPlace) (h : DataW.trod enc Try.prog w 0 spare held n 28 cs = some y) : ∃ x : Tb, cs = x.cells := by
  obtain ⟨xs, m, _, _, hl, hlen, hf⟩ := DataW.trod_array Try.underlying28 h
  have hc : Try.prog.cellsOf 26 = 4 := by kernel_rfl
  have hl : cs.length = 16 := hl
  have hg : ∀ i, i < 4 → ∃ x : Rw, (cs.drop (i * 4)).take 4 = x.cells := fun i hi => by
    have := hf i hi
    rw [List.getElem?_eq_getElem (by omega), hc] at this
    exact read_row _ _ _ this
  obtain ⟨r0, h0⟩ := hg 0 (by omega)
  obtain ⟨r1, h1⟩ := hg 1 (by omega)
  obtain ⟨r2, h2⟩ := hg 2 (by omega)
  obtain ⟨r3, h3⟩ := hg 3 (by omega)
  refine ⟨⟨r0, r1, r2, r3⟩, ?_⟩
  have e : cs = (cs.drop 0).take 4 ++ (cs.drop 4).take 4 ++ (cs.drop 8).take 4 ++ (cs.drop 12).take 4 := by
    have a1 : (cs.drop 12).take 4 = cs.drop 12 := List.take_of_length_le (by simp; omega)
    have a2 : (cs.drop 8).take 4 ++ cs.drop 12 = cs.drop 8 := by have := List.take_append_drop 4 (cs.drop 8); rwa [List.drop_drop] at this
    have a3 : (cs.drop 4).take 4 ++ cs.drop 8 = cs.drop 4 := by have := List.take_append_drop 4 (cs.drop 4); rwa [List.drop_drop] at this
    have a4 : (cs.drop 0).take 4 ++ cs.drop 4 = cs := List.take_append_drop 4 cs
    rw [List.append_assoc, List.append_assoc, a1, a2, a3, a4]
  rw [e, h0, h1, h2, h3]
  rfl

theorem open_reply {W : World} {r : Reach} {b : Nat} {v : Value} {d : DataW H} {ps : List MemPlace} (hval : Value.okWide Try.prog W r b 24 v) (h : DataW.Trod enc Try.prog w 0 spare held 24 v d ps) : ∃ x : Rp, v = .agg x.cells.toArray := by
  obtain ⟨cs, rfl, _⟩ := okWide_struct Try.underlying24 hval
  obtain ⟨fuel, hf⟩ := h
  obtain ⟨x, hx⟩ := read_reply _ _ _ hf
  have hx : cs.toList = x.cells := hx
  exact ⟨x, by rw [← hx]⟩
theorem open_table {W : World} {r : Reach} {b : Nat} {v : Value} {d : DataW H} {ps : List MemPlace} (hval : Value.okWide Try.prog W r b 28 v) (h : DataW.Trod enc Try.prog w 0 spare held 28 v d ps) : ∃ x : Tb, v = .agg x.cells.toArray := by
  simp only [Value.okWide, Try.underlying28] at hval
  obtain ⟨cs, rfl, _⟩ := hval
  obtain ⟨fuel, hf⟩ := h
  obtain ⟨x, hx⟩ := read_table _ _ _ hf
  have hx : cs.toList = x.cells := hx
  exact ⟨x, by rw [← hx]⟩

end
end Se
end Go.Proofs.Ythnolfgbpifcaaa
