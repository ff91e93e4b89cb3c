/- How reports that come in read. -/
import Derived.Test.YtpgejomhcojppaaChoosePlain
import Derived.Test.YtpgejomhcojppaaOpen
import Derived.Deep.Strs
import Derived.Lib.SmallJoins
namespace Go.Proofs.Ytpgejomhcojppaa
open Go.RowKit Go.ChangeShapes Go.WideShapes Go.Deep Go.Joins

namespace Ch
open Bl
section
variable {H : Type} {enc : TypeId × Value → H} {w : World} {spare : Nat → Bool} {held : Bool}

theorem cut1 {cs : List Value} {o : Nat} {v : Value} (h : (cs.drop o).take 1 = [v]) : cs[o]? = some v := by
  have h0 := congrArg (·[0]?) h
  simpa using h0
def opC (x : Op) : List Value := [.int .u8 (x.k : Nat), .string x.a, .string x.b, .string x.c]
set_option maxRecDepth 100000 in
theorem read_op (n : Nat) (cs : List Value) (y : DataW H × List MemPlace) (h : DataW.trod enc Try.prog w 0 spare held n 29 cs = some y) : ∃ x : Op, cs = opC x := by
  obtain ⟨y0, y1, y2, y3, m, _, hl, h0, h1, h2, h3⟩ := trod_struct4 Try.underlying29 h
  obtain ⟨e, he, _, b0⟩ := DataW.trod_int Try.underlying5 h0
  obtain ⟨f, hf, _⟩ := DataW.trod_string Try.underlying9 h1
  obtain ⟨g, hg, _⟩ := DataW.trod_string Try.underlying9 h2
  obtain ⟨s, hs, _⟩ := DataW.trod_string Try.underlying9 h3
  have hb0 := bounds_u8 b0
  obtain ⟨k, rfl⟩ := Int.eq_ofNat_of_zero_le hb0.1
  refine ⟨⟨k, f, g, s⟩, ?_⟩
  have hl : cs.length = 4 := hl.trans (by kernel_rfl)
  have he : cs[0]? = some _ := cut1 he
  have hf : cs[1]? = some _ := cut1 hf
  have hg : cs[2]? = some _ := cut1 hg
  have hs : cs[3]? = some _ := cut1 hs
  match cs, hl with
  | [a, b, c, d], _ =>
    simp at he hf hg hs
    subst he; subst hf; subst hg; subst hs
    rfl
set_option maxRecDepth 100000 in
theorem read_en (n : Nat) (cs : List Value) (y : DataW H × List MemPlace) (h : DataW.trod enc Try.prog w 0 spare held n 31 cs = some y) : ∃ x : En, cs = enC x := by
  obtain ⟨y0, y1, y2, y3, m, _, hl, h0, h1, h2, h3⟩ := trod_struct4 Try.underlying31 h
  obtain ⟨e, he, _, b0⟩ := DataW.trod_int Try.underlying5 h0
  obtain ⟨f, hf, _⟩ := DataW.trod_int Try.underlying3 h1
  obtain ⟨g, hg, _⟩ := DataW.trod_int Try.underlying3 h2
  obtain ⟨p, hp⟩ := read_op _ _ _ h3
  have hb0 := bounds_u8 b0
  obtain ⟨k, rfl⟩ := Int.eq_ofNat_of_zero_le hb0.1
  refine ⟨⟨k, f, g, p⟩, ?_⟩
  have hl : cs.length = 7 := hl.trans (by kernel_rfl)
  have he : cs[0]? = some _ := cut1 he
  have hf : cs[1]? = some _ := cut1 hf
  have hg : cs[2]? = some _ := cut1 hg
  have hp : (cs.drop 3).take 4 = opC p := hp
  match cs, hl with
  | [a, b, c, d, e', f', g'], _ =>
    simp at he hf hg hp
    subst he; subst hf; subst hg
    simp only [opC, List.cons.injEq] at hp
    obtain ⟨rfl, rfl, rfl, rfl, _⟩ := hp
    rfl
set_option maxRecDepth 100000 in
theorem read_bal (n : Nat) (cs : List Value) (y : DataW H × List MemPlace) (h : DataW.trod enc Try.prog w 0 spare held n 27 cs = some y) : ∃ x : Ba, cs = baC x := by
  obtain ⟨y0, y1, m, _, hl, h0, h1⟩ := trod_struct2 Try.underlying27 h
  obtain ⟨q, hq, _⟩ := DataW.trod_int Try.underlying3 h0
  obtain ⟨r, hr, _⟩ := DataW.trod_int Try.underlying3 h1
  refine ⟨⟨q, r⟩, ?_⟩
  have hl : cs.length = 2 := hl.trans (by kernel_rfl)
  have hq : cs[0]? = some _ := cut1 hq
  have hr : cs[1]? = some _ := cut1 hr
  match cs, hl with
  | [a, b], _ =>
    simp at hq hr
    subst hq; subst hr
    rfl
def rpOk (x : Rp) : Prop := x.st < 256
set_option maxRecDepth 100000 in
theorem read_rp (n : Nat) (cs : List Value) (y : DataW H × List MemPlace) (h : DataW.trod enc Try.prog w 0 spare held n 33 cs = some y) : ∃ x : Rp, rpOk x ∧ cs = rpC x := by
  obtain ⟨y0, y1, y2, y3, m, _, hl, h0, h1, h2, h3⟩ := trod_struct4 Try.underlying33 h
  obtain ⟨f, hf, _⟩ := DataW.trod_int Try.underlying3 h0
  obtain ⟨e, he, _, b0⟩ := DataW.trod_int Try.underlying5 h1
  obtain ⟨g, hg⟩ := read_bal _ _ _ h2
  obtain ⟨p, hp⟩ := read_en _ _ _ h3
  have hb0 := bounds_u8 b0
  obtain ⟨k, rfl⟩ := Int.eq_ofNat_of_zero_le hb0.1
  refine ⟨⟨f, k, g, p⟩, by show k < 256; omega, ?_⟩
  have hl : cs.length = 11 := hl.trans (by kernel_rfl)
  have hf : cs[0]? = some _ := cut1 hf
  have he : cs[1]? = some _ := cut1 he
  have hg : (cs.drop 2).take 2 = baC g := hg
  have hp : (cs.drop 4).take 7 = enC p := hp
  match cs, hl with
  | [a, b, c, d, e', f', g', h', i', j', k'], _ =>
    simp at he hf hg hp
    subst he; subst hf
    simp only [baC, List.cons.injEq] at hg
    simp only [enC, List.cons.injEq] at hp
    obtain ⟨rfl, rfl, _⟩ := hg
    obtain ⟨rfl, rfl, rfl, rfl, rfl, rfl, rfl, _⟩ := hp
    rfl
end
end Ch
end Go.Proofs.Ytpgejomhcojppaa
