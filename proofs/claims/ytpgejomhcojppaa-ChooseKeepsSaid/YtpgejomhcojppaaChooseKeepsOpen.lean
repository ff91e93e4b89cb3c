/- How acts in a slot that come in read. -/
import Derived.Test.YtpgejomhcojppaaChooseOpen
import Derived.Test.YtpgejomhcojppaaChooseKeepsPlain
namespace Go.Proofs.Ytpgejomhcojppaa
open Go.RowKit Go.ChangeShapes Go.WideShapes Go.Deep Go.Joins
namespace Ch
def kaC (x : Ka) : List Value := [.int .u8 (x.k : Nat), .int .u8 (x.who : Nat), .int .u8 (x.so : Nat), .int .u8 (x.ot : Nat)]
def kaOk (x : Ka) : Prop := x.k < 256 ∧ x.who < 256 ∧ x.so < 256 ∧ x.ot < 256
theorem kaC_len (x : Ka) : (kaC x).length = 4 := rfl
section
variable {H : Type} {enc : TypeId × Value → H} {w : World} {spare : Nat → Bool} {held : Bool}
set_option maxRecDepth 100000 in
theorem read_ka (n : Nat) (cs : List Value) (y : DataW H × List MemPlace) (h : DataW.trod enc Try.prog w 0 spare held n 47 cs = some y) : ∃ x : Ka, kaOk x ∧ cs = kaC x := by
  obtain ⟨y0, y1, y2, y3, m, _, hl, h0, h1, h2, h3⟩ := trod_struct4 Try.underlying47 h
  obtain ⟨e, he, _, b0⟩ := DataW.trod_int Try.underlying5 h0
  obtain ⟨f, hf, _, b1⟩ := DataW.trod_int Try.underlying5 h1
  obtain ⟨g, hg, _, b2⟩ := DataW.trod_int Try.underlying5 h2
  obtain ⟨s, hs, _, b3⟩ := DataW.trod_int Try.underlying5 h3
  have c0 := bounds_u8 b0
  have c1 := bounds_u8 b1
  have c2 := bounds_u8 b2
  have c3 := bounds_u8 b3
  obtain ⟨k0, rfl⟩ := Int.eq_ofNat_of_zero_le c0.1
  obtain ⟨k1, rfl⟩ := Int.eq_ofNat_of_zero_le c1.1
  obtain ⟨k2, rfl⟩ := Int.eq_ofNat_of_zero_le c2.1
  obtain ⟨k3, rfl⟩ := Int.eq_ofNat_of_zero_le c3.1
  refine ⟨⟨k0, k1, k2, k3⟩, ⟨by show k0 < 256; omega, by show k1 < 256; omega, by show k2 < 256; omega, by show k3 < 256; omega⟩, ?_⟩
  have hl : cs.length = 4 := hl.trans (by kernel_rfl)
  have he : cs[0]? = some _ := cut1 he
  have hf : cs[1]? = some _ := cut1 hf
  have hg : cs[2]? = some _ := cut1 hg
  have hs : cs[3]? = some _ := cut1 hs
  match cs, hl with
  | [a, b, c, d], _ =>
    simp at he hf hg hs
    subst he; subst hf; subst hg; subst hs
    rfl
end
end Ch
end Go.Proofs.Ytpgejomhcojppaa
