/- How acts that come in read (with their bytes, and what is kept). -/
import Derived.Test.YtnjejffbcgchlaaDiskDo
import Derived.Test.YtnjejffbcgchlaaOpen
import Derived.Deep.Strs
import Derived.Lib.SmallJoins
set_option linter.unusedSimpArgs false
set_option linter.unusedVariables false
namespace Go.Proofs.Ytnjejffbcgchlaa
open Go.RowKit Go.ChangeShapes Go.WideShapes Go.Deep Go.Joins

namespace Di
section
variable {H : Type} {enc : TypeId × Value → H} {w : World} {spare : Nat → Bool} {held : Bool}
theorem trod_five {P : Program} {base : Nat} {t : TypeId} {f0 f1 f2 f3 f4 : Field} {fuel : Nat} {cs : List Value} {x : DataW H × List MemPlace} (ht : P.underlying t = some (.struct #[f0, f1, f2, f3, f4])) (h : DataW.trod enc P w base spare held fuel t cs = some x) :
    ∃ y0 y1 y2 y3 y4 n, cs.length = P.cellsOf t ∧ DataW.trod enc P w base spare held n f0.type ((cs.drop f0.offset).take (P.cellsOf f0.type)) = some y0 ∧
      DataW.trod enc P w base spare held n f1.type ((cs.drop f1.offset).take (P.cellsOf f1.type)) = some y1 ∧ DataW.trod enc P w base spare held n f2.type ((cs.drop f2.offset).take (P.cellsOf f2.type)) = some y2 ∧
      DataW.trod enc P w base spare held n f3.type ((cs.drop f3.offset).take (P.cellsOf f3.type)) = some y3 ∧ DataW.trod enc P w base spare held n f4.type ((cs.drop f4.offset).take (P.cellsOf f4.type)) = some y4 := by
  obtain ⟨xs, n, _, rfl, hl, hlen, hf⟩ := DataW.trod_struct ht h
  match xs, hlen with
  | [y0, y1, y2, y3, y4], _ => exact ⟨y0, y1, y2, y3, y4, n, hl, by simpa using hf 0 f0 rfl, by simpa using hf 1 f1 rfl, by simpa using hf 2 f2 rfl, by simpa using hf 3 f3 rfl, by simpa using hf 4 f4 rfl⟩
theorem cut1 {cs : List Value} {o : Nat} {v : Value} (h : (cs.drop o).take 1 = [v]) : cs[o]? = some v := by
  have h0 := congrArg (·[0]?) h
  simpa using h0
theorem read_u8i (n : Nat) (cs : List Value) (y : DataW H × List MemPlace) (_ : cs.length = 1) (h : DataW.trod enc Try.prog w 0 spare held n 5 cs = some y) :
    ∃ a : Int, True ∧ cs = [.int .u8 a] := by
  obtain ⟨z, rfl, _, hw⟩ := DataW.trod_int Try.underlying5 h
  exact ⟨z, trivial, rfl⟩
theorem read_bytes (n : Nat) (cs : List Value) (y : DataW H × List MemPlace) (h : DataW.trod enc Try.prog w 0 spare held n 22 cs = some y) : ∃ (v : Value) (bs : List Int), cs = [v] ∧ Row w w.heap.size v bs.length (u8s bs) := by
  have hv : ∃ A l c, cs = [.slice A l c] := by
    rcases open_slice Try.underlying22 h with ⟨hcs, _⟩ | ⟨a, len, cap, m, n', D, Pl, hcs, _⟩
    · exact ⟨_, _, _, hcs⟩
    · exact ⟨_, _, _, hcs⟩
  obtain ⟨A, l, c, rfl⟩ := hv
  obtain ⟨xs, _, hr⟩ := open_row_of (K := 1) (f := fun a : Int => [Value.int .u8 a]) (v := .slice A l c) (d := y.1) (ps := y.2) Try.underlying22 (by kernel_rfl) (by omega) (fun _ => rfl) read_u8i rfl ⟨n, h⟩
  rw [flat_one] at hr
  exact ⟨_, xs, rfl, hr⟩
theorem read_keep (n : Nat) (cs : List Value) (y : DataW H × List MemPlace) (h : DataW.trod enc Try.prog w 0 spare held n 23 cs = some y) : ∃ (v : Value) (bs : List Bool), cs = [v] ∧ Row w w.heap.size v bs.length (bools bs) := by
  have hv : ∃ A l c, cs = [.slice A l c] := by
    rcases open_slice Try.underlying23 h with ⟨hcs, _⟩ | ⟨a, len, cap, m, n', D, Pl, hcs, _⟩
    · exact ⟨_, _, _, hcs⟩
    · exact ⟨_, _, _, hcs⟩
  obtain ⟨A, l, c, rfl⟩ := hv
  obtain ⟨xs, _, hr⟩ := open_row_of (K := 1) (f := fun a : Bool => [Value.bool a]) (v := .slice A l c) (d := y.1) (ps := y.2) Try.underlying23 (by kernel_rfl) (by omega) (fun _ => rfl) (read_bool Try.underlying4) rfl ⟨n, h⟩
  rw [flat_one] at hr
  exact ⟨_, xs, rfl, hr⟩
/-- An act that came in, with its slices' values. -/
structure Av where
  a : Ac
  bv : Value
  kv : Value
def avC (x : Av) : List Value := [.int .u8 (x.a.kind : Nat), .int .i64 x.a.sector, .int .i64 x.a.n, x.bv, x.kv]
def avOk (w : World) (x : Av) : Prop := x.a.kind < 256 ∧ (-9223372036854775808 ≤ x.a.n ∧ x.a.n ≤ 9223372036854775807) ∧ Row w w.heap.size x.bv x.a.bytes.length (u8s x.a.bytes) ∧ Row w w.heap.size x.kv x.a.keep.length (bools x.a.keep)
theorem read_av (n : Nat) (cs : List Value) (y : DataW H × List MemPlace) (h : DataW.trod enc Try.prog w 0 spare held n 33 cs = some y) : ∃ x : Av, avOk w x ∧ cs = avC x := by
  obtain ⟨y0, y1, y2, y3, y4, m, hl, h0, h1, h2, h3, h4⟩ := trod_five Try.underlying33 h
  obtain ⟨e, he, _, b0⟩ := DataW.trod_int Try.underlying5 h0
  obtain ⟨f, hf, _⟩ := DataW.trod_int Try.underlying3 h1
  obtain ⟨g, hg, _, b2⟩ := DataW.trod_int Try.underlying3 h2
  obtain ⟨bv, bs, hb, hrb⟩ := read_bytes _ _ _ h3
  obtain ⟨kv, ks, hk, hrk⟩ := read_keep _ _ _ h4
  have hb0 := bounds_u8 b0
  have hb2 := bounds_i64 b2
  obtain ⟨k, rfl⟩ := Int.eq_ofNat_of_zero_le hb0.1
  refine ⟨⟨⟨k, f, g, bs, ks⟩, bv, kv⟩, ⟨by show k < 256; omega, hb2, hrb, hrk⟩, ?_⟩
  have hl : cs.length = 5 := hl
  have he : cs[0]? = some _ := cut1 he
  have hf : cs[1]? = some _ := cut1 hf
  have hg : cs[2]? = some _ := cut1 hg
  have hb : cs[3]? = some _ := cut1 hb
  have hk : cs[4]? = some _ := cut1 hk
  match cs, hl with
  | [a, b, c, d, e'], _ =>
    simp at he hf hg hb hk
    subst he; subst hf; subst hg; subst hb; subst hk
    rfl
end
end Di
end Go.Proofs.Ytnjejffbcgchlaa
