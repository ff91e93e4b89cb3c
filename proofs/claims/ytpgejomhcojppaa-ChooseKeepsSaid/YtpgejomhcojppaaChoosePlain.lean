/- Reports in plain Lean, and how they lie in memory. -/
import Derived.Test.YtpgejomhcojppaaBallotEql
import Derived.Test.YtpgejomhcojppaaAppend
import Derived.Test.YtpgejomhcojppaaFoot
import Derived.Test.YtpgejomhcojppaaRowMids
import Derived.Test.YtpgejomhcojppaaSep
set_option linter.unusedSimpArgs false
set_option linter.unusedVariables false
namespace Go.Proofs.Ytpgejomhcojppaa
open Go.RowKit
namespace Ch
open Bl
structure Op where
  k : Nat
  a : ByteArray
  b : ByteArray
  c : ByteArray
structure En where
  k : Nat
  cl : Int
  sq : Int
  op : Op
structure Rp where
  ix : Int
  st : Nat
  b : Ba
  e : En
def enC (x : En) : List Value := [.int .u8 (x.k : Nat), .int .i64 x.cl, .int .i64 x.sq, .int .u8 (x.op.k : Nat), .string x.op.a, .string x.op.b, .string x.op.c]
def rpC (x : Rp) : List Value := [.int .i64 x.ix, .int .u8 (x.st : Nat), .int .i64 x.b.r, .int .i64 x.b.p, .int .u8 (x.e.k : Nat), .int .i64 x.e.cl, .int .i64 x.e.sq, .int .u8 (x.e.op.k : Nat), .string x.e.op.a, .string x.e.op.b, .string x.e.op.c]
def baC (x : Ba) : List Value := [.int .i64 x.r, .int .i64 x.p]
theorem rpC_len (x : Rp) : (rpC x).length = 11 := rfl
theorem baC_len (x : Ba) : (baC x).length = 2 := rfl
def noStr : ByteArray := { data := #[] }
def zeroEn : En := ⟨0, 0, 0, ⟨0, noStr, noStr, noStr⟩⟩
def noopEn : En := ⟨1, 0, 0, ⟨0, noStr, noStr, noStr⟩⟩
def zeroRp : Rp := ⟨0, 0, ⟨0, 0⟩, zeroEn⟩
/-- Those of some states. -/
def only (S : List Nat) (L : List Rp) : List Rp := L.filter fun x => S.contains x.st
/-- Those of a ballot. -/
def byB (b : Ba) (L : List Rp) : List Rp := L.filter fun x => sameB x.b b
/-- The first entry by a ballot. -/
def firstE (b : Ba) (L : List Rp) : En := match byB b L with | [] => zeroEn | x :: _ => x.e
def firstB (b : Ba) (L : List Rp) : Bool := !(byB b L).isEmpty
theorem info_rp : (Try.prog.info? 33).map (fun i => (i.zero, i.size, i.bytes)) = some (some (.agg #[.int .i64 0, .int .u8 0, .int .i64 0, .int .i64 0, .int .u8 0, .int .i64 0, .int .i64 0, .int .u8 0, .string { data := #[] }, .string { data := #[] }, .string { data := #[] }]), 11, 112) := by kernel_rfl
theorem info_ba : (Try.prog.info? 27).map (fun i => (i.zero, i.size, i.bytes)) = some (some (.agg #[.int .i64 0, .int .i64 0]), 2, 16) := by kernel_rfl
theorem info_parts {P : Program} {t : TypeId} {z : Value} {s b : Nat} (h : (P.info? t).map (fun i => (i.zero, i.size, i.bytes)) = some (some z, s, b)) : ∃ i, P.info? t = some i ∧ i.zero = some z ∧ i.size = s ∧ i.bytes = b := by
  cases hi : P.info? t with
  | none => rw [hi] at h; cases h
  | some i =>
    rw [hi] at h
    simp only [Option.map_some, Option.some.injEq, Prod.mk.injEq] at h
    exact ⟨i, rfl, h.1, h.2.1, h.2.2⟩
theorem rpC_one (x : Rp) : ∀ v ∈ rpC x, v.oneCell' = true := by
  intro v hx
  simp only [rpC, List.mem_cons, List.not_mem_nil, or_false] at hx
  rcases hx with rfl | rfl | rfl | rfl | rfl | rfl | rfl | rfl | rfl | rfl | rfl <;> rfl
theorem baC_one (x : Ba) : ∀ v ∈ baC x, v.oneCell' = true := by
  intro v hx
  simp only [baC, List.mem_cons, List.not_mem_nil, or_false] at hx
  rcases hx with rfl | rfl <;> rfl
end Ch
end Go.Proofs.Ytpgejomhcojppaa
