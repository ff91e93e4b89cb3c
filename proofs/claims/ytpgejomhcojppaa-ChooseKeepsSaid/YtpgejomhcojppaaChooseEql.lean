/- '==' and '!=' of two entries, of two reports, as one step. -/
import Derived.Test.YtpgejomhcojppaaChoosePlain
set_option linter.unusedSimpArgs false
set_option linter.unusedVariables false
namespace Go.Proofs.Ytpgejomhcojppaa
open Go.RowKit
namespace Ch
open Bl
theorem toList_inj {a b : ByteArray} : a.toList = b.toList ↔ a = b := by
  constructor
  · intro h
    rw [ByteArray.toList_eq, ByteArray.toList_eq] at h
    obtain ⟨⟨x⟩⟩ := a
    obtain ⟨⟨y⟩⟩ := b
    simp at h
    subst h; rfl
  · intro h; rw [h]
/-- Are two entries the same? -/
def eqE (k cl sq ok : Int) (a b c : ByteArray) (k' cl' sq' ok' : Int) (a' b' c' : ByteArray) : Bool := decide (k = k' ∧ cl = cl' ∧ sq = sq' ∧ ok = ok' ∧ a = a' ∧ b = b' ∧ c = c')
theorem eqE_iff {k cl sq ok k' cl' sq' ok' : Int} {a b c a' b' c' : ByteArray} : eqE k cl sq ok a b c k' cl' sq' ok' a' b' c' = true ↔ k = k' ∧ cl = cl' ∧ sq = sq' ∧ ok = ok' ∧ a = a' ∧ b = b' ∧ c = c' := by unfold eqE; rw [decide_eq_true_eq]
theorem eqE_self (k cl sq ok : Int) (a b c : ByteArray) : eqE k cl sq ok a b c k cl sq ok a b c = true := eqE_iff.2 ⟨rfl, rfl, rfl, rfl, rfl, rfl, rfl⟩
/-- Are two entries the same? -/
def sameE (x y : En) : Bool := eqE (x.k : Nat) x.cl x.sq (x.op.k : Nat) x.op.a x.op.b x.op.c (y.k : Nat) y.cl y.sq (y.op.k : Nat) y.op.a y.op.b y.op.c
theorem sameE_iff {x y : En} : sameE x y = true ↔ x = y := by
  unfold sameE
  rw [eqE_iff]
  obtain ⟨k, cl, sq, ⟨ok, a, b, c⟩⟩ := x
  obtain ⟨k', cl', sq', ⟨ok', a', b', c'⟩⟩ := y
  simp only [En.mk.injEq, Op.mk.injEq, Int.natCast_inj]
theorem sameE_self (x : En) : sameE x x = true := sameE_iff.2 rfl
theorem eql_en (k cl sq ok k' cl' sq' ok' : Int) (a b c a' b' c' : ByteArray) (w : World) : (binOp .eql 31 (.agg #[.int .u8 k, .int .i64 cl, .int .i64 sq, .int .u8 ok, .string a, .string b, .string c]) (.agg #[.int .u8 k', .int .i64 cl', .int .i64 sq', .int .u8 ok', .string a', .string b', .string c'])).run Try.prog w = .ok (.bool (eqE k cl sq ok a b c k' cl' sq' ok' a' b' c')) w := by
  unfold eqE
  simp [go_sem, toList_inj]
  by_cases h1 : k = k' <;> simp [h1]
  by_cases h2 : cl = cl' <;> simp [h2]
  by_cases h3 : sq = sq' <;> simp [h3]
  by_cases h4 : ok = ok' <;> simp [h4]
  by_cases h5 : a = a' <;> simp [h5]
  by_cases h6 : b = b' <;> simp [h6]
  by_cases h7 : c = c' <;> simp [h7]
theorem neq_en (k cl sq ok k' cl' sq' ok' : Int) (a b c a' b' c' : ByteArray) (w : World) : (binOp .neq 31 (.agg #[.int .u8 k, .int .i64 cl, .int .i64 sq, .int .u8 ok, .string a, .string b, .string c]) (.agg #[.int .u8 k', .int .i64 cl', .int .i64 sq', .int .u8 ok', .string a', .string b', .string c'])).run Try.prog w = .ok (.bool (!eqE k cl sq ok a b c k' cl' sq' ok' a' b' c')) w := by
  unfold eqE
  simp [go_sem, toList_inj]
  by_cases h1 : k = k' <;> simp [h1]
  by_cases h2 : cl = cl' <;> simp [h2]
  by_cases h3 : sq = sq' <;> simp [h3]
  by_cases h4 : ok = ok' <;> simp [h4]
  by_cases h5 : a = a' <;> simp [h5]
  by_cases h6 : b = b' <;> simp [h6]
  by_cases h7 : c = c' <;> simp [h7]
/-- Are two reports the same? -/
def eqR (ix st r p ix' st' r' p' : Int) (e : Bool) : Bool := decide (ix = ix' ∧ st = st' ∧ r = r' ∧ p = p' ∧ e = true)
theorem neq_rp (ix st r p k cl sq ok ix' st' r' p' k' cl' sq' ok' : Int) (a b c a' b' c' : ByteArray) (w : World) : (binOp .neq 33 (.agg #[.int .i64 ix, .int .u8 st, .int .i64 r, .int .i64 p, .int .u8 k, .int .i64 cl, .int .i64 sq, .int .u8 ok, .string a, .string b, .string c]) (.agg #[.int .i64 ix', .int .u8 st', .int .i64 r', .int .i64 p', .int .u8 k', .int .i64 cl', .int .i64 sq', .int .u8 ok', .string a', .string b', .string c'])).run Try.prog w = .ok (.bool (!eqR ix st r p ix' st' r' p' (eqE k cl sq ok a b c k' cl' sq' ok' a' b' c'))) w := by
  unfold eqR eqE
  simp [go_sem, toList_inj]
  by_cases g1 : ix = ix' <;> simp [g1]
  by_cases g2 : st = st' <;> simp [g2]
  by_cases g3 : r = r' <;> simp [g3]
  by_cases g4 : p = p' <;> simp [g4]
  by_cases h1 : k = k' <;> simp [h1]
  by_cases h2 : cl = cl' <;> simp [h2]
  by_cases h3 : sq = sq' <;> simp [h3]
  by_cases h4 : ok = ok' <;> simp [h4]
  by_cases h5 : a = a' <;> simp [h5]
  by_cases h6 : b = b' <;> simp [h6]
  by_cases h7 : c = c' <;> simp [h7]
theorem eqR_self (ix st r p k cl sq ok : Int) (a b c : ByteArray) : eqR ix st r p ix st r p (eqE k cl sq ok a b c k cl sq ok a b c) = true := by unfold eqR; rw [eqE_self]; simp
end Ch
end Go.Proofs.Ytpgejomhcojppaa
