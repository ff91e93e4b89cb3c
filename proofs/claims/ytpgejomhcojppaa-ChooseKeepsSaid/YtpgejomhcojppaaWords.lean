/- Words for memory: a slice that reads as a list of cells; nothing of the program stands here. -/
import Derived.WalkKit
import Derived.Deep.Draws
import Derived.Lib.Hide
namespace Go.Proofs.Ytpgejomhcojppaa
open Go.RowKit

/-- v is a slice of n elements whose cells are xs (so many cells an element that xs has them all); they lie below block B. -/
def Row (w : World) (B : Nat) (v : Value) (n : Nat) (xs : List Value) : Prop :=
  ∃ A c, v = .slice A n c ∧ n ≤ c ∧ c ≤ maxLen ∧ (xs ≠ [] → ∃ b off, A = some ⟨b, off, none⟩ ∧ b < B ∧ ∀ j x, xs[j]? = some x → w.cell? ⟨b, off + j, none⟩ = some x)

theorem Row.keep {w w' : World} {B : Nat} {v : Value} {n : Nat} {xs : List Value} (h : Row w B v n xs) (hk : ∀ b o, b < B → w'.cell? ⟨b, o, none⟩ = w.cell? ⟨b, o, none⟩) : Row w' B v n xs := by
  obtain ⟨A, c, hv, hn, hc, hx⟩ := h
  refine ⟨A, c, hv, hn, hc, fun hne => ?_⟩
  obtain ⟨b, off, hA, hb, hcell⟩ := hx hne
  exact ⟨b, off, hA, hb, fun j x hj => (hk b _ hb).trans (hcell j x hj)⟩
theorem Row.below {w w' : World} {B : Nat} {v : Value} {n : Nat} {xs : List Value} (h : Row w B v n xs) (hb : Below B w w') : Row w' B v n xs :=
  h.keep fun b o hbb => hb.cell (p := ⟨b, o, none⟩) hbb
theorem Row.more {w : World} {B B' : Nat} {v : Value} {n : Nat} {xs : List Value} (h : Row w B v n xs) (hb : B ≤ B') : Row w B' v n xs := by
  obtain ⟨A, c, hv, hn, hc, hx⟩ := h
  refine ⟨A, c, hv, hn, hc, fun hne => ?_⟩
  obtain ⟨b, off, hA, hb', hcell⟩ := hx hne
  exact ⟨b, off, hA, Nat.lt_of_lt_of_le hb' hb, hcell⟩
theorem Row.drewN {w : World} {B : Nat} {v : Value} {n : Nat} {xs : List Value} (h : Row w B v n xs) (k : Nat) : Row (w.drewN k) B v n xs := h
theorem Row.drew {w : World} {B : Nat} {v : Value} {n : Nat} {xs : List Value} (h : Row w B v n xs) : Row w.drew B v n xs := h
theorem Row.alloc {w : World} {B : Nat} {v : Value} {n : Nat} {xs : List Value} (h : Row w B v n xs) (hB : B ≤ w.heap.size) (o : Obj) : Row (w.alloc o) B v n xs :=
  h.keep fun b k hb => World.cell?_alloc_lt w o ⟨b, k, none⟩ (by simp; omega)
theorem Row.nil (w : World) (B : Nat) : Row w B (.slice none 0 0) 0 [] := ⟨none, 0, rfl, Nat.le_refl _, Nat.zero_le _, fun h => absurd rfl h⟩
theorem below_drewN' {B : Nat} {a w : World} (h : Below B a w) (n : Nat) : Below B a (w.drewN n) := ⟨h.os, h.tape, h.output, h.size, h.block⟩
/-- What the call owns reads as a row. -/
theorem Row.of_own {w : World} {B : Nat} {e : TypeId} {size n : Nat} {v : Value} {xs : List Value} (h : w.ownsRow B e size v n xs) : Row w w.heap.size v n xs := by
  obtain ⟨hl, hv⟩ := h
  rcases hv with ⟨rfl, hn⟩ | ⟨g, cap, cur, rfl, hg, hh, hnc, hcm, hcs, hcur⟩
  · subst hn
    have : xs = [] := List.eq_nil_of_length_eq_zero (by simpa using hl)
    subst this
    exact Row.nil _ _
  · refine ⟨_, cap, rfl, hnc, hcm, fun _ => ⟨g, 0, rfl, ?_, fun j x hj => ?_⟩⟩
    · rcases Nat.lt_or_ge g w.heap.size with h | h
      · exact h
      · rw [Array.getElem?_eq_none h] at hh; cases hh
    · rw [Nat.zero_add, cell_of_row w g j cur e (0, 0) hh]
      rw [← hcur, List.getElem?_take] at hj
      split at hj
      · simpa using hj
      · cases hj
theorem Row.slice {w : World} {B : Nat} {v : Value} {n : Nat} {xs : List Value} (h : Row w B v n xs) : ∃ A c, v = .slice A n c ∧ n ≤ c ∧ c ≤ maxLen := by
  obtain ⟨A, c, hv, hn, hc, _⟩ := h
  exact ⟨A, c, hv, hn, hc⟩
/-- The j-th cell of a row whose address is A. -/
theorem Row.at_ {w : World} {B : Nat} {A : Option Addr} {c : Nat} {n : Nat} {xs : List Value} (h : Row w B (.slice A n c) n xs) {j : Nat} (hj : j < xs.length) :
    ∃ b off, A = some ⟨b, off, none⟩ ∧ b < B ∧ ∀ i x, xs[i]? = some x → w.cell? ⟨b, off + i, none⟩ = some x := by
  obtain ⟨A', c', hv, _, _, hx⟩ := h
  injection hv with hA
  subst hA
  exact hx (by intro e; subst e; simp at hj)
/-- Behind an append of one element onto a row of the call's own, nothing below B has turned. -/
theorem below_push {w wr w1 : World} {B : Nat} {e : TypeId} {size n : Nat} {v : Value} {xs : List Value} {o : Obj} (hB : Below B w wr) (hs : B ≤ wr.heap.size)
    (hown : wr.ownsRow B e size v n xs) (hg : (wr.alloc o).grownBy w1 v.ownBlock) : Below B w w1 :=
  (hB.alloc hs o).grown hg (by simp; omega) fun k e => (hown.lt k e).1
/-- A slice over a whole block. -/
theorem Row.blk {w : World} {b B : Nat} {cs : Array Value} {e : TypeId} {n : Nat} {xs : List Value} (hb : w.heap[b]? = some (.cells cs e (0, 0))) (h : cs.toList = xs) (hB : b < B) (hn : n ≤ maxLen) :
    Row w B (.slice (some ⟨b, 0, none⟩) n n) n xs := by
  refine ⟨_, n, rfl, Nat.le_refl _, hn, fun _ => ⟨b, 0, rfl, hB, fun j x hj => ?_⟩⟩
  rw [Nat.zero_add, cell_of_row w b j cs e (0, 0) hb]
  rw [← h] at hj
  simpa using hj
/-- The first k elements of a row of one-cell elements. -/
theorem Row.take {w : World} {B : Nat} {A : Option Addr} {c n : Nat} {xs : List Value} (h : Row w B (.slice A n c) n xs) (k : Nat) (hk : k ≤ n) : Row w B (.slice A k c) k (xs.take k) := by
  obtain ⟨A', c', hv, hn, hc, hx⟩ := h
  injection hv with e1 _ e3
  subst e1 e3
  refine ⟨A, c, rfl, Nat.le_trans hk hn, hc, fun hne => ?_⟩
  obtain ⟨b, off, hA, hb, hcell⟩ := hx (by intro e; subst e; simp at hne)
  refine ⟨b, off, hA, hb, fun j x hj => hcell j x ?_⟩
  rw [List.getElem?_take] at hj
  split at hj
  · exact hj
  · cases hj
end Go.Proofs.Ytpgejomhcojppaa
