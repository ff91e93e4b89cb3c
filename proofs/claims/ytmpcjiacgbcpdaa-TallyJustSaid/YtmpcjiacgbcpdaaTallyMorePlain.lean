/- Plain: with more notes a set never loses a majority; slots dropped below change nothing behind. -/
import Derived.Test.YtmpcjiacgbcpdaaTallyNoted2
set_option linter.unusedSimpArgs false
set_option linter.unusedVariables false
namespace Go.Proofs.Ytmpcjiacgbcpdaa
open Go.RowKit
open Qm

namespace Ta

theorem enough_add {n : Int} (hn : n = 3 ∨ n = 5 ∨ n = 7) {s : Nat} (hs : s < 256) {r : Int} (h0 : 0 ≤ r) (h7 : r < 7) (h : enoughB s n = true) : enoughB (addN s r) n = true := by
  obtain ⟨k, rfl⟩ := Int.eq_ofNat_of_zero_le h0
  have k3 : ∀ (s : Fin 256) (k : Fin 7), enoughB s.1 3 = true → enoughB (addN s.1 (k.1 : Int)) 3 = true := by decide +kernel
  have k5 : ∀ (s : Fin 256) (k : Fin 7), enoughB s.1 5 = true → enoughB (addN s.1 (k.1 : Int)) 5 = true := by decide +kernel
  have k7 : ∀ (s : Fin 256) (k : Fin 7), enoughB s.1 7 = true → enoughB (addN s.1 (k.1 : Int)) 7 = true := by decide +kernel
  rcases hn with rfl | rfl | rfl
  · exact k3 ⟨s, hs⟩ ⟨k, by omega⟩ h
  · exact k5 ⟨s, hs⟩ ⟨k, by omega⟩ h
  · exact k7 ⟨s, hs⟩ ⟨k, by omega⟩ h
theorem set_put (R : Rows) (i : Int) (x : Nat) (j : Int) : setOf (put R i x) j = if j = i then x else setOf R j := by
  unfold setOf; rw [put_look]; split <;> rfl
theorem set_drop {R : Rows} {i j : Int} (h : i < j) : setOf (drop R i) j = setOf R j := by
  unfold setOf; rw [drop_look, if_pos h]
theorem set_drop0 {R : Rows} {i j : Int} (h : j ≤ i) : setOf (drop R i) j = 0 := by
  unfold setOf; rw [drop_look, if_neg (by omega)]; rfl
theorem more_list {n : Int} (hn : n = 3 ∨ n = 5 ∨ n = 7) : ∀ (l : Pairs) {R : Rows}, Ok60 R → l.all (okP n) = true → ∀ j, enoughB (setOf R j) n = true → enoughB (setOf (noteL R l) j) n = true
  | [], R, _, _, j, h => h
  | p :: l, R, hR, hl, j, h => by
    rw [List.all_cons, Bool.and_eq_true] at hl
    refine more_list hn l (ok60_note hR hl.1) hl.2 j ?_
    obtain ⟨p1, p2, p3, p4⟩ := okP_iff.1 hl.1
    unfold noteR
    rw [set_put]
    split
    · rename_i e; subst e; exact enough_add hn (ok_lt hR.1 _) p3 (by omega) h
    · exact h
theorem noteL_split (l : Pairs) (k : Nat) : noteL [] l = noteL (noteL [] (l.take k)) (l.drop k) := by
  unfold noteL
  rw [← List.foldl_append, List.take_append_drop]
theorem upto_more {R S : Rows} {n f u v : Int} (h : ∀ j, enoughB (setOf R j) n = true → enoughB (setOf S j) n = true) (hu : UptoIs R n f u) (hv : UptoIs S n f v) : u ≤ v := by
  rcases Int.lt_or_le v u with c | c
  · have := h _ (hu.2.1 (v + 1) (by have := hv.1; omega) (by omega))
    rw [hv.2.2] at this; cases this
  · exact c
theorem upto_drop {R : Rows} {n f u : Int} (h : UptoIs R n f u) : UptoIs (drop R f) n f u := by
  obtain ⟨h1, h2, h3⟩ := h
  exact ⟨h1, fun j a b => by rw [set_drop a]; exact h2 j a b, by rw [set_drop (by omega)]; exact h3⟩
/-- The first k pairs of a slice. -/
theorem Row.pairs {w : World} {B : Nat} {A : Option Addr} {c : Nat} {l : Pairs} (h : Row w B (.slice A l.length c) l.length (l.flatMap pc)) (k : Nat) (hk : k ≤ l.length) : Row w B (.slice A k c) (l.take k).length ((l.take k).flatMap pc) := by
  obtain ⟨A', c', hv, hn, hc, hx⟩ := h
  injection hv with e1 _ e3
  subst e1 e3
  have hl : (l.take k).length = k := by rw [List.length_take]; omega
  refine ⟨A, c, by rw [hl], by rw [hl]; omega, hc, fun hne => ?_⟩
  have happ : l.flatMap pc = (l.take k).flatMap pc ++ (l.drop k).flatMap pc := by rw [← List.flatMap_append, List.take_append_drop]
  obtain ⟨b, off, hA, hb, hcell⟩ := hx (by intro e; rw [happ] at e; exact hne (List.append_eq_nil_iff.1 e).1)
  refine ⟨b, off, hA, hb, fun j x hj => hcell j x ?_⟩
  rw [happ, List.getElem?_append_left]
  · exact hj
  · obtain ⟨h, _⟩ := List.getElem?_eq_some_iff.1 hj; exact h

end Ta
end Go.Proofs.Ytmpcjiacgbcpdaa
