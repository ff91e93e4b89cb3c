/- Both tallies at any numbers: Note, Upto. -/
import Derived.Test.YtmpcjiacgbcpdaaTallyRefDrop
import Derived.Test.YtmpcjiacgbcpdaaTallyNoted2
namespace Go.Proofs.Ytmpcjiacgbcpdaa
open Go.RowKit
open Qm

namespace Ta

def noteE (R : Rows) (n i r : Int) : Int :=
  if i < 1 ∨ 1099511627776 < i ∨ r < 0 ∨ n ≤ r then 2 else if (look R i).isSome = false ∧ 64 ≤ R.length then 4 else 0
def noteS (R : Rows) (n i r : Int) : Rows := if noteE R n i r = 0 then put R i (addN (setOf R i) r) else R
theorem noteE_arg {R : Rows} {n i r : Int} (h : i < 1 ∨ 1099511627776 < i ∨ r < 0 ∨ n ≤ r) : noteE R n i r = 2 := by unfold noteE; rw [if_pos h]
theorem noteE_full {R : Rows} {n i r : Int} (h : ¬ (i < 1 ∨ 1099511627776 < i ∨ r < 0 ∨ n ≤ r)) (h2 : (look R i).isSome = false ∧ 64 ≤ R.length) : noteE R n i r = 4 := by unfold noteE; rw [if_neg h, if_pos h2]
theorem noteE_ok {R : Rows} {n i r : Int} (h : ¬ (i < 1 ∨ 1099511627776 < i ∨ r < 0 ∨ n ≤ r)) (h2 : ¬ ((look R i).isSome = false ∧ 64 ≤ R.length)) : noteE R n i r = 0 := by unfold noteE; rw [if_neg h, if_neg h2]
theorem noteS_not {R : Rows} {n i r : Int} (h : noteE R n i r ≠ 0) : noteS R n i r = R := if_neg h
theorem noteS_ok {R : Rows} {n i r : Int} (h : noteE R n i r = 0) : noteS R n i r = put R i (addN (setOf R i) r) := if_pos h
/-- Rows as they may be. -/
def Fit (R : Rows) : Prop := Ok R ∧ R.length ≤ 64
theorem fit_nil : Fit [] := ⟨ok_nil, by simp⟩
theorem fit_drop {R : Rows} (h : Fit R) (i : Int) : Fit (drop R i) := ⟨drop_ok h.1 i, Nat.le_trans (drop_len R i) h.2⟩
theorem fit_note {R : Rows} (h : Fit R) {n : Int} (hn : n ≤ 7) (i r : Int) : Fit (noteS R n i r) := by
  by_cases he : noteE R n i r = 0
  · have ha : ¬ (i < 1 ∨ 1099511627776 < i ∨ r < 0 ∨ n ≤ r) := fun h => by rw [noteE_arg h] at he; cases he
    have hf : ¬ ((look R i).isSome = false ∧ 64 ≤ R.length) := fun h => by rw [noteE_full ha h] at he; cases he
    rw [noteS_ok he]
    have h4 : r < 7 := by omega
    refine ⟨put_ok h.1 (by omega) (addN_lt (ok_lt h.1 i) r), ?_⟩
    rw [put_len]
    split
    · exact h.2
    · rename_i hs
      have : ¬ 64 ≤ R.length := fun h6 => hf ⟨by simpa using hs, h6⟩
      omega
  · rw [noteS_not he]; exact h

theorem note_every (g b : Nat) (n : Int) (hn : n ≠ 0) (R : Rows) (hR : Fit R) (i r : Int) (w : World) (ht : TallyAt w g b n R) :
    Calls Try.prog 9 #[.pointer (some ⟨g, 0, none⟩), .int .i64 i, .int .i64 r] w fun e w' => e = .returned (.int .i64 (noteE R n i r)) ∧ TallyAt w' g b n (noteS R n i r) ∧ Only b w w' := by
  by_cases ha : i < 1 ∨ 1099511627776 < i ∨ r < 0 ∨ n ≤ r
  · have he := noteE_arg (R := R) ha
    rw [noteS_not (by rw [he]; decide), he]
    have hx : Calls Try.prog 9 #[.pointer (some ⟨g, 0, none⟩), .int .i64 i, .int .i64 r] w fun e w' => e = .returned (.int .i64 2) ∧ w = w' := by
      by_cases h1 : i < 1
      · exact note_lo g b n hn R i r h1 w ht
      by_cases h2 : 1099511627776 < i
      · exact note_hi g b n hn R i r (by omega) h2 w ht
      by_cases h3 : r < 0
      · exact note_rlo g b n hn R i r (by omega) (by omega) h3 w ht
      · exact note_rhi g b n hn R i r (by omega) (by omega) (by omega) (by omega) w ht
    refine hx.mono ?_
    rintro e u ⟨rfl, rfl⟩
    exact ⟨rfl, ht, Only.refl _ _⟩
  · by_cases hf : (look R i).isSome = false ∧ 64 ≤ R.length
    · have he := noteE_full ha hf
      rw [noteS_not (by rw [he]; decide), he]
      refine (note_full g b n hn R hR.1 i r (by omega) (by omega) (by omega) (by omega) hf.1 (by omega) w ht).mono ?_
      rintro e u ⟨rfl, rfl⟩
      exact ⟨rfl, ht, Only.refl _ _⟩
    · have he := noteE_ok ha hf
      rw [noteS_ok he, he]
      cases hs : (look R i).isSome
      · exact note_new g b n hn R hR.1 i r (by omega) (by omega) (by omega) (by omega) hs (by have : ¬ 64 ≤ R.length := fun h6 => hf ⟨hs, h6⟩; omega) w ht
      · exact note_old g b n hn R hR.1 i r (by omega) (by omega) (by omega) (by omega) hs hR.2 w ht

theorem rto_refl {w : World} {g : Nat} {n : Int} {R : Rows} {v : Value} (h : RAtV w g n R v) : RTo w w g n R v := ⟨v, h, Foot.refl _ _, .inl rfl⟩
theorem rnote_every (g : Nat) (n : Int) (hn : n ≤ 7) (R : Rows) (hR : Fit R) (i r : Int) (v : Value) (w : World) (ht : RAtV w g n R v) :
    Calls Try.prog 15 #[.pointer (some ⟨g, 0, none⟩), .int .i64 i, .int .i64 r] w fun e w' => e = .returned (.int .i64 (noteE R n i r)) ∧ RTo w w' g n (noteS R n i r) v := by
  by_cases ha : i < 1 ∨ 1099511627776 < i ∨ r < 0 ∨ n ≤ r
  · have he := noteE_arg (R := R) ha
    rw [noteS_not (by rw [he]; decide), he]
    have hx : Calls Try.prog 15 #[.pointer (some ⟨g, 0, none⟩), .int .i64 i, .int .i64 r] w fun e w' => e = .returned (.int .i64 2) ∧ w = w' := by
      by_cases h1 : i < 1
      · exact rnote_lo g n R i r h1 w ht.rat
      by_cases h2 : 1099511627776 < i
      · exact rnote_hi g n R i r (by omega) h2 w ht.rat
      by_cases h3 : r < 0
      · exact rnote_rlo g n R i r (by omega) (by omega) h3 w ht.rat
      · exact rnote_rhi g n R i r (by omega) (by omega) (by omega) (by omega) w ht.rat
    refine hx.mono ?_
    rintro e u ⟨rfl, rfl⟩
    exact ⟨rfl, rto_refl ht⟩
  · obtain ⟨k, rfl⟩ : ∃ k : Nat, r = (k : Int) := ⟨r.toNat, by omega⟩
    by_cases hf : (look R i).isSome = false ∧ 64 ≤ R.length
    · have he := noteE_full ha hf
      rw [noteS_not (by rw [he]; decide), he]
      refine (rnote_full g n R i k (by omega) (by omega) (by omega) (by omega) (by simpa using hf.1) (by have := hR.2; omega) w ht.rat).mono ?_
      rintro e u ⟨rfl, rfl⟩
      exact ⟨rfl, rto_refl ht⟩
    · have he := noteE_ok ha hf
      rw [noteS_ok he, he]
      cases hs : (look R i).isSome
      · exact rnote_new g n R hR.1 i k (by omega) (by omega) (by omega) (by omega) (by omega) (by simpa using hs) (by have : ¬ 64 ≤ R.length := fun h6 => hf ⟨hs, h6⟩; omega) v w ht
      · exact rnote_old g n R hR.1 i k (by omega) (by omega) (by omega) (by omega) (by omega) hs v w ht

/-- What Upto tells, at any number. -/
def UptoAll (R : Rows) (n f u : Int) : Prop := if f < 0 ∨ 1099511627776 < f then u = f else UptoIs R n f u
theorem UptoAll.out {R : Rows} {n f : Int} (h : f < 0 ∨ 1099511627776 < f) : UptoAll R n f f := by unfold UptoAll; rw [if_pos h]
theorem UptoAll.inn {R : Rows} {n f u : Int} (h : ¬ (f < 0 ∨ 1099511627776 < f)) (k : UptoIs R n f u) : UptoAll R n f u := by unfold UptoAll; rw [if_neg h]; exact k
theorem UptoAll.one {R : Rows} {n f u v : Int} (h : UptoAll R n f u) (k : UptoAll R n f v) : u = v := by
  unfold UptoAll at h k
  split at h
  · rename_i hc; rw [if_pos hc] at k; rw [h, k]
  · rename_i hc; rw [if_neg hc] at k; exact h.one k
theorem upto_every (g b : Nat) (n : Int) (hn : n ≠ 0) (R : Rows) (hR : Fit R) (f : Int) (w : World) (ht : TallyAt w g b n R) :
    Calls Try.prog 11 #[.pointer (some ⟨g, 0, none⟩), .int .i64 f] w fun e w' => (∃ u, e = .returned (.int .i64 u) ∧ UptoAll R n f u) ∧ Below w.heap.size w w' := by
  by_cases h1 : f < 0
  · refine (upto_lo g b n hn R f h1 w ht).mono ?_
    rintro e u ⟨rfl, rfl⟩
    exact ⟨⟨_, rfl, UptoAll.out (.inl h1)⟩, Below.refl _ _⟩
  by_cases h2 : 1099511627776 < f
  · refine (upto_hi g b n hn R f (by omega) h2 w ht).mono ?_
    rintro e u ⟨rfl, rfl⟩
    exact ⟨⟨_, rfl, UptoAll.out (.inr h2)⟩, Below.refl _ _⟩
  · refine (upto_any g b n hn R hR.1 f (by omega) (by omega) w ht).mono ?_
    rintro e u ⟨⟨x, rfl, hx⟩, hb'⟩
    exact ⟨⟨x, rfl, UptoAll.inn (by omega) hx⟩, hb'⟩
theorem rupto_every (g : Nat) (n : Int) (hn : 0 < mostN n) (R : Rows) (hR : Fit R) (f : Int) (w : World) (ht : RAt w g n R) :
    Calls Try.prog 18 #[.pointer (some ⟨g, 0, none⟩), .int .i64 f] w fun e w' => (∃ u, e = .returned (.int .i64 u) ∧ UptoAll R n f u) ∧ Below w.heap.size w w' := by
  by_cases h1 : f < 0
  · refine (rupto_lo g f h1 w).mono ?_
    rintro e u ⟨rfl, rfl⟩
    exact ⟨⟨_, rfl, UptoAll.out (.inl h1)⟩, Below.refl _ _⟩
  by_cases h2 : 1099511627776 < f
  · refine (rupto_hi g f (by omega) h2 w).mono ?_
    rintro e u ⟨rfl, rfl⟩
    exact ⟨⟨_, rfl, UptoAll.out (.inr h2)⟩, Below.refl _ _⟩
  · refine (rupto_any g n hn R hR.1 f (by omega) (by omega) w ht).mono ?_
    rintro e u ⟨⟨x, rfl, hx⟩, hb'⟩
    exact ⟨⟨x, rfl, UptoAll.inn (by omega) hx⟩, hb'⟩

end Ta
end Go.Proofs.Ytmpcjiacgbcpdaa
