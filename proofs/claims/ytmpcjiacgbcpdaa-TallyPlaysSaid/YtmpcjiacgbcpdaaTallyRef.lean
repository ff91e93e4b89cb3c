/- The document's tally: rows in a slice (package sextonref18), function by function. -/
import Derived.Test.YtmpcjiacgbcpdaaTallyDrop
import Derived.Test.YtmpcjiacgbcpdaaQuorumRef
set_option linter.unusedSimpArgs false
set_option linter.unusedVariables false
namespace Go.Proofs.Ytmpcjiacgbcpdaa
open Go.RowKit
open Qm

namespace Ta

/-- A row's cells. -/
def rc (p : Int × Nat) : List Value := [.int .i64 p.1, .int .u8 (p.2 : Nat)]
theorem rc_len (p : Int × Nat) : (rc p).length = 2 := rfl
/-- Block g holds the document's tally of n replicas; its rows lie in a slice behind it. -/
def RAt (w : World) (g : Nat) (n : Int) (R : Rows) : Prop := ∃ v, Whole w g 61 [.int .i64 n, v] ∧ w.ownsRow (g + 1) 63 2 v R.length (R.flatMap rc)
theorem RAt.lt {w : World} {g : Nat} {n : Int} {R : Rows} (h : RAt w g n R) : g < w.heap.size := by obtain ⟨v, h, _⟩ := h; exact h.lt
theorem RAt.keep {w w' : World} {g : Nat} {n : Int} {R : Rows} (h : RAt w g n R) (hb : Below w.heap.size w w') : RAt w' g n R := by
  obtain ⟨v, h1, h2⟩ := h
  exact ⟨v, h1.below hb h1.lt, own_below h2 hb⟩
theorem RAt.only {w w' : World} {g b : Nat} {n : Int} {R : Rows} (h : RAt w g n R) (hb : Only b w w') (hlt : b < g) : RAt w' g n R := by
  obtain ⟨v, h1, h2⟩ := h
  refine ⟨v, hb.whole h1 (by omega), h2.kept hb ?_⟩
  right
  intro e
  have := h2.lt b e
  omega
theorem RAt.drew {w : World} {g : Nat} {n : Int} {R : Rows} (h : RAt w g n R) : RAt w.drew g n R := h

/-- Where a slot stands; -1: nowhere. -/
def atZ : Rows → Int → Int
  | [], _ => -1
  | p :: R, i => if p.1 = i then 0 else if atZ R i < 0 then -1 else atZ R i + 1
theorem atZ_ge (R : Rows) (i : Int) : -1 ≤ atZ R i ∧ atZ R i < R.length := by
  induction R with
  | nil => simp [atZ]
  | cons p R ih =>
    simp only [atZ, List.length_cons]
    split
    · omega
    · split <;> omega
theorem atZ_none {R : Rows} {i : Int} : atZ R i < 0 ↔ look R i = none := by
  induction R with
  | nil => simp [atZ, look]
  | cons p R ih =>
    rw [look_cons]
    simp only [atZ]
    split
    · simp
    · rw [← ih]
      split
      · rename_i h; simp [h]
      · omega
theorem atZ_some {R : Rows} {i : Int} (h : 0 ≤ atZ R i) : ∃ k : Nat, atZ R i = k ∧ ∃ x, look R i = some x ∧ R[k]? = some (i, x) := by
  induction R with
  | nil => simp [atZ] at h
  | cons p R ih =>
    rw [look_cons]
    simp only [atZ] at h ⊢
    split
    · rename_i e
      obtain ⟨a, b⟩ := p
      simp only at e
      subst e
      exact ⟨0, rfl, b, rfl, rfl⟩
    · rename_i e
      rw [if_neg e] at h
      split
      · rename_i h'; rw [if_pos h'] at h; omega
      · rename_i h'
        obtain ⟨k, hk, x, hx, hxx⟩ := ih (by omega)
        exact ⟨k + 1, by rw [hk]; rfl, x, hx, by simpa using hxx⟩
/-- No slot before k is i: the search stands at k. -/
theorem atZ_here {R : Rows} {i : Int} : ∀ {k : Nat} {p : Int × Nat}, R[k]? = some p → p.1 = i → (∀ j (q : Int × Nat), j < k → R[j]? = some q → q.1 ≠ i) → atZ R i = k := by
  induction R with
  | nil => intro k p h; simp at h
  | cons q R ih =>
    intro k p h hp hn
    cases k with
    | zero =>
      simp only [List.getElem?_cons_zero, Option.some.injEq] at h
      subst h
      simp [atZ, hp]
    | succ k =>
      have hq : q.1 ≠ i := hn 0 q (by omega) rfl
      have := ih (k := k) (p := p) (by simpa using h) hp fun j r hj hr => hn (j + 1) r (by omega) (by simpa using hr)
      simp only [atZ, if_neg hq, this]
      rw [if_neg (by omega)]
      rfl
theorem atZ_no {R : Rows} {i : Int} (hn : ∀ j (q : Int × Nat), j < R.length → R[j]? = some q → q.1 ≠ i) : atZ R i = -1 := by
  induction R with
  | nil => rfl
  | cons q R ih =>
    have := ih fun j r hj hr => hn (j + 1) r (by simpa using hj) (by simpa using hr)
    simp only [atZ, if_neg (hn 0 q (by simp) rfl), this]
    rfl

set_option maxHeartbeats 4000000 in
theorem rat_any (g : Nat) (n : Int) (R : Rows) (i : Int) (w : World) (ht : RAt w g n R) :
    Calls Try.prog 31 #[.pointer (some ⟨g, 0, none⟩), .int .i64 i] w fun e w' => e = .returned (.int .i64 (atZ R i)) ∧ w = w' := by
  obtain ⟨v, hw, hown⟩ := ht
  have hr := Row.of_own hown
  have hlen := hr.bound
  obtain ⟨A, c, rfl, _, _⟩ := hr.slice
  have c0 := hw.cell 0
  have c1 := hw.cell 1
  simp only [List.getElem?_cons_zero, List.getElem?_cons_succ] at c0 c1
  have HR := Lib.hid hr
  clear hr hown hw
  go_enter Try.func31, Try.ntmps31
  go_wp2_with fail
  go_loop [5] (fun iv => ∃ k : Nat, k ≤ R.length ∧ iv = .int .i64 k ∧ ∀ j (q : Int × Nat), j < k → R[j]? = some q → q.1 ≠ i) (fun iv => R.length - (intOf iv).toNat)
  case atStart => exact ⟨0, Nat.zero_le _, rfl, fun j q h => by omega⟩
  case round =>
    obtain ⟨k, hk, rfl, hn⟩ := hrel
    have HN := Lib.hid hn
    clear hn
    by_cases hlt : k < R.length
    · have hri := HR.out
      obtain ⟨b, off, rfl, _, hx⟩ := hri.elem rc_len (by omega) hlt
      have x0 := hx 0 _ rfl
      have HX := Lib.hid (show R[k]? = some R[k] from List.getElem?_eq_getElem hlt)
      simp only [Nat.add_zero] at x0
      clear hx hri
      generalize R[k] = p at *
      by_cases he : p.1 = i
      · have hq : (p.1 == i) = true := by simpa using he
        have HE := Lib.hid he
        clear he
        go_wp2_with fail
        go_ret
        exact ⟨by rw [atZ_here HX.out HE.out HN.out]; rfl, rfl⟩
      · have hq : (p.1 == i) = false := by simpa using he
        have HE := Lib.hid he
        clear he
        go_wp2_with fail
        go_round
        case rel => exact ⟨k + 1, by omega, by go_num, fun j q hj hjq => by
          by_cases e : j = k
          · subst e; rw [HX.out] at hjq; injection hjq with hjq; subst hjq; exact HE.out
          · exact HN.out j q (by omega) hjq⟩
        case measure => simp [intOf]; omega
    · have e : k = R.length := by omega
      subst e
      go_wp2_with fail
      go_ret
      exact ⟨by rw [atZ_no HN.out]; rfl, rfl⟩

set_option maxHeartbeats 1000000 in
theorem radd_nat (s : Nat) (hs : s < 256) (k : Nat) (hk : k < 7) (w : World) :
    Calls Try.prog 32 #[.int .u8 s, .int .i64 k] w fun e w' => e = .returned (.int .u8 (addN s k : Nat)) ∧ w = w' := by
  cases hh : hasB s (k : Int)
  · have HP := Lib.hid (add_plus hs k hk hh)
    have RH := Lib.hid (rhas_any s hs k)
    rw [hh] at RH
    clear hh
    go_enter Try.func32, Try.ntmps32
    go_wp2_with fail
    refine (RH.out _).mono ?_
    rintro e u ⟨rfl, rfl⟩
    go_wp2_with fail
    go_loop [5, 6] (fun o j => ∃ m : Nat, m ≤ k ∧ j = .int .i64 m ∧ ∃ a : Nat, a ≤ 64 ∧ o = .int .u8 a ∧ a = 2 ^ m) (fun _ j => k - (intOf j).toNat)
    case atStart => exact ⟨0, Nat.zero_le _, rfl, 1, by omega, rfl, rfl⟩
    case round =>
      obtain ⟨m, hm, rfl, a, ha, rfl, haa⟩ := hrel
      have HA := Lib.hid haa; clear haa
      by_cases hlt : m < k
      · have ha2 : a ≤ 32 := by
          rw [HA.out]
          have : 2 ^ m ≤ 2 ^ 5 := Nat.pow_le_pow_right (by omega) (by omega)
          simpa using this
        go_wp2_with fail
        go_round
        case rel => exact ⟨m + 1, by omega, by go_num, a * 2, by omega, by go_num, by rw [HA.out, Nat.pow_succ]⟩
        case measure => simp [intOf]; omega
      · have e : m = k := by omega
        subst e
        have hq : s + a < 256 := by rw [HA.out, HP.out.1]; exact HP.out.2
        have hw : IntKind.u8.wrap ((s : Int) + (a : Int)) = ((addN s m : Nat) : Int) := by rw [← HP.out.1, ← HA.out, IntKind.wrap_u8]; omega
        go_wp2_with fail
        go_ret
        exact ⟨by first | rfl | (simp [hw]; done) | (rw [hw]), rfl⟩
  · have HP := Lib.hid (add_same hs k hk hh)
    have RH := Lib.hid (rhas_any s hs k)
    rw [hh] at RH
    clear hh
    go_enter Try.func32, Try.ntmps32
    go_wp2_with fail
    refine (RH.out _).mono ?_
    rintro e u ⟨rfl, rfl⟩
    go_wp2_with fail
    go_ret
    exact ⟨by rw [HP.out]; rfl, rfl⟩

end Ta
end Go.Proofs.Ytmpcjiacgbcpdaa
