/- A tally in plain Lean: rows of a slot and the set of those who accepted there. Nothing of the program stands here. -/
import Derived.Test.YtmpcjiacgbcpdaaQuorumPlain
namespace Go.Proofs.Ytmpcjiacgbcpdaa

namespace Ta

/-- The rows, each slot once. -/
abbrev Rows := List (Int × Nat)
def look (R : Rows) (i : Int) : Option Nat := (R.find? fun p => decide (p.1 = i)).map (·.2)
def setOf (R : Rows) (i : Int) : Nat := (look R i).getD 0
def keys (R : Rows) : List Int := R.map (·.1)
/-- The set x stands at i: in its row, or in a new one behind all. -/
def put (R : Rows) (i : Int) (x : Nat) : Rows := if (look R i).isSome then R.map (fun p => if p.1 = i then (i, x) else p) else R ++ [(i, x)]
def drop (R : Rows) (i : Int) : Rows := R.filter fun p => decide (i < p.1)
/-- The rows of a tally: slots from 1 on, sets of less than 8 members, each slot once. -/
def Ok (R : Rows) : Prop := (keys R).Nodup ∧ ∀ p ∈ R, 1 ≤ p.1 ∧ p.1 ≤ 1099511627776 ∧ p.2 < 256

theorem look_nil (i : Int) : look [] i = none := rfl
theorem look_cons (p : Int × Nat) (R : Rows) (i : Int) : look (p :: R) i = if p.1 = i then some p.2 else look R i := by
  unfold look
  by_cases h : p.1 = i <;> simp [List.find?_cons, h]
theorem look_append (R S : Rows) (i : Int) : look (R ++ S) i = (look R i).or (look S i) := by
  induction R with
  | nil => rfl
  | cons p R ih => rw [List.cons_append, look_cons, look_cons, ih]; split <;> rfl
theorem look_none {R : Rows} {i : Int} : look R i = none ↔ i ∉ keys R := by
  induction R with
  | nil => simp [look, keys]
  | cons p R ih =>
    rw [look_cons]
    simp only [keys, List.map_cons, List.mem_cons, not_or] at ih ⊢
    split
    · rename_i h; simp [h]
    · rename_i h; rw [ih]; exact ⟨fun k => ⟨fun e => h e.symm, k⟩, fun k => k.2⟩
theorem look_mem {R : Rows} {i : Int} {x : Nat} (h : look R i = some x) : (i, x) ∈ R := by
  induction R with
  | nil => simp [look] at h
  | cons p R ih =>
    rw [look_cons] at h
    split at h
    · rename_i e
      injection h with h
      obtain ⟨a, b⟩ := p
      simp only at e h
      subst e; subst h
      simp
    · exact List.mem_cons_of_mem _ (ih h)
theorem put_look (R : Rows) (i : Int) (x : Nat) (j : Int) : look (put R i x) j = if j = i then some x else look R j := by
  unfold put
  split
  · rename_i h
    obtain ⟨y, hy⟩ := Option.isSome_iff_exists.1 h
    clear h
    induction R with
    | nil => simp [look] at hy
    | cons p R ih =>
      rw [List.map_cons, look_cons, look_cons]
      rw [look_cons] at hy
      by_cases hp : p.1 = i
      · rw [if_pos hp]
        by_cases hj : j = i
        · subst hj; simp
        · have hij : ¬ i = j := fun e => hj e.symm
          have hpj : ¬ p.1 = j := by rw [hp]; exact hij
          simp only [hij, hpj, hj, if_false]
          clear ih hy
          induction R with
          | nil => rfl
          | cons q R ih2 =>
            rw [List.map_cons, look_cons, look_cons, ih2]
            by_cases hq : q.1 = i
            · rw [if_pos hq, if_neg (show ¬ (i, x).1 = j from fun e => hj e.symm), if_neg (show ¬ q.1 = j by rw [hq]; exact fun e => hj e.symm)]
            · rw [if_neg hq]
      · rw [if_neg hp] at hy
        rw [if_neg hp, ih hy]
        by_cases hj : j = i
        · subst hj; simp [hp]
        · simp [hj]
  · rename_i h
    have hn : look R i = none := by simpa using h
    rw [look_append, look_cons, look_nil]
    by_cases hj : j = i
    · subst hj; rw [hn]; simp
    · rw [if_neg (fun e => hj e.symm), if_neg hj]; simp
theorem put_keys (R : Rows) (i : Int) (x : Nat) : keys (put R i x) = if (look R i).isSome then keys R else keys R ++ [i] := by
  unfold put keys
  split
  · rw [List.map_map]
    apply List.map_congr_left
    intro p _
    simp only [Function.comp]
    split
    · rename_i h; exact h.symm
    · rfl
  · simp
theorem put_len (R : Rows) (i : Int) (x : Nat) : (put R i x).length = if (look R i).isSome then R.length else R.length + 1 := by
  have := congrArg List.length (put_keys R i x)
  unfold keys at this
  rw [List.length_map] at this
  rw [this]
  split <;> simp
theorem put_ok {R : Rows} (h : Ok R) {i : Int} (hi : 1 ≤ i ∧ i ≤ 1099511627776) {x : Nat} (hx : x < 256) : Ok (put R i x) := by
  refine ⟨?_, ?_⟩
  · rw [put_keys]
    split
    · exact h.1
    · rename_i hn
      have hn : look R i = none := by simpa using hn
      rw [List.nodup_append]
      refine ⟨h.1, by simp, ?_⟩
      intro a ha b hb e
      simp only [List.mem_cons, List.not_mem_nil, or_false] at hb
      subst hb; subst e
      exact look_none.1 hn ha
  · intro p hp
    unfold put at hp
    split at hp
    · obtain ⟨q, hq, rfl⟩ := List.mem_map.1 hp
      split
      · exact ⟨hi.1, hi.2, hx⟩
      · exact h.2 q hq
    · rcases List.mem_append.1 hp with hp | hp
      · exact h.2 p hp
      · simp only [List.mem_cons, List.not_mem_nil, or_false] at hp
        subst hp
        exact ⟨hi.1, hi.2, hx⟩
theorem drop_look (R : Rows) (i j : Int) : look (drop R i) j = if i < j then look R j else none := by
  unfold drop
  induction R with
  | nil => simp [look]
  | cons p R ih =>
    rw [List.filter_cons]
    by_cases hp : i < p.1
    · rw [if_pos (by simpa using hp), look_cons, look_cons, ih]
      by_cases hj : p.1 = j
      · rw [if_pos hj, if_pos (by omega), if_pos hj]
      · rw [if_neg hj]
        by_cases hk : i < j
        · rw [if_pos hk, if_neg hj, if_pos hk]
        · rw [if_neg hk, if_neg hk]
    · rw [if_neg (by simpa using hp), ih, look_cons]
      split
      · rw [if_neg (by omega)]
      · rfl
theorem drop_ok {R : Rows} (h : Ok R) (i : Int) : Ok (drop R i) := by
  refine ⟨?_, fun p hp => h.2 p (List.mem_filter.1 hp).1⟩
  exact List.Sublist.nodup (List.Sublist.map _ List.filter_sublist) h.1
theorem ok_nil : Ok [] := ⟨by simp [keys], by simp⟩
theorem ok_lt {R : Rows} (h : Ok R) (i : Int) : setOf R i < 256 := by
  unfold setOf
  cases hl : look R i with
  | none => simp
  | some x => exact (h.2 _ (look_mem hl)).2.2
theorem ok_in {R : Rows} (h : Ok R) {i : Int} (hi : (look R i).isSome = true) : 1 ≤ i ∧ i ≤ 1099511627776 := by
  obtain ⟨x, hx⟩ := Option.isSome_iff_exists.1 hi
  have := h.2 _ (look_mem hx)
  exact ⟨this.1, this.2.1⟩

/-- Two lists, each with no element twice, of the same elements: as long as each other. -/
theorem len_le {α : Type} [DecidableEq α] : ∀ {l m : List α}, l.Nodup → (∀ x ∈ l, x ∈ m) → l.length ≤ m.length
  | [], m, _, _ => Nat.zero_le _
  | a :: l, m, hd, hs => by
    have hm : a ∈ m := hs a (by simp)
    have h1 := len_le (l := l) (m := m.erase a) (List.nodup_cons.1 hd).2 fun x hx => by
      refine (List.mem_erase_of_ne ?_).2 (hs x (by simp [hx]))
      intro e; subst e
      exact (List.nodup_cons.1 hd).1 hx
    rw [List.length_erase_of_mem hm] at h1
    have : 0 < m.length := List.length_pos_of_mem hm
    simp only [List.length_cons]
    omega
theorem len_same {α : Type} [DecidableEq α] {l m : List α} (h1 : l.Nodup) (h2 : m.Nodup) (h : ∀ x, x ∈ l ↔ x ∈ m) : l.length = m.length :=
  Nat.le_antisymm (len_le h1 fun x hx => (h x).1 hx) (len_le h2 fun x hx => (h x).2 hx)

end Ta
end Go.Proofs.Ytmpcjiacgbcpdaa
