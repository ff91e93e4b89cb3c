/- Ballots in plain Lean: how two stand to each other, the greatest of a list, a replica's next one. Nothing of the program stands here. -/
namespace Go.Proofs.Ytpgejomhcojppaa

namespace Bl

structure Ba where
  r : Int
  p : Int

def zeroBa : Ba := ⟨0, 0⟩
/-- Is a ahead of b? -/
def lessB (a b : Ba) : Bool := decide (a.r < b.r) || (decide (a.r = b.r) && decide (a.p < b.p))
def sameB (a b : Ba) : Bool := decide (a.r = b.r) && decide (a.p = b.p)
def cmpZ (x y : Int) : Int := if x < y then -1 else if y < x then 1 else 0
def orZ (x y : Int) : Int := if x = 0 then y else x
def toZ (a b : Ba) : Int := orZ (cmpZ a.r b.r) (cmpZ a.p b.p)
def crowdB (n : Int) : Bool := decide (n = 3) || decide (n = 5) || decide (n = 7)
def mayB (b : Ba) (n : Int) : Bool := crowdB n && (sameB b zeroBa || (decide (1 ≤ b.r) && decide (b.r ≤ 1099511627776) && decide (0 ≤ b.p) && decide (b.p < n)))
/-- The round of a replica's next ballot. -/
def nextR (b : Ba) (i : Int) : Int := if b.r < 1 then 1 else if b.p < i then b.r else b.r + 1
/-- A replica's next ballot, and the error. -/
def nextZ (b : Ba) (i n : Int) : Ba × Int :=
  if !(mayB b n) || decide (i < 0) || decide (n ≤ i) then (zeroBa, 2)
  else if 1099511627776 < nextR b i then (zeroBa, 4)
  else (⟨nextR b i, i⟩, 0)
/-- The greater of two: the first, if they are the same. -/
def pick (m x : Ba) : Ba := if lessB m x then x else m
/-- The greatest of ballots: the zero one, where there is none. -/
def maxL : List Ba → Ba
  | [] => zeroBa
  | a :: l => l.foldl pick a

theorem less_iff {a b : Ba} : lessB a b = true ↔ a.r < b.r ∨ (a.r = b.r ∧ a.p < b.p) := by simp [lessB]
theorem less_not {a b : Ba} : lessB a b = false ↔ ¬ (a.r < b.r ∨ (a.r = b.r ∧ a.p < b.p)) := by rw [← less_iff]; simp
theorem same_iff {a b : Ba} : sameB a b = true ↔ a = b := by
  obtain ⟨a, c⟩ := a; obtain ⟨b, d⟩ := b; simp [sameB]
theorem same_self (a : Ba) : sameB a a = true := same_iff.2 rfl
theorem same_not {a b : Ba} : sameB a b = false ↔ a ≠ b := by
  constructor
  · intro h e; rw [e, same_self] at h; cases h
  · intro h; cases h' : sameB a b
    · rfl
    · exact absurd (same_iff.1 h') h
theorem less_self (a : Ba) : lessB a a = false := less_not.2 (by omega)
theorem less_asymm {a b : Ba} (h : lessB a b = true) : lessB b a = false := by rw [less_iff] at h; rw [less_not]; omega
theorem less_trans {a b c : Ba} (h : lessB a b = true) (k : lessB b c = true) : lessB a c = true := by rw [less_iff] at *; omega
theorem less_total {a b : Ba} (h : lessB a b = false) (k : lessB b a = false) : a = b := by
  rw [less_not] at h k
  obtain ⟨a, c⟩ := a; obtain ⟨b, d⟩ := b
  simp only at h k
  obtain rfl : a = b := by omega
  obtain rfl : c = d := by omega
  rfl
theorem less_of_not {a b c : Ba} (h : lessB a b = false) (k : lessB b c = false) : lessB a c = false := by rw [less_not] at *; omega
theorem cmp_neg (x y : Int) : cmpZ x y < 0 ↔ x < y := by unfold cmpZ; split <;> (try split) <;> omega
theorem cmp_zero (x y : Int) : cmpZ x y = 0 ↔ x = y := by unfold cmpZ; split <;> (try split) <;> omega
theorem cmp_vals (x y : Int) : cmpZ x y = -1 ∨ cmpZ x y = 0 ∨ cmpZ x y = 1 := by unfold cmpZ; split <;> (try split) <;> omega
theorem to_neg (a b : Ba) : decide (toZ a b < 0) = lessB a b := by
  have h1 := cmp_neg a.r b.r
  have h2 := cmp_zero a.r b.r
  have h3 := cmp_neg a.p b.p
  rw [Bool.eq_iff_iff, less_iff, decide_eq_true_iff]
  unfold toZ orZ
  split <;> omega
theorem to_bound (a b : Ba) : -1 ≤ toZ a b ∧ toZ a b ≤ 1 := by
  have h1 := cmp_vals a.r b.r
  have h2 := cmp_vals a.p b.p
  unfold toZ orZ
  split <;> omega

/-- The greatest of ballots after k of them. -/
theorem max_snoc (l : List Ba) (a : Ba) (h : l ≠ []) : maxL (l ++ [a]) = pick (maxL l) a := by
  cases l with
  | nil => exact absurd rfl h
  | cons b l => simp [maxL]
theorem max_one (a : Ba) : maxL [a] = a := rfl
theorem fold_ge (l : List Ba) : ∀ m : Ba, lessB (l.foldl pick m) m = false ∧ ∀ x ∈ l, lessB (l.foldl pick m) x = false := by
  induction l with
  | nil => intro m; exact ⟨less_self m, by simp⟩
  | cons a l ih =>
    intro m
    obtain ⟨h1, h2⟩ := ih (pick m a)
    simp only [List.foldl_cons]
    have hm : lessB (pick m a) m = false := by
      unfold pick
      cases h : lessB m a
      · simp [less_self]
      · simp [less_asymm h]
    have ha : lessB (pick m a) a = false := by
      unfold pick
      cases h : lessB m a
      · simpa using h
      · simp [less_self]
    refine ⟨less_of_not h1 hm, ?_⟩
    intro x hx
    rcases List.mem_cons.1 hx with rfl | hx
    · exact less_of_not h1 ha
    · exact h2 x hx
theorem fold_mem (l : List Ba) : ∀ m : Ba, l.foldl pick m = m ∨ l.foldl pick m ∈ l := by
  induction l with
  | nil => intro m; exact .inl rfl
  | cons a l ih =>
    intro m
    simp only [List.foldl_cons]
    rcases ih (pick m a) with h | h
    · rw [h]
      unfold pick
      cases h : lessB m a
      · exact .inl rfl
      · exact .inr (by simp)
    · exact .inr (List.mem_cons_of_mem _ h)
theorem max_ge {l : List Ba} {x : Ba} (hx : x ∈ l) : lessB (maxL l) x = false := by
  cases l with
  | nil => cases hx
  | cons a l =>
    rcases List.mem_cons.1 hx with rfl | hx
    · exact (fold_ge l _).1
    · exact (fold_ge l a).2 x hx
theorem max_mem {l : List Ba} (h : l ≠ []) : maxL l ∈ l := by
  cases l with
  | nil => exact absurd rfl h
  | cons a l =>
    rcases fold_mem l a with h | h
    · show l.foldl pick a ∈ _; rw [h]; simp
    · exact List.mem_cons_of_mem _ h
/-- The greatest is the one that is there and that none is behind. -/
theorem max_is {l : List Ba} {m : Ba} (hm : m ∈ l) (h : ∀ x ∈ l, lessB m x = false) : maxL l = m :=
  less_total (max_ge hm) (h _ (max_mem (by intro e; subst e; cases hm)))

/-- The document's answer: the last one that none is behind. -/
def isMost (l : List Ba) (a : Ba) : Bool := l.all fun x => !lessB a x
def refO (l : List Ba) (k : Nat) : Ba := ((l.take k).filter (isMost l)).getLast?.getD zeroBa
theorem refO_zero (l : List Ba) : refO l 0 = zeroBa := rfl
theorem refO_succ (l : List Ba) (k : Nat) (h : k < l.length) : refO l (k + 1) = if isMost l l[k] then l[k] else refO l k := by
  unfold refO
  rw [List.take_succ_eq_append_getElem h, List.filter_append]
  cases hm : isMost l l[k] <;> simp [hm]
theorem isMost_max {l : List Ba} {a : Ba} (h : isMost l a = true) (ha : a ∈ l) : a = maxL l := by
  refine (max_is ha fun x hx => ?_).symm
  have := List.all_eq_true.1 h x hx
  simpa using this
theorem refO_all (l : List Ba) : refO l l.length = maxL l := by
  unfold refO
  rw [List.take_length]
  cases h : (l.filter (isMost l)).getLast? with
  | none =>
    rw [List.getLast?_eq_none_iff] at h
    cases hl : l with
    | nil => rfl
    | cons a t =>
      have hne : l ≠ [] := by rw [hl]; simp
      have hm : maxL l ∈ l.filter (isMost l) := List.mem_filter.2 ⟨max_mem hne, List.all_eq_true.2 fun x hx => by rw [max_ge hx]; rfl⟩
      rw [h] at hm; cases hm
  | some a =>
    have hm := List.mem_filter.1 (List.mem_of_getLast? h)
    exact isMost_max hm.2 hm.1

theorem next_err {b : Ba} {i n : Int} : (nextZ b i n).2 = 0 ∨ (nextZ b i n).2 = 2 ∨ (nextZ b i n).2 = 4 := by
  unfold nextZ; split
  · exact .inr (.inl rfl)
  · split
    · exact .inr (.inr rfl)
    · exact .inl rfl
theorem crowd_iff {n : Int} : crowdB n = true ↔ n = 3 ∨ n = 5 ∨ n = 7 := by simp [crowdB, or_assoc]
theorem may_iff {b : Ba} {n : Int} : mayB b n = true ↔ (n = 3 ∨ n = 5 ∨ n = 7) ∧ (b = zeroBa ∨ (1 ≤ b.r ∧ b.r ≤ 1099511627776 ∧ 0 ≤ b.p ∧ b.p < n)) := by
  unfold mayB; rw [Bool.and_eq_true, crowd_iff, Bool.or_eq_true, same_iff]; simp [and_assoc]
theorem next_ok {b : Ba} {i n : Int} (h : (nextZ b i n).2 = 0) : mayB b n = true ∧ 0 ≤ i ∧ i < n ∧ nextR b i ≤ 1099511627776 ∧ nextZ b i n = (⟨nextR b i, i⟩, 0) := by
  unfold nextZ at h ⊢
  split at h
  · simp at h
  · rename_i h1
    split at h
    · simp at h
    · rename_i h2
      simp only [Bool.or_eq_true, Bool.not_eq_true', decide_eq_true_iff, not_or] at h1
      have hm : mayB b n = true := by simpa using h1.1.1
      refine ⟨hm, by omega, by omega, by omega, ?_⟩
      rw [if_neg (by simp [hm]; omega), if_neg h2]
theorem next_bad {b : Ba} {i n : Int} (h : (nextZ b i n).2 ≠ 0) : (nextZ b i n).1 = zeroBa := by
  unfold nextZ at h ⊢
  split
  · rfl
  · split
    · rfl
    · rename_i h1 h2; rw [if_neg h1, if_neg h2] at h; exact absurd rfl h
theorem next_behind {b : Ba} {i n : Int} (hm : mayB b n = true) : lessB b ⟨nextR b i, i⟩ = true := by
  rw [less_iff]
  rw [may_iff] at hm
  unfold nextR
  obtain ⟨_, rfl | h⟩ := hm
  · simp [zeroBa]
  · simp only; split
    · omega
    · split <;> omega
theorem nextR_ge {b : Ba} {i n : Int} (hm : mayB b n = true) : 1 ≤ nextR b i ∧ nextR b i ≤ b.r + 1 ∧ b.r ≤ nextR b i := by
  rw [may_iff] at hm
  unfold nextR
  obtain ⟨_, rfl | h⟩ := hm
  · simp [zeroBa]
  · split
    · omega
    · split <;> omega

end Bl
end Go.Proofs.Ytpgejomhcojppaa
