/- A clock as plain numbers: nothing of the program stands here. -/
namespace Go.Proofs.Ytgjcenmjjjkigaa.Ck

/-- What a clock holds: the ticks without a word, its patience, the ticks that were led since a beat. -/
structure St where
  at_ : Nat
  most : Nat
  beat : Nat

def St.ok (c : St) : Prop := c.at_ < c.most ∧ c.most ≤ 34 ∧ c.beat < 3
def tick (c : St) (leads : Bool) : St :=
  if leads then { at_ := 0, most := c.most, beat := if c.beat + 1 < 3 then c.beat + 1 else 0 }
  else { at_ := if c.at_ + 1 < c.most then c.at_ + 1 else 0, most := c.most, beat := 0 }
def stands (c : St) (leads : Bool) : Bool := !leads && decide (c.most ≤ c.at_ + 1)
def beats (c : St) (leads : Bool) : Bool := leads && decide (3 ≤ c.beat + 1)
def hear (c : St) : St := { c with at_ := 0 }
def patN (r : Int) : Nat := if 0 ≤ r ∧ r < 7 then 10 + 4 * r.toNat else 0
def new (r : Int) : St := ⟨0, patN r, 0⟩

theorem patN_le (r : Int) : patN r ≤ 34 := by unfold patN; split <;> omega
theorem patN_pos {r : Int} : patN r ≠ 0 ↔ 0 ≤ r ∧ r < 7 := by unfold patN; split <;> simp_all
theorem new_ok {r : Int} (h : 0 ≤ r ∧ r < 7) : (new r).ok := by
  have h1 := patN_le r
  have h2 := patN_pos.2 h
  exact ⟨by show 0 < patN r; omega, h1, by show 0 < 3; omega⟩
theorem tick_ok {c : St} (h : c.ok) (leads : Bool) : (tick c leads).ok := by
  obtain ⟨h1, h2, h3⟩ := h
  unfold tick
  cases leads
  · refine ⟨?_, h2, by simp⟩
    simp only [Bool.false_eq_true, if_false]
    split <;> omega
  · refine ⟨?_, h2, ?_⟩
    · simp; omega
    · simp only [if_true]
      split <;> omega
theorem hear_ok {c : St} (h : c.ok) : (hear c).ok := ⟨by have := h.1; show 0 < c.most; omega, h.2.1, h.2.2⟩

end Go.Proofs.Ytgjcenmjjjkigaa.Ck
