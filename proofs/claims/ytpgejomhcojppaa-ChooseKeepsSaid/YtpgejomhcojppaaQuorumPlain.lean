/- Plain facts on sets of replicas as numbers below 256: nothing of the program stands here. -/
namespace Go.Proofs.Ytpgejomhcojppaa.Qm

def mostN (n : Int) : Nat := if n = 3 then 2 else if n = 5 then 3 else if n = 7 then 4 else 0
def oneN (i : Int) : Nat := if 0 ≤ i ∧ i < 7 then 2 ^ i.toNat else 0
def hasB (s : Nat) (i : Int) : Bool := decide (0 ≤ i ∧ i < 7) && s.testBit i.toNat
def addN (s : Nat) (i : Int) : Nat := s ||| oneN i
def belowN (s : Nat) (n : Int) : Nat := if mostN n = 0 then 0 else s % 2 ^ n.toNat
def bitsOf (s : Nat) : List Nat := (List.range 8).filter fun i => s.testBit i
def membersN (s : Nat) (n : Int) : List Nat := bitsOf (belowN s n)
def enoughB (s : Nat) (n : Int) : Bool := decide (0 < mostN n) && decide (mostN n ≤ (membersN s n).length)
def tz8 (s : Nat) : Nat := (bitsOf s).headD 8
def lowOff (s : Nat) : Nat := s &&& (s - 1)

theorem most_cases (n : Int) : (n = 3 ∧ mostN n = 2) ∨ (n = 5 ∧ mostN n = 3) ∨ (n = 7 ∧ mostN n = 4) ∨ (n ≠ 3 ∧ n ≠ 5 ∧ n ≠ 7 ∧ mostN n = 0) := by
  unfold mostN
  by_cases h3 : n = 3
  · simp [h3]
  by_cases h5 : n = 5
  · simp [h5]
  by_cases h7 : n = 7
  · simp [h7]
  · simp [h3, h5, h7]
theorem most_le (n : Int) : mostN n ≤ 4 := by rcases most_cases n with h | h | h | h <;> omega
theorem oneN_lt (i : Int) : oneN i < 256 := by
  unfold oneN
  split
  · rename_i h
    obtain ⟨k, rfl⟩ := Int.eq_ofNat_of_zero_le h.1
    have hk : k < 7 := by omega
    have : ∀ k : Fin 7, 2 ^ k.1 < 256 := by decide
    simpa using this ⟨k, hk⟩
  · omega
theorem addN_lt {s : Nat} (h : s < 256) (i : Int) : addN s i < 256 := Nat.or_lt_two_pow (n := 8) h (oneN_lt i)
theorem belowN_lt {s : Nat} (h : s < 256) (n : Int) : belowN s n < 256 := by
  unfold belowN
  split
  · omega
  · exact Nat.lt_of_le_of_lt (Nat.mod_le _ _) h
theorem bits_step : ∀ s : Fin 256, 0 < s.1 → bitsOf s.1 = tz8 s.1 :: bitsOf (lowOff s.1) ∧ lowOff s.1 < s.1 := by decide +kernel
theorem has_spec {s : Nat} (hs : s < 256) (i : Int) : decide (0 < s &&& oneN i) = hasB s i := by
  unfold hasB oneN
  by_cases h : 0 ≤ i ∧ i < 7
  · obtain ⟨k, rfl⟩ := Int.eq_ofNat_of_zero_le h.1
    have hk : k < 7 := by omega
    have key : ∀ (s : Fin 256) (k : Fin 7), decide (0 < s.1 &&& 2 ^ k.1) = s.1.testBit k.1 := by decide +kernel
    have := key ⟨s, hs⟩ ⟨k, hk⟩
    rw [if_pos h]
    have h7 : ((k : Nat) : Int) < 7 := by omega
    simpa [h7] using this
  · rw [if_neg h]
    simp [h]
theorem bits_zero : bitsOf 0 = [] := by decide
theorem bits_len (s : Nat) : (bitsOf s).length ≤ 8 := by
  unfold bitsOf
  exact Nat.le_trans (List.length_filter_le _ _) (by simp)
theorem bits_lt {s x : Nat} (h : x ∈ bitsOf s) : x < 8 := by
  unfold bitsOf at h
  simp at h
  exact h.1

end Go.Proofs.Ytpgejomhcojppaa.Qm
