/- The plain laws on sets of replicas: majorities meet, and the like. Nothing of the program stands here. -/
import Derived.Test.YtpljbfajonhghaaQuorumPlain
namespace Go.Proofs.Ytpljbfajonhghaa.Qm

theorem filt_sum (p q : Nat → Bool) : ∀ l : List Nat, (∀ i ∈ l, ¬(p i = true ∧ q i = true)) → (l.filter p).length + (l.filter q).length ≤ l.length
  | [], _ => by simp
  | x :: l, h => by
    have ih := filt_sum p q l fun i hi => h i (by simp [hi])
    have hx := h x (by simp)
    simp only [List.filter_cons]
    cases hp : p x <;> cases hq : q x <;> simp [hp, hq] at hx ⊢ <;> omega

/-- The members of a set, of n: those below n. -/
theorem members_eq {s : Nat} (hs : s < 256) (n : Int) (hn : mostN n ≠ 0) : membersN s n = (List.range n.toNat).filter fun i => s.testBit i := by
  have key3 : ∀ s : Fin 256, bitsOf (s.1 % 8) = (List.range 3).filter fun i => s.1.testBit i := by decide +kernel
  have key5 : ∀ s : Fin 256, bitsOf (s.1 % 32) = (List.range 5).filter fun i => s.1.testBit i := by decide +kernel
  have key7 : ∀ s : Fin 256, bitsOf (s.1 % 128) = (List.range 7).filter fun i => s.1.testBit i := by decide +kernel
  unfold membersN belowN
  rw [if_neg hn]
  rcases most_cases n with ⟨rfl, _⟩ | ⟨rfl, _⟩ | ⟨rfl, _⟩ | ⟨_, _, _, h⟩
  · exact key3 ⟨s, hs⟩
  · exact key5 ⟨s, hs⟩
  · exact key7 ⟨s, hs⟩
  · exact absurd h hn

theorem enough_iff {s : Nat} {n : Int} : enoughB s n = true ↔ 0 < mostN n ∧ mostN n ≤ (membersN s n).length := by
  unfold enoughB; simp

/-- Two majorities have a replica in common. -/
theorem meet {a b : Nat} (ha : a < 256) (hb : b < 256) {n : Int} (h1 : enoughB a n = true) (h2 : enoughB b n = true) :
    ∃ i, i ∈ membersN a n ∧ hasB b (i : Int) = true ∧ (i : Int) < n := by
  rw [enough_iff] at h1 h2
  have hn : mostN n ≠ 0 := by omega
  have hn7 : 3 ≤ n ∧ n ≤ 7 ∧ n < 2 * mostN n := by
    rcases most_cases n with ⟨rfl, h⟩ | ⟨rfl, h⟩ | ⟨rfl, h⟩ | ⟨_, _, _, h⟩
    · omega
    · omega
    · omega
    · exact absurd h hn
  rw [members_eq ha n hn] at h1
  rw [members_eq hb n hn] at h2
  rw [members_eq ha n hn]
  apply Classical.byContradiction
  intro hc
  have := filt_sum (fun i => a.testBit i) (fun i => b.testBit i) (List.range n.toNat) (by
    rintro i hi ⟨hpa, hpb⟩
    have hin : i < n.toNat := by simpa using hi
    refine hc ⟨i, by simp [hin, hpa], ?_, by omega⟩
    unfold hasB
    rw [show decide (0 ≤ (i : Int) ∧ (i : Int) < 7) = true from decide_eq_true (by omega), Bool.true_and, Int.toNat_natCast]
    exact hpb)
  simp only [List.length_range] at this
  omega

theorem oneN_big {i : Int} (h : i < 0 ∨ 7 ≤ i) : oneN i = 0 := by unfold oneN; rw [if_neg (by omega)]
theorem of3 {n : Int} (h : n = 3 ∨ n = 5 ∨ n = 7) : n = 3 ∨ n = 5 ∨ n = 7 := h

/-- Of a set and its others just one is a majority; with one more a majority stays one; the two have n members. -/
theorem other {s : Nat} (hs : s < 256) {n : Int} (hn : n = 3 ∨ n = 5 ∨ n = 7) :
    enoughB s n = !enoughB (255 - s) n ∧ (membersN s n).length + (membersN (255 - s) n).length = n := by
  have k3 : ∀ s : Fin 256, enoughB s.1 3 = !enoughB (255 - s.1) 3 ∧ (membersN s.1 3).length + (membersN (255 - s.1) 3).length = 3 := by decide +kernel
  have k5 : ∀ s : Fin 256, enoughB s.1 5 = !enoughB (255 - s.1) 5 ∧ (membersN s.1 5).length + (membersN (255 - s.1) 5).length = 5 := by decide +kernel
  have k7 : ∀ s : Fin 256, enoughB s.1 7 = !enoughB (255 - s.1) 7 ∧ (membersN s.1 7).length + (membersN (255 - s.1) 7).length = 7 := by decide +kernel
  rcases hn with rfl | rfl | rfl
  · have := k3 ⟨s, hs⟩; exact ⟨this.1, by have := this.2; simp only at this; omega⟩
  · have := k5 ⟨s, hs⟩; exact ⟨this.1, by have := this.2; simp only at this; omega⟩
  · have := k7 ⟨s, hs⟩; exact ⟨this.1, by have := this.2; simp only at this; omega⟩
theorem enough_add {s : Nat} (hs : s < 256) (i : Int) {n : Int} (hn : n = 3 ∨ n = 5 ∨ n = 7) (h : enoughB s n = true) : enoughB (addN s i) n = true := by
  by_cases hi : 0 ≤ i ∧ i < 7
  · obtain ⟨k, rfl⟩ := Int.eq_ofNat_of_zero_le hi.1
    have k3 : ∀ (s : Fin 256) (k : Fin 7), enoughB s.1 3 = true → enoughB (addN s.1 (k.1 : Int)) 3 = true := by decide +kernel
    have k5 : ∀ (s : Fin 256) (k : Fin 7), enoughB s.1 5 = true → enoughB (addN s.1 (k.1 : Int)) 5 = true := by decide +kernel
    have k7 : ∀ (s : Fin 256) (k : Fin 7), enoughB s.1 7 = true → enoughB (addN s.1 (k.1 : Int)) 7 = true := by decide +kernel
    rcases hn with rfl | rfl | rfl
    · exact k3 ⟨s, hs⟩ ⟨k, by omega⟩ h
    · exact k5 ⟨s, hs⟩ ⟨k, by omega⟩ h
    · exact k7 ⟨s, hs⟩ ⟨k, by omega⟩ h
  · have e : addN s i = s := by unfold addN; rw [oneN_big (by omega)]; simp
    rw [e]; exact h

theorem add_has {s : Nat} (hs : s < 256) {x : Int} (hx : 0 ≤ x ∧ x < 7) : hasB (addN s x) x = true := by
  obtain ⟨k, rfl⟩ := Int.eq_ofNat_of_zero_le hx.1
  have key : ∀ (s : Fin 256) (k : Fin 7), hasB (addN s.1 (k.1 : Int)) (k.1 : Int) = true := by decide +kernel
  exact key ⟨s, hs⟩ ⟨k, by omega⟩
theorem add_twice (s : Nat) (x : Int) : addN (addN s x) x = addN s x := by unfold addN; rw [Nat.or_assoc, Nat.or_self]
theorem add_comm (s : Nat) (x y : Int) : addN (addN s x) y = addN (addN s y) x := by unfold addN; rw [Nat.or_assoc, Nat.or_assoc, Nat.or_comm (oneN x)]
theorem add_other {s : Nat} {x z : Int} (hx : 0 ≤ x ∧ x < 7) (hz : 0 ≤ z ∧ z < 7) (h : z ≠ x) : hasB (addN s x) z = hasB s z := by
  obtain ⟨k, rfl⟩ := Int.eq_ofNat_of_zero_le hx.1
  obtain ⟨m, rfl⟩ := Int.eq_ofNat_of_zero_le hz.1
  unfold hasB addN oneN
  rw [if_pos hx]
  simp only [Int.toNat_natCast, Nat.testBit_or, Nat.testBit_two_pow]
  have : decide (k = m) = false := decide_eq_false (by omega)
  rw [this, Bool.or_false]

theorem xor_all {s : Nat} (hs : s < 256) : 255 ^^^ s = 255 - s := by
  have key : ∀ s : Fin 256, 255 ^^^ s.1 = 255 - s.1 := by decide +kernel
  exact key ⟨s, hs⟩

/-- As many members of a majority as the least one has are one; one less are none. -/
theorem least {s : Nat} (hs : s < 256) {n : Int} (hn : n = 3 ∨ n = 5 ∨ n = 7) (h : mostN n ≤ (membersN s n).length) :
    enoughB (((membersN s n).take (mostN n)).foldl (fun t (i : Nat) => addN t (i : Int)) 0) n = true ∧ enoughB (((membersN s n).take (mostN n - 1)).foldl (fun t (i : Nat) => addN t (i : Int)) 0) n = false := by
  have k3 : ∀ s : Fin 256, mostN 3 ≤ (membersN s.1 3).length → enoughB (((membersN s.1 3).take (mostN 3)).foldl (fun t (i : Nat) => addN t (i : Int)) 0) 3 = true ∧ enoughB (((membersN s.1 3).take (mostN 3 - 1)).foldl (fun t (i : Nat) => addN t (i : Int)) 0) 3 = false := by decide +kernel
  have k5 : ∀ s : Fin 256, mostN 5 ≤ (membersN s.1 5).length → enoughB (((membersN s.1 5).take (mostN 5)).foldl (fun t (i : Nat) => addN t (i : Int)) 0) 5 = true ∧ enoughB (((membersN s.1 5).take (mostN 5 - 1)).foldl (fun t (i : Nat) => addN t (i : Int)) 0) 5 = false := by decide +kernel
  have k7 : ∀ s : Fin 256, mostN 7 ≤ (membersN s.1 7).length → enoughB (((membersN s.1 7).take (mostN 7)).foldl (fun t (i : Nat) => addN t (i : Int)) 0) 7 = true ∧ enoughB (((membersN s.1 7).take (mostN 7 - 1)).foldl (fun t (i : Nat) => addN t (i : Int)) 0) 7 = false := by decide +kernel
  rcases hn with rfl | rfl | rfl
  · exact k3 ⟨s, hs⟩ h
  · exact k5 ⟨s, hs⟩ h
  · exact k7 ⟨s, hs⟩ h

end Go.Proofs.Ytpljbfajonhghaa.Qm
