/- The walks of the outright laws on sets of replicas. -/
import Derived.Test.YtpljbfajonhghaaQuorumAwake
import Derived.Test.YtpljbfajonhghaaQuorumLawsPlain
namespace Go.Proofs.Ytpljbfajonhghaa
open Go.RowKit

namespace Qm

theorem blk2 (w : World) (o o' o'' : Obj) : (((w.alloc o).alloc o').alloc o'').heap[w.heap.size + 1 + 1]? = some o'' := by
  have := heap_alloc_new ((w.alloc o).alloc o') o''
  rwa [World.size_alloc, World.size_alloc] at this

theorem ofN_turn (x y z : Int) : ofN [z, y, x] = ofN [x, y, z] := by
  show addN (addN (addN 0 z) y) x = addN (addN (addN 0 x) y) z
  rw [add_comm 0 z y, add_comm (addN 0 y) z x, add_comm 0 y x]
theorem ofN_mid (x y z : Int) (hy : 0 ≤ y ∧ y < 7) (hz : 0 ≤ z ∧ z < 7) : hasB (ofN [x, y, z]) y = true := by
  show hasB (addN (addN (addN 0 x) y) z) y = true
  by_cases h : y = z
  · rw [h]; exact add_has (addN_lt (addN_lt (by omega) _) _) hz
  · rw [add_other hz hy h]
    exact add_has (addN_lt (by omega) _) hy

set_option maxHeartbeats 1000000 in
theorem adds_any (a : Nat) (ha : a < 256) (i : Nat) (hi : i < 256) (k : Nat) (hk : k < 256) (m : Nat) (hm : m < 256) (w : World) :
    Calls Try.prog 7 #[.int .u8 a, .int .u8 i, .int .u8 k, .int .u8 m] w fun e w' => e = .returned (.bool true) ∧ Below w.heap.size w w' := by
  have hx : 0 ≤ (i : Int) % 7 ∧ (i : Int) % 7 < 7 := by omega
  have hy : 0 ≤ (k : Int) % 7 ∧ (k : Int) % 7 < 7 := by omega
  have hz : 0 ≤ (m : Int) % 7 ∧ (m : Int) % 7 < 7 := by omega
  have e1 := add_has ha hx
  have e2 := add_twice a ((i : Int) % 7)
  have e3 := add_comm a ((i : Int) % 7) ((k : Int) % 7)
  have e4 := ofN_turn ((i : Int) % 7) ((k : Int) % 7) ((m : Int) % 7)
  have e5 := ofN_mid ((i : Int) % 7) _ _ hy hz
  by_cases hq : (m : Int) % 7 = (i : Int) % 7
  · have b1 : (((m : Int) % 7) != ((i : Int) % 7)) = false := by simpa using hq
    have Hq := Lib.hid hq; clear hq
    go_enter Try.func7, Try.ntmps7
    go_wp2_with fail
    refine (awake_any _).mono ?_
    rintro e w1 ⟨rfl, hb1⟩
    go_wp2_with (first
      | (go_at_call 19; refine (add_any _ (by first | exact ha | exact addN_lt ha _) _ _).mono ?_; rintro e w' ⟨rfl, rfl⟩)
      | (go_at_call 17; refine (has_any _ (by first | exact ha | exact addN_lt ha _ | exact ofN_lt _) _ _).mono ?_; rintro e w' ⟨rfl, rfl⟩)
      | (go_at_call 18; refine (of3_any _ _ _ _ _ (by first | exact blk0 _ _ | exact blk1 _ _ _ | exact blk2 _ _ _ _)).mono ?_; rintro e w' ⟨rfl, rfl⟩))
    go_ret
    exact ⟨rfl, ((hb1.alloc hb1.size _).alloc (by have := hb1.size; simp; omega) _).alloc (by have := hb1.size; simp; omega) _⟩
  · have b1 : (((m : Int) % 7) != ((i : Int) % 7)) = true := by simpa using hq
    have e6 := add_other (s := a) hx hz hq
    have Hq := Lib.hid hq; clear hq
    go_enter Try.func7, Try.ntmps7
    go_wp2_with fail
    refine (awake_any _).mono ?_
    rintro e w1 ⟨rfl, hb1⟩
    go_wp2_with (first
      | (go_at_call 19; refine (add_any _ (by first | exact ha | exact addN_lt ha _) _ _).mono ?_; rintro e w' ⟨rfl, rfl⟩)
      | (go_at_call 17; refine (has_any _ (by first | exact ha | exact addN_lt ha _ | exact ofN_lt _) _ _).mono ?_; rintro e w' ⟨rfl, rfl⟩)
      | (go_at_call 18; refine (of3_any _ _ _ _ _ (by first | exact blk0 _ _ | exact blk1 _ _ _ | exact blk2 _ _ _ _)).mono ?_; rintro e w' ⟨rfl, rfl⟩))
    go_ret
    exact ⟨rfl, ((hb1.alloc hb1.size _).alloc (by have := hb1.size; simp; omega) _).alloc (by have := hb1.size; simp; omega) _⟩

theorem u8_not (a : Nat) (ha : a < 256) : bits .xor .u8 IntKind.u8.max (a : Int) = ((255 - a : Nat) : Int) := by
  rw [show IntKind.u8.max = ((255 : Nat) : Int) from rfl, u8_xor_nat 255 a (by omega) ha, xor_all ha]

set_option maxHeartbeats 1000000 in
theorem other_any (a : Nat) (ha : a < 256) (n i : Int) (w : World) :
    Calls Try.prog 6 #[.int .u8 a, .int .i64 n, .int .i64 i] w fun e w' => e = .returned (.bool true) ∧ Below w.heap.size w w' := by
  have hn := ofZ_cases n
  have e1 := u8_not a ha
  obtain ⟨e2, e3⟩ := other ha hn
  have e4 := enough_add ha i hn
  have hl1 := bits_len (belowN a (ofZ n))
  have hl2 := bits_len (belowN (255 - a) (ofZ n))
  have E3 := Lib.hid e3; clear e3 hn
  have hb : 255 - a < 256 := by omega
  cases h : enoughB a (ofZ n)
  all_goals
    rw [h] at e2 e4
    have e5 : enoughB (255 - a) (ofZ n) = !enoughB a (ofZ n) := by rw [h]; cases h' : enoughB (255 - a) (ofZ n) <;> simp_all
    simp at e4
    clear e2
    rw [h] at e5
    simp only [Bool.not_true, Bool.not_false] at e5
    go_enter Try.func6, Try.ntmps6
    go_wp2_with fail
    refine (awake_any _).mono ?_
    rintro e w1 ⟨rfl, hb1⟩
    go_wp2_with (first
      | (go_at_call 16; refine (sof_any _ _).mono ?_; rintro e w' ⟨rfl, rfl⟩)
      | (go_at_call 13; refine (enough_any _ (by first | exact ha | exact hb | exact addN_lt ha _) _ _).mono ?_; rintro e w' ⟨rfl, rfl⟩)
      | (go_at_call 19; refine (add_any _ ha _ _).mono ?_; rintro e w' ⟨rfl, rfl⟩))
    refine (members_any _ ha _ _).mono ?_
    rintro e w2 ⟨v2, rfl, ⟨hown, _⟩, hb2⟩
    obtain ⟨A, c, rfl, hn1, hc1⟩ := (Row.of_own hown).slice
    clear hown
    go_wp2_with fail
    refine (members_any _ hb _ _).mono ?_
    rintro e w3 ⟨v3, rfl, ⟨hown, _⟩, hb3⟩
    obtain ⟨A', c', rfl, hn2, hc2⟩ := (Row.of_own hown).slice
    clear hown
    have hm1 : (membersN a (ofZ n)).length ≤ 8 := hl1
    have hm2 : (membersN (255 - a) (ofZ n)).length ≤ 8 := hl2
    go_wp2_with fail
    go_ret
    refine ⟨?_, hb1.trans ((hb2.mono hb1.size).trans (hb3.mono (Nat.le_trans hb1.size hb2.size)))⟩
    have := E3.out
    simp
    omega

set_option maxHeartbeats 1000000 in
theorem least_any (a : Nat) (ha : a < 256) (n : Int) (w : World) :
    Calls Try.prog 5 #[.int .u8 a, .int .i64 n] w fun e w' => e = .returned (.bool true) ∧ Below w.heap.size w w' := by
  have hn := ofZ_cases n
  have hl := bits_len (belowN a (ofZ n))
  have hm : (membersN a (ofZ n)).length ≤ 8 := hl
  clear hl
  have hmo : 2 ≤ mostN (ofZ n) ∧ mostN (ofZ n) ≤ 4 := by
    rcases hn with h | h | h <;> rw [h] <;> decide
  have hE := Lib.hid (enough_iff (s := a) (n := ofZ n))
  by_cases hlt : (membersN a (ofZ n)).length < mostN (ofZ n)
  · have he : enoughB a (ofZ n) = false := by
      cases h : enoughB a (ofZ n)
      · rfl
      · have := hE.out.1 h; omega
    clear hn
    go_enter Try.func5, Try.ntmps5
    go_wp2_with fail
    refine (awake_any _).mono ?_
    rintro e w1 ⟨rfl, hb1⟩
    go_wp2_with (go_at_call 16; refine (sof_any _ _).mono ?_; rintro e w' ⟨rfl, rfl⟩)
    refine (members_any _ ha _ _).mono ?_
    rintro e w2 ⟨v2, rfl, ⟨hown, _⟩, hb2⟩
    obtain ⟨A, c, rfl, hn, hc⟩ := (Row.of_own hown).slice
    clear hown
    go_wp2_with (first
      | (go_at_call 8; refine (most_any _ _).mono ?_; rintro e w' ⟨rfl, rfl⟩)
      | (go_at_call 13; refine (enough_any _ ha _ _).mono ?_; rintro e w' ⟨rfl, rfl⟩))
    go_ret
    exact ⟨rfl, hb1.trans (hb2.mono hb1.size)⟩
  · have he : enoughB a (ofZ n) = true := hE.out.2 ⟨by omega, by omega⟩
    obtain ⟨hy1, hy2⟩ := least ha hn (by omega)
    have hy1' : enoughB (ofN (((membersN a (ofZ n)).map fun x : Nat => (x : Int)).take (mostN (ofZ n)))) (ofZ n) = true := by
      rw [← hy1, ← List.map_take, ofN, List.foldl_map]
    have hy2' : enoughB (ofN (((membersN a (ofZ n)).map fun x : Nat => (x : Int)).take (mostN (ofZ n) - 1))) (ofZ n) = false := by
      rw [← hy2, ← List.map_take, ofN, List.foldl_map]
    clear hn hy1 hy2
    go_enter Try.func5, Try.ntmps5
    go_wp2_with fail
    refine (awake_any _).mono ?_
    rintro e w1 ⟨rfl, hb1⟩
    go_wp2_with (go_at_call 16; refine (sof_any _ _).mono ?_; rintro e w' ⟨rfl, rfl⟩)
    refine (members_any _ ha _ _).mono ?_
    rintro e w2 ⟨v2, rfl, ⟨hown, _⟩, hb2⟩
    obtain ⟨A, c, rfl, hn, hc⟩ := (Row.of_own hown).slice
    have hr := Row.of_own hown
    rw [ints_cast] at hr
    have hlen : ((membersN a (ofZ n)).map fun x : Nat => (x : Int)).length = (membersN a (ofZ n)).length := by simp
    have r1 : Row w2 w2.heap.size (.slice A (mostN (ofZ n)) c) (((membersN a (ofZ n)).map fun x : Nat => (x : Int)).take (mostN (ofZ n))).length (ints (((membersN a (ofZ n)).map fun x : Nat => (x : Int)).take (mostN (ofZ n)))) := by
      rw [List.length_take, hlen, Nat.min_eq_left (by omega)]
      have := hr.take (mostN (ofZ n)) (by omega)
      rwa [ints, ← List.map_take] at this
    have r2 : Row w2 w2.heap.size (.slice A (mostN (ofZ n) - 1) c) (((membersN a (ofZ n)).map fun x : Nat => (x : Int)).take (mostN (ofZ n) - 1)).length (ints (((membersN a (ofZ n)).map fun x : Nat => (x : Int)).take (mostN (ofZ n) - 1))) := by
      rw [List.length_take, hlen, Nat.min_eq_left (by omega)]
      have := hr.take (mostN (ofZ n) - 1) (by omega)
      rwa [ints, ← List.map_take] at this
    clear hown hlen hr
    unfold maxLen at hc
    have R1 := Lib.hid r1; clear r1
    have R2 := Lib.hid r2; clear r2
    go_wp2_with (first
      | (go_at_call 8; refine (most_any _ _).mono ?_; rintro e w' ⟨rfl, rfl⟩)
      | (go_at_call 13; refine (enough_any _ ha _ _).mono ?_; rintro e w' ⟨rfl, rfl⟩))
    refine (of_any _ _ _ _ R1.out).mono ?_
    rintro e w3 ⟨rfl, rfl⟩
    go_wp2_with (go_at_call 13; refine (enough_any _ (ofN_lt _) _ _).mono ?_; rintro e w' ⟨rfl, rfl⟩)
    refine (of_any _ _ _ _ R2.out).mono ?_
    rintro e w3 ⟨rfl, rfl⟩
    go_wp2_with (go_at_call 13; refine (enough_any _ (ofN_lt _) _ _).mono ?_; rintro e w' ⟨rfl, rfl⟩)
    go_ret
    exact ⟨rfl, hb1.trans (hb2.mono hb1.size)⟩

set_option maxHeartbeats 1000000 in
theorem meet_any (a : Nat) (ha : a < 256) (b : Nat) (hb : b < 256) (n : Int) (w : World) :
    Calls Try.prog 4 #[.int .u8 a, .int .u8 b, .int .i64 n] w fun e w' => e = .returned (.bool true) ∧ Below w.heap.size w w' := by
  have hl := bits_len (belowN a (ofZ n))
  have hm : (membersN a (ofZ n)).length ≤ 8 := hl
  clear hl
  have hmeet : Hid (enoughB a (ofZ n) = true → enoughB b (ofZ n) = true → ∃ i, i ∈ membersN a (ofZ n) ∧ hasB b (i : Int) = true ∧ (i : Int) < ofZ n) := meet ha hb
  cases h1 : enoughB a (ofZ n)
  · go_enter Try.func4, Try.ntmps4
    go_wp2_with fail
    refine (awake_any _).mono ?_
    rintro e w1 ⟨rfl, hb1⟩
    go_wp2_with (first
      | (go_at_call 16; refine (sof_any _ _).mono ?_; rintro e w' ⟨rfl, rfl⟩)
      | (go_at_call 13; refine (enough_any _ (by first | exact ha | exact hb) _ _).mono ?_; rintro e w' ⟨rfl, rfl⟩))
    go_ret
    exact ⟨rfl, hb1⟩
  cases h2 : enoughB b (ofZ n)
  · go_enter Try.func4, Try.ntmps4
    go_wp2_with fail
    refine (awake_any _).mono ?_
    rintro e w1 ⟨rfl, hb1⟩
    go_wp2_with (first
      | (go_at_call 16; refine (sof_any _ _).mono ?_; rintro e w' ⟨rfl, rfl⟩)
      | (go_at_call 13; refine (enough_any _ (by first | exact ha | exact hb) _ _).mono ?_; rintro e w' ⟨rfl, rfl⟩))
    go_ret
    exact ⟨rfl, hb1⟩
  have hex := Lib.hid (hmeet.out h1 h2)
  clear hmeet
  go_enter Try.func4, Try.ntmps4
  go_wp2_with fail
  refine (awake_any _).mono ?_
  rintro e w1 ⟨rfl, hb1⟩
  go_wp2_with (first
    | (go_at_call 16; refine (sof_any _ _).mono ?_; rintro e w' ⟨rfl, rfl⟩)
    | (go_at_call 13; refine (enough_any _ (by first | exact ha | exact hb) _ _).mono ?_; rintro e w' ⟨rfl, rfl⟩))
  refine (members_any _ ha _ _).mono ?_
  rintro e w2 ⟨v2, rfl, ⟨hown, _⟩, hb2⟩
  obtain ⟨A, c, rfl, hn, hc⟩ := (Row.of_own hown).slice
  have hr := Row.of_own hown
  rw [ints_cast] at hr
  clear hown
  go_wp2_with fail
  generalize hL : membersN a (ofZ n) = L at *
  clear hL
  go_loop [10] (fun i => ∃ k : Nat, k ≤ L.length ∧ i = .int .i64 k ∧ ∀ j, j < k → ∀ x, L[j]? = some x → ¬(hasB b (x : Int) = true ∧ (x : Int) < ofZ n)) (fun i => L.length - (intOf i).toNat)
  case atStart => exact ⟨0, Nat.zero_le _, rfl, fun j hj => absurd hj (by omega)⟩
  case round =>
    obtain ⟨k, hk, rfl, hall⟩ := hrel
    have Hall := Lib.hid hall; clear hall
    by_cases hlt : k < L.length
    · obtain ⟨b', off, rfl, _, hx⟩ := hr.at_ (j := k) (by simpa [ints] using hlt)
      have hcell := hx k (.int .i64 (L[k] : Nat)) (by simp [ints, List.getElem?_eq_getElem hlt])
      have Hr := Lib.hid hr; clear hr
      clear hx
      go_wp2_with (go_at_call 17; refine (has_any _ hb _ _).mono ?_; rintro e w' ⟨rfl, rfl⟩)
      · go_ret
        exact ⟨rfl, hb1.trans (hb2.mono hb1.size)⟩
      all_goals
        refine ⟨⟨k + 1, by omega, by go_num, fun j hj x hx hh => ?_⟩, by simp [intOf]; omega⟩
        by_cases hjk : j < k
        · exact Hall.out j hjk x hx hh
        · have e : j = k := by omega
          subst e
          rw [List.getElem?_eq_getElem hlt] at hx
          injection hx with hx
          subst hx
          first
            | (have h' : ofZ n ≤ (L[j] : Int) := by assumption
               exact absurd hh.2 (by omega))
            | (have h' : ¬hasB b (L[j] : Int) = true := by assumption
               exact h' hh.1)
    · exfalso
      obtain ⟨x, hx, hh⟩ := hex.out
      obtain ⟨j, hj, rfl⟩ := List.mem_iff_getElem.1 hx
      exact Hall.out j (by omega) _ (List.getElem?_eq_getElem hj) hh

end Qm
end Go.Proofs.Ytpljbfajonhghaa
