/- What the program's Of and the document's functions on sets of replicas (sextonref15) return, function by function. -/
import Derived.Test.YtinnpeonokdljaaQuorumWalks
import Derived.WalkKit
import Derived.Lib.Hide
import Derived.Maps.AppendAt
import Derived.Test.YtinnpeonokdljaaWords
import Derived.Deep.QuietTactic
import Derived.BigQuiet
namespace Go.Proofs.Ytinnpeonokdljaa
open Go.RowKit

namespace Qm

def ofN (l : List Int) : Nat := l.foldl addN 0
theorem ofN_snoc (l : List Int) (x : Int) : ofN (l ++ [x]) = addN (ofN l) x := by simp [ofN]
theorem ofN_lt (l : List Int) : ofN l < 256 := by
  unfold ofN
  suffices ∀ s, s < 256 → l.foldl addN s < 256 from this 0 (by omega)
  induction l with
  | nil => intro s hs; exact hs
  | cons x l ih => intro s hs; exact ih _ (addN_lt hs x)
theorem take_snoc {α : Type} (l : List α) (k : Nat) (h : k < l.length) : l.take (k + 1) = l.take k ++ [l[k]] := by
  rw [List.take_succ_eq_append_getElem h]
theorem info_int : (Try.prog.info? 3).map (fun i => (i.zero, i.size, i.bytes)) = some (some (.int .i64 0), 1, 8) := by kernel_rfl
def OwnsInts (w : World) (B : Nat) (v : Value) (xs : List Nat) : Prop := w.ownsRow B 3 1 v xs.length (xs.map fun x => Value.int .i64 (x : Nat)) ∧ (v = .slice none 0 0 ↔ xs = [])
def ints (l : List Int) : List Value := l.map fun i => Value.int .i64 i
theorem ints_cast (l : List Nat) : (l.map fun x => Value.int .i64 (x : Nat)) = ints (l.map fun x : Nat => (x : Int)) := by simp [ints]

set_option maxHeartbeats 400000 in
theorem of_any (l : List Int) (v : Value) (B : Nat) (w : World) (hr : Row w B v l.length (ints l)) :
    Calls Try.prog 29 #[v] w fun e w' => e = .returned (.int .u8 (ofN l)) ∧ w = w' := by
  obtain ⟨A, c, rfl, hn, hc⟩ := hr.slice
  unfold maxLen at hc
  have hlen : l.length ≤ 9223372036854775807 := by omega
  go_enter Try.func29, Try.ntmps29
  go_wp2_with fail
  go_loop [3, 8] (fun s i => ∃ k : Nat, k ≤ l.length ∧ i = .int .i64 k ∧ s = .int .u8 (ofN (l.take k))) (fun _ i => l.length - (intOf i).toNat)
  case atStart => exact ⟨0, Nat.zero_le _, rfl, rfl⟩
  case round =>
    obtain ⟨k, hk, rfl, rfl⟩ := hrel
    by_cases hlt : k < l.length
    · obtain ⟨b, off, rfl, _, hx⟩ := hr.at_ (j := k) (by simpa [ints] using hlt)
      have hcell := hx k _ (by simp [ints, List.getElem?_eq_getElem hlt]; rfl)
      have HB := Lib.hid (u8_or_nat _ _ (ofN_lt (l.take k)) (oneN_lt l[k]))
      have HS := Lib.hid (show ofN (l.take (k + 1)) = ofN (l.take k) ||| oneN l[k] by rw [take_snoc l k hlt, ofN_snoc]; rfl)
      have hr' := Lib.hid hr; clear hr
      have hx' := Lib.hid hx; clear hx
      go_wp2_with (go_at_call 46; refine (one_any _ _).mono ?_; rintro e w' ⟨rfl, rfl⟩)
      go_round
      case rel => exact ⟨k + 1, by omega, by go_num, by rw [HS.out]; exact congrArg (Value.int IntKind.u8) HB.out⟩
      case measure => simp [intOf]; omega
    · have e : k = l.length := by omega
      subst e
      go_wp2_with fail
      go_ret
      exact ⟨by simp, rfl⟩

set_option maxHeartbeats 400000 in
theorem rmost_any (n : Int) (w : World) :
    Calls Try.prog 58 #[.int .i64 n] w fun e w' => e = .returned (.int .i64 (mostN n)) ∧ w = w' := by
  rcases most_cases n with ⟨rfl, h⟩ | ⟨rfl, h⟩ | ⟨rfl, h⟩ | ⟨h3, h5, h7, h⟩
  · rw [h]; clear h
    go_enter Try.func58, Try.ntmps58
    go_wp2
    refine wp_loop_rounds 5 ?_
    repeat any_goals (rw [rounds_succ]; go_wp2)
    go_ret
    exact ⟨rfl, rfl⟩
  · rw [h]; clear h
    go_enter Try.func58, Try.ntmps58
    go_wp2
    refine wp_loop_rounds 6 ?_
    repeat any_goals (rw [rounds_succ]; go_wp2)
    go_ret
    exact ⟨rfl, rfl⟩
  · rw [h]; clear h
    go_enter Try.func58, Try.ntmps58
    go_wp2
    refine wp_loop_rounds 7 ?_
    repeat any_goals (rw [rounds_succ]; go_wp2)
    go_ret
    exact ⟨rfl, rfl⟩
  · rw [h]; clear h
    have b3 : (n != 3) = true := by rw [bne_iff_ne]; omega
    have b5 : (n != 5) = true := by rw [bne_iff_ne]; omega
    have b7 : (n != 7) = true := by rw [bne_iff_ne]; omega
    clear h3 h5 h7
    go_enter Try.func58, Try.ntmps58
    go_wp2
    go_ret
    exact ⟨rfl, rfl⟩

theorem has_div {s : Nat} (i : Int) (h0 : 0 ≤ i) (h7 : i < 7) : (((s / 2 ^ i.toNat % 2 : Nat) : Int) == 1) = hasB s i := by
  unfold hasB
  rw [Nat.testBit_eq_decide_div_mod_eq]
  have hd : decide (0 ≤ i ∧ i < 7) = true := by simp [h0, h7]
  rw [hd, Bool.true_and]
  generalize s / 2 ^ i.toNat = q
  rw [Bool.eq_iff_iff]
  simp
  omega

set_option maxHeartbeats 400000 in
theorem rhas_any (s : Nat) (hs : s < 256) (i : Int) (w : World) :
    Calls Try.prog 57 #[.int .u8 s, .int .i64 i] w fun e w' => e = .returned (.bool (hasB s i)) ∧ w = w' := by
  by_cases h0 : i < 0
  · have h : hasB s i = false := by unfold hasB; rw [show decide (0 ≤ i ∧ i < 7) = false from decide_eq_false (by omega)]; rfl
    rw [h]; clear h
    go_enter Try.func57, Try.ntmps57
    go_wp2
    go_ret
    exact ⟨rfl, rfl⟩
  by_cases h7 : 6 < i
  · have h : hasB s i = false := by unfold hasB; rw [show decide (0 ≤ i ∧ i < 7) = false from decide_eq_false (by omega)]; rfl
    rw [h]; clear h
    go_enter Try.func57, Try.ntmps57
    go_wp2
    go_ret
    exact ⟨rfl, rfl⟩
  have H := Lib.hid (has_div (s := s) i (by omega) (by omega))
  obtain ⟨m, rfl⟩ := Int.eq_ofNat_of_zero_le (show 0 ≤ i by omega)
  rw [Int.toNat_natCast] at H
  go_enter Try.func57, Try.ntmps57
  go_wp2
  go_loop [0, 5] (fun t j => ∃ k : Nat, k ≤ m ∧ j = .int .i64 k ∧ ∃ a : Nat, a < 256 ∧ t = .int .u8 a ∧ a = s / 2 ^ k) (fun _ j => m - (intOf j).toNat)
  case atStart => exact ⟨0, Nat.zero_le _, rfl, s, hs, rfl, by simp⟩
  case round =>
    obtain ⟨k, hk, rfl, a, ha, rfl, haa⟩ := hrel
    have HA := Lib.hid haa; clear haa
    by_cases hlt : k < m
    · go_wp2
      go_round
      case rel => exact ⟨k + 1, by omega, by go_num, a / 2, by omega, by go_num, by rw [HA.out, Nat.div_div_eq_div_mul, Nat.pow_succ]⟩
      case measure => simp [intOf]; omega
    · have e : k = m := by omega
      subst e
      go_wp2
      go_ret
      refine ⟨?_, rfl⟩
      rw [← H.out, ← HA.out]
      simp

theorem add_plus {s : Nat} (hs : s < 256) (k : Nat) (hk : k < 7) (h : hasB s k = false) : s + 2 ^ k = addN s k ∧ addN s k < 256 := by
  have key : ∀ (s : Fin 256) (k : Fin 7), hasB s.1 (k.1 : Int) = false → s.1 + 2 ^ k.1 = addN s.1 (k.1 : Int) ∧ addN s.1 (k.1 : Int) < 256 := by decide +kernel
  exact key ⟨s, hs⟩ ⟨k, hk⟩ h
theorem add_same {s : Nat} (hs : s < 256) (k : Nat) (hk : k < 7) (h : hasB s k = true) : addN s k = s := by
  have key : ∀ (s : Fin 256) (k : Fin 7), hasB s.1 (k.1 : Int) = true → addN s.1 (k.1 : Int) = s.1 := by decide +kernel
  exact key ⟨s, hs⟩ ⟨k, hk⟩ h

theorem filter_bits {s : Nat} (hs : s < 256) (n : Int) (hn : mostN n ≠ 0) : membersN s n = (List.range n.toNat).filter fun i => s.testBit i := by
  have key3 : ∀ s : Fin 256, bitsOf (s.1 % 8) = (List.range 3).filter fun i => s.1.testBit i := by decide +kernel
  have key5 : ∀ s : Fin 256, bitsOf (s.1 % 32) = (List.range 5).filter fun i => s.1.testBit i := by decide +kernel
  have key7 : ∀ s : Fin 256, bitsOf (s.1 % 128) = (List.range 7).filter fun i => s.1.testBit i := by decide +kernel
  unfold membersN belowN
  rw [if_neg hn]
  rcases most_cases n with ⟨rfl, _⟩ | ⟨rfl, _⟩ | ⟨rfl, _⟩ | ⟨_, _, _, h⟩
  · exact key3 ⟨s, hs⟩
  · exact key5 ⟨s, hs⟩
  · exact key7 ⟨s, hs⟩
  · exact absurd h hn
theorem has_nat (s k : Nat) (hk : k < 7) : hasB s (k : Int) = s.testBit k := by
  unfold hasB
  rw [show decide (0 ≤ (k : Int) ∧ (k : Int) < 7) = true from decide_eq_true (by omega), Bool.true_and, Int.toNat_natCast]
def upK (s k : Nat) : List Nat := (List.range k).filter fun i => s.testBit i
theorem upK_hit {s k : Nat} (h : s.testBit k = true) : upK s (k + 1) = upK s k ++ [k] := by unfold upK; rw [List.range_succ, List.filter_append]; simp [h]
theorem upK_miss {s k : Nat} (h : s.testBit k = false) : upK s (k + 1) = upK s k := by unfold upK; rw [List.range_succ, List.filter_append]; simp [h]
theorem upK_le (s k : Nat) : (upK s k).length ≤ k := by unfold upK; exact Nat.le_trans (List.length_filter_le _ _) (by simp)

set_option maxHeartbeats 400000 in
theorem rmembers_none (s : Nat) (n : Int) (hn : mostN n = 0) (w : World) :
    Calls Try.prog 59 #[.int .u8 s, .int .i64 n] w fun e w' => e = .returned (.slice none 0 0) ∧ w = w' := by
  have hm := @rmost_any n
  rw [hn] at hm
  have HM := Lib.hid hm; clear hm hn
  go_enter Try.func59, Try.ntmps59
  go_wp2_with fail
  refine wp_loop_rounds 1 ?_
  rw [rounds_succ]
  by_cases h0 : 0 < n
  all_goals
    go_wp2_with (go_at_call 58; refine (HM.out _).mono ?_; rintro e w' ⟨rfl, rfl⟩)
    go_ret
    exact ⟨rfl, rfl⟩

set_option maxRecDepth 100000 in
set_option maxHeartbeats 1000000 in
theorem rmembers_some (s : Nat) (hs : s < 256) (n : Nat) (hn : mostN n ≠ 0) (h7 : n ≤ 7) (w : World) :
    Calls Try.prog 59 #[.int .u8 s, .int .i64 n] w fun e W' => ∃ v, e = .returned v ∧ OwnsInts W' w.heap.size v (upK s n) ∧ Below w.heap.size w W' := by
  obtain ⟨i0, hi, hz0, hz1, hz2⟩ := info_parts info_int
  have hpos : 0 < mostN n := by omega
  have hle := most_le n
  have HN := Lib.hid hn; clear hn
  go_enter Try.func59, Try.ntmps59
  go_wp2_with fail
  go_loopw [5, 6] (fun v i wr => ∃ k : Nat, k ≤ n ∧ i = .int .i64 k ∧ wr.ownsRow w.heap.size 3 1 v (upK s k).length ((upK s k).map fun x => Value.int .i64 (x : Nat)) ∧ (v = .slice none 0 0 ↔ upK s k = []) ∧ Below w.heap.size w wr) (fun _ i _ => n - (intOf i).toNat)
  case atStart => exact ⟨0, Nat.zero_le _, rfl, World.ownsRow_nil _ _ _ _, by simp [upK], Below.refl _ _⟩
  case round =>
    obtain ⟨k, hk, rfl, hown, hnil, hB⟩ := hrel
    have hl := upK_le s k
    by_cases hlt : k < n
    · by_cases hb : s.testBit k = true
      · have h1 := Lib.hid (show hasB s (k : Int) = true by rw [has_nat s k (by omega)]; exact hb)
        have h2 := Lib.hid (upK_hit hb)
        have hnil' := Lib.hid hnil
        clear hb hnil
        go_wp2_with (first
          | (go_at_call 58; refine (rmost_any _ _).mono ?_; rintro e w' ⟨rfl, rfl⟩)
          | (go_at_call 57; refine (rhas_any _ hs _ _).mono ?_; rw [h1.out]; rintro e w' ⟨rfl, rfl⟩)
          | (at_builtin; refine wpList_append_own _ rfl _ _ 58 rfl w.heap.size 3 i0 (.int .i64 0) 1 8 Try.underlying58 hi hz0 hz1 hz2 rfl (by decide) _ _ _ rfl (hown.alloc _) ⟨wr.heap.size, 0, none⟩ 1 1 [.int .i64 (k : Nat)] rfl rfl (cell_one_new _ _ _) (by simp [Value.oneCell']) (by unfold maxLen; omega) (by omega) (by have := hB.size; simp; omega) ?_; intro v' w1 hown' hgrow hiff))
        refine ⟨⟨k + 1, by omega, by go_num, ?_, ?_, below_push hB hB.size hown hgrow⟩, by simp [intOf]; omega⟩
        · rw [h2.out]
          simpa using hown'
        · rw [h2.out, hiff]
          simp
      · have h1 := Lib.hid (show hasB s (k : Int) = false by rw [has_nat s k (by omega)]; simpa using hb)
        have h2 := Lib.hid (upK_miss (s := s) (k := k) (by simpa using hb))
        have hnil' := Lib.hid hnil
        have hown' := Lib.hid hown
        clear hb hnil hown
        go_wp2_with (first
          | (go_at_call 58; refine (rmost_any _ _).mono ?_; rintro e w' ⟨rfl, rfl⟩)
          | (go_at_call 57; refine (rhas_any _ hs _ _).mono ?_; rw [h1.out]; rintro e w' ⟨rfl, rfl⟩))
        refine ⟨⟨k + 1, by omega, by go_num, ?_, ?_, hB⟩, by simp [intOf]; omega⟩
        · rw [h2.out]
          exact hown'.out
        · rw [h2.out]
          exact hnil'.out
    · have e : k = n := by omega
      subst e
      have hnil' := Lib.hid hnil
      clear hnil
      go_wp2_with fail
      go_ret
      exact ⟨_, rfl, ⟨hown, hnil'.out⟩, hB⟩

theorem rmembers_any (s : Nat) (hs : s < 256) (n : Int) (w : World) :
    Calls Try.prog 59 #[.int .u8 s, .int .i64 n] w fun e W' => ∃ v, e = .returned v ∧ OwnsInts W' w.heap.size v (membersN s n) ∧ Below w.heap.size w W' := by
  by_cases h : mostN n = 0
  · have h0 : membersN s n = [] := by unfold membersN belowN; rw [if_pos h]; exact bits_zero
    rw [h0]
    refine (rmembers_none s n h w).mono ?_
    rintro e w' ⟨rfl, rfl⟩
    exact ⟨_, rfl, ⟨World.ownsRow_nil _ _ _ _, by simp⟩, Below.refl _ _⟩
  · rw [filter_bits hs n h]
    have hn : 0 ≤ n ∧ n ≤ 7 := by rcases most_cases n with ⟨rfl, _⟩ | ⟨rfl, _⟩ | ⟨rfl, _⟩ | ⟨_, _, _, h'⟩ <;> omega
    obtain ⟨k, rfl⟩ := Int.eq_ofNat_of_zero_le hn.1
    exact rmembers_some s hs k h (by omega) w

set_option maxHeartbeats 400000 in
theorem renough_any (s : Nat) (hs : s < 256) (n : Int) (w : World) :
    Calls Try.prog 45 #[.int .u8 s, .int .i64 n] w fun e w' => e = .returned (.bool (enoughB s n)) ∧ Below w.heap.size w w' := by
  have hm := most_le n
  have hE : Hid (enoughB s n = (decide (0 < mostN n) && decide (mostN n ≤ (membersN s n).length))) := rfl
  go_enter Try.func45, Try.ntmps45
  by_cases h0 : 0 < mostN n
  · have hn0 : mostN n ≠ 0 := by omega
    go_wp2_with (first
      | (go_at_call 58; refine (rmost_any _ _).mono ?_; rintro e w' ⟨rfl, rfl⟩)
      | (go_at_call 59; refine (rmembers_any _ hs _ _).mono ?_; rintro e w' ⟨v, rfl, ⟨hown, _⟩, hb⟩; obtain ⟨A, c, rfl, _, _⟩ := (Row.of_own hown).slice))
    go_ret
    refine ⟨?_, hb⟩
    rw [hE.out]
    simp [h0]
  · go_wp2_with (go_at_call 58; refine (rmost_any _ _).mono ?_; rintro e w' ⟨rfl, rfl⟩)
    go_ret
    refine ⟨?_, Below.refl _ _⟩
    rw [hE.out]
    simp [h0]



end Qm
end Go.Proofs.Ytinnpeonokdljaa
