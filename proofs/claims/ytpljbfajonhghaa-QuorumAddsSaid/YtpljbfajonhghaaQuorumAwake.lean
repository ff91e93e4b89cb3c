/- The chapter's examples, which the outright laws on sets of replicas begin with. -/
import Derived.Test.YtpljbfajonhghaaQuorumRef
namespace Go.Proofs.Ytpljbfajonhghaa
open Go.RowKit

namespace Qm

def ofZ (n : Int) : Int := 3 + 2 * (n % 18446744073709551616 % 3)
theorem ofZ_cases (n : Int) : ofZ n = 3 ∨ ofZ n = 5 ∨ ofZ n = 7 := by unfold ofZ; omega

set_option maxHeartbeats 400000 in
theorem sof_any (n : Int) (w : World) :
    Calls Try.prog 16 #[.int .i64 n] w fun e w' => e = .returned (.int .i64 (ofZ n)) ∧ w = w' := by
  go_enter Try.func16, Try.ntmps16
  go_wp2
  go_ret
  refine ⟨congrArg Ending.returned (congrArg (Value.int IntKind.i64) ?_), rfl⟩
  unfold ofZ wrap64
  rw [IntKind.wrap_u64, Int.tmod_eq_emod_of_nonneg (by omega)]
  omega

theorem of3_any (a b c : Int) (k : Nat) (W : World) (h : W.heap[k]? = some (.cells #[.int .i64 a, .int .i64 b, .int .i64 c] 3 (0, 0))) :
    Calls Try.prog 18 #[.slice (some ⟨k, 0, none⟩) 3 3] W fun e w' => e = .returned (.int .u8 (ofN [a, b, c])) ∧ W = w' :=
  of_any [a, b, c] _ (k + 1) _ (Row.blk h rfl (by omega) (by unfold maxLen; omega))
theorem blk0 (w : World) (o : Obj) : (w.alloc o).heap[w.heap.size]? = some o := heap_alloc_new w o
theorem blk1 (w : World) (o o' : Obj) : ((w.alloc o).alloc o').heap[w.heap.size + 1]? = some o' := by
  have := heap_alloc_new (w.alloc o) o'
  rwa [World.size_alloc] at this

set_option maxHeartbeats 400000 in
theorem awake_any (w : World) :
    Calls Try.prog 15 #[] w fun e w' => e = .returned (.bool true) ∧ Below w.heap.size w w' := by
  have o1 : ((ofN [0, 2, 9] : Nat) : Int) == 5 := by decide
  have h1 : hasB (ofN [0, 2, 9]) 2 = true := by decide
  have h2 : hasB (ofN [0, 2, 9]) 1 = false := by decide
  have h3 : hasB (ofN [0, 2, 9]) 9 = false := by decide
  have e1 : enoughB (ofN [0, 2, 4]) 3 = true := by decide
  have e2 : enoughB (ofN [0, 2, 4]) 5 = true := by decide
  have e3 : enoughB (ofN [0, 2, 4]) 7 = false := by decide
  have m3 : mostN 3 = 2 := by decide
  have m5 : mostN 5 = 3 := by decide
  have m7 : mostN 7 = 4 := by decide
  have m4 : mostN 4 = 0 := by decide
  go_enter Try.func15, Try.ntmps15
  go_wp2_with fail
  refine (of3_any _ _ _ _ _ (blk0 _ _)).mono ?_
  rintro e w1 ⟨rfl, rfl⟩
  go_wp2_with fail
  refine (of3_any _ _ _ _ _ (blk1 _ _ _)).mono ?_
  rintro e w1 ⟨rfl, rfl⟩
  go_wp2_with fail
  refine (members_any _ (ofN_lt _) _ _).mono ?_
  rintro e w1 ⟨v1, rfl, ⟨hown1, _⟩, hb1⟩
  rw [show membersN (ofN [0, 2, 4]) 3 = [0, 2] by decide] at hown1
  obtain ⟨A, c, rfl, hn, hc⟩ := (Row.of_own hown1).slice
  obtain ⟨b, off, rfl, _, hx⟩ := (Row.of_own hown1).at_ (j := 0) (by simp)
  have c0 := hx 0 (.int .i64 0) rfl
  have c1 := hx 1 (.int .i64 2) rfl
  simp only [Nat.add_zero] at c0
  clear hx hown1
  go_wp2_with fail
  refine (of3_any _ _ _ _ _ (blk0 _ _)).mono ?_
  rintro e w2 ⟨rfl, rfl⟩
  go_wp2_with (first
    | (go_at_call 8; refine (most_any _ _).mono ?_; rintro e w' ⟨rfl, rfl⟩)
    | (go_at_call 17; refine (has_any _ (ofN_lt _) _ _).mono ?_; rintro e w' ⟨rfl, rfl⟩)
    | (go_at_call 13; refine (enough_any _ (ofN_lt _) _ _).mono ?_; rintro e w' ⟨rfl, rfl⟩))
  go_ret
  exact ⟨rfl, ((((Below.refl _ w).alloc (Nat.le_refl _) _).alloc (by simp) _).trans (hb1.mono (by simp; omega))).alloc (by have := hb1.size; simp at this; omega) _⟩

end Qm
end Go.Proofs.Ytpljbfajonhghaa
