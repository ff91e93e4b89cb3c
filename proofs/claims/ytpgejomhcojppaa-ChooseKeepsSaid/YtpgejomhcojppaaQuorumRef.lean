/- What the program's Of and the document's functions on sets of replicas (sextonref15) return, function by function. -/
import Derived.Test.YtpgejomhcojppaaQuorumWalks
import Derived.WalkKit
import Derived.Lib.Hide
import Derived.Maps.AppendAt
import Derived.Test.YtpgejomhcojppaaWords
import Derived.Deep.QuietTactic
import Derived.BigQuiet
namespace Go.Proofs.Ytpgejomhcojppaa
open Go.RowKit

namespace Qm

def ofN (l : List Int) : Nat := l.foldl addN 0
theorem ofN_snoc (l : List Int) (x : Int) : ofN (l ++ [x]) = addN (ofN l) x := by simp [ofN]
theorem ofN_lt (l : List Int) : ofN l < 256 := by
  unfold ofN
  suffices ∀ s, s < 256 → l.foldl addN s < 256 from this 0 (by omega)
  induction l with
  | nil => intro s hs; exact hs
  | cons x l ih => intro s hs; exact ih _ (addN_lt hs x)
theorem take_snoc {α : Type} (l : List α) (k : Nat) (h : k < l.length) : l.take (k + 1) = l.take k ++ [l[k]] := by
  rw [List.take_succ_eq_append_getElem h]
theorem info_int : (Try.prog.info? 3).map (fun i => (i.zero, i.size, i.bytes)) = some (some (.int .i64 0), 1, 8) := by kernel_rfl
def OwnsInts (w : World) (B : Nat) (v : Value) (xs : List Nat) : Prop := w.ownsRow B 3 1 v xs.length (xs.map fun x => Value.int .i64 (x : Nat)) ∧ (v = .slice none 0 0 ↔ xs = [])
def ints (l : List Int) : List Value := l.map fun i => Value.int .i64 i
theorem ints_cast (l : List Nat) : (l.map fun x => Value.int .i64 (x : Nat)) = ints (l.map fun x : Nat => (x : Int)) := by simp [ints]


set_option maxHeartbeats 400000 in
theorem rmost_any (n : Int) (w : World) :
    Calls Try.prog 33 #[.int .i64 n] w fun e w' => e = .returned (.int .i64 (mostN n)) ∧ w = w' := by
  rcases most_cases n with ⟨rfl, h⟩ | ⟨rfl, h⟩ | ⟨rfl, h⟩ | ⟨h3, h5, h7, h⟩
  · rw [h]; clear h
    go_enter Try.func33, Try.ntmps33
    go_wp2
    refine wp_loop_rounds 5 ?_
    repeat any_goals (rw [rounds_succ]; go_wp2)
    go_ret
    exact ⟨rfl, rfl⟩
  · rw [h]; clear h
    go_enter Try.func33, Try.ntmps33
    go_wp2
    refine wp_loop_rounds 6 ?_
    repeat any_goals (rw [rounds_succ]; go_wp2)
    go_ret
    exact ⟨rfl, rfl⟩
  · rw [h]; clear h
    go_enter Try.func33, Try.ntmps33
    go_wp2
    refine wp_loop_rounds 7 ?_
    repeat any_goals (rw [rounds_succ]; go_wp2)
    go_ret
    exact ⟨rfl, rfl⟩
  · rw [h]; clear h
    have b3 : (n != 3) = true := by rw [bne_iff_ne]; omega
    have b5 : (n != 5) = true := by rw [bne_iff_ne]; omega
    have b7 : (n != 7) = true := by rw [bne_iff_ne]; omega
    clear h3 h5 h7
    go_enter Try.func33, Try.ntmps33
    go_wp2
    go_ret
    exact ⟨rfl, rfl⟩











end Qm
end Go.Proofs.Ytpgejomhcojppaa
