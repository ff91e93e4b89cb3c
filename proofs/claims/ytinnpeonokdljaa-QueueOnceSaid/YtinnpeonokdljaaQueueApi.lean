/- What the program's queue does, over memory as separate things. -/
import Derived.Test.YtinnpeonokdljaaQueueAns
import Derived.Test.YtinnpeonokdljaaSep
set_option linter.unusedSimpArgs false
set_option linter.unusedVariables false
namespace Go.Proofs.Ytinnpeonokdljaa
open Go.RowKit

namespace Qu
open Qm
/-- The queue's things. -/
def qI (g : Nat) (n own : Int) (L : List Wt) (v : Value) : List It := [.box g 33 [.int .i64 n, .int .i64 own, v], .row (g + 1) 66 9 v L.length (L.flatMap wtC)]
def rI (w : World) (v : Value) (M : List Rq) : It := .row w.heap.size 25 6 v M.length (M.flatMap rqC)
structure QOk (L : List Wt) : Prop where
  sets : SetOk L
  len : L.length ≤ 8
theorem QOk.nil : QOk [] := ⟨by intro x hx; simp at hx, by simp⟩
theorem QOk.left {L : List Wt} (h : QOk L) (p : Wt → Bool) : QOk (left p L) := ⟨fun x hx => h.sets x (List.mem_filter.1 hx).1, Nat.le_trans (List.length_filter_le _ _) h.len⟩
theorem qI_at {w0 u : World} {g : Nat} {n own : Int} {L : List Wt} {v : Value} {l : List It} (h : Sep w0 (qI g n own L v ++ l) u) : QAtV u g n own L v :=
  ⟨h.holds _ List.mem_cons_self, h.holds _ (List.mem_cons_of_mem _ List.mem_cons_self)⟩
theorem sep_queue {w0 u u' : World} {g : Nat} {n own : Int} {L L' : List Wt} {v : Value} {l : List It} (h : Sep w0 (qI g n own L v ++ l) u) (hq : QTo u u' g n own L' v) : ∃ v', Sep w0 (qI g n own L' v' ++ l) u' := by
  obtain ⟨v', h1, h2, h3⟩ := hq
  refine ⟨v', Sep.turn h h2 ?_ ?_ ?_ ?_⟩
  · rintro k (rfl | hk)
    · exact .inl ⟨_, List.mem_cons_self, rfl⟩
    · exact .inl ⟨_, List.mem_cons_of_mem _ List.mem_cons_self, hk⟩
  · intro x hx
    simp only [qI, List.mem_cons, List.not_mem_nil, or_false] at hx
    rcases hx with rfl | rfl
    · exact h1.1
    · exact h1.2
  · intro x hx k hk
    simp only [qI, List.mem_cons, List.not_mem_nil, or_false] at hx
    rcases hx with rfl | rfl
    · exact .inl ⟨_, List.mem_cons_self, hk⟩
    · rcases h3 with h3 | h3
      · refine .inl ⟨_, List.mem_cons_of_mem _ List.mem_cons_self, ?_⟩
        show v.ownBlock = some k; rw [← h3]; exact hk
      · exact .inr (h3 k hk)
  · refine List.pairwise_cons.2 ⟨?_, List.pairwise_singleton _ _⟩
    intro x hx k hk hk'
    simp only [List.mem_singleton] at hx
    subst hx
    injection hk with hk
    have := own_lt h1.2 hk'
    omega
theorem to_end (x : It) (a l : List It) : (x :: a ++ l).Perm (a ++ (l ++ [x])) := by
  rw [← List.append_assoc]
  exact (List.perm_append_singleton x (a ++ l)).symm
theorem sep_queueRow {w0 u u' : World} {g : Nat} {n own : Int} {L L' : List Wt} {v vo : Value} {M : List Rq} {l : List It} (h : Sep w0 (qI g n own L v ++ l) u) (hq : QSame u u' g n own L' v) (hr : u'.ownsRow u.heap.size 25 6 vo M.length (M.flatMap rqC)) :
    ∃ v', Sep w0 (qI g n own L' v' ++ (l ++ [rI u vo M])) u' := by
  obtain ⟨v', h1, h2, h3⟩ := hq
  have hin : ∀ k, v.ownBlock = some k → k < u.heap.size := fun k hk => (own_lt (qI_at h).2 hk).2
  have hgl : g < u.heap.size := Whole.lt (qI_at h).1
  refine ⟨v', Sep.perm (Sep.turn (a' := rI u vo M :: qI g n own L' v') h h2 ?_ ?_ ?_ ?_) (to_end _ _ _)⟩
  · rintro k (rfl | hk)
    · exact .inl ⟨_, List.mem_cons_self, rfl⟩
    · exact .inl ⟨_, List.mem_cons_of_mem _ List.mem_cons_self, hk⟩
  · intro x hx
    simp only [qI, List.mem_cons, List.not_mem_nil, or_false] at hx
    rcases hx with rfl | rfl | rfl
    · exact hr
    · exact h1.1
    · exact h1.2
  · intro x hx k hk
    simp only [qI, List.mem_cons, List.not_mem_nil, or_false] at hx
    rcases hx with rfl | rfl | rfl
    · exact .inr (own_lt hr hk).1
    · exact .inl ⟨_, List.mem_cons_self, hk⟩
    · refine .inl ⟨_, List.mem_cons_of_mem _ List.mem_cons_self, ?_⟩
      show v.ownBlock = some k; rw [← h3]; exact hk
  · refine List.pairwise_cons.2 ⟨?_, List.pairwise_cons.2 ⟨?_, List.pairwise_singleton _ _⟩⟩
    · intro x hx k hk hk'
      have hb := (own_lt hr hk).1
      simp only [qI, List.mem_cons, List.not_mem_nil, or_false] at hx
      rcases hx with rfl | rfl
      · injection hk' with hk'; omega
      · have := hin k (by rw [← h3]; exact hk')
        omega
    · intro x hx k hk hk'
      simp only [List.mem_singleton] at hx
      subst hx
      injection hk with hk
      have := own_lt h1.2 hk'
      omega

/-- What put answers, and what then waits. -/
def badR (right : Bool) (r : Rq) : Bool := !right || decide (r.client < 0) || decide (4 ≤ r.client) || !numB 1 r.seq || !mayOpB r.op
def putR (own : Int) (right : Bool) (L : List Wt) (r : Rq) (nn ix : Int) : Bool × Int × List Wt :=
  if badR right r then (false, 2, L) else if hasB L r.client r.seq then (false, 0, L) else if (8 : Int) ≤ (L.length : Int) then (false, 4, L) else (true, 0, L ++ [⟨r, nn, ix, addN 0 own⟩])
theorem putR_ok {own : Int} {right : Bool} {L : List Wt} {r : Rq} {nn ix : Int} (h : QOk L) : QOk (putR own right L r nn ix).2.2 := by
  unfold putR
  split
  · exact h
  · split
    · exact h
    · split
      · exact h
      · rename_i h1
        refine ⟨?_, by rw [List.length_append, List.length_singleton]; omega⟩
        intro x hx
        rcases List.mem_append.1 hx with hx | hx
        · exact h.sets x hx
        · rw [List.mem_singleton.1 hx]; exact addN_lt (by omega) own
theorem put_any (g : Nat) (n own : Int) (hn : n ≠ 0) (L : List Wt) (v : Value) (m s : Int) (k : Nat) (a b c : ByteArray) (nn ix : Int) (r : Bool) (w : World) (hq : QAtV w g n own L v) :
    Calls Try.prog 32 #[.pointer (some ⟨g, 0, none⟩), .agg #[.int .i64 m, .int .i64 s, .int .u8 (k : Nat), .string a, .string b, .string c, .int .i64 nn, .int .i64 ix, .int .u8 0], .bool r] w fun e w' =>
      e = .returned (.tuple #[.bool (putR own r L ⟨m, s, ⟨k, a, b, c⟩⟩ nn ix).1, .int .i64 (putR own r L ⟨m, s, ⟨k, a, b, c⟩⟩ nn ix).2.1]) ∧ QTo w w' g n own (putR own r L ⟨m, s, ⟨k, a, b, c⟩⟩ nn ix).2.2 v := by
  by_cases hbad : badR r ⟨m, s, ⟨k, a, b, c⟩⟩ = true
  · have e : putR own r L ⟨m, s, ⟨k, a, b, c⟩⟩ nn ix = (false, 2, L) := by unfold putR; rw [if_pos hbad]
    rw [e]
    unfold badR at hbad
    have hc : Calls Try.prog 32 #[.pointer (some ⟨g, 0, none⟩), .agg #[.int .i64 m, .int .i64 s, .int .u8 (k : Nat), .string a, .string b, .string c, .int .i64 nn, .int .i64 ix, .int .u8 0], .bool r] w fun e w' =>
        e = .returned (.tuple #[.bool false, .int .i64 2]) ∧ Below w.heap.size w w' := by
      cases r with
      | false => exact put_right g n own hn L v m s k a b c nn ix false w hq rfl
      | true =>
        by_cases h1 : m < 0
        · exact put_lo g n own hn L v m s k a b c nn ix true w hq rfl h1
        · by_cases h2 : 4 ≤ m
          · exact put_hi g n own hn L v m s k a b c nn ix true w hq rfl (by omega) h2
          · cases h3 : numB 1 s with
            | false => exact put_num g n own hn L v m s k a b c nn ix true w hq rfl (by omega) (by omega) h3
            | true =>
              cases h4 : mayOpB ⟨k, a, b, c⟩ with
              | false => exact put_op g n own hn L v m s k a b c nn ix true w hq rfl (by omega) (by omega) h3 h4
              | true =>
                rw [h3, h4] at hbad
                simp at hbad
                omega
    exact hc.mono fun e w' h => ⟨h.1, QTo.same hq h.2⟩
  · have hb' := hbad
    unfold badR at hb'
    simp only [Bool.or_eq_true, Bool.not_eq_true', decide_eq_true_eq, not_or, Bool.not_eq_false] at hb'
    obtain ⟨⟨⟨⟨h0, h1⟩, h2⟩, h3⟩, h4⟩ := hb'
    cases hh : hasB L m s with
    | true =>
      have e : putR own r L ⟨m, s, ⟨k, a, b, c⟩⟩ nn ix = (false, 0, L) := by unfold putR; rw [if_neg hbad, if_pos hh]
      rw [e]
      exact (put_has g n own hn L v m s k a b c nn ix r w hq h0 (by omega) (by omega) h3 h4 hh).mono fun e w' h => ⟨h.1, QTo.same hq h.2⟩
    | false =>
      have hh' : ¬ hasB L m s = true := by rw [hh]; decide
      by_cases hl : (8 : Int) ≤ (L.length : Int)
      · have e : putR own r L ⟨m, s, ⟨k, a, b, c⟩⟩ nn ix = (false, 4, L) := by unfold putR; rw [if_neg hbad, if_neg hh', if_pos hl]
        rw [e]
        exact (put_full g n own hn L v m s k a b c nn ix r w hq h0 (by omega) (by omega) h3 h4 hh hl).mono fun e w' h => ⟨h.1, QTo.same hq h.2⟩
      · have e : putR own r L ⟨m, s, ⟨k, a, b, c⟩⟩ nn ix = (true, 0, L ++ [⟨⟨m, s, ⟨k, a, b, c⟩⟩, nn, ix, addN 0 own⟩]) := by unfold putR; rw [if_neg hbad, if_neg hh', if_neg hl]
        rw [e]
        exact put_ok g n own hn L v m s k a b c nn ix r w hq h0 (by omega) (by omega) h3 h4 hh (by omega)

theorem QTo.late {w u w' : World} {g : Nat} {n own : Int} {L : List Wt} {v : Value} (hz : w.heap.size ≤ u.heap.size) (h : QTo u w' g n own L v) : (∃ v', QAtV w' g n own L v' ∧ (v'.ownBlock = v.ownBlock ∨ ∀ k, v'.ownBlock = some k → w.heap.size ≤ k)) ∧ Foot (fun k => k = g ∨ v.ownBlock = some k) u w' := by
  obtain ⟨v', h1, h2, h3⟩ := h
  exact ⟨⟨v', h1, h3.imp id fun h k hk => Nat.le_trans hz (h k hk)⟩, h2⟩
theorem write_any (g : Nat) (n own : Int) (hn : n ≠ 0) (L : List Wt) (v : Value) (m s : Int) (k : Nat) (a b c : ByteArray) (w : World) (hq : QAtV w g n own L v) :
    Calls Try.prog 9 #[.pointer (some ⟨g, 0, none⟩), .agg #[.int .i64 m, .int .i64 s, .int .u8 (k : Nat), .string a, .string b, .string c]] w fun e w' =>
      e = .returned (.tuple #[.bool (putR own (!readsB ⟨k, a, b, c⟩) L ⟨m, s, ⟨k, a, b, c⟩⟩ 0 0).1, .int .i64 (putR own (!readsB ⟨k, a, b, c⟩) L ⟨m, s, ⟨k, a, b, c⟩⟩ 0 0).2.1]) ∧ QTo w w' g n own (putR own (!readsB ⟨k, a, b, c⟩) L ⟨m, s, ⟨k, a, b, c⟩⟩ 0 0).2.2 v := by
  have hgl := Whole.lt hq.1
  refine (write_by (some ⟨g, 0, none⟩) m s k a b c w (fun k => k = g ∨ v.ownBlock = some k) (fun i hi => hi.elim (fun h => by omega) fun h => (own_lt hq.2 h).2)
    (fun y z w' => y = (putR own (!readsB ⟨k, a, b, c⟩) L ⟨m, s, ⟨k, a, b, c⟩⟩ 0 0).1 ∧ z = (putR own (!readsB ⟨k, a, b, c⟩) L ⟨m, s, ⟨k, a, b, c⟩⟩ 0 0).2.1 ∧ ∃ v', QAtV w' g n own (putR own (!readsB ⟨k, a, b, c⟩) L ⟨m, s, ⟨k, a, b, c⟩⟩ 0 0).2.2 v' ∧ (v'.ownBlock = v.ownBlock ∨ ∀ k, v'.ownBlock = some k → w.heap.size ≤ k))
    (fun u hu => (put_any g n own hn L v m s k a b c 0 0 _ u (hq.below hu)).mono fun e w' h => ⟨⟨_, _, h.1, rfl, rfl, (h.2.late hu.size).1⟩, (h.2.late hu.size).2⟩)).mono ?_
  rintro e w' ⟨⟨y, z, rfl, rfl, rfl, v', h1, h2⟩, hf⟩
  exact ⟨rfl, v', h1, hf, h2⟩
theorem read_any (g : Nat) (n own : Int) (hn : n ≠ 0) (L : List Wt) (v : Value) (m s : Int) (k : Nat) (a b c : ByteArray) (nn ix : Int) (w : World) (hq : QAtV w g n own L v) :
    Calls Try.prog 10 #[.pointer (some ⟨g, 0, none⟩), .agg #[.int .i64 m, .int .i64 s, .int .u8 (k : Nat), .string a, .string b, .string c], .int .i64 nn, .int .i64 ix] w fun e w' =>
      e = .returned (.tuple #[.bool (putR own (readsB ⟨k, a, b, c⟩ && numB 1 nn && numB 0 ix) L ⟨m, s, ⟨k, a, b, c⟩⟩ nn ix).1, .int .i64 (putR own (readsB ⟨k, a, b, c⟩ && numB 1 nn && numB 0 ix) L ⟨m, s, ⟨k, a, b, c⟩⟩ nn ix).2.1]) ∧
        QTo w w' g n own (putR own (readsB ⟨k, a, b, c⟩ && numB 1 nn && numB 0 ix) L ⟨m, s, ⟨k, a, b, c⟩⟩ nn ix).2.2 v := by
  have hgl := Whole.lt hq.1
  refine (read_by (some ⟨g, 0, none⟩) m s k a b c nn ix w (fun k => k = g ∨ v.ownBlock = some k) (fun i hi => hi.elim (fun h => by omega) fun h => (own_lt hq.2 h).2)
    (fun y z w' => y = (putR own (readsB ⟨k, a, b, c⟩ && numB 1 nn && numB 0 ix) L ⟨m, s, ⟨k, a, b, c⟩⟩ nn ix).1 ∧ z = (putR own (readsB ⟨k, a, b, c⟩ && numB 1 nn && numB 0 ix) L ⟨m, s, ⟨k, a, b, c⟩⟩ nn ix).2.1 ∧ ∃ v', QAtV w' g n own (putR own (readsB ⟨k, a, b, c⟩ && numB 1 nn && numB 0 ix) L ⟨m, s, ⟨k, a, b, c⟩⟩ nn ix).2.2 v' ∧ (v'.ownBlock = v.ownBlock ∨ ∀ k, v'.ownBlock = some k → w.heap.size ≤ k))
    (fun u hu => (put_any g n own hn L v m s k a b c nn ix _ u (hq.below hu)).mono fun e w' h => ⟨⟨_, _, h.1, rfl, rfl, (h.2.late hu.size).1⟩, (h.2.late hu.size).2⟩)).mono ?_
  rintro e w' ⟨⟨y, z, rfl, rfl, rfl, v', h1, h2⟩, hf⟩
  exact ⟨rfl, v', h1, hf, h2⟩
/-- What Answer answers. -/
def ansR (n nonce r : Int) (L : List Wt) : Int × List Wt := if !numB 1 nonce || decide (r < 0) || decide (n ≤ r) then (2, L) else (0, ansL nonce r L)
theorem ansR_ok {n nonce r : Int} {L : List Wt} (h : QOk L) : QOk (ansR n nonce r L).2 := by
  unfold ansR
  split
  · exact h
  · exact ⟨ans_sets h.sets, by unfold ansL; rw [List.length_map]; exact h.len⟩
theorem answer_any (g : Nat) (n own : Int) (hn : n ≠ 0) (L : List Wt) (v : Value) (nonce r : Int) (w : World) (hq : QAtV w g n own L v) (hL : QOk L) :
    Calls Try.prog 11 #[.pointer (some ⟨g, 0, none⟩), .int .i64 nonce, .int .i64 r] w fun e w' => e = .returned (.int .i64 (ansR n nonce r L).1) ∧ QTo w w' g n own (ansR n nonce r L).2 v := by
  by_cases hb : (!numB 1 nonce || decide (r < 0) || decide (n ≤ r)) = true
  · have e : ansR n nonce r L = (2, L) := by unfold ansR; rw [if_pos hb]
    rw [e]
    have hc : Calls Try.prog 11 #[.pointer (some ⟨g, 0, none⟩), .int .i64 nonce, .int .i64 r] w fun e w' => e = .returned (.int .i64 2) ∧ Below w.heap.size w w' := by
      cases h1 : numB 1 nonce with
      | false => exact answer_num g n own hn L v nonce r w hq h1
      | true =>
        by_cases h2 : r < 0
        · exact answer_lo g n own hn L v nonce r w hq h1 h2
        · by_cases h3 : n ≤ r
          · exact answer_hi g n own hn L v nonce r w hq h1 (by omega) h3
          · rw [h1] at hb; simp at hb; omega
    exact hc.mono fun e w' h => ⟨h.1, QTo.same hq h.2⟩
  · have e : ansR n nonce r L = (0, ansL nonce r L) := by unfold ansR; rw [if_neg hb]
    rw [e]
    simp only [Bool.or_eq_true, Bool.not_eq_true', decide_eq_true_eq, not_or, Bool.not_eq_false] at hb
    exact answer_ok g n own hn L v nonce r w hq hb.1.1 (by omega) (by omega) hL.sets

/- All of them, over separate things. -/
section
variable {w0 w : World} {g : Nat} {n own : Int} {L : List Wt} {v : Value} {l : List It}
theorem new_sep (n own : Int) (h : madeB n own = true) (hS : Sep w0 l w) : Calls Try.prog 17 #[.int .i64 n, .int .i64 own] w fun e w' =>
    e = .returned (.tuple #[.pointer (some ⟨w.heap.size, 0, none⟩), .int .i64 0]) ∧ Sep w0 (qI w.heap.size n own [] (.slice none 0 0) ++ l) w' := by
  refine (new_ok n own h w).mono ?_
  rintro e w' ⟨he, hq, hx⟩
  refine ⟨he, Sep.turn (a := []) (a' := qI w.heap.size n own [] (.slice none 0 0)) (F := fun _ => False) hS (Foot.of_below hx) (fun _ h => h.elim) ?_ ?_ ?_⟩
  · intro x hx
    simp only [qI, List.mem_cons, List.not_mem_nil, or_false] at hx
    rcases hx with rfl | rfl
    · exact hq
    · exact ⟨rfl, .inl ⟨rfl, rfl⟩⟩
  · intro x hx k hk
    simp only [qI, List.mem_cons, List.not_mem_nil, or_false] at hx
    rcases hx with rfl | rfl
    · injection hk with hk; exact .inr (by omega)
    · cases hk
  · refine List.pairwise_cons.2 ⟨?_, List.pairwise_singleton _ _⟩
    intro x hx k hk hk'
    simp only [List.mem_singleton] at hx
    subst hx
    cases hk'
theorem write_sep (hS : Sep w0 (qI g n own L v ++ l) w) (hn : n ≠ 0) (hL : QOk L) (m s : Int) (k : Nat) (a b c : ByteArray) : Calls Try.prog 9 #[.pointer (some ⟨g, 0, none⟩), .agg #[.int .i64 m, .int .i64 s, .int .u8 (k : Nat), .string a, .string b, .string c]] w fun e w' => ∀ P, P = putR own (!readsB ⟨k, a, b, c⟩) L ⟨m, s, ⟨k, a, b, c⟩⟩ 0 0 →
      e = .returned (.tuple #[.bool P.1, .int .i64 P.2.1]) ∧ QOk P.2.2 ∧ ∃ v', Sep w0 (qI g n own P.2.2 v' ++ l) w' :=
  (write_any g n own hn L v m s k a b c w (qI_at hS)).mono fun e w' h P hP => by subst hP; exact ⟨h.1, putR_ok hL, sep_queue hS h.2⟩
theorem read_sep (hS : Sep w0 (qI g n own L v ++ l) w) (hn : n ≠ 0) (hL : QOk L) (m s : Int) (k : Nat) (a b c : ByteArray) (nn ix : Int) : Calls Try.prog 10 #[.pointer (some ⟨g, 0, none⟩), .agg #[.int .i64 m, .int .i64 s, .int .u8 (k : Nat), .string a, .string b, .string c], .int .i64 nn, .int .i64 ix] w fun e w' =>
      ∀ P, P = putR own (readsB ⟨k, a, b, c⟩ && numB 1 nn && numB 0 ix) L ⟨m, s, ⟨k, a, b, c⟩⟩ nn ix → e = .returned (.tuple #[.bool P.1, .int .i64 P.2.1]) ∧ QOk P.2.2 ∧ ∃ v', Sep w0 (qI g n own P.2.2 v' ++ l) w' :=
  (read_any g n own hn L v m s k a b c nn ix w (qI_at hS)).mono fun e w' h P hP => by subst hP; exact ⟨h.1, putR_ok hL, sep_queue hS h.2⟩
theorem answer_sep (hS : Sep w0 (qI g n own L v ++ l) w) (hn : n ≠ 0) (hL : QOk L) (nonce r : Int) : Calls Try.prog 11 #[.pointer (some ⟨g, 0, none⟩), .int .i64 nonce, .int .i64 r] w fun e w' =>
      e = .returned (.int .i64 (ansR n nonce r L).1) ∧ ∃ v', Sep w0 (qI g n own (ansR n nonce r L).2 v' ++ l) w' :=
  (answer_any g n own hn L v nonce r w (qI_at hS) hL).mono fun e w' h => ⟨h.1, sep_queue hS h.2⟩
theorem done_sep (hS : Sep w0 (qI g n own L v ++ l) w) (hn : n ≠ 0) (hL : QOk L) (m s : Int) (y : Bool) (hy : L.any (doneB m s) = y) : Calls Try.prog 12 #[.pointer (some ⟨g, 0, none⟩), .int .i64 m, .int .i64 s] w fun e w' =>
      e = .returned (.bool y) ∧ ∃ v', Sep w0 (qI g n own (left (doneB m s) L) v' ++ l) w' :=
  (done_any g n own hn L v m s w (qI_at hS) (by have := hL.len; omega) hL.sets).mono fun e w' h => ⟨by rw [← hy]; exact h.1, sep_queue hS h.2.to⟩
theorem own_slice {u : World} {base : Nat} {e : TypeId} {K : Nat} {vo : Value} {n : Nat} {xs : List Value} (h : u.ownsRow base e K vo n xs) : ∃ A c, vo = .slice A n c := by
  obtain ⟨A, c, h1, _⟩ := (Row.of_own h).slice
  exact ⟨A, c, h1⟩
theorem ready_sep (hS : Sep w0 (qI g n own L v ++ l) w) (hn : n ≠ 0) (hL : QOk L) (ap : Int) (M : List Rq) (hM : took (readyB n ap) L = M) (k : Nat) (hk : M.length = k) : Calls Try.prog 13 #[.pointer (some ⟨g, 0, none⟩), .int .i64 ap] w fun e w' =>
      ∃ A c v', e = .returned (.slice A k c) ∧ Sep w0 (qI g n own (left (readyB n ap) L) v' ++ (l ++ [rI w (.slice A k c) M])) w' :=
  (ready_any g n own hn L v ap w (qI_at hS) (by have := hL.len; omega) hL.sets).mono fun e w' ⟨vo, h1, h2, h3⟩ => by
    subst hM hk
    obtain ⟨A, c, rfl⟩ := own_slice h2
    obtain ⟨v', h⟩ := sep_queueRow hS h3 h2
    exact ⟨A, c, v', h1, h⟩
theorem clear_sep (hS : Sep w0 (qI g n own L v ++ l) w) (hn : n ≠ 0) (hL : QOk L) (M : List Rq) (hM : L.map (·.r) = M) (k : Nat) (hk : M.length = k) : Calls Try.prog 14 #[.pointer (some ⟨g, 0, none⟩)] w fun e w' =>
      ∃ A c v', e = .returned (.slice A k c) ∧ Sep w0 (qI g n own [] v' ++ (l ++ [rI w (.slice A k c) M])) w' :=
  (clear_any g n own hn L v w (qI_at hS) (by have := hL.len; omega) hL.sets).mono fun e w' ⟨vo, h1, h2, h3⟩ => by
    subst hM hk
    obtain ⟨A, c, rfl⟩ := own_slice h2
    obtain ⟨v', h⟩ := sep_queueRow hS h3 h2
    exact ⟨A, c, v', h1, h⟩
theorem waits_sep (hS : Sep w0 (qI g n own L v ++ l) w) (hn : n ≠ 0) (hL : QOk L) (M : List Rq) (hM : L.map (·.r) = M) (k : Nat) (hk : M.length = k) : Calls Try.prog 15 #[.pointer (some ⟨g, 0, none⟩)] w fun e w' =>
      ∃ A c, e = .returned (.slice A k c) ∧ Sep w0 (qI g n own L v ++ (l ++ [rI w (.slice A k c) M])) w' :=
  (waits_any g n own hn L v w (qI_at hS) (by have := hL.len; omega)).mono fun e w' ⟨vo, h1, h2, h3⟩ => by
    subst hM hk
    obtain ⟨A, c, rfl⟩ := own_slice h2
    exact ⟨A, c, h1, Sep.perm (hS.add h3 (rI w (.slice A (L.map (fun x : Wt => x.r)).length c) (L.map (fun x : Wt => x.r))) h2 (fun k hk => (own_lt h2 hk).1)) (to_end _ _ _)⟩
end

set_option maxHeartbeats 400000 in
theorem put_law (m s : Int) (w : World) : Calls Try.prog 18 #[.int .i64 m, .int .i64 s] w fun e w' => e = .returned (.agg #[.int .i64 m, .int .i64 s, .int .u8 2, .string { data := #[97] }, .string { data := #[] }, .string { data := #[49] }]) ∧ Below w.heap.size w w' := by
  go_enter Try.func18, Try.ntmps18
  go_wp2_with fail
  refine bodyPost_ret (v := .agg #[.int .i64 m, .int .i64 s, .int .u8 2, .string { data := #[97] }, .string { data := #[] }, .string { data := #[49] }]) (by simp [results, Try.results18, go_sem]) rfl ?_
  exact ⟨rfl, be1 _ _⟩
set_option maxHeartbeats 400000 in
theorem get_law (m s : Int) (w : World) : Calls Try.prog 19 #[.int .i64 m, .int .i64 s] w fun e w' => e = .returned (.agg #[.int .i64 m, .int .i64 s, .int .u8 1, .string { data := #[97] }, .string { data := #[] }, .string { data := #[] }]) ∧ Below w.heap.size w w' := by
  go_enter Try.func19, Try.ntmps19
  go_wp2_with fail
  refine bodyPost_ret (v := .agg #[.int .i64 m, .int .i64 s, .int .u8 1, .string { data := #[97] }, .string { data := #[] }, .string { data := #[] }]) (by simp [results, Try.results19, go_sem]) rfl ?_
  exact ⟨rfl, be1 _ _⟩

end Qu
end Go.Proofs.Ytinnpeonokdljaa
