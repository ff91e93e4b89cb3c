/- The law QueuePlays, in plain data: the document's queue holds what the program's holds. -/
import Derived.Test.YtinnpeonokdljaaQueueOncePlain
import Derived.Test.YtinnpeonokdljaaQueueRef5
set_option linter.unusedSimpArgs false
set_option linter.unusedVariables false
namespace Go.Proofs.Ytinnpeonokdljaa
open Go.RowKit

theorem Sep.rot {w0 u : World} {a b c : List It} (h : Sep w0 (a ++ (b ++ c)) u) : Sep w0 (b ++ (c ++ a)) u := by
  have := h.swap
  rwa [List.append_assoc] at this
/-- A cell of a row of one's own is written. -/
theorem Sep.rowset {w0 u : World} {base : Nat} {e : TypeId} {K rb n c : Nat} {xs : List Value} {l : List It} (h : Sep w0 (.row base e K (.slice (some ⟨rb, 0, none⟩) n c) n xs :: l) u) (j : Nat) (v : Value) :
    Sep w0 (.row base e K (.slice (some ⟨rb, 0, none⟩) n c) n (xs.set j v) :: l) (u.setCell ⟨rb, j, none⟩ v) := by
  have hr : u.ownsRow base e K (.slice (some ⟨rb, 0, none⟩) n c) n xs := h.head
  refine Sep.turn (a := [.row base e K (.slice (some ⟨rb, 0, none⟩) n c) n xs]) (a' := [.row base e K (.slice (some ⟨rb, 0, none⟩) n c) n (xs.set j v)]) (F := fun i => i = rb) h ((Foot.refl (fun i => i = rb) u).set (p := ⟨rb, j, none⟩) (.inl rfl) _) ?_ ?_ ?_ ?_
  · rintro i rfl
    exact .inl ⟨_, List.mem_singleton.2 rfl, rfl⟩
  · intro x hx
    rw [List.mem_singleton.1 hx]
    exact (hr.stored j v).1
  · intro x hx i hi
    rw [List.mem_singleton.1 hx] at hi
    exact .inl ⟨_, List.mem_singleton.2 rfl, hi⟩
  · exact List.pairwise_singleton _ _

namespace Qu
open Qm
def toEn (x : Wt) : En := ⟨x.r, decide (0 < x.nonce), x.nonce, x.index, if 0 < x.nonce then x.set else 0⟩
theorem kind_one (k : Nat) : ((k : Int) == 1) = decide (k = 1) := by
  by_cases h : k = 1
  · subst h; rfl
  · rw [decide_eq_false h]; simp; omega
theorem bad_eq (r : Rq) (rd right : Bool) (nn ix : Int) (st : Nat) (h : right = (readsB r.op == rd)) : badE ⟨r, rd, nn, ix, st⟩ = badR right r := by
  unfold badE badR
  dsimp only
  subst h
  have e1 : decide (3 < r.client) = decide (4 ≤ r.client) := decide_eq_decide.2 (by omega)
  rw [kind_one, e1]
  unfold readsB
  cases decide (r.op.kind = 1) <;> cases rd <;> cases decide (r.client < 0) <;> cases decide (4 ≤ r.client) <;> cases numB 1 r.seq <;> cases mayOpB r.op <;> rfl
theorem has_eq (L : List Wt) (m s : Int) : hasE (L.map toEn) m s = hasB L m s := by
  unfold hasE hasB
  rw [List.any_map]
  rfl
theorem wait_put {own : Int} {L : List Wt} (hL : L.length ≤ 8) (r : Rq) (rd right : Bool) (nn ix : Int) (st : Nat) (h : right = (readsB r.op == rd)) (ht : toEn ⟨r, nn, ix, addN 0 own⟩ = ⟨r, rd, nn, ix, st⟩) :
    waitR (L.map toEn) ⟨r, rd, nn, ix, st⟩ = ((putR own right L r nn ix).1, (putR own right L r nn ix).2.1, (putR own right L r nn ix).2.2.map toEn) := by
  unfold waitR putR
  rw [bad_eq r rd right nn ix st h]
  dsimp only
  rw [has_eq]
  by_cases h1 : badR right r = true
  · rw [if_pos h1, if_pos h1]
  · rw [if_neg h1, if_neg h1]
    by_cases h2 : hasB L r.client r.seq = true
    · rw [if_pos h2, if_pos h2]
    · rw [if_neg h2, if_neg h2]
      rw [List.length_map]
      by_cases h3 : (8 : Int) ≤ (L.length : Int)
      · rw [if_pos h3, if_pos (by simp; omega)]
      · rw [if_neg h3, if_neg (by simp; omega), List.map_append, List.map_singleton, ht]
theorem write_eq {own : Int} {L : List Wt} (hL : L.length ≤ 8) (r : Rq) :
    ((putR own (!readsB r.op) L r 0 0).1, (putR own (!readsB r.op) L r 0 0).2.1, (putR own (!readsB r.op) L r 0 0).2.2.map toEn) = waitR (L.map toEn) ⟨r, false, 0, 0, 0⟩ :=
  (wait_put hL r false (!readsB r.op) 0 0 0 (by cases readsB r.op <;> rfl) rfl).symm
theorem read_eq {own : Int} {L : List Wt} (hL : L.length ≤ 8) (r : Rq) (nn ix : Int) :
    ((putR own (readsB r.op && numB 1 nn && numB 0 ix) L r nn ix).1, (putR own (readsB r.op && numB 1 nn && numB 0 ix) L r nn ix).2.1, (putR own (readsB r.op && numB 1 nn && numB 0 ix) L r nn ix).2.2.map toEn) = rreadR own (L.map toEn) r nn ix := by
  unfold rreadR
  cases h1 : numB 1 nn
  · have : putR own (readsB r.op && false && numB 0 ix) L r nn ix = (false, 2, L) := by unfold putR badR; cases readsB r.op <;> rfl
    rw [this]; rfl
  · cases h2 : numB 0 ix
    · have : putR own (readsB r.op && true && false) L r nn ix = (false, 2, L) := by unfold putR badR; cases readsB r.op <;> rfl
      rw [this]; rfl
    · have hp : 0 < nn := by unfold numB at h1; simp at h1; omega
      exact (wait_put hL r true (readsB r.op && true && true) nn ix (addN 0 own) (by cases readsB r.op <;> rfl) (by unfold toEn; simp [hp])).symm
theorem ansW_eq (nonce r : Int) (x : Wt) : ransW nonce r (toEn x) = toEn (ansW nonce r x) := by
  unfold ransW ansW toEn
  by_cases h1 : 0 < x.nonce
  · by_cases h2 : x.nonce ≤ nonce
    · simp [h1, h2]
    · simp [h1, h2]
  · simp [h1]
theorem ans_eq (n nonce r : Int) (L : List Wt) : ransR n nonce r (L.map toEn) = ((ansR n nonce r L).1, (ansR n nonce r L).2.map toEn) := by
  unfold ransR ansR
  split
  · rfl
  · unfold ansL
    rw [List.map_map, List.map_map]
    refine Prod.ext rfl (List.map_congr_left fun x _ => ansW_eq nonce r x)
theorem keep_eq {x : Wt} (h : okW x) (m s : Int) : keepD m s (toEn x) = !doneB m s x := by
  unfold keepD doneB isB toEn
  rcases h with ⟨h1, _⟩ | ⟨h1, _⟩
  · rw [h1]
    cases decide (x.r.client = m) <;> cases decide (x.r.seq = s) <;> rfl
  · rw [decide_eq_true (by omega : 0 < x.nonce), decide_eq_false (by omega : ¬ x.nonce = 0)]
    rfl
theorem rdone_eq {L : List Wt} (h : ∀ x ∈ L, okW x) (m s : Int) : (L.map toEn).filter (keepD m s) = (left (doneB m s) L).map toEn := by
  unfold left
  rw [List.filter_map]
  congr 1
  exact List.filter_congr fun x hx => keep_eq (h x hx) m s
theorem rdone_len {L : List Wt} (h : ∀ x ∈ L, okW x) (m s : Int) : decide (((L.map toEn).filter (keepD m s)).length < (L.map toEn).length) = L.any (doneB m s) := by
  rw [rdone_eq h, List.length_map, List.length_map]
  unfold left
  rw [Bool.eq_iff_iff, decide_eq_true_eq, List.any_eq_true]
  constructor
  · intro hlt
    rcases Bool.eq_false_or_eq_true (L.any (doneB m s)) with h1 | h1
    · obtain ⟨x, hx, hp⟩ := List.any_eq_true.1 h1
      exact ⟨x, hx, hp⟩
    · rw [left_none h1] at hlt; omega
  · rintro ⟨x, hx, hp⟩
    have hle := List.length_filter_le (fun x => !doneB m s x) L
    rcases Nat.lt_or_ge (L.filter (fun x => !doneB m s x)).length L.length with h1 | h1
    · exact h1
    · have := List.length_filter_eq_length_iff.1 (Nat.le_antisymm hle h1) x hx
      rw [hp] at this
      exact absurd this (by decide)
theorem ready_eq (n ap : Int) (x : Wt) : readyE n ap (toEn x) = readyB n ap x := by
  unfold readyE readyB toEn
  by_cases h : 0 < x.nonce
  · simp [h]
    cases decide (x.index ≤ ap) <;> cases enoughB x.set n <;> rfl
  · simp [h]
theorem rready_out (n ap : Int) (L : List Wt) : ((L.map toEn).filter (readyE n ap)).map (·.r) = took (readyB n ap) L := by
  unfold took
  rw [List.filter_map, List.map_map]
  have : (readyE n ap ∘ toEn) = readyB n ap := funext fun x => ready_eq n ap x
  rw [this]
  rfl
theorem rready_left (n ap : Int) (L : List Wt) : (L.map toEn).filter (fun x => !readyE n ap x) = (left (readyB n ap) L).map toEn := by
  unfold left
  rw [List.filter_map]
  have : ((fun x => !readyE n ap x) ∘ toEn) = fun x => !readyB n ap x := funext fun x => by show (!readyE n ap (toEn x)) = _; rw [ready_eq]
  rw [this]
theorem rwaits_eq (L : List Wt) : (L.map toEn).map (·.r) = L.map (·.r) := by rw [List.map_map]; rfl
theorem en_sets {L : List Wt} (h : SetOk L) : ∀ x ∈ L.map toEn, x.set < 256 := by
  intro x hx
  obtain ⟨y, hy, rfl⟩ := List.mem_map.1 hx
  unfold toEn
  dsimp only
  split
  · exact h y hy
  · omega
theorem write_kind {own : Int} {r : Rq} (h : (!readsB r.op) = true) : okW ⟨r, 0, 0, addN 0 own⟩ := by
  unfold readsB at h
  simp at h
  exact .inl ⟨rfl, h⟩
theorem read_kind {own : Int} {r : Rq} {nn ix : Int} (h : (readsB r.op && numB 1 nn && numB 0 ix) = true) : okW ⟨r, nn, ix, addN 0 own⟩ := by
  unfold readsB numB at h
  simp at h
  exact .inr ⟨h.1.2.1, h.1.1⟩
end Qu
end Go.Proofs.Ytinnpeonokdljaa
