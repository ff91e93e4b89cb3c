/- The law QueueOnce, in plain data: a queue's requests have keys of their own; who is told stood there. -/
import Derived.Test.YtinnpeonokdljaaQueueApi
set_option linter.unusedSimpArgs false
set_option linter.unusedVariables false
namespace Go.Proofs.Ytinnpeonokdljaa
open Go.RowKit

/-- An append onto an own row: what stands elsewhere stays. -/
theorem Sep.grown {w0 u u' : World} {base : Nat} {e : TypeId} {K : Nat} {v v' : Value} {n n' : Nat} {xs ys : List Value} {l : List It} (h : Sep w0 (.row base e K v n xs :: l) u) (h2 : u'.ownsRow base e K v' n' ys) (h3 : u.grownBy u' v.ownBlock) (h4 : v'.ownBlock = v.ownBlock ∨ v'.ownBlock = some u.heap.size) :
    Sep w0 (.row base e K v' n' ys :: l) u' :=
  Sep.turn (a := [.row base e K v n xs]) (a' := [.row base e K v' n' ys]) (F := fun k => v.ownBlock = some k) h (Foot.of_grown h3) (fun k hk => .inl ⟨_, List.mem_singleton.2 rfl, hk⟩)
    (by intro x hx; rw [List.mem_singleton.1 hx]; exact h2)
    (by
      intro x hx k hk
      rw [List.mem_singleton.1 hx] at hk
      rcases h4 with h4 | h4
      · exact .inl ⟨_, List.mem_singleton.2 rfl, by show v.ownBlock = some k; rw [← h4]; exact hk⟩
      · exact .inr (by have := hk.symm.trans h4; injection this with this; omega))
    (by simp)

namespace Qu
open Qm
def okW (x : Wt) : Prop := (x.nonce = 0 ∧ x.r.op.kind ≠ 1) ∨ (1 ≤ x.nonce ∧ x.r.op.kind = 1)
def sameK (x y : Wt) : Prop := x.r.client = y.r.client ∧ x.r.seq = y.r.seq
structure Good (L : List Wt) : Prop where
  ok : QOk L
  kinds : ∀ x ∈ L, okW x
  keys : L.Pairwise (fun x y => ¬ sameK x y)
theorem Good.nil : Good [] := ⟨QOk.nil, by simp, .nil⟩
theorem putR_cases (own : Int) (right : Bool) (L : List Wt) (r : Rq) (nn ix : Int) :
    (∃ e, putR own right L r nn ix = (false, e, L)) ∨ (putR own right L r nn ix = (true, 0, L ++ [⟨r, nn, ix, addN 0 own⟩]) ∧ right = true ∧ hasB L r.client r.seq = false) := by
  unfold putR
  by_cases h1 : badR right r = true
  · rw [if_pos h1]; exact .inl ⟨_, rfl⟩
  · rw [if_neg h1]
    by_cases h2 : hasB L r.client r.seq = true
    · rw [if_pos h2]; exact .inl ⟨_, rfl⟩
    · rw [if_neg h2]
      by_cases h3 : (8 : Int) ≤ (L.length : Int)
      · rw [if_pos h3]; exact .inl ⟨_, rfl⟩
      · rw [if_neg h3]
        refine .inr ⟨rfl, ?_, by simpa using h2⟩
        cases right
        · exact absurd rfl h1
        · rfl
theorem Good.push {L : List Wt} (h : Good L) {own : Int} {right : Bool} {r : Rq} {nn ix : Int} (hk : right = true → okW ⟨r, nn, ix, addN 0 own⟩) : Good (putR own right L r nn ix).2.2 := by
  have hok := putR_ok (own := own) (right := right) (r := r) (nn := nn) (ix := ix) h.ok
  rcases putR_cases own right L r nn ix with ⟨e, h1⟩ | ⟨h1, h2, h3⟩
  · rw [h1]; exact h
  · rw [h1] at hok ⊢
    refine ⟨hok, ?_, ?_⟩
    · intro x hx
      rcases List.mem_append.1 hx with hx | hx
      · exact h.kinds x hx
      · rw [List.mem_singleton.1 hx]; exact hk h2
    · refine List.pairwise_append.2 ⟨h.keys, List.pairwise_singleton _ _, ?_⟩
      intro x hx y hy hs
      rw [List.mem_singleton.1 hy] at hs
      unfold hasB at h3
      rw [List.any_eq_false] at h3
      refine h3 x hx ?_
      unfold isB
      rw [decide_eq_true hs.1, decide_eq_true hs.2]
      rfl
theorem Good.left {L : List Wt} (h : Good L) (p : Wt → Bool) : Good (left p L) :=
  ⟨h.ok.left p, fun x hx => h.kinds x (List.mem_filter.1 hx).1, h.keys.sublist List.filter_sublist⟩
theorem ansW_r (nonce r : Int) (x : Wt) : (ansW nonce r x).r = x.r := by unfold ansW; split <;> rfl
theorem ansW_n (nonce r : Int) (x : Wt) : (ansW nonce r x).nonce = x.nonce := by unfold ansW; split <;> rfl
theorem ans_r (n nonce r : Int) (L : List Wt) : (ansR n nonce r L).2.map (·.r) = L.map (·.r) := by
  unfold ansR
  split
  · rfl
  · unfold ansL
    rw [List.map_map]
    exact List.map_congr_left fun x _ => ansW_r nonce r x
theorem Good.ans {L : List Wt} (h : Good L) (n nonce r : Int) : Good (ansR n nonce r L).2 := by
  refine ⟨ansR_ok h.ok, ?_, ?_⟩
  · unfold ansR
    split
    · exact h.kinds
    · intro x hx
      obtain ⟨y, hy, rfl⟩ := List.mem_map.1 hx
      have := h.kinds y hy
      unfold okW at this ⊢
      rw [ansW_n, ansW_r]
      exact this
  · unfold ansR
    split
    · exact h.keys
    · unfold ansL
      rw [List.pairwise_map]
      refine h.keys.imp fun {x y} hxy hs => hxy ?_
      unfold sameK at hs ⊢
      rw [ansW_r, ansW_r] at hs
      exact hs
theorem ans_len (n nonce r : Int) (L : List Wt) : (ansR n nonce r L).2.length = L.length := by
  have := congrArg List.length (ans_r n nonce r L)
  simpa using this
/-- Distinct places hold distinct requests. -/
theorem Good.apart {L : List Wt} (h : Good L) {i j : Nat} (hi : i < L.length) (hj : j < L.length) (hij : i < j) : L[i].r ≠ L[j].r := fun e => by
  have := List.pairwise_iff_getElem.1 h.keys i j hi hj hij
  exact this ⟨by rw [e], by rw [e]⟩
/-- The one that is told next. -/
theorem took_split (p : Wt → Bool) (L : List Wt) (k : Nat) : took p L = took p (L.take k) ++ took p (L.drop k) := by
  conv => lhs; rw [← List.take_append_drop k L]
  unfold took
  rw [List.filter_append, List.map_append]
theorem next_yes {p : Wt → Bool} {L : List Wt} {k : Nat} (hk : k < L.length) (hp : p L[k] = true) : ∃ h : (took p (L.take k)).length < (took p L).length, (took p L)[(took p (L.take k)).length] = L[k].r := by
  have hd : took p (L.drop k) = L[k].r :: took p (L.drop (k + 1)) := by
    rw [List.drop_eq_getElem_cons hk]
    unfold took
    rw [List.filter_cons_of_pos hp]
    rfl
  have hs := took_split p L k
  have hlt : (took p (L.take k)).length < (took p L).length := by rw [hs, hd, List.length_append, List.length_cons]; omega
  refine ⟨hlt, ?_⟩
  have e : (took p L)[(took p (L.take k)).length]? = some L[k].r := by rw [hs, hd, List.getElem?_append_right (Nat.le_refl _), Nat.sub_self]; rfl
  rw [List.getElem?_eq_getElem hlt] at e
  exact Option.some.inj e
theorem next_no {p : Wt → Bool} {L : List Wt} (hG : Good L) {k : Nat} (hk : k < L.length) (hp : p L[k] = false) (h : (took p (L.take k)).length < (took p L).length) : (took p L)[(took p (L.take k)).length] ≠ L[k].r := fun e => by
  have hd : took p (L.drop k) = took p (L.drop (k + 1)) := by
    rw [List.drop_eq_getElem_cons hk]
    unfold took
    rw [List.filter_cons_of_neg (by rw [hp]; decide)]
  have hs := took_split p L k
  have e1 : (took p L)[(took p (L.take k)).length]? = some L[k].r := by rw [List.getElem?_eq_getElem h, e]
  rw [hs, hd, List.getElem?_append_right (Nat.le_refl _), Nat.sub_self] at e1
  have hm : L[k].r ∈ took p (L.drop (k + 1)) := List.mem_of_getElem? e1
  unfold took at hm
  obtain ⟨y, hy, hye⟩ := List.mem_map.1 hm
  obtain ⟨j, hj, rfl⟩ := List.getElem_of_mem (List.mem_filter.1 hy).1
  rw [List.length_drop] at hj
  rw [List.getElem_drop] at hye
  exact hG.apart hk (by omega) (by omega) hye.symm
theorem took_no (L : List Wt) : took (fun _ => false) L = [] := by unfold took; simp
theorem left_no (L : List Wt) : left (fun _ => false) L = L := by unfold left; simp
/-- Those that Done told. -/
def goneF (c s : Int) (r : Rq) : Bool := decide (r.client = c) && decide (r.seq = s) && !decide (r.op.kind = 1)
theorem gone_done {x : Wt} (h : okW x) (c s : Int) : goneF c s x.r = doneB c s x := by
  unfold goneF doneB isB
  rcases h with ⟨h1, h2⟩ | ⟨h1, h2⟩
  · rw [decide_eq_true h1, decide_eq_false h2]; simp
  · rw [decide_eq_false (by omega : ¬ x.nonce = 0), decide_eq_true h2]; simp
theorem gone_all {L : List Wt} (h : ∀ x ∈ L, okW x) (c s : Int) : (L.map (·.r)).filter (goneF c s) = took (doneB c s) L := by
  unfold took
  rw [List.filter_map]
  congr 1
  exact List.filter_congr fun x hx => gone_done (h x hx) c s
theorem done_one {L : List Wt} (hG : Good L) {c s : Int} (h : L.any (doneB c s) = true) : (took (doneB c s) L).length = 1 := by
  unfold took
  rw [List.length_map]
  obtain ⟨x, hx, hp⟩ := List.any_eq_true.1 h
  have h1 : x ∈ L.filter (doneB c s) := List.mem_filter.2 ⟨hx, hp⟩
  have hpw : (L.filter (doneB c s)).Pairwise (fun x y => ¬ sameK x y) := hG.keys.sublist List.filter_sublist
  have hall : ∀ y ∈ L.filter (doneB c s), y.r.client = c ∧ y.r.seq = s := fun y hy => by
    have := (List.mem_filter.1 hy).2
    unfold doneB isB at this
    simp only [Bool.and_eq_true, decide_eq_true_eq] at this
    exact this.2
  cases hl : L.filter (doneB c s) with
  | nil => rw [hl] at h1; simp at h1
  | cons a t =>
    rw [hl] at hpw hall
    cases t with
    | nil => rfl
    | cons b t =>
      have h2 := (List.pairwise_cons.1 hpw).1 b List.mem_cons_self
      have ha := hall a List.mem_cons_self
      have hb := hall b (List.mem_cons_of_mem _ List.mem_cons_self)
      exact absurd ⟨ha.1.trans hb.1.symm, ha.2.trans hb.2.symm⟩ h2
theorem done_none {L : List Wt} {c s : Int} (h : L.any (doneB c s) = false) : left (doneB c s) L = L := left_none h

end Qu
end Go.Proofs.Ytinnpeonokdljaa
