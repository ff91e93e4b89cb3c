/- A slot in memory: its block, and the row of its proposals. -/
import Derived.Test.YtpgejomhcojppaaChooseKeepsPlain
import Derived.Test.YtpgejomhcojppaaQuorumEnough
import Derived.Test.YtpgejomhcojppaaBallotNext
import Derived.Test.YtpgejomhcojppaaBallotMax
set_option linter.unusedSimpArgs false
set_option linter.unusedVariables false
namespace Go.Proofs.Ytpgejomhcojppaa
open Go.RowKit
theorem midSets_app : ∀ (vs cs ds : List Value) (o : Nat), o + vs.length ≤ cs.length → midSets (cs ++ ds) o vs = midSets cs o vs ++ ds
  | [], _, _, _, _ => rfl
  | v :: r, cs, ds, o, h => by
    simp only [List.length_cons] at h
    rw [midSets, midSets, List.set_append_left _ _ (by omega), midSets_app r _ _ _ (by simp; omega)]
theorem flat_set1 {α : Type} {f : α → List Value} {K : Nat} (hf : ∀ a, (f a).length = K) : ∀ (l : List α) (k j : Nat) (v : Value) (a : α) (hk : k < l.length), j < K → f a = (f l[k]).set j v → (l.flatMap f).set (k * K + j) v = (l.set k a).flatMap f
  | [], k, _, _, _, h, _, _ => by simp at h
  | b :: l, 0, j, v, a, _, hj, h => by
    rw [List.flatMap_cons, Nat.zero_mul, Nat.zero_add, List.set_append_left _ _ (by rw [hf]; exact hj), List.set_cons_zero, List.flatMap_cons, h]
    rfl
  | b :: l, k + 1, j, v, a, hk, hj, h => by
    rw [List.flatMap_cons, show (k + 1) * K + j = K + (k * K + j) by rw [Nat.succ_mul]; omega, List.set_append_right _ _ (by rw [hf]; omega), hf, show K + (k * K + j) - K = k * K + j by omega,
      flat_set1 hf l k j v a (by simpa using hk) hj (by simpa using h), List.set_cons_succ, List.flatMap_cons]
theorem Sep.mids {w0 : World} {l : List It} {b : Nat} {t : TypeId} : ∀ (vs : List Value) (o : Nat) {u : World} {cs : List Value}, Sep w0 (.box b t cs :: l) u → Sep w0 (.box b t (midSets cs o vs) :: l) (u.setCells b o vs)
  | [], _, _, _, h => h
  | v :: r, o, _, _, h => Sep.mids r (o + 1) (h.set o v)
theorem Sep.rowset {w0 u : World} {base : Nat} {e : TypeId} {K rb n c : Nat} {xs : List Value} {l : List It} (h : Sep w0 (.row base e K (.slice (some ⟨rb, 0, none⟩) n c) n xs :: l) u) (j : Nat) (v : Value) :
    Sep w0 (.row base e K (.slice (some ⟨rb, 0, none⟩) n c) n (xs.set j v) :: l) (u.setCell ⟨rb, j, none⟩ v) := by
  have hr : u.ownsRow base e K (.slice (some ⟨rb, 0, none⟩) n c) n xs := h.head
  refine Sep.turn (a := [.row base e K (.slice (some ⟨rb, 0, none⟩) n c) n xs]) (a' := [.row base e K (.slice (some ⟨rb, 0, none⟩) n c) n (xs.set j v)]) (F := fun i => i = rb) h ((Foot.refl (fun i => i = rb) u).set (p := ⟨rb, j, none⟩) (.inl rfl) _) ?_ ?_ ?_ ?_
  · rintro i rfl
    exact .inl ⟨_, List.mem_singleton.2 rfl, rfl⟩
  · intro x hx
    rw [List.mem_singleton.1 hx]
    exact (hr.stored j v).1
  · intro x hx i hi
    rw [List.mem_singleton.1 hx] at hi
    exact .inl ⟨_, List.mem_singleton.2 rfl, hi⟩
  · exact List.pairwise_singleton _ _
theorem Sep.rowmids {w0 : World} {l : List It} {base : Nat} {e : TypeId} {K rb n c : Nat} : ∀ (vs : List Value) (o : Nat) {u : World} {xs : List Value}, Sep w0 (.row base e K (.slice (some ⟨rb, 0, none⟩) n c) n xs :: l) u → Sep w0 (.row base e K (.slice (some ⟨rb, 0, none⟩) n c) n (midSets xs o vs) :: l) (u.setCells rb o vs)
  | [], _, _, _, h => h
  | v :: r, o, _, _, h => Sep.rowmids r (o + 1) (h.rowset o v)
theorem Sep.grown {w0 u u' : World} {base : Nat} {e : TypeId} {K : Nat} {v v' : Value} {n n' : Nat} {xs ys : List Value} {l : List It} (h : Sep w0 (.row base e K v n xs :: l) u) (h2 : u'.ownsRow base e K v' n' ys) (h3 : u.grownBy u' v.ownBlock) (h4 : v'.ownBlock = v.ownBlock ∨ v'.ownBlock = some u.heap.size) :
    Sep w0 (.row base e K v' n' ys :: l) u' :=
  Sep.turn (a := [.row base e K v n xs]) (a' := [.row base e K v' n' ys]) (F := fun k => v.ownBlock = some k) h (Foot.of_grown h3) (fun k hk => .inl ⟨_, List.mem_singleton.2 rfl, hk⟩)
    (by intro x hx; rw [List.mem_singleton.1 hx]; exact h2)
    (by
      intro x hx k hk
      rw [List.mem_singleton.1 hx] at hk
      rcases h4 with h4 | h4
      · exact .inl ⟨_, List.mem_singleton.2 rfl, by show v.ownBlock = some k; rw [← h4]; exact hk⟩
      · exact .inr (by have := hk.symm.trans h4; injection this with this; omega))
    (by simp)
namespace Ch
open Bl Qm
def plC (x : Pl) : List Value := [.int .i64 x.pr.r, .int .i64 x.pr.p, .int .i64 x.b.r, .int .i64 x.b.p, .int .u8 (x.st : Nat), .int .i64 x.sq]
def ppC (x : Pp) : List Value := [.int .i64 x.b.r, .int .i64 x.b.p, .int .i64 x.sq, .int .u8 (x.by_ : Nat)]
theorem plC_len (x : Pl) : (plC x).length = 6 := rfl
theorem ppC_len (x : Pp) : (ppC x).length = 4 := rfl
theorem ppC_one (x : Pp) : ∀ v ∈ ppC x, v.oneCell' = true := by
  intro v hx
  simp only [ppC, List.mem_cons, List.not_mem_nil, or_false] at hx
  rcases hx with rfl | rfl | rfl | rfl <;> rfl
def slC (s : Sl) (pv : Value) : List Value := .int .i64 (s.n : Nat) :: (s.ps.flatMap plC ++ [pv, .int .i64 s.ch, .int .i64 s.cb.r, .int .i64 s.cb.p])
/-- A slot's things in memory: its block, the row of its proposals. -/
def sI (base g : Nat) (pv : Value) (s : Sl) : List It := [.box g 45 (slC s pv), .row base 75 4 pv s.qs.length (s.qs.flatMap ppC)]
theorem sl_box {w0 u : World} {base g : Nat} {pv : Value} {s : Sl} {l : List It} (h : Sep w0 (sI base g pv s ++ l) u) : Whole u g 45 (slC s pv) := h.head
theorem sl_row {w0 u : World} {base g : Nat} {pv : Value} {s : Sl} {l : List It} (h : Sep w0 (sI base g pv s ++ l) u) : u.ownsRow base 75 4 pv s.qs.length (s.qs.flatMap ppC) := h.tail.head
theorem sl_flat (s : Sl) (hl : s.ps.length = 7) : (s.ps.flatMap plC).length = 42 := by rw [flat_len plC_len, hl]
theorem slC_place {s : Sl} {pv : Value} (hl : s.ps.length = 7) {i : Nat} (hi : i < 7) {j : Nat} {x : Value} (hx : (plC (s.at_ i))[j]? = some x) : (slC s pv)[1 + i * 6 + j]? = some x := by
  have hj : j < 6 := by obtain ⟨hlt, _⟩ := List.getElem?_eq_some_iff.1 hx; rwa [plC_len] at hlt
  have hg : s.ps[i]? = some (s.at_ i) := by
    unfold Sl.at_
    rw [List.getD_eq_getElem?_getD, List.getElem?_eq_getElem (by omega)]; rfl
  unfold slC
  rw [show 1 + i * 6 + j = (i * 6 + j) + 1 by omega, List.getElem?_cons_succ, List.getElem?_append_left (by rw [sl_flat s hl]; omega), flat_at plC_len _ _ _ _ hg hj]
  exact hx
theorem slC_tail {s : Sl} {pv : Value} (hl : s.ps.length = 7) (j : Nat) : (slC s pv)[43 + j]? = [pv, .int .i64 s.ch, .int .i64 s.cb.r, .int .i64 s.cb.p][j]? := by
  unfold slC
  rw [show 43 + j = (42 + j) + 1 by omega, List.getElem?_cons_succ, List.getElem?_append_right (by rw [sl_flat s hl]; omega), sl_flat s hl, show 42 + j - 42 = j by omega]
/-- The cells of a slot. -/
structure SlAt (g : Nat) (pv : Value) (s : Sl) (u : World) : Prop where
  n : u.cell? ⟨g, 0, none⟩ = some (.int .i64 (s.n : Nat))
  pl : ∀ i, i < 7 → ∀ j x, (plC (s.at_ i))[j]? = some x → u.cell? ⟨g, 1 + i * 6 + j, none⟩ = some x
  pv : u.cell? ⟨g, 43, none⟩ = some pv
  ch : u.cell? ⟨g, 44, none⟩ = some (.int .i64 s.ch)
  cr : u.cell? ⟨g, 45, none⟩ = some (.int .i64 s.cb.r)
  cp : u.cell? ⟨g, 46, none⟩ = some (.int .i64 s.cb.p)
  free : ∀ j, u.frozen? ⟨g, j, none⟩ = false
theorem sl_at {w0 u : World} {base g : Nat} {pv : Value} {s : Sl} {l : List It} (h : Sep w0 (sI base g pv s ++ l) u) (hl : s.ps.length = 7) : SlAt g pv s u := by
  have hb := sl_box h
  refine ⟨(hb.cell 0).trans rfl, fun i hi j x hx => (hb.cell _).trans (slC_place hl hi hx), ?_, ?_, ?_, ?_, fun j => hb.free j⟩
  · exact (hb.cell 43).trans (slC_tail (j := 0) hl)
  · exact (hb.cell 44).trans (slC_tail (j := 1) hl)
  · exact (hb.cell 45).trans (slC_tail (j := 2) hl)
  · exact (hb.cell 46).trans (slC_tail (j := 3) hl)
/-- The proposals' row, and one's cells. -/
theorem sl_prop {w0 u : World} {base g : Nat} {pv : Value} {s : Sl} {l : List It} (h : Sep w0 (sI base g pv s ++ l) u) {gb c : Nat} (hpv : pv = .slice (some ⟨gb, 0, none⟩) s.qs.length c) {k : Nat} (hk : k < s.qs.length) :
    ∀ j x, (ppC s.qs[k])[j]? = some x → u.cell? ⟨gb, k * 4 + j, none⟩ = some x ∧ u.frozen? ⟨gb, k * 4 + j, none⟩ = false := by
  intro j x hx
  have hr := sl_row h
  rw [hpv] at hr
  have hj : j < 4 := by obtain ⟨hlt, _⟩ := List.getElem?_eq_some_iff.1 hx; rwa [ppC_len] at hlt
  refine ⟨?_, hr.frozenAt _⟩
  rw [hr.cellAt _ (by omega), flat_at ppC_len _ _ _ _ (List.getElem?_eq_getElem hk) hj]
  exact hx
theorem sl_form {w0 u : World} {base g : Nat} {pv : Value} {s : Sl} {l : List It} (h : Sep w0 (sI base g pv s ++ l) u) : ∃ A c, pv = .slice A s.qs.length c := by
  obtain ⟨A, c, hv, _, _⟩ := (Row.of_own (sl_row h)).slice
  exact ⟨A, c, hv⟩
theorem sl_form1 {w0 u : World} {base g : Nat} {pv : Value} {s : Sl} {l : List It} (h : Sep w0 (sI base g pv s ++ l) u) (hk : 0 < s.qs.length) : ∃ gb c, pv = .slice (some ⟨gb, 0, none⟩) s.qs.length c := by
  obtain ⟨gb, c, hv, _⟩ := own_form (sl_row h) hk
  exact ⟨gb, c, hv⟩
/-- A place is written. -/
theorem sl_place {w0 u : World} {base g : Nat} {pv : Value} {s : Sl} {l : List It} (h : Sep w0 (sI base g pv s ++ l) u) (hl : s.ps.length = 7) {i : Nat} (hi : i < 7) (x : Pl) :
    Sep w0 (sI base g pv ⟨s.n, s.ps.set i x, s.qs, s.ch, s.cb⟩ ++ l) (u.setCells g (1 + i * 6) (plC x)) := by
  have h1 := Sep.mids (plC x) (1 + i * 6) h
  have e : midSets (slC s pv) (1 + i * 6) (plC x) = slC ⟨s.n, s.ps.set i x, s.qs, s.ch, s.cb⟩ pv := by
    unfold slC
    have := midSets_append_right (plC x) [.int .i64 (s.n : Nat)] (s.ps.flatMap plC ++ [pv, .int .i64 s.ch, .int .i64 s.cb.r, .int .i64 s.cb.p]) (i * 6)
    rw [List.length_singleton] at this
    rw [show ∀ (a : Value) l, a :: l = [a] ++ l from fun _ _ => rfl, this, midSets_app _ _ _ _ (by rw [sl_flat s hl, plC_len]; omega), flat_mids plC_len _ _ _ (by omega)]
    rfl
  rw [e] at h1
  exact h1
/-- A place's state is written. -/
theorem sl_st {w0 u : World} {base g : Nat} {pv : Value} {s : Sl} {l : List It} (h : Sep w0 (sI base g pv s ++ l) u) (hl : s.ps.length = 7) {i : Nat} (hi : i < 7) (v : Nat) :
    Sep w0 (sI base g pv ⟨s.n, s.ps.set i ⟨(s.at_ i).pr, (s.at_ i).b, v, (s.at_ i).sq⟩, s.qs, s.ch, s.cb⟩ ++ l) (u.setCell ⟨g, 1 + i * 6 + 4, none⟩ (.int .u8 (v : Nat))) := by
  have h1 := Sep.set h (1 + i * 6 + 4) (.int .u8 (v : Nat))
  have e : (slC s pv).set (1 + i * 6 + 4) (.int .u8 (v : Nat)) = slC ⟨s.n, s.ps.set i ⟨(s.at_ i).pr, (s.at_ i).b, v, (s.at_ i).sq⟩, s.qs, s.ch, s.cb⟩ pv := by
    unfold slC
    rw [show 1 + i * 6 + 4 = (i * 6 + 4) + 1 by omega, List.set_cons_succ, List.set_append_left _ _ (by rw [sl_flat s hl]; omega), flat_set1 plC_len s.ps i 4 _ ⟨(s.at_ i).pr, (s.at_ i).b, v, (s.at_ i).sq⟩ (by omega) (by omega)]
    unfold Sl.at_
    rw [List.getD_eq_getElem?_getD, List.getElem?_eq_getElem (by omega)]
    rfl
  rw [e] at h1
  exact h1
/-- A place's promise is written. -/
theorem sl_pr {w0 u : World} {base g : Nat} {pv : Value} {s : Sl} {l : List It} (h : Sep w0 (sI base g pv s ++ l) u) (hl : s.ps.length = 7) {i : Nat} (hi : i < 7) (b : Ba) :
    Sep w0 (sI base g pv ⟨s.n, s.ps.set i ⟨b, (s.at_ i).b, (s.at_ i).st, (s.at_ i).sq⟩, s.qs, s.ch, s.cb⟩ ++ l) ((u.setCell ⟨g, 1 + i * 6, none⟩ (.int .i64 b.r)).setCell ⟨g, 1 + i * 6 + 1, none⟩ (.int .i64 b.p)) := by
  have h1 := Sep.set (Sep.set h (1 + i * 6) (.int .i64 b.r)) (1 + i * 6 + 1) (.int .i64 b.p)
  have hg : s.ps[i]'(by omega) = s.at_ i := by
    unfold Sl.at_
    rw [List.getD_eq_getElem?_getD, List.getElem?_eq_getElem (by omega)]; rfl
  have e : ((slC s pv).set (1 + i * 6) (.int .i64 b.r)).set (1 + i * 6 + 1) (.int .i64 b.p) = slC ⟨s.n, s.ps.set i ⟨b, (s.at_ i).b, (s.at_ i).st, (s.at_ i).sq⟩, s.qs, s.ch, s.cb⟩ pv := by
    unfold slC
    have h2 := flat_set1 plC_len s.ps i 0 (.int .i64 b.r) ⟨⟨b.r, (s.at_ i).pr.p⟩, (s.at_ i).b, (s.at_ i).st, (s.at_ i).sq⟩ (by omega) (by omega) (by rw [hg]; rfl)
    rw [Nat.add_zero] at h2
    rw [show 1 + i * 6 + 1 = (i * 6 + 1) + 1 by omega, show 1 + i * 6 = i * 6 + 1 by omega, List.set_cons_succ, List.set_cons_succ, List.set_append_left _ _ (by rw [sl_flat s hl]; omega), h2]
    have hl2 : (s.ps.set i ⟨⟨b.r, (s.at_ i).pr.p⟩, (s.at_ i).b, (s.at_ i).st, (s.at_ i).sq⟩).length = 7 := by rw [List.length_set]; exact hl
    rw [List.set_append_left _ _ (by rw [flat_len plC_len, hl2]; omega), flat_set1 plC_len _ i 1 _ ⟨b, (s.at_ i).b, (s.at_ i).st, (s.at_ i).sq⟩ (by rw [hl2]; omega) (by omega) (by rw [List.getElem_set_self]; rfl), List.set_set]
  rw [e] at h1
  exact h1
/-- Who has accepted a proposal is written. -/
theorem sl_by {w0 u : World} {base g : Nat} {pv : Value} {s : Sl} {l : List It} (h : Sep w0 (sI base g pv s ++ l) u) {gb c : Nat} (hpv : pv = .slice (some ⟨gb, 0, none⟩) s.qs.length c) {k : Nat} (hk : k < s.qs.length) (v : Nat) :
    Sep w0 (sI base g pv ⟨s.n, s.ps, s.qs.set k ⟨s.qs[k].b, s.qs[k].sq, v⟩, s.ch, s.cb⟩ ++ l) (u.setCell ⟨gb, k * 4 + 3, none⟩ (.int .u8 (v : Nat))) := by
  have h0 : Sep w0 (.row base 75 4 (.slice (some ⟨gb, 0, none⟩) s.qs.length c) s.qs.length (s.qs.flatMap ppC) :: .box g 45 (slC s pv) :: l) u := by
    rw [← hpv]; exact Sep.exch h
  have h1 := Sep.exch (h0.rowset (k * 4 + 3) (.int .u8 (v : Nat)))
  rw [flat_set1 ppC_len s.qs k 3 _ ⟨s.qs[k].b, s.qs[k].sq, v⟩ hk (by omega) rfl] at h1
  unfold sI
  show Sep w0 (.box g _ (slC _ pv) :: .row base _ 4 pv (s.qs.set k _).length _ :: l) _
  rw [List.length_set, hpv]
  rw [hpv] at h1
  exact h1
/-- What was chosen is written. -/
theorem sl_ch {w0 u : World} {base g : Nat} {pv : Value} {s : Sl} {l : List It} (h : Sep w0 (sI base g pv s ++ l) u) (hl : s.ps.length = 7) (v : Int) :
    Sep w0 (sI base g pv ⟨s.n, s.ps, s.qs, v, s.cb⟩ ++ l) (u.setCell ⟨g, 44, none⟩ (.int .i64 v)) := by
  have h1 := Sep.set h 44 (.int .i64 v)
  have e : (slC s pv).set 44 (.int .i64 v) = slC ⟨s.n, s.ps, s.qs, v, s.cb⟩ pv := by
    unfold slC
    rw [List.set_cons_succ, List.set_append_right _ _ (by rw [sl_flat s hl]; omega), sl_flat s hl]
    rfl
  rw [e] at h1
  exact h1
theorem sl_cb {w0 u : World} {base g : Nat} {pv : Value} {s : Sl} {l : List It} (h : Sep w0 (sI base g pv s ++ l) u) (hl : s.ps.length = 7) (b : Ba) :
    Sep w0 (sI base g pv ⟨s.n, s.ps, s.qs, s.ch, b⟩ ++ l) ((u.setCell ⟨g, 45, none⟩ (.int .i64 b.r)).setCell ⟨g, 46, none⟩ (.int .i64 b.p)) := by
  have h1 := Sep.set (Sep.set h 45 (.int .i64 b.r)) 46 (.int .i64 b.p)
  have e : ((slC s pv).set 45 (.int .i64 b.r)).set 46 (.int .i64 b.p) = slC ⟨s.n, s.ps, s.qs, s.ch, b⟩ pv := by
    unfold slC
    rw [List.set_cons_succ, List.set_cons_succ, List.set_append_right _ _ (by rw [sl_flat s hl]; omega), sl_flat s hl, List.set_append_right _ _ (by rw [sl_flat s hl]; omega), sl_flat s hl]
    rfl
  rw [e] at h1
  exact h1
end Ch
end Go.Proofs.Ytpgejomhcojppaa
