/- Words for the walk of proposes. -/
import Derived.Test.YtpgejomhcojppaaChooseAccepts
import Derived.Test.YtpgejomhcojppaaChooseGoes
import Derived.OwnWalk
set_option linter.unusedSimpArgs false
set_option linter.unusedVariables false
namespace Go.Proofs.Ytpgejomhcojppaa
open Go.RowKit
theorem flat_part {α : Type} {f : α → List Value} {K : Nat} (hf : ∀ a, (f a).length = K) (o : Nat) (vs : List Value) (ho : o + vs.length ≤ K) (a : α) : ∀ (l : List α) (k : Nat) (h : k < l.length), midSets (f l[k]) o vs = f a → midSets (l.flatMap f) (k * K + o) vs = (l.set k a).flatMap f
  | [], k, h, _ => by simp at h
  | b :: l, 0, _, he => by
    rw [List.flatMap_cons, Nat.zero_mul, Nat.zero_add, midSets_app _ _ _ _ (by rw [hf]; exact ho), List.set_cons_zero, List.flatMap_cons]
    congr 1
  | b :: l, k + 1, h, he => by
    have := midSets_append_right vs (f b) (l.flatMap f) (k * K + o)
    rw [hf] at this
    rw [List.flatMap_cons, show (k + 1) * K + o = K + (k * K + o) by rw [Nat.succ_mul]; omega, this, flat_part hf o vs ho a l k (by simpa using h) (by simpa using he), List.set_cons_succ, List.flatMap_cons]
theorem sc7 (w : World) (b o : Nat) (x0 x1 x2 x3 x4 x5 x6 : Value) : w.setCells b o [x0, x1, x2, x3, x4, x5, x6] = ((((((w.setCell ⟨b, o, none⟩ x0).setCell ⟨b, o + 1, none⟩ x1).setCell ⟨b, o + 2, none⟩ x2).setCell ⟨b, o + 3, none⟩ x3).setCell ⟨b, o + 4, none⟩ x4).setCell ⟨b, o + 5, none⟩ x5).setCell ⟨b, o + 6, none⟩ x6 := rfl
theorem Sep.box_at {w0 u : World} {a c : List It} {b : Nat} {t : TypeId} {cs : List Value} (h : Sep w0 (a ++ (.box b t cs :: c)) u) : Whole u b t cs := (h.perm List.perm_middle).head
theorem Sep.box_set {w0 u : World} {a c : List It} {b : Nat} {t : TypeId} {cs : List Value} (h : Sep w0 (a ++ (.box b t cs :: c)) u) (i : Nat) (v : Value) : Sep w0 (a ++ (.box b t (cs.set i v) :: c)) (u.setCell ⟨b, i, none⟩ v) :=
  ((h.perm List.perm_middle).set i v).perm List.perm_middle.symm
theorem Sep.box_new {w0 u : World} (a : List It) {c : List It} (h : Sep w0 (a ++ c) u) (t : TypeId) (cs : List Value) : Sep w0 (a ++ (.box u.heap.size t cs :: c)) (u.alloc (.cells cs.toArray t)) :=
  (h.alloc t cs).perm List.perm_middle.symm
theorem Sep.row_at {w0 u : World} {a c : List It} {base : Nat} {e : TypeId} {K n : Nat} {v : Value} {xs : List Value} (h : Sep w0 (a ++ (.row base e K v n xs :: c)) u) : u.ownsRow base e K v n xs := (h.perm List.perm_middle).head
theorem Sep.row_mids {w0 u : World} {a c : List It} {base : Nat} {e : TypeId} {K rb n cp : Nat} {xs : List Value} (h : Sep w0 (a ++ (.row base e K (.slice (some ⟨rb, 0, none⟩) n cp) n xs :: c)) u) (vs : List Value) (o : Nat) :
    Sep w0 (a ++ (.row base e K (.slice (some ⟨rb, 0, none⟩) n cp) n (midSets xs o vs) :: c)) (u.setCells rb o vs) :=
  (Sep.rowmids vs o (h.perm List.perm_middle)).perm List.perm_middle.symm
theorem Sep.drop {w0 u : World} (a : List It) {x : It} {c : List It} (h : Sep w0 (a ++ (x :: c)) u) : Sep w0 (a ++ c) u := h.sub (List.Sublist.append_left (List.sublist_cons_self _ _) _)
theorem Sep.drop2 {w0 u : World} (a : List It) {x y : It} {c : List It} (h : Sep w0 (a ++ (x :: y :: c)) u) : Sep w0 (a ++ (x :: c)) u := h.sub (List.Sublist.append_left ((List.sublist_cons_self _ _).cons_cons _) _)
theorem Sep.ne_row {w0 u : World} {a c : List It} {b : Nat} {t : TypeId} {cs : List Value} {base : Nat} {e : TypeId} {K n rb cp : Nat} {xs : List Value} (h : Sep w0 (a ++ (.box b t cs :: .row base e K (.slice (some ⟨rb, 0, none⟩) n cp) n xs :: c)) u) : ¬ b = rb := by
  have h1 := (List.pairwise_cons.1 (h.perm List.perm_middle).apart).1 (.row base e K (.slice (some ⟨rb, 0, none⟩) n cp) n xs) (by simp)
  intro e
  exact h1 b rfl (by rw [e]; rfl)
namespace Ch
open Bl Qm
theorem decR_two (n : Int) (L : List Rp) : (decR n L).1 ≤ 2 := by
  unfold decR
  split
  · simp
  · split
    · simp
    · split <;> simp
def askS (s : Sl) (b : Ba) (S i : Nat) : Sl := ⟨s.n, (askN b S s.n s.ps i).1, s.qs, s.ch, s.cb⟩
def askR (s : Sl) (b : Ba) (S i : Nat) : List Rp := (askN b S s.n s.ps i).2
theorem ask_len {s : Sl} (hl : s.ps.length = 7) (hn : s.n ≤ 7) (b : Ba) (S : Nat) {i : Nat} (hi : i ≤ s.n) : (askS s b S i).ps.length = 7 ∧ (askR s b S i).length = s.n :=
  ⟨(askN_spec b S s.n s.ps hl hn i hi).1, (askN_spec b S s.n s.ps hl hn i hi).2.1⟩
theorem ask_no {s : Sl} {b : Ba} {S i : Nat} (h : hasB S (i : Int) = false) : askS s b S (i + 1) = askS s b S i ∧ askR s b S (i + 1) = askR s b S i := by
  have e : askN b S s.n s.ps (i + 1) = askN b S s.n s.ps i := by rw [askN]; rw [h, if_neg (by simp)]
  unfold askS askR; rw [e]; exact ⟨rfl, rfl⟩
theorem ask_yes {s : Sl} {b : Ba} {S i : Nat} (h : hasB S (i : Int) = true) : askS s b S (i + 1) = ⟨s.n, (askS s b S i).ps.set i ⟨b, ((askS s b S i).at_ i).b, ((askS s b S i).at_ i).st, ((askS s b S i).at_ i).sq⟩, s.qs, s.ch, s.cb⟩ ∧ askR s b S (i + 1) = (askR s b S i).set i (repN ((askS s b S i).at_ i)) := by
  have e : askN b S s.n s.ps (i + 1) = ((askN b S s.n s.ps i).1.set i ⟨b, ((askN b S s.n s.ps i).1.getD i zeroPl).b, ((askN b S s.n s.ps i).1.getD i zeroPl).st, ((askN b S s.n s.ps i).1.getD i zeroPl).sq⟩, (askN b S s.n s.ps i).2.set i (repN ((askN b S s.n s.ps i).1.getD i zeroPl))) := by rw [askN]; rw [h, if_pos rfl]
  unfold askS askR; rw [e]; exact ⟨rfl, rfl⟩
theorem made_rps (N : Nat) (h : N = 3 ∨ N = 5 ∨ N = 7) (z : Value) (hz : z = .agg #[.int .i64 0, .int .u8 0, .int .i64 0, .int .i64 0, .int .u8 0, .int .i64 0, .int .i64 0, .int .u8 0, .string { data := #[] }, .string { data := #[] }, .string { data := #[] }]) : (madeCells z.cells (N * 11)).toList = (List.replicate N zeroRp).flatMap rpC := by
  subst hz
  rcases h with rfl | rfl | rfl <;> kernel_rfl
/-- The row of the proposals has grown. -/
theorem sl_grown {w0 u u' : World} {g : Nat} {pv pv' : Value} {s : Sl} {l : List It} {x : Pp} {n : Nat} (h : Sep w0 (sI w0.heap.size g pv s ++ l) u) (hl : s.ps.length = 7)
    (h2 : u'.ownsRow w0.heap.size 75 4 pv' n (s.qs.flatMap ppC ++ ppC x)) (hn : n = s.qs.length + 1) (h3 : u.grownBy u' pv.ownBlock) (h4 : pv'.ownBlock = pv.ownBlock ∨ pv'.ownBlock = some u.heap.size) :
    Whole u' g 45 (slC s pv) ∧ Sep w0 (sI w0.heap.size g pv' ⟨s.n, s.ps, s.qs ++ [x], s.ch, s.cb⟩ ++ l) (u'.setCell ⟨g, 43, none⟩ pv') := by
  have h1 : Sep w0 (.row w0.heap.size 75 4 pv s.qs.length (s.qs.flatMap ppC) :: .box g 45 (slC s pv) :: l) u := Sep.exch h
  have h5 := Sep.exch (h1.grown h2 h3 h4)
  refine ⟨h5.head, ?_⟩
  have h6 := h5.set 43 pv'
  have e : (slC s pv).set 43 pv' = slC ⟨s.n, s.ps, s.qs ++ [x], s.ch, s.cb⟩ pv' := by
    unfold slC
    rw [List.set_cons_succ, List.set_append_right _ _ (by rw [sl_flat s hl]; omega), sl_flat s hl]
    rfl
  rw [e] at h6
  have e2 : (s.qs ++ [x]).flatMap ppC = s.qs.flatMap ppC ++ ppC x := by rw [List.flatMap_append]; simp
  unfold sI
  show Sep w0 (.box g _ (slC _ pv') :: .row _ _ 4 pv' (s.qs ++ [x]).length ((s.qs ++ [x]).flatMap ppC) :: l) _
  rw [e2, List.length_append, List.length_singleton, ← hn]
  exact h6
theorem info_pp : (Try.prog.info? 75).map (fun i => (i.zero, i.size, i.bytes)) = some (some (.agg #[.int .i64 0, .int .i64 0, .int .i64 0, .int .u8 0]), 4, 32) := by kernel_rfl
theorem next_lit (b : Ba) (i n : Int) (nr np ne : Int) (h : nextZ b i n = (⟨nr, np⟩, ne)) (w : World) :
    Calls Try.prog 28 #[.agg #[.int .i64 b.r, .int .i64 b.p], .int .i64 i, .int .i64 n] w fun e w' => e = .returned (.tuple #[.agg #[.int .i64 nr, .int .i64 np], .int .i64 ne]) ∧ Below w.heap.size w w' := by
  have C := next_any b i n w
  rw [h] at C
  exact C
theorem max_lit (a b : Ba) (mr mp : Int) (h : maxL [a, b] = ⟨mr, mp⟩) (v : Value) (w : World) (hr : Row w w.heap.size v 2 [.int .i64 a.r, .int .i64 a.p, .int .i64 b.r, .int .i64 b.p]) :
    Calls Try.prog 27 #[v] w fun e w' => e = .returned (.agg #[.int .i64 mr, .int .i64 mp]) ∧ Below w.heap.size w w' := by
  have C := max_any [a, b] v w hr
  rw [h] at C
  exact C
end Ch
end Go.Proofs.Ytpgejomhcojppaa
