/- Memory as separate things: blocks that are known whole, and rows of one's own, all in blocks of their own. Nothing of the program stands here. -/
import Derived.Test.YtpgejomhcojppaaFoot
namespace Go.Proofs.Ytpgejomhcojppaa
open Go.RowKit

/-- A thing: a block known whole, or a row of one's own. -/
inductive It where
  | box (b : Nat) (t : TypeId) (cs : List Value)
  | row (base : Nat) (e : TypeId) (size : Nat) (v : Value) (n : Nat) (xs : List Value)
def It.blk : It → Option Nat
  | .box b _ _ => some b
  | .row _ _ _ v _ _ => v.ownBlock
def It.holds : It → World → Prop
  | .box b t cs, u => Whole u b t cs
  | .row base e size v n xs, u => u.ownsRow base e size v n xs
theorem It.lt {x : It} {u : World} (h : x.holds u) {k : Nat} (hk : x.blk = some k) : k < u.heap.size := by
  cases x with
  | box b t cs => injection hk with hk; subst hk; exact Whole.lt h
  | row base e size v n xs => exact (own_lt h hk).2
theorem It.foot {x : It} {u u' : World} {F : Nat → Prop} (h : x.holds u) (hf : Foot F u u') (hne : ∀ k, x.blk = some k → ¬ F k) : x.holds u' := by
  cases x with
  | box b t cs => exact hf.whole h (hne b rfl)
  | row base e size v n xs => exact hf.own h hne
def ApartI (x y : It) : Prop := ∀ k, x.blk = some k → y.blk ≠ some k
theorem ApartI.symm {x y : It} (h : ApartI x y) : ApartI y x := fun k hk hk' => h k hk' hk

/-- These things stand, each apart; what was ahead of w0's end is as it was. -/
structure Sep (w0 : World) (l : List It) (u : World) : Prop where
  below : Below w0.heap.size w0 u
  holds : ∀ x ∈ l, x.holds u
  new : ∀ x ∈ l, ∀ k, x.blk = some k → w0.heap.size ≤ k
  apart : l.Pairwise ApartI

theorem Sep.start (w0 : World) {u : World} (h : Below w0.heap.size w0 u) : Sep w0 [] u := ⟨h, by simp, by simp, .nil⟩
theorem Sep.size {w0 u : World} {l : List It} (h : Sep w0 l u) : w0.heap.size ≤ u.heap.size := h.below.size
theorem Sep.perm {w0 u : World} {l l' : List It} (h : Sep w0 l u) (hp : l.Perm l') : Sep w0 l' u :=
  ⟨h.below, fun x hx => h.holds x (hp.mem_iff.2 hx), fun x hx => h.new x (hp.mem_iff.2 hx), (hp.pairwise_iff fun h => ApartI.symm h).1 h.apart⟩
theorem Sep.swap {w0 u : World} {a l : List It} (h : Sep w0 (a ++ l) u) : Sep w0 (l ++ a) u := h.perm List.perm_append_comm
theorem Sep.sub {w0 u : World} {l l' : List It} (h : Sep w0 l u) (hs : l'.Sublist l) : Sep w0 l' u :=
  ⟨h.below, fun x hx => h.holds x (hs.subset hx), fun x hx => h.new x (hs.subset hx), h.apart.sublist hs⟩
theorem Sep.tail {w0 u : World} {x : It} {l : List It} (h : Sep w0 (x :: l) u) : Sep w0 l u := h.sub (List.sublist_cons_self _ _)
theorem Sep.right {w0 u : World} {a l : List It} (h : Sep w0 (a ++ l) u) : Sep w0 l u := h.sub (List.sublist_append_right _ _)
theorem Sep.left {w0 u : World} {a l : List It} (h : Sep w0 (a ++ l) u) : Sep w0 a u := h.sub (List.sublist_append_left _ _)
theorem Sep.first {w0 u : World} {a l : List It} (h : Sep w0 (a ++ l) u) : Sep w0 (a ++ []) u := by rw [List.append_nil]; exact h.left
theorem Sep.head {w0 u : World} {x : It} {l : List It} (h : Sep w0 (x :: l) u) : x.holds u := h.holds x List.mem_cons_self
/-- A call that turned some things, the first ones here. -/
theorem Sep.turn {w0 u u' : World} {a a' l : List It} {F : Nat → Prop} (h : Sep w0 (a ++ l) u) (hf : Foot F u u') (hF : ∀ k, F k → (∃ x ∈ a, x.blk = some k) ∨ u.heap.size ≤ k)
    (hh : ∀ x ∈ a', x.holds u') (hb : ∀ x ∈ a', ∀ k, x.blk = some k → (∃ y ∈ a, y.blk = some k) ∨ u.heap.size ≤ k) (hp : a'.Pairwise ApartI) : Sep w0 (a' ++ l) u' := by
  have hap := List.pairwise_append.1 h.apart
  have hz := h.below.size
  have hnF : ∀ x ∈ l, ∀ k, x.blk = some k → ¬ F k := fun x hx k hk hFk => by
    rcases hF k hFk with ⟨y, hy, hyk⟩ | hge
    · exact hap.2.2 y hy x hx k hyk hk
    · have := It.lt (h.holds x (List.mem_append_right _ hx)) hk
      omega
  refine ⟨?_, ?_, ?_, List.pairwise_append.2 ⟨hp, hap.2.1, ?_⟩⟩
  · refine h.below.trans (hf.below (fun k hFk => ?_) hz)
    rcases hF k hFk with ⟨y, hy, hyk⟩ | hge
    · exact h.new y (List.mem_append_left _ hy) k hyk
    · omega
  · intro x hx
    rcases List.mem_append.1 hx with hx | hx
    · exact hh x hx
    · exact It.foot (h.holds x (List.mem_append_right _ hx)) hf (hnF x hx)
  · intro x hx k hk
    rcases List.mem_append.1 hx with hx | hx
    · rcases hb x hx k hk with ⟨y, hy, hyk⟩ | hge
      · exact h.new y (List.mem_append_left _ hy) k hyk
      · omega
    · exact h.new x (List.mem_append_right _ hx) k hk
  · intro x hx y hy k hk hk'
    rcases hb x hx k hk with ⟨z, hz', hzk⟩ | hge
    · exact hap.2.2 z hz' y hy k hzk hk'
    · have := It.lt (h.holds y (List.mem_append_right _ hy)) hk'
      omega
/-- A call that made new things alone. -/
theorem Sep.call {w0 u u' : World} {l : List It} (h : Sep w0 l u) (hx : Below u.heap.size u u') : Sep w0 l u' :=
  Sep.turn (a := []) (a' := []) (F := fun _ => False) h (Foot.of_below hx) (fun _ h => h.elim) (by simp) (by simp) .nil
/-- A new thing. -/
theorem Sep.add {w0 u u' : World} {l : List It} (h : Sep w0 l u) (hx : Below u.heap.size u u') (x : It) (hh : x.holds u') (hb : ∀ k, x.blk = some k → u.heap.size ≤ k) : Sep w0 (x :: l) u' :=
  Sep.turn (a := []) (a' := [x]) (F := fun _ => False) h (Foot.of_below hx) (fun _ h => h.elim) (by simpa using hh) (by simpa using fun k hk => hb k hk) (by simp)
theorem Sep.alloc {w0 u : World} {l : List It} (h : Sep w0 l u) (t : TypeId) (cs : List Value) : Sep w0 (.box u.heap.size t cs :: l) (u.alloc (.cells cs.toArray t)) :=
  h.add (be1 _ _) _ (Whole.new _ _ _) (fun k hk => by injection hk with hk; omega)
theorem Sep.fresh {w0 u : World} {l : List It} (h : Sep w0 l u) (o : Obj) : Sep w0 l (u.alloc o) := h.call (be1 _ _)
theorem Sep.drew {w0 u : World} {l : List It} (h : Sep w0 l u) : Sep w0 l u.drew := h.call ((Below.refl _ _).drew)
theorem Sep.drewN {w0 u : World} {l : List It} (h : Sep w0 l u) (k : Nat) : Sep w0 l (u.drewN k) := h.call ⟨rfl, rfl, rfl, Nat.le_refl _, fun _ _ => rfl⟩
/-- A cell of the first box is written. -/
theorem Sep.set {w0 u : World} {l : List It} {b : Nat} {t : TypeId} {cs : List Value} (h : Sep w0 (.box b t cs :: l) u) (i : Nat) (v : Value) : Sep w0 (.box b t (cs.set i v) :: l) (u.setCell ⟨b, i, none⟩ v) :=
  Sep.turn (a := [.box b t cs]) (a' := [.box b t (cs.set i v)]) (F := fun k => k = b) h ((Foot.refl (fun k => k = b) u).set (p := ⟨b, i, none⟩) (.inl rfl) _) (fun k hk => .inl ⟨_, List.mem_singleton.2 rfl, by rw [hk]; rfl⟩)
    (by intro x hx; rw [List.mem_singleton.1 hx]; exact Whole.set h.head i v) (by simp [It.blk]) (by simp)
theorem Sep.row_below {w0 u : World} {l : List It} {B : Nat} {v : Value} {n : Nat} {xs : List Value} (h : Sep w0 l u) (hr : Row w0 B v n xs) (hB : B ≤ w0.heap.size) : Row u B v n xs := hr.below (h.below.mono hB)
theorem Sep.empty {w0 u : World} {l : List It} (h : Sep w0 l u) (base : Nat) (e : TypeId) (K : Nat) : Sep w0 (.row base e K (.slice none 0 0) 0 [] :: l) u :=
  Sep.add h (Below.refl _ _) (.row base e K (.slice none 0 0) 0 []) ⟨by simp, .inl ⟨rfl, rfl⟩⟩ (fun k hk => by cases hk)
theorem Sep.exch {w0 u : World} {x y : It} {l : List It} (h : Sep w0 (x :: y :: l) u) : Sep w0 (y :: x :: l) u := h.perm (List.Perm.swap _ _ _)
theorem own_form {w : World} {base : Nat} {e : TypeId} {size : Nat} {v : Value} {n : Nat} {xs : List Value} (h : w.ownsRow base e size v n xs) (hn : 0 < n) : ∃ gb cap, v = .slice (some ⟨gb, 0, none⟩) n cap ∧ base ≤ gb := by
  rcases h.2 with ⟨_, h0⟩ | ⟨gb, cap, cur, hv, hg, _⟩
  · omega
  · exact ⟨gb, cap, hv, hg⟩
end Go.Proofs.Ytpgejomhcojppaa
