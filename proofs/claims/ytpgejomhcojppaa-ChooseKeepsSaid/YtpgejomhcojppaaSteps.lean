/- Words for walks: what the first blocks of a call hold; what is returned. Nothing of the program stands here. -/
import Derived.Test.YtpgejomhcojppaaBlocks
import Derived.Test.YtpgejomhcojppaaWords
import Derived.Deep.RegionHeld3
namespace Go.Proofs.Ytpgejomhcojppaa
open Go.RowKit

theorem ret_bool {a b : Bool} (h : a = b) : Ending.returned (.bool a) = .returned (.bool b) := by rw [h]
theorem ret_int {k : IntKind} {a b : Int} (h : a = b) : Ending.returned (.int k a) = .returned (.int k b) := by rw [h]

theorem wh0_1 (w : World) (t : TypeId) (cs : List Value) : Whole (w.alloc (.cells cs.toArray t)) w.heap.size t cs := Whole.new w t cs
theorem wh0_2 (w : World) (t : TypeId) (cs : List Value) (o : Obj) : Whole ((w.alloc (.cells cs.toArray t)).alloc o) w.heap.size t cs := (Whole.new w t cs).alloc _
theorem wh1_2 (w : World) (o : Obj) (t : TypeId) (cs : List Value) : Whole ((w.alloc o).alloc (.cells cs.toArray t)) (w.heap.size + 1) t cs := by
  have := Whole.new (w.alloc o) t cs; rwa [World.size_alloc] at this
theorem wh0_3 (w : World) (t : TypeId) (cs : List Value) (o o' : Obj) : Whole (((w.alloc (.cells cs.toArray t)).alloc o).alloc o') w.heap.size t cs := (wh0_2 w t cs o).alloc _
theorem wh1_3 (w : World) (o : Obj) (t : TypeId) (cs : List Value) (o' : Obj) : Whole (((w.alloc o).alloc (.cells cs.toArray t)).alloc o') (w.heap.size + 1) t cs := (wh1_2 w o t cs).alloc _
theorem wh2_3 (w : World) (o o' : Obj) (t : TypeId) (cs : List Value) : Whole (((w.alloc o).alloc o').alloc (.cells cs.toArray t)) (w.heap.size + 2) t cs := by
  have := Whole.new ((w.alloc o).alloc o') t cs; rwa [World.size_alloc, World.size_alloc] at this
theorem wh3_4 (w : World) (o o' o'' : Obj) (t : TypeId) (cs : List Value) : Whole ((((w.alloc o).alloc o').alloc o'').alloc (.cells cs.toArray t)) (w.heap.size + 3) t cs := by
  have := Whole.new (((w.alloc o).alloc o').alloc o'') t cs; rwa [World.size_alloc, World.size_alloc, World.size_alloc] at this
theorem be1 (w : World) (o : Obj) : Below w.heap.size w (w.alloc o) := (Below.refl _ _).alloc (Nat.le_refl _) _
theorem be2 (w : World) (o o' : Obj) : Below w.heap.size w ((w.alloc o).alloc o') := (be1 w o).alloc (by simp) _
theorem be3 (w : World) (o o' o'' : Obj) : Below w.heap.size w (((w.alloc o).alloc o').alloc o'') := (be2 w o o').alloc (by simp; omega) _
theorem be4 (w : World) (o o' o'' o3 : Obj) : Below w.heap.size w ((((w.alloc o).alloc o').alloc o'').alloc o3) := (be3 w o o' o'').alloc (by simp; omega) _
theorem sz1 (w : World) (o : Obj) : (w.alloc o).heap.size = w.heap.size + 1 := World.size_alloc _ _
theorem sz2 (w : World) (o o' : Obj) : ((w.alloc o).alloc o').heap.size = w.heap.size + 2 := by rw [World.size_alloc, World.size_alloc]
theorem sz3 (w : World) (o o' o'' : Obj) : (((w.alloc o).alloc o').alloc o'').heap.size = w.heap.size + 3 := by rw [World.size_alloc, World.size_alloc, World.size_alloc]
theorem sz4 (w : World) (o o' o'' o3 : Obj) : ((((w.alloc o).alloc o').alloc o'').alloc o3).heap.size = w.heap.size + 4 := by rw [World.size_alloc, World.size_alloc, World.size_alloc, World.size_alloc]

/-- The (k+1)-th new block behind k others. -/
theorem wh_at (w : World) (k : Nat) (W : World) (t : TypeId) (cs : List Value) (h : W.heap.size = w.heap.size + k) : Whole (W.alloc (.cells cs.toArray t)) (w.heap.size + k) t cs := by
  rw [← h]; exact Whole.new W t cs

theorem size_set (w : World) (a : Addr) (u : Value) : (w.setCell a u).heap.size = w.heap.size := by simp [World.setCell]
/-- The same, of the first new block, behind stores. -/
theorem wh_at0 (w : World) (W : World) (t : TypeId) (cs : List Value) (h : W.heap.size = w.heap.size) : Whole (W.alloc (.cells cs.toArray t)) w.heap.size t cs := by
  rw [← h]; exact Whole.new W t cs

/-- The two cells, and that they may be written, of a block of two. -/
theorem Whole.two {w : World} {g : Nat} {t : TypeId} {a b : Value} (h : Whole w g t [a, b]) :
    (w.cell? ⟨g, 0, none⟩ = some a ∧ w.cell? ⟨g, 1, none⟩ = some b) ∧ (w.frozen? ⟨g, 0, none⟩ = false ∧ w.frozen? ⟨g, 1, none⟩ = false) :=
  ⟨⟨h.cell 0, h.cell 1⟩, h.free 0, h.free 1⟩
theorem Whole.one {w : World} {g : Nat} {t : TypeId} {a : Value} (h : Whole w g t [a]) : w.cell? ⟨g, 0, none⟩ = some a ∧ w.frozen? ⟨g, 0, none⟩ = false := ⟨h.cell 0, h.free 0⟩
theorem Whole.three {w : World} {g : Nat} {t : TypeId} {a b c : Value} (h : Whole w g t [a, b, c]) :
    (w.cell? ⟨g, 0, none⟩ = some a ∧ w.cell? ⟨g, 1, none⟩ = some b ∧ w.cell? ⟨g, 2, none⟩ = some c) ∧ (w.frozen? ⟨g, 0, none⟩ = false ∧ w.frozen? ⟨g, 1, none⟩ = false ∧ w.frozen? ⟨g, 2, none⟩ = false) :=
  ⟨⟨h.cell 0, h.cell 1, h.cell 2⟩, h.free 0, h.free 1, h.free 2⟩
/-- A row stays while a block from B on is written. -/
theorem Row.far {w : World} {B : Nat} {v : Value} {n : Nat} {xs : List Value} (h : Row w B v n xs) {p : Addr} (hp : B ≤ p.block) (u : Value) : Row (w.setCell p u) B v n xs :=
  h.keep fun b o hb => ((Below.refl B w).setCell (p := p) hp u).cell (p := ⟨b, o, none⟩) hb
/-- The j-th cell of the k-th element of a row of elements of K cells. -/
theorem flat_at {α : Type} {f : α → List Value} {K : Nat} (hf : ∀ a, (f a).length = K) : ∀ (l : List α) (k j : Nat) (a : α), l[k]? = some a → j < K → (l.flatMap f)[k * K + j]? = (f a)[j]?
  | [], k, j, a, h, _ => by simp at h
  | b :: l, 0, j, a, h, hj => by
    simp only [List.getElem?_cons_zero, Option.some.injEq] at h
    subst h
    rw [List.flatMap_cons, Nat.zero_mul, Nat.zero_add, List.getElem?_append_left (by rw [hf]; exact hj)]
  | b :: l, k + 1, j, a, h, hj => by
    rw [List.getElem?_cons_succ] at h
    rw [List.flatMap_cons, List.getElem?_append_right (by rw [hf, Nat.succ_mul]; omega), hf, show (k + 1) * K + j - K = k * K + j by rw [Nat.succ_mul]; omega]
    exact flat_at hf l k j a h hj
theorem flat_len {α : Type} {f : α → List Value} {K : Nat} (hf : ∀ a, (f a).length = K) (l : List α) : (l.flatMap f).length = l.length * K := by
  induction l with
  | nil => simp
  | cons a l ih => rw [List.flatMap_cons, List.length_append, hf, ih, List.length_cons, Nat.succ_mul]; omega
/-- Where the k-th element of a row lies, and its cells. -/
theorem Row.elem {α : Type} {f : α → List Value} {K : Nat} (hf : ∀ a, (f a).length = K) (hK : 0 < K) {w : World} {B : Nat} {A : Option Addr} {n c : Nat} {l : List α} (h : Row w B (.slice A n c) l.length (l.flatMap f)) {k : Nat} (hk : k < l.length) :
    ∃ b off, A = some ⟨b, off, none⟩ ∧ b < B ∧ ∀ j x, (f l[k])[j]? = some x → w.cell? ⟨b, off + (k * K + j), none⟩ = some x := by
  obtain ⟨A', c', hv, _, _, hx⟩ := h
  injection hv with hA
  subst hA
  have hlen : (l.flatMap f).length = l.length * K := flat_len hf l
  have h1 : 0 < l.length * K := Nat.mul_pos (by omega) hK
  obtain ⟨b, off, hA, hb, hc⟩ := hx (by intro e; rw [e] at hlen; simp at hlen; omega)
  refine ⟨b, off, hA, hb, fun j x hj => hc _ _ ?_⟩
  have hjK : j < K := by obtain ⟨hlt, _⟩ := List.getElem?_eq_some_iff.1 hj; rwa [hf] at hlt
  rw [flat_at hf l k j l[k] (List.getElem?_eq_getElem hk) hjK]
  exact hj
theorem Row.bound {w : World} {B : Nat} {v : Value} {n : Nat} {xs : List Value} (h : Row w B v n xs) : n ≤ 9223372036854775807 := by
  obtain ⟨A, c, _, h1, h2, _⟩ := h
  unfold maxLen at h2
  omega
/-- Blocks that are known whole. -/
def Known (w : World) (l : List (Nat × TypeId × List Value)) : Prop := ∀ x ∈ l, Whole w x.1 x.2.1 x.2.2
theorem Known.nil (w : World) : Known w [] := fun _ h => by cases h
theorem Known.add {w : World} {b : Nat} {t : TypeId} {cs : List Value} {l : List (Nat × TypeId × List Value)} (h : Whole w b t cs) (k : Known w l) : Known w ((b, t, cs) :: l) := by
  intro x hx
  rcases List.mem_cons.1 hx with rfl | hx
  · exact h
  · exact k x hx
theorem Known.head {w : World} {b : Nat} {t : TypeId} {cs : List Value} {l : List (Nat × TypeId × List Value)} (k : Known w ((b, t, cs) :: l)) : Whole w b t cs := k _ (List.mem_cons_self ..)
theorem Known.tail {w : World} {x : Nat × TypeId × List Value} {l : List (Nat × TypeId × List Value)} (k : Known w (x :: l)) : Known w l := fun y hy => k y (List.mem_cons_of_mem _ hy)
theorem Known.below {w u : World} {l : List (Nat × TypeId × List Value)} (k : Known w l) (hb : Below w.heap.size w u) : Known u l := fun x hx => (k x hx).below hb (k x hx).lt
theorem Known.alloc {w : World} {l : List (Nat × TypeId × List Value)} (k : Known w l) (o : Obj) : Known (w.alloc o) l := fun x hx => (k x hx).alloc o
theorem Known.drew {w : World} {l : List (Nat × TypeId × List Value)} (k : Known w l) : Known w.drew l := fun x hx => (k x hx).drew
/-- What is known, and that below B all is as it was: behind a draw, a new block, a call. -/
theorem kdrew {B : Nat} {a c : World} {l : List (Nat × TypeId × List Value)} (h : Hid (Known c l ∧ Below B a c)) : Hid (Known c.drew l ∧ Below B a c.drew) := ⟨h.out.1.drew, h.out.2.drew⟩
theorem kalloc {B : Nat} {a c : World} {l : List (Nat × TypeId × List Value)} (hB : B ≤ a.heap.size) (h : Hid (Known c l ∧ Below B a c)) (o : Obj) : Hid (Known (c.alloc o) l ∧ Below B a (c.alloc o)) := ⟨h.out.1.alloc o, h.out.2.alloc (Nat.le_trans hB h.out.2.size) o⟩
theorem kcall {B : Nat} {a c u : World} {l : List (Nat × TypeId × List Value)} (hB : B ≤ a.heap.size) (h : Hid (Known c l ∧ Below B a c)) (hb : Below c.heap.size c u) : Hid (Known u l ∧ Below B a u) := ⟨h.out.1.below hb, h.out.2.trans (hb.mono (Nat.le_trans hB h.out.2.size))⟩
/-- One operation of a region that draws is taken first; the place of its value is told. -/
theorem handTake {P : Program} {md : Region.Mode} {ops : Array Oper} {Q : Exit → Act → World → Prop} {S : World → Prop} {fuel : Nat} {listed : Array Bool} {a : Act} {w : World} (i : Nat) (d : Option Tmp) (v : Value) {oi : Oper} (hi : ops[i]? = some oi) (hd : oi.dst = d)
    (hs : Region.noSelect ops = true) (hf : Region.free md ops listed i = true) (hr : (Region.ready md ops listed).contains i = true)
    (hQ : ∀ c a w, Q (.panic c) (a.put d v) w → Q (.panic c) a w) (hw : Region.wanted oi (yielded ops a.tmps) = true) (hx : ∀ w, S w → (execOp a.eval oi).run P w = .ok (.value v) w) (hS : S w)
    (h : wpAnyH P md ops Q S fuel (listed.setIfInBounds i true) (a.put d v) w) : wpAnyH P md ops Q S (fuel + 1) listed a w := by
  subst hd
  exact wpAnyH_take hi hs hf hr hQ (Or.inl ⟨hw, hx⟩) hS h
/-- One whose guard says no is passed over. -/
theorem handSkip {P : Program} {md : Region.Mode} {ops : Array Oper} {Q : Exit → Act → World → Prop} {S : World → Prop} {fuel : Nat} {listed : Array Bool} {a : Act} {w : World} (i : Nat) (d : Option Tmp) {oi : Oper} (hi : ops[i]? = some oi) (hd : oi.dst = d)
    (hs : Region.noSelect ops = true) (hf : Region.free md ops listed i = true) (hr : (Region.ready md ops listed).contains i = true)
    (hQ : ∀ c a w, Q (.panic c) (a.put d undef) w → Q (.panic c) a w) (hw : Region.wanted oi (yielded ops a.tmps) = false) (hS : S w)
    (h : wpAnyH P md ops Q S fuel (listed.setIfInBounds i true) (a.put d undef) w) : wpAnyH P md ops Q S (fuel + 1) listed a w := by
  subst hd
  exact wpAnyH_take hi hs hf hr hQ (Or.inr ⟨hw, rfl⟩) hS h
end Go.Proofs.Ytpgejomhcojppaa
