/- A part of a block that is known whole: it is read, and written, at once. -/
import Derived.Test.YtpgejomhcojppaaBlocks
import Derived.Deep.MidRow
import Derived.OrdersHeld
import Derived.Laws.StructEq
import Derived.WalkKit
namespace Go.Proofs.Ytpgejomhcojppaa
open Go.RowKit

/-- The cells with others put in from a place on. -/
def midSets (cs : List Value) : Nat → List Value → List Value
  | _, [] => cs
  | o, v :: r => midSets (cs.set o v) (o + 1) r

theorem Whole.mids {g : Nat} {t : TypeId} : ∀ (vs : List Value) (o : Nat) {w : World} {cs : List Value}, Whole w g t cs → Whole (w.setCells g o vs) g t (midSets cs o vs)
  | [], _, _, _, h => h
  | v :: r, o, _, _, h => Whole.mids r (o + 1) (h.set o v)
theorem Only.mids {g : Nat} {a : World} : ∀ (vs : List Value) (o : Nat) {w : World}, Only g a w → Only g a (w.setCells g o vs)
  | [], _, _, h => h
  | v :: r, o, _, h => Only.mids r (o + 1) (h.set o v)
theorem Whole.there {w : World} {g : Nat} {t : TypeId} {cs : List Value} (h : Whole w g t cs) (o n : Nat) (hn : o + n ≤ cs.length) : w.there g o n := fun j hj => by
  refine ⟨?_, h.free _⟩
  rw [h.cell, List.getElem?_eq_getElem (by omega)]; rfl
theorem Whole.range {w : World} {g : Nat} {t : TypeId} {cs : List Value} (h : Whole w g t cs) (o : Nat) (vs : List Value) (hv : ∀ j v, vs[j]? = some v → cs[o + j]? = some v) : w.rangeAt g o vs :=
  fun j v hj => (h.cell _).trans (hv j v hj)

/-- A store into a part of a whole block. -/
theorem wpList_store_part {P : Program} {ops : Array Oper} {rest : List Oper} {op : Oper} {a : Act} {w : World} {Q : Exit → Act → World → Prop} (hgd : op.guard = none) (ty : TypeId) (x y : Operand) (ho : op.op = .store ty x y)
    (g o : Nat) (t : TypeId) (cs : List Value) (vs : List Value) (hx : a.eval x = .pointer (some ⟨g, o, none⟩)) (hy : a.eval y = .agg vs.toArray) (h : Whole w g t cs) (hn : o + vs.length ≤ cs.length)
    (hi : (P.info? ty).map (·.size) = some vs.length) (h1 : vs.toArray.all (·.oneCell') = true)
    (hk : ∀ w', Whole w' g t (midSets cs o vs) → Only g w w' → wpList P ops Q rest (a.put op.dst undef) w') : wpList P ops Q (op :: rest) a w :=
  wpList_store_mid hgd ty x y ho g o vs.toArray hx hy (by simpa using h.there o vs.length hn) (by simpa using hi) h1
    (hk _ (by simpa using h.mids vs o) (by simpa using (Only.refl g w).mids vs o))

/-- A load of a part of a whole block, at a guard that says yes. -/
theorem wpList_load_part {P : Program} {ops : Array Oper} {rest : List Oper} {op : Oper} {a : Act} {w : World} {Q : Exit → Act → World → Prop} (hgd : op.guard = none) (ty : TypeId) (x : Operand) (ho : op.op = .load ty x)
    (g o : Nat) (t : TypeId) (cs : List Value) (vs : List Value) (d : TypeDesc) (hx : a.eval x = .pointer (some ⟨g, o, none⟩)) (h : Whole w g t cs) (hv : ∀ j v, vs[j]? = some v → cs[o + j]? = some v)
    (hu : P.underlying ty = some d) (hd : d.isRow = true) (hi : (P.info? ty).map (·.size) = some vs.length)
    (hk : wpList P ops Q rest (a.put op.dst (.agg vs.toArray)) w) : wpList P ops Q (op :: rest) a w :=
  wpList_load_mid hgd ty x ho g o hx vs d (h.range o vs hv) hu hd hi hk

/-- One operation of a region that draws is taken first; the place of its value is told. -/
theorem heldTake {P : Program} {md : Region.Mode} {ops : Array Oper} {Q : Exit → Act → World → Prop} {S : World → Prop} {fuel : Nat} {listed : Array Bool} {a : Act} {w : World} (i : Nat) (d : Option Tmp) (v : Value) {oi : Oper} (hi : ops[i]? = some oi) (hd : oi.dst = d)
    (hs : Region.noSelect ops = true) (hf : Region.free md ops listed i = true) (hr : (Region.ready md ops listed).contains i = true)
    (hQ : ∀ c a w, Q (.panic c) (a.put d v) w → Q (.panic c) a w) (hw : Region.wanted oi (yielded ops a.tmps) = true) (hx : ∀ w, S w → (execOp a.eval oi).run P w = .ok (.value v) w) (hS : S w)
    (h : wpAnyH P md ops Q S fuel (listed.setIfInBounds i true) (a.put d v) w) : wpAnyH P md ops Q S (fuel + 1) listed a w := by
  subst hd
  exact wpAnyH_take hi hs hf hr hQ (Or.inl ⟨hw, hx⟩) hS h

/-- A load of a whole block, as one operation. -/
theorem exec_load {P : Program} {a : Act} {o : Oper} {w : World} (ty : TypeId) (x : Operand) (ho : o.op = .load ty x) (g : Nat) (t : TypeId) (cs : List Value) (d : TypeDesc) (hx : a.eval x = .pointer (some ⟨g, 0, none⟩)) (h : Whole w g t cs)
    (hu : P.underlying ty = some d) (hd : d.isRow = true) (hi : (P.info? ty).map (·.size) = some cs.length) : (execOp a.eval o).run P w = .ok (.value (.agg cs.toArray)) w := by
  have hr := h.range 0 cs (fun j v hj => (congrArg (cs[·]?) (Nat.zero_add j)).trans hj)
  unfold execOp
  simp only [ho, hx, Instr.loadAt, Instr.sureAddr, Sem.run_bind, Sem.run_pure, Result.andThen_ok, run_loadVar_mid w g 0 ty cs d hr hu hd hi]

/-- '==' on whole values that are alike. -/
theorem exec_eql {P : Program} {a : Act} {o : Oper} {w : World} (t : TypeId) (x y : Operand) (rt : TypeId) (ho : o.op = .binOp .eql t x y rt) (xs : Array Value) (hx : a.eval x = .agg xs) (hy : a.eval y = .agg xs)
    (hm : P.eqGuardType P.depth t = false) (h : (Op.equalIn 10000 t (.agg xs) (.agg xs)).run P w = .ok true w) : (execOp a.eval o).run P w = .ok (.value (.bool true)) w := by
  unfold execOp
  simp only [ho, hx, hy]
  simp [go_sem, hm, h]

end Go.Proofs.Ytpgejomhcojppaa
