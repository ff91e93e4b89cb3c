/- A map from integers to sets, known whole as a plain function. -/
import Derived.Test.YtmpcjiacgbcpdaaRows
import Derived.Test.YtmpcjiacgbcpdaaSteps
import Derived.Maps.OwnSet
import Derived.Maps.OwnOps
import Derived.Maps.Ext
import Derived.Maps.RangeWalk
namespace Go.Proofs.Ytmpcjiacgbcpdaa
open Go.RowKit Go.Maps

namespace Ta

theorem keyed : Keyed Try.prog 3 := int_keyed Try.underlying3
def inI (i : Int) : Prop := -9223372036854775808 ≤ i ∧ i ≤ 9223372036854775807
theorem wf_int {i : Int} (h : inI i) : (Lit.int .i64 i).wf = true := by
  simp only [Lit.wf, Bool.and_eq_true, decide_eq_true_eq]
  exact ⟨h.1, h.2⟩
theorem key_of {i : Int} (h : inI i) : keyOf Try.prog 3 (.int .i64 i) = some (.int .i64 i) := keyOf_int_mk Try.underlying3 (wf_int h)
theorem zero_set (w : World) : (zeroValue 45).run Try.prog w = .ok (.int .u8 0) w := by kernel_rfl
theorem wf_u8 {x : Nat} (h : x < 256) : (Lit.int .u8 (x : Int)).wf = true := by
  simp only [Lit.wf, Bool.and_eq_true, decide_eq_true_eq]
  exact ⟨Int.natCast_nonneg _, by show (x : Int) ≤ 255; omega⟩

/-- Block b is a map that holds, at each i, what M says; it has sz entries. -/
def MapAt (w : World) (b : Nat) (M : Int → Option Nat) (sz : Nat) : Prop :=
  ∃ D : DataW Unit, w.ownsMap Try.prog 3 (plainElem Try.prog 45) b sz D ∧ Maps.Tidy D ∧ Maps.size D = sz ∧
    ∀ i, inI i → (∀ x, M i = some x → x < 256 ∧ Maps.has D (.int .i64 i) = true ∧ ∀ z, D.atKey (.int .i64 i) z = .lit (.int .u8 (x : Int))) ∧ (M i = none → Maps.has D (.int .i64 i) = false)

/-- The bound is the size. -/
theorem own_tight {w : World} {b n : Nat} {D : DataW Unit} (h : w.ownsMap Try.prog 3 (plainElem Try.prog 45) b n D) : w.ownsMap Try.prog 3 (plainElem Try.prog 45) b (Maps.size D) D := by
  obtain ⟨es, clock, hb, F, hs, hD⟩ := h
  refine ⟨es, clock, hb, F, ?_, hD⟩
  rw [hD]
  show es.size ≤ List.length _
  rw [length_sorted]
  simp

theorem MapAt.made (w : World) : MapAt (w.alloc (.map #[] 0)) w.heap.size (fun _ => none) 0 :=
  ⟨.map [], World.ownsMap_made w _ _ _, tidy_empty, rfl, fun i _ => ⟨fun x h => (by cases h), fun _ => rfl⟩⟩
theorem MapAt.lt {w : World} {b : Nat} {M : Int → Option Nat} {sz : Nat} (h : MapAt w b M sz) : b < w.heap.size := by
  obtain ⟨D, ho, _⟩ := h; exact ho.lt
theorem MapAt.kept {w w' : World} {b : Nat} {M : Int → Option Nat} {sz : Nat} {row : Option Nat} (h : MapAt w b M sz) (hg : w.grownBy w' row) (hne : some b ≠ row) : MapAt w' b M sz := by
  obtain ⟨D, ho, h⟩ := h; exact ⟨D, ho.kept hg hne, h⟩
theorem MapAt.below {w w' : World} {b B : Nat} {M : Int → Option Nat} {sz : Nat} (h : MapAt w b M sz) (hb : Below B w w') (hB : b < B) : MapAt w' b M sz := by
  obtain ⟨D, ⟨es, clock, he, r⟩, h⟩ := h
  exact ⟨D, ⟨es, clock, (hb.block b hB).trans he, r⟩, h⟩
theorem MapAt.alloc {w : World} {b : Nat} {M : Int → Option Nat} {sz : Nat} (h : MapAt w b M sz) (o : Obj) : MapAt (w.alloc o) b M sz := by
  obtain ⟨D, ho, h⟩ := h; exact ⟨D, ho.alloc o, h⟩
theorem MapAt.drew {w : World} {b : Nat} {M : Int → Option Nat} {sz : Nat} (h : MapAt w b M sz) : MapAt w.drew b M sz := h
theorem MapAt.far {w : World} {b : Nat} {M : Int → Option Nat} {sz : Nat} (h : MapAt w b M sz) {p : Addr} (hp : b ≠ p.block) (u : Value) : MapAt (w.setCell p u) b M sz := by
  obtain ⟨D, ⟨es, clock, he, r⟩, h⟩ := h
  exact ⟨D, ⟨es, clock, (Below.heap_setCell w p u b hp).trans he, r⟩, h⟩

theorem MapAt.look {w : World} {b : Nat} {M : Int → Option Nat} {sz : Nat} (h : MapAt w b M sz) {i : Int} (hi : inI i) :
    (Instr.lookup 23 (.map (some b)) (.int .i64 i) false).run Try.prog w = .ok (.int .u8 ((M i).getD 0 : Nat)) w := by
  obtain ⟨D, ho, _, _, hM⟩ := h
  obtain ⟨c, hrun, hat, _⟩ := ho.lookup_int keyed Try.underlying23 Try.underlying45 (zero_set w) (key_of hi)
  rw [hrun]
  obtain ⟨h1, h2⟩ := hM i hi
  cases hm : M i with
  | none =>
    rw [atKey_of_not_has (h2 hm)] at hat
    injection hat with hat; injection hat with _ hat
    rw [← hat]; rfl
  | some x =>
    rw [(h1 x hm).2.2] at hat
    injection hat with hat; injection hat with _ hat
    rw [← hat]; rfl

theorem MapAt.lookOk {w : World} {b : Nat} {M : Int → Option Nat} {sz : Nat} (h : MapAt w b M sz) {i : Int} (hi : inI i) :
    (Instr.lookup 23 (.map (some b)) (.int .i64 i) true).run Try.prog w = .ok (.tuple #[.int .u8 ((M i).getD 0 : Nat), .bool (M i).isSome]) w := by
  obtain ⟨D, ho, _, _, hM⟩ := h
  obtain ⟨v, ps, hrun, hv⟩ := ho.look_ok keyed Try.underlying23 (zero_set w) (plainElem_int Try.underlying45 (wf_u8 (x := 0) (by omega))) (key_of hi)
  obtain ⟨c, rfl, hc, _⟩ := plainElem_int_inv Try.underlying45 hv
  rw [hrun]
  obtain ⟨h1, h2⟩ := hM i hi
  simp only [Prod.mk.injEq] at hc
  cases hm : M i with
  | none =>
    rw [atKey_of_not_has (h2 hm)] at hc
    have hat := hc.1
    injection hat with hat; injection hat with _ hat
    rw [h2 hm, ← hat]; rfl
  | some x =>
    rw [(h1 x hm).2.2] at hc
    have hat := hc.1
    injection hat with hat; injection hat with _ hat
    rw [(h1 x hm).2.1, ← hat]; rfl

theorem MapAt.len {w : World} {b : Nat} {M : Int → Option Nat} {sz : Nat} (h : MapAt w b M sz) (ty : TypeId) : (Builtin.len_ #[23] ty #[.map (some b)]).run Try.prog w = .ok (.int .i64 (sz : Nat)) w := by
  obtain ⟨D, ho, _, hs, _⟩ := h
  rw [ho.len Try.underlying23, hs]

/-- A set put at i. -/
def putM (M : Int → Option Nat) (i : Int) (x : Nat) : Int → Option Nat := fun j => if j = i then some x else M j
theorem lit_ne {i j : Int} (h : j ≠ i) : (Lit.int .i64 j) ≠ .int .i64 i := fun e => h (by injection e)
theorem MapAt.put {w : World} {b : Nat} {M : Int → Option Nat} {sz : Nat} (h : MapAt w b M sz) {i : Int} (hi : inI i) {x : Nat} (hx : x < 256) (hsz : sz < maxLen) :
    ∃ w', (Instr.mapUpdate 23 (.map (some b)) (.int .i64 i) (.int .u8 (x : Int))).run Try.prog w = .ok () w' ∧ MapAt w' b (putM M i x) (if (M i).isSome then sz else sz + 1) ∧ w.grownBy w' (some b) := by
  obtain ⟨D, ho, ht, hs, hM⟩ := h
  obtain ⟨w', hrun, ho', hg⟩ := ho.update keyed Try.underlying23 hsz (key_of hi) (plainElem_int Try.underlying45 (wf_u8 hx))
  have hk : WideAt.IsKeyLit (Lit.int .i64 i) := trivial
  have hsz' : Maps.size (D.put (.int .i64 i) (.lit (.int .u8 (x : Int)))) = if (M i).isSome then sz else sz + 1 := by
    rw [size_put ht, hs]
    cases hm : M i with
    | none => rw [(hM i hi).2 hm]; rfl
    | some y => rw [((hM i hi).1 y hm).2.1]; rfl
  refine ⟨w', hrun, ⟨_, by rw [← hsz']; exact own_tight ho', ht.put hk _, hsz', fun j hj => ?_⟩, hg⟩
  unfold putM
  by_cases e : j = i
  · subst e
    rw [if_pos rfl]
    refine ⟨fun y hy => ?_, fun hn => by cases hn⟩
    injection hy with hy; subst hy
    exact ⟨hx, has_put_same ht.isMap hk _, fun z => atKey_put_same ht.isMap hk _ z⟩
  · rw [if_neg e]
    refine ⟨fun y hy => ?_, fun hn => ?_⟩
    · obtain ⟨a, b, c⟩ := (hM j hj).1 y hy
      exact ⟨a, by rw [has_put_other (lit_ne e)]; exact b, fun z => by rw [atKey_put_other (lit_ne e)]; exact c z⟩
    · rw [has_put_other (lit_ne e)]; exact (hM j hj).2 hn

end Ta
end Go.Proofs.Ytmpcjiacgbcpdaa
