/- Rows of a call's own: an element is written, the end is cut off, cleared. Nothing of the program stands here. -/
import Derived.Test.YtpgejomhcojppaaFoot
import Derived.Test.YtpgejomhcojppaaMids
import Derived.Laws.OwnMore
import Derived.Laws.IdiomCopy
import Derived.Tactics
namespace Go.Proofs.Ytpgejomhcojppaa
open Go.RowKit

theorem midSets_len : ∀ (vs : List Value) (cs : List Value) (o : Nat), (midSets cs o vs).length = cs.length
  | [], _, _ => rfl
  | v :: r, cs, o => by rw [midSets, midSets_len r]; simp
theorem midSets_past : ∀ (vs : List Value) (cs : List Value) (o : Nat), cs.length ≤ o → midSets cs o vs = cs
  | [], _, _, _ => rfl
  | v :: r, cs, o, h => by rw [midSets, midSets_past r _ _ (by simp; omega), List.set_eq_of_length_le h]
theorem midSets_append_right : ∀ (vs : List Value) (ds cs : List Value) (o : Nat), midSets (ds ++ cs) (ds.length + o) vs = ds ++ midSets cs o vs
  | [], _, _, _ => rfl
  | v :: r, ds, cs, o => by
    rw [midSets, List.set_append_right _ _ (by omega), show ds.length + o - ds.length = o by omega, Nat.add_assoc, midSets_append_right r]
    rfl
theorem midSets_whole : ∀ (vs cs ds : List Value), cs.length = vs.length → midSets (cs ++ ds) 0 vs = vs ++ ds
  | [], [], ds, _ => rfl
  | v :: r, c :: cs, ds, h => by
    have h' : cs.length = r.length := by simpa using h
    show midSets (v :: (cs ++ ds)) 1 r = _
    have := midSets_append_right r [v] (cs ++ ds) 0
    rw [List.length_singleton, Nat.add_zero] at this
    rw [show v :: (cs ++ ds) = [v] ++ (cs ++ ds) from rfl, this, midSets_whole r cs ds h']
    rfl
/-- The k-th element is written. -/
theorem flat_mids {α : Type} {f : α → List Value} {K : Nat} (hf : ∀ a, (f a).length = K) : ∀ (l : List α) (k : Nat) (a : α), k < l.length → midSets (l.flatMap f) (k * K) (f a) = (l.set k a).flatMap f
  | [], k, a, h => by simp at h
  | b :: l, 0, a, _ => by
    rw [List.flatMap_cons, Nat.zero_mul, midSets_whole _ _ _ (by rw [hf, hf]), List.set_cons_zero, List.flatMap_cons]
  | b :: l, k + 1, a, h => by
    have := midSets_append_right (f a) (f b) (l.flatMap f) (k * K)
    rw [hf] at this
    rw [List.flatMap_cons, show (k + 1) * K = K + k * K by rw [Nat.succ_mul]; omega, this, flat_mids hf l k a (by simpa using h), List.set_cons_succ, List.flatMap_cons]

section
variable {w : World} {base : Nat} {e : TypeId} {size g n cap : Nat} {xs : List Value}
theorem own_mids : ∀ (vs : List Value) (o : Nat) {w : World} {xs : List Value}, w.ownsRow base e size (.slice (some ⟨g, 0, none⟩) n cap) n xs → (w.setCells g o vs).ownsRow base e size (.slice (some ⟨g, 0, none⟩) n cap) n (midSets xs o vs)
  | [], _, _, _, h => h
  | v :: r, o, _, _, h => own_mids r (o + 1) (h.stored o v).1
theorem foot_mids {F : Nat → Prop} {a : World} (hF : F g) : ∀ (vs : List Value) (o : Nat) {w : World}, Foot F a w → Foot F a (w.setCells g o vs)
  | [], _, _, h => h
  | v :: r, o, _, h => foot_mids hF r (o + 1) (h.set (p := ⟨g, o, none⟩) (.inl hF) v)
/-- The first m elements. -/
theorem own_cut (h : w.ownsRow base e size (.slice (some ⟨g, 0, none⟩) n cap) n xs) {m : Nat} (hm : m ≤ n) : w.ownsRow base e size (.slice (some ⟨g, 0, none⟩) m cap) m (xs.take (m * size)) := by
  have hle : m * size ≤ n * size := Nat.mul_le_mul_right _ hm
  refine ⟨by rw [List.length_take, h.1]; omega, .inr ?_⟩
  rcases h.2 with ⟨h', _⟩ | ⟨g', cap', cur, h', hb, hg, hnc, hcm, hcs, htake⟩
  · simp at h'
  · simp only [Value.slice.injEq, Option.some.injEq, Addr.mk.injEq, and_true, true_and] at h'
    obtain ⟨rfl, rfl⟩ := h'
    refine ⟨g, cap, cur, rfl, hb, hg, Nat.le_trans hm hnc, hcm, hcs, ?_⟩
    rw [← htake, List.take_take, Nat.min_eq_left hle]
theorem own_there (h : w.ownsRow base e size (.slice (some ⟨g, 0, none⟩) n cap) n xs) (o m : Nat) (hm : o + m ≤ n * size) : w.there g o m := fun j hj => by
  refine ⟨?_, h.frozenAt _⟩
  rw [h.cellAt _ (by omega), List.getElem?_eq_getElem (by rw [h.1]; omega)]
  rfl
end

theorem flat_take {α : Type} {f : α → List Value} {K : Nat} (hf : ∀ a, (f a).length = K) : ∀ (l : List α) (k : Nat), (l.flatMap f).take (k * K) = (l.take k).flatMap f
  | [], k => by simp
  | b :: l, 0 => by simp
  | b :: l, k + 1 => by
    rw [List.flatMap_cons, List.take_succ_cons, List.flatMap_cons, Nat.succ_mul, Nat.add_comm, ← hf b, List.take_length_add_append, hf b, flat_take hf l k]

/-- 'clear' of a slice of n > 0 elements of K cells: its cells hold zeros; nothing else turns. -/
theorem run_clear_rows {P : Program} (w : World) (t e ty : TypeId) (zs : Array Value) (K : Nat) (ht : P.underlying t = some (.slice e)) (hv : ∀ w, (zeroValue e).run P w = .ok (.agg zs) w) (hK : zs.size = K) (h1 : ∀ v ∈ zs.toList, v.oneCell' = true) (h0 : 0 < K) (b o n c : Nat) (hn : 0 < n)
    (hc : w.there b o (n * K)) : ∃ vs : List Value, vs.length = n * K ∧ (Builtin.clear_ #[t] ty #[.slice (some ⟨b, o, none⟩) n c]).run P w = .ok (.tuple #[]) (w.setCells b o vs) := by
  refine ⟨(Builtin.zeroCells zs n).toList, by simp [Builtin.zeroCells, hK], ?_⟩
  have hl : (Builtin.zeroCells zs n).toList.length = n * K := by simp [Builtin.zeroCells, hK]
  have hst := run_storeCells_cells (P := P) b o (Builtin.zeroCells zs n).toList 0 w (fun j hj => by simpa using (hc j (by rw [hl] at hj; exact hj)).1) (fun j hj => by simpa using (hc j (by rw [hl] at hj; exact hj)).2)
    (fun v hv' => by
      simp only [Builtin.zeroCells, Array.toList_map, List.mem_map] at hv'
      obtain ⟨i, _, rfl⟩ := hv'
      have hlt : i % zs.size < zs.size := Nat.mod_lt _ (by omega)
      rw [getElem!_pos zs (i % zs.size) hlt]
      exact h1 _ (Array.getElem_mem_toList _))
  simp only [Nat.add_zero] at hst
  obtain ⟨m, rfl⟩ : ∃ m, n = m + 1 := ⟨n - 1, by omega⟩
  simp [Builtin.clear_, run_underlying ht, hv, Value.cells, hst]
end Go.Proofs.Ytpgejomhcojppaa
