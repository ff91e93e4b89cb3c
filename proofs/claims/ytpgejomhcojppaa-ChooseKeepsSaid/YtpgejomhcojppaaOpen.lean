/- How an argument that is a slice reads, as a row of cells: for the row's step of a law. Nothing of the program stands here. -/
import Derived.Test.YtpgejomhcojppaaWords
import Derived.ProofKit
import Derived.Deep.Slices
import Derived.OpenShut
namespace Go.Proofs.Ytpgejomhcojppaa
open Go.RowKit Go.ChangeShapes Go.WideShapes Go.Deep

theorem list_choose {α β : Type} {f : α → β} {ok : α → Prop} : ∀ {l : List β}, (∀ x ∈ l, ∃ a, ok a ∧ x = f a) → ∃ as : List α, l = as.map f ∧ ∀ a ∈ as, ok a
  | [], _ => ⟨[], rfl, by simp⟩
  | x :: l, h => by
    obtain ⟨a, ha, rfl⟩ := h x (by simp)
    obtain ⟨as, rfl, hok⟩ := list_choose (l := l) (f := f) (ok := ok) fun y hy => h y (by simp [hy])
    exact ⟨a :: as, rfl, by simpa using ⟨ha, hok⟩⟩

theorem flat_get {α : Type} {f : α → List Value} {K : Nat} (hK : 0 < K) (hf : ∀ a, (f a).length = K) : ∀ (as : List α) (j : Nat) (x : Value), (as.flatMap f)[j]? = some x →
    ∃ a, as[j / K]? = some a ∧ (f a)[j % K]? = some x
  | [], j, x, h => by simp at h
  | a :: as, j, x, h => by
    simp only [List.flatMap_cons] at h
    by_cases hj : j < K
    · rw [List.getElem?_append_left (by rw [hf]; exact hj)] at h
      exact ⟨a, by rw [Nat.div_eq_of_lt hj]; rfl, by rw [Nat.mod_eq_of_lt hj]; exact h⟩
    · rw [List.getElem?_append_right (by rw [hf]; omega), hf] at h
      obtain ⟨b, hb, hx⟩ := flat_get hK hf as (j - K) x h
      have e : j = (j - K) + K := by omega
      refine ⟨b, ?_, ?_⟩
      · rw [e, Nat.add_div_right _ hK]; simpa using hb
      · rw [e, Nat.add_mod_right]; exact hx

section
variable {H : Type} {enc : TypeId × Value → H} {P : Program} {w : World} {spare : Nat → Bool} {held : Bool}

/-- A slice that came in, whose elements read as values of α laid out by f: it is a row of these. -/
theorem open_row_of {α : Type} {f : α → List Value} {ok : α → Prop} {K : Nat} {t e : TypeId} {v : Value} {d : DataW H} {ps : List MemPlace} {A : Option Addr} {l c : Nat}
    (ht : P.underlying t = some (.slice e)) (hC : P.cellsOf e = K) (hK : 0 < K) (hf : ∀ a, (f a).length = K)
    (helt : ∀ (n : Nat) (cs : List Value) (y : DataW H × List MemPlace), cs.length = K → DataW.trod enc P w 0 spare held n e cs = some y → ∃ a, ok a ∧ cs = f a)
    (hv : v = .slice A l c) (h : DataW.Trod enc P w 0 spare held t v d ps) :
    ∃ as : List α, (∀ a ∈ as, ok a) ∧ Row w w.heap.size v as.length (as.flatMap f) := by
  subst hv
  obtain ⟨fuel, hf'⟩ := h
  rcases open_slice ht hf' with ⟨hcs, _⟩ | ⟨a, len, cap, m, n, D, Pl, hcs, _, hl, hm, hmm, _, hi⟩
  · simp [Value.cells] at hcs
    obtain ⟨rfl, rfl, rfl⟩ := hcs
    exact ⟨[], by simp, Row.nil _ _⟩
  · simp [Value.cells] at hcs
    obtain ⟨rfl, rfl, rfl⟩ := hcs
    have hlm : l ≤ m := by rw [hmm]; split <;> omega
    rw [hC] at hi
    have hex : ∀ i, i < l → ∃ x : α, ok x ∧ ∀ j y, (f x)[j]? = some y → w.cell? ((a.add (i * K)).add j) = some y := by
      intro i hil
      obtain ⟨cs', hc, hy⟩ := hi i (by omega)
      obtain ⟨_, hcl, hat⟩ := World.cells?_some hc
      obtain ⟨x, hx, rfl⟩ := helt _ _ _ hcl hy
      refine ⟨x, hx, fun j y hj => ?_⟩
      have hjl : j < K := by
        obtain ⟨hjl, _⟩ := List.getElem?_eq_some_iff.1 hj
        rwa [hf] at hjl
      rw [hat j hjl]; exact hj
    have hg : ∀ i (h : i < l), ok (Classical.choose (hex i h)) ∧ ∀ j y, (f (Classical.choose (hex i h)))[j]? = some y → w.cell? ((a.add (i * K)).add j) = some y := fun i h => Classical.choose_spec (hex i h)
    refine ⟨(List.range l).attach.map fun i => Classical.choose (hex i.1 (List.mem_range.1 i.2)), ?_, ?_⟩
    · intro x hx
      obtain ⟨i, _, rfl⟩ := List.mem_map.1 hx
      exact (hg i.1 (List.mem_range.1 i.2)).1
    · have hlen : ((List.range l).attach.map fun i => Classical.choose (hex i.1 (List.mem_range.1 i.2))).length = l := by simp
      rw [hlen]
      refine ⟨_, c, rfl, hl, hm, fun hne => ?_⟩
      have hcell : ∀ j x, (((List.range l).attach.map fun i => Classical.choose (hex i.1 (List.mem_range.1 i.2))).flatMap f)[j]? = some x → w.cell? (a.add j) = some x := by
        intro j x hj
        obtain ⟨b, hb, hx⟩ := flat_get hK hf _ _ _ hj
        obtain ⟨hlt, hb'⟩ := List.getElem?_eq_some_iff.1 hb
        rw [hlen] at hlt
        rw [← hb'] at hx
        simp only [List.getElem_map, List.getElem_attach, List.getElem_range] at hx
        have := (hg (j / K) hlt).2 _ _ hx
        rw [add_add, Nat.mul_comm, Nat.div_add_mod] at this
        exact this
      obtain ⟨x, hx⟩ : ∃ x, (((List.range l).attach.map fun i => Classical.choose (hex i.1 (List.mem_range.1 i.2))).flatMap f)[0]? = some x := by
        cases hfl : ((List.range l).attach.map fun i => Classical.choose (hex i.1 (List.mem_range.1 i.2))).flatMap f with
        | nil => exact absurd hfl hne
        | cons x r => exact ⟨x, rfl⟩
      have h0 := hcell 0 x hx
      obtain ⟨b, off, spot⟩ := a
      have hs : spot = none := by simpa [Addr.add] using World.cell?_spot h0
      subst hs
      refine ⟨b, off, rfl, ?_, fun j y hj => ?_⟩
      · rcases Nat.lt_or_ge b w.heap.size with hlt | hge
        · exact hlt
        · simp [Addr.add, World.cell?, Array.getElem?_eq_none hge] at h0
      · have := hcell j y hj
        unfold Addr.add at this
        split at this
        · rename_i hj0; subst hj0; exact this
        · exact this

theorem read_u8 {e : TypeId} (he : P.underlying e = some (.int .u8)) (n : Nat) (cs : List Value) (y : DataW H × List MemPlace) (_ : cs.length = 1) (h : DataW.trod enc P w 0 spare held n e cs = some y) :
    ∃ a : Nat, a < 256 ∧ cs = [.int .u8 (a : Nat)] := by
  obtain ⟨z, rfl, _, hw⟩ := DataW.trod_int he h
  have := bounds_u8 hw
  obtain ⟨k, rfl⟩ := Int.eq_ofNat_of_zero_le this.1
  exact ⟨k, by omega, rfl⟩
theorem read_int {e : TypeId} (he : P.underlying e = some (.int .i64)) (n : Nat) (cs : List Value) (y : DataW H × List MemPlace) (_ : cs.length = 1) (h : DataW.trod enc P w 0 spare held n e cs = some y) :
    ∃ a : Int, (-9223372036854775808 ≤ a ∧ a ≤ 9223372036854775807) ∧ cs = [.int .i64 a] := by
  obtain ⟨z, rfl, _, hw⟩ := DataW.trod_int he h
  exact ⟨z, bounds_i64 hw, rfl⟩
theorem read_bool {e : TypeId} (he : P.underlying e = some .bool) (n : Nat) (cs : List Value) (y : DataW H × List MemPlace) (_ : cs.length = 1) (h : DataW.trod enc P w 0 spare held n e cs = some y) :
    ∃ a : Bool, True ∧ cs = [.bool a] := by
  obtain ⟨z, rfl, _⟩ := DataW.trod_bool he h
  exact ⟨z, trivial, rfl⟩
end

theorem flat_one {α : Type} (f : α → Value) (as : List α) : (as.flatMap fun a => [f a]) = as.map f := by
  induction as with
  | nil => rfl
  | cons a as ih => simp [ih]

end Go.Proofs.Ytpgejomhcojppaa
