/- What is flushed stays: plain. -/
import Derived.Test.YtnjejffbcgchlaaDiskDown
set_option linter.unusedSimpArgs false
set_option linter.unusedVariables false
namespace Go.Proofs.Ytnjejffbcgchlaa
open Go.RowKit
namespace Di
/-- Nothing is damaged; sector q holds X; no write of it waits. -/
structure Fl (X : List Int) (q : Nat) (d : Dk) : Prop where
  clean : ∀ p ∈ d.places, p.lost = false ∧ p.rest = p.meant
  holds : ∀ p, d.places[q]? = some p → p.rest.l = X
  waits : ∀ y ∈ d.waits, y.sector ≠ q
theorem come_clean {X : List Int} {q : Nat} {ps : List Pl} {y : Wr} (hy : y.sector ≠ q) (h1 : ∀ p ∈ ps, p.lost = false ∧ p.rest = p.meant) (h2 : ∀ p, ps[q]? = some p → p.rest.l = X) :
    (∀ p ∈ come ps y, p.lost = false ∧ p.rest = p.meant) ∧ (∀ p, (come ps y)[q]? = some p → p.rest.l = X) := by
  refine ⟨fun p hp => ?_, fun p hp => ?_⟩
  · rcases List.mem_or_eq_of_mem_set hp with h | h
    · exact h1 p h
    · rw [h]; exact ⟨rfl, rfl⟩
  · unfold come at hp
    rw [List.getElem?_set_ne hy] at hp
    exact h2 p hp
theorem thr_clean {X : List Int} {q : Nat} (is : Nat → Bool) : ∀ (l : List Wr) (k : Nat) (ps : List Pl), (∀ y ∈ l, y.sector ≠ q) → (∀ p ∈ ps, p.lost = false ∧ p.rest = p.meant) → (∀ p, ps[q]? = some p → p.rest.l = X) →
    (∀ p ∈ thr is k l ps, p.lost = false ∧ p.rest = p.meant) ∧ (∀ p, (thr is k l ps)[q]? = some p → p.rest.l = X)
  | [], _, _, _, h1, h2 => ⟨h1, h2⟩
  | y :: r, k, ps, hy, h1, h2 => by
    rw [thr]
    have hyr : ∀ z ∈ r, z.sector ≠ q := fun z hz => hy z (List.mem_cons_of_mem _ hz)
    cases is k
    · exact thr_clean is r _ _ hyr h1 h2
    · have := come_clean (hy y List.mem_cons_self) h1 h2
      exact thr_clean is r _ _ hyr this.1 this.2
theorem Fl.through {X : List Int} {q : Nat} {d : Dk} (h : Fl X q d) (is : Nat → Bool) : Fl X q (through d is) := by
  have := thr_clean is d.waits 0 d.places h.waits h.clean h.holds
  exact ⟨this.1, this.2, by simp [Di.through]⟩
theorem Fl.spend {X : List Int} {q : Nat} {d : Dk} (h : Fl X q d) : Fl X q (spendD d) := ⟨by rw [spend_places]; exact h.clean, by rw [spend_places]; exact h.holds, by rw [spend_waits]; exact h.waits⟩
theorem Fl.next {X : List Int} {q : Nat} {d : Dk} (h : Fl X q d) (a : Ac) (h3 : ¬ (3 ≤ a.kind % 9 ∧ a.kind % 9 ≤ 5)) (h6 : a.kind % 9 = 6 ∨ a.kind % 9 = 7 → a.sector ≠ (q : Int)) : Fl X q (doD d a) := by
  unfold doD
  split
  · unfold flushD
    split
    · split
      · exact h.spend
      · exact h.spend.through _
    · exact h
  · unfold crashD
    split
    · exact h
    · have := h.through (kept a.keep)
      exact ⟨this.clean, this.holds, this.waits⟩
  · unfold startD; split
    · exact ⟨h.clean, h.holds, h.waits⟩
    · exact h
  · omega
  · omega
  · omega
  · unfold powerD; split
    · split
      · exact h
      · exact ⟨h.clean, h.holds, h.waits⟩
    · exact h
  · rename_i n0 n1 n2 n3 n4 n5 n8
    have hk : a.kind % 9 = 6 ∨ a.kind % 9 = 7 := by
      have : a.kind % 9 < 9 := Nat.mod_lt _ (by omega)
      simp only [imp_false] at n0 n1 n2 n3 n4 n5 n8
      omega
    have hs := h6 hk
    unfold writeD
    split
    · split
      · rename_i hi
        split
        · split
          · exact h.spend
          · refine ⟨h.spend.clean, h.spend.holds, ?_⟩
            intro y hy
            rcases List.mem_append.1 hy with hy | hy
            · exact h.waits y hy
            · rw [List.mem_singleton.1 hy]
              have := (inn_at hi).1
              show a.sector.toNat ≠ q
              omega
        · exact h
      · exact h
    · exact h
theorem Fl.at_ {X : List Int} {q : Nat} {d : Dk} (h : Fl X q d) (hq : q < d.places.length) : (d.at_ (q : Int)).lost = false ∧ (d.at_ (q : Int)).rest.l = X := by
  have hg : d.places[q]? = some d.places[q] := List.getElem?_eq_getElem hq
  have he : d.at_ (q : Int) = d.places[q] := by unfold Dk.at_; rw [Int.toNat_natCast, hg]; rfl
  rw [he]
  exact ⟨(h.clean _ (List.getElem_mem hq)).1, h.holds _ hg⟩
theorem Fl.rest {X : List Int} {q : Nat} {d : Dk} (h : Fl X q d) (hq : q < d.places.length) : thereE d [(q : Int)] = 0 ∧ restL d q = false ∧ restV d q = X := by
  have hi : inn d (q : Int) = true := by unfold inn; rw [decide_eq_true (by omega : (0 : Int) ≤ q), decide_eq_true (by omega : (q : Int) < d.places.length)]; rfl
  obtain ⟨h1, h2⟩ := h.at_ hq
  exact ⟨by rw [there_one, hi]; rfl, by unfold restL; rw [hi, h1]; rfl, by unfold restV; rw [hi, h1]; exact h2⟩
theorem Fl.reads {x : Int} {q : Nat} {d : Dk} (h : Fl (sectorL x []) q d) (hq : q < d.places.length) (hu : d.up = true) : readsB d q x = true := by
  have hi : inn d (q : Int) = true := by unfold inn; rw [decide_eq_true (by omega : (0 : Int) ≤ q), decide_eq_true (by omega : (q : Int) < d.places.length)]; rfl
  obtain ⟨h1, h2⟩ := h.at_ hq
  have hn : lastW d.waits q = none := by
    unfold lastW
    rw [Option.map_eq_none_iff, List.find?_eq_none]
    intro y hy
    simpa using h.waits y (List.mem_reverse.1 hy)
  unfold readsB readE readV
  rw [hu, hi, Int.toNat_natCast, hn, h1]
  simp [h2]
theorem Fl.same {X : List Int} {q : Nat} {d : Dk} (h : Fl X q d) {j : Nat} (hj : j < d.places.length) : thereE d [(j : Int)] = 0 ∧ restL d j = false ∧ restV d j = meantV d j := by
  have hi : inn d (j : Int) = true := by unfold inn; rw [decide_eq_true (by omega : (0 : Int) ≤ j), decide_eq_true (by omega : (j : Int) < d.places.length)]; rfl
  have hg : d.places[j]? = some d.places[j] := List.getElem?_eq_getElem hj
  have he : d.at_ (j : Int) = d.places[j] := by unfold Dk.at_; rw [Int.toNat_natCast, hg]; rfl
  obtain ⟨h1, h2⟩ := h.clean _ (List.getElem_mem hj)
  refine ⟨by rw [there_one, hi]; rfl, by unfold restL; rw [hi, he, h1]; rfl, ?_⟩
  unfold restV meantV
  rw [hi, he, h1, h2]; rfl
theorem fl_start (x : Int) (q : Nat) (hq : q < 4) : flushE (writeD (new 4) q (sectorL x [])) = 0 ∧ Fl (sectorL x []) q (flushD (writeD (new 4) q (sectorL x []))) ∧ Run (flushD (writeD (new 4) q (sectorL x []))) 0 ∧ (writeD (new 4) q (sectorL x [])).waits.length ≤ 1000000000 := by
  have hl : (sectorL x []).length = 64 := by simp [sectorL]
  have hi : inn (new 4) (q : Int) = true := inn4 rfl (by omega) (by omega)
  have hw : writeD (new 4) q (sectorL x []) = { new 4 with waits := [⟨⟨sectorL x [], hl⟩, q⟩] } := by
    unfold writeD
    rw [show (new 4).up = true from rfl, hi, if_pos rfl, if_pos rfl, dif_pos hl, if_neg (by decide), Int.toNat_natCast]
    rfl
  have hf : flushD (writeD (new 4) q (sectorL x [])) = { new 4 with places := come (new 4).places ⟨⟨sectorL x [], hl⟩, q⟩ } := by
    rw [hw]; rfl
  refine ⟨by rw [hw]; rfl, ?_, ?_, by rw [hw]; show 1 ≤ 1000000000; omega⟩
  · rw [hf]
    refine ⟨fun p hp => ?_, fun p hp => ?_, by simp [new]⟩
    · rcases List.mem_or_eq_of_mem_set hp with h | h
      · have : p = ⟨.all 0, .all 0, false⟩ := List.eq_of_mem_replicate h
        rw [this]; exact ⟨rfl, rfl⟩
      · rw [h]; exact ⟨rfl, rfl⟩
    · unfold come at hp
      have hq4 : q < (new 4).places.length := hq
      rw [List.getElem?_set_self hq4] at hp
      injection hp with hp
      rw [← hp]
  · refine ⟨flush_ok (write_ok (new_ok (by decide) (by decide)) _ _), ?_, ?_, ?_⟩
    · rw [hf]; show (come _ _).length = 4; unfold come; rw [List.length_set]; rfl
    · rw [hf]; simp [new]
    · rw [hf]; intro h; cases h
theorem Run.more {d : Dk} {k k' : Nat} (h : Run d k) (hk : k ≤ k') : Run d k' := ⟨h.ok, h.len, by have := h.few; omega, h.dry⟩
end Di
end Go.Proofs.Ytnjejffbcgchlaa
