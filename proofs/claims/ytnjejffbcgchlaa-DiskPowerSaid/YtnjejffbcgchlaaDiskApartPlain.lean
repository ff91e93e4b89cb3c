/- A fault at a sector, and the others: plain. -/
import Derived.Test.YtnjejffbcgchlaaDiskDown
set_option linter.unusedSimpArgs false
set_option linter.unusedVariables false
namespace Go.Proofs.Ytnjejffbcgchlaa
open Go.RowKit
theorem Sep.setAt {w0 u : World} {a c : List It} {b : Nat} {t : TypeId} {cs : List Value} (h : Sep w0 (a ++ (.box b t cs :: c)) u) (i : Nat) (v : Value) : Sep w0 (a ++ (.box b t (cs.set i v) :: c)) (u.setCell ⟨b, i, none⟩ v) :=
  ((h.perm List.perm_middle).set i v).perm List.perm_middle.symm
namespace Di
/-- What a fault leaves as it was. -/
structure Hurt (d d' : Dk) (h : Int) : Prop where
  up : d'.up = d.up
  waits : d'.waits = d.waits
  len : d'.places.length = d.places.length
  meant : ∀ s, meantV d' s = meantV d s
  read : ∀ s, 0 ≤ s → s ≠ h → readV d' s = readV d s
theorem hurt_set {d : Dk} {k : Nat} {p : Pl} (hk : k < d.places.length) (hm : p.meant = d.places[k].meant) : Hurt d { d with places := d.places.set k p } (k : Int) := by
  have hat : ∀ s : Int, s.toNat ≠ k → ({ d with places := d.places.set k p } : Dk).at_ s = d.at_ s := fun s hs => by
    show ((d.places.set k p)[s.toNat]?).getD pl0 = _
    rw [List.getElem?_set_ne (by omega)]; rfl
  have hin : ∀ s, inn ({ d with places := d.places.set k p } : Dk) s = inn d s := fun s => by unfold inn; simp
  refine ⟨rfl, rfl, by simp, fun s => ?_, fun s h0 hs => ?_⟩
  · unfold meantV
    rw [hin]
    by_cases hsk : s.toNat = k
    · have h1 : ({ d with places := d.places.set k p } : Dk).at_ s = p := by
        show ((d.places.set k p)[s.toNat]?).getD pl0 = p
        rw [hsk, List.getElem?_set_self hk]; rfl
      have h2 : d.at_ s = d.places[k] := by unfold Dk.at_; rw [hsk, List.getElem?_eq_getElem hk]; rfl
      rw [h1, h2, hm]
    · rw [hat s hsk]
  · unfold readV
    rw [hin, hat s (by omega)]
    rfl
theorem fault_apart {d : Dk} (z : Nat) (hz : z = 3 ∨ z = 4 ∨ z = 5) (q1 q2 : Int) (h1 : inn d q1 = true) (h2 : inn d q2 = true) :
    doE d ⟨z, q1, q2, [], []⟩ = 0 ∧ Hurt d (doD d ⟨z, q1, q2, [], []⟩) (if z = 5 then q2 else q1) := by
  obtain ⟨k1, a1⟩ := at_get h1
  obtain ⟨k2, a2⟩ := at_get h2
  have i1 := inn_at h1
  have i2 := inn_at h2
  have n2 : ¬ q2 < 0 := by omega
  have e1 : ((q1.toNat : Nat) : Int) = q1 := by omega
  have e2 : ((q2.toNat : Nat) : Int) = q2 := by omega
  rcases hz with rfl | rfl | rfl
  · refine ⟨by show faultE d q1 q2 = 0; unfold faultE; rw [h1]; simp [n2], ?_⟩
    show Hurt d (flipD d q1 q2) q1
    unfold flipD
    rw [h1, if_pos rfl, if_neg n2, a1]
    have := hurt_set (d := d) (p := { d.places[q1.toNat] with rest := flipS d.places[q1.toNat].rest (q2.toNat % 512) }) k1 rfl
    rwa [e1] at this
  · refine ⟨by show thereE d [q1] = 0; rw [there_one, h1]; rfl, ?_⟩
    show Hurt d (loseD d q1) q1
    unfold loseD
    rw [h1, if_pos rfl, a1]
    have := hurt_set (d := d) (p := { d.places[q1.toNat] with lost := true }) k1 rfl
    rwa [e1] at this
  · refine ⟨by show thereE d [q1, q2] = 0; simp [thereE, h1, h2], ?_⟩
    show Hurt d (strayD d q1 q2) q2
    unfold strayD
    rw [h1, h2, if_pos (by rfl), a1, a2]
    have := hurt_set (d := d) (p := { d.places[q2.toNat] with rest := d.places[q1.toNat].rest, lost := d.places[q1.toNat].lost }) k2 rfl
    rwa [e2] at this
theorem mod3 (k : Nat) (h : k < 256) : ∃ z : Nat, (z = 3 ∨ z = 4 ∨ z = 5) ∧ 3 + (k : Int) % 3 = (z : Int) := by
  refine ⟨3 + k % 3, by omega, ?_⟩
  omega
theorem started_up {d : Dk} : (d.up = true → startD d = d) ∧ (d.up = false → Dry d → (startD (crashD d [])).up = true) := by
  refine ⟨fun h => ?_, fun h hd => ?_⟩
  · unfold startD; rw [up_down h]; rfl
  · have := (crash_to hd []).1
    unfold startD; rw [this]; rfl
/-- What was told of the first sectors lies there. -/
structure Told (B : Nat) (d : Dk) (ws ms : List Value) (k : Nat) (R : List It) : Prop where
  lw : ws.length = k
  lm : ms.length = k
  was : ∀ (i : Nat) (v : Value), ws[i]? = some v → rowB B v (readV d i) ∈ R
  mnt : ∀ (i : Nat) (v : Value), ms[i]? = some v → rowB B v (meantV d i) ∈ R
theorem Told.next {B : Nat} {d : Dk} {ws ms : List Value} {k : Nat} {R : List It} (h : Told B d ws ms k R) (v m : Value) : Told B d (ws ++ [v]) (ms ++ [m]) (k + 1) (R ++ [rowB B v (readV d k), rowB B m (meantV d k)]) := by
  refine ⟨by simp [h.lw], by simp [h.lm], fun i x hx => ?_, fun i x hx => ?_⟩
  · rw [List.getElem?_append] at hx
    split at hx
    · exact List.mem_append_left _ (h.was i x hx)
    · rename_i hi
      have : i = k := by
        rw [h.lw] at hx hi
        obtain ⟨hlt, _⟩ := List.getElem?_eq_some_iff.1 hx
        simp at hlt
        omega
      subst this
      rw [h.lw, Nat.sub_self] at hx
      injection hx with hx
      subst hx
      simp
  · rw [List.getElem?_append] at hx
    split at hx
    · exact List.mem_append_left _ (h.mnt i x hx)
    · rename_i hi
      have : i = k := by
        rw [h.lm] at hx hi
        obtain ⟨hlt, _⟩ := List.getElem?_eq_some_iff.1 hx
        simp at hlt
        omega
      subst this
      rw [h.lm, Nat.sub_self] at hx
      injection hx with hx
      subst hx
      simp
def nilS : Value := .slice none 0 0
/-- An array of four slices, of which the first are set. -/
def arr (ws : List Value) : List Value := ws ++ List.replicate (4 - ws.length) nilS
theorem arr_set (ws : List Value) (v : Value) (h : ws.length < 4) : (arr ws).set ws.length v = arr (ws ++ [v]) := by
  unfold arr
  rw [List.set_append_right _ _ (Nat.le_refl _), Nat.sub_self]
  obtain ⟨m, hm⟩ : ∃ m, 4 - ws.length = m + 1 := ⟨4 - ws.length - 1, by omega⟩
  rw [hm, List.replicate_succ, List.set_cons_zero, List.length_append, List.length_singleton, show 4 - (ws.length + 1) = m by omega]
  simp
theorem arr_len (ws : List Value) (h : ws.length ≤ 4) : (arr ws).length = 4 := by simp [arr]; omega
end Di
end Go.Proofs.Ytnjejffbcgchlaa
