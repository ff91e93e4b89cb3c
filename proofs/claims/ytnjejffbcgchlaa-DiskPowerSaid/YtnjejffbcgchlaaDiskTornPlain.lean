/- Writes that are torn by a crash: plain. -/
import Derived.Test.YtnjejffbcgchlaaDiskApartPlain
set_option linter.unusedSimpArgs false
set_option linter.unusedVariables false
namespace Go.Proofs.Ytnjejffbcgchlaa
open Go.RowKit
namespace Di
theorem sec64 (n : Int) : (sectorL n []).length = 64 := by simp [sectorL]
def secN (n : Int) : Sec := ⟨sectorL n [], sec64 n⟩
theorem sec0 : sectorL 0 [] = (Sec.all 0).l := rfl
/-- The writes that wait. -/
def wl (f : Nat → Nat) : Nat → List Wr
  | 0 => []
  | k + 1 => wl f k ++ [⟨secN ((k : Int) + 1), f k⟩]
theorem wl_len (f : Nat → Nat) : ∀ k, (wl f k).length = k
  | 0 => rfl
  | k + 1 => by rw [wl, List.length_append, wl_len f k]; rfl
theorem wl_to (f : Nat → Nat) (hf : ∀ i, f i < 4) : ∀ k, ∀ x ∈ wl f k, x.sector < 4
  | 0, x, h => by cases h
  | k + 1, x, h => by
    rcases List.mem_append.1 h with h | h
    · exact wl_to f hf k x h
    · rw [List.mem_singleton.1 h]; exact hf k
/-- The number of the last write of each sector that came through. -/
def lastL (f : Nat → Nat) (is : Nat → Bool) : Nat → List Int
  | 0 => [0, 0, 0, 0]
  | k + 1 => if is k then (lastL f is k).set (f k) ((k : Int) + 1) else lastL f is k
theorem lastL_len (f : Nat → Nat) (is : Nat → Bool) : ∀ k, (lastL f is k).length = 4
  | 0 => rfl
  | k + 1 => by
    rw [lastL]
    split
    · rw [List.length_set]; exact lastL_len f is k
    · exact lastL_len f is k
theorem lastL_le (f : Nat → Nat) (is : Nat → Bool) : ∀ k, ∀ x ∈ lastL f is k, 0 ≤ x ∧ x ≤ k
  | 0, x, h => by
    simp only [lastL, List.mem_cons, List.not_mem_nil, or_false] at h
    omega
  | k + 1, x, h => by
    rw [lastL] at h
    split at h
    · rcases List.mem_or_eq_of_mem_set h with h | h
      · have := lastL_le f is k x h; omega
      · omega
    · have := lastL_le f is k x h; omega
def tornD (f : Nat → Nat) (k : Nat) : Dk := { new 4 with waits := wl f k }
theorem torn_ok (f : Nat → Nat) (hf : ∀ i, f i < 4) (k : Nat) : Ok (tornD f k) := ⟨by show 0 < (List.replicate 4 _).length; simp, by show (List.replicate 4 _).length ≤ 1024; simp, fun x hx => by show x.sector < (List.replicate 4 _).length; simpa using wl_to f hf k x hx, by show (-1 : Int) ≤ -1; omega, by show (-1 : Int) ≤ _; omega⟩
theorem torn_write (f : Nat → Nat) (k : Nat) (hk : f k < 4) : writeE (tornD f k) (f k : Int) (sectorL ((k : Int) + 1) []) = 0 ∧ writeD (tornD f k) (f k : Int) (sectorL ((k : Int) + 1) []) = tornD f (k + 1) := by
  have hi : inn (tornD f k) (f k : Int) = true := inn4 rfl (by omega) (by omega)
  have hu : (tornD f k).up = true := rfl
  have h0 : ¬ (tornD f k).left = 0 := by show ¬ (-1 : Int) = 0; omega
  constructor
  · unfold writeE spendE
    rw [hu, hi, if_pos rfl, if_pos rfl, if_pos (sec64 _), if_neg h0]
  · unfold writeD
    rw [hu, hi, if_pos rfl, if_pos rfl, dif_pos (sec64 _), if_neg h0, Int.toNat_natCast]
    rfl
/-- What the sectors hold when the first k writes came through, as 'is' says. -/
theorem torn_thr (f : Nat → Nat) (is : Nat → Bool) (hf : ∀ i, f i < 4) : ∀ k s, (h : s < 4) → ∃ p, (thr is 0 (wl f k) (new 4).places)[s]? = some p ∧ p.lost = false ∧ some p.rest.l = (lastL f is k)[s]?.map (fun n => sectorL n [])
  | 0, s, h => by
    refine ⟨pl0, ?_, rfl, ?_⟩
    · show (List.replicate 4 pl0)[s]? = _
      rw [List.getElem?_replicate, if_pos h]
    · have : (lastL f is 0)[s]? = some 0 := by
        have : s = 0 ∨ s = 1 ∨ s = 2 ∨ s = 3 := by omega
        rcases this with rfl | rfl | rfl | rfl <;> rfl
      rw [this]; rfl
  | k + 1, s, h => by
    obtain ⟨p, h1, h2, h3⟩ := torn_thr f is hf k s h
    rw [wl, thr_snoc, Nat.zero_add, wl_len, lastL]
    cases hk : is k
    · exact ⟨p, h1, h2, h3⟩
    · simp only [if_true]
      unfold come
      dsimp only
      by_cases hs : f k = s
      · rw [hs, List.getElem?_set_self (by rw [thr_len]; exact h), List.getElem?_set_self (by rw [lastL_len]; exact h)]
        exact ⟨_, rfl, rfl, rfl⟩
      · rw [List.getElem?_set_ne hs, List.getElem?_set_ne hs]
        exact ⟨p, h1, h2, h3⟩
/-- Behind the crash and the start. -/
def behind (d : Dk) (keep : List Bool) : Dk := startD (crashD d keep)
theorem reads_rest {d : Dk} (hu : d.up = true) (hw : d.waits = []) {s : Nat} {p : Pl} (hp : d.places[s]? = some p) (hl : p.lost = false) {x : Int} (hr : p.rest.l = sectorL x []) : readsB d (s : Int) x = true := by
  obtain ⟨hlt, he⟩ := List.getElem?_eq_some_iff.1 hp
  have hi : inn d (s : Int) = true := by unfold inn; rw [decide_eq_true (by omega : (0 : Int) ≤ s), decide_eq_true (by omega : (s : Int) < d.places.length)]; rfl
  have ha : d.at_ (s : Int) = p := by unfold Dk.at_; rw [Int.toNat_natCast, hp]; rfl
  unfold readsB readE readV
  rw [hu, hi, hw, ha, hl, hr]
  simp [lastW]
theorem torn_reads (f : Nat → Nat) (keep : List Bool) (hf : ∀ i, f i < 4) (k s : Nat) (h : s < 4) {x : Int} (hx : (lastL f (kept keep) k)[s]? = some x) : readsB (behind (tornD f k) keep) (s : Int) x = true := by
  obtain ⟨p, h1, h2, h3⟩ := torn_thr f (kept keep) hf k s h
  rw [hx] at h3
  injection h3 with h3
  exact reads_rest (d := behind (tornD f k) keep) rfl rfl h1 h2 h3
theorem torn_after (f : Nat → Nat) (keep : List Bool) (k : Nat) : crashE (tornD f k) = 0 ∧ (crashD (tornD f k) keep).up = false ∧ (((crashD (tornD f k) keep).waits.length : Nat) : Int) = 0 ∧ startE (crashD (tornD f k) keep) = 0 := ⟨rfl, rfl, rfl, rfl⟩
end Di
end Go.Proofs.Ytnjejffbcgchlaa
