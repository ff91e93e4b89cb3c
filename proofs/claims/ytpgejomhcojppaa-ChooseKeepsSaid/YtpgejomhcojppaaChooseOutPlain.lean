/- What may be proposed, in plain Lean: the outright laws. -/
import Derived.Test.YtpgejomhcojppaaChooseRdecide
import Derived.Test.YtpgejomhcojppaaChooseEql
set_option linter.unusedSimpArgs false
set_option linter.unusedVariables false
namespace Go.Proofs.Ytpgejomhcojppaa
open Go.RowKit
namespace Ch
open Bl Qm
def plainR (x : Rp) : Bool := x.st == 1 || x.st == 2
def spoiltR (x : Rp) : Bool := !(x.st == 0) && !plainR x
def cntF (p : Rp → Bool) (L : List Rp) : Nat := (L.filter p).length
theorem cntF_next (p : Rp → Bool) (L : List Rp) (k : Nat) (hk : k < L.length) : cntF p (L.take (k + 1)) = cntF p (L.take k) + if p L[k] then 1 else 0 := by
  unfold cntF
  rw [List.take_succ_eq_append_getElem hk, List.filter_append, List.length_append]
  cases h : p L[k] <;> simp [h]
theorem cntF_le (p : Rp → Bool) (L : List Rp) : cntF p L ≤ L.length := List.length_filter_le _ _
theorem cntF_zero {p : Rp → Bool} {L : List Rp} : cntF p L = 0 ↔ ∀ x ∈ L, p x = false := by
  unfold cntF
  rw [List.length_eq_zero_iff, List.filter_eq_nil_iff]
  simp
theorem cntF_one (s : Nat) (L : List Rp) : (only [s] L).length = cntF (fun x => x.st == s) L := by rw [only_one]; rfl
theorem cntF_split (p q : Rp → Bool) (h : ∀ x, p x = true → q x = false) : ∀ L : List Rp, cntF (fun x => p x || q x) L = cntF p L + cntF q L
  | [] => rfl
  | x :: L => by
    have ih := cntF_split p q h L
    unfold cntF at ih ⊢
    simp only [List.filter_cons]
    cases hp : p x
    · cases hq : q x
      · simpa using ih
      · simp; omega
    · have := h x hp
      simp [this]; omega
theorem cntF_congr {p q : Rp → Bool} {L : List Rp} (h : ∀ x ∈ L, p x = q x) : cntF p L = cntF q L := by
  unfold cntF
  rw [List.filter_congr h]
theorem cntF_all {p : Rp → Bool} {L : List Rp} (h : ∀ x ∈ L, p x = true) : cntF p L = L.length := by
  unfold cntF
  rw [List.filter_eq_self.2 h]
theorem counts (L : List Rp) : L.length = cntF (fun x => x.st == 0) L + cntF plainR L + cntF spoiltR L := by
  rw [← cntF_split _ _ (by
    intro x h
    have h : x.st = 0 := by simpa using h
    unfold plainR; simp [h]), ← cntF_split _ _ (by
    intro x h
    unfold spoiltR
    rcases Bool.or_eq_true _ _ ▸ h with h | h
    · have h : x.st = 0 := by simpa using h
      simp [h]
    · rw [h]; simp), cntF_all]
  intro x _
  unfold spoiltR
  cases h0 : (x.st == 0) <;> cases h1 : plainR x <;> simp
theorem not_bad {n : Int} {L : List Rp} (h : badB n L = false) : (n = 3 ∨ n = 5 ∨ n = 7) ∧ (L.length : Int) = n ∧ ∀ x ∈ L, x.st ≤ 4 := by
  unfold badB at h
  simp only [Bool.or_eq_false_iff, Bool.not_eq_false'] at h
  refine ⟨crowd_iff.1 h.1.1, by simpa using h.1.2, fun x hx => ?_⟩
  have := List.any_eq_false.1 h.2 x hx
  simp at this
  exact this
theorem decR_cases {n : Int} {L : List Rp} (h : badB n L = false) : (decR n L = (0, zeroEn, 0) ∧ knownB n L = false ∧ 0 < (only [0] L).length) ∨
    ((knownB n L = true ∨ ¬ 0 < (only [0] L).length) ∧ ((decR n L = (1, noopEn, 0) ∧ greatest L = none) ∨ ∃ x, decR n L = (2, x.e, 0) ∧ greatest L = some x)) := by
  by_cases hk : knownB n L = true ∨ ¬ 0 < (only [0] L).length
  · refine .inr ⟨hk, ?_⟩
    cases hg : greatest L with
    | none => exact .inl ⟨decR_none h hk hg, rfl⟩
    | some x => exact .inr ⟨x, decR_some h hk hg, rfl⟩
  · rw [not_or] at hk
    have h1 : knownB n L = false := by simpa using hk.1
    have h2 : 0 < (only [0] L).length := by omega
    exact .inl ⟨decR_wait h h1 h2, h1, h2⟩
/-- Without lost and blind ones a majority that is plain is known. -/
theorem known_plain {n : Int} {L : List Rp} (h : badB n L = false) (hm : mostN n ≤ cntF plainR L) (hs : cntF spoiltR L = 0) : knownB n L = true := by
  obtain ⟨h1, h2, h3⟩ := not_bad h
  have hz := cntF_zero.1 hs
  have h4 : (only [4] L).length = 0 := by
    rw [cntF_one, cntF_zero]
    intro x hx
    have := hz x hx
    cases h4 : (x.st == 4)
    · rfl
    · have h4 : x.st = 4 := by simpa using h4
      unfold spoiltR plainR at this
      rw [h4] at this; simp at this
  have hc := counts L
  rw [← cntF_one] at hc
  unfold knownB
  rw [Bool.and_eq_true, decide_eq_true_eq]
  refine ⟨by omega, List.all_eq_true.2 fun x hx => ?_⟩
  unfold fineB
  have : (x.st == 3) = false := by
    cases h3 : (x.st == 3)
    · rfl
    · have h3 : x.st = 3 := by simpa using h3
      have := hz x hx
      unfold spoiltR plainR at this
      rw [h3] at this; simp at this
  rw [this]; rfl
theorem greatest_mem {L : List Rp} {x : Rp} (h : greatest L = some x) : x ∈ L ∧ x.st = 2 := by
  have := greatest_best L
  rw [h] at this
  have := mem_only.1 this.1
  exact ⟨this.1, by simpa using this.2⟩
/-- What ChooseGoes asks. -/
theorem goes_plain {n : Int} {L : List Rp} (h : badB n L = false) (k : Nat) (e : En) (f : Int) (hd : decR n L = (k, e, f)) :
    f = 0 ∧ k ≤ 2 ∧ (k = 0 → e = zeroEn ∧ 0 < (only [0] L).length ∧ ¬ (mostN n ≤ cntF plainR L ∧ cntF spoiltR L = 0)) ∧ (k = 1 → e = noopEn) ∧ (k = 2 → L.any (fun x => x.st == 2 && sameE x.e e) = true) := by
  rcases decR_cases h with ⟨hc, hk, h0⟩ | ⟨hk, ⟨hc, hg⟩ | ⟨x, hc, hg⟩⟩
  · rw [hc] at hd
    injection hd with e1 e2
    injection e2 with e2 e3
    subst e1 e2 e3
    refine ⟨rfl, by omega, fun _ => ⟨rfl, h0, fun hm => ?_⟩, by simp, by simp⟩
    rw [known_plain h hm.1 hm.2] at hk; cases hk
  · rw [hc] at hd
    injection hd with e1 e2
    injection e2 with e2 e3
    subst e1 e2 e3
    exact ⟨rfl, by omega, by simp, fun _ => rfl, by simp⟩
  · rw [hc] at hd
    injection hd with e1 e2
    injection e2 with e2 e3
    subst e1 e2 e3
    obtain ⟨hx, hs⟩ := greatest_mem hg
    refine ⟨rfl, by omega, by simp, by simp, fun _ => List.any_eq_true.2 ⟨x, hx, ?_⟩⟩
    rw [hs, sameE_self]; rfl
/-- What ChooseGreatest asks. -/
theorem greatest_plain {n : Int} {L : List Rp} (h : badB n L = false) {x : Rp} (hg : greatest L = some x) (hm : (mostN n : Int) ≤ n - (only [0] L).length - (only [4] L).length)
    (hl : ∀ y ∈ L, y.st = 3 → lessB x.b y.b = false) : decR n L = (2, x.e, 0) := by
  refine decR_some h (.inl ?_) hg
  unfold knownB
  rw [Bool.and_eq_true, decide_eq_true_eq]
  refine ⟨hm, List.all_eq_true.2 fun y hy => ?_⟩
  unfold fineB
  rw [hg]
  by_cases h3 : y.st = 3
  · rw [show above (some x) y = false from hl y hy h3]; simp
  · rw [show (y.st == 3) = false by simpa using h3]; rfl
theorem only_perm {S : List Nat} {L L' : List Rp} (h : L.Perm L') : (only S L).length = (only S L').length := by
  unfold only
  exact (h.filter _).length_eq
/-- Where the intact ones by one ballot have one entry, the order changes nothing. -/
theorem turned_plain {n : Int} {L L' : List Rp} (hp : L.Perm L') (hc : ∀ x ∈ L, ∀ y ∈ L, x.st = 2 → y.st = 2 → x.b = y.b → x.e = y.e) : decR n L = decR n L' := by
  have hb : badB n L = badB n L' := by
    unfold badB
    rw [hp.length_eq]
    congr 1
    rw [Bool.eq_iff_iff, List.any_eq_true, List.any_eq_true]
    simp only [hp.mem_iff]
  have hg : (greatest L = none ∧ greatest L' = none) ∨ ∃ x y, greatest L = some x ∧ greatest L' = some y ∧ x.b = y.b ∧ x.e = y.e := by
    have g1 := greatest_best L
    have g2 := greatest_best L'
    have hm : ∀ y, y ∈ only [2] L ↔ y ∈ only [2] L' := fun y => by rw [mem_only, mem_only, hp.mem_iff]
    cases h1 : greatest L with
    | none =>
      rw [h1] at g1
      have g1 : only [2] L = [] := g1
      cases h2 : greatest L' with
      | none => exact .inl ⟨rfl, rfl⟩
      | some y =>
        rw [h2] at g2
        have := (hm y).2 g2.1
        rw [g1] at this; cases this
    | some x =>
      rw [h1] at g1
      cases h2 : greatest L' with
      | none =>
        rw [h2] at g2
        have g2 : only [2] L' = [] := g2
        have := (hm x).1 g1.1
        rw [g2] at this; cases this
      | some y =>
        rw [h2] at g2
        have e : x.b = y.b := less_total (g1.2.1 y ((hm y).2 g2.1)) (g2.2.1 x ((hm x).1 g1.1))
        have mx := mem_only.1 g1.1
        have my := mem_only.1 ((hm y).2 g2.1)
        exact .inr ⟨x, y, rfl, rfl, e, hc x mx.1 y my.1 (by simpa using mx.2) (by simpa using my.2) e⟩
  have ha : ∀ z, above (greatest L) z = above (greatest L') z := by
    intro z
    rcases hg with ⟨h1, h2⟩ | ⟨x, y, h1, h2, h3, _⟩
    · rw [h1, h2]
    · rw [h1, h2]; show lessB x.b z.b = lessB y.b z.b; rw [h3]
  have hf : ∀ z, fineB n L z = fineB n L' z := by
    intro z
    unfold fineB cntGe
    rw [ha, only_perm hp, only_perm (S := [4]) hp, (hp.filter _).length_eq]
  have hk : knownB n L = knownB n L' := by
    unfold knownB
    rw [only_perm hp, only_perm (S := [4]) hp]
    congr 1
    rw [Bool.eq_iff_iff, List.all_eq_true, List.all_eq_true]
    simp only [hp.mem_iff, hf]
  unfold decR
  rw [hb, hk, only_perm hp]
  rcases hg with ⟨h1, h2⟩ | ⟨x, y, h1, h2, _, h4⟩
  · rw [h1, h2]
  · rw [h1, h2]; simp only [h4]
theorem only_set {S : List Nat} {L : List Rp} {k : Nat} (hk : k < L.length) {a : Rp} (h1 : S.contains L[k].st = false) (h2 : S.contains a.st = false) : only S (L.set k a) = only S L := by
  unfold only
  conv => rhs; rw [← List.take_append_drop k L, List.drop_eq_getElem_cons hk]
  rw [List.set_eq_take_append_cons_drop, if_pos hk, List.filter_append, List.filter_append, List.filter_cons_of_neg (by rw [h2]; simp), List.filter_cons_of_neg (by rw [h1]; simp)]
theorem greatest_only (L : List Rp) : greatest L = greatest (only [2] L) := by
  unfold greatest
  have key : ∀ (L : List Rp) (g : Option Rp), L.foldl stepG g = (only [2] L).foldl stepG g := by
    intro L
    induction L with
    | nil => intro g; rfl
    | cons a L ih =>
      intro g
      by_cases ha : a.st = 2
      · have e : only [2] (a :: L) = a :: only [2] L := by unfold only; rw [List.filter_cons_of_pos (by simp [ha])]
        rw [e]; exact ih _
      · have e : only [2] (a :: L) = only [2] L := by unfold only; rw [List.filter_cons_of_neg (by simpa using ha)]
        rw [e]
        have hs : stepG g a = g := by unfold stepG; rw [if_neg (by simp [ha])]
        simp only [List.foldl_cons]
        rw [hs]; exact ih g
  exact key L none
theorem only_pos {L : List Rp} {k : Nat} (hk : k < L.length) (h : L[k].st = 0) : 0 < (only [0] L).length := List.length_pos_of_mem (mem_only.2 ⟨List.getElem_mem hk, by simp [h]⟩)
/-- What ChooseMore asks. -/
theorem more_plain {n : Int} {L : List Rp} (h : badB n L = false) {k : Nat} (hk : k < L.length) (h0 : L[k].st = 0) {a : Rp} (ha : a.st = 1) :
    badB n (L.set k a) = false ∧ (decR n L).2.2 = 0 ∧ (decR n (L.set k a)).2.2 = 0 ∧ ((decR n L).1 = 0 ∨ ((decR n L).1 = (decR n (L.set k a)).1 ∧ (decR n L).2.1 = (decR n (L.set k a)).2.1)) := by
  obtain ⟨c1, c2, c3⟩ := not_bad h
  have hb : badB n (L.set k a) = false := by
    unfold badB
    rw [List.length_set, decide_eq_true c2, crowd_iff.2 c1]
    simp only [Bool.not_true, Bool.false_or]
    rw [List.any_eq_false]
    intro x hx
    rcases List.mem_or_eq_of_mem_set hx with hx | rfl
    · have := c3 x hx; simp; omega
    · simp [ha]
  have hg : greatest (L.set k a) = greatest L := by
    rw [greatest_only, greatest_only L, only_set hk (by rw [h0]; rfl) (by rw [ha]; rfl)]
  have e4 : only [4] (L.set k a) = only [4] L := only_set hk (by rw [h0]; rfl) (by rw [ha]; rfl)
  have e3 : only [3] (L.set k a) = only [3] L := only_set hk (by rw [h0]; rfl) (by rw [ha]; rfl)
  have ec : ∀ b, cntGe b (L.set k a) = cntGe b L := fun b => by rw [cntGe_is, cntGe_is, e3]
  have e0 : (only [0] (L.set k a)).length ≤ (only [0] L).length := by
    have e : only [0] L = only [0] (L.take k) ++ L[k] :: only [0] (L.drop (k + 1)) := by
      unfold only
      conv => lhs; rw [← List.take_append_drop k L, List.drop_eq_getElem_cons hk]
      rw [List.filter_append, List.filter_cons_of_pos (by rw [h0]; rfl)]
    have e' : only [0] (L.set k a) = only [0] (L.take k) ++ only [0] (L.drop (k + 1)) := by
      unfold only
      rw [List.set_eq_take_append_cons_drop, if_pos hk, List.filter_append, List.filter_cons_of_neg (by rw [ha]; simp)]
    rw [e, e']
    simp
  have hpos := only_pos hk h0
  have hkn : knownB n L = true → knownB n (L.set k a) = true := by
    intro hK
    unfold knownB at hK ⊢
    rw [Bool.and_eq_true, decide_eq_true_eq] at hK ⊢
    rw [e4]
    refine ⟨by omega, List.all_eq_true.2 fun x hx => ?_⟩
    unfold fineB
    rw [hg, e4, ec]
    rcases List.mem_or_eq_of_mem_set hx with hx | rfl
    · have := List.all_eq_true.1 hK.2 x hx
      unfold fineB at this
      simp only [Bool.or_eq_true, decide_eq_true_eq] at this ⊢
      rcases this with h | h
      · exact .inl h
      · exact .inr (by omega)
    · rw [ha]; rfl
  have hz : ∀ M : List Rp, badB n M = false → (decR n M).2.2 = 0 := fun M hM => by
    rcases decR_cases hM with ⟨hc, _⟩ | ⟨_, ⟨hc, _⟩ | ⟨x, hc, _⟩⟩ <;> rw [hc]
  refine ⟨hb, hz L h, hz _ hb, ?_⟩
  rcases decR_cases h with ⟨hc, _⟩ | ⟨hK, hc⟩
  · exact .inl (by rw [hc])
  · right
    have hK : knownB n L = true := hK.resolve_right (fun h => h hpos)
    rcases hc with ⟨hc, hgn⟩ | ⟨x, hc, hgs⟩
    · rw [hc, decR_none hb (.inl (hkn hK)) (hg.trans hgn)]; exact ⟨rfl, rfl⟩
    · rw [hc, decR_some hb (.inl (hkn hK)) (hg.trans hgs)]; exact ⟨rfl, rfl⟩
end Ch
end Go.Proofs.Ytpgejomhcojppaa
