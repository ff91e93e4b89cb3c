/- What may be proposed: the program's way and the document's come to the same. -/
import Derived.Test.YtpgejomhcojppaaChooseDecPlain
set_option linter.unusedSimpArgs false
set_option linter.unusedVariables false
namespace Go.Proofs.Ytpgejomhcojppaa
open Go.RowKit
namespace Ch
open Bl Qm
/-- Is a report above the best one? -/
def above (g : Option Rp) (x : Rp) : Bool := match g with | none => true | some y => lessB y.b x.b
def stepG (g : Option Rp) (x : Rp) : Option Rp := if x.st == 2 && above g x then some x else g
/-- The first intact report of the greatest ballot. -/
def greatest (L : List Rp) : Option Rp := L.foldl stepG none
def cntGe (b : Ba) (L : List Rp) : Nat := (L.filter fun k => k.st == 3 && !lessB k.b b).length
/-- Is it fine by this report? -/
def fineB (n : Int) (L : List Rp) (x : Rp) : Bool := !(x.st == 3) || !above (greatest L) x || decide (((only [0] L).length : Int) + (only [4] L).length + cntGe x.b L < mostN n)
def knownB (n : Int) (L : List Rp) : Bool := decide ((mostN n : Int) ≤ n - (only [0] L).length - (only [4] L).length) && L.all (fineB n L)
def badB (n : Int) (L : List Rp) : Bool := !crowdB n || !decide ((L.length : Int) = n) || L.any fun x => decide (4 < x.st)
def decR (n : Int) (L : List Rp) : Nat × En × Int :=
  if badB n L then (0, zeroEn, 2)
  else if !knownB n L && decide (0 < (only [0] L).length) then (0, zeroEn, 0)
  else match greatest L with
    | none => (1, noopEn, 0)
    | some x => (2, x.e, 0)

theorem only_one (s : Nat) (L : List Rp) : only [s] L = L.filter fun x => x.st == s := by
  unfold only
  congr 1
  funext x
  rw [Bool.eq_iff_iff]
  simp [List.contains_eq_mem]
theorem mem_only {S : List Nat} {L : List Rp} {x : Rp} : x ∈ only S L ↔ x ∈ L ∧ x.st ∈ S := by
  unfold only
  rw [List.mem_filter]
  simp [List.contains_eq_mem]
theorem mem_byB {b : Ba} {L : List Rp} {x : Rp} : x ∈ byB b L ↔ x ∈ L ∧ x.b = b := by
  unfold byB
  rw [List.mem_filter, same_iff]
theorem firstE_app {b : Ba} {A B : List Rp} (h : byB b A ≠ []) : firstE b (A ++ B) = firstE b A := by
  unfold firstE
  have e : byB b (A ++ B) = byB b A ++ byB b B := List.filter_append ..
  rw [e]
  cases hA : byB b A with
  | nil => exact absurd hA h
  | cons x r => rfl
theorem firstE_new {b : Ba} {A : List Rp} {x : Rp} (h : byB b A = []) (hx : x.b = b) : firstE b (A ++ [x]) = x.e := by
  unfold firstE
  have e : byB b (A ++ [x]) = byB b A ++ byB b [x] := List.filter_append ..
  have e2 : byB b [x] = [x] := by unfold byB; rw [List.filter_cons_of_pos (by rw [hx]; exact same_self b), List.filter_nil]
  rw [e, h, e2]; rfl
/-- The best of intact reports. -/
def Best (I : List Rp) : Option Rp → Prop
  | none => I = []
  | some x => x ∈ I ∧ (∀ y ∈ I, lessB x.b y.b = false) ∧ firstE x.b I = x.e
theorem best_one {pre : List Rp} {g : Option Rp} (h : Best (only [2] pre) g) (a : Rp) : Best (only [2] (pre ++ [a])) (stepG g a) := by
  have e : only [2] (pre ++ [a]) = only [2] pre ++ only [2] [a] := List.filter_append ..
  rw [e]
  by_cases ha : a.st = 2
  · have e2 : only [2] [a] = [a] := by unfold only; rw [List.filter_cons_of_pos (by simp [ha]), List.filter_nil]
    rw [e2]
    have hs : stepG g a = if above g a then some a else g := by unfold stepG; rw [ha]; rfl
    rw [hs]
    cases g with
    | none =>
      have h : only [2] pre = [] := h
      rw [h]
      exact ⟨by simp, by simp [less_self], by rw [List.nil_append]; exact firstE_new (A := []) rfl rfl⟩
    | some x =>
      obtain ⟨h1, h2, h3⟩ := h
      cases hl : lessB x.b a.b
      · rw [if_neg (by show ¬ lessB x.b a.b = true; rw [hl]; simp)]
        refine ⟨List.mem_append_left _ h1, fun y hy => ?_, ?_⟩
        · rcases List.mem_append.1 hy with hy | hy
          · exact h2 y hy
          · rw [List.mem_singleton.1 hy]; exact hl
        · rw [firstE_app (List.ne_nil_of_mem (mem_byB.2 ⟨h1, rfl⟩))]; exact h3
      · rw [if_pos (show above (some x) a = true from hl)]
        refine ⟨by simp, fun y hy => ?_, ?_⟩
        · rcases List.mem_append.1 hy with hy | hy
          · cases hy' : lessB a.b y.b
            · rfl
            · have := less_trans hl hy'; rw [h2 y hy] at this; cases this
          · rw [List.mem_singleton.1 hy]; exact less_self _
        · refine firstE_new ?_ rfl
          apply List.eq_nil_iff_forall_not_mem.2
          intro y hy
          obtain ⟨hy1, hy2⟩ := mem_byB.1 hy
          have := h2 y hy1
          rw [hy2, hl] at this; cases this
  · have e2 : only [2] [a] = [] := by unfold only; rw [List.filter_cons_of_neg (by simpa using ha), List.filter_nil]
    rw [e2, List.append_nil]
    have hs : stepG g a = g := by unfold stepG; rw [if_neg (by simp [ha])]
    rw [hs]; exact h
theorem greatest_best (L : List Rp) : Best (only [2] L) (greatest L) := by
  have key : ∀ (L pre : List Rp) (g : Option Rp), Best (only [2] pre) g → Best (only [2] (pre ++ L)) (L.foldl stepG g) := by
    intro L
    induction L with
    | nil => intro pre g h; rw [List.append_nil]; exact h
    | cons a L ih =>
      intro pre g h
      have := ih (pre ++ [a]) (stepG g a) (best_one h a)
      rw [List.append_assoc] at this
      exact this
  exact key L [] none rfl

theorem ddN_spec {s : List Ba} (hs : s.Pairwise fun x y => lessB x y = false) : ∀ j, j ≤ s.length → (ddN s j).Pairwise (fun x y => lessB y x = true) ∧ ∀ b, b ∈ ddN s j ↔ b ∈ s.take j
  | 0, _ => ⟨.nil, by simp [ddN]⟩
  | 1, hj => by
    rw [ddN_one s hj]
    refine ⟨List.pairwise_singleton _ _, fun b => ?_⟩
    rw [List.take_succ_eq_append_getElem hj]
    simp
  | q + 1 + 1, hj => by
    have hq : q + 1 < s.length := hj
    obtain ⟨h1, h2⟩ := ddN_spec hs (q + 1) (by omega)
    have hp := List.pairwise_iff_getElem.1 hs
    have hmem : ∀ b, b ∈ s.take (q + 1 + 1) ↔ b ∈ s.take (q + 1) ∨ b = s[q + 1] := by
      intro b
      rw [List.take_succ_eq_append_getElem hq, List.mem_append, List.mem_singleton]
    cases hsm : sameB s[q + 1] s[q]
    · rw [ddN_other s q hq hsm]
      refine ⟨List.pairwise_append.2 ⟨h1, List.pairwise_singleton _ _, ?_⟩, ?_⟩
      · intro a ha x hx
        rw [List.mem_singleton.1 hx]
        obtain ⟨i, hi, hia⟩ := List.getElem_of_mem ((h2 a).1 ha)
        rw [List.length_take] at hi
        have hia' : s[i]'(by omega) = a := by rw [← hia, List.getElem_take]
        have hl := hp i (q + 1) (by omega) hq (by omega)
        rw [hia'] at hl
        cases hc : lessB s[q + 1] a
        · exfalso
          have e := less_total hl hc
          rcases Nat.lt_or_ge i q with hiq | hiq
          · have a1 := hp i q (by omega) (by omega) hiq
            have a2 := hp q (q + 1) (by omega) hq (by omega)
            rw [hia'] at a1
            rw [← e] at a2
            have := less_total a1 a2
            rw [← e, ← this, same_self] at hsm; cases hsm
          · have : i = q := by omega
            subst this
            rw [hia', ← e, same_self] at hsm; cases hsm
        · rfl
      · intro b
        rw [hmem, List.mem_append, h2, List.mem_singleton]
    · rw [ddN_same s q hq hsm]
      refine ⟨h1, fun b => ?_⟩
      rw [h2, hmem]
      constructor
      · exact .inl
      · rintro (h | h)
        · exact h
        · rw [h, same_iff.1 hsm]
          have : s[q]'(by omega) = (s.take (q + 1))[q]'(by rw [List.length_take]; omega) := by rw [List.getElem_take]
          rw [this]; exact List.getElem_mem _
theorem ballots_spec (L : List Rp) : (ballots L).Pairwise (fun x y => lessB y x = true) ∧ ∀ b, b ∈ ballots L ↔ ∃ x ∈ L, x.b = b := by
  obtain ⟨h1, h2⟩ := ddN_spec (sortD_sorted (L.map (·.b))) _ (Nat.le_refl _)
  refine ⟨h1, fun b => ?_⟩
  show b ∈ ddN _ _ ↔ _
  rw [h2, List.take_length, (sortD_perm _).mem_iff, List.mem_map]
/-- How many of the lost ones are above a ballot, are not below it. -/
def gtN (b : Ba) (X : List Rp) : Nat := (X.filter fun x => lessB b x.b).length
def geN (b : Ba) (X : List Rp) : Nat := (X.filter fun x => !lessB x.b b).length
theorem ge_split (b : Ba) : ∀ X : List Rp, geN b X = gtN b X + (byB b X).length
  | [] => rfl
  | x :: X => by
    have ih := ge_split b X
    unfold geN gtN byB at ih ⊢
    simp only [List.filter_cons]
    cases h1 : lessB x.b b <;> cases h2 : lessB b x.b <;> cases h3 : sameB x.b b
    · rw [less_total h1 h2, same_self] at h3; cases h3
    · simp; omega
    · simp; omega
    · rw [same_iff.1 h3, less_self] at h2; cases h2
    · simp; omega
    · rw [same_iff.1 h3, less_self] at h1; cases h1
    · rw [less_asymm h1] at h2; cases h2
    · rw [less_asymm h1] at h2; cases h2
theorem cntGe_is (b : Ba) (L : List Rp) : cntGe b L = geN b (only [3] L) := by
  unfold cntGe geN
  rw [only_one, List.filter_filter]
  congr 1
  apply List.filter_congr
  intro x _
  exact Bool.and_comm _ _
/-- A lost report, above all that is intact, that may have been chosen. -/
def Spoil (most base : Int) (I X : List Rp) (D : List Ba) : Prop := ∃ x ∈ X, x.b ∈ D ∧ (∀ y ∈ I, lessB y.b x.b = true) ∧ most ≤ base + geN x.b X
def answer : Option Rp → Nat × En
  | none => (1, noopEn)
  | some x => (2, x.e)
theorem firstB_iff {b : Ba} {I : List Rp} : firstB b I = true ↔ ∃ x ∈ I, x.b = b := by
  unfold firstB
  constructor
  · intro h
    cases hl : byB b I with
    | nil => rw [hl] at h; cases h
    | cons x r => have := mem_byB.1 (show x ∈ byB b I by rw [hl]; simp); exact ⟨x, this⟩
  · rintro ⟨x, h1, h2⟩
    cases hl : byB b I with
    | nil => have := mem_byB.2 ⟨h1, h2⟩; rw [hl] at this; cases this
    | cons x r => rfl
theorem loop_spec (most base : Int) (I X : List Rp) (g : Option Rp) (hg : Best I g) : ∀ (D : List Ba) (many : Int), D.Pairwise (fun x y => lessB y x = true) → (∀ y ∈ I, y.b ∈ D) → (∀ x ∈ X, x.b ∈ D ∨ ∀ d ∈ D, lessB d x.b = true) →
    (∀ d ∈ D, (∃ y ∈ I, y.b = d) ∨ ∃ x ∈ X, x.b = d) → (∀ b r, D = b :: r → many = base + gtN b X) →
    (Spoil most base I X D → loopP most I X many D = none) ∧ (¬ Spoil most base I X D → loopP most I X many D = some (answer g))
  | [], many, _, h2, _, _, _ => by
    refine ⟨fun ⟨x, _, h, _⟩ => (by cases h), fun _ => ?_⟩
    rw [loopP_nil]
    cases g with
    | none => rfl
    | some x => exact absurd (h2 x hg.1) (by simp)
  | b :: r, many, h1, h2, h3, h4, h5 => by
    rw [loopP_cons]
    obtain ⟨hb, hr⟩ := List.pairwise_cons.1 h1
    cases hf : firstB b I
    · have hno : ∀ y ∈ I, y.b ≠ b := by
        intro y hy e
        rw [firstB_iff.2 ⟨y, hy, e⟩] at hf; cases hf
      have hIr : ∀ y ∈ I, y.b ∈ r := fun y hy => by
        rcases List.mem_cons.1 (h2 y hy) with h | h
        · exact absurd h (hno y hy)
        · exact h
      rw [if_neg (by simp)]
      have hm : many + ((byB b X).length : Int) = base + geN b X := by rw [h5 b r rfl, ge_split]; push_cast; omega
      rw [hm]
      by_cases hmost : most ≤ base + (geN b X : Int)
      · rw [if_pos hmost]
        have hsp : Spoil most base I X (b :: r) := by
          rcases h4 b (by simp) with ⟨y, hy, e⟩ | ⟨x, hx, e⟩
          · exact absurd e (hno y hy)
          · exact ⟨x, hx, by rw [e]; simp, fun y hy => by rw [e]; exact hb _ (hIr y hy), by rw [e]; exact hmost⟩
        exact ⟨fun _ => rfl, fun h => absurd hsp h⟩
      · rw [if_neg hmost]
        have hX : ∀ x ∈ X, x.b ∈ r ∨ ∀ d ∈ r, lessB d x.b = true := by
          intro x hx
          rcases h3 x hx with h | h
          · rcases List.mem_cons.1 h with h | h
            · right; intro d hd; rw [h]; exact hb d hd
            · exact .inl h
          · right; intro d hd; exact h d (List.mem_cons_of_mem _ hd)
        have hiff : Spoil most base I X (b :: r) ↔ Spoil most base I X r := by
          constructor
          · rintro ⟨x, a1, a2, a3, a4⟩
            rcases List.mem_cons.1 a2 with h | h
            · rw [h] at a4; exact absurd a4 hmost
            · exact ⟨x, a1, h, a3, a4⟩
          · rintro ⟨x, a1, a2, a3, a4⟩
            exact ⟨x, a1, List.mem_cons_of_mem _ a2, a3, a4⟩
        rw [hiff]
        refine loop_spec most base I X g hg r _ hr hIr hX (fun d hd => h4 d (List.mem_cons_of_mem _ hd)) ?_
        intro b' r' he
        subst he
        have : geN b X = gtN b' X := by
          unfold geN gtN
          congr 1
          apply List.filter_congr
          intro x hx
          have hbb := hb b' (by simp)
          have hr' := (List.pairwise_cons.1 hr).1
          rcases h3 x hx with h | h
          · rcases List.mem_cons.1 h with h | h
            · rw [h, less_self, hbb]; rfl
            · rcases List.mem_cons.1 h with h | h
              · rw [h, less_self, hbb]; rfl
              · have k1 := hr' _ h
                have k2 := hb _ (List.mem_cons_of_mem _ h)
                rw [k2, less_asymm k1]; rfl
          · have k1 := h b (by simp)
            have k2 := h b' (by simp)
            rw [less_asymm k1, k2]; rfl
        rw [this]
    · rw [if_pos rfl]
      obtain ⟨y, hy, hyb⟩ := firstB_iff.1 hf
      have hnsp : ¬ Spoil most base I X (b :: r) := by
        rintro ⟨x, _, a2, a3, _⟩
        have k := a3 y hy
        rw [hyb] at k
        rcases List.mem_cons.1 a2 with h | h
        · rw [h, less_self] at k; cases k
        · have := hb _ h
          rw [less_asymm this] at k; cases k
      refine ⟨fun h => absurd h hnsp, fun _ => ?_⟩
      cases g with
      | none => have hg : I = [] := hg; rw [hg] at hy; cases hy
      | some x =>
        obtain ⟨g1, g2, g3⟩ := hg
        have k1 := g2 y hy
        rw [hyb] at k1
        have hxb : x.b = b := by
          rcases List.mem_cons.1 (h2 x g1) with h | h
          · exact h
          · have := hb _ h; rw [this] at k1; cases k1
        rw [← hxb, g3]; rfl
theorem most_pos {n : Int} : mostN n = 0 ↔ crowdB n = false := by
  have hc : crowdB n = true ↔ n = 3 ∨ n = 5 ∨ n = 7 := crowd_iff
  rcases most_cases n with h | h | h | h
  · constructor
    · omega
    · intro hf; rw [hc.2 (by omega)] at hf; cases hf
  · constructor
    · omega
    · intro hf; rw [hc.2 (by omega)] at hf; cases hf
  · constructor
    · omega
    · intro hf; rw [hc.2 (by omega)] at hf; cases hf
  · constructor
    · intro _
      cases hh : crowdB n
      · rfl
      · have := hc.1 hh; omega
    · intro _; exact h.2.2.2
theorem only_all {L : List Rp} : (only [0, 1, 2, 3, 4] L).length = L.length ↔ L.any (fun x => decide (4 < x.st)) = false := by
  unfold only
  rw [List.length_filter_eq_length_iff, List.any_eq_false]
  constructor
  · intro h x hx
    have := h x hx
    simp [List.contains_eq_mem] at this
    simp; omega
  · intro h x hx
    have := h x hx
    simp at this
    simp [List.contains_eq_mem]
    omega
theorem only_two : ∀ L : List Rp, (only [0, 4] L).length = (only [0] L).length + (only [4] L).length
  | [] => rfl
  | x :: L => by
    have ih := only_two L
    unfold only at ih ⊢
    simp only [List.filter_cons]
    by_cases h0 : x.st = 0
    · simp [h0, List.contains_eq_mem] at ih ⊢; omega
    · by_cases h4 : x.st = 4
      · simp [h4, List.contains_eq_mem] at ih ⊢; omega
      · simp [h0, h4, List.contains_eq_mem] at ih ⊢; omega
theorem above_iff {I : List Rp} {g : Option Rp} (hg : Best I g) (x : Rp) : above g x = true ↔ ∀ y ∈ I, lessB y.b x.b = true := by
  cases g with
  | none => have hg : I = [] := hg; rw [hg]; simp [above]
  | some z =>
    obtain ⟨g1, g2, _⟩ := hg
    constructor
    · intro h y hy
      have h : lessB z.b x.b = true := h
      cases hc : lessB y.b x.b
      · rw [less_of_not (g2 y hy) hc] at h; cases h
      · rfl
    · intro h; exact h z g1
theorem rest_is (L : List Rp) : restP L = if 0 < (only [0] L).length then ((0, zeroEn, 0) : Nat × En × Int) else match greatest L with | none => (1, noopEn, 0) | some x => (2, x.e, 0) := by
  unfold restP
  split
  · rfl
  · have hg := greatest_best L
    obtain ⟨s1, s2⟩ := ballots_spec (only [2] L)
    cases hb : ballots (only [2] L) with
    | nil =>
      cases hgr : greatest L with
      | none => rfl
      | some x =>
        rw [hgr] at hg
        have := (s2 x.b).2 ⟨x, hg.1, rfl⟩
        rw [hb] at this; cases this
    | cons b r =>
      rw [hb] at s1 s2
      obtain ⟨y, hy, hyb⟩ := (s2 b).1 (by simp)
      cases hgr : greatest L with
      | none => rw [hgr] at hg; have hg : only [2] L = [] := hg; rw [hg] at hy; cases hy
      | some x =>
        rw [hgr] at hg
        obtain ⟨g1, g2, g3⟩ := hg
        have hxb : x.b = b := by
          rcases List.mem_cons.1 ((s2 x.b).2 ⟨x, g1, rfl⟩) with h | h
          · exact h
          · have k1 := (List.pairwise_cons.1 s1).1 _ h
            have k2 := g2 y hy
            rw [hyb, k1] at k2; cases k2
        show (2, firstE b (only [2] L), (0 : Int)) = _
        rw [← hxb, g3]
/-- The two ways come to the same. -/
theorem decW_eq (n : Int) (L : List Rp) : decW n L = decR n L := by
  unfold decW decR
  by_cases hbad : mostN n = 0 ∨ (L.length : Int) ≠ n ∨ ((only [0, 1, 2, 3, 4] L).length : Int) ≠ n
  · have hb : badB n L = true := by
      unfold badB
      rw [Bool.or_eq_true, Bool.or_eq_true]
      by_cases hn : (L.length : Int) = n
      · rcases hbad with h | h | h
        · rw [most_pos.1 h]; exact .inl (.inl rfl)
        · exact absurd hn h
        · right
          cases ha : L.any fun x => decide (4 < x.st)
          · have := only_all.2 ha; rw [this] at h; exact absurd hn h
          · rfl
      · exact .inl (.inr (by simp [hn]))
    rw [if_pos hbad, if_pos hb]
  · have h1 : mostN n ≠ 0 := fun h => hbad (.inl h)
    have h2 : (L.length : Int) = n := by
      by_cases h : (L.length : Int) = n
      · exact h
      · exact absurd (.inr (.inl h)) hbad
    have h3 : (only [0, 1, 2, 3, 4] L).length = L.length := by
      by_cases h : ((only [0, 1, 2, 3, 4] L).length : Int) = n
      · omega
      · exact absurd (.inr (.inr h)) hbad
    have hb : badB n L = false := by
      unfold badB
      rw [only_all.1 h3]
      have hc : crowdB n = true := by
        cases hh : crowdB n
        · exact absurd (most_pos.2 hh) h1
        · rfl
      rw [hc]; simp [h2]
    rw [if_neg hbad, hb, if_neg (show ¬ (false = true) by simp), only_two]
    have hg := greatest_best L
    obtain ⟨s1, s2⟩ := ballots_spec (only [2, 3] L)
    have hL := loop_spec (mostN n) (((only [0] L).length + (only [4] L).length : Nat) : Int) (only [2] L) (only [3] L) (greatest L) hg (ballots (only [2, 3] L)) (((only [0] L).length + (only [4] L).length : Nat) : Int) s1
      (fun y hy => (s2 _).2 ⟨y, mem_only.2 ⟨(mem_only.1 hy).1, by have := (mem_only.1 hy).2; simp at this; simp [this]⟩, rfl⟩)
      (fun x hx => .inl ((s2 _).2 ⟨x, mem_only.2 ⟨(mem_only.1 hx).1, by have := (mem_only.1 hx).2; simp at this; simp [this]⟩, rfl⟩))
      (fun d hd => by
        obtain ⟨x, hx, e⟩ := (s2 d).1 hd
        obtain ⟨hx1, hx2⟩ := mem_only.1 hx
        simp at hx2
        rcases hx2 with h | h
        · exact .inl ⟨x, mem_only.2 ⟨hx1, by simp [h]⟩, e⟩
        · exact .inr ⟨x, mem_only.2 ⟨hx1, by simp [h]⟩, e⟩)
      (fun b r he => by
        have : gtN b (only [3] L) = 0 := by
          unfold gtN
          rw [List.length_eq_zero_iff, List.filter_eq_nil_iff]
          intro x hx
          have hm := (s2 x.b).2 ⟨x, mem_only.2 ⟨(mem_only.1 hx).1, by have := (mem_only.1 hx).2; simp at this; simp [this]⟩, rfl⟩
          rw [he] at hm s1
          rcases List.mem_cons.1 hm with h | h
          · rw [h, less_self]; simp
          · have k := (List.pairwise_cons.1 s1).1 _ h
            rw [less_asymm k]; simp
        rw [this]; simp)
    have hsp : Spoil (mostN n) (((only [0] L).length + (only [4] L).length : Nat) : Int) (only [2] L) (only [3] L) (ballots (only [2, 3] L)) ↔ L.all (fineB n L) = false := by
      rw [List.all_eq_false]
      constructor
      · rintro ⟨x, a1, _, a3, a4⟩
        refine ⟨x, (mem_only.1 a1).1, ?_⟩
        have hst : x.st = 3 := by have := (mem_only.1 a1).2; simpa using this
        unfold fineB
        rw [(above_iff hg x).2 a3, cntGe_is, hst]
        simp
        push_cast at a4
        omega
      · rintro ⟨x, hx, hf⟩
        unfold fineB at hf
        simp only [Bool.or_eq_true, Bool.not_eq_true', decide_eq_true_eq, not_or, beq_eq_false_iff_ne, ne_eq, Decidable.not_not, Bool.not_eq_false] at hf
        obtain ⟨⟨f1, f2⟩, f3⟩ := hf
        have hx3 : x ∈ only [3] L := mem_only.2 ⟨hx, by simp [f1]⟩
        refine ⟨x, hx3, (s2 _).2 ⟨x, mem_only.2 ⟨hx, by simp [f1]⟩, rfl⟩, (above_iff hg x).1 f2, ?_⟩
        rw [cntGe_is] at f3
        push_cast
        omega
    by_cases hk : (mostN n : Int) ≤ n - (((only [0] L).length + (only [4] L).length : Nat) : Int)
    · rw [if_pos hk]
      have hk' : decide ((mostN n : Int) ≤ n - (only [0] L).length - (only [4] L).length) = true := by rw [decide_eq_true_eq]; push_cast at hk; omega
      have hkb : knownB n L = L.all (fineB n L) := by unfold knownB; rw [hk', Bool.true_and]
      cases ha : L.all (fineB n L)
      · rw [hL.1 (hsp.2 ha), hkb, ha]
        show restP L = _
        rw [rest_is]
        by_cases h0 : 0 < (only [0] L).length
        · rw [if_pos h0, if_pos (by simp [h0])]
        · rw [if_neg h0, if_neg (by simp [h0])]
      · rw [hL.2 (fun h => by rw [hsp.1 h] at ha; cases ha), hkb, ha, if_neg (by simp)]
        cases greatest L <;> rfl
    · rw [if_neg hk]
      have hk' : decide ((mostN n : Int) ≤ n - (only [0] L).length - (only [4] L).length) = false := by rw [decide_eq_false_iff_not]; push_cast at hk; omega
      have hkb : knownB n L = false := by unfold knownB; rw [hk', Bool.false_and]
      rw [hkb]
      show restP L = _
      rw [rest_is]
      by_cases h0 : 0 < (only [0] L).length
      · rw [if_pos h0, if_pos (by simp [h0])]
      · rw [if_neg h0, if_neg (by simp [h0])]
end Ch
end Go.Proofs.Ytpgejomhcojppaa
