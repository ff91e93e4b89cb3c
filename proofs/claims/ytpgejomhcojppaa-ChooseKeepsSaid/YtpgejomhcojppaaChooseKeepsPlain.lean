/- Two values are never chosen, in plain Lean: the slot, what happens to it, and what stays true. -/
import Derived.Test.YtpgejomhcojppaaChooseGreatest
set_option linter.unusedSimpArgs false
set_option linter.unusedVariables false
namespace Go.Proofs.Ytpgejomhcojppaa
open Go.RowKit
namespace Ch
open Bl Qm
/-- What a replica has of the slot. -/
structure Pl where
  pr : Ba
  b : Ba
  st : Nat
  sq : Int
/-- A proposal. -/
structure Pp where
  b : Ba
  sq : Int
  by_ : Nat
structure Sl where
  n : Nat
  ps : List Pl
  qs : List Pp
  ch : Int
  cb : Ba
def zeroPl : Pl := ⟨zeroBa, zeroBa, 0, 0⟩
def Sl.at_ (s : Sl) (i : Nat) : Pl := s.ps.getD i zeroPl
/-- How many numbers below n. -/
def num (n : Nat) (p : Nat → Bool) : Nat := ((List.range n).filter p).length
theorem num_mono {n : Nat} {p q : Nat → Bool} (h : ∀ i < n, p i = true → q i = true) : num n p ≤ num n q := by
  unfold num
  have e : (List.range n).filter p = ((List.range n).filter q).filter p := by
    rw [List.filter_filter]
    apply List.filter_congr
    intro i hi
    cases hp : p i
    · rfl
    · rw [h i (List.mem_range.1 hi) hp]; rfl
  rw [e]
  exact List.length_filter_le _ _
theorem num_all (n : Nat) : num n (fun _ => true) = n := by unfold num; rw [List.filter_eq_self.2 (fun _ _ => rfl), List.length_range]
theorem num_le (n : Nat) (p : Nat → Bool) : num n p ≤ n := by
  have := num_mono (n := n) (p := p) (q := fun _ => true) (fun _ _ _ => rfl)
  rwa [num_all] at this
theorem filter_or (p q : Nat → Bool) : ∀ l : List Nat, (l.filter (fun i => p i || q i)).length ≤ (l.filter p).length + (l.filter q).length ∧ (l.filter p).length + (l.filter q).length ≤ (l.filter (fun i => p i || q i)).length + (l.filter (fun i => p i && q i)).length
  | [] => by simp
  | x :: l => by
    have ih := filter_or p q l
    simp only [List.filter_cons]
    cases hp : p x <;> cases hq : q x <;> simp <;> omega
theorem num_or (n : Nat) (p q : Nat → Bool) : num n (fun i => p i || q i) ≤ num n p + num n q := (filter_or p q _).1
/-- Two great sets meet. -/
theorem num_meet {n : Nat} {p q : Nat → Bool} (h : n < num n p + num n q) : ∃ i, i < n ∧ p i = true ∧ q i = true := by
  have h1 := (filter_or p q (List.range n)).2
  have h2 := num_le n (fun i => p i || q i)
  unfold num at h h2
  have h3 : 0 < ((List.range n).filter (fun i => p i && q i)).length := by omega
  obtain ⟨i, hi⟩ := List.exists_mem_of_length_pos h3
  rw [List.mem_filter, Bool.and_eq_true] at hi
  exact ⟨i, List.mem_range.1 hi.1, hi.2.1, hi.2.2⟩
theorem num_congr {n : Nat} {p q : Nat → Bool} (h : ∀ i < n, p i = q i) : num n p = num n q := by
  unfold num
  rw [List.filter_congr]
  intro i hi
  exact h i (List.mem_range.1 hi)
theorem bits_mod : ∀ s : Fin 256, ∀ n ∈ [3, 5, 7], (bitsOf (s.1 % 2 ^ n)).length = ((List.range n).filter fun i => s.1.testBit i).length := by decide +kernel
theorem enough_iff {s n : Nat} (hs : s < 256) (hn : n = 3 ∨ n = 5 ∨ n = 7) : enoughB s (n : Int) = decide (mostN (n : Int) ≤ num n (fun i => hasB s (i : Int))) := by
  have hm : mostN (n : Int) ≠ 0 := by rw [Ne, most_pos, crowd_iff.2 (by omega)]; simp
  have h := bits_mod ⟨s, hs⟩ n (by simp; exact hn)
  have e : num n (fun i => hasB s (i : Int)) = ((List.range n).filter fun i => s.testBit i).length := by
    apply num_congr
    intro i hi
    unfold hasB
    rw [decide_eq_true (by omega)]
    simp
  unfold enoughB membersN belowN
  rw [if_neg hm, decide_eq_true (by omega : 0 < mostN (n : Int)), Bool.true_and, e, ← h]
  rfl
theorem most_twice {n : Nat} (hn : n = 3 ∨ n = 5 ∨ n = 7) : n < 2 * mostN (n : Int) := by
  rcases hn with rfl | rfl | rfl <;> decide
theorem has_add {s i j : Nat} (hs : s < 256) (hi : i < 7) (hj : j < 7) : hasB (addN s (i : Int)) (j : Int) = (hasB s (j : Int) || decide (i = j)) := by
  have key : ∀ s : Fin 256, ∀ i : Fin 7, ∀ j : Fin 7, (s.1 ||| 2 ^ i.1).testBit j.1 = (s.1.testBit j.1 || decide (i.1 = j.1)) := by decide +kernel
  have := key ⟨s, hs⟩ ⟨i, hi⟩ ⟨j, hj⟩
  unfold hasB addN oneN
  rw [if_pos (by omega), decide_eq_true (by omega)]
  simpa using this
theorem exists_min (f : Nat → Ba) : ∀ l : List Nat, l ≠ [] → ∃ x ∈ l, ∀ y ∈ l, lessB (f y) (f x) = false
  | [], h => absurd rfl h
  | [a], _ => ⟨a, by simp, by simp [less_self]⟩
  | a :: b :: l, _ => by
    obtain ⟨x, hx, hmin⟩ := exists_min f (b :: l) (by simp)
    cases h : lessB (f a) (f x)
    · refine ⟨x, List.mem_cons_of_mem _ hx, fun y hy => ?_⟩
      rcases List.mem_cons.1 hy with rfl | hy
      · exact h
      · exact hmin y hy
    · refine ⟨a, by simp, fun y hy => ?_⟩
      rcases List.mem_cons.1 hy with rfl | hy
      · exact less_self _
      · cases h2 : lessB (f y) (f a)
        · rfl
        · have := less_trans h2 h
          rw [hmin y hy] at this; cases this
def takes (q : Pp) (some : Nat) (x : Pl) (i : Nat) : Bool := hasB some (i : Int) && !lessB q.b x.pr
def accPl (q : Pp) : Pl := ⟨q.b, q.b, 2, q.sq⟩
def accN (q : Pp) (some : Nat) (ps : List Pl) : Nat → List Pl × Nat
  | 0 => (ps, q.by_)
  | i + 1 => let r := accN q some ps i; if takes q some (r.1.getD i zeroPl) i then (r.1.set i (accPl q), addN r.2 (i : Int)) else r
def accepts (s : Sl) (k : Nat) (some : Nat) : Sl × Bool :=
  let q := s.qs.getD k ⟨zeroBa, 0, 0⟩
  let r := accN q some s.ps s.n
  let s1 : Sl := ⟨s.n, r.1, s.qs.set k ⟨q.b, q.sq, r.2⟩, s.ch, s.cb⟩
  if enoughB r.2 (s.n : Int) then if s.ch = 0 then (⟨s1.n, s1.ps, s1.qs, q.sq, q.b⟩, true) else (s1, decide (s.ch = q.sq)) else (s1, true)
def othersB (ch : Int) (cb : Ba) (X : List Pl) (i : Nat) (n : Nat) : Bool := decide (ch = 0) || (List.range n).any fun k => decide (k ≠ i) && (X.getD k zeroPl).st == 2 && !lessB (X.getD k zeroPl).b cb
def loseN (ch : Int) (cb : Ba) (n some blind : Nat) (ps : List Pl) : Nat → List Pl
  | 0 => ps
  | i + 1 =>
    let X := loseN ch cb n some blind ps i
    let x := X.getD i zeroPl
    if !hasB some (i : Int) || (!(x.st == 2) && !(x.st == 3)) then X
    else if !othersB ch cb X i n && x.st == 2 then X
    else X.set i ⟨x.pr, x.b, if hasB blind (i : Int) then 4 else 3, x.sq⟩
def loses (s : Sl) (some blind : Nat) : Sl := ⟨s.n, loseN s.ch s.cb s.n some blind s.ps s.n, s.qs, s.ch, s.cb⟩
def maxN (ps : List Pl) : Nat → Ba
  | 0 => zeroBa
  | i + 1 => maxL [maxN ps i, (ps.getD i zeroPl).pr]
def repN (x : Pl) : Rp := if x.st = 0 then ⟨0, 1, zeroBa, zeroEn⟩ else ⟨0, x.st, if x.st = 4 then zeroBa else x.b, if x.st = 2 then ⟨2, 0, x.sq, ⟨0, noStr, noStr, noStr⟩⟩ else zeroEn⟩
def askN (b : Ba) (S n : Nat) (ps : List Pl) : Nat → List Pl × List Rp
  | 0 => (ps, List.replicate n zeroRp)
  | i + 1 => let r := askN b S n ps i; if hasB S (i : Int) then (r.1.set i ⟨b, (r.1.getD i zeroPl).b, (r.1.getD i zeroPl).st, (r.1.getD i zeroPl).sq⟩, r.2.set i (repN (r.1.getD i zeroPl))) else r
def proposes (s : Sl) (who some : Nat) : Sl × Bool :=
  let z := nextZ (maxN s.ps s.n) (who : Int) (s.n : Int)
  if z.2 = 0 then
    let r := askN z.1 (addN some (who : Int)) s.n s.ps s.n
    let d := decR (s.n : Int) r.2
    if d.2.2 = 0 ∧ d.1 ≠ 0 then (⟨s.n, r.1, s.qs ++ [⟨z.1, if d.1 = 2 then d.2.1.sq else (s.qs.length : Int) + 1, 0⟩], s.ch, s.cb⟩, true)
    else (⟨s.n, r.1, s.qs, s.ch, s.cb⟩, false)
  else (s, false)
def openB (s : Sl) (a : Pp) (i : Nat) : Bool := hasB a.by_ (i : Int) || !lessB a.b (s.at_ i).pr
def hasAll (s : Sl) (a : Pp) (i : Nat) : Bool := hasB a.by_ (i : Int)
/-- What stays true of a slot. -/
structure Inv (s : Sl) : Prop where
  n357 : s.n = 3 ∨ s.n = 5 ∨ s.n = 7
  len : s.ps.length = 7
  by8 : ∀ q ∈ s.qs, q.by_ < 256
  sorted : s.qs.Pairwise fun a b => lessB a.b b.b = true
  sq1 : ∀ q ∈ s.qs, 1 ≤ q.sq
  sts : ∀ i < s.n, (s.at_ i).st = 0 ∨ (s.at_ i).st = 2 ∨ (s.at_ i).st = 3 ∨ (s.at_ i).st = 4
  acc : ∀ i < s.n, ∀ q ∈ s.qs, hasB q.by_ (i : Int) = true → (s.at_ i).st ≠ 0 ∧ lessB (s.at_ i).b q.b = false
  has : ∀ i < s.n, (s.at_ i).st ≠ 0 → ∃ q ∈ s.qs, (s.at_ i).b = q.b ∧ (s.at_ i).sq = q.sq
  pro : ∀ i < s.n, lessB (s.at_ i).pr (s.at_ i).b = false
  top : ∀ q ∈ s.qs, ∃ i, i < s.n ∧ lessB (s.at_ i).pr q.b = false
  safe : s.qs.Pairwise fun a b => mostN (s.n : Int) ≤ num s.n (openB s a) → a.sq = b.sq
  chN : s.ch = 0 → ∀ q ∈ s.qs, ¬ mostN (s.n : Int) ≤ num s.n (hasAll s q)
  chY : s.ch ≠ 0 → (∃ q ∈ s.qs, mostN (s.n : Int) ≤ num s.n (hasAll s q) ∧ q.sq = s.ch ∧ q.b = s.cb) ∧ ∃ i, i < s.n ∧ (s.at_ i).st = 2 ∧ lessB (s.at_ i).b s.cb = false
theorem Inv.open_same {s : Sl} (h : Inv s) {a q : Pp} (ha : a ∈ s.qs) (hq : q ∈ s.qs) (ho : mostN (s.n : Int) ≤ num s.n (openB s a)) (hl : lessB q.b a.b = false) : q.sq = a.sq := by
  obtain ⟨i, hi, rfl⟩ := List.getElem_of_mem ha
  obtain ⟨j, hj, rfl⟩ := List.getElem_of_mem hq
  rcases Nat.lt_trichotomy i j with hij | rfl | hij
  · exact (List.pairwise_iff_getElem.1 h.safe i j hi hj hij ho).symm
  · rfl
  · have := List.pairwise_iff_getElem.1 h.sorted j i hj hi hij
    rw [hl] at this; cases this
theorem Inv.same {s : Sl} (h : Inv s) {a q : Pp} (ha : a ∈ s.qs) (hq : q ∈ s.qs) (ho : mostN (s.n : Int) ≤ num s.n (openB s a)) (ho2 : mostN (s.n : Int) ≤ num s.n (openB s q)) : q.sq = a.sq := by
  cases hl : lessB q.b a.b
  · exact h.open_same ha hq ho hl
  · exact (h.open_same hq ha ho2 (less_asymm hl)).symm
theorem has_open (s : Sl) (a : Pp) (n : Nat) : num n (hasAll s a) ≤ num n (openB s a) := num_mono fun i _ h => by
  unfold openB
  rw [show hasB a.by_ (i : Int) = true from h]; rfl
/-- The reports that a candidate is told. -/
def repS (s : Sl) (S : Nat) (i : Nat) : Rp := if hasB S (i : Int) then repN (s.at_ i) else zeroRp
def repL (s : Sl) (S : Nat) : List Rp := (List.range s.n).map (repS s S)
theorem cntF_rep (p : Rp → Bool) (s : Sl) (S : Nat) : cntF p (repL s S) = num s.n (fun i => p (repS s S i)) := by
  unfold cntF repL num
  rw [List.filter_map, List.length_map]
  rfl
theorem mem_rep {s : Sl} {S : Nat} {x : Rp} : x ∈ repL s S ↔ ∃ i, i < s.n ∧ repS s S i = x := by
  unfold repL
  rw [List.mem_map]
  simp only [List.mem_range]
theorem rep_zero {s : Sl} {S i : Nat} (h : (repS s S i).st = 0) : hasB S (i : Int) = false := by
  cases hh : hasB S (i : Int)
  · rfl
  · exfalso
    unfold repS at h
    rw [if_pos (by exact hh)] at h
    unfold repN at h
    split at h
    · simp at h
    · rename_i h0; exact h0 h
theorem rep_st {s : Sl} {S i : Nat} (h : hasB S (i : Int) = true) (h0 : (s.at_ i).st ≠ 0) : (repS s S i).st = (s.at_ i).st ∧ ((s.at_ i).st ≠ 4 → (repS s S i).b = (s.at_ i).b) ∧ ((s.at_ i).st = 2 → (repS s S i).e.sq = (s.at_ i).sq) := by
  unfold repS repN
  rw [if_pos (by exact h), if_neg h0]
  refine ⟨rfl, fun h4 => if_neg h4, fun h2 => ?_⟩
  simp only [if_pos h2]
theorem rep_hi {s : Sl} (h : Inv s) {S i : Nat} (hi : i < s.n) (h2 : 2 ≤ (repS s S i).st) : hasB S (i : Int) = true ∧ (s.at_ i).st ≠ 0 := by
  unfold repS at h2
  split at h2
  · rename_i hh
    refine ⟨hh, fun h0 => ?_⟩
    unfold repN at h2
    rw [if_pos h0] at h2
    simp at h2
  · simp [zeroRp] at h2
theorem rep_good {s : Sl} (h : Inv s) (S : Nat) : badB (s.n : Int) (repL s S) = false := by
  unfold badB
  have hl : (repL s S).length = s.n := by unfold repL; simp
  rw [crowd_iff.2 (by have := h.n357; omega), hl, decide_eq_true rfl]
  simp only [Bool.not_true, Bool.false_or]
  rw [List.any_eq_false]
  intro x hx
  obtain ⟨i, hi, rfl⟩ := mem_rep.1 hx
  have := h.sts i hi
  unfold repS
  split
  · unfold repN
    split
    · simp
    · simp; omega
  · simp [zeroRp]
/-- An intact report by a ballot that isn't below an open proposal's: its value is told. -/
theorem told_value {s : Sl} (h : Inv s) (S : Nat) {a : Pp} (ha : a ∈ s.qs) (ho : mostN (s.n : Int) ≤ num s.n (openB s a)) {i : Nat} (hi : i < s.n) (h2 : (repS s S i).st = 2) (hb : lessB (s.at_ i).b a.b = false)
    (hk : knownB (s.n : Int) (repL s S) = true ∨ ¬ 0 < (only [0] (repL s S)).length) : (decR (s.n : Int) (repL s S)).1 = 2 ∧ (decR (s.n : Int) (repL s S)).2.1.sq = a.sq := by
  have hg := greatest_best (repL s S)
  have hm : repS s S i ∈ only [2] (repL s S) := mem_only.2 ⟨mem_rep.2 ⟨i, hi, rfl⟩, by simp [h2]⟩
  cases hx : greatest (repL s S) with
  | none =>
    rw [hx] at hg
    have hg : only [2] (repL s S) = [] := hg
    rw [hg] at hm; cases hm
  | some x =>
    rw [hx] at hg
    obtain ⟨g1, g2, _⟩ := hg
    rw [decR_some (rep_good h S) hk hx]
    refine ⟨rfl, ?_⟩
    obtain ⟨g3, g4⟩ := mem_only.1 g1
    obtain ⟨j, hj, rfl⟩ := mem_rep.1 g3
    have g4 : (repS s S j).st = 2 := by simpa using g4
    obtain ⟨j1, j2⟩ := rep_hi (S := S) h hj (by omega)
    obtain ⟨j3, j4, j5⟩ := rep_st j1 j2
    obtain ⟨i1, i2⟩ := rep_hi (S := S) h hi (by omega)
    obtain ⟨i3, i4, i5⟩ := rep_st i1 i2
    have hbe := g2 _ hm
    rw [j4 (by omega), i4 (by omega)] at hbe
    obtain ⟨q, hq, q1, q2⟩ := h.has j hj j2
    show (repS s S j).e.sq = a.sq
    rw [j5 (by omega), q2]
    refine h.open_same ha hq ho ?_
    rw [← q1]
    exact less_of_not hbe hb
/-- What a candidate is told fits every proposal that may still be chosen. -/
theorem told_open {s : Sl} (h : Inv s) (S : Nat) (hd : (decR (s.n : Int) (repL s S)).1 ≠ 0) {a : Pp} (ha : a ∈ s.qs)
    (ho : mostN (s.n : Int) ≤ num s.n (fun i => hasB a.by_ (i : Int) || (!hasB S (i : Int) && !lessB a.b (s.at_ i).pr))) : (decR (s.n : Int) (repL s S)).1 = 2 ∧ (decR (s.n : Int) (repL s S)).2.1.sq = a.sq := by
  have hopen : mostN (s.n : Int) ≤ num s.n (openB s a) := Nat.le_trans ho (num_mono fun i _ hi => by
    have hi : (hasB a.by_ (i : Int) || (!hasB S (i : Int) && !lessB a.b (s.at_ i).pr)) = true := hi
    rw [Bool.or_eq_true, Bool.and_eq_true] at hi
    unfold openB
    rcases hi with hi | hi
    · rw [hi]; rfl
    · rw [hi.2]; simp)
  have hm2 := most_twice h.n357
  rcases decR_cases (rep_good h S) with ⟨hc, _⟩ | ⟨hk, _⟩
  · rw [hc] at hd; exact absurd rfl hd
  by_cases hkn : knownB (s.n : Int) (repL s S) = true
  · by_cases hex : ∃ i, i < s.n ∧ (repS s S i).st = 2 ∧ lessB (s.at_ i).b a.b = false
    · obtain ⟨i, hi, h2, hb⟩ := hex
      exact told_value h S ha hopen hi h2 hb hk
    · exfalso
      have hlow : ∀ i, i < s.n → (repS s S i).st = 2 → lessB (s.at_ i).b a.b = true := fun i hi h2 => by
        cases hb : lessB (s.at_ i).b a.b
        · exact absurd ⟨i, hi, h2, hb⟩ hex
        · rfl
      have hkn' := hkn
      unfold knownB at hkn'
      rw [Bool.and_eq_true, decide_eq_true_eq] at hkn'
      obtain ⟨hk1, hk2⟩ := hkn'
      have hl : (repL s S).length = s.n := by unfold repL; simp
      have hc4 := counts4 (repL s S)
      rw [hl] at hc4
      have hK : mostN (s.n : Int) ≤ num s.n (fun i => knownR (repS s S i)) := by rw [← cntF_rep]; omega
      -- those of the proposal that are known are lost, and not below it
      have hT : ∀ i, i < s.n → (hasB a.by_ (i : Int) || (!hasB S (i : Int) && !lessB a.b (s.at_ i).pr)) = true → knownR (repS s S i) = true → (repS s S i).st = 3 ∧ lessB (s.at_ i).b a.b = false ∧ (repS s S i).b = (s.at_ i).b := by
        intro i hi hC hKi
        unfold knownR at hKi
        simp only [Bool.and_eq_true, Bool.not_eq_true', beq_eq_false_iff_ne] at hKi
        have hS : hasB S (i : Int) = true := by
          cases hS : hasB S (i : Int)
          · exfalso
            apply hKi.1
            unfold repS; rw [if_neg (by rw [hS]; simp)]; rfl
          · rfl
        rw [hS] at hC
        have hC : hasB a.by_ (i : Int) = true := by simpa using hC
        obtain ⟨a1, a2⟩ := h.acc i hi a ha hC
        obtain ⟨r1, r2, _⟩ := rep_st hS a1
        have hst := h.sts i hi
        have h4 : (s.at_ i).st ≠ 4 := by rw [← r1]; exact hKi.2
        refine ⟨?_, a2, r2 h4⟩
        have hn2 : (repS s S i).st ≠ 2 := fun h2 => by
          have := hlow i hi h2
          rw [a2] at this; cases this
        rw [r1] at hn2 ⊢
        omega
      obtain ⟨i, hi, hC, hKi⟩ := num_meet (n := s.n) (p := fun i => hasB a.by_ (i : Int) || (!hasB S (i : Int) && !lessB a.b (s.at_ i).pr)) (q := fun i => knownR (repS s S i)) (by omega)
      obtain ⟨x, hx, hmin⟩ := exists_min (fun i => (s.at_ i).b) ((List.range s.n).filter fun i => (hasB a.by_ (i : Int) || (!hasB S (i : Int) && !lessB a.b (s.at_ i).pr)) && knownR (repS s S i)) (List.ne_nil_of_mem (List.mem_filter.2 ⟨List.mem_range.2 hi, by rw [Bool.and_eq_true]; exact ⟨hC, hKi⟩⟩))
      rw [List.mem_filter, Bool.and_eq_true, List.mem_range] at hx
      obtain ⟨x1, x2, x3⟩ := hT x hx.1 hx.2.1 hx.2.2
      have hf := List.all_eq_true.1 hk2 (repS s S x) (mem_rep.2 ⟨x, hx.1, rfl⟩)
      unfold fineB at hf
      have hab : above (greatest (repL s S)) (repS s S x) = true := by
        rw [above_iff (greatest_best _)]
        intro y hy
        obtain ⟨y1, y2⟩ := mem_only.1 hy
        obtain ⟨j, hj, rfl⟩ := mem_rep.1 y1
        have y2 : (repS s S j).st = 2 := by simpa using y2
        obtain ⟨j1, j2⟩ := rep_hi (S := S) h hj (by omega)
        obtain ⟨j3, j4, _⟩ := rep_st j1 j2
        rw [j4 (by omega), x3]
        have hlo := hlow j hj y2
        cases hc : lessB (s.at_ j).b (s.at_ x).b
        · rw [less_of_not hc x2] at hlo; cases hlo
        · rfl
      rw [x1, hab] at hf
      have hf : ((only [0] (repL s S)).length : Int) + (only [4] (repL s S)).length + cntGe (repS s S x).b (repL s S) < mostN (s.n : Int) := by simpa using hf
      have hsub : num s.n (fun i => hasB a.by_ (i : Int) || (!hasB S (i : Int) && !lessB a.b (s.at_ i).pr)) ≤ num s.n (fun i => ((repS s S i).st == 0 || (repS s S i).st == 4) || ((repS s S i).st == 3 && !lessB (repS s S i).b (repS s S x).b)) := by
        apply num_mono
        intro j hj hCj
        cases hKj : knownR (repS s S j)
        · unfold knownR at hKj
          cases h0 : ((repS s S j).st == 0)
          · cases h4 : ((repS s S j).st == 4)
            · rw [h0, h4] at hKj; cases hKj
            · simp
          · simp
        · obtain ⟨t1, t2, t3⟩ := hT j hj hCj hKj
          have := hmin j (by rw [List.mem_filter, Bool.and_eq_true, List.mem_range]; exact ⟨hj, hCj, hKj⟩)
          have this : lessB (s.at_ j).b (s.at_ x).b = false := this
          rw [t1, t3, x3, this]; rfl
      have h1 := num_or s.n (fun i => ((repS s S i).st == 0 || (repS s S i).st == 4)) (fun i => ((repS s S i).st == 3 && !lessB (repS s S i).b (repS s S x).b))
      have h2 := num_or s.n (fun i => (repS s S i).st == 0) (fun i => (repS s S i).st == 4)
      have e0 : (only [0] (repL s S)).length = num s.n (fun i => (repS s S i).st == 0) := by rw [cntF_one, cntF_rep]
      have e4 : (only [4] (repL s S)).length = num s.n (fun i => (repS s S i).st == 4) := by rw [cntF_one, cntF_rep]
      have e3 : cntGe (repS s S x).b (repL s S) = num s.n (fun i => (repS s S i).st == 3 && !lessB (repS s S i).b (repS s S x).b) := by
        rw [show cntGe (repS s S x).b (repL s S) = cntF (fun k => k.st == 3 && !lessB k.b (repS s S x).b) (repL s S) from rfl, cntF_rep]
      omega
  · -- all were asked
    have h0 : (only [0] (repL s S)).length = 0 := by
      rcases hk with hk | hk
      · exact absurd hk hkn
      · omega
    have hall : ∀ i, i < s.n → hasB S (i : Int) = true := by
      intro i hi
      rw [cntF_one, cntF_rep] at h0
      cases hS : hasB S (i : Int)
      · exfalso
        have : 0 < num s.n (fun i => (repS s S i).st == 0) := by
          unfold num
          apply List.length_pos_of_mem (a := i)
          rw [List.mem_filter, List.mem_range]
          refine ⟨hi, ?_⟩
          unfold repS; rw [if_neg (by rw [hS]; simp)]; rfl
        omega
      · rfl
    have hch : mostN (s.n : Int) ≤ num s.n (hasAll s a) := by
      refine Nat.le_trans ho (num_mono fun i hi hC => ?_)
      rw [hall i hi] at hC
      simpa [hasAll] using hC
    have hne : s.ch ≠ 0 := fun hz => h.chN hz a ha hch
    obtain ⟨⟨q, hq, q1, q2, q3⟩, i, hi, i1, i2⟩ := h.chY hne
    have hqo := Nat.le_trans q1 (has_open s q s.n)
    have r := rep_st (S := S) (hall i hi) (by omega : (s.at_ i).st ≠ 0)
    obtain ⟨t1, t2⟩ := told_value h S hq hqo hi (by rw [r.1]; exact i1) (by rw [q3]; exact i2) hk
    exact ⟨t1, t2.trans (h.same ha hq hopen hqo)⟩
theorem getD_set (l : List Pl) (i j : Nat) (a d : Pl) (hi : i < l.length) : (l.set i a).getD j d = if i = j then a else l.getD j d := by
  rw [List.getD_eq_getElem?_getD, List.getD_eq_getElem?_getD, List.getElem?_set]
  split
  · rename_i h; subst h; simp [hi]
  · rfl
theorem accN_spec (q : Pp) (some : Nat) (ps : List Pl) (hl : ps.length = 7) (hq : q.by_ < 256) : ∀ i, i ≤ 7 →
    (accN q some ps i).1.length = 7 ∧ (accN q some ps i).2 < 256 ∧ (∀ j, (accN q some ps i).1.getD j zeroPl = if j < i ∧ takes q some (ps.getD j zeroPl) j = true then accPl q else ps.getD j zeroPl) ∧
    ∀ j : Nat, j < 7 → hasB (accN q some ps i).2 (j : Int) = (hasB q.by_ (j : Int) || (decide (j < i) && takes q some (ps.getD j zeroPl) j))
  | 0, _ => ⟨hl, hq, fun j => by rw [if_neg (by omega)]; rfl, fun j _ => by simp [accN]⟩
  | i + 1, hi => by
    obtain ⟨h1, h2, h3, h4⟩ := accN_spec q some ps hl hq i (by omega)
    have hx : (accN q some ps i).1.getD i zeroPl = ps.getD i zeroPl := by rw [h3, if_neg (by omega)]
    have e : accN q some ps (i + 1) = if takes q some (ps.getD i zeroPl) i then ((accN q some ps i).1.set i (accPl q), addN (accN q some ps i).2 (i : Int)) else accN q some ps i := by
      rw [← hx]; rfl
    rw [e]
    cases ht : takes q some (ps.getD i zeroPl) i
    · rw [if_neg (by simp)]
      refine ⟨h1, h2, fun j => ?_, fun j hj => ?_⟩
      · rw [h3]
        by_cases hji : j = i
        · subst hji; rw [if_neg (by omega), if_neg (by rw [ht]; simp)]
        · by_cases hjl : j < i
          · simp only [hjl, show j < i + 1 by omega, true_and]
          · rw [if_neg (by omega), if_neg (by omega)]
      · rw [h4 j hj]
        by_cases hji : j = i
        · subst hji; rw [ht]; simp
        · rw [show decide (j < i + 1) = decide (j < i) by rw [decide_eq_decide]; omega]
    · rw [if_pos rfl]
      refine ⟨by rw [List.length_set]; exact h1, addN_lt h2 _, fun j => ?_, fun j hj => ?_⟩
      · show (List.set _ i _).getD j zeroPl = _
        rw [getD_set _ _ _ _ _ (by rw [h1]; omega)]
        by_cases hji : i = j
        · subst hji; rw [if_pos rfl, if_pos ⟨by omega, ht⟩]
        · rw [if_neg hji, h3]
          by_cases hjl : j < i
          · simp only [hjl, show j < i + 1 by omega, true_and]
          · rw [if_neg (by omega), if_neg (by omega)]
      · show hasB (addN _ _) _ = _
        rw [has_add h2 (by omega) hj, h4 j hj]
        by_cases hji : i = j
        · subst hji; rw [ht]; simp
        · rw [show decide (j < i + 1) = decide (j < i) by rw [decide_eq_decide]; omega]; simp [hji]
theorem lt_of_set {l : List Pp} {k i : Nat} {a : Pp} (h : i < (l.set k a).length) : i < l.length := by rwa [List.length_set] at h
theorem Inv.n7 {s : Sl} (h : Inv s) : s.n ≤ 7 := by have := h.n357; omega
theorem takes_iff {q : Pp} {some i : Nat} {x : Pl} : takes q some x i = true ↔ hasB some (i : Int) = true ∧ lessB q.b x.pr = false := by
  unfold takes; rw [Bool.and_eq_true, Bool.not_eq_true']
theorem accepts_inv {s : Sl} (h : Inv s) {k : Nat} (hk : k < s.qs.length) (some : Nat) : (accepts s k some).2 = true ∧ Inv (accepts s k some).1 := by
  have hqk : s.qs.getD k ⟨zeroBa, 0, 0⟩ = s.qs[k] := by rw [List.getD_eq_getElem?_getD, List.getElem?_eq_getElem hk]; rfl
  obtain ⟨q, hq⟩ : ∃ q, s.qs[k] = q := ⟨_, rfl⟩
  have hqm : q ∈ s.qs := by rw [← hq]; exact List.getElem_mem hk
  have hn7 := h.n7
  obtain ⟨r1, r2, r3, r4⟩ := accN_spec q some s.ps h.len (h.by8 q hqm) s.n hn7
  unfold accepts
  rw [hqk, hq]
  dsimp only
  generalize accN q some s.ps s.n = r at r1 r2 r3 r4 ⊢
  obtain ⟨ps', by'⟩ := r
  dsimp only at r1 r2 r3 r4 ⊢
  have hat : ∀ i, i < s.n → ps'.getD i zeroPl = if takes q some (s.at_ i) i = true then accPl q else s.at_ i := fun i hi => by
    rw [r3 i]
    by_cases ht : takes q some (s.at_ i) i = true
    · rw [if_pos ⟨hi, ht⟩, if_pos ht]
    · rw [if_neg (fun hh => ht hh.2), if_neg ht]; rfl
  have hby : ∀ i, i < s.n → hasB by' (i : Int) = (hasB q.by_ (i : Int) || takes q some (s.at_ i) i) := fun i hi => by
    rw [r4 i (by omega), decide_eq_true hi]; rfl
  have hlen' : (s.qs.set k ⟨q.b, q.sq, by'⟩).length = s.qs.length := List.length_set
  -- the proposals, one by one
  have hget : ∀ m (hm : m < s.qs.length) (hm' : m < (s.qs.set k ⟨q.b, q.sq, by'⟩).length), (s.qs.set k ⟨q.b, q.sq, by'⟩)[m].b = s.qs[m].b ∧ (s.qs.set k ⟨q.b, q.sq, by'⟩)[m].sq = s.qs[m].sq ∧
      (∀ i, i < s.n → hasB s.qs[m].by_ (i : Int) = true → hasB (s.qs.set k ⟨q.b, q.sq, by'⟩)[m].by_ (i : Int) = true) ∧
      (∀ i, i < s.n → hasB (s.qs.set k ⟨q.b, q.sq, by'⟩)[m].by_ (i : Int) = true → hasB s.qs[m].by_ (i : Int) = true ∨ (s.qs[m] = q ∧ takes q some (s.at_ i) i = true)) ∧ (s.qs.set k ⟨q.b, q.sq, by'⟩)[m].by_ < 256 := by
    intro m hm hm'
    rw [List.getElem_set]
    by_cases hkm : k = m
    · subst hkm
      rw [if_pos rfl, hq]
      refine ⟨rfl, rfl, fun i hi hh => ?_, fun i hi hh => ?_, r2⟩
      · show hasB by' _ = true
        rw [hby i hi, hh]; rfl
      · have hh : hasB by' (i : Int) = true := hh
        rw [hby i hi, Bool.or_eq_true] at hh
        rcases hh with hh | hh
        · exact .inl hh
        · exact .inr ⟨rfl, hh⟩
    · rw [if_neg hkm]
      exact ⟨rfl, rfl, fun _ _ hh => hh, fun _ _ hh => .inl hh, h.by8 _ (List.getElem_mem hm)⟩
  -- a proposal of before that is open behind it was open
  have hop : ∀ ch cb m (hm : m < s.qs.length) (hm' : m < (s.qs.set k ⟨q.b, q.sq, by'⟩).length), num s.n (openB ⟨s.n, ps', s.qs.set k ⟨q.b, q.sq, by'⟩, ch, cb⟩ (s.qs.set k ⟨q.b, q.sq, by'⟩)[m]) ≤ num s.n (openB s s.qs[m]) := by
    intro ch cb m hm hm'
    obtain ⟨g1, g2, g3, g4, _⟩ := hget m hm hm'
    apply num_mono
    intro i hi ho
    unfold openB at ho ⊢
    rw [Bool.or_eq_true] at ho ⊢
    rcases ho with ho | ho
    · rcases g4 i hi ho with ho | ⟨e, ht⟩
      · exact .inl ho
      · right
        rw [e, (takes_iff.1 ht).2]; rfl
    · right
      rw [g1] at ho
      rw [Bool.not_eq_true'] at ho
      have ho : lessB s.qs[m].b (ps'.getD i zeroPl).pr = false := ho
      rw [hat i hi] at ho
      split at ho
      · rename_i ht
        rw [less_of_not ho (takes_iff.1 ht).2]; rfl
      · rw [ho]; rfl
  have hge : ∀ i, i < s.n → takes q some (s.at_ i) i = true → lessB q.b (s.at_ i).b = false := fun i hi ht => less_of_not (takes_iff.1 ht).2 (h.pro i hi)
  have mk : ∀ ch cb, (ch = 0 → ∀ m (hm : m < s.qs.length) (hm' : m < (s.qs.set k ⟨q.b, q.sq, by'⟩).length), ¬ mostN (s.n : Int) ≤ num s.n (fun i => hasB (s.qs.set k ⟨q.b, q.sq, by'⟩)[m].by_ (i : Int))) →
      (ch ≠ 0 → (∃ q0 ∈ s.qs.set k ⟨q.b, q.sq, by'⟩, mostN (s.n : Int) ≤ num s.n (fun i => hasB q0.by_ (i : Int)) ∧ q0.sq = ch ∧ q0.b = cb) ∧ ∃ i, i < s.n ∧ (ps'.getD i zeroPl).st = 2 ∧ lessB (ps'.getD i zeroPl).b cb = false) →
      Inv ⟨s.n, ps', s.qs.set k ⟨q.b, q.sq, by'⟩, ch, cb⟩ := by
    intro ch cb hN hY
    have hmem : ∀ a ∈ s.qs.set k ⟨q.b, q.sq, by'⟩, ∃ m, ∃ hm : m < s.qs.length, ∃ hm' : m < (s.qs.set k ⟨q.b, q.sq, by'⟩).length, (s.qs.set k ⟨q.b, q.sq, by'⟩)[m] = a := fun a ha => by
      obtain ⟨m, hm', e⟩ := List.getElem_of_mem ha
      exact ⟨m, by rw [hlen'] at hm'; exact hm', hm', e⟩
    refine ⟨h.n357, r1, ?_, ?_, ?_, ?_, ?_, ?_, ?_, ?_, ?_, ?_, hY⟩
    · intro a ha
      obtain ⟨m, hm, hm', rfl⟩ := hmem a ha
      exact (hget m hm hm').2.2.2.2
    · refine List.pairwise_iff_getElem.2 fun i j hi hj hij => ?_
      rw [(hget i (lt_of_set hi) hi).1, (hget j (lt_of_set hj) hj).1]
      exact List.pairwise_iff_getElem.1 h.sorted i j (lt_of_set hi) (lt_of_set hj) hij
    · intro a ha
      obtain ⟨m, hm, hm', rfl⟩ := hmem a ha
      rw [(hget m hm hm').2.1]
      exact h.sq1 _ (List.getElem_mem hm)
    · intro i hi
      show (ps'.getD i zeroPl).st = 0 ∨ _
      have e : (Sl.at_ ⟨s.n, ps', s.qs.set k ⟨q.b, q.sq, by'⟩, ch, cb⟩ i) = ps'.getD i zeroPl := rfl
      rw [e, hat i hi]
      split
      · exact .inr (.inl rfl)
      · exact h.sts i hi
    · intro i hi a ha hh
      obtain ⟨m, hm, hm', rfl⟩ := hmem a ha
      obtain ⟨g1, g2, g3, g4, _⟩ := hget m hm hm'
      have e : (Sl.at_ ⟨s.n, ps', s.qs.set k ⟨q.b, q.sq, by'⟩, ch, cb⟩ i) = ps'.getD i zeroPl := rfl
      rw [e, hat i hi, g1]
      by_cases ht : takes q some (s.at_ i) i = true
      · rw [if_pos ht]
        refine ⟨by simp [accPl], ?_⟩
        show lessB q.b s.qs[m].b = false
        rcases g4 i hi hh with hh | ⟨e, _⟩
        · exact less_of_not (hge i hi ht) (h.acc i hi _ (List.getElem_mem hm) hh).2
        · rw [e]; exact less_self _
      · rw [if_neg ht]
        rcases g4 i hi hh with hh | ⟨_, ht'⟩
        · exact h.acc i hi _ (List.getElem_mem hm) hh
        · exact absurd ht' ht
    · intro i hi h0
      have e : (Sl.at_ ⟨s.n, ps', s.qs.set k ⟨q.b, q.sq, by'⟩, ch, cb⟩ i) = ps'.getD i zeroPl := rfl
      rw [e, hat i hi] at h0 ⊢
      by_cases ht : takes q some (s.at_ i) i = true
      · rw [if_pos ht]
        exact ⟨⟨q.b, q.sq, by'⟩, List.mem_iff_getElem.2 ⟨k, by rw [hlen']; exact hk, List.getElem_set_self _⟩, rfl, rfl⟩
      · rw [if_neg ht] at h0 ⊢
        obtain ⟨a, ha, a1, a2⟩ := h.has i hi h0
        obtain ⟨m, hm, rfl⟩ := List.getElem_of_mem ha
        have hm' : m < (s.qs.set k ⟨q.b, q.sq, by'⟩).length := by rw [hlen']; exact hm
        exact ⟨_, List.getElem_mem hm', by rw [(hget m hm hm').1]; exact a1, by rw [(hget m hm hm').2.1]; exact a2⟩
    · intro i hi
      have e : (Sl.at_ ⟨s.n, ps', s.qs.set k ⟨q.b, q.sq, by'⟩, ch, cb⟩ i) = ps'.getD i zeroPl := rfl
      rw [e, hat i hi]
      split
      · exact less_self _
      · exact h.pro i hi
    · intro a ha
      obtain ⟨m, hm, hm', rfl⟩ := hmem a ha
      obtain ⟨i, hi, hp⟩ := h.top _ (List.getElem_mem hm)
      refine ⟨i, hi, ?_⟩
      have e : (Sl.at_ ⟨s.n, ps', s.qs.set k ⟨q.b, q.sq, by'⟩, ch, cb⟩ i) = ps'.getD i zeroPl := rfl
      rw [e, hat i hi, (hget m hm hm').1]
      split
      · rename_i ht
        exact less_of_not (takes_iff.1 ht).2 hp
      · exact hp
    · refine List.pairwise_iff_getElem.2 fun i j hi hj hij ho => ?_
      rw [(hget i (lt_of_set hi) hi).2.1, (hget j (lt_of_set hj) hj).2.1]
      exact List.pairwise_iff_getElem.1 h.safe i j (lt_of_set hi) (lt_of_set hj) hij (Nat.le_trans ho (hop ch cb i (lt_of_set hi) hi))
    · intro hz a ha
      obtain ⟨m, hm, hm', rfl⟩ := hmem a ha
      exact hN hz m hm hm'
  have hYold : s.ch ≠ 0 → (∃ q0 ∈ s.qs.set k ⟨q.b, q.sq, by'⟩, mostN (s.n : Int) ≤ num s.n (fun i => hasB q0.by_ (i : Int)) ∧ q0.sq = s.ch ∧ q0.b = s.cb) ∧ ∃ i, i < s.n ∧ (ps'.getD i zeroPl).st = 2 ∧ lessB (ps'.getD i zeroPl).b s.cb = false := by
    intro hne
    obtain ⟨⟨q0, hq0, c1, c2, c3⟩, i, hi, i1, i2⟩ := h.chY hne
    obtain ⟨m, hm, rfl⟩ := List.getElem_of_mem hq0
    have hm' : m < (s.qs.set k ⟨q.b, q.sq, by'⟩).length := by rw [hlen']; exact hm
    obtain ⟨g1, g2, g3, g4, _⟩ := hget m hm hm'
    refine ⟨⟨_, List.getElem_mem hm', Nat.le_trans c1 (num_mono fun i hi hh => g3 i hi hh), by rw [g2]; exact c2, by rw [g1]; exact c3⟩, i, hi, ?_⟩
    rw [hat i hi]
    split
    · rename_i ht
      exact ⟨rfl, less_of_not (hge i hi ht) i2⟩
    · exact ⟨i1, i2⟩
  have hkm' : k < (s.qs.set k ⟨q.b, q.sq, by'⟩).length := by rw [hlen']; exact hk
  have hkget : (s.qs.set k ⟨q.b, q.sq, by'⟩)[k] = ⟨q.b, q.sq, by'⟩ := List.getElem_set_self _
  rw [enough_iff r2 h.n357]
  by_cases hen : mostN (s.n : Int) ≤ num s.n (fun i => hasB by' (i : Int))
  · rw [decide_eq_true hen, if_pos rfl]
    by_cases hz : s.ch = 0
    · rw [if_pos hz]
      refine ⟨rfl, mk q.sq q.b (fun h0 => ?_) fun _ => ⟨⟨⟨q.b, q.sq, by'⟩, List.mem_iff_getElem.2 ⟨k, hkm', hkget⟩, hen, rfl, rfl⟩, ?_⟩⟩
      · have := h.sq1 q hqm; omega
      · -- one of those that accepted is new
        have hnot := h.chN hz q hqm
        apply Classical.byContradiction
        intro hno
        apply hnot
        refine Nat.le_trans hen (num_mono fun i hi hh => ?_)
        rw [hby i hi, Bool.or_eq_true] at hh
        rcases hh with hh | ht
        · exact hh
        · exact absurd ⟨i, hi, by rw [hat i hi, if_pos ht]; exact ⟨rfl, less_self _⟩⟩ hno
    · rw [if_neg hz]
      refine ⟨?_, mk s.ch s.cb (fun h0 => absurd h0 hz) hYold⟩
      obtain ⟨⟨q0, hq0, c1, c2, c3⟩, _⟩ := h.chY hz
      have o1 := Nat.le_trans c1 (has_open s q0 s.n)
      have o2 : mostN (s.n : Int) ≤ num s.n (openB s q) := by
        refine Nat.le_trans hen (Nat.le_trans (num_mono fun i hi hh => ?_) (by have := hop s.ch s.cb k hk hkm'; rw [hq] at this; exact this))
        unfold openB
        rw [hkget, show hasB by' (i : Int) = true from hh]; rfl
      rw [decide_eq_true_eq, ← c2]
      exact (h.same hq0 hqm o1 o2).symm
  · rw [decide_eq_false hen, if_neg (by simp)]
    refine ⟨rfl, mk s.ch s.cb (fun hz m hm hm' => ?_) hYold⟩
    by_cases hkm : k = m
    · subst hkm
      rw [hkget]; exact hen
    · rw [List.getElem_set_ne hkm]
      exact h.chN hz _ (List.getElem_mem hm)
theorem loseN_spec (ch : Int) (cb : Ba) (n some blind : Nat) (ps : List Pl) (hl : ps.length = 7) (hn : n ≤ 7) (hw : ch ≠ 0 → ∃ w, w < n ∧ (ps.getD w zeroPl).st = 2 ∧ lessB (ps.getD w zeroPl).b cb = false) : ∀ i, i ≤ n →
    (loseN ch cb n some blind ps i).length = 7 ∧
    (∀ j, ((loseN ch cb n some blind ps i).getD j zeroPl).pr = (ps.getD j zeroPl).pr ∧ ((loseN ch cb n some blind ps i).getD j zeroPl).b = (ps.getD j zeroPl).b ∧ ((loseN ch cb n some blind ps i).getD j zeroPl).sq = (ps.getD j zeroPl).sq ∧
      (((loseN ch cb n some blind ps i).getD j zeroPl).st = (ps.getD j zeroPl).st ∨ (((ps.getD j zeroPl).st = 2 ∨ (ps.getD j zeroPl).st = 3) ∧ (((loseN ch cb n some blind ps i).getD j zeroPl).st = 3 ∨ ((loseN ch cb n some blind ps i).getD j zeroPl).st = 4)))) ∧
    (ch ≠ 0 → ∃ w, w < n ∧ ((loseN ch cb n some blind ps i).getD w zeroPl).st = 2 ∧ lessB ((loseN ch cb n some blind ps i).getD w zeroPl).b cb = false)
  | 0, _ => ⟨hl, fun j => ⟨rfl, rfl, rfl, .inl rfl⟩, hw⟩
  | i + 1, hi => by
    obtain ⟨h1, h2, h3⟩ := loseN_spec ch cb n some blind ps hl hn hw i (by omega)
    have e : loseN ch cb n some blind ps (i + 1) = (let X := loseN ch cb n some blind ps i
      let x := X.getD i zeroPl
      if !hasB some (i : Int) || (!(x.st == 2) && !(x.st == 3)) then X
      else if !othersB ch cb X i n && x.st == 2 then X
      else X.set i ⟨x.pr, x.b, if hasB blind (i : Int) then 4 else 3, x.sq⟩) := rfl
    rw [e]
    generalize loseN ch cb n some blind ps i = X at h1 h2 h3 ⊢
    dsimp only
    by_cases c1 : (!hasB some (i : Int) || (!((X.getD i zeroPl).st == 2) && !((X.getD i zeroPl).st == 3))) = true
    · rw [if_pos c1]; exact ⟨h1, h2, h3⟩
    · rw [if_neg c1]
      by_cases c2 : (!othersB ch cb X i n && (X.getD i zeroPl).st == 2) = true
      · rw [if_pos c2]; exact ⟨h1, h2, h3⟩
      · rw [if_neg c2]
        have hst : (X.getD i zeroPl).st = 2 ∨ (X.getD i zeroPl).st = 3 := by
          simp only [Bool.or_eq_true, Bool.and_eq_true, Bool.not_eq_true', beq_eq_false_iff_ne, not_or, not_and] at c1
          by_cases h : (X.getD i zeroPl).st = 2
          · exact .inl h
          · have := c1.2 h; omega
        have hg : ∀ (a : Pl) j, (X.set i a).getD j zeroPl = if i = j then a else X.getD j zeroPl := fun a j => getD_set _ _ _ _ _ (by rw [h1]; omega)
        refine ⟨by rw [List.length_set]; exact h1, fun j => ?_, fun hc => ?_⟩
        · rw [hg]
          by_cases hij : i = j
          · subst hij
            rw [if_pos rfl]
            obtain ⟨p1, p2, p3, p4⟩ := h2 i
            refine ⟨p1, p2, p3, .inr ⟨?_, ?_⟩⟩
            · rcases p4 with p4 | ⟨p4, _⟩
              · rw [← p4]; exact hst
              · exact p4
            · show (if hasB blind (i : Int) = true then 4 else 3) = 3 ∨ (if hasB blind (i : Int) = true then 4 else 3) = 4
              split
              · exact .inr rfl
              · exact .inl rfl
          · rw [if_neg hij]; exact h2 j
        · have hne : ∃ w, w < n ∧ w ≠ i ∧ (X.getD w zeroPl).st = 2 ∧ lessB (X.getD w zeroPl).b cb = false := by
            by_cases h22 : (X.getD i zeroPl).st = 2
            · have ho : othersB ch cb X i n = true := by
                cases ho : othersB ch cb X i n
                · rw [ho, h22] at c2; exact absurd rfl c2
                · rfl
              unfold othersB at ho
              rw [decide_eq_false hc, Bool.false_or, List.any_eq_true] at ho
              obtain ⟨w, hw, hb⟩ := ho
              simp only [Bool.and_eq_true, decide_eq_true_eq, Bool.not_eq_true', beq_iff_eq] at hb
              exact ⟨w, List.mem_range.1 hw, hb.1.1, hb.1.2, hb.2⟩
            · obtain ⟨w, hw, w1, w2⟩ := h3 hc
              exact ⟨w, hw, fun h => by subst h; exact h22 w1, w1, w2⟩
          obtain ⟨w, hw, w0, w1, w2⟩ := hne
          refine ⟨w, hw, ?_⟩
          rw [hg, if_neg (fun h => w0 h.symm)]
          exact ⟨w1, w2⟩
/-- Whatever a slot's places are turned to, if only states turn (and what was intact is not made out of nothing). -/
theorem Inv.turn {s : Sl} (h : Inv s) {ps' : List Pl} (hl : ps'.length = 7) (hp : ∀ i, i < s.n → lessB (ps'.getD i zeroPl).pr (s.at_ i).pr = false)
    (hb : ∀ i, i < s.n → (ps'.getD i zeroPl).b = (s.at_ i).b ∧ (ps'.getD i zeroPl).sq = (s.at_ i).sq)
    (hs : ∀ i, i < s.n → (ps'.getD i zeroPl).st = (s.at_ i).st ∨ (((s.at_ i).st = 2 ∨ (s.at_ i).st = 3) ∧ ((ps'.getD i zeroPl).st = 3 ∨ (ps'.getD i zeroPl).st = 4)))
    (hw : s.ch ≠ 0 → ∃ w, w < s.n ∧ (ps'.getD w zeroPl).st = 2 ∧ lessB (ps'.getD w zeroPl).b s.cb = false) : Inv ⟨s.n, ps', s.qs, s.ch, s.cb⟩ := by
  have hat : ∀ i, (Sl.at_ ⟨s.n, ps', s.qs, s.ch, s.cb⟩ i) = ps'.getD i zeroPl := fun _ => rfl
  refine ⟨h.n357, hl, h.by8, h.sorted, h.sq1, fun i hi => ?_, fun i hi q hq hh => ?_, fun i hi h0 => ?_, fun i hi => ?_, fun q hq => ?_, ?_, h.chN, fun hc => ⟨(h.chY hc).1, ?_⟩⟩
  · rw [hat]; have := h.sts i hi; have := hs i hi; omega
  · rw [hat, (hb i hi).1]
    obtain ⟨a1, a2⟩ := h.acc i hi q hq hh
    have := hs i hi
    exact ⟨by omega, a2⟩
  · rw [hat] at h0 ⊢
    rw [(hb i hi).1, (hb i hi).2]
    have := hs i hi
    exact h.has i hi (by omega)
  · rw [hat, (hb i hi).1]
    exact less_of_not (hp i hi) (h.pro i hi)
  · obtain ⟨i, hi, hi2⟩ := h.top q hq
    exact ⟨i, hi, by rw [hat]; exact less_of_not (hp i hi) hi2⟩
  · refine List.Pairwise.imp_of_mem (fun {a b} ha _ hab ho => hab (Nat.le_trans ho (num_mono fun i hi hh => ?_))) h.safe
    unfold openB at hh ⊢
    rw [Bool.or_eq_true, Bool.not_eq_true'] at hh ⊢
    rcases hh with hh | hh
    · exact .inl hh
    · rw [hat] at hh
      exact .inr (less_of_not hh (hp i hi))
  · obtain ⟨w, w0, w1, w2⟩ := hw hc
    exact ⟨w, w0, w1, w2⟩
theorem loses_inv {s : Sl} (h : Inv s) (some blind : Nat) : Inv (loses s some blind) := by
  obtain ⟨h1, h2, h3⟩ := loseN_spec s.ch s.cb s.n some blind s.ps h.len h.n7 (fun hc => by
    obtain ⟨_, w, w0, w1, w2⟩ := h.chY hc
    exact ⟨w, w0, w1, w2⟩) s.n (Nat.le_refl _)
  exact h.turn h1 (fun i _ => by rw [(h2 i).1]; exact less_self _) (fun i _ => ⟨(h2 i).2.1, (h2 i).2.2.1⟩) (fun i _ => (h2 i).2.2.2) h3
theorem maxN_ge (ps : List Pl) : ∀ n i, i < n → lessB (maxN ps n) (ps.getD i zeroPl).pr = false
  | n + 1, i, hi => by
    have e : maxN ps (n + 1) = maxL [maxN ps n, (ps.getD n zeroPl).pr] := rfl
    by_cases hin : i = n
    · subst hin; rw [e]; exact max_ge (by simp)
    · rw [e]
      exact less_of_not (max_ge (by simp)) (maxN_ge ps n i (by omega))
theorem askN_spec (b : Ba) (S n : Nat) (ps : List Pl) (hl : ps.length = 7) (hn : n ≤ 7) : ∀ i, i ≤ n →
    (askN b S n ps i).1.length = 7 ∧ (askN b S n ps i).2.length = n ∧
    (∀ j, (askN b S n ps i).1.getD j zeroPl = if j < i ∧ hasB S (j : Int) = true then ⟨b, (ps.getD j zeroPl).b, (ps.getD j zeroPl).st, (ps.getD j zeroPl).sq⟩ else ps.getD j zeroPl) ∧
    ∀ j, j < n → (askN b S n ps i).2[j]? = some (if j < i ∧ hasB S (j : Int) = true then repN (ps.getD j zeroPl) else zeroRp)
  | 0, _ => ⟨hl, List.length_replicate, fun j => by rw [if_neg (by omega)]; rfl, fun j hj => by rw [if_neg (by omega)]; simp [askN, hj]⟩
  | i + 1, hi => by
    obtain ⟨h1, h2, h3, h4⟩ := askN_spec b S n ps hl hn i (by omega)
    have hx : (askN b S n ps i).1.getD i zeroPl = ps.getD i zeroPl := by rw [h3, if_neg (by omega)]
    have e : askN b S n ps (i + 1) = if hasB S (i : Int) then ((askN b S n ps i).1.set i ⟨b, (ps.getD i zeroPl).b, (ps.getD i zeroPl).st, (ps.getD i zeroPl).sq⟩, (askN b S n ps i).2.set i (repN (ps.getD i zeroPl))) else askN b S n ps i := by
      rw [← hx]; rfl
    rw [e]
    cases ht : hasB S (i : Int)
    · rw [if_neg (by simp)]
      refine ⟨h1, h2, fun j => ?_, fun j hj => ?_⟩
      · rw [h3]
        by_cases hji : j = i
        · subst hji; rw [if_neg (by omega), if_neg (by rw [ht]; simp)]
        · by_cases hjl : j < i
          · simp only [hjl, show j < i + 1 by omega, true_and]
          · rw [if_neg (by omega), if_neg (by omega)]
      · rw [h4 j hj]
        by_cases hji : j = i
        · subst hji; rw [if_neg (by omega), if_neg (by rw [ht]; simp)]
        · by_cases hjl : j < i
          · simp only [hjl, show j < i + 1 by omega, true_and]
          · rw [if_neg (by omega), if_neg (by omega)]
    · rw [if_pos rfl]
      refine ⟨by rw [List.length_set]; exact h1, by rw [List.length_set]; exact h2, fun j => ?_, fun j hj => ?_⟩
      · show (List.set _ i _).getD j zeroPl = _
        rw [getD_set _ _ _ _ _ (by rw [h1]; omega)]
        by_cases hji : i = j
        · subst hji; rw [if_pos rfl, if_pos ⟨by omega, ht⟩]
        · rw [if_neg hji, h3]
          by_cases hjl : j < i
          · simp only [hjl, show j < i + 1 by omega, true_and]
          · rw [if_neg (by omega), if_neg (by omega)]
      · show (List.set _ i _)[j]? = _
        rw [List.getElem?_set]
        by_cases hji : i = j
        · subst hji; rw [if_pos rfl, if_pos (by rw [h2]; exact hj), if_pos ⟨by omega, ht⟩]
        · rw [if_neg hji, h4 j hj]
          by_cases hjl : j < i
          · simp only [hjl, show j < i + 1 by omega, true_and]
          · rw [if_neg (by omega), if_neg (by omega)]
theorem told_one {s : Sl} (h : Inv s) (S : Nat) (hd : (decR (s.n : Int) (repL s S)).1 = 2) : 1 ≤ (decR (s.n : Int) (repL s S)).2.1.sq := by
  rcases decR_cases (rep_good h S) with ⟨hc, _⟩ | ⟨hk, ⟨hc, _⟩ | ⟨x, hc, hx⟩⟩
  · rw [hc] at hd; cases hd
  · rw [hc] at hd; cases hd
  · rw [hc]
    obtain ⟨m1, m2⟩ := greatest_mem hx
    obtain ⟨j, hj, rfl⟩ := mem_rep.1 m1
    obtain ⟨j1, j2⟩ := rep_hi (S := S) h hj (by omega)
    obtain ⟨j3, _, j5⟩ := rep_st j1 j2
    obtain ⟨q, hq, _, q2⟩ := h.has j hj j2
    show 1 ≤ (repS s S j).e.sq
    rw [j5 (by omega), q2]
    exact h.sq1 q hq
theorem proposes_inv {s : Sl} (h : Inv s) {who some : Nat} (hwho : who < s.n) (hs : some < 256) : Inv (proposes s who some).1 ∧ ((proposes s who some).2 = true → 0 < (proposes s who some).1.qs.length) := by
  unfold proposes
  dsimp only
  have hn7 := h.n7
  by_cases hz : (nextZ (maxN s.ps s.n) (who : Int) (s.n : Int)).2 = 0
  · rw [if_pos hz]
    obtain ⟨z1, z2, z3, z4, z5⟩ := next_ok hz
    have hbeh := next_behind (i := (who : Int)) z1
    obtain ⟨nb, hnb⟩ : ∃ nb, (nextZ (maxN s.ps s.n) (who : Int) (s.n : Int)).1 = nb := ⟨_, rfl⟩
    have hlt : lessB (maxN s.ps s.n) nb = true := by rw [← hnb, z5]; exact hbeh
    rw [hnb]
    obtain ⟨S, hS⟩ : ∃ S, addN some (who : Int) = S := ⟨_, rfl⟩
    rw [hS]
    obtain ⟨a1, a2, a3, a4⟩ := askN_spec nb S s.n s.ps h.len hn7 s.n (Nat.le_refl _)
    have hrep : (askN nb S s.n s.ps s.n).2 = repL s S := by
      apply List.ext_getElem?
      intro j
      by_cases hj : j < s.n
      · rw [a4 j hj]
        unfold repL
        rw [List.getElem?_map, List.getElem?_range hj]
        unfold repS
        simp only [hj, true_and]
        rfl
      · rw [List.getElem?_eq_none (by rw [a2]; omega), List.getElem?_eq_none (by unfold repL; simp; omega)]
    rw [hrep]
    generalize askN nb S s.n s.ps s.n = r at a1 a2 a3 a4 hrep ⊢
    obtain ⟨ps', R⟩ := r
    dsimp only at a1 a2 a3 a4 hrep ⊢
    clear a4 a2 hrep
    have hmax : ∀ i, i < s.n → lessB nb (s.at_ i).pr = false := fun i hi => less_of_not (less_asymm hlt) (maxN_ge s.ps s.n i hi)
    have hat : ∀ i, i < s.n → ps'.getD i zeroPl = if hasB S (i : Int) = true then ⟨nb, (s.at_ i).b, (s.at_ i).st, (s.at_ i).sq⟩ else s.at_ i := fun i hi => by
      rw [a3 i]
      simp only [hi, true_and]
      rfl
    have hbel : ∀ a ∈ s.qs, lessB a.b nb = true := fun a ha => by
      obtain ⟨i, hi, hp⟩ := h.top a ha
      cases hc : lessB a.b nb
      · have h1 := less_of_not (less_of_not (maxN_ge s.ps s.n i hi) hp) hc
        rw [hlt] at h1; cases h1
      · rfl
    have h1 : Inv ⟨s.n, ps', s.qs, s.ch, s.cb⟩ := by
      refine h.turn a1 (fun i hi => ?_) (fun i hi => ?_) (fun i hi => ?_) (fun hc => ?_)
      · rw [hat i hi]
        split
        · exact hmax i hi
        · exact less_self _
      · rw [hat i hi]; split <;> exact ⟨rfl, rfl⟩
      · rw [hat i hi]; left; split <;> rfl
      · obtain ⟨_, w, w0, w1, w2⟩ := h.chY hc
        refine ⟨w, w0, ?_⟩
        rw [hat w w0]
        split <;> exact ⟨w1, w2⟩
    have hopen : ∀ a ∈ s.qs, mostN (s.n : Int) ≤ num s.n (openB ⟨s.n, ps', s.qs, s.ch, s.cb⟩ a) → mostN (s.n : Int) ≤ num s.n (fun i => hasB a.by_ (i : Int) || (!hasB S (i : Int) && !lessB a.b (s.at_ i).pr)) := by
      intro a ha ho
      refine Nat.le_trans ho (num_mono fun i hi hh => ?_)
      unfold openB at hh
      show (hasB a.by_ (i : Int) || (!hasB S (i : Int) && !lessB a.b (s.at_ i).pr)) = true
      rw [Bool.or_eq_true, Bool.not_eq_true'] at hh
      rcases hh with hh | hh
      · rw [hh]; rfl
      · have hh : lessB a.b (ps'.getD i zeroPl).pr = false := hh
        rw [hat i hi] at hh
        cases hSi : hasB S (i : Int)
        · rw [hSi, if_neg (by simp)] at hh
          rw [hh]; simp
        · rw [hSi, if_pos rfl] at hh
          have := hbel a ha
          rw [hh] at this; cases this
    by_cases hd : (decR (s.n : Int) (repL s S)).2.2 = 0 ∧ (decR (s.n : Int) (repL s S)).1 ≠ 0
    · rw [if_pos hd]
      refine ⟨?_, fun _ => by simp⟩
      obtain ⟨sq, hsq⟩ : ∃ sq, (if (decR (s.n : Int) (repL s S)).1 = 2 then (decR (s.n : Int) (repL s S)).2.1.sq else (s.qs.length : Int) + 1) = sq := ⟨_, rfl⟩
      rw [hsq]
      have hsq1 : 1 ≤ sq := by
        rw [← hsq]
        split
        · rename_i h2; exact told_one h S h2
        · omega
      have hno : ∀ i : Nat, hasB 0 (i : Int) = false := fun i => by unfold hasB; simp
      refine ⟨h.n357, a1, ?_, ?_, ?_, h1.sts, ?_, ?_, h1.pro, ?_, ?_, ?_, fun hc => ?_⟩
      · intro q hq
        rcases List.mem_append.1 hq with hq | hq
        · exact h.by8 q hq
        · rw [List.mem_singleton.1 hq]; show 0 < 256; omega
      · refine List.pairwise_append.2 ⟨h.sorted, List.pairwise_singleton _ _, fun a ha b hb => ?_⟩
        rw [List.mem_singleton.1 hb]; exact hbel a ha
      · intro q hq
        rcases List.mem_append.1 hq with hq | hq
        · exact h.sq1 q hq
        · rw [List.mem_singleton.1 hq]; exact hsq1
      · intro i hi q hq hh
        rcases List.mem_append.1 hq with hq | hq
        · exact h1.acc i hi q hq hh
        · rw [List.mem_singleton.1 hq] at hh
          rw [hno] at hh; cases hh
      · intro i hi h0
        obtain ⟨q, hq, q1⟩ := h1.has i hi h0
        exact ⟨q, List.mem_append_left _ hq, q1⟩
      · intro q hq
        rcases List.mem_append.1 hq with hq | hq
        · exact h1.top q hq
        · rw [List.mem_singleton.1 hq]
          refine ⟨who, hwho, ?_⟩
          show lessB (ps'.getD who zeroPl).pr nb = false
          rw [hat who hwho, if_pos]
          · exact less_self _
          · rw [← hS, has_add hs (by omega) (by omega)]; simp
      · refine List.pairwise_append.2 ⟨h1.safe, List.pairwise_singleton _ _, fun a ha b hb ho => ?_⟩
        rw [List.mem_singleton.1 hb]
        obtain ⟨t1, t2⟩ := told_open h S hd.2 ha (hopen a ha ho)
        rw [← t2, ← hsq, if_pos t1]
      · intro hc q hq
        rcases List.mem_append.1 hq with hq | hq
        · exact h.chN hc q hq
        · rw [List.mem_singleton.1 hq]
          have hm := most_twice h.n357
          have e : num s.n (hasAll ⟨s.n, ps', s.qs ++ [⟨nb, sq, 0⟩], s.ch, s.cb⟩ ⟨nb, sq, 0⟩) = 0 := by
            unfold num
            rw [List.length_eq_zero_iff, List.filter_eq_nil_iff]
            intro i _
            show ¬ hasB 0 (i : Int) = true
            rw [hno]; simp
          show ¬ mostN (s.n : Int) ≤ num s.n _
          rw [e]
          have := h.n357
          omega
      · obtain ⟨⟨q, hq, q1⟩, hw⟩ := h1.chY hc
        exact ⟨⟨q, List.mem_append_left _ hq, q1⟩, hw⟩
    · rw [if_neg hd]
      exact ⟨h1, fun hh => by cases hh⟩
  · rw [if_neg hz]
    exact ⟨h, fun hh => by cases hh⟩
/-- An act. -/
structure Ka where
  k : Nat
  who : Nat
  so : Nat
  ot : Nat
def actN (s : Sl) (a : Ka) : Sl × Bool :=
  if a.k % 4 < 2 then let r := proposes s (a.who % s.n) a.so; if r.2 then accepts r.1 (r.1.qs.length - 1) a.ot else (r.1, true)
  else if a.k % 4 = 2 then if 0 < s.qs.length then accepts s (a.who % s.qs.length) a.so else (s, true)
  else (loses s a.so a.ot, true)
theorem act_inv {s : Sl} (h : Inv s) (a : Ka) (ha : a.so < 256) : (actN s a).2 = true ∧ Inv (actN s a).1 := by
  unfold actN
  dsimp only
  have hn : 0 < s.n := by have := h.n357; omega
  by_cases c1 : a.k % 4 < 2
  · rw [if_pos c1]
    obtain ⟨p1, p2⟩ := proposes_inv h (Nat.mod_lt a.who hn) ha
    by_cases c2 : (proposes s (a.who % s.n) a.so).2 = true
    · rw [if_pos c2]
      exact accepts_inv p1 (by have := p2 c2; omega) _
    · rw [if_neg c2]
      exact ⟨rfl, p1⟩
  · rw [if_neg c1]
    by_cases c2 : a.k % 4 = 2
    · rw [if_pos c2]
      by_cases c3 : 0 < s.qs.length
      · rw [if_pos c3]
        exact accepts_inv h (Nat.mod_lt _ c3) _
      · rw [if_neg c3]
        exact ⟨rfl, h⟩
    · rw [if_neg c2]
      exact ⟨rfl, loses_inv h _ _⟩
def startS (n : Nat) : Sl := ⟨n, List.replicate 7 zeroPl, [], 0, zeroBa⟩
theorem start_at (n i : Nat) : (startS n).at_ i = zeroPl := by
  unfold Sl.at_ startS
  rw [List.getD_eq_getElem?_getD]
  cases h : (List.replicate 7 zeroPl)[i]? with
  | none => rfl
  | some x =>
    have := List.mem_of_getElem? h
    rw [(List.mem_replicate.1 this).2]; rfl
theorem start_inv {n : Nat} (hn : n = 3 ∨ n = 5 ∨ n = 7) : Inv (startS n) := by
  refine ⟨hn, rfl, by simp [startS], .nil, by simp [startS], fun i _ => .inl (by rw [start_at]; rfl), by simp [startS], fun i _ h0 => ?_, fun i _ => by rw [start_at]; exact less_self _, by simp [startS], .nil, by simp [startS], fun h => absurd rfl h⟩
  rw [start_at] at h0; exact absurd rfl h0
end Ch
end Go.Proofs.Ytpgejomhcojppaa
