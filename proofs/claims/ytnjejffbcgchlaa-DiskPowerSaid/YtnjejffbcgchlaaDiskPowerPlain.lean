/- With power for so many writes and flushes: plain. -/
import Derived.Test.YtnjejffbcgchlaaDiskTornPlain
set_option linter.unusedSimpArgs false
set_option linter.unusedVariables false
namespace Go.Proofs.Ytnjejffbcgchlaa
open Go.RowKit
namespace Di
def slot (n : Int) : Nat := ((n - 1) % 4).toNat
theorem slot_lt (n : Int) : slot n < 4 := by unfold slot; omega
def wr1 (n : Int) : Wr := ⟨secN n, slot n⟩
def put (l : List Int) (n : Int) : List Int := l.set (slot n) n
def comeL (is : Nat → Bool) : Nat → List Int → List Int → List Int
  | _, [], l => l
  | k, n :: r, l => comeL is (k + 1) r (if is k then put l n else l)
theorem comeL_app (is : Nat → Bool) : ∀ (a b : List Int) (k : Nat) (l : List Int), comeL is k (a ++ b) l = comeL is (k + a.length) b (comeL is k a l)
  | [], b, k, l => rfl
  | n :: a, b, k, l => by
    rw [List.cons_append, comeL, comeL_app is a b, comeL, List.length_cons, show k + 1 + a.length = k + (a.length + 1) by omega]
theorem comeL_next (is : Nat → Bool) (ws : List Int) (k : Nat) (hk : k < ws.length) (l : List Int) : comeL is 0 (ws.take (k + 1)) l = if is k then put (comeL is 0 (ws.take k) l) ws[k] else comeL is 0 (ws.take k) l := by
  rw [List.take_succ_eq_append_getElem hk, comeL_app, List.length_take, Nat.zero_add, Nat.min_eq_left (by omega)]
  rfl
theorem comeL_none (is : Nat → Bool) : ∀ (a : List Int) (k : Nat) (l : List Int), (∀ j, k ≤ j → is j = false) → comeL is k a l = l
  | [], _, _, _ => rfl
  | n :: a, k, l, h => by
    rw [comeL, h k (Nat.le_refl _)]
    exact comeL_none is a (k + 1) l fun j hj => h j (by omega)
theorem comeL_end (keep : List Bool) (ws : List Int) (k : Nat) (h : k = ws.length ∨ keep.length ≤ k) (l : List Int) : comeL (kept keep) 0 (ws.take k) l = comeL (kept keep) 0 ws l := by
  rcases h with rfl | h
  · rw [List.take_length]
  · conv => rhs; rw [← List.take_append_drop k ws]
    rw [comeL_app]
    rcases Nat.lt_or_ge k ws.length with hk | hk
    · rw [List.length_take, Nat.min_eq_left (by omega), Nat.zero_add]
      rw [comeL_none (kept keep) _ k _ fun j hj => by unfold kept; rw [List.getElem?_eq_none (by omega)]; rfl]
    · rw [List.drop_eq_nil_of_le hk]; rfl
theorem comeL_len (is : Nat → Bool) : ∀ (a : List Int) (k : Nat) (l : List Int), (comeL is k a l).length = l.length
  | [], _, _ => rfl
  | n :: a, k, l => by
    rw [comeL, comeL_len is a]
    split
    · exact List.length_set
    · rfl
theorem comeL_mem (is : Nat → Bool) : ∀ (a : List Int) (k : Nat) (l : List Int) (x : Int), x ∈ comeL is k a l → x ∈ l ∨ x ∈ a
  | [], _, _, _, h => .inl h
  | n :: a, k, l, x, h => by
    rw [comeL] at h
    rcases comeL_mem is a _ _ x h with h | h
    · split at h
      · rcases List.mem_or_eq_of_mem_set h with h | h
        · exact .inl h
        · exact .inr (by rw [h]; exact List.mem_cons_self)
      · exact .inl h
    · exact .inr (List.mem_cons_of_mem _ h)
structure Holds (ps : List Pl) (l : List Int) : Prop where
  len : ps.length = 4
  ll : l.length = 4
  at_ : ∀ s, s < 4 → ∃ p, ps[s]? = some p ∧ p.lost = false ∧ some p.rest.l = l[s]?.map (fun n => sectorL n [])
theorem Holds.put {ps : List Pl} {l : List Int} (h : Holds ps l) (n : Int) : Holds (come ps (wr1 n)) (put l n) := by
  refine ⟨by unfold come; rw [List.length_set]; exact h.len, by unfold Di.put; rw [List.length_set]; exact h.ll, fun s hs => ?_⟩
  obtain ⟨p, h1, h2, h3⟩ := h.at_ s hs
  unfold come Di.put
  show ∃ p, (ps.set (slot n) _)[s]? = some p ∧ _
  by_cases he : slot n = s
  · rw [he, List.getElem?_set_self (by rw [h.len]; exact hs), List.getElem?_set_self (by rw [h.ll]; exact hs)]
    exact ⟨_, rfl, rfl, rfl⟩
  · rw [List.getElem?_set_ne he, List.getElem?_set_ne he]
    exact ⟨p, h1, h2, h3⟩
theorem Holds.thr (is : Nat → Bool) : ∀ (ws : List Int) (k : Nat) (ps : List Pl) (l : List Int), Holds ps l → Holds (thr is k (ws.map wr1) ps) (comeL is k ws l)
  | [], _, _, _, h => h
  | n :: ws, k, ps, l, h => by
    rw [List.map_cons, Di.thr, comeL]
    refine Holds.thr is ws (k + 1) _ _ ?_
    cases is k
    · exact h
    · exact h.put n
structure Pw (p i : Nat) (last ws : List Int) (d : Dk) : Prop where
  ok : Ok d
  down : d.down = false
  dead : d.dead = decide (p < i)
  left : d.left = ((p - i : Nat) : Int)
  waits : d.waits = ws.map wr1
  holds : Holds d.places last
  low : ∀ n ∈ ws, 1 ≤ n ∧ n ≤ i
  lastb : ∀ n ∈ last, 0 ≤ n ∧ n ≤ i
  few : ws.length ≤ i
theorem Pw.up {p i : Nat} {last ws : List Int} {d : Dk} (h : Pw p i last ws d) : d.up = decide (i ≤ p) := by
  unfold Dk.up
  rw [h.down, h.dead]
  by_cases hi : p < i
  · rw [decide_eq_true hi, decide_eq_false (by omega : ¬ i ≤ p)]; rfl
  · rw [decide_eq_false hi, decide_eq_true (by omega : i ≤ p)]; rfl
theorem Pw.start (p : Nat) (hp : p ≤ 60) : Pw p 0 [0, 0, 0, 0] [] (powerD (new 4) p) := by
  have hd : powerD (new 4) p = { new 4 with left := (p : Int) } := by
    unfold powerD
    rw [show (new 4).up = true from rfl, if_pos rfl, if_neg (by omega)]
  refine ⟨power_ok (new_ok (by decide) (by decide)) (by omega), by rw [hd]; rfl, by rw [hd]; rfl, by rw [hd]; rfl, by rw [hd]; rfl, ?_, by simp, by simp, by simp⟩
  rw [hd]
  refine ⟨rfl, rfl, fun s hs => ⟨pl0, ?_, rfl, ?_⟩⟩
  · show (List.replicate 4 pl0)[s]? = _
    rw [List.getElem?_replicate, if_pos hs]
  · have : ([0, 0, 0, 0] : List Int)[s]? = some 0 := by
      have : s = 0 ∨ s = 1 ∨ s = 2 ∨ s = 3 := by omega
      rcases this with rfl | rfl | rfl | rfl <;> rfl
    rw [this]; rfl
theorem Pw.power {p : Nat} {d : Dk} {last ws : List Int} (h : Pw p 0 last ws d) : powerE d (-1) = 2 ∧ powerD d (-1) = d := by
  have hu := h.up
  rw [decide_eq_true (Nat.zero_le _)] at hu
  constructor
  · unfold powerE; rw [hu]; rfl
  · unfold powerD; rw [hu]; rfl
theorem Pw.next_low {i : Nat} {ws : List Int} (h : ∀ n ∈ ws, 1 ≤ n ∧ n ≤ (i : Int)) : ∀ n ∈ ws, 1 ≤ n ∧ n ≤ ((i + 1 : Nat) : Int) := fun n hn => by have := h n hn; omega
theorem Pw.next_last {i : Nat} {ws : List Int} (h : ∀ n ∈ ws, 0 ≤ n ∧ n ≤ (i : Int)) : ∀ n ∈ ws, 0 ≤ n ∧ n ≤ ((i + 1 : Nat) : Int) := fun n hn => by have := h n hn; omega
/-- Power for one more. -/
theorem Pw.yes {p i : Nat} {last ws : List Int} {d : Dk} (h : Pw p i last ws d) (hi : i < p) : d.up = true ∧ spendE d = 0 ∧ ¬ d.left = 0 ∧ Pw p (i + 1) last ws (spendD d) := by
  have hl := h.left
  have h0 : ¬ d.left = 0 := by omega
  have h1 : 0 < d.left := by omega
  have hs : spendD d = { d with left := d.left - 1 } := by unfold spendD; rw [if_neg h0, if_pos h1]
  refine ⟨by rw [h.up]; simp; omega, by unfold spendE; rw [if_neg h0], h0, ?_⟩
  refine ⟨spend_ok h.ok, by rw [hs]; exact h.down, ?_, ?_, by rw [spend_waits]; exact h.waits, by rw [spend_places]; exact h.holds, Pw.next_low h.low, Pw.next_last h.lastb, by have := h.few; omega⟩
  · rw [hs]
    show d.dead = _
    rw [h.dead, decide_eq_false (by omega : ¬ p < i), decide_eq_false (by omega : ¬ p < i + 1)]
  · rw [hs]
    show d.left - 1 = _
    omega
/-- No more power. -/
theorem Pw.no {p i : Nat} {last ws : List Int} {d : Dk} (h : Pw p i last ws d) (hi : p ≤ i) : (d.up = true → d.left = 0 ∧ spendE d = 5 ∧ Pw p (i + 1) last ws (spendD d)) ∧ (d.up = false → Pw p (i + 1) last ws d) := by
  have hl := h.left
  have h0 : d.left = 0 := by omega
  refine ⟨fun hu => ⟨h0, by unfold spendE; rw [if_pos h0], ?_⟩, fun hu => ?_⟩
  · have hs : spendD d = { d with dead := true } := by unfold spendD; rw [if_pos h0]
    refine ⟨spend_ok h.ok, by rw [hs]; exact h.down, ?_, ?_, by rw [spend_waits]; exact h.waits, by rw [spend_places]; exact h.holds, Pw.next_low h.low, Pw.next_last h.lastb, by have := h.few; omega⟩
    · rw [hs]; show true = _; rw [decide_eq_true (by omega : p < i + 1)]
    · rw [hs]; show d.left = _; omega
  · rw [h.up] at hu
    have hpi : p < i := by simpa using hu
    exact ⟨h.ok, h.down, by rw [h.dead, decide_eq_true hpi, decide_eq_true (by omega : p < i + 1)], by omega, h.waits, h.holds, Pw.next_low h.low, Pw.next_last h.lastb, by have := h.few; omega⟩
theorem Pw.flush_yes {p i : Nat} {last ws : List Int} {d : Dk} (h : Pw p i last ws d) (hi : i < p) : flushE d = 0 ∧ Pw p (i + 1) (comeL (fun _ => true) 0 ws last) [] (flushD d) := by
  obtain ⟨h1, h2, h3, h4⟩ := h.yes hi
  have hd : flushD d = through (spendD d) (fun _ => true) := by unfold flushD; rw [h1, if_pos rfl, if_neg h3]
  refine ⟨by unfold flushE; rw [h1, if_pos rfl, h2], ?_⟩
  rw [hd]
  refine ⟨through_ok h4.ok _, h4.down, h4.dead, h4.left, rfl, ?_, by simp, ?_, by simp⟩
  · show Holds (thr _ 0 (spendD d).waits (spendD d).places) _
    rw [h4.waits]
    exact Holds.thr _ _ _ _ _ h4.holds
  · intro n hn
    rcases comeL_mem _ _ _ _ n hn with hn | hn
    · exact h4.lastb n hn
    · have := h4.low n hn; omega
theorem Pw.flush_no {p i : Nat} {last ws : List Int} {d : Dk} (h : Pw p i last ws d) (hi : p ≤ i) : flushE d = 5 ∧ Pw p (i + 1) last ws (flushD d) := by
  obtain ⟨h1, h2⟩ := h.no hi
  cases hu : d.up
  · have hd : flushD d = d := by unfold flushD; rw [hu]; rfl
    refine ⟨by unfold flushE; rw [hu]; rfl, ?_⟩
    rw [hd]; exact h2 hu
  · obtain ⟨a, b, c⟩ := h1 hu
    have hd : flushD d = spendD d := by unfold flushD; rw [hu, if_pos rfl, if_pos a]
    refine ⟨by unfold flushE; rw [hu, if_pos rfl, b], ?_⟩
    rw [hd]; exact c
theorem Pw.write_yes {p i : Nat} {last ws : List Int} {d : Dk} (h : Pw p i last ws d) (hi : i < p) : writeE d ((i % 4 : Nat) : Int) (sectorL ((i : Int) + 1) []) = 0 ∧ Pw p (i + 1) last (ws ++ [(i : Int) + 1]) (writeD d ((i % 4 : Nat) : Int) (sectorL ((i : Int) + 1) [])) := by
  obtain ⟨h1, h2, h3, h4⟩ := h.yes hi
  have hin : inn d ((i % 4 : Nat) : Int) = true := inn4 h.holds.len (by omega) (by omega)
  have hd : writeD d ((i % 4 : Nat) : Int) (sectorL ((i : Int) + 1) []) = { spendD d with waits := (spendD d).waits ++ [wr1 ((i : Int) + 1)] } := by
    unfold writeD
    rw [h1, hin, if_pos rfl, if_pos rfl, dif_pos (sec64 _), if_neg h3, spend_waits, Int.toNat_natCast]
    have : wr1 ((i : Int) + 1) = ⟨secN ((i : Int) + 1), i % 4⟩ := by
      unfold wr1 slot
      congr 1
      omega
    rw [this]; rfl
  refine ⟨by unfold writeE; rw [h1, hin, if_pos rfl, if_pos rfl, if_pos (sec64 _), h2], ?_⟩
  rw [hd]
  have hok : Ok { spendD d with waits := (spendD d).waits ++ [wr1 ((i : Int) + 1)] } := by rw [← hd]; exact write_ok h.ok _ _
  refine ⟨hok, h4.down, h4.dead, h4.left, ?_, h4.holds, ?_, h4.lastb, by have := h.few; simp; omega⟩
  · show (spendD d).waits ++ _ = _
    rw [h4.waits, List.map_append]; rfl
  · intro n hn
    rcases List.mem_append.1 hn with hn | hn
    · exact h4.low n hn
    · rw [List.mem_singleton.1 hn]; omega
theorem Pw.write_no {p i : Nat} {last ws : List Int} {d : Dk} (h : Pw p i last ws d) (hi : p ≤ i) : writeE d ((i % 4 : Nat) : Int) (sectorL ((i : Int) + 1) []) = 5 ∧ Pw p (i + 1) last ws (writeD d ((i % 4 : Nat) : Int) (sectorL ((i : Int) + 1) [])) := by
  obtain ⟨h1, h2⟩ := h.no hi
  have hin : inn d ((i % 4 : Nat) : Int) = true := inn4 h.holds.len (by omega) (by omega)
  cases hu : d.up
  · have hd : writeD d ((i % 4 : Nat) : Int) (sectorL ((i : Int) + 1) []) = d := by unfold writeD; rw [hu]; rfl
    refine ⟨by unfold writeE; rw [hu]; rfl, ?_⟩
    rw [hd]; exact h2 hu
  · obtain ⟨a, b, c⟩ := h1 hu
    have hd : writeD d ((i % 4 : Nat) : Int) (sectorL ((i : Int) + 1) []) = spendD d := by unfold writeD; rw [hu, hin, if_pos rfl, if_pos rfl, dif_pos (sec64 _), if_pos a]
    refine ⟨by unfold writeE; rw [hu, hin, if_pos rfl, if_pos rfl, if_pos (sec64 _), b], ?_⟩
    rw [hd]; exact c
/-- Behind all of it: crash, start, flush. -/
theorem Pw.after {p i : Nat} {last ws : List Int} {d : Dk} (h : Pw p i last ws d) (keep : List Bool) :
    startE d = 2 ∧ startD d = d ∧ (d.up = false → powerE d 1 = 5 ∧ powerD d 1 = d) ∧ crashE d = 0 ∧ startE (crashD d keep) = 0 ∧ flushE (startD (crashD d keep)) = 0 ∧
      ∀ (s : Nat) (x : Int), (hs : s < 4) → (comeL (kept keep) 0 ws last)[s]? = some x → readsB (flushD (startD (crashD d keep))) (s : Int) x = true := by
  have hc : crashD d keep = { through d (kept keep) with down := true } := by unfold crashD; rw [h.down]; rfl
  have hs : startD (crashD d keep) = { through d (kept keep) with down := false, dead := false, left := -1 } := by rw [hc]; rfl
  have hf : flushD (startD (crashD d keep)) = { through d (kept keep) with down := false, dead := false, left := -1 } := by rw [hs]; rfl
  refine ⟨by unfold startE; rw [h.down]; rfl, by unfold startD; rw [h.down]; rfl, fun hu => ⟨by unfold powerE; rw [hu]; rfl, by unfold powerD; rw [hu]; rfl⟩, by unfold crashE; rw [h.down]; rfl, by rw [hc]; rfl, by rw [hs]; rfl, fun s x hs4 hx => ?_⟩
  obtain ⟨p', h1, h2, h3⟩ := (Holds.thr (kept keep) ws 0 d.places last h.holds).at_ s hs4
  rw [← h.waits] at h1
  rw [hx] at h3
  injection h3 with h3
  rw [hf]
  exact reads_rest (p := p') rfl rfl h1 h2 h3
theorem mod61 (n : Int) : ∃ q : Nat, wrap64 ((IntKind.u64.wrap n).tmod 61) = (q : Int) ∧ q ≤ 60 := by
  refine ⟨(wrap64 ((IntKind.u64.wrap n).tmod 61)).toNat, ?_, ?_⟩ <;>
  · unfold wrap64
    rw [IntKind.wrap_u64, Int.tmod_eq_emod_of_nonneg (by omega)]
    omega
end Di
end Go.Proofs.Ytnjejffbcgchlaa
