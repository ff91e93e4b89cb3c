/- The document's tally: Note, Drop. -/
import Derived.Test.YtmpcjiacgbcpdaaTallyRefWalks
import Derived.Test.YtmpcjiacgbcpdaaFoot
set_option linter.unusedSimpArgs false
set_option linter.unusedVariables false
namespace Go.Proofs.Ytmpcjiacgbcpdaa
open Go.RowKit
open Qm

namespace Ta

theorem info_row : (Try.prog.info? 63).map (fun i => (i.zero, i.size, i.bytes)) = some (some (.agg #[.int .i64 0, .int .u8 0]), 2, 16) := by kernel_rfl
theorem flat_set : ∀ (l : Rows) (k : Nat) (a : Int) (x y : Nat), l[k]? = some (a, x) → (l.flatMap rc).set (k * 2 + 1) (.int .u8 (y : Nat)) = (l.set k (a, y)).flatMap rc
  | [], k, a, x, y, h => by simp at h
  | p :: l, 0, a, x, y, h => by
    simp only [List.getElem?_cons_zero, Option.some.injEq] at h
    subst h
    rfl
  | p :: l, k + 1, a, x, y, h => by
    rw [List.getElem?_cons_succ] at h
    have ih := flat_set l k a x y h
    rw [show (k + 1) * 2 + 1 = k * 2 + 1 + 1 + 1 by omega, List.set_cons_succ, List.flatMap_cons, List.flatMap_cons, ← ih]
    rfl
theorem map_set {i : Int} {y : Nat} : ∀ (R : Rows) (k : Nat) (x : Nat), (keys R).Nodup → R[k]? = some (i, x) → R.map (fun p => if p.1 = i then (i, y) else p) = R.set k (i, y)
  | [], k, x, _, h => by simp at h
  | p :: R, 0, x, hd, h => by
    simp only [List.getElem?_cons_zero, Option.some.injEq] at h
    subst h
    simp only [keys, List.map_cons, List.nodup_cons] at hd
    rw [List.map_cons, List.set_cons_zero, if_pos rfl]
    congr 1
    conv => rhs; rw [← List.map_id R]
    apply List.map_congr_left
    intro q hq
    rw [if_neg]
    · rfl
    · intro e
      exact hd.1 (List.mem_map.2 ⟨q, hq, e⟩)
  | p :: R, k + 1, x, hd, h => by
    rw [List.getElem?_cons_succ] at h
    simp only [keys, List.map_cons, List.nodup_cons] at hd
    rw [List.map_cons, List.set_cons_succ, map_set R k x hd.2 h, if_neg]
    intro e
    have := List.mem_of_getElem? h
    exact hd.1 (List.mem_map.2 ⟨_, this, e.symm⟩)
theorem put_set {R : Rows} (hR : Ok R) {k : Nat} {i : Int} {x : Nat} (h : R[k]? = some (i, x)) (y : Nat) : put R i y = R.set k (i, y) := by
  unfold put
  rw [if_pos (look_some_key.2 (List.mem_map.2 ⟨_, List.mem_of_getElem? h, rfl⟩)), map_set R k x hR.1 h]
theorem own_form {w : World} {base : Nat} {e : TypeId} {size : Nat} {v : Value} {n : Nat} {xs : List Value} (h : w.ownsRow base e size v n xs) (hn : 0 < n) : ∃ gb cap, v = .slice (some ⟨gb, 0, none⟩) n cap ∧ base ≤ gb := by
  rcases h.2 with ⟨_, h0⟩ | ⟨gb, cap, cur, hv, hg, _⟩
  · omega
  · exact ⟨gb, cap, hv, hg⟩
/-- The document's tally, its row told. -/
def RAtV (w : World) (g : Nat) (n : Int) (R : Rows) (v : Value) : Prop := Whole w g 61 [.int .i64 n, v] ∧ w.ownsRow (g + 1) 63 2 v R.length (R.flatMap rc)
theorem RAtV.rat {w : World} {g : Nat} {n : Int} {R : Rows} {v : Value} (h : RAtV w g n R v) : RAt w g n R := ⟨v, h⟩
/-- What it may turn: its own block, its row's, what is new; its row's is then the same, or new. -/
def RTo (w w' : World) (g : Nat) (n : Int) (R : Rows) (v : Value) : Prop := ∃ v', RAtV w' g n R v' ∧ Foot (fun k => k = g ∨ v.ownBlock = some k) w w' ∧ (v'.ownBlock = v.ownBlock ∨ ∀ k, v'.ownBlock = some k → w.heap.size ≤ k)
theorem put_new {R : Rows} {i : Int} (h : look R i = none) (y : Nat) : put R i y = (R ++ [(i, 0)]).set R.length (i, y) := by
  unfold put
  rw [h, if_neg (by simp)]
  simp

set_option maxHeartbeats 1000000 in
theorem rnote_lo (g : Nat) (n : Int) (R : Rows) (i r : Int) (h1 : i < 1) (w : World) (ht : RAt w g n R) :
    Calls Try.prog 15 #[.pointer (some ⟨g, 0, none⟩), .int .i64 i, .int .i64 r] w fun e w' => e = .returned (.int .i64 2) ∧ w = w' := by
  obtain ⟨v, hw, _⟩ := ht
  have c0 := hw.cell 0
  simp only [List.getElem?_cons_zero] at c0
  clear hw
  go_enter Try.func15, Try.ntmps15
  go_wp2_with fail
  go_ret
  exact ⟨rfl, rfl⟩

set_option maxHeartbeats 1000000 in
theorem rnote_hi (g : Nat) (n : Int) (R : Rows) (i r : Int) (h1 : 1 ≤ i) (h2 : 1099511627776 < i) (w : World) (ht : RAt w g n R) :
    Calls Try.prog 15 #[.pointer (some ⟨g, 0, none⟩), .int .i64 i, .int .i64 r] w fun e w' => e = .returned (.int .i64 2) ∧ w = w' := by
  obtain ⟨v, hw, _⟩ := ht
  have c0 := hw.cell 0
  simp only [List.getElem?_cons_zero] at c0
  clear hw
  go_enter Try.func15, Try.ntmps15
  go_wp2_with fail
  go_ret
  exact ⟨rfl, rfl⟩

set_option maxHeartbeats 1000000 in
theorem rnote_rlo (g : Nat) (n : Int) (R : Rows) (i r : Int) (h1 : 1 ≤ i) (h2 : i ≤ 1099511627776) (h3 : r < 0) (w : World) (ht : RAt w g n R) :
    Calls Try.prog 15 #[.pointer (some ⟨g, 0, none⟩), .int .i64 i, .int .i64 r] w fun e w' => e = .returned (.int .i64 2) ∧ w = w' := by
  obtain ⟨v, hw, _⟩ := ht
  have c0 := hw.cell 0
  simp only [List.getElem?_cons_zero] at c0
  clear hw
  go_enter Try.func15, Try.ntmps15
  go_wp2_with fail
  go_ret
  exact ⟨rfl, rfl⟩

set_option maxHeartbeats 1000000 in
theorem rnote_rhi (g : Nat) (n : Int) (R : Rows) (i r : Int) (h1 : 1 ≤ i) (h2 : i ≤ 1099511627776) (h3 : 0 ≤ r) (h4 : n ≤ r) (w : World) (ht : RAt w g n R) :
    Calls Try.prog 15 #[.pointer (some ⟨g, 0, none⟩), .int .i64 i, .int .i64 r] w fun e w' => e = .returned (.int .i64 2) ∧ w = w' := by
  obtain ⟨v, hw, _⟩ := ht
  have c0 := hw.cell 0
  simp only [List.getElem?_cons_zero] at c0
  clear hw
  go_enter Try.func15, Try.ntmps15
  go_wp2_with fail
  go_ret
  exact ⟨rfl, rfl⟩

set_option maxHeartbeats 1000000 in
theorem rnote_full (g : Nat) (n : Int) (R : Rows) (i r : Int) (h1 : 1 ≤ i) (h2 : i ≤ 1099511627776) (h3 : 0 ≤ r) (h4 : r < n) (hno : look R i = none) (hlen : R.length = 64) (w : World) (ht : RAt w g n R) :
    Calls Try.prog 15 #[.pointer (some ⟨g, 0, none⟩), .int .i64 i, .int .i64 r] w fun e w' => e = .returned (.int .i64 4) ∧ w = w' := by
  have AT := Lib.hid (rat_any g n R i w ht)
  obtain ⟨v, hw, hown⟩ := ht
  obtain ⟨A, c, rfl, _, _⟩ := (Row.of_own hown).slice
  have c0 := hw.cell 0
  have c1 := hw.cell 1
  simp only [List.getElem?_cons_zero, List.getElem?_cons_succ] at c0 c1
  have hz := atZ_none.2 hno
  have hz1 := (atZ_ge R i).1
  generalize atZ R i = z at *
  rw [hlen] at c1
  clear hw hown hno
  go_enter Try.func15, Try.ntmps15
  go_wp2_with fail
  refine AT.out.mono ?_
  rintro e u ⟨rfl, rfl⟩
  go_wp2_with fail
  go_ret
  exact ⟨rfl, rfl⟩

set_option maxHeartbeats 4000000 in
theorem rnote_old (g : Nat) (n : Int) (R : Rows) (hR : Ok R) (i : Int) (r : Nat) (hr7 : r < 7) (h1 : 1 ≤ i) (h2 : i ≤ 1099511627776) (h3 : (0 : Int) ≤ (r : Int)) (h4 : (r : Int) < n) (hsome : (look R i).isSome = true) (v : Value) (w : World) (ht : RAtV w g n R v) :
    Calls Try.prog 15 #[.pointer (some ⟨g, 0, none⟩), .int .i64 i, .int .i64 r] w fun e w' => e = .returned (.int .i64 0) ∧ RTo w w' g n (put R i (addN (setOf R i) r)) v := by
  have AT := Lib.hid (rat_any g n R i w ht.rat)
  obtain ⟨hw, hown⟩ := ht
  have hz : 0 ≤ atZ R i := by
    rcases Int.lt_or_le (atZ R i) 0 with h | h
    · rw [atZ_none.1 h] at hsome; cases hsome
    · exact h
  obtain ⟨k, hk, x, hx, hkx⟩ := atZ_some hz
  have hs : setOf R i = x := by unfold setOf; rw [hx]; rfl
  have hx8 : x < 256 := by rw [← hs]; exact ok_lt hR i
  have hlt : k < R.length := by
    rcases Nat.lt_or_ge k R.length with h | h
    · exact h
    · rw [List.getElem?_eq_none h] at hkx; cases hkx
  rw [hs]
  obtain ⟨gb, cap, rfl, hgb⟩ : ∃ gb cap, v = .slice (some ⟨gb, 0, none⟩) R.length cap ∧ g + 1 ≤ gb := by
    rcases hown.2 with ⟨_, h0⟩ | ⟨gb, cap, cur, hv, hg, _⟩
    · omega
    · exact ⟨gb, cap, hv, hg⟩
  have hlen := (Row.of_own hown).bound
  have x1 := hown.cellAt (k * 2 + 1) (by omega)
  rw [flat_at rc_len R k 1 (i, x) hkx (by omega)] at x1
  have f1 := hown.frozenAt (k * 2 + 1)
  have c0 := hw.cell 0
  have c1 := hw.cell 1
  simp only [List.getElem?_cons_zero, List.getElem?_cons_succ, rc] at c0 c1 x1
  have HA := Lib.hid (radd_nat x hx8 r hr7)
  have HP := Lib.hid (put_set hR hkx (addN x r))
  have HF := Lib.hid (flat_set R k i x (addN x r) hkx)
  have HW := Lib.hid hw
  have HO := Lib.hid hown
  rw [hk] at AT
  have hk0 : (0 : Int) ≤ (k : Int) := by omega
  have hk1 : (k : Int) < (R.length : Int) := by omega
  clear hw hown hz hk hx hkx hs hsome hR hx8
  go_enter Try.func15, Try.ntmps15
  go_wp2_with fail
  refine AT.out.mono ?_
  rintro e u ⟨rfl, rfl⟩
  go_wp2_with fail
  refine wp_region_still_tail 17 (by kernel_rfl) (by kernel_rfl) ?_
  simp only [List.take_succ_cons, List.take_zero, List.drop_succ_cons, List.drop_zero]
  refine wpStill_step (fun K hK => ?_)
  go_simp
  refine hK _ ?_
  clear hK K
  refine wpStill_step (fun K hK => ?_)
  go_simp
  refine hK _ ?_
  clear hK K
  refine wpStill_step (fun K hK => ?_)
  go_simp
  refine hK _ ?_
  clear hK K
  refine wpStill_step (fun K hK => ?_)
  go_simp
  refine hK _ ?_
  clear hK K
  refine wpStill_step (fun K hK => ?_)
  go_simp
  refine hK _ ?_
  clear hK K
  refine wpStill_step (fun K hK => ?_)
  go_simp
  refine hK _ ?_
  clear hK K
  refine wpStill_step (fun K hK => ?_)
  go_simp
  refine hK _ ?_
  clear hK K
  refine wpStill_step (fun K hK => ?_)
  go_simp
  refine hK _ ?_
  clear hK K
  refine wpStill_step (fun K hK => ?_)
  go_simp
  refine hK _ ?_
  clear hK K
  refine wpStill_step (fun K hK => ?_)
  go_simp
  refine hK _ ?_
  clear hK K
  refine wpStill_step (fun K hK => ?_)
  go_simp
  refine hK _ ?_
  clear hK K
  refine wpStill_step (fun K hK => ?_)
  go_simp
  refine hK _ ?_
  clear hK K
  refine wpStill_step (fun K hK => ?_)
  go_simp
  refine hK _ ?_
  clear hK K
  refine wpStill_step (fun K hK => ?_)
  go_simp
  refine hK _ ?_
  clear hK K
  refine wpStill_step (fun K hK => ?_)
  go_simp
  refine ⟨_, (HA.out _).mono (fun e w' h => ⟨h.1, h.2.symm⟩), hK _ ?_⟩
  clear hK K
  refine wpStill_step (fun K hK => ?_)
  go_simp
  refine hK _ ?_
  clear hK K
  refine wpStill_step (fun K hK => ?_)
  go_simp
  refine hK _ ?_
  clear hK K
  refine wpStill_nil ?_
  go_wp2_with fail
  go_ret
  obtain ⟨s1, s2⟩ := (HO.out.drew).stored (k * 2 + 1) (.int .u8 (addN x r : Nat))
  rw [HF.out] at s1
  refine ⟨rfl, _, ⟨(HW.out.drew).far (p := ⟨gb, k * 2 + 1, none⟩) (by simp; omega) _, ?_⟩, ((Foot.refl _ w).drew).set (p := ⟨gb, k * 2 + 1, none⟩) (.inl (.inr rfl)) _, .inl rfl⟩
  rw [HP.out, List.length_set]; exact s1

set_option maxHeartbeats 4000000 in
theorem rnote_new (g : Nat) (n : Int) (R : Rows) (hR : Ok R) (i : Int) (r : Nat) (hr7 : r < 7) (h1 : 1 ≤ i) (h2 : i ≤ 1099511627776) (h3 : (0 : Int) ≤ (r : Int)) (h4 : (r : Int) < n) (hno : look R i = none) (hlen : R.length < 64) (v : Value) (w : World) (ht : RAtV w g n R v) :
    Calls Try.prog 15 #[.pointer (some ⟨g, 0, none⟩), .int .i64 i, .int .i64 r] w fun e w' => e = .returned (.int .i64 0) ∧ RTo w w' g n (put R i (addN (setOf R i) r)) v := by
  have AT := Lib.hid (rat_any g n R i w ht.rat)
  obtain ⟨hw, hown⟩ := ht
  obtain ⟨A, c, rfl, _, _⟩ := (Row.of_own hown).slice
  have hs : setOf R i = 0 := by unfold setOf; rw [hno]; rfl
  rw [hs]
  have hz := atZ_none.2 hno
  have hz1 := (atZ_ge R i).1
  have hlg := hw.lt
  obtain ⟨i0, hi, hz0, hz1', hz2⟩ := info_parts info_row
  have HP := Lib.hid (put_new hno (addN 0 r))
  have HX := Lib.hid (show (R ++ [(i, 0)])[R.length]? = some (i, 0) by simp)
  generalize atZ R i = z at *
  have c0 := hw.cell 0
  have c1 := hw.cell 1
  have fz1 := hw.free 1
  simp only [List.getElem?_cons_zero, List.getElem?_cons_succ] at c0 c1
  have HA := Lib.hid (radd_nat 0 (by omega) r hr7)
  have HW := Lib.hid hw
  have HO := Lib.hid hown
  have hl0 : ((R.length : Int) == 64) = false := by simp; omega
  clear hw hown hno hs hR
  go_enter Try.func15, Try.ntmps15
  go_wp2_with fail
  refine AT.out.mono ?_
  rintro e u ⟨rfl, rfl⟩
  go_wp2_with (at_builtin; refine wpList_append_foot _ rfl (.tmp 45) (.tmp 48) _ rfl (g + 1) 63 i0 _ 2 16 Try.underlying59 hi hz0 hz1' hz2 rfl (by decide) _ R.length (R.flatMap rc) rfl (HO.out.alloc _) (w.heap.size + 1) _ 1 [.int .i64 i, .int .u8 0] rfl (Row.blk (Whole.new _ 63 [.int .i64 i, .int .u8 0]) rfl (by omega) (by unfold maxLen; omega)) rfl (by intro u hu; simp only [List.mem_cons, List.not_mem_nil, or_false] at hu; rcases hu with rfl | rfl <;> rfl) (by unfold maxLen; omega) (by omega) (by simp; omega) ?_; intro v1 w1 hown1 hg1 hv1; have hb1 := below_grown _ (HO.out.alloc _) (by simp; omega) hg1; have hw1 := (HW.out.alloc _).below hb1 (Nat.lt_succ_self g); have d0 := hw1.cell 0; have d1 := hw1.cell 1; have fz2 := hw1.free 1; have HH1 := Lib.hid hw1; clear hw1; simp only [List.getElem?_cons_zero, List.getElem?_cons_succ] at d0 d1; obtain ⟨gb, cap, rfl, hgb⟩ := own_form hown1 (by omega); have HO1 := Lib.hid hown1; have HG1 := Lib.hid hg1; have HV1 := Lib.hid hv1; clear hown1 hb1 hg1 hv1)
  clear c0 c1 fz1 d0 d1 fz2
  have HO2 := Lib.hid (ownsRow_setCell_below HO1.out (a := ⟨g, 1, none⟩) (by simp) (.slice (some ⟨gb, 0, none⟩) (R.length + 1) cap))
  have HW2 := Lib.hid (HH1.out.set 1 (.slice (some ⟨gb, 0, none⟩) (R.length + 1) cap))
  have HB2 := Lib.hid ((((Foot.refl (fun k => k = g ∨ (Value.slice A R.length c).ownBlock = some k) w).alloc (.cells #[.int .i64 i, .int .u8 0] 63)).then (Foot.of_grown HG1.out) (fun i hi => .inl (.inr hi))).set (p := ⟨g, 1, none⟩) (.inl (.inl rfl)) (.slice (some ⟨gb, 0, none⟩) (R.length + 1) cap))
  clear HO1 HH1 HG1
  generalize w1.setCell ⟨g, 1, none⟩ (.slice (some ⟨gb, 0, none⟩) (R.length + 1) cap) = W at *
  have x1 := HO2.out.cellAt (R.length * 2 + 1) (by omega)
  have hfl : R.flatMap rc ++ [.int .i64 i, .int .u8 0] = (R ++ [(i, 0)]).flatMap rc := by rw [List.flatMap_append]; rfl
  have HFL := Lib.hid hfl
  rw [hfl, flat_at rc_len (R ++ [(i, 0)]) R.length 1 (i, 0) HX.out (by omega)] at x1
  clear hfl
  have f1 := HO2.out.frozenAt (R.length * 2 + 1)
  have c1 := HW2.out.cell 1
  simp only [List.set_cons_zero, List.set_cons_succ, List.getElem?_cons_zero, List.getElem?_cons_succ, rc] at c1 x1
  have HF := Lib.hid (flat_set (R ++ [(i, 0)]) R.length i 0 (addN 0 r) HX.out)
  have hb1 : (0 : Int) ≤ (R.length : Int) := by omega
  have hb2 : (R.length : Int) < (R.length : Int) + 1 := by omega
  refine wp_region_still_tail 17 (by kernel_rfl) (by kernel_rfl) ?_
  simp only [List.take_succ_cons, List.take_zero, List.drop_succ_cons, List.drop_zero]
  refine wpStill_step (fun K hK => ?_)
  go_simp
  refine hK _ ?_
  clear hK K
  refine wpStill_step (fun K hK => ?_)
  go_simp
  refine hK _ ?_
  clear hK K
  refine wpStill_step (fun K hK => ?_)
  go_simp
  refine hK _ ?_
  clear hK K
  refine wpStill_step (fun K hK => ?_)
  go_simp
  refine hK _ ?_
  clear hK K
  refine wpStill_step (fun K hK => ?_)
  go_simp
  refine hK _ ?_
  clear hK K
  refine wpStill_step (fun K hK => ?_)
  go_simp
  refine hK _ ?_
  clear hK K
  refine wpStill_step (fun K hK => ?_)
  go_simp
  refine hK _ ?_
  clear hK K
  refine wpStill_step (fun K hK => ?_)
  go_simp
  refine hK _ ?_
  clear hK K
  refine wpStill_step (fun K hK => ?_)
  go_simp
  refine hK _ ?_
  clear hK K
  refine wpStill_step (fun K hK => ?_)
  go_simp
  refine hK _ ?_
  clear hK K
  refine wpStill_step (fun K hK => ?_)
  go_simp
  refine hK _ ?_
  clear hK K
  refine wpStill_step (fun K hK => ?_)
  go_simp
  refine hK _ ?_
  clear hK K
  refine wpStill_step (fun K hK => ?_)
  go_simp
  refine hK _ ?_
  clear hK K
  refine wpStill_step (fun K hK => ?_)
  go_simp
  refine hK _ ?_
  clear hK K
  refine wpStill_step (fun K hK => ?_)
  go_simp
  refine ⟨_, (HA.out _).mono (fun e w' h => ⟨h.1, h.2.symm⟩), hK _ ?_⟩
  clear hK K
  refine wpStill_step (fun K hK => ?_)
  go_simp
  refine hK _ ?_
  clear hK K
  refine wpStill_step (fun K hK => ?_)
  go_simp
  refine hK _ ?_
  clear hK K
  refine wpStill_nil ?_
  go_wp2_with fail
  go_ret
  obtain ⟨s1, s2⟩ := (HO2.out.drew).stored (R.length * 2 + 1) (.int .u8 (addN 0 r : Nat))
  rw [HFL.out, HF.out] at s1
  have hgv : (Value.slice A R.length c).ownBlock = some gb ∨ w.heap.size ≤ gb := by
    rcases HV1.out with h | h
    · exact .inl h.symm
    · right; simp only [Value.ownBlock, World.size_alloc, Option.some.injEq] at h; omega
  refine ⟨rfl, _, ⟨(HW2.out.drew).far (p := ⟨gb, R.length * 2 + 1, none⟩) (by simp; omega) _, ?_⟩, (HB2.out.drew).set (p := ⟨gb, R.length * 2 + 1, none⟩) (hgv.imp .inr id) _, ?_⟩
  · rw [HP.out, List.length_set, List.length_append]; exact s1
  · rcases hgv with h | h
    · exact .inl h.symm
    · refine .inr fun k hk => ?_
      simp only [Value.ownBlock, Option.some.injEq] at hk
      omega


end Ta
end Go.Proofs.Ytmpcjiacgbcpdaa
