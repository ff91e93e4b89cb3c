/- Ballots are sorted: the comparison of ballots, slices.SortFunc with it. -/
import Derived.Test.YtpgejomhcojppaaChooseBy
import Derived.Shelf.SlSortCmp.NoneTotal
import Derived.Lib.OwnBridge
import Derived.Ground.SlsfProg
set_option linter.unusedSimpArgs false
set_option linter.unusedVariables false
namespace Go.Proofs.Ytpgejomhcojppaa
open Go.RowKit
open Go.Shelf Go.Lib Go.Sort
/-- Which numbers the sort's functions and types have in this program. -/
def Try.sortBallots_ren : Go.Shelf.Ren := ⟨fun | 6 => 39 | 15 => 53 | 14 => 52 | 28 => 65 | 29 => 66 | 20 => 57 | 21 => 58 | 22 => 59 | 23 => 60 | 24 => 61 | 25 => 62 | 26 => 63 | 27 => 64 | 46 => 67 | 47 => 68 | 48 => 69 | 49 => 70 | 50 => 71 | 57 => 72 | n => n, fun | 22 => 63 | 24 => 27 | 25 => 84 | 3 => 3 | 39 => 96 | 0 => 0 | 53 => 108 | 55 => 25 | 4 => 4 | 46 => 101 | 45 => 100 | 50 => 105 | 5 => 5 | 9 => 9 | 66 => 110 | 70 => 114 | 76 => 116 | 77 => 117 | n => n, fun | n => n⟩
/-- The sort of ballots, as it is laid in this program. -/
theorem Try.sortBallots : SlLaysF0.n6 Try.prog Try.sortBallots_ren := {
  mixed := by kernel_rfl
  f6 := ⟨Try.f39.name, by decide, Try.func39.trans (congrArg some (by kernel_rfl))⟩
  f14 := ⟨Try.f52.name, by decide, Try.func52.trans (congrArg some (by kernel_rfl))⟩
  f15 := Try.func53.trans (congrArg some (by kernel_rfl))
  f20 := ⟨Try.f57.name, by decide, Try.func57.trans (congrArg some (by kernel_rfl))⟩
  f21 := ⟨Try.f58.name, by decide, Try.func58.trans (congrArg some (by kernel_rfl))⟩
  f22 := ⟨Try.f59.name, by decide, Try.func59.trans (congrArg some (by kernel_rfl))⟩
  f23 := ⟨Try.f60.name, by decide, Try.func60.trans (congrArg some (by kernel_rfl))⟩
  f24 := ⟨Try.f61.name, by decide, Try.func61.trans (congrArg some (by kernel_rfl))⟩
  f25 := ⟨Try.f62.name, by decide, Try.func62.trans (congrArg some (by kernel_rfl))⟩
  f26 := ⟨Try.f63.name, by decide, Try.func63.trans (congrArg some (by kernel_rfl))⟩
  f27 := ⟨Try.f64.name, by decide, Try.func64.trans (congrArg some (by kernel_rfl))⟩
  f28 := Try.func65.trans (congrArg some (by kernel_rfl))
  f29 := Try.func66.trans (congrArg some (by kernel_rfl))
  f46 := ⟨Try.f67.name, by decide, Try.func67.trans (congrArg some (by kernel_rfl))⟩
  f47 := Try.func68.trans (congrArg some (by kernel_rfl))
  f48 := Try.func69.trans (congrArg some (by kernel_rfl))
  f49 := ⟨Try.f70.name, by decide, Try.func70.trans (congrArg some (by kernel_rfl))⟩
  f50 := ⟨Try.f71.name, by decide, Try.func71.trans (congrArg some (by kernel_rfl))⟩
  f57 := ⟨Try.f72.name, by decide, Try.func72.trans (congrArg some (by kernel_rfl))⟩
  t0 := Try.underlying0
  a0 := Try.isAgg0
  z0 := Try.sizeOf0
  v0 := Try.zeroValue0
  t3 := Try.underlying3
  a3 := Try.isAgg3
  z3 := Try.sizeOf3
  v3 := Try.zeroValue3
  t4 := Try.underlying4
  a4 := Try.isAgg4
  z4 := Try.sizeOf4
  v4 := Try.zeroValue4
  t5 := Try.underlying5
  a5 := Try.isAgg5
  z5 := Try.sizeOf5
  v5 := Try.zeroValue5
  t9 := Try.underlying9
  a9 := Try.isAgg9
  z9 := Try.sizeOf9
  v9 := Try.zeroValue9
  t22 := Try.underlying63
  a22 := Try.isAgg63
  z22 := Try.sizeOf63
  v22 := Try.zeroValue63
  t25 := Try.underlying84
  a25 := Try.isAgg84
  z25 := Try.sizeOf84
  v25 := Try.zeroValue84
  t39 := Try.underlying96
  a39 := Try.isAgg96
  z39 := Try.sizeOf96
  v39 := Try.zeroValue96
  t45 := Try.underlying100
  a45 := Try.isAgg100
  z45 := Try.sizeOf100
  v45 := Try.zeroValue100
  t46 := Try.underlying101
  a46 := Try.isAgg101
  z46 := Try.sizeOf101
  v46 := Try.zeroValue101
  t50 := Try.underlying105
  a50 := Try.isAgg105
  z50 := Try.sizeOf105
  v50 := Try.zeroValue105
  t53 := Try.underlying108
  a53 := Try.isAgg108
  z53 := Try.sizeOf108
  v53 := Try.zeroValue108
  t55 := Try.underlying25
  a55 := Try.isAgg25
  z55 := Try.sizeOf25
  v55 := Try.zeroValue25
  t66 := Try.underlying110
  a66 := Try.isAgg110
  z66 := Try.sizeOf110
  v66 := Try.zeroValue110
  t70 := Try.underlying114
  a70 := Try.isAgg114
  z70 := Try.sizeOf114
  v70 := Try.zeroValue114
  t76 := Try.underlying116
  a76 := Try.isAgg116
  z76 := Try.sizeOf116
  v76 := Try.zeroValue116
  t77 := Try.underlying117
  a77 := Try.isAgg117
  z77 := Try.sizeOf117
  v77 := Try.zeroValue117 }
/-- A world that has grown. -/
theorem grow_of {w u : World} (h : Below w.heap.size w u) (hd : w.drawn ≤ u.drawn) : ∃ q os, u = grow (w.drewN q) os := by
  refine ⟨u.drawn - w.drawn, u.heap.extract w.heap.size u.heap.size, ?_⟩
  obtain ⟨uh, ut, ud, uo, uu⟩ := u
  obtain ⟨wh, wt, wd, wo, wu⟩ := w
  obtain ⟨h1, h2, h3, h4, h5⟩ := h
  dsimp only at h1 h2 h3 h4 h5 hd
  subst h1 h2 h3
  simp only [grow, World.drewN, World.mk.injEq, and_true, true_and]
  refine ⟨?_, by omega⟩
  apply Array.ext_getElem?
  intro k
  by_cases hk : k < wh.size
  · rw [Array.getElem?_append_left hk]; exact h5 k hk
  · rw [Array.getElem?_append_right (by omega), Array.getElem?_extract]
    by_cases hk2 : k < uh.size
    · rw [if_pos (by omega)]; congr 1; omega
    · rw [if_neg (by omega), Array.getElem?_eq_none (by omega)]
/-- Elements' cells, one behind another. -/
theorem flatK_list {α : Type} [Inhabited α] {enc : α → List Value} {k : Nat} (hk : ∀ x, (enc x).length = k) (h0 : 0 < k) (l : List α) : (flatK enc k l.toArray).toList = l.flatMap enc := by
  apply List.ext_getElem?
  intro t
  by_cases ht : t < l.length * k
  · have hq : t / k < l.length := (Nat.div_lt_iff_lt_mul h0).2 ht
    have hm : t % k < k := Nat.mod_lt _ h0
    have h1 := flat_at hk l (t / k) (t % k) l[t / k] (List.getElem?_eq_getElem hq) hm
    have e : t / k * k + t % k = t := by rw [Nat.mul_comm]; exact Nat.div_add_mod t k
    rw [e] at h1
    rw [h1, Array.getElem?_toList, Array.getElem?_eq_getElem (by simpa using ht)]
    have h2 := get_flatK enc k l.toArray t (by simpa using ht)
    rw [getElem!_pos _ t (by simpa using ht)] at h2
    rw [h2, getElem!_pos l.toArray (t / k) (by simpa using hq), List.getElem?_eq_getElem (by rw [hk]; exact hm)]
    simp only [List.getElem_toArray]
    rw [getElem!_pos _ _ (by rw [hk]; exact hm)]
  · rw [List.getElem?_eq_none (by simp; omega), List.getElem?_eq_none (by rw [flat_len hk]; omega)]
theorem holdsK_of_own {α : Type} [Inhabited α] {enc : α → List Value} {k : Nat} (hk : ∀ x, (enc x).length = k) (h0 : 0 < k) {w : World} {base : Nat} {e : TypeId} {g n cap : Nat} {l : List α} (h : w.ownsRow base e k (.slice (some ⟨g, 0, none⟩) n cap) n (l.flatMap enc)) : HoldsK enc k w g 0 l.toArray := by
  intro j hj
  rw [size_flatK] at hj
  have hl : l.length * k = n * k := by rw [← flat_len hk]; exact h.1
  have hj' : j < n * k := by rw [← hl]; simpa using hj
  have h1 := h.cellAt j hj'
  have h2 := h.frozenAt j
  refine ⟨?_, by rw [Nat.zero_add]; exact h2⟩
  rw [Nat.zero_add, h1, ← flatK_list hk h0, Array.getElem?_toList, Array.getElem?_eq_getElem (by rw [size_flatK]; exact hj), getElem!_pos _ j (by rw [size_flatK]; exact hj)]
  rfl
theorem own_put {w : World} {base : Nat} {e : TypeId} {K g n cap q : Nat} {xs ys : List Value} (h : w.ownsRow base e K (.slice (some ⟨g, 0, none⟩) n cap) n xs) (hy : ys.length = n * K) :
    (putRow id (Sort.ahead w q) g 0 ys.toArray).ownsRow base e K (.slice (some ⟨g, 0, none⟩) n cap) n ys := by
  rcases h.2 with ⟨e0, _⟩ | ⟨g', cap', cur, e0, hb, hg, hn, hm, hs, ht⟩
  · cases e0
  · injection e0 with e1 _ e3
    injection e1 with e1
    injection e1 with e1
    subst e1; subst e3
    have hnc : n * K ≤ cap * K := Nat.mul_le_mul_right K hn
    refine ⟨hy, .inr ⟨g, cap, putCells id 0 ys.toArray cur, rfl, hb, ?_, hn, hm, by simpa [putCells] using hs, ?_⟩⟩
    · simp [putRow, mapBlock, Sort.ahead, Array.getElem?_modify, hg, onCells]
    · apply List.ext_getElem?
      intro j
      rw [List.getElem?_take, Array.getElem?_toList]
      by_cases hj : j < n * K
      · have hjc : j < cur.size := by omega
        simp only [if_pos hj, putCells, Array.getElem?_mapIdx, Array.getElem?_eq_getElem hjc, Option.map_some]
        rw [if_pos (by simp; omega), List.getElem?_eq_getElem (by omega)]
        simp [getElem!_pos, show j < ys.length by omega]
      · rw [if_neg hj, List.getElem?_eq_none (by omega)]
theorem below_growS (w : World) (os : Array Obj) : RowKit.Below w.heap.size w (grow w os) := ⟨rfl, rfl, rfl, by simp [grow], fun k hk => by
  show (w.heap ++ os)[k]? = _
  rw [Array.getElem?_append_left hk]⟩
namespace Bl
set_option maxHeartbeats 400000 in
theorem to_drawn (a b : Ba) (w : World) :
    Calls Try.prog 37 #[.agg a.cells.toArray, .agg b.cells.toArray] w fun e w' => e = .returned (.int .i64 (toZ a b)) ∧ Below w.heap.size w w' ∧ w.drawn ≤ w'.drawn := by
  obtain ⟨r, p⟩ := a
  obtain ⟨r', p'⟩ := b
  unfold Ba.cells
  have C := Lib.hid @cmp_any
  have O := Lib.hid @or_any
  go_enter Try.func37, Try.ntmps37
  go_wp2_with fail
  obtain ⟨W, hW⟩ : ∃ W : World, W = (w.alloc (.cells #[.int .i64 r, .int .i64 p] 79)).alloc (.cells #[.int .i64 r', .int .i64 p'] 27) := ⟨_, rfl⟩
  have H0 : Whole W w.heap.size 79 [.int .i64 r, .int .i64 p] := by rw [hW]; exact (Whole.new w _ _).alloc _
  have H1 : Whole W (w.heap.size + 1) 27 [.int .i64 r', .int .i64 p'] := by rw [hW]; have := Whole.new (w.alloc (.cells #[.int .i64 r, .int .i64 p] 79)) 27 [.int .i64 r', .int .i64 p']; rwa [World.size_alloc] at this
  have HB : Below w.heap.size w W := by rw [hW]; exact ((Below.refl _ _).alloc (Nat.le_refl _) _).alloc (by simp) _
  have HD : Hid (w.drawn ≤ W.drawn) := by rw [hW]; exact Nat.le_refl _
  rw [← hW]
  clear hW
  have c0 := H0.cell 0
  have c1 := H0.cell 1
  have c2 := H1.cell 0
  have c3 := H1.cell 1
  simp only [List.getElem?_cons_zero, List.getElem?_cons_succ] at c0 c1 c2 c3
  have HB' := Lib.hid HB
  clear H0 H1 HB
  go_region_held3 (fun u : World => u.cell? ⟨w.heap.size, 0, none⟩ = some (.int .i64 r) ∧ u.cell? ⟨w.heap.size, 1, none⟩ = some (.int .i64 p) ∧ u.cell? ⟨w.heap.size + 1, 0, none⟩ = some (.int .i64 r') ∧ u.cell? ⟨w.heap.size + 1, 1, none⟩ = some (.int .i64 p')) (go_keep)
    (first
    | (go_at_call 50; refine (C.out _ _ _).mono ?_; rintro e w' ⟨rfl, rfl⟩)
    | (go_at_call 49; refine (O.out _ _ _ _ (Whole.new _ _ _).drew).mono ?_; rintro e w' ⟨rfl, rfl⟩))
  go_wp2
  go_ret
  exact ⟨rfl, (HB'.out.alloc HB'.out.size _).drew, Nat.le_succ_of_le HD.out⟩

set_option maxHeartbeats 400000 in
theorem less_drawn (a b : Ba) (w : World) :
    Calls Try.prog 19 #[.agg a.cells.toArray, .agg b.cells.toArray] w fun e w' => e = .returned (.bool (lessB a b)) ∧ Below w.heap.size w w' ∧ w.drawn ≤ w'.drawn := by
  have T := Lib.hid (to_drawn a b)
  have N := Lib.hid (to_neg a b)
  obtain ⟨r, p⟩ := a
  obtain ⟨r', p'⟩ := b
  unfold Ba.cells
  go_enter Try.func19, Try.ntmps19
  go_wp2_with fail
  refine (T.out _).mono ?_
  rintro e w1 ⟨rfl, hb1, hd1⟩
  go_wp2_with fail
  go_ret
  exact ⟨ret_bool N.out, (((Below.refl _ _).alloc (Nat.le_refl _) _).alloc (by simp) _).trans (hb1.mono (by simp; omega)), hd1⟩

end Bl
namespace Ch
open Bl
instance : Inhabited Ba := ⟨zeroBa⟩
/-- What the comparison says: the greater one is in front. -/
def cfB (a b : Ba) : Int := if lessB a b then 1 else if lessB b a then -1 else 0
theorem lt_cf (a b : Ba) : ltOf cfB a b = lessB b a := by
  unfold ltOf cfB
  cases h1 : lessB a b
  · cases h2 : lessB b a <;> simp
  · rw [less_asymm h1]; simp
theorem swoB : SWO (ltOf cfB) := {
  irrefl := fun x => (by rw [lt_cf]; exact less_self x)
  trans := fun x y z h1 h2 => (by rw [lt_cf] at *; exact less_trans h2 h1)
  ntrans := fun x y z h1 h2 => (by rw [lt_cf] at *; exact less_of_not h2 h1) }
set_option maxHeartbeats 1000000 in
theorem cmp_is (a b : Ba) (w : World) : Calls Try.prog 40 #[.agg (baC a).toArray, .agg (baC b).toArray] w fun e w' => e = .returned (.int .i64 (cfB a b)) ∧ Below w.heap.size w w' ∧ w.drawn ≤ w'.drawn := by
  have L1 := less_drawn a b
  have L2 := less_drawn b a
  have HE : Hid (cfB a b = if lessB a b then 1 else if lessB b a then -1 else 0) := rfl
  obtain ⟨r, p⟩ := a
  obtain ⟨r', p'⟩ := b
  simp only [baC]
  simp only [Ba.cells] at L1 L2
  obtain ⟨W, hW⟩ : ∃ W : World, W = (w.alloc (.cells #[.int .i64 r, .int .i64 p] 27)).alloc (.cells #[.int .i64 r', .int .i64 p'] 27) := ⟨_, rfl⟩
  have H0 : Whole W w.heap.size 27 [.int .i64 r, .int .i64 p] := by rw [hW]; exact wh0_2 w _ _ _
  have H1 : Whole W (w.heap.size + 1) 27 [.int .i64 r', .int .i64 p'] := by rw [hW]; exact wh1_2 w _ _ _
  have HB : Hid (Below w.heap.size w W) := by rw [hW]; exact be2 w _ _
  have HD : Hid (w.drawn ≤ W.drawn) := by rw [hW]; exact Nat.le_refl _
  have hz : W.heap.size = w.heap.size + 2 := by rw [hW]; simp
  have c0 := H0.cell 0
  have c1 := H0.cell 1
  have c2 := H1.cell 0
  have c3 := H1.cell 1
  simp only [List.getElem?_cons_zero, List.getElem?_cons_succ] at c0 c1 c2 c3
  have K0 := Lib.hid H0
  have K1 := Lib.hid H1
  clear H0 H1
  cases h1 : lessB ⟨r, p⟩ ⟨r', p'⟩
  · rw [h1] at L1 HE
    have L1 := Lib.hid L1
    have L2 := Lib.hid L2
    clear h1
    go_enter Try.func40, Try.ntmps40
    go_wp2_with fail
    rw [← hW]
    clear hW
    go_wp2_with fail
    refine (L1.out _).mono ?_
    rintro e u1 ⟨rfl, hb1, hd1⟩
    have HB1 := Lib.hid (HB.out.trans (hb1.mono (by omega)))
    have HD1 := Lib.hid (Nat.le_trans HD.out hd1)
    have k0 := K0.out.below hb1 K0.out.lt
    have k1 := K1.out.below hb1 K1.out.lt
    have d0 := k0.cell 0
    have d1 := k0.cell 1
    have d2 := k1.cell 0
    have d3 := k1.cell 1
    have hz1 := hb1.size
    simp only [List.getElem?_cons_zero, List.getElem?_cons_succ] at d0 d1 d2 d3
    clear k0 k1 hb1 hd1 c0 c1 c2 c3
    cases h2 : lessB ⟨r', p'⟩ ⟨r, p⟩
    · rw [h2] at L2 HE
      have L2 := Lib.hid L2.out
      clear h2
      go_wp2_with fail
      refine (L2.out _).mono ?_
      rintro e u2 ⟨rfl, hb2, hd2⟩
      have HB2 := Lib.hid (HB1.out.trans (hb2.mono (by omega)))
      have HD2 := Lib.hid (Nat.le_trans HD1.out hd2)
      clear hb2 hd2
      go_wp2_with fail
      go_ret
      exact ⟨by rw [HE.out]; rfl, HB2.out, HD2.out⟩
    · rw [h2] at L2 HE
      have L2 := Lib.hid L2.out
      clear h2
      go_wp2_with fail
      refine (L2.out _).mono ?_
      rintro e u2 ⟨rfl, hb2, hd2⟩
      have HB2 := Lib.hid (HB1.out.trans (hb2.mono (by omega)))
      have HD2 := Lib.hid (Nat.le_trans HD1.out hd2)
      clear hb2 hd2
      go_wp2_with fail
      go_ret
      exact ⟨by rw [HE.out]; rfl, HB2.out, HD2.out⟩
  · rw [h1] at L1 HE
    have L1 := Lib.hid L1
    clear h1 L2
    go_enter Try.func40, Try.ntmps40
    go_wp2_with fail
    rw [← hW]
    clear hW
    go_wp2_with fail
    refine (L1.out _).mono ?_
    rintro e u1 ⟨rfl, hb1, hd1⟩
    have HB1 := Lib.hid (HB.out.trans (hb1.mono (by omega)))
    have HD1 := Lib.hid (Nat.le_trans HD.out hd1)
    clear hb1 hd1
    go_wp2_with fail
    go_ret
    exact ⟨by rw [HE.out]; rfl, HB1.out, HD1.out⟩
/-- Ballots, the greatest first. -/
def sortD (l : List Ba) : List Ba := l.mergeSort fun x y => !lessB x y
theorem sortD_perm (l : List Ba) : (sortD l).Perm l := List.mergeSort_perm l _
theorem sortD_sorted (l : List Ba) : (sortD l).Pairwise fun x y => lessB x y = false := by
  have h := List.pairwise_mergeSort (le := fun x y : Ba => !lessB x y) (fun a b c h1 h2 => by simp only [Bool.not_eq_true'] at *; exact less_of_not h1 h2) (fun a b => by
    cases h1 : lessB a b
    · rfl
    · rw [less_asymm h1]; rfl) l
  exact h.imp (fun {a b} h => by simpa using h)
set_option maxHeartbeats 1000000 in
theorem sortf_is (l : List Ba) (v : Value) (base : Nat) (w : World) (hown : w.ownsRow base 27 2 v l.length (l.flatMap baC)) (hbase : base ≤ w.heap.size) (hl : l.length ≤ 500) :
    Calls Try.prog 39 #[v, .func (.func 40) #[] #[]] w fun e w' => e = .returned (.tuple #[]) ∧ w'.ownsRow base 27 2 v (sortD l).length ((sortD l).flatMap baC) ∧ Below base w w' := by
  have hlen : (sortD l).length = l.length := (sortD_perm l).length_eq
  rw [hlen]
  rcases hown.2 with ⟨e0, hn⟩ | ⟨g, cap, cur, e0, hg, _⟩
  · obtain rfl : l = [] := List.eq_nil_of_length_eq_zero hn
    subst e0
    have h := AnyF.slices_SortFunc_none { Try.sortBallots with } none 0 (.func (.func 40) #[] #[]) w
    refine (show Calls Try.prog 39 _ _ _ from h).mono ?_
    rintro e w' ⟨he, rfl⟩
    exact ⟨he, ⟨by simp [sortD], .inl ⟨rfl, rfl⟩⟩, Below.refl _ _⟩
  · subst e0
    have hlt := (own_lt hown (i := g) rfl).2
    have eg : ∀ args w, (callFunc 40 args).run Try.prog w = .ok (.enter 40 args) w := enters_of Try.func40 (by kernel_rfl) rfl
    have h := AnyQ.slices_SortFunc_total Try.sortBallots 2 Try.isAgg27 Try.sizeOf27 baC baC_len baC_one cfB swoB 40 #[] g 0 cap l.toArray w eg
      (fun m os dk _ x y => (cmp_is x y _).mono fun e w' ⟨he, hb, hd⟩ => ⟨he, grow_of hb hd⟩) (holdsK_of_own baC_len (by omega) hown) hlt (by simp; omega)
      (fun x y h1 h2 => by rw [lt_cf] at h1 h2; exact (less_total h1 h2).symm)
    refine (show Calls Try.prog 39 _ _ _ from h).mono ?_
    rintro e w' ⟨he, n, os, rfl⟩
    have hE : (l.mergeSort fun x y => !(ltOf cfB) y x) = sortD l := by
      unfold sortD
      congr 1
      funext x y
      rw [lt_cf]
    have hw : sortWorldK baC 2 w g 0 n ((l.toArray.toList).mergeSort fun x y => !(ltOf cfB) y x).toArray os = grow (putRow id (Sort.ahead w n) g 0 ((sortD l).flatMap baC).toArray) os := by
      unfold sortWorldK putRowK
      rw [show l.toArray.toList = l from rfl, hE, ← flatK_list baC_len (by omega) (sortD l)]
    have h1 : (putRow id (Sort.ahead w n) g 0 ((sortD l).flatMap baC).toArray).ownsRow base 27 2 (.slice (some ⟨g, 0, none⟩) l.length cap) l.length ((sortD l).flatMap baC) := own_put hown (by rw [flat_len baC_len, hlen])
    have h2 : Below base w (putRow id (Sort.ahead w n) g 0 ((sortD l).flatMap baC).toArray) := below_putRow (Below.refl _ _) hg
    rw [hw]
    exact ⟨he, own_below h1 (below_growS _ _), h2.trans ((below_growS _ _).mono (Nat.le_trans hbase h2.size))⟩
end Ch
end Go.Proofs.Ytpgejomhcojppaa
