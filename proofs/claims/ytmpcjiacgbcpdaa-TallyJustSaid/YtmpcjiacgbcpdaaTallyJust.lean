/- The law TallyJust, walked. -/
import Derived.Test.YtmpcjiacgbcpdaaTallyAwake
import Derived.Test.YtmpcjiacgbcpdaaTallyMorePlain
import Derived.StillTailTactics
set_option linter.unusedSimpArgs false
set_option linter.unusedVariables false
namespace Go.Proofs.Ytmpcjiacgbcpdaa
open Go.RowKit
open Qm

namespace Ta

/-- The sets of the slots 0 to 79. -/
def arrC (R : Rows) : List Value := (List.range 80).map fun i : Nat => .int .u8 ((setOf R (i : Int) : Nat) : Int)
theorem zero_arr (w : World) : (zeroValue 46).run Try.prog w = .ok (.agg (arrC []).toArray) w := by kernel_rfl
theorem arr_at (R : Rows) (j : Nat) (hj : j < 80) : (arrC R)[j]? = some (.int .u8 ((setOf R (j : Int) : Nat) : Int)) := by
  unfold arrC
  rw [List.getElem?_map, List.getElem?_range hj]; rfl
theorem arr_set (R : Rows) (j : Nat) (hj : j < 80) (r : Int) : (arrC R).set j (.int .u8 ((addN (setOf R (j : Int)) r : Nat) : Int)) = arrC (noteR R ((j : Int), r)) := by
  apply List.ext_getElem?
  intro i
  unfold noteR
  rw [List.getElem?_set]
  by_cases hi : i < 80
  · rw [arr_at R i hi, arr_at _ i hi, set_put]
    by_cases e : j = i
    · subst e
      rw [if_pos rfl, if_pos rfl, if_pos (by unfold arrC; simpa using hj)]
    · rw [if_neg e, if_neg (by dsimp only; omega)]
  · have l1 : ∀ R : Rows, (arrC R)[i]? = none := fun R => List.getElem?_eq_none (by unfold arrC; simp; omega)
    rw [l1, l1]
    split
    · omega
    · rfl
theorem TallyAt.far {w : World} {g b : Nat} {n : Int} {R : Rows} (h : TallyAt w g b n R) {p : Addr} (h1 : g ≠ p.block) (h2 : b ≠ p.block) (x : Value) : TallyAt (w.setCell p x) g b n R := ⟨h.1.far h1 x, h.2.1.far h2 x, h.2.2⟩
theorem enough_60 {R : Rows} (h : Ok60 R) {n j : Int} (he : enoughB (setOf R j) n = true) : j ≤ 60 := by
  cases hl : look R j with
  | none =>
    have : setOf R j = 0 := by unfold setOf; rw [hl]; rfl
    rw [this, enough_zero] at he; cases he
  | some x => exact h.2 j (look_some_key.1 (by rw [hl]; rfl))
theorem upto_70 {R : Rows} (h : Ok60 R) {n f u : Int} (hf : f ≤ 70) (hu : UptoIs R n f u) : u ≤ 70 := by
  by_cases e : u = f
  · omega
  · have := enough_60 h (hu.2.1 u (by have := hu.1; omega) (Int.le_refl _)); omega

set_option maxRecDepth 100000 in
set_option maxHeartbeats 8000000 in
theorem tallyJust_is (n : Int) (l : Pairs) (v : Value) (f : Int) (w : World) (hr : Row w w.heap.size v l.length (l.flatMap pc)) :
    Calls Try.prog 5 #[.int .i64 n, v, .int .i64 f] w fun e w' => e = .returned (.bool true) ∧ Below w.heap.size w w' := by
  have AW := Lib.hid (awake_is w)
  obtain ⟨A, c, rfl, _, _⟩ := hr.slice
  have HR := Lib.hid hr
  clear hr
  go_enter Try.func5, Try.ntmps5
  go_wp2_with fail
  refine AW.out.mono ?_
  rintro e u ⟨rfl, hx⟩
  have HB := Lib.hid hx
  have HR1 := Lib.hid ((HR.out.below hx).more hx.size)
  clear hx
  go_wp2_with fail
  refine (of_any n u).mono ?_
  rintro e u1 ⟨⟨m, rfl, hm⟩, rfl⟩
  have HM := Lib.hid hm
  clear hm
  go_wp2_with fail
  refine (near_any m l _ u HR1.out).mono ?_
  rintro e u1 ⟨rfl, rfl⟩
  cases hq : nearB m l
  · go_wp2_with fail
    go_ret
    exact ⟨rfl, HB.out⟩
  have hq' := hq
  unfold nearB at hq'
  rw [Bool.and_eq_true, decide_eq_true_eq] at hq'
  obtain ⟨hl, hok⟩ := hq'
  have HOK := Lib.hid hok
  clear hq hok
  by_cases f1 : f < 0
  · go_wp2_with fail
    go_ret
    exact ⟨rfl, HB.out⟩
  by_cases f2 : 70 < f
  · have f1' : 0 ≤ f := by omega
    go_wp2_with fail
    go_ret
    exact ⟨rfl, HB.out⟩
  have f3 : 0 ≤ f := by omega
  have f4 : f ≤ 70 := by omega
  clear f1 f2
  go_wp2_with fail
  refine (noted_ok m HM.out l HOK.out _ u HR1.out).mono ?_
  rintro e u2 ⟨rfl, hta, hx⟩
  have HT1 := Lib.hid hta
  have HB2 := Lib.hid (HB.out.trans (hx.mono HB.out.size))
  have HR2 := Lib.hid ((HR1.out.below hx).more hx.size)
  have hbl := hta.2.1.lt
  have hgl := hta.1.lt
  have hwu := HB.out.size
  clear hta hx HB HR HR1
  have HN0 : Hid (m ≠ 0) := by show m ≠ 0; have := HM.out; omega
  have H60 := Lib.hid (ok60_list l ok60_nil HOK.out)
  generalize u.heap.size = b at *
  have hza := zero_arr u2
  go_wp2_with fail
  clear hza
  go_loopw [9] (fun iv wr => ∃ k : Nat, k ≤ l.length ∧ iv = .int .i64 k ∧ Whole wr u2.heap.size 46 (arrC (noteL [] (l.take k))) ∧ TallyAt wr (b + 1) b m (noteL [] l) ∧ Below u2.heap.size u2 wr) (fun iv _ => l.length - (intOf iv).toNat)
  case atStart => exact ⟨0, Nat.zero_le _, rfl, Whole.new u2 46 (arrC []), HT1.out.alloc _, (Below.refl _ _).alloc (Nat.le_refl _) _⟩
  case round =>
    obtain ⟨k, hk, rfl, ha, ht, hx⟩ := hrel
    have zs := hx.size
    by_cases hlt : k < l.length
    · have h2 := HR2.out
      obtain ⟨b2, o2, rfl, hb2, hx2⟩ := h2.elem pc_len (by omega) hlt
      have x0 := (hx.cell (p := ⟨b2, o2 + (k * 2 + 0), none⟩) hb2).trans (hx2 0 _ rfl)
      have x1 := (hx.cell (p := ⟨b2, o2 + (k * 2 + 1), none⟩) hb2).trans (hx2 1 _ rfl)
      simp only [Nat.add_zero] at x0
      rw [← Nat.add_assoc] at x1
      have hin := okP_iff.1 (List.all_eq_true.1 HOK.out _ (List.getElem_mem hlt))
      have HNT := Lib.hid (noteL_take l k hlt)
      clear hx2 h2
      generalize l[k] = p at *
      obtain ⟨i, r⟩ := p
      dsimp only at x0 x1 hin
      obtain ⟨p1, p2, p3, p4⟩ := hin
      obtain ⟨j, rfl⟩ : ∃ j : Nat, i = (j : Int) := ⟨i.toNat, by omega⟩
      have hj : j < 80 := by omega
      have hj0 : (0 : Int) ≤ (j : Int) := by omega
      have hj1 : (j : Int) < 80 := by omega
      have HOKk := Lib.hid (ok60_list (l.take k) ok60_nil (all_take HOK.out k)).1
      generalize hD : noteL [] (l.take k) = D at *
      have c0 := (ha.cell j).trans (arr_at D j hj)
      have fz := ha.free j
      have HA := Lib.hid (add_any (setOf D (j : Int)) (ok_lt HOKk.out (j : Int)) r)
      have HH := Lib.hid ha
      have HT := Lib.hid ht
      have HX := Lib.hid hx
      have hk0 : (0 : Int) ≤ (k : Int) := by omega
      have hk1 : (k : Int) < (l.length : Int) := by omega
      clear ha ht hx hD
      go_wp2_with fail
      refine wp_region_still_tail 19 (by kernel_rfl) (by kernel_rfl) ?_
      simp only [List.take_succ_cons, List.take_zero, List.drop_succ_cons, List.drop_zero]
      refine wpStill_step (fun K hK => ?_)
      go_simp
      refine hK _ ?_
      clear hK K
      refine wpStill_step (fun K hK => ?_)
      go_simp
      refine hK _ ?_
      clear hK K
      refine wpStill_step (fun K hK => ?_)
      go_simp
      refine hK _ ?_
      clear hK K
      refine wpStill_step (fun K hK => ?_)
      go_simp
      refine hK _ ?_
      clear hK K
      refine wpStill_step (fun K hK => ?_)
      go_simp
      refine hK _ ?_
      clear hK K
      refine wpStill_step (fun K hK => ?_)
      go_simp
      refine hK _ ?_
      clear hK K
      refine wpStill_step (fun K hK => ?_)
      go_simp
      refine hK _ ?_
      clear hK K
      refine wpStill_step (fun K hK => ?_)
      go_simp
      refine hK _ ?_
      clear hK K
      refine wpStill_step (fun K hK => ?_)
      go_simp
      refine hK _ ?_
      clear hK K
      refine wpStill_step (fun K hK => ?_)
      go_simp
      refine hK _ ?_
      clear hK K
      refine wpStill_step (fun K hK => ?_)
      go_simp
      refine hK _ ?_
      clear hK K
      refine wpStill_step (fun K hK => ?_)
      go_simp
      refine hK _ ?_
      clear hK K
      refine wpStill_step (fun K hK => ?_)
      go_simp
      refine hK _ ?_
      clear hK K
      refine wpStill_step (fun K hK => ?_)
      go_simp
      refine hK _ ?_
      clear hK K
      refine wpStill_step (fun K hK => ?_)
      go_simp
      refine hK _ ?_
      clear hK K
      refine wpStill_step (fun K hK => ?_)
      go_simp
      refine hK _ ?_
      clear hK K
      refine wpStill_step (fun K hK => ?_)
      go_simp
      refine hK _ ?_
      clear hK K
      refine wpStill_step (fun K hK => ?_)
      go_simp
      refine ⟨_, (HA.out _).mono (fun e w' h => ⟨h.1, h.2.symm⟩), hK _ ?_⟩
      clear hK K
      refine wpStill_step (fun K hK => ?_)
      go_simp
      refine hK _ ?_
      clear hK K
      refine wpStill_nil ?_
      go_wp2_with fail
      go_roundw
      case rel =>
        refine ⟨k + 1, by omega, by go_num, ?_, (HT.out.drew).far (p := ⟨u2.heap.size, j, none⟩) (by simp; omega) (by simp; omega) _, (HX.out.drew).setCell (p := ⟨u2.heap.size, j, none⟩) (by simp) _⟩
        rw [HNT.out, ← arr_set D j hj r]
        exact (HH.out.drew).set j _
      case measure => simp [intOf]; omega
    · obtain rfl : k = l.length := by omega
      rw [List.take_length] at ha
      have HB3 := Lib.hid (HB2.out.trans (hx.mono HB2.out.size))
      generalize noteL [] l = R at *
      have HA := Lib.hid ha
      have HT := Lib.hid ht
      have hal := ha.lt
      clear ha ht hx HT1
      go_wp2_with fail
      refine (upto_any (b + 1) b m HN0.out R H60.out.1 f f3 (by omega) _ HT.out).mono ?_
      rintro e u4 ⟨⟨x, rfl, hu⟩, hx⟩
      have hx1 := hu.1
      have hx2 := upto_70 H60.out f4 hu
      obtain ⟨t, rfl⟩ : ∃ t : Nat, x = (t : Int) := ⟨x.toNat, by omega⟩
      have HU := Lib.hid hu
      have HT2 := Lib.hid (HT.out.keep hx)
      have HA2 := Lib.hid (HA.out.below hx hal)
      have HB4 := Lib.hid (HB3.out.trans (hx.mono HB3.out.size))
      clear hx hu HT HA HB3
      have c0 := (HA2.out.cell (t + 1)).trans (arr_at R (t + 1) (by omega))
      have HEN := enough_any (setOf R ((t + 1 : Nat) : Int)) (ok_lt H60.out.1 _) m
      rw [show ((t + 1 : Nat) : Int) = (t : Int) + 1 from by omega, HU.out.2.2] at HEN
      rw [show ((t + 1 : Nat) : Int) = (t : Int) + 1 from by omega] at c0
      have HEN := Lib.hid HEN
      have hw1 : wrap64 ((t : Int) + 1) = (t : Int) + 1 := IntWalk.wrap64_in _ (by omega)
      have hw2 : IntKind.i64.wrap ((t : Int) + 1) = (t : Int) + 1 := IntWalk.i64_in _ (by omega)
      have ht0 : (0 : Int) ≤ (t : Int) + 1 := by omega
      have ht1 : (t : Int) + 1 < 80 := by omega
      go_wp2_with (refine (HEN.out _).mono ?_; rintro e u5 ⟨rfl, rfl⟩)
      clear c0 hw1 hw2 ht0 ht1 HEN
      go_loopw [11] (fun iv wr => ∃ k : Nat, 1 ≤ k ∧ k ≤ 80 ∧ iv = .int .i64 k ∧ Whole wr u2.heap.size 46 (arrC R) ∧ TallyAt wr (b + 1) b m R ∧ Below w.heap.size w wr) (fun iv _ => 80 - (intOf iv).toNat)
      case atStart => exact ⟨1, by omega, by omega, rfl, HA2.out, HT2.out, HB4.out⟩
      case round =>
        obtain ⟨k, hk1, hk, rfl, ha, ht, hx⟩ := hrel
        clear HA2 HT2 HB4
        have hal := ha.lt
        have HA := Lib.hid ha
        have HT := Lib.hid ht
        have HB := Lib.hid hx
        by_cases hlt : k < 80
        · have HC : Hid (∀ w' : World, Whole w' u2.heap.size 46 (arrC R) → w'.cell? ⟨u2.heap.size, k, none⟩ = some (.int .u8 ((setOf R (k : Int) : Nat) : Int))) := fun w' h => (h.cell k).trans (arr_at R k hlt)
          have c0 := HC.out _ ha
          have hk0 : (0 : Int) ≤ (k : Int) := by omega
          have hk2 : (k : Int) < 80 := by omega
          have HMM := Lib.hid (members_any (setOf R (k : Int)) (ok_lt H60.out.1 _) m)
          have HCO := Lib.hid (count_any (b + 1) b m HN0.out R H60.out.1 (k : Int) ⟨by omega, by omega⟩)
          clear ha ht hx
          by_cases g1 : f < (k : Int)
          · by_cases g2 : (k : Int) ≤ (t : Int)
            · have HEN := enough_any (setOf R (k : Int)) (ok_lt H60.out.1 _) m
              rw [HU.out.2.1 k g1 g2] at HEN
              have HEN := Lib.hid HEN
              have d1 : decide (f < (k : Int)) = true := decide_eq_true g1
              have d2 : decide (k ≤ t) = true := decide_eq_true (by omega)
              go_wp2_with fail
              refine wp_region_held_drew (S := (fun u : World => u.cell? ⟨u2.heap.size, k, none⟩ = some (.int .u8 ((setOf R (k : Int) : Nat) : Int)))) (by kernel_rfl) (c0) (fun HS => ?_)
              refine handTake 0 (some 80) ?_ rfl rfl (by kernel_rfl) (by kernel_rfl) (by kernel_rfl) (fun _ _ _ h => h) (by rfl) ?_ HS ?_
              rotate_left
              · (intro u hu; (try dsimp only at hu); go_simp; try with_reducible rfl)
              simp only [Act.put, List.setIfInBounds_toArray, List.set_cons_zero, List.set_cons_succ]
              refine handTake 1 (some 81) ?_ rfl rfl (by kernel_rfl) (by kernel_rfl) (by kernel_rfl) (fun _ _ _ h => h) (by rfl) ?_ HS ?_
              rotate_left
              · (intro u hu; (try dsimp only at hu); go_simp; try with_reducible rfl)
              simp only [Act.put, List.setIfInBounds_toArray, List.set_cons_zero, List.set_cons_succ]
              refine handTake 2 (some 82) ?_ rfl rfl (by kernel_rfl) (by kernel_rfl) (by kernel_rfl) (fun _ _ _ h => h) (by rfl) ?_ HS ?_
              rotate_left
              · (intro u hu; (try dsimp only at hu); go_simp; try with_reducible rfl)
              simp only [Act.put, List.setIfInBounds_toArray, List.set_cons_zero, List.set_cons_succ]
              refine handTake 3 (some 83) ?_ rfl rfl (by kernel_rfl) (by kernel_rfl) (by kernel_rfl) (fun _ _ _ h => h) (by rfl) ?_ HS ?_
              rotate_left
              · (intro u hu; (try dsimp only at hu); go_simp; try with_reducible rfl)
              simp only [Act.put, List.setIfInBounds_toArray, List.set_cons_zero, List.set_cons_succ]
              refine handTake 4 (some 84) ?_ rfl rfl (by kernel_rfl) (by kernel_rfl) (by kernel_rfl) (fun _ _ _ h => h) (by rfl) ?_ HS ?_
              rotate_left
              · (intro u hu; (try dsimp only at hu); go_simp; try with_reducible rfl)
              simp only [Act.put, List.setIfInBounds_toArray, List.set_cons_zero, List.set_cons_succ]
              refine handTake 5 (some 85) ?_ rfl rfl (by kernel_rfl) (by kernel_rfl) (by kernel_rfl) (fun _ _ _ h => h) (by rfl) ?_ HS ?_
              rotate_left
              · (intro u hu; (try dsimp only at hu); go_simp; try with_reducible rfl)
              simp only [Act.put, List.setIfInBounds_toArray, List.set_cons_zero, List.set_cons_succ]
              refine handTake 6 (some 86) ?_ rfl rfl (by kernel_rfl) (by kernel_rfl) (by kernel_rfl) (fun _ _ _ h => h) (by rfl) ?_ HS ?_
              rotate_left
              · (intro u hu; (try dsimp only at hu); go_simp; try with_reducible rfl)
              simp only [Act.put, List.setIfInBounds_toArray, List.set_cons_zero, List.set_cons_succ]
              refine handTake 7 (some 87) ?_ rfl rfl (by kernel_rfl) (by kernel_rfl) (by kernel_rfl) (fun _ _ _ h => h) (by rfl) ?_ HS ?_
              rotate_left
              · (intro u hu; (try dsimp only at hu); go_simp; try with_reducible rfl)
              simp only [Act.put, List.setIfInBounds_toArray, List.set_cons_zero, List.set_cons_succ]
              refine handTake 8 (some 88) ?_ rfl rfl (by kernel_rfl) (by kernel_rfl) (by kernel_rfl) (fun _ _ _ h => h) (by rfl) ?_ HS ?_
              rotate_left
              · (intro u hu; (try dsimp only at hu); go_simp; try with_reducible rfl)
              simp only [Act.put, List.setIfInBounds_toArray, List.set_cons_zero, List.set_cons_succ]
              refine handTake 9 (some 89) ?_ rfl rfl (by kernel_rfl) (by kernel_rfl) (by kernel_rfl) (fun _ _ _ h => h) (by rfl) ?_ HS ?_
              rotate_left
              · (intro u hu; (try dsimp only at hu); go_simp; try with_reducible rfl)
              simp only [Act.put, List.setIfInBounds_toArray, List.set_cons_zero, List.set_cons_succ]
              refine handTake 10 (some 90) ?_ rfl rfl (by kernel_rfl) (by kernel_rfl) (by kernel_rfl) (fun _ _ _ h => h) (by rfl) ?_ HS ?_
              rotate_left
              · (intro u hu; (try dsimp only at hu); go_simp; try with_reducible rfl)
              simp only [Act.put, List.setIfInBounds_toArray, List.set_cons_zero, List.set_cons_succ]
              refine handTake 11 (some 91) ?_ rfl rfl (by kernel_rfl) (by kernel_rfl) (by kernel_rfl) (fun _ _ _ h => h) (by rfl) ?_ HS ?_
              rotate_left
              · (intro u hu; (try dsimp only at hu); go_simp; try with_reducible rfl)
              simp only [Act.put, List.setIfInBounds_toArray, List.set_cons_zero, List.set_cons_succ]
              refine handTake 12 (some 92) ?_ rfl rfl (by kernel_rfl) (by kernel_rfl) (by kernel_rfl) (fun _ _ _ h => h) (by rfl) ?_ HS ?_
              rotate_left
              · (intro u hu; (try dsimp only at hu); go_simp; try with_reducible rfl)
              simp only [Act.put, List.setIfInBounds_toArray, List.set_cons_zero, List.set_cons_succ]
              refine wpAnyH_ready (rs := [13]) (by kernel_rfl) (by simp) ?_
              refine AllReadyH.cons rfl (fun K hK => ?_) AllReadyH.nil
              go_simp
              clear HS
              refine (HEN.out _).mono ?_
              rintro e1 v1 ⟨rfl, rfl⟩
              go_wp2_with fail
              refine hK.out _ _ (c0) (fun HS => ?_)
              clear hK
              try simp only [Act.put, List.setIfInBounds_toArray, List.set_cons_zero, List.set_cons_succ]
              refine handTake 14 (some 94) ?_ rfl rfl (by kernel_rfl) (by kernel_rfl) (by kernel_rfl) (fun _ _ _ h => h) (by rfl) ?_ HS ?_
              rotate_left
              · (intro u hu; (try dsimp only at hu); go_simp; try with_reducible rfl)
              simp only [Act.put, List.setIfInBounds_toArray, List.set_cons_zero, List.set_cons_succ]
              refine handTake 15 (some 95) ?_ rfl rfl (by kernel_rfl) (by kernel_rfl) (by kernel_rfl) (fun _ _ _ h => h) (by rfl) ?_ HS ?_
              rotate_left
              · (intro u hu; (try dsimp only at hu); go_simp; try with_reducible rfl)
              simp only [Act.put, List.setIfInBounds_toArray, List.set_cons_zero, List.set_cons_succ]
              refine handTake 16 (some 96) ?_ rfl rfl (by kernel_rfl) (by kernel_rfl) (by kernel_rfl) (fun _ _ _ h => h) (by rfl) ?_ HS ?_
              rotate_left
              · (intro u hu; (try dsimp only at hu); go_simp; try with_reducible rfl)
              simp only [Act.put, List.setIfInBounds_toArray, List.set_cons_zero, List.set_cons_succ]
              refine handTake 17 (some 97) ?_ rfl rfl (by kernel_rfl) (by kernel_rfl) (by kernel_rfl) (fun _ _ _ h => h) (by rfl) ?_ HS ?_
              rotate_left
              · (intro u hu; (try dsimp only at hu); go_simp; try with_reducible rfl)
              simp only [Act.put, List.setIfInBounds_toArray, List.set_cons_zero, List.set_cons_succ]
              refine handTake 18 (some 98) ?_ rfl rfl (by kernel_rfl) (by kernel_rfl) (by kernel_rfl) (fun _ _ _ h => h) (by rfl) ?_ HS ?_
              rotate_left
              · (intro u hu; (try dsimp only at hu); go_simp; try with_reducible rfl)
              simp only [Act.put, List.setIfInBounds_toArray, List.set_cons_zero, List.set_cons_succ]
              refine handTake 20 (some 100) ?_ rfl rfl (by kernel_rfl) (by kernel_rfl) (by kernel_rfl) (fun _ _ _ h => h) (by rfl) ?_ HS ?_
              rotate_left
              · (intro u hu; (try dsimp only at hu); go_simp; try with_reducible rfl)
              simp only [Act.put, List.setIfInBounds_toArray, List.set_cons_zero, List.set_cons_succ]
              refine handTake 21 (some 101) ?_ rfl rfl (by kernel_rfl) (by kernel_rfl) (by kernel_rfl) (fun _ _ _ h => h) (by rfl) ?_ HS ?_
              rotate_left
              · (intro u hu; (try dsimp only at hu); go_simp; try with_reducible rfl)
              simp only [Act.put, List.setIfInBounds_toArray, List.set_cons_zero, List.set_cons_succ]
              refine handTake 22 (some 102) ?_ rfl rfl (by kernel_rfl) (by kernel_rfl) (by kernel_rfl) (fun _ _ _ h => h) (by rfl) ?_ HS ?_
              rotate_left
              · (intro u hu; (try dsimp only at hu); go_simp; try with_reducible rfl)
              simp only [Act.put, List.setIfInBounds_toArray, List.set_cons_zero, List.set_cons_succ]
              refine handTake 23 (some 103) ?_ rfl rfl (by kernel_rfl) (by kernel_rfl) (by kernel_rfl) (fun _ _ _ h => h) (by rfl) ?_ HS ?_
              rotate_left
              · (intro u hu; (try dsimp only at hu); go_simp; try with_reducible rfl)
              simp only [Act.put, List.setIfInBounds_toArray, List.set_cons_zero, List.set_cons_succ]
              refine wpAnyH_ready (rs := [19]) (by kernel_rfl) (by simp) ?_
              refine AllReadyH.cons rfl (fun K hK => ?_) AllReadyH.nil
              go_simp
              clear HS
              refine (HCO.out _ (HT.out.drew)).mono ?_
              rintro e2 v2 ⟨rfl, hx⟩
              have HA2 := Lib.hid ((HA.out.drew).below hx hal)
              have HT2 := Lib.hid ((HT.out.drew).keep hx)
              have HB2 := Lib.hid ((HB.out.drew).trans (hx.mono HB.out.size))
              have hal2 := HA2.out.lt
              clear hx
              go_wp2_with fail
              refine hK.out _ _ (HC.out _ HA2.out) (fun HS => ?_)
              clear hK
              try simp only [Act.put, List.setIfInBounds_toArray, List.set_cons_zero, List.set_cons_succ]
              refine wpAnyH_ready (rs := [24]) (by kernel_rfl) (by simp) ?_
              refine AllReadyH.cons rfl (fun K hK => ?_) AllReadyH.nil
              go_simp
              clear HS
              refine (HMM.out _).mono ?_
              rintro e3 v3 ⟨y, rfl, hy, hx⟩
              have HA3 := Lib.hid (HA2.out.below hx hal2)
              have HT3 := Lib.hid (HT2.out.keep hx)
              have HB3 := Lib.hid (HB2.out.trans (hx.mono HB2.out.size))
              obtain ⟨Y, cy, rfl, _, _⟩ := (Row.of_own hy.1).slice
              clear hx hy
              go_wp2_with fail
              refine hK.out _ _ (HC.out _ HA3.out) (fun HS => ?_)
              clear hK
              try simp only [Act.put, List.setIfInBounds_toArray, List.set_cons_zero, List.set_cons_succ]
              refine handTake 25 (some 105) ?_ rfl rfl (by kernel_rfl) (by kernel_rfl) (by kernel_rfl) (fun _ _ _ h => h) (by rfl) ?_ HS ?_
              rotate_left
              · (intro u hu; (try dsimp only at hu); go_simp; try with_reducible rfl)
              simp only [Act.put, List.setIfInBounds_toArray, List.set_cons_zero, List.set_cons_succ]
              refine handTake 26 (some 106) ?_ rfl rfl (by kernel_rfl) (by kernel_rfl) (by kernel_rfl) (fun _ _ _ h => h) (by rfl) ?_ HS ?_
              rotate_left
              · (intro u hu; (try dsimp only at hu); go_simp; try with_reducible rfl)
              simp only [Act.put, List.setIfInBounds_toArray, List.set_cons_zero, List.set_cons_succ]
              refine handTake 27 (some 107) ?_ rfl rfl (by kernel_rfl) (by kernel_rfl) (by kernel_rfl) (fun _ _ _ h => h) (by rfl) ?_ HS ?_
              rotate_left
              · (intro u hu; (try dsimp only at hu); go_simp; try with_reducible rfl)
              simp only [Act.put, List.setIfInBounds_toArray, List.set_cons_zero, List.set_cons_succ]
              refine wpAnyH_done (by kernel_rfl) ?_ _
              clear HS
              go_wp2_with fail
              go_roundw
              case rel => exact ⟨k + 1, by omega, by omega, by go_num, HA3.out, HT3.out, HB3.out⟩
              case measure => simp [intOf]; omega
            · have d1 : decide (f < (k : Int)) = true := decide_eq_true g1
              have d2 : decide (k ≤ t) = false := decide_eq_false (by omega)
              go_wp2_with fail
              refine wp_region_held_drew (S := (fun u : World => u.cell? ⟨u2.heap.size, k, none⟩ = some (.int .u8 ((setOf R (k : Int) : Nat) : Int)))) (by kernel_rfl) (c0) (fun HS => ?_)
              refine handTake 0 (some 80) ?_ rfl rfl (by kernel_rfl) (by kernel_rfl) (by kernel_rfl) (fun _ _ _ h => h) (by rfl) ?_ HS ?_
              rotate_left
              · (intro u hu; (try dsimp only at hu); go_simp; try with_reducible rfl)
              simp only [Act.put, List.setIfInBounds_toArray, List.set_cons_zero, List.set_cons_succ]
              refine handTake 1 (some 81) ?_ rfl rfl (by kernel_rfl) (by kernel_rfl) (by kernel_rfl) (fun _ _ _ h => h) (by rfl) ?_ HS ?_
              rotate_left
              · (intro u hu; (try dsimp only at hu); go_simp; try with_reducible rfl)
              simp only [Act.put, List.setIfInBounds_toArray, List.set_cons_zero, List.set_cons_succ]
              refine handTake 2 (some 82) ?_ rfl rfl (by kernel_rfl) (by kernel_rfl) (by kernel_rfl) (fun _ _ _ h => h) (by rfl) ?_ HS ?_
              rotate_left
              · (intro u hu; (try dsimp only at hu); go_simp; try with_reducible rfl)
              simp only [Act.put, List.setIfInBounds_toArray, List.set_cons_zero, List.set_cons_succ]
              refine handTake 3 (some 83) ?_ rfl rfl (by kernel_rfl) (by kernel_rfl) (by kernel_rfl) (fun _ _ _ h => h) (by rfl) ?_ HS ?_
              rotate_left
              · (intro u hu; (try dsimp only at hu); go_simp; try with_reducible rfl)
              simp only [Act.put, List.setIfInBounds_toArray, List.set_cons_zero, List.set_cons_succ]
              refine handTake 4 (some 84) ?_ rfl rfl (by kernel_rfl) (by kernel_rfl) (by kernel_rfl) (fun _ _ _ h => h) (by rfl) ?_ HS ?_
              rotate_left
              · (intro u hu; (try dsimp only at hu); go_simp; try with_reducible rfl)
              simp only [Act.put, List.setIfInBounds_toArray, List.set_cons_zero, List.set_cons_succ]
              refine handTake 5 (some 85) ?_ rfl rfl (by kernel_rfl) (by kernel_rfl) (by kernel_rfl) (fun _ _ _ h => h) (by rfl) ?_ HS ?_
              rotate_left
              · (intro u hu; (try dsimp only at hu); go_simp; try with_reducible rfl)
              simp only [Act.put, List.setIfInBounds_toArray, List.set_cons_zero, List.set_cons_succ]
              refine handTake 6 (some 86) ?_ rfl rfl (by kernel_rfl) (by kernel_rfl) (by kernel_rfl) (fun _ _ _ h => h) (by rfl) ?_ HS ?_
              rotate_left
              · (intro u hu; (try dsimp only at hu); go_simp; try with_reducible rfl)
              simp only [Act.put, List.setIfInBounds_toArray, List.set_cons_zero, List.set_cons_succ]
              refine handTake 7 (some 87) ?_ rfl rfl (by kernel_rfl) (by kernel_rfl) (by kernel_rfl) (fun _ _ _ h => h) (by rfl) ?_ HS ?_
              rotate_left
              · (intro u hu; (try dsimp only at hu); go_simp; try with_reducible rfl)
              simp only [Act.put, List.setIfInBounds_toArray, List.set_cons_zero, List.set_cons_succ]
              refine handTake 8 (some 88) ?_ rfl rfl (by kernel_rfl) (by kernel_rfl) (by kernel_rfl) (fun _ _ _ h => h) (by rfl) ?_ HS ?_
              rotate_left
              · (intro u hu; (try dsimp only at hu); go_simp; try with_reducible rfl)
              simp only [Act.put, List.setIfInBounds_toArray, List.set_cons_zero, List.set_cons_succ]
              refine handSkip 9 (some 89) rfl rfl (by kernel_rfl) (by kernel_rfl) (by kernel_rfl) (fun _ _ _ h => h) (by rfl) HS ?_
              simp only [Act.put, List.setIfInBounds_toArray, List.set_cons_zero, List.set_cons_succ]
              refine handSkip 10 (some 90) rfl rfl (by kernel_rfl) (by kernel_rfl) (by kernel_rfl) (fun _ _ _ h => h) (by rfl) HS ?_
              simp only [Act.put, List.setIfInBounds_toArray, List.set_cons_zero, List.set_cons_succ]
              refine handSkip 11 (some 91) rfl rfl (by kernel_rfl) (by kernel_rfl) (by kernel_rfl) (fun _ _ _ h => h) (by rfl) HS ?_
              simp only [Act.put, List.setIfInBounds_toArray, List.set_cons_zero, List.set_cons_succ]
              refine handSkip 12 (some 92) rfl rfl (by kernel_rfl) (by kernel_rfl) (by kernel_rfl) (fun _ _ _ h => h) (by rfl) HS ?_
              simp only [Act.put, List.setIfInBounds_toArray, List.set_cons_zero, List.set_cons_succ]
              refine handSkip 13 (some 93) rfl rfl (by kernel_rfl) (by kernel_rfl) (by kernel_rfl) (fun _ _ _ h => h) (by rfl) HS ?_
              simp only [Act.put, List.setIfInBounds_toArray, List.set_cons_zero, List.set_cons_succ]
              refine handSkip 14 (some 94) rfl rfl (by kernel_rfl) (by kernel_rfl) (by kernel_rfl) (fun _ _ _ h => h) (by rfl) HS ?_
              simp only [Act.put, List.setIfInBounds_toArray, List.set_cons_zero, List.set_cons_succ]
              refine handTake 15 (some 95) ?_ rfl rfl (by kernel_rfl) (by kernel_rfl) (by kernel_rfl) (fun _ _ _ h => h) (by rfl) ?_ HS ?_
              rotate_left
              · (intro u hu; (try dsimp only at hu); go_simp; try with_reducible rfl)
              simp only [Act.put, List.setIfInBounds_toArray, List.set_cons_zero, List.set_cons_succ]
              refine handTake 16 (some 96) ?_ rfl rfl (by kernel_rfl) (by kernel_rfl) (by kernel_rfl) (fun _ _ _ h => h) (by rfl) ?_ HS ?_
              rotate_left
              · (intro u hu; (try dsimp only at hu); go_simp; try with_reducible rfl)
              simp only [Act.put, List.setIfInBounds_toArray, List.set_cons_zero, List.set_cons_succ]
              refine handTake 17 (some 97) ?_ rfl rfl (by kernel_rfl) (by kernel_rfl) (by kernel_rfl) (fun _ _ _ h => h) (by rfl) ?_ HS ?_
              rotate_left
              · (intro u hu; (try dsimp only at hu); go_simp; try with_reducible rfl)
              simp only [Act.put, List.setIfInBounds_toArray, List.set_cons_zero, List.set_cons_succ]
              refine handTake 18 (some 98) ?_ rfl rfl (by kernel_rfl) (by kernel_rfl) (by kernel_rfl) (fun _ _ _ h => h) (by rfl) ?_ HS ?_
              rotate_left
              · (intro u hu; (try dsimp only at hu); go_simp; try with_reducible rfl)
              simp only [Act.put, List.setIfInBounds_toArray, List.set_cons_zero, List.set_cons_succ]
              refine handTake 20 (some 100) ?_ rfl rfl (by kernel_rfl) (by kernel_rfl) (by kernel_rfl) (fun _ _ _ h => h) (by rfl) ?_ HS ?_
              rotate_left
              · (intro u hu; (try dsimp only at hu); go_simp; try with_reducible rfl)
              simp only [Act.put, List.setIfInBounds_toArray, List.set_cons_zero, List.set_cons_succ]
              refine handTake 21 (some 101) ?_ rfl rfl (by kernel_rfl) (by kernel_rfl) (by kernel_rfl) (fun _ _ _ h => h) (by rfl) ?_ HS ?_
              rotate_left
              · (intro u hu; (try dsimp only at hu); go_simp; try with_reducible rfl)
              simp only [Act.put, List.setIfInBounds_toArray, List.set_cons_zero, List.set_cons_succ]
              refine handTake 22 (some 102) ?_ rfl rfl (by kernel_rfl) (by kernel_rfl) (by kernel_rfl) (fun _ _ _ h => h) (by rfl) ?_ HS ?_
              rotate_left
              · (intro u hu; (try dsimp only at hu); go_simp; try with_reducible rfl)
              simp only [Act.put, List.setIfInBounds_toArray, List.set_cons_zero, List.set_cons_succ]
              refine handTake 23 (some 103) ?_ rfl rfl (by kernel_rfl) (by kernel_rfl) (by kernel_rfl) (fun _ _ _ h => h) (by rfl) ?_ HS ?_
              rotate_left
              · (intro u hu; (try dsimp only at hu); go_simp; try with_reducible rfl)
              simp only [Act.put, List.setIfInBounds_toArray, List.set_cons_zero, List.set_cons_succ]
              refine wpAnyH_ready (rs := [19]) (by kernel_rfl) (by simp) ?_
              refine AllReadyH.cons rfl (fun K hK => ?_) AllReadyH.nil
              go_simp
              clear HS
              refine (HCO.out _ (HT.out.drew)).mono ?_
              rintro e2 v2 ⟨rfl, hx⟩
              have HA2 := Lib.hid ((HA.out.drew).below hx hal)
              have HT2 := Lib.hid ((HT.out.drew).keep hx)
              have HB2 := Lib.hid ((HB.out.drew).trans (hx.mono HB.out.size))
              have hal2 := HA2.out.lt
              clear hx
              go_wp2_with fail
              refine hK.out _ _ (HC.out _ HA2.out) (fun HS => ?_)
              clear hK
              try simp only [Act.put, List.setIfInBounds_toArray, List.set_cons_zero, List.set_cons_succ]
              refine wpAnyH_ready (rs := [24]) (by kernel_rfl) (by simp) ?_
              refine AllReadyH.cons rfl (fun K hK => ?_) AllReadyH.nil
              go_simp
              clear HS
              refine (HMM.out _).mono ?_
              rintro e3 v3 ⟨y, rfl, hy, hx⟩
              have HA3 := Lib.hid (HA2.out.below hx hal2)
              have HT3 := Lib.hid (HT2.out.keep hx)
              have HB3 := Lib.hid (HB2.out.trans (hx.mono HB2.out.size))
              obtain ⟨Y, cy, rfl, _, _⟩ := (Row.of_own hy.1).slice
              clear hx hy
              go_wp2_with fail
              refine hK.out _ _ (HC.out _ HA3.out) (fun HS => ?_)
              clear hK
              try simp only [Act.put, List.setIfInBounds_toArray, List.set_cons_zero, List.set_cons_succ]
              refine handTake 25 (some 105) ?_ rfl rfl (by kernel_rfl) (by kernel_rfl) (by kernel_rfl) (fun _ _ _ h => h) (by rfl) ?_ HS ?_
              rotate_left
              · (intro u hu; (try dsimp only at hu); go_simp; try with_reducible rfl)
              simp only [Act.put, List.setIfInBounds_toArray, List.set_cons_zero, List.set_cons_succ]
              refine handTake 26 (some 106) ?_ rfl rfl (by kernel_rfl) (by kernel_rfl) (by kernel_rfl) (fun _ _ _ h => h) (by rfl) ?_ HS ?_
              rotate_left
              · (intro u hu; (try dsimp only at hu); go_simp; try with_reducible rfl)
              simp only [Act.put, List.setIfInBounds_toArray, List.set_cons_zero, List.set_cons_succ]
              refine handTake 27 (some 107) ?_ rfl rfl (by kernel_rfl) (by kernel_rfl) (by kernel_rfl) (fun _ _ _ h => h) (by rfl) ?_ HS ?_
              rotate_left
              · (intro u hu; (try dsimp only at hu); go_simp; try with_reducible rfl)
              simp only [Act.put, List.setIfInBounds_toArray, List.set_cons_zero, List.set_cons_succ]
              refine wpAnyH_done (by kernel_rfl) ?_ _
              clear HS
              go_wp2_with fail
              go_roundw
              case rel => exact ⟨k + 1, by omega, by omega, by go_num, HA3.out, HT3.out, HB3.out⟩
              case measure => simp [intOf]; omega
          · have d1 : decide (f < (k : Int)) = false := decide_eq_false g1
            go_wp2_with fail
            refine wp_region_held_drew (S := (fun u : World => u.cell? ⟨u2.heap.size, k, none⟩ = some (.int .u8 ((setOf R (k : Int) : Nat) : Int)))) (by kernel_rfl) (c0) (fun HS => ?_)
            refine handTake 0 (some 80) ?_ rfl rfl (by kernel_rfl) (by kernel_rfl) (by kernel_rfl) (fun _ _ _ h => h) (by rfl) ?_ HS ?_
            rotate_left
            · (intro u hu; (try dsimp only at hu); go_simp; try with_reducible rfl)
            simp only [Act.put, List.setIfInBounds_toArray, List.set_cons_zero, List.set_cons_succ]
            refine handTake 1 (some 81) ?_ rfl rfl (by kernel_rfl) (by kernel_rfl) (by kernel_rfl) (fun _ _ _ h => h) (by rfl) ?_ HS ?_
            rotate_left
            · (intro u hu; (try dsimp only at hu); go_simp; try with_reducible rfl)
            simp only [Act.put, List.setIfInBounds_toArray, List.set_cons_zero, List.set_cons_succ]
            refine handTake 2 (some 82) ?_ rfl rfl (by kernel_rfl) (by kernel_rfl) (by kernel_rfl) (fun _ _ _ h => h) (by rfl) ?_ HS ?_
            rotate_left
            · (intro u hu; (try dsimp only at hu); go_simp; try with_reducible rfl)
            simp only [Act.put, List.setIfInBounds_toArray, List.set_cons_zero, List.set_cons_succ]
            refine handTake 3 (some 83) ?_ rfl rfl (by kernel_rfl) (by kernel_rfl) (by kernel_rfl) (fun _ _ _ h => h) (by rfl) ?_ HS ?_
            rotate_left
            · (intro u hu; (try dsimp only at hu); go_simp; try with_reducible rfl)
            simp only [Act.put, List.setIfInBounds_toArray, List.set_cons_zero, List.set_cons_succ]
            refine handSkip 4 (some 84) rfl rfl (by kernel_rfl) (by kernel_rfl) (by kernel_rfl) (fun _ _ _ h => h) (by rfl) HS ?_
            simp only [Act.put, List.setIfInBounds_toArray, List.set_cons_zero, List.set_cons_succ]
            refine handSkip 5 (some 85) rfl rfl (by kernel_rfl) (by kernel_rfl) (by kernel_rfl) (fun _ _ _ h => h) (by rfl) HS ?_
            simp only [Act.put, List.setIfInBounds_toArray, List.set_cons_zero, List.set_cons_succ]
            refine handSkip 6 (some 86) rfl rfl (by kernel_rfl) (by kernel_rfl) (by kernel_rfl) (fun _ _ _ h => h) (by rfl) HS ?_
            simp only [Act.put, List.setIfInBounds_toArray, List.set_cons_zero, List.set_cons_succ]
            refine handTake 7 (some 87) ?_ rfl rfl (by kernel_rfl) (by kernel_rfl) (by kernel_rfl) (fun _ _ _ h => h) (by rfl) ?_ HS ?_
            rotate_left
            · (intro u hu; (try dsimp only at hu); go_simp; try with_reducible rfl)
            simp only [Act.put, List.setIfInBounds_toArray, List.set_cons_zero, List.set_cons_succ]
            refine handTake 8 (some 88) ?_ rfl rfl (by kernel_rfl) (by kernel_rfl) (by kernel_rfl) (fun _ _ _ h => h) (by rfl) ?_ HS ?_
            rotate_left
            · (intro u hu; (try dsimp only at hu); go_simp; try with_reducible rfl)
            simp only [Act.put, List.setIfInBounds_toArray, List.set_cons_zero, List.set_cons_succ]
            refine handSkip 9 (some 89) rfl rfl (by kernel_rfl) (by kernel_rfl) (by kernel_rfl) (fun _ _ _ h => h) (by rfl) HS ?_
            simp only [Act.put, List.setIfInBounds_toArray, List.set_cons_zero, List.set_cons_succ]
            refine handSkip 10 (some 90) rfl rfl (by kernel_rfl) (by kernel_rfl) (by kernel_rfl) (fun _ _ _ h => h) (by rfl) HS ?_
            simp only [Act.put, List.setIfInBounds_toArray, List.set_cons_zero, List.set_cons_succ]
            refine handSkip 11 (some 91) rfl rfl (by kernel_rfl) (by kernel_rfl) (by kernel_rfl) (fun _ _ _ h => h) (by rfl) HS ?_
            simp only [Act.put, List.setIfInBounds_toArray, List.set_cons_zero, List.set_cons_succ]
            refine handSkip 12 (some 92) rfl rfl (by kernel_rfl) (by kernel_rfl) (by kernel_rfl) (fun _ _ _ h => h) (by rfl) HS ?_
            simp only [Act.put, List.setIfInBounds_toArray, List.set_cons_zero, List.set_cons_succ]
            refine handSkip 13 (some 93) rfl rfl (by kernel_rfl) (by kernel_rfl) (by kernel_rfl) (fun _ _ _ h => h) (by rfl) HS ?_
            simp only [Act.put, List.setIfInBounds_toArray, List.set_cons_zero, List.set_cons_succ]
            refine handSkip 14 (some 94) rfl rfl (by kernel_rfl) (by kernel_rfl) (by kernel_rfl) (fun _ _ _ h => h) (by rfl) HS ?_
            simp only [Act.put, List.setIfInBounds_toArray, List.set_cons_zero, List.set_cons_succ]
            refine handTake 15 (some 95) ?_ rfl rfl (by kernel_rfl) (by kernel_rfl) (by kernel_rfl) (fun _ _ _ h => h) (by rfl) ?_ HS ?_
            rotate_left
            · (intro u hu; (try dsimp only at hu); go_simp; try with_reducible rfl)
            simp only [Act.put, List.setIfInBounds_toArray, List.set_cons_zero, List.set_cons_succ]
            refine handTake 16 (some 96) ?_ rfl rfl (by kernel_rfl) (by kernel_rfl) (by kernel_rfl) (fun _ _ _ h => h) (by rfl) ?_ HS ?_
            rotate_left
            · (intro u hu; (try dsimp only at hu); go_simp; try with_reducible rfl)
            simp only [Act.put, List.setIfInBounds_toArray, List.set_cons_zero, List.set_cons_succ]
            refine handTake 17 (some 97) ?_ rfl rfl (by kernel_rfl) (by kernel_rfl) (by kernel_rfl) (fun _ _ _ h => h) (by rfl) ?_ HS ?_
            rotate_left
            · (intro u hu; (try dsimp only at hu); go_simp; try with_reducible rfl)
            simp only [Act.put, List.setIfInBounds_toArray, List.set_cons_zero, List.set_cons_succ]
            refine handTake 18 (some 98) ?_ rfl rfl (by kernel_rfl) (by kernel_rfl) (by kernel_rfl) (fun _ _ _ h => h) (by rfl) ?_ HS ?_
            rotate_left
            · (intro u hu; (try dsimp only at hu); go_simp; try with_reducible rfl)
            simp only [Act.put, List.setIfInBounds_toArray, List.set_cons_zero, List.set_cons_succ]
            refine handTake 20 (some 100) ?_ rfl rfl (by kernel_rfl) (by kernel_rfl) (by kernel_rfl) (fun _ _ _ h => h) (by rfl) ?_ HS ?_
            rotate_left
            · (intro u hu; (try dsimp only at hu); go_simp; try with_reducible rfl)
            simp only [Act.put, List.setIfInBounds_toArray, List.set_cons_zero, List.set_cons_succ]
            refine handTake 21 (some 101) ?_ rfl rfl (by kernel_rfl) (by kernel_rfl) (by kernel_rfl) (fun _ _ _ h => h) (by rfl) ?_ HS ?_
            rotate_left
            · (intro u hu; (try dsimp only at hu); go_simp; try with_reducible rfl)
            simp only [Act.put, List.setIfInBounds_toArray, List.set_cons_zero, List.set_cons_succ]
            refine handTake 22 (some 102) ?_ rfl rfl (by kernel_rfl) (by kernel_rfl) (by kernel_rfl) (fun _ _ _ h => h) (by rfl) ?_ HS ?_
            rotate_left
            · (intro u hu; (try dsimp only at hu); go_simp; try with_reducible rfl)
            simp only [Act.put, List.setIfInBounds_toArray, List.set_cons_zero, List.set_cons_succ]
            refine handTake 23 (some 103) ?_ rfl rfl (by kernel_rfl) (by kernel_rfl) (by kernel_rfl) (fun _ _ _ h => h) (by rfl) ?_ HS ?_
            rotate_left
            · (intro u hu; (try dsimp only at hu); go_simp; try with_reducible rfl)
            simp only [Act.put, List.setIfInBounds_toArray, List.set_cons_zero, List.set_cons_succ]
            refine wpAnyH_ready (rs := [19]) (by kernel_rfl) (by simp) ?_
            refine AllReadyH.cons rfl (fun K hK => ?_) AllReadyH.nil
            go_simp
            clear HS
            refine (HCO.out _ (HT.out.drew)).mono ?_
            rintro e2 v2 ⟨rfl, hx⟩
            have HA2 := Lib.hid ((HA.out.drew).below hx hal)
            have HT2 := Lib.hid ((HT.out.drew).keep hx)
            have HB2 := Lib.hid ((HB.out.drew).trans (hx.mono HB.out.size))
            have hal2 := HA2.out.lt
            clear hx
            go_wp2_with fail
            refine hK.out _ _ (HC.out _ HA2.out) (fun HS => ?_)
            clear hK
            try simp only [Act.put, List.setIfInBounds_toArray, List.set_cons_zero, List.set_cons_succ]
            refine wpAnyH_ready (rs := [24]) (by kernel_rfl) (by simp) ?_
            refine AllReadyH.cons rfl (fun K hK => ?_) AllReadyH.nil
            go_simp
            clear HS
            refine (HMM.out _).mono ?_
            rintro e3 v3 ⟨y, rfl, hy, hx⟩
            have HA3 := Lib.hid (HA2.out.below hx hal2)
            have HT3 := Lib.hid (HT2.out.keep hx)
            have HB3 := Lib.hid (HB2.out.trans (hx.mono HB2.out.size))
            obtain ⟨Y, cy, rfl, _, _⟩ := (Row.of_own hy.1).slice
            clear hx hy
            go_wp2_with fail
            refine hK.out _ _ (HC.out _ HA3.out) (fun HS => ?_)
            clear hK
            try simp only [Act.put, List.setIfInBounds_toArray, List.set_cons_zero, List.set_cons_succ]
            refine handTake 25 (some 105) ?_ rfl rfl (by kernel_rfl) (by kernel_rfl) (by kernel_rfl) (fun _ _ _ h => h) (by rfl) ?_ HS ?_
            rotate_left
            · (intro u hu; (try dsimp only at hu); go_simp; try with_reducible rfl)
            simp only [Act.put, List.setIfInBounds_toArray, List.set_cons_zero, List.set_cons_succ]
            refine handTake 26 (some 106) ?_ rfl rfl (by kernel_rfl) (by kernel_rfl) (by kernel_rfl) (fun _ _ _ h => h) (by rfl) ?_ HS ?_
            rotate_left
            · (intro u hu; (try dsimp only at hu); go_simp; try with_reducible rfl)
            simp only [Act.put, List.setIfInBounds_toArray, List.set_cons_zero, List.set_cons_succ]
            refine handTake 27 (some 107) ?_ rfl rfl (by kernel_rfl) (by kernel_rfl) (by kernel_rfl) (fun _ _ _ h => h) (by rfl) ?_ HS ?_
            rotate_left
            · (intro u hu; (try dsimp only at hu); go_simp; try with_reducible rfl)
            simp only [Act.put, List.setIfInBounds_toArray, List.set_cons_zero, List.set_cons_succ]
            refine wpAnyH_done (by kernel_rfl) ?_ _
            clear HS
            go_wp2_with fail
            go_roundw
            case rel => exact ⟨k + 1, by omega, by omega, by go_num, HA3.out, HT3.out, HB3.out⟩
            case measure => simp [intOf]; omega
        · go_wp2_with fail
          go_ret
          exact ⟨rfl, HB.out⟩

end Ta
end Go.Proofs.Ytmpcjiacgbcpdaa
