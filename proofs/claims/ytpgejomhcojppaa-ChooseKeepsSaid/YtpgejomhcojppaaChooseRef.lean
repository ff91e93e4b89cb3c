/- The document's functions on reports: many, greatest. -/
import Derived.Test.YtpgejomhcojppaaChooseLaw
set_option linter.unusedSimpArgs false
set_option linter.unusedVariables false
namespace Go.Proofs.Ytpgejomhcojppaa
open Go.RowKit
namespace Ch
open Bl
/-- The cells of the elements of a row, wherever it stands still. -/
theorem row_cells {w : World} {B : Nat} {A : Option Addr} {c : Nat} {L : List Rp} (h : Row w B (.slice A L.length c) L.length (L.flatMap rpC)) (hne : 0 < L.length) :
    ∃ b o, A = some ⟨b, o, none⟩ ∧ ∀ (i : Nat) (hi : i < L.length) (u : World), Below B w u →
      (u.cell? ⟨b, o + i * 11 + 1, none⟩ = some (.int .u8 (L[i].st : Nat)) ∧ u.cell? ⟨b, o + i * 11 + 2, none⟩ = some (.int .i64 L[i].b.r) ∧ u.cell? ⟨b, o + i * 11 + 3, none⟩ = some (.int .i64 L[i].b.p)) := by
  obtain ⟨b, o, hA, hb, _⟩ := h.elem rpC_len (by omega) hne
  refine ⟨b, o, hA, fun i hi u hu => ?_⟩
  obtain ⟨b2, o2, hA2, hb2, hx⟩ := h.elem rpC_len (by omega) hi
  subst hA
  injection hA2 with hA2
  injection hA2 with e1 e2
  subst e1 e2
  have y : ∀ j x, (rpC L[i])[j]? = some x → u.cell? ⟨b, o + i * 11 + j, none⟩ = some x := fun j x hj => by
    rw [Nat.add_assoc]; exact (hu.cell (p := ⟨b, o + (i * 11 + j), none⟩) hb).trans (hx j x hj)
  exact ⟨y 1 _ rfl, y 2 _ rfl, y 3 _ rfl⟩
set_option maxHeartbeats 1000000 in
theorem many_is (s : Nat) (L : List Rp) (v : Value) (B : Nat) (w : World) (hr : Row w B v L.length (L.flatMap rpC)) :
    Calls Try.prog 34 #[v, .int .u8 (s : Nat)] w fun e w' => e = .returned (.int .i64 (((only [s] L).length : Nat) : Int)) ∧ w = w' := by
  obtain ⟨A, c, rfl, _, _⟩ := hr.slice
  have hbd := hr.bound
  have HR := Lib.hid hr
  obtain ⟨N, hN⟩ : ∃ N, L.length = N := ⟨_, rfl⟩
  have HN := Lib.hid hN
  rw [hN] at hbd ⊢
  clear hr hN
  go_enter Try.func34, Try.ntmps34
  go_wp2_with fail
  go_loopw [5, 6] (fun mv iv wr => ∃ k : Nat, k ≤ N ∧ iv = .int .i64 k ∧ mv = .int .i64 (((only [s] (L.take k)).length : Nat) : Int) ∧ wr = w) (fun _ iv _ => N - (intOf iv).toNat)
  case atStart => exact ⟨0, Nat.zero_le _, rfl, rfl, rfl⟩
  case round =>
    obtain ⟨k, hk, rfl, rfl, rfl⟩ := hrel
    by_cases hlt : k < N
    · have hl : k < L.length := by rw [HN.out]; exact hlt
      have hrc := HR.out
      obtain ⟨b, o, rfl, hc⟩ := row_cells hrc (by omega)
      obtain ⟨y1, _, _⟩ := hc k hl wr (Below.refl _ _)
      have hnext : only [s] (L.take (k + 1)) = if L[k].st = s then only [s] (L.take k) ++ [L[k]] else only [s] (L.take k) := by
        rw [only_one, only_one, List.take_succ_eq_append_getElem hl, List.filter_append]
        by_cases h : L[k].st = s
        · rw [if_pos h, List.filter_cons_of_pos (by simp [h]), List.filter_nil]
        · rw [if_neg h, List.filter_cons_of_neg (by simp [h]), List.filter_nil, List.append_nil]
      have hle : (only [s] (L.take k)).length ≤ k := by
        have := only_le [s] (L.take k)
        rw [List.length_take] at this; omega
      have HX := Lib.hid hnext
      clear hnext hc hrc
      generalize L[k] = x at *
      obtain ⟨xi, xs, ⟨xr, xp⟩, ⟨ek, ec, eq, ⟨ok, oa, ob, oc⟩⟩⟩ := x
      dsimp only at HX y1
      generalize hm : (only [s] (L.take k)).length = m at *
      have HM := Lib.hid hm
      clear hm
      have hk0 : (0 : Int) ≤ (k : Int) := by omega
      have hk1 : (k : Int) < (N : Int) := by omega
      by_cases hs : xs = s
      · subst hs
        go_wp2_with fail
        go_roundw
        case rel => exact ⟨k + 1, by omega, by go_num, by rw [HX.out, if_pos rfl, List.length_append, HM.out]; go_num, by trivial⟩
        case measure => show N - ((k : Int) + 1).toNat < N - (k : Int).toNat; omega
      · have hne : ((xs : Int) == (s : Int)) = false := by simp; omega
        have HS := Lib.hid hs
        clear hs
        go_wp2_with fail
        go_roundw
        case rel => exact ⟨k + 1, by omega, by go_num, by rw [HX.out, if_neg HS.out, HM.out], by trivial⟩
        case measure => show N - ((k : Int) + 1).toNat < N - (k : Int).toNat; omega
    · have e : k = N := by omega
      subst e
      have hE : L.take k = L := by rw [← HN.out, List.take_length]
      rw [hE]
      go_wp2_with fail
      go_ret
      exact ⟨rfl, rfl⟩
/-- The index that stands for a report; -1: for none. -/
def At (L : List Rp) (g : Int) (r : Option Rp) : Prop := (g = -1 ∧ r = none) ∨ ∃ k, ∃ hk : k < L.length, g = (k : Int) ∧ r = some L[k]
theorem greatest_next (L : List Rp) (k : Nat) (hk : k < L.length) : greatest (L.take (k + 1)) = stepG (greatest (L.take k)) L[k] := by
  unfold greatest
  rw [List.take_succ_eq_append_getElem hk, List.foldl_append]
  rfl
set_option maxRecDepth 100000 in
set_option maxHeartbeats 4000000 in
theorem greatest_is (L : List Rp) (v : Value) (B : Nat) (w : World) (hB : B ≤ w.heap.size) (hr : Row w B v L.length (L.flatMap rpC)) :
    Calls Try.prog 35 #[v] w fun e w' => (∃ g : Int, e = .returned (.int .i64 g) ∧ At L g (greatest L)) ∧ Below w.heap.size w w' := by
  obtain ⟨A, c, rfl, _, _⟩ := hr.slice
  have hbd := hr.bound
  have HR := Lib.hid hr
  obtain ⟨N, hN⟩ : ∃ N, L.length = N := ⟨_, rfl⟩
  have HN := Lib.hid hN
  rw [hN] at hbd ⊢
  clear hr hN
  go_enter Try.func35, Try.ntmps35
  go_wp2_with fail
  go_loopw [3, 4] (fun gv iv wr => ∃ (k : Nat) (g : Int), k ≤ N ∧ iv = .int .i64 k ∧ gv = .int .i64 g ∧ At L g (greatest (L.take k)) ∧ Below w.heap.size w wr) (fun _ iv _ => N - (intOf iv).toNat)
  case atStart => exact ⟨0, -1, Nat.zero_le _, rfl, rfl, .inl ⟨rfl, rfl⟩, Below.refl _ _⟩
  case round =>
    obtain ⟨k, g, hk, rfl, rfl, hat, hx⟩ := hrel
    have HX := Lib.hid hx
    have zs := hx.size
    have HAT := Lib.hid hat
    clear hx
    by_cases hlt : k < N
    · have hl : k < L.length := by rw [HN.out]; exact hlt
      have hrc := HR.out
      obtain ⟨b, o, rfl, hc⟩ := row_cells hrc (by omega)
      have HC : Hid (∀ (i : Nat) (hi : i < L.length) (u : World), Below w.heap.size w u →
        (u.cell? ⟨b, o + i * 11 + 1, none⟩ = some (.int .u8 (L[i].st : Nat)) ∧ u.cell? ⟨b, o + i * 11 + 2, none⟩ = some (.int .i64 L[i].b.r) ∧ u.cell? ⟨b, o + i * 11 + 3, none⟩ = some (.int .i64 L[i].b.p))) := fun i hi u hu => hc i hi u (hu.mono hB)
      have HNX := Lib.hid (greatest_next L k hl)
      clear hc hrc
      have hk0 : (0 : Int) ≤ (k : Int) := by omega
      have hk1 : (k : Int) < (N : Int) := by omega
      have C1 : Hid (∀ u : World, Below w.heap.size w u → u.cell? ⟨b, o + k * 11 + 1, none⟩ = some (.int .u8 (L[k].st : Nat)) ∧ u.cell? ⟨b, o + k * 11 + 2, none⟩ = some (.int .i64 L[k].b.r) ∧ u.cell? ⟨b, o + k * 11 + 3, none⟩ = some (.int .i64 L[k].b.p)) := fun u hu => HC.out k hl u hu
      have HKK : Hid (∀ x, L[k] = x → At L k (some x)) := fun x h => .inr ⟨k, hl, rfl, by rw [h]⟩
      have HKX := Lib.hid (HKK.out _ rfl)
      clear HKK
      by_cases hst : L[k].st = 2
      · rcases hat with ⟨rfl, hnone⟩ | ⟨j, hj, rfl, hsome⟩
        · have HG : Hid (greatest (L.take (k + 1)) = some L[k]) := by
            show greatest (L.take (k + 1)) = _
            rw [HNX.out, hnone]; unfold stepG; rw [hst]; rfl
          clear hnone HAT
          generalize L[k] = x at *
          obtain ⟨xi, xs, ⟨xr, xp⟩, ⟨ek, ec, eq, ⟨ok, oa, ob, oc⟩⟩⟩ := x
          dsimp only at C1 hst
          subst hst
          go_wp2_with fail
          refine wp_region_held_drew (S := (fun u : World => u.cell? ⟨b, o + k * 11 + 1, none⟩ = some (.int .u8 ((2 : Nat) : Int)))) (by kernel_rfl) ((C1.out _ HX.out.drew).1) (fun HS => ?_)
          refine handTake 0 (some 11) ?_ rfl rfl (by kernel_rfl) (by kernel_rfl) (by kernel_rfl) (fun _ _ _ h => h) (by rfl) ?_ HS ?_
          rotate_left
          · (intro u hu; (try dsimp only at hu); go_simp; try with_reducible rfl)
          simp only [Act.put, List.setIfInBounds_toArray, List.set_cons_zero, List.set_cons_succ]
          refine handTake 1 (some 12) ?_ rfl rfl (by kernel_rfl) (by kernel_rfl) (by kernel_rfl) (fun _ _ _ h => h) (by rfl) ?_ HS ?_
          rotate_left
          · (intro u hu; (try dsimp only at hu); go_simp; try with_reducible rfl)
          simp only [Act.put, List.setIfInBounds_toArray, List.set_cons_zero, List.set_cons_succ]
          refine handTake 2 (some 13) ?_ rfl rfl (by kernel_rfl) (by kernel_rfl) (by kernel_rfl) (fun _ _ _ h => h) (by rfl) ?_ HS ?_
          rotate_left
          · (intro u hu; (try dsimp only at hu); go_simp; try with_reducible rfl)
          simp only [Act.put, List.setIfInBounds_toArray, List.set_cons_zero, List.set_cons_succ]
          refine handTake 3 (some 14) ?_ rfl rfl (by kernel_rfl) (by kernel_rfl) (by kernel_rfl) (fun _ _ _ h => h) (by rfl) ?_ HS ?_
          rotate_left
          · (intro u hu; (try dsimp only at hu); go_simp; try with_reducible rfl)
          simp only [Act.put, List.setIfInBounds_toArray, List.set_cons_zero, List.set_cons_succ]
          refine handTake 4 (some 15) ?_ rfl rfl (by kernel_rfl) (by kernel_rfl) (by kernel_rfl) (fun _ _ _ h => h) (by rfl) ?_ HS ?_
          rotate_left
          · (intro u hu; (try dsimp only at hu); go_simp; try with_reducible rfl)
          simp only [Act.put, List.setIfInBounds_toArray, List.set_cons_zero, List.set_cons_succ]
          refine handTake 5 (some 16) ?_ rfl rfl (by kernel_rfl) (by kernel_rfl) (by kernel_rfl) (fun _ _ _ h => h) (by rfl) ?_ HS ?_
          rotate_left
          · (intro u hu; (try dsimp only at hu); go_simp; try with_reducible rfl)
          simp only [Act.put, List.setIfInBounds_toArray, List.set_cons_zero, List.set_cons_succ]
          refine handTake 6 (some 17) ?_ rfl rfl (by kernel_rfl) (by kernel_rfl) (by kernel_rfl) (fun _ _ _ h => h) (by rfl) ?_ HS ?_
          rotate_left
          · (intro u hu; (try dsimp only at hu); go_simp; try with_reducible rfl)
          simp only [Act.put, List.setIfInBounds_toArray, List.set_cons_zero, List.set_cons_succ]
          refine handTake 7 (some 18) ?_ rfl rfl (by kernel_rfl) (by kernel_rfl) (by kernel_rfl) (fun _ _ _ h => h) (by rfl) ?_ HS ?_
          rotate_left
          · (intro u hu; (try dsimp only at hu); go_simp; try with_reducible rfl)
          simp only [Act.put, List.setIfInBounds_toArray, List.set_cons_zero, List.set_cons_succ]
          refine handTake 8 (some 19) ?_ rfl rfl (by kernel_rfl) (by kernel_rfl) (by kernel_rfl) (fun _ _ _ h => h) (by rfl) ?_ HS ?_
          rotate_left
          · (intro u hu; (try dsimp only at hu); go_simp; try with_reducible rfl)
          simp only [Act.put, List.setIfInBounds_toArray, List.set_cons_zero, List.set_cons_succ]
          refine handTake 9 (some 20) ?_ rfl rfl (by kernel_rfl) (by kernel_rfl) (by kernel_rfl) (fun _ _ _ h => h) (by rfl) ?_ HS ?_
          rotate_left
          · (intro u hu; (try dsimp only at hu); go_simp; try with_reducible rfl)
          simp only [Act.put, List.setIfInBounds_toArray, List.set_cons_zero, List.set_cons_succ]
          refine handSkip 10 (some 21) rfl rfl (by kernel_rfl) (by kernel_rfl) (by kernel_rfl) (fun _ _ _ h => h) (by rfl) HS ?_
          simp only [Act.put, List.setIfInBounds_toArray, List.set_cons_zero, List.set_cons_succ]
          refine handSkip 11 (some 22) rfl rfl (by kernel_rfl) (by kernel_rfl) (by kernel_rfl) (fun _ _ _ h => h) (by rfl) HS ?_
          simp only [Act.put, List.setIfInBounds_toArray, List.set_cons_zero, List.set_cons_succ]
          refine handSkip 12 (some 23) rfl rfl (by kernel_rfl) (by kernel_rfl) (by kernel_rfl) (fun _ _ _ h => h) (by rfl) HS ?_
          simp only [Act.put, List.setIfInBounds_toArray, List.set_cons_zero, List.set_cons_succ]
          refine handSkip 13 (some 24) rfl rfl (by kernel_rfl) (by kernel_rfl) (by kernel_rfl) (fun _ _ _ h => h) (by rfl) HS ?_
          simp only [Act.put, List.setIfInBounds_toArray, List.set_cons_zero, List.set_cons_succ]
          refine handSkip 14 (some 25) rfl rfl (by kernel_rfl) (by kernel_rfl) (by kernel_rfl) (fun _ _ _ h => h) (by rfl) HS ?_
          simp only [Act.put, List.setIfInBounds_toArray, List.set_cons_zero, List.set_cons_succ]
          refine handSkip 15 (some 26) rfl rfl (by kernel_rfl) (by kernel_rfl) (by kernel_rfl) (fun _ _ _ h => h) (by rfl) HS ?_
          simp only [Act.put, List.setIfInBounds_toArray, List.set_cons_zero, List.set_cons_succ]
          refine handSkip 16 (some 27) rfl rfl (by kernel_rfl) (by kernel_rfl) (by kernel_rfl) (fun _ _ _ h => h) (by rfl) HS ?_
          simp only [Act.put, List.setIfInBounds_toArray, List.set_cons_zero, List.set_cons_succ]
          refine handSkip 17 (some 28) rfl rfl (by kernel_rfl) (by kernel_rfl) (by kernel_rfl) (fun _ _ _ h => h) (by rfl) HS ?_
          simp only [Act.put, List.setIfInBounds_toArray, List.set_cons_zero, List.set_cons_succ]
          refine handSkip 18 (some 29) rfl rfl (by kernel_rfl) (by kernel_rfl) (by kernel_rfl) (fun _ _ _ h => h) (by rfl) HS ?_
          simp only [Act.put, List.setIfInBounds_toArray, List.set_cons_zero, List.set_cons_succ]
          refine handSkip 19 (some 30) rfl rfl (by kernel_rfl) (by kernel_rfl) (by kernel_rfl) (fun _ _ _ h => h) (by rfl) HS ?_
          simp only [Act.put, List.setIfInBounds_toArray, List.set_cons_zero, List.set_cons_succ]
          refine handSkip 20 (some 31) rfl rfl (by kernel_rfl) (by kernel_rfl) (by kernel_rfl) (fun _ _ _ h => h) (by rfl) HS ?_
          simp only [Act.put, List.setIfInBounds_toArray, List.set_cons_zero, List.set_cons_succ]
          refine handTake 21 (some 32) ?_ rfl rfl (by kernel_rfl) (by kernel_rfl) (by kernel_rfl) (fun _ _ _ h => h) (by rfl) ?_ HS ?_
          rotate_left
          · (intro u hu; (try dsimp only at hu); go_simp; try with_reducible rfl)
          simp only [Act.put, List.setIfInBounds_toArray, List.set_cons_zero, List.set_cons_succ]
          refine handTake 22 (some 33) ?_ rfl rfl (by kernel_rfl) (by kernel_rfl) (by kernel_rfl) (fun _ _ _ h => h) (by rfl) ?_ HS ?_
          rotate_left
          · (intro u hu; (try dsimp only at hu); go_simp; try with_reducible rfl)
          simp only [Act.put, List.setIfInBounds_toArray, List.set_cons_zero, List.set_cons_succ]
          refine wpAnyH_done (by kernel_rfl) ?_ _
          clear HS
          go_wp2_with fail
          go_roundw
          case rel => exact ⟨k + 1, k, by omega, by go_num, rfl, by rw [HG.out]; exact HKX.out, HX.out.drew⟩
          case measure => show N - ((k : Int) + 1).toNat < N - (k : Int).toNat; omega
        · have HG : Hid (greatest (L.take (k + 1)) = if lessB L[j].b L[k].b then some L[k] else some L[j]) := by
            show greatest (L.take (k + 1)) = _
            rw [HNX.out, hsome]; unfold stepG; rw [hst]; rfl
          have HJX : Hid (At L j (some L[j])) := .inr ⟨j, hj, rfl, rfl⟩
          have C2 : Hid (∀ u : World, Below w.heap.size w u → u.cell? ⟨b, o + j * 11 + 1, none⟩ = some (.int .u8 (L[j].st : Nat)) ∧ u.cell? ⟨b, o + j * 11 + 2, none⟩ = some (.int .i64 L[j].b.r) ∧ u.cell? ⟨b, o + j * 11 + 3, none⟩ = some (.int .i64 L[j].b.p)) := fun u hu => HC.out j hj u hu
          have hj0 : (0 : Int) ≤ (j : Int) := by omega
          have hj1 : (j : Int) < (N : Int) := by rw [← HN.out]; omega
          clear hsome HAT HC HNX
          generalize L[k] = x at *
          generalize L[j] = y at *
          obtain ⟨xi, xs, ⟨xr, xp⟩, ⟨ek, ec, eq, ⟨ok, oa, ob, oc⟩⟩⟩ := x
          obtain ⟨yi, ys, ⟨yr, yp⟩, ⟨gk, gc, gq, ⟨qk, qa, qb, qc⟩⟩⟩ := y
          dsimp only at C1 C2 hst HG
          subst hst
          have RL := rless_any ⟨yr, yp⟩ ⟨xr, xp⟩
          simp only [Ba.cells] at RL
          cases hls : lessB ⟨yr, yp⟩ ⟨xr, xp⟩
          · rw [hls] at RL HG
            have RL := Lib.hid RL
            have SOF : Hid (∀ u : World, Below w.heap.size w u → (u.cell? ⟨b, o + k * 11 + 1, none⟩ = some (.int .u8 ((2 : Nat) : Int)) ∧ u.cell? ⟨b, o + k * 11 + 2, none⟩ = some (.int .i64 xr) ∧ u.cell? ⟨b, o + k * 11 + 3, none⟩ = some (.int .i64 xp) ∧ u.cell? ⟨b, o + j * 11 + 1, none⟩ = some (.int .u8 (ys : Nat)) ∧ u.cell? ⟨b, o + j * 11 + 2, none⟩ = some (.int .i64 yr) ∧ u.cell? ⟨b, o + j * 11 + 3, none⟩ = some (.int .i64 yp))) := fun u hu => ⟨(C1.out u hu).1, (C1.out u hu).2.1, (C1.out u hu).2.2, (C2.out u hu).1, (C2.out u hu).2.1, (C2.out u hu).2.2⟩
            clear hls
            go_wp2_with fail
            refine wp_region_held_drew (S := (fun u : World => u.cell? ⟨b, o + k * 11 + 1, none⟩ = some (.int .u8 ((2 : Nat) : Int)) ∧ u.cell? ⟨b, o + k * 11 + 2, none⟩ = some (.int .i64 xr) ∧ u.cell? ⟨b, o + k * 11 + 3, none⟩ = some (.int .i64 xp) ∧ u.cell? ⟨b, o + j * 11 + 1, none⟩ = some (.int .u8 (ys : Nat)) ∧ u.cell? ⟨b, o + j * 11 + 2, none⟩ = some (.int .i64 yr) ∧ u.cell? ⟨b, o + j * 11 + 3, none⟩ = some (.int .i64 yp))) (by kernel_rfl) (SOF.out _ HX.out.drew) (fun HS => ?_)
            refine handTake 0 (some 11) ?_ rfl rfl (by kernel_rfl) (by kernel_rfl) (by kernel_rfl) (fun _ _ _ h => h) (by rfl) ?_ HS ?_
            rotate_left
            · (intro u hu; (try dsimp only at hu); go_simp; try with_reducible rfl)
            simp only [Act.put, List.setIfInBounds_toArray, List.set_cons_zero, List.set_cons_succ]
            refine handTake 1 (some 12) ?_ rfl rfl (by kernel_rfl) (by kernel_rfl) (by kernel_rfl) (fun _ _ _ h => h) (by rfl) ?_ HS ?_
            rotate_left
            · (intro u hu; (try dsimp only at hu); go_simp; try with_reducible rfl)
            simp only [Act.put, List.setIfInBounds_toArray, List.set_cons_zero, List.set_cons_succ]
            refine handTake 2 (some 13) ?_ rfl rfl (by kernel_rfl) (by kernel_rfl) (by kernel_rfl) (fun _ _ _ h => h) (by rfl) ?_ HS ?_
            rotate_left
            · (intro u hu; (try dsimp only at hu); go_simp; try with_reducible rfl)
            simp only [Act.put, List.setIfInBounds_toArray, List.set_cons_zero, List.set_cons_succ]
            refine handTake 3 (some 14) ?_ rfl rfl (by kernel_rfl) (by kernel_rfl) (by kernel_rfl) (fun _ _ _ h => h) (by rfl) ?_ HS ?_
            rotate_left
            · (intro u hu; (try dsimp only at hu); go_simp; try with_reducible rfl)
            simp only [Act.put, List.setIfInBounds_toArray, List.set_cons_zero, List.set_cons_succ]
            refine handTake 4 (some 15) ?_ rfl rfl (by kernel_rfl) (by kernel_rfl) (by kernel_rfl) (fun _ _ _ h => h) (by rfl) ?_ HS ?_
            rotate_left
            · (intro u hu; (try dsimp only at hu); go_simp; try with_reducible rfl)
            simp only [Act.put, List.setIfInBounds_toArray, List.set_cons_zero, List.set_cons_succ]
            refine handTake 5 (some 16) ?_ rfl rfl (by kernel_rfl) (by kernel_rfl) (by kernel_rfl) (fun _ _ _ h => h) (by rfl) ?_ HS ?_
            rotate_left
            · (intro u hu; (try dsimp only at hu); go_simp; try with_reducible rfl)
            simp only [Act.put, List.setIfInBounds_toArray, List.set_cons_zero, List.set_cons_succ]
            refine handTake 6 (some 17) ?_ rfl rfl (by kernel_rfl) (by kernel_rfl) (by kernel_rfl) (fun _ _ _ h => h) (by rfl) ?_ HS ?_
            rotate_left
            · (intro u hu; (try dsimp only at hu); go_simp; try with_reducible rfl)
            simp only [Act.put, List.setIfInBounds_toArray, List.set_cons_zero, List.set_cons_succ]
            refine handTake 7 (some 18) ?_ rfl rfl (by kernel_rfl) (by kernel_rfl) (by kernel_rfl) (fun _ _ _ h => h) (by rfl) ?_ HS ?_
            rotate_left
            · (intro u hu; (try dsimp only at hu); go_simp; try with_reducible rfl)
            simp only [Act.put, List.setIfInBounds_toArray, List.set_cons_zero, List.set_cons_succ]
            refine handTake 8 (some 19) ?_ rfl rfl (by kernel_rfl) (by kernel_rfl) (by kernel_rfl) (fun _ _ _ h => h) (by rfl) ?_ HS ?_
            rotate_left
            · (intro u hu; (try dsimp only at hu); go_simp; try with_reducible rfl)
            simp only [Act.put, List.setIfInBounds_toArray, List.set_cons_zero, List.set_cons_succ]
            refine handTake 9 (some 20) ?_ rfl rfl (by kernel_rfl) (by kernel_rfl) (by kernel_rfl) (fun _ _ _ h => h) (by rfl) ?_ HS ?_
            rotate_left
            · (intro u hu; (try dsimp only at hu); go_simp; try with_reducible rfl)
            simp only [Act.put, List.setIfInBounds_toArray, List.set_cons_zero, List.set_cons_succ]
            refine handTake 10 (some 21) ?_ rfl rfl (by kernel_rfl) (by kernel_rfl) (by kernel_rfl) (fun _ _ _ h => h) (by rfl) ?_ HS ?_
            rotate_left
            · (intro u hu; (try dsimp only at hu); go_simp; try with_reducible rfl)
            simp only [Act.put, List.setIfInBounds_toArray, List.set_cons_zero, List.set_cons_succ]
            refine handTake 11 (some 22) ?_ rfl rfl (by kernel_rfl) (by kernel_rfl) (by kernel_rfl) (fun _ _ _ h => h) (by rfl) ?_ HS ?_
            rotate_left
            · (intro u hu; (try dsimp only at hu); go_simp; try with_reducible rfl)
            simp only [Act.put, List.setIfInBounds_toArray, List.set_cons_zero, List.set_cons_succ]
            refine handTake 12 (some 23) ?_ rfl rfl (by kernel_rfl) (by kernel_rfl) (by kernel_rfl) (fun _ _ _ h => h) (by rfl) ?_ HS ?_
            rotate_left
            · (intro u hu; (try dsimp only at hu); go_simp; try with_reducible rfl)
            simp only [Act.put, List.setIfInBounds_toArray, List.set_cons_zero, List.set_cons_succ]
            refine handTake 13 (some 24) ?_ rfl rfl (by kernel_rfl) (by kernel_rfl) (by kernel_rfl) (fun _ _ _ h => h) (by rfl) ?_ HS ?_
            rotate_left
            · (intro u hu; (try dsimp only at hu); go_simp; try with_reducible rfl)
            simp only [Act.put, List.setIfInBounds_toArray, List.set_cons_zero, List.set_cons_succ]
            refine handTake 14 (some 25) ?_ rfl rfl (by kernel_rfl) (by kernel_rfl) (by kernel_rfl) (fun _ _ _ h => h) (by rfl) ?_ HS ?_
            rotate_left
            · (intro u hu; (try dsimp only at hu); go_simp; try with_reducible rfl)
            simp only [Act.put, List.setIfInBounds_toArray, List.set_cons_zero, List.set_cons_succ]
            refine handTake 15 (some 26) ?_ rfl rfl (by kernel_rfl) (by kernel_rfl) (by kernel_rfl) (fun _ _ _ h => h) (by rfl) ?_ HS ?_
            rotate_left
            · (intro u hu; (try dsimp only at hu); go_simp; try with_reducible rfl)
            simp only [Act.put, List.setIfInBounds_toArray, List.set_cons_zero, List.set_cons_succ]
            refine handTake 16 (some 27) ?_ rfl rfl (by kernel_rfl) (by kernel_rfl) (by kernel_rfl) (fun _ _ _ h => h) (by rfl) ?_ HS ?_
            rotate_left
            · (intro u hu; (try dsimp only at hu); go_simp; try with_reducible rfl)
            simp only [Act.put, List.setIfInBounds_toArray, List.set_cons_zero, List.set_cons_succ]
            refine handTake 17 (some 28) ?_ rfl rfl (by kernel_rfl) (by kernel_rfl) (by kernel_rfl) (fun _ _ _ h => h) (by rfl) ?_ HS ?_
            rotate_left
            · (intro u hu; (try dsimp only at hu); go_simp; try with_reducible rfl)
            simp only [Act.put, List.setIfInBounds_toArray, List.set_cons_zero, List.set_cons_succ]
            refine handTake 18 (some 29) ?_ rfl rfl (by kernel_rfl) (by kernel_rfl) (by kernel_rfl) (fun _ _ _ h => h) (by rfl) ?_ HS ?_
            rotate_left
            · (intro u hu; (try dsimp only at hu); go_simp; try with_reducible rfl)
            simp only [Act.put, List.setIfInBounds_toArray, List.set_cons_zero, List.set_cons_succ]
            refine handTake 19 (some 30) ?_ rfl rfl (by kernel_rfl) (by kernel_rfl) (by kernel_rfl) (fun _ _ _ h => h) (by rfl) ?_ HS ?_
            rotate_left
            · (intro u hu; (try dsimp only at hu); go_simp; try with_reducible rfl)
            simp only [Act.put, List.setIfInBounds_toArray, List.set_cons_zero, List.set_cons_succ]
            refine wpAnyH_ready (rs := [20]) (by kernel_rfl) (by simp) ?_
            refine AllReadyH.cons rfl (fun K hK => ?_) AllReadyH.nil
            go_simp
            clear HS
            refine (RL.out _).mono ?_
            rintro e u1 ⟨rfl, hb⟩
            have HX1 := Lib.hid (HX.out.drew.trans (hb.mono HX.out.drew.size))
            have S1 := Lib.hid (SOF.out _ HX1.out)
            clear hb
            go_wp2_with fail
            refine hK.out _ _ (S1.out) (fun HS => ?_)
            clear hK
            try simp only [Act.put, List.setIfInBounds_toArray, List.set_cons_zero, List.set_cons_succ]
            refine handTake 21 (some 32) ?_ rfl rfl (by kernel_rfl) (by kernel_rfl) (by kernel_rfl) (fun _ _ _ h => h) (by rfl) ?_ HS ?_
            rotate_left
            · (intro u hu; (try dsimp only at hu); go_simp; try with_reducible rfl)
            simp only [Act.put, List.setIfInBounds_toArray, List.set_cons_zero, List.set_cons_succ]
            refine handTake 22 (some 33) ?_ rfl rfl (by kernel_rfl) (by kernel_rfl) (by kernel_rfl) (fun _ _ _ h => h) (by rfl) ?_ HS ?_
            rotate_left
            · (intro u hu; (try dsimp only at hu); go_simp; try with_reducible rfl)
            simp only [Act.put, List.setIfInBounds_toArray, List.set_cons_zero, List.set_cons_succ]
            refine wpAnyH_done (by kernel_rfl) ?_ _
            clear HS
            go_wp2_with fail
            go_roundw
            case rel => exact ⟨k + 1, j, by omega, by go_num, rfl, by rw [HG.out, if_neg (by simp)]; exact HJX.out, HX1.out⟩
            case measure => show N - ((k : Int) + 1).toNat < N - (k : Int).toNat; omega
          · rw [hls] at RL HG
            have RL := Lib.hid RL
            have SOF : Hid (∀ u : World, Below w.heap.size w u → (u.cell? ⟨b, o + k * 11 + 1, none⟩ = some (.int .u8 ((2 : Nat) : Int)) ∧ u.cell? ⟨b, o + k * 11 + 2, none⟩ = some (.int .i64 xr) ∧ u.cell? ⟨b, o + k * 11 + 3, none⟩ = some (.int .i64 xp) ∧ u.cell? ⟨b, o + j * 11 + 1, none⟩ = some (.int .u8 (ys : Nat)) ∧ u.cell? ⟨b, o + j * 11 + 2, none⟩ = some (.int .i64 yr) ∧ u.cell? ⟨b, o + j * 11 + 3, none⟩ = some (.int .i64 yp))) := fun u hu => ⟨(C1.out u hu).1, (C1.out u hu).2.1, (C1.out u hu).2.2, (C2.out u hu).1, (C2.out u hu).2.1, (C2.out u hu).2.2⟩
            clear hls
            go_wp2_with fail
            refine wp_region_held_drew (S := (fun u : World => u.cell? ⟨b, o + k * 11 + 1, none⟩ = some (.int .u8 ((2 : Nat) : Int)) ∧ u.cell? ⟨b, o + k * 11 + 2, none⟩ = some (.int .i64 xr) ∧ u.cell? ⟨b, o + k * 11 + 3, none⟩ = some (.int .i64 xp) ∧ u.cell? ⟨b, o + j * 11 + 1, none⟩ = some (.int .u8 (ys : Nat)) ∧ u.cell? ⟨b, o + j * 11 + 2, none⟩ = some (.int .i64 yr) ∧ u.cell? ⟨b, o + j * 11 + 3, none⟩ = some (.int .i64 yp))) (by kernel_rfl) (SOF.out _ HX.out.drew) (fun HS => ?_)
            refine handTake 0 (some 11) ?_ rfl rfl (by kernel_rfl) (by kernel_rfl) (by kernel_rfl) (fun _ _ _ h => h) (by rfl) ?_ HS ?_
            rotate_left
            · (intro u hu; (try dsimp only at hu); go_simp; try with_reducible rfl)
            simp only [Act.put, List.setIfInBounds_toArray, List.set_cons_zero, List.set_cons_succ]
            refine handTake 1 (some 12) ?_ rfl rfl (by kernel_rfl) (by kernel_rfl) (by kernel_rfl) (fun _ _ _ h => h) (by rfl) ?_ HS ?_
            rotate_left
            · (intro u hu; (try dsimp only at hu); go_simp; try with_reducible rfl)
            simp only [Act.put, List.setIfInBounds_toArray, List.set_cons_zero, List.set_cons_succ]
            refine handTake 2 (some 13) ?_ rfl rfl (by kernel_rfl) (by kernel_rfl) (by kernel_rfl) (fun _ _ _ h => h) (by rfl) ?_ HS ?_
            rotate_left
            · (intro u hu; (try dsimp only at hu); go_simp; try with_reducible rfl)
            simp only [Act.put, List.setIfInBounds_toArray, List.set_cons_zero, List.set_cons_succ]
            refine handTake 3 (some 14) ?_ rfl rfl (by kernel_rfl) (by kernel_rfl) (by kernel_rfl) (fun _ _ _ h => h) (by rfl) ?_ HS ?_
            rotate_left
            · (intro u hu; (try dsimp only at hu); go_simp; try with_reducible rfl)
            simp only [Act.put, List.setIfInBounds_toArray, List.set_cons_zero, List.set_cons_succ]
            refine handTake 4 (some 15) ?_ rfl rfl (by kernel_rfl) (by kernel_rfl) (by kernel_rfl) (fun _ _ _ h => h) (by rfl) ?_ HS ?_
            rotate_left
            · (intro u hu; (try dsimp only at hu); go_simp; try with_reducible rfl)
            simp only [Act.put, List.setIfInBounds_toArray, List.set_cons_zero, List.set_cons_succ]
            refine handTake 5 (some 16) ?_ rfl rfl (by kernel_rfl) (by kernel_rfl) (by kernel_rfl) (fun _ _ _ h => h) (by rfl) ?_ HS ?_
            rotate_left
            · (intro u hu; (try dsimp only at hu); go_simp; try with_reducible rfl)
            simp only [Act.put, List.setIfInBounds_toArray, List.set_cons_zero, List.set_cons_succ]
            refine handTake 6 (some 17) ?_ rfl rfl (by kernel_rfl) (by kernel_rfl) (by kernel_rfl) (fun _ _ _ h => h) (by rfl) ?_ HS ?_
            rotate_left
            · (intro u hu; (try dsimp only at hu); go_simp; try with_reducible rfl)
            simp only [Act.put, List.setIfInBounds_toArray, List.set_cons_zero, List.set_cons_succ]
            refine handTake 7 (some 18) ?_ rfl rfl (by kernel_rfl) (by kernel_rfl) (by kernel_rfl) (fun _ _ _ h => h) (by rfl) ?_ HS ?_
            rotate_left
            · (intro u hu; (try dsimp only at hu); go_simp; try with_reducible rfl)
            simp only [Act.put, List.setIfInBounds_toArray, List.set_cons_zero, List.set_cons_succ]
            refine handTake 8 (some 19) ?_ rfl rfl (by kernel_rfl) (by kernel_rfl) (by kernel_rfl) (fun _ _ _ h => h) (by rfl) ?_ HS ?_
            rotate_left
            · (intro u hu; (try dsimp only at hu); go_simp; try with_reducible rfl)
            simp only [Act.put, List.setIfInBounds_toArray, List.set_cons_zero, List.set_cons_succ]
            refine handTake 9 (some 20) ?_ rfl rfl (by kernel_rfl) (by kernel_rfl) (by kernel_rfl) (fun _ _ _ h => h) (by rfl) ?_ HS ?_
            rotate_left
            · (intro u hu; (try dsimp only at hu); go_simp; try with_reducible rfl)
            simp only [Act.put, List.setIfInBounds_toArray, List.set_cons_zero, List.set_cons_succ]
            refine handTake 10 (some 21) ?_ rfl rfl (by kernel_rfl) (by kernel_rfl) (by kernel_rfl) (fun _ _ _ h => h) (by rfl) ?_ HS ?_
            rotate_left
            · (intro u hu; (try dsimp only at hu); go_simp; try with_reducible rfl)
            simp only [Act.put, List.setIfInBounds_toArray, List.set_cons_zero, List.set_cons_succ]
            refine handTake 11 (some 22) ?_ rfl rfl (by kernel_rfl) (by kernel_rfl) (by kernel_rfl) (fun _ _ _ h => h) (by rfl) ?_ HS ?_
            rotate_left
            · (intro u hu; (try dsimp only at hu); go_simp; try with_reducible rfl)
            simp only [Act.put, List.setIfInBounds_toArray, List.set_cons_zero, List.set_cons_succ]
            refine handTake 12 (some 23) ?_ rfl rfl (by kernel_rfl) (by kernel_rfl) (by kernel_rfl) (fun _ _ _ h => h) (by rfl) ?_ HS ?_
            rotate_left
            · (intro u hu; (try dsimp only at hu); go_simp; try with_reducible rfl)
            simp only [Act.put, List.setIfInBounds_toArray, List.set_cons_zero, List.set_cons_succ]
            refine handTake 13 (some 24) ?_ rfl rfl (by kernel_rfl) (by kernel_rfl) (by kernel_rfl) (fun _ _ _ h => h) (by rfl) ?_ HS ?_
            rotate_left
            · (intro u hu; (try dsimp only at hu); go_simp; try with_reducible rfl)
            simp only [Act.put, List.setIfInBounds_toArray, List.set_cons_zero, List.set_cons_succ]
            refine handTake 14 (some 25) ?_ rfl rfl (by kernel_rfl) (by kernel_rfl) (by kernel_rfl) (fun _ _ _ h => h) (by rfl) ?_ HS ?_
            rotate_left
            · (intro u hu; (try dsimp only at hu); go_simp; try with_reducible rfl)
            simp only [Act.put, List.setIfInBounds_toArray, List.set_cons_zero, List.set_cons_succ]
            refine handTake 15 (some 26) ?_ rfl rfl (by kernel_rfl) (by kernel_rfl) (by kernel_rfl) (fun _ _ _ h => h) (by rfl) ?_ HS ?_
            rotate_left
            · (intro u hu; (try dsimp only at hu); go_simp; try with_reducible rfl)
            simp only [Act.put, List.setIfInBounds_toArray, List.set_cons_zero, List.set_cons_succ]
            refine handTake 16 (some 27) ?_ rfl rfl (by kernel_rfl) (by kernel_rfl) (by kernel_rfl) (fun _ _ _ h => h) (by rfl) ?_ HS ?_
            rotate_left
            · (intro u hu; (try dsimp only at hu); go_simp; try with_reducible rfl)
            simp only [Act.put, List.setIfInBounds_toArray, List.set_cons_zero, List.set_cons_succ]
            refine handTake 17 (some 28) ?_ rfl rfl (by kernel_rfl) (by kernel_rfl) (by kernel_rfl) (fun _ _ _ h => h) (by rfl) ?_ HS ?_
            rotate_left
            · (intro u hu; (try dsimp only at hu); go_simp; try with_reducible rfl)
            simp only [Act.put, List.setIfInBounds_toArray, List.set_cons_zero, List.set_cons_succ]
            refine handTake 18 (some 29) ?_ rfl rfl (by kernel_rfl) (by kernel_rfl) (by kernel_rfl) (fun _ _ _ h => h) (by rfl) ?_ HS ?_
            rotate_left
            · (intro u hu; (try dsimp only at hu); go_simp; try with_reducible rfl)
            simp only [Act.put, List.setIfInBounds_toArray, List.set_cons_zero, List.set_cons_succ]
            refine handTake 19 (some 30) ?_ rfl rfl (by kernel_rfl) (by kernel_rfl) (by kernel_rfl) (fun _ _ _ h => h) (by rfl) ?_ HS ?_
            rotate_left
            · (intro u hu; (try dsimp only at hu); go_simp; try with_reducible rfl)
            simp only [Act.put, List.setIfInBounds_toArray, List.set_cons_zero, List.set_cons_succ]
            refine wpAnyH_ready (rs := [20]) (by kernel_rfl) (by simp) ?_
            refine AllReadyH.cons rfl (fun K hK => ?_) AllReadyH.nil
            go_simp
            clear HS
            refine (RL.out _).mono ?_
            rintro e u1 ⟨rfl, hb⟩
            have HX1 := Lib.hid (HX.out.drew.trans (hb.mono HX.out.drew.size))
            have S1 := Lib.hid (SOF.out _ HX1.out)
            clear hb
            go_wp2_with fail
            refine hK.out _ _ (S1.out) (fun HS => ?_)
            clear hK
            try simp only [Act.put, List.setIfInBounds_toArray, List.set_cons_zero, List.set_cons_succ]
            refine handTake 21 (some 32) ?_ rfl rfl (by kernel_rfl) (by kernel_rfl) (by kernel_rfl) (fun _ _ _ h => h) (by rfl) ?_ HS ?_
            rotate_left
            · (intro u hu; (try dsimp only at hu); go_simp; try with_reducible rfl)
            simp only [Act.put, List.setIfInBounds_toArray, List.set_cons_zero, List.set_cons_succ]
            refine handTake 22 (some 33) ?_ rfl rfl (by kernel_rfl) (by kernel_rfl) (by kernel_rfl) (fun _ _ _ h => h) (by rfl) ?_ HS ?_
            rotate_left
            · (intro u hu; (try dsimp only at hu); go_simp; try with_reducible rfl)
            simp only [Act.put, List.setIfInBounds_toArray, List.set_cons_zero, List.set_cons_succ]
            refine wpAnyH_done (by kernel_rfl) ?_ _
            clear HS
            go_wp2_with fail
            go_roundw
            case rel => exact ⟨k + 1, k, by omega, by go_num, rfl, by rw [HG.out, if_pos (by trivial)]; exact HKX.out, HX1.out⟩
            case measure => show N - ((k : Int) + 1).toNat < N - (k : Int).toNat; omega
      · have HG : Hid (greatest (L.take (k + 1)) = greatest (L.take k)) := by
          show greatest (L.take (k + 1)) = _
          rw [HNX.out]; unfold stepG; rw [if_neg (by simp [hst])]
        generalize L[k] = x at *
        obtain ⟨xi, xs, ⟨xr, xp⟩, ⟨ek, ec, eq, ⟨ok, oa, ob, oc⟩⟩⟩ := x
        dsimp only at C1 hst
        have hne : ((xs : Int) == 2) = false := by simp; omega
        clear hat HNX hst
        go_wp2_with fail
        refine wp_region_held_drew (S := (fun u : World => u.cell? ⟨b, o + k * 11 + 1, none⟩ = some (.int .u8 (xs : Nat)))) (by kernel_rfl) ((C1.out _ HX.out.drew).1) (fun HS => ?_)
        refine handTake 0 (some 11) ?_ rfl rfl (by kernel_rfl) (by kernel_rfl) (by kernel_rfl) (fun _ _ _ h => h) (by rfl) ?_ HS ?_
        rotate_left
        · (intro u hu; (try dsimp only at hu); go_simp; try with_reducible rfl)
        simp only [Act.put, List.setIfInBounds_toArray, List.set_cons_zero, List.set_cons_succ]
        refine handTake 1 (some 12) ?_ rfl rfl (by kernel_rfl) (by kernel_rfl) (by kernel_rfl) (fun _ _ _ h => h) (by rfl) ?_ HS ?_
        rotate_left
        · (intro u hu; (try dsimp only at hu); go_simp; try with_reducible rfl)
        simp only [Act.put, List.setIfInBounds_toArray, List.set_cons_zero, List.set_cons_succ]
        refine handTake 2 (some 13) ?_ rfl rfl (by kernel_rfl) (by kernel_rfl) (by kernel_rfl) (fun _ _ _ h => h) (by rfl) ?_ HS ?_
        rotate_left
        · (intro u hu; (try dsimp only at hu); go_simp; try with_reducible rfl)
        simp only [Act.put, List.setIfInBounds_toArray, List.set_cons_zero, List.set_cons_succ]
        refine handTake 3 (some 14) ?_ rfl rfl (by kernel_rfl) (by kernel_rfl) (by kernel_rfl) (fun _ _ _ h => h) (by rfl) ?_ HS ?_
        rotate_left
        · (intro u hu; (try dsimp only at hu); go_simp; try with_reducible rfl)
        simp only [Act.put, List.setIfInBounds_toArray, List.set_cons_zero, List.set_cons_succ]
        refine handTake 4 (some 15) ?_ rfl rfl (by kernel_rfl) (by kernel_rfl) (by kernel_rfl) (fun _ _ _ h => h) (by rfl) ?_ HS ?_
        rotate_left
        · (intro u hu; (try dsimp only at hu); go_simp; try with_reducible rfl)
        simp only [Act.put, List.setIfInBounds_toArray, List.set_cons_zero, List.set_cons_succ]
        refine handTake 5 (some 16) ?_ rfl rfl (by kernel_rfl) (by kernel_rfl) (by kernel_rfl) (fun _ _ _ h => h) (by rfl) ?_ HS ?_
        rotate_left
        · (intro u hu; (try dsimp only at hu); go_simp; try with_reducible rfl)
        simp only [Act.put, List.setIfInBounds_toArray, List.set_cons_zero, List.set_cons_succ]
        refine handTake 6 (some 17) ?_ rfl rfl (by kernel_rfl) (by kernel_rfl) (by kernel_rfl) (fun _ _ _ h => h) (by rfl) ?_ HS ?_
        rotate_left
        · (intro u hu; (try dsimp only at hu); go_simp; try with_reducible rfl)
        simp only [Act.put, List.setIfInBounds_toArray, List.set_cons_zero, List.set_cons_succ]
        refine handSkip 7 (some 18) rfl rfl (by kernel_rfl) (by kernel_rfl) (by kernel_rfl) (fun _ _ _ h => h) (by rfl) HS ?_
        simp only [Act.put, List.setIfInBounds_toArray, List.set_cons_zero, List.set_cons_succ]
        refine handSkip 8 (some 19) rfl rfl (by kernel_rfl) (by kernel_rfl) (by kernel_rfl) (fun _ _ _ h => h) (by rfl) HS ?_
        simp only [Act.put, List.setIfInBounds_toArray, List.set_cons_zero, List.set_cons_succ]
        refine handSkip 9 (some 20) rfl rfl (by kernel_rfl) (by kernel_rfl) (by kernel_rfl) (fun _ _ _ h => h) (by rfl) HS ?_
        simp only [Act.put, List.setIfInBounds_toArray, List.set_cons_zero, List.set_cons_succ]
        refine handSkip 10 (some 21) rfl rfl (by kernel_rfl) (by kernel_rfl) (by kernel_rfl) (fun _ _ _ h => h) (by rfl) HS ?_
        simp only [Act.put, List.setIfInBounds_toArray, List.set_cons_zero, List.set_cons_succ]
        refine handSkip 11 (some 22) rfl rfl (by kernel_rfl) (by kernel_rfl) (by kernel_rfl) (fun _ _ _ h => h) (by rfl) HS ?_
        simp only [Act.put, List.setIfInBounds_toArray, List.set_cons_zero, List.set_cons_succ]
        refine handSkip 12 (some 23) rfl rfl (by kernel_rfl) (by kernel_rfl) (by kernel_rfl) (fun _ _ _ h => h) (by rfl) HS ?_
        simp only [Act.put, List.setIfInBounds_toArray, List.set_cons_zero, List.set_cons_succ]
        refine handSkip 13 (some 24) rfl rfl (by kernel_rfl) (by kernel_rfl) (by kernel_rfl) (fun _ _ _ h => h) (by rfl) HS ?_
        simp only [Act.put, List.setIfInBounds_toArray, List.set_cons_zero, List.set_cons_succ]
        refine handSkip 14 (some 25) rfl rfl (by kernel_rfl) (by kernel_rfl) (by kernel_rfl) (fun _ _ _ h => h) (by rfl) HS ?_
        simp only [Act.put, List.setIfInBounds_toArray, List.set_cons_zero, List.set_cons_succ]
        refine handSkip 15 (some 26) rfl rfl (by kernel_rfl) (by kernel_rfl) (by kernel_rfl) (fun _ _ _ h => h) (by rfl) HS ?_
        simp only [Act.put, List.setIfInBounds_toArray, List.set_cons_zero, List.set_cons_succ]
        refine handSkip 16 (some 27) rfl rfl (by kernel_rfl) (by kernel_rfl) (by kernel_rfl) (fun _ _ _ h => h) (by rfl) HS ?_
        simp only [Act.put, List.setIfInBounds_toArray, List.set_cons_zero, List.set_cons_succ]
        refine handSkip 17 (some 28) rfl rfl (by kernel_rfl) (by kernel_rfl) (by kernel_rfl) (fun _ _ _ h => h) (by rfl) HS ?_
        simp only [Act.put, List.setIfInBounds_toArray, List.set_cons_zero, List.set_cons_succ]
        refine handSkip 18 (some 29) rfl rfl (by kernel_rfl) (by kernel_rfl) (by kernel_rfl) (fun _ _ _ h => h) (by rfl) HS ?_
        simp only [Act.put, List.setIfInBounds_toArray, List.set_cons_zero, List.set_cons_succ]
        refine handSkip 19 (some 30) rfl rfl (by kernel_rfl) (by kernel_rfl) (by kernel_rfl) (fun _ _ _ h => h) (by rfl) HS ?_
        simp only [Act.put, List.setIfInBounds_toArray, List.set_cons_zero, List.set_cons_succ]
        refine handSkip 20 (some 31) rfl rfl (by kernel_rfl) (by kernel_rfl) (by kernel_rfl) (fun _ _ _ h => h) (by rfl) HS ?_
        simp only [Act.put, List.setIfInBounds_toArray, List.set_cons_zero, List.set_cons_succ]
        refine handSkip 21 (some 32) rfl rfl (by kernel_rfl) (by kernel_rfl) (by kernel_rfl) (fun _ _ _ h => h) (by rfl) HS ?_
        simp only [Act.put, List.setIfInBounds_toArray, List.set_cons_zero, List.set_cons_succ]
        refine handTake 22 (some 33) ?_ rfl rfl (by kernel_rfl) (by kernel_rfl) (by kernel_rfl) (fun _ _ _ h => h) (by rfl) ?_ HS ?_
        rotate_left
        · (intro u hu; (try dsimp only at hu); go_simp; try with_reducible rfl)
        simp only [Act.put, List.setIfInBounds_toArray, List.set_cons_zero, List.set_cons_succ]
        refine wpAnyH_done (by kernel_rfl) ?_ _
        clear HS
        go_wp2_with fail
        go_roundw
        case rel => exact ⟨k + 1, g, by omega, by go_num, rfl, by rw [HG.out]; exact HAT.out, HX.out.drew⟩
        case measure => show N - ((k : Int) + 1).toNat < N - (k : Int).toNat; omega
    · have e : k = N := by omega
      subst e
      have hE : L.take k = L := by rw [← HN.out, List.take_length]
      rw [hE] at HAT
      clear hat
      go_wp2_with fail
      go_ret
      exact ⟨⟨_, rfl, HAT.out⟩, HX.out⟩
end Ch
end Go.Proofs.Ytpgejomhcojppaa
