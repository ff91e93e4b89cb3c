/- choose.Decide, walked. -/
import Derived.Test.YtpgejomhcojppaaChooseDecPlain
import Derived.WalkMore
set_option linter.unusedSimpArgs false
set_option linter.unusedVariables false
namespace Go.Proofs.Ytpgejomhcojppaa
open Go.RowKit
namespace Ch
open Bl Qm
set_option maxRecDepth 100000 in
set_option maxHeartbeats 1000000 in
theorem noop_is (w : World) : Calls Try.prog 24 #[] w fun e w' => e = .returned (.tuple #[.int .u8 1, .agg (enC noopEn).toArray, .int .i64 0]) ∧ Below w.heap.size w w' := by
  go_enter Try.func24, Try.ntmps24
  go_wp2_with fail
  exact bodyPost_ret (results_en3 rfl _ _ w.heap.size noopEn rfl (Whole.new w 31 (enC noopEn))) rfl ⟨rfl, be1 w _⟩
/-- A row without its first element. -/
theorem row_rest {w : World} {B b o n c K : Nat} {xs ys : List Value} (h : Row w B (.slice (some ⟨b, o, none⟩) (n + 1) c) (n + 1) (xs ++ ys)) (hx : xs.length = K) : Row w B (.slice (some ⟨b, o + K, none⟩) n (c - 1)) n ys := by
  obtain ⟨A, c', hv, h1, h2, h3⟩ := h
  injection hv with e1 _ e3
  subst e1 e3
  refine ⟨_, _, rfl, by omega, by omega, fun hne => ?_⟩
  obtain ⟨b', o', hA, hb, hc⟩ := h3 (by intro h; exact hne (List.append_eq_nil_iff.1 h).2)
  injection hA with hA
  injection hA with e1 e2
  subst e1 e2
  refine ⟨_, _, rfl, hb, fun j u hu => ?_⟩
  rw [Nat.add_assoc]
  refine hc _ _ ?_
  rw [List.getElem?_append_right (by omega), hx]
  rw [Nat.add_sub_cancel_left]; exact hu
set_option maxRecDepth 100000 in
theorem slice_rest {w : World} {B b o n c : Nat} {x : Ba} {r : List Ba} (h : Row w B (.slice (some ⟨b, o, none⟩) (n + 1) c) (n + 1) (baC x ++ r.flatMap baC)) (hn : r.length = n) :
    ∃ oX, (∀ w, (Instr.sliceAt 63 (.slice (some ⟨b, o, none⟩) (n + 1) c) (some (.int .i64 1)) none none).run Try.prog w = .ok (.slice (some ⟨b, oX, none⟩) n (c - 1)) w) ∧ Row w B (.slice (some ⟨b, oX, none⟩) n (c - 1)) n (r.flatMap baC) := by
  have hrun : ∀ w : World, (Instr.sliceAt 63 (.slice (some ⟨b, o, none⟩) (n + 1) c) (some (.int .i64 1)) none none).run Try.prog w = .ok (sliced (some ⟨b, o, none⟩) 1 (n + 1) c 2) w := by
    intro w
    rw [run_sliceAt_slice _ _ _ _ _ _ Try.underlying63, run_slice_l _ _ _ _ _ Try.underlying63 _ _ (by omega) (by omega)]
    rfl
  obtain ⟨_, c', hv, hc1, hc2, _⟩ := id h
  injection hv with _ _ e3
  subst e3
  by_cases hc : c = 1
  · subst hc
    have hn0 : n = 0 := by omega
    subst hn0
    obtain rfl : r = [] := List.eq_nil_of_length_eq_zero hn
    exact ⟨o, fun w => by rw [hrun w]; rfl, ⟨_, _, rfl, by omega, by omega, fun h => absurd rfl h⟩⟩
  · refine ⟨o + 2, fun w => ?_, row_rest h rfl⟩
    rw [hrun w]
    simp [sliced, hc, Addr.add]
set_option maxRecDepth 100000 in
set_option maxHeartbeats 16000000 in
theorem decide_is (n : Int) (L : List Rp) (v : Value) (B : Nat) (w : World) (hB : B ≤ w.heap.size) (hr : Row w B v L.length (L.flatMap rpC)) :
    Calls Try.prog 11 #[.int .i64 n, v] w fun e w' => e = .returned (.tuple #[.int .u8 ((decW n L).1 : Nat), .agg (enC (decW n L).2.1).toArray, .int .i64 (decW n L).2.2]) ∧ Below w.heap.size w w' := by
  obtain ⟨A, c, rfl, _, _⟩ := hr.slice
  have hbd := hr.bound
  obtain ⟨W, hW⟩ : ∃ W : World, W = w.alloc (.cells #[.int .u8 0, .int .i64 0, .int .i64 0, .int .u8 0, .string { data := #[] }, .string { data := #[] }, .string { data := #[] }] 31) := ⟨_, rfl⟩
  have HB_W : Hid (Below w.heap.size w W) := by rw [hW]; exact be1 w _
  have HE_W : Hid (Whole W w.heap.size 31 [.int .u8 0, .int .i64 0, .int .i64 0, .int .u8 0, .string { data := #[] }, .string { data := #[] }, .string { data := #[] }]) := by rw [hW]; exact Whole.new w _ _
  have MO := Lib.hid (most_any n W)
  have hM4 := most_le n
  have R_L_W : Hid (Row W W.heap.size (.slice A L.length c) L.length (L.flatMap rpC)) := (hr.below (HB_W.out.mono hB)).more (Nat.le_trans hB HB_W.out.size)
  have HDE : Hid (decW n L = if mostN n = 0 ∨ (L.length : Int) ≠ n ∨ ((only [0, 1, 2, 3, 4] L).length : Int) ≠ n then (0, zeroEn, 2)
      else match (if (mostN n : Int) ≤ n - (only [0, 4] L).length then loopP (mostN n) (only [2] L) (only [3] L) (only [0, 4] L).length (ballots (only [2, 3] L)) else none) with
        | some (k, e) => (k, e, 0)
        | none => restP L) := rfl
  clear hr
  by_cases hm : mostN n = 0
  · have hm1 : ((mostN n : Int) == 0) = true := by simp; omega
    have HM := Lib.hid hm
    clear hm
    generalize hMM : mostN n = M at *
    have HMM := Lib.hid hMM
    clear hMM
    generalize hN : L.length = N at *
    clear hN
    go_enter Try.func11, Try.ntmps11
    go_wp2_with fail
    rw [← hW]
    clear hW
    go_step3
    go_wp2_with fail
    refine MO.out.mono ?_
    rintro e u ⟨rfl, rfl⟩
    clear MO
    have l_W := HE_W.out.lt
    have HR : Hid (decW n L = (0, zeroEn, 2)) := by
      show decW n L = _
      rw [HDE.out, if_pos (.inl HM.out)]
    have hec := HE_W.out
    have e0 := hec.cell 0; have f0 := hec.free 0; have e1 := hec.cell 1; have f1 := hec.free 1; have e2 := hec.cell 2; have f2 := hec.free 2; have e3 := hec.cell 3; have f3 := hec.free 3; have e4 := hec.cell 4; have f4 := hec.free 4; have e5 := hec.cell 5; have f5 := hec.free 5; have e6 := hec.cell 6; have f6 := hec.free 6
    simp only [List.getElem?_cons_zero, List.getElem?_cons_succ] at e0 e1 e2 e3 e4 e5 e6
    clear hec
    go_wp2_with fail
    rw [Exit.noGoto_ret]
    exact bodyPost_ret (results_en3 rfl _ _ w.heap.size (zeroEn) rfl ((((((((HE_W.out.set 0 _).set 1 _).set 2 _).set 3 _).set 4 _).set 5 _).set 6 _))) rfl ⟨by rw [HR.out]; rfl, (Below.setCell (p := ⟨w.heap.size, 6, none⟩) (Below.setCell (p := ⟨w.heap.size, 5, none⟩) (Below.setCell (p := ⟨w.heap.size, 4, none⟩) (Below.setCell (p := ⟨w.heap.size, 3, none⟩) (Below.setCell (p := ⟨w.heap.size, 2, none⟩) (Below.setCell (p := ⟨w.heap.size, 1, none⟩) (Below.setCell (p := ⟨w.heap.size, 0, none⟩) HB_W.out (by simp) _) (by simp) _) (by simp) _) (by simp) _) (by simp) _) (by simp) _) (by simp) _)⟩
  · have hm1 : ((mostN n : Int) == 0) = false := by simp; omega
    by_cases hn : (L.length : Int) = n
    · have h357 := most_cases n
      obtain ⟨N, hN⟩ : ∃ N, L.length = N := ⟨_, rfl⟩
      have hNn : (N : Int) = n := by rw [← hN]; exact hn
      have hL : N ≤ 500 := by omega
      subst hNn
      have HN := Lib.hid hN
      rw [hN] at R_L_W HDE hbd ⊢
      generalize hMM : mostN (N : Int) = M at *
      have hm0 : ¬ M = 0 := hm
      clear hMM hn h357 hN hm
      go_enter Try.func11, Try.ntmps11
      go_wp2_with fail
      rw [← hW]
      clear hW
      go_step3
      go_wp2_with fail
      refine MO.out.mono ?_
      rintro e u ⟨rfl, rfl⟩
      clear MO
      have l_W := HE_W.out.lt
      go_wp2_with fail
      have C := Lib.hid (only_is [0, 1, 2, 3, 4] L (.slice (some ⟨W.heap.size, 0, none⟩) 5 5) (.slice A N c) W.heap.size (W.alloc (.cells #[.int .u8 0, .int .u8 1, .int .u8 2, .int .u8 3, .int .u8 4] 5)) (by simp) (by rw [HN.out]; exact R_L_W.out.alloc (Nat.le_refl _) _) (Row.blk (Whole.new W 5 [.int .u8 0, .int .u8 1, .int .u8 2, .int .u8 3, .int .u8 4]) rfl (by simp) (by unfold maxLen; omega)) (by rw [HN.out]; exact hL))
      refine C.out.mono ?_
      rintro e ww1 ⟨v1, rfl, ho, hx⟩
      have hx : Below W.heap.size W ww1 := (be1 W _).trans (hx.mono (by simp))
      obtain ⟨A1, c1, rfl, _, _⟩ := (Row.of_own ho).slice
      have HB_ww1 := Lib.hid (HB_W.out.trans (Below.mono hx (by have := HB_W.out.size; omega)))
      have HE_ww1 := Lib.hid (HE_W.out.below hx HE_W.out.lt)
      have R_L_ww1 : Hid (Row ww1 ww1.heap.size (.slice A N c) N (L.flatMap rpC)) := (R_L_W.out.below hx).more (Below.size hx)
      clear ho hx C HB_W HE_W R_L_W
      by_cases h5 : ((only [0, 1, 2, 3, 4] L).length : Int) = (N : Int)
      · have HD2 : Hid (decW (N : Int) L = match (if (M : Int) ≤ N - (only [0, 4] L).length then loopP M (only [2] L) (only [3] L) (only [0, 4] L).length (ballots (only [2, 3] L)) else none) with
            | some (k, e) => (k, e, 0)
            | none => restP L) := by
          show decW (N : Int) L = _
          rw [HDE.out, if_neg (by rintro (h | h | h); exact hm0 h; exact h rfl; exact h h5)]
        have h5n : (only [0, 1, 2, 3, 4] L).length = N := by omega
        rw [h5n]
        clear HDE h5 h5n
        have C := Lib.hid (only_is [2] L (.slice (some ⟨ww1.heap.size, 0, none⟩) 1 1) (.slice A N c) ww1.heap.size (ww1.alloc (.cells #[.int .u8 2] 5)) (by simp) (by rw [HN.out]; exact R_L_ww1.out.alloc (Nat.le_refl _) _) (Row.blk (Whole.new ww1 5 [.int .u8 2]) rfl (by simp) (by unfold maxLen; omega)) (by rw [HN.out]; exact hL))
        go_wp2_with fail
        refine C.out.mono ?_
        rintro e ww2 ⟨v2, rfl, ho, hx⟩
        have hx : Below ww1.heap.size ww1 ww2 := (be1 ww1 _).trans (hx.mono (by simp))
        obtain ⟨A2, c2, rfl, _, _⟩ := (Row.of_own ho).slice
        have HB_ww2 := Lib.hid (HB_ww1.out.trans (Below.mono hx (by have := HB_ww1.out.size; omega)))
        have HE_ww2 := Lib.hid (HE_ww1.out.below hx HE_ww1.out.lt)
        have R_L_ww2 : Hid (Row ww2 ww2.heap.size (.slice A N c) N (L.flatMap rpC)) := (R_L_ww1.out.below hx).more (Below.size hx)
        have R_I_ww2 : Hid (Row ww2 ww2.heap.size (.slice A2 (only [2] L).length c2) (only [2] L).length ((only [2] L).flatMap rpC)) := Row.of_own ho
        clear ho hx C HB_ww1 HE_ww1 R_L_ww1
        have C := Lib.hid (only_is [3] L (.slice (some ⟨ww2.heap.size, 0, none⟩) 1 1) (.slice A N c) ww2.heap.size (ww2.alloc (.cells #[.int .u8 3] 5)) (by simp) (by rw [HN.out]; exact R_L_ww2.out.alloc (Nat.le_refl _) _) (Row.blk (Whole.new ww2 5 [.int .u8 3]) rfl (by simp) (by unfold maxLen; omega)) (by rw [HN.out]; exact hL))
        go_wp2_with fail
        refine C.out.mono ?_
        rintro e ww3 ⟨v3, rfl, ho, hx⟩
        have hx : Below ww2.heap.size ww2 ww3 := (be1 ww2 _).trans (hx.mono (by simp))
        obtain ⟨A3, c3, rfl, _, _⟩ := (Row.of_own ho).slice
        have HB_ww3 := Lib.hid (HB_ww2.out.trans (Below.mono hx (by have := HB_ww2.out.size; omega)))
        have HE_ww3 := Lib.hid (HE_ww2.out.below hx HE_ww2.out.lt)
        have R_L_ww3 : Hid (Row ww3 ww3.heap.size (.slice A N c) N (L.flatMap rpC)) := (R_L_ww2.out.below hx).more (Below.size hx)
        have R_I_ww3 : Hid (Row ww3 ww3.heap.size (.slice A2 (only [2] L).length c2) (only [2] L).length ((only [2] L).flatMap rpC)) := (R_I_ww2.out.below hx).more (Below.size hx)
        have R_X_ww3 : Hid (Row ww3 ww3.heap.size (.slice A3 (only [3] L).length c3) (only [3] L).length ((only [3] L).flatMap rpC)) := Row.of_own ho
        clear ho hx C HB_ww2 HE_ww2 R_L_ww2 R_I_ww2
        have C := Lib.hid (only_is [0, 4] L (.slice (some ⟨ww3.heap.size, 0, none⟩) 2 2) (.slice A N c) ww3.heap.size (ww3.alloc (.cells #[.int .u8 0, .int .u8 4] 5)) (by simp) (by rw [HN.out]; exact R_L_ww3.out.alloc (Nat.le_refl _) _) (Row.blk (Whole.new ww3 5 [.int .u8 0, .int .u8 4]) rfl (by simp) (by unfold maxLen; omega)) (by rw [HN.out]; exact hL))
        go_wp2_with fail
        refine C.out.mono ?_
        rintro e ww4 ⟨v4, rfl, ho, hx⟩
        have hx : Below ww3.heap.size ww3 ww4 := (be1 ww3 _).trans (hx.mono (by simp))
        obtain ⟨A4, c4, rfl, _, _⟩ := (Row.of_own ho).slice
        have HB_ww4 := Lib.hid (HB_ww3.out.trans (Below.mono hx (by have := HB_ww3.out.size; omega)))
        have HE_ww4 := Lib.hid (HE_ww3.out.below hx HE_ww3.out.lt)
        have R_L_ww4 : Hid (Row ww4 ww4.heap.size (.slice A N c) N (L.flatMap rpC)) := (R_L_ww3.out.below hx).more (Below.size hx)
        have R_I_ww4 : Hid (Row ww4 ww4.heap.size (.slice A2 (only [2] L).length c2) (only [2] L).length ((only [2] L).flatMap rpC)) := (R_I_ww3.out.below hx).more (Below.size hx)
        have R_X_ww4 : Hid (Row ww4 ww4.heap.size (.slice A3 (only [3] L).length c3) (only [3] L).length ((only [3] L).flatMap rpC)) := (R_X_ww3.out.below hx).more (Below.size hx)
        clear ho hx C HB_ww3 HE_ww3 R_L_ww3 R_I_ww3 R_X_ww3
        have hc4 : (only [0, 4] L).length ≤ 500 := Nat.le_trans (only_le _ _) (by rw [HN.out]; exact hL)
        have hI5 : (only [2] L).length ≤ 500 := Nat.le_trans (only_le _ _) (by rw [HN.out]; exact hL)
        have hX5 : (only [3] L).length ≤ 500 := Nat.le_trans (only_le _ _) (by rw [HN.out]; exact hL)
        have C := Lib.hid (only_is [2, 3] L (.slice (some ⟨ww4.heap.size, 0, none⟩) 2 2) (.slice A N c) ww4.heap.size (ww4.alloc (.cells #[.int .u8 2, .int .u8 3] 5)) (by simp) (by rw [HN.out]; exact R_L_ww4.out.alloc (Nat.le_refl _) _) (Row.blk (Whole.new ww4 5 [.int .u8 2, .int .u8 3]) rfl (by simp) (by unfold maxLen; omega)) (by rw [HN.out]; exact hL))
        go_wp2_with fail
        refine C.out.mono ?_
        rintro e ww5 ⟨v5, rfl, ho, hx⟩
        have hx : Below ww4.heap.size ww4 ww5 := (be1 ww4 _).trans (hx.mono (by simp))
        obtain ⟨A5, c5, rfl, _, _⟩ := (Row.of_own ho).slice
        have HB_ww5 := Lib.hid (HB_ww4.out.trans (Below.mono hx (by have := HB_ww4.out.size; omega)))
        have HE_ww5 := Lib.hid (HE_ww4.out.below hx HE_ww4.out.lt)
        have R_L_ww5 : Hid (Row ww5 ww5.heap.size (.slice A N c) N (L.flatMap rpC)) := (R_L_ww4.out.below hx).more (Below.size hx)
        have R_I_ww5 : Hid (Row ww5 ww5.heap.size (.slice A2 (only [2] L).length c2) (only [2] L).length ((only [2] L).flatMap rpC)) := (R_I_ww4.out.below hx).more (Below.size hx)
        have R_X_ww5 : Hid (Row ww5 ww5.heap.size (.slice A3 (only [3] L).length c3) (only [3] L).length ((only [3] L).flatMap rpC)) := (R_X_ww4.out.below hx).more (Below.size hx)
        have R_J_ww5 : Hid (Row ww5 ww5.heap.size (.slice A5 (only [2, 3] L).length c5) (only [2, 3] L).length ((only [2, 3] L).flatMap rpC)) := Row.of_own ho
        clear ho hx C HB_ww4 HE_ww4 R_L_ww4 R_I_ww4 R_X_ww4
        have hJ5 : (only [2, 3] L).length ≤ 500 := Nat.le_trans (only_le _ _) (by rw [HN.out]; exact hL)
        have C := Lib.hid (ballots_is (only [2, 3] L) (.slice A5 (only [2, 3] L).length c5) ww5.heap.size ww5 (Nat.le_refl _) R_J_ww5.out hJ5)
        go_wp2_with fail
        refine C.out.mono ?_
        rintro e ww6 ⟨vD, rfl, ho, hx⟩
        obtain ⟨AD, cD, rfl, _, _⟩ := (Row.of_own ho).slice
        have hD5 : (ballots (only [2, 3] L)).length ≤ 500 := Nat.le_trans (ballots_le _) hJ5
        clear hJ5
        have HB_ww6 := Lib.hid (HB_ww5.out.trans (Below.mono hx (by have := HB_ww5.out.size; omega)))
        have HE_ww6 := Lib.hid (HE_ww5.out.below hx HE_ww5.out.lt)
        have R_L_ww6 : Hid (Row ww6 ww6.heap.size (.slice A N c) N (L.flatMap rpC)) := (R_L_ww5.out.below hx).more (Below.size hx)
        have R_I_ww6 : Hid (Row ww6 ww6.heap.size (.slice A2 (only [2] L).length c2) (only [2] L).length ((only [2] L).flatMap rpC)) := (R_I_ww5.out.below hx).more (Below.size hx)
        have R_X_ww6 : Hid (Row ww6 ww6.heap.size (.slice A3 (only [3] L).length c3) (only [3] L).length ((only [3] L).flatMap rpC)) := (R_X_ww5.out.below hx).more (Below.size hx)
        have R_D_ww6 : Hid (Row ww6 ww6.heap.size (.slice AD (ballots (only [2, 3] L)).length cD) (ballots (only [2, 3] L)).length ((ballots (only [2, 3] L)).flatMap baC)) := Row.of_own ho
        clear ho hx C R_J_ww5 HB_ww5 HE_ww5 R_L_ww5 R_I_ww5 R_X_ww5
        generalize hI : only [2] L = I at *
        generalize hX : only [3] L = X at *
        generalize hm04 : (only [0, 4] L).length = m0 at *
        generalize hD0 : ballots (only [2, 3] L) = D0 at *
        have HI := Lib.hid hI
        have HM0 := Lib.hid hm04
        clear hI hX hm04 hD0
        have hz0 := HB_ww6.out.size
        go_wp2_with fail
        go_step3
        go_wp2_with fail
        by_cases hk0 : (M : Int) ≤ (N : Int) - (m0 : Int)
        · have HR0 : Hid (decW (N : Int) L = match loopP M I X m0 D0 with
              | some (k, e) => (k, e, 0)
              | none => restP L) := by
            show decW (N : Int) L = _
            rw [HD2.out, if_pos hk0]
          clear HD2
          go_loopw [11, 12] (fun mv lv wr => ∃ (m : Int) (D : List Ba), mv = .int .i64 m ∧ 0 ≤ m ∧ m + 500 * D.length ≤ 251000 ∧ loopP M I X m D = loopP M I X m0 D0 ∧ Row wr wr.heap.size lv D.length (D.flatMap baC) ∧ Below ww6.heap.size ww6 wr) (fun _ lv _ => lenOf lv)
          case atStart => exact ⟨m0, D0, rfl, by omega, by omega, rfl, R_D_ww6.out, Below.refl _ _⟩
          case round =>
            obtain ⟨m, D, rfl, hm0', hm5, hlp, hDr, hxr⟩ := hrel
            have HLP := Lib.hid hlp
            have zr := hxr.size
            obtain ⟨AL, cL, rfl, _, _⟩ := hDr.slice
            clear hlp
            have HB_wr := Lib.hid (HB_ww6.out.trans (Below.mono hxr (by have := HB_ww6.out.size; omega)))
            have HE_wr := Lib.hid (HE_ww6.out.below hxr HE_ww6.out.lt)
            have R_L_wr : Hid (Row wr wr.heap.size (.slice A N c) N (L.flatMap rpC)) := (R_L_ww6.out.below hxr).more (Below.size hxr)
            have R_I_wr : Hid (Row wr wr.heap.size (.slice A2 I.length c2) I.length (I.flatMap rpC)) := (R_I_ww6.out.below hxr).more (Below.size hxr)
            have R_X_wr : Hid (Row wr wr.heap.size (.slice A3 X.length c3) X.length (X.flatMap rpC)) := (R_X_ww6.out.below hxr).more (Below.size hxr)
            have R_C_wr : Hid (Row wr wr.heap.size (.slice AL D.length cL) D.length (D.flatMap baC)) := hDr
            have HXR := Lib.hid hxr
            clear hxr hDr
            have C := Lib.hid (only_is [0, 4] L (.slice (some ⟨wr.heap.size, 0, none⟩) 2 2) (.slice A N c) wr.heap.size (wr.alloc (.cells #[.int .u8 0, .int .u8 4] 5)) (by simp) (by rw [HN.out]; exact R_L_wr.out.alloc (Nat.le_refl _) _) (Row.blk (Whole.new wr 5 [.int .u8 0, .int .u8 4]) rfl (by simp) (by unfold maxLen; omega)) (by rw [HN.out]; exact hL))
            go_wp2_with fail
            refine C.out.mono ?_
            rintro e ww7 ⟨v7, rfl, ho, hx⟩
            have hx : Below wr.heap.size wr ww7 := (be1 wr _).trans (hx.mono (by simp))
            obtain ⟨A7, c7, rfl, _, _⟩ := (Row.of_own ho).slice
            have HB_ww7 := Lib.hid (HB_wr.out.trans (Below.mono hx (by have := HB_wr.out.size; omega)))
            have HE_ww7 := Lib.hid (HE_wr.out.below hx HE_wr.out.lt)
            have R_L_ww7 : Hid (Row ww7 ww7.heap.size (.slice A N c) N (L.flatMap rpC)) := (R_L_wr.out.below hx).more (Below.size hx)
            have R_I_ww7 : Hid (Row ww7 ww7.heap.size (.slice A2 I.length c2) I.length (I.flatMap rpC)) := (R_I_wr.out.below hx).more (Below.size hx)
            have R_X_ww7 : Hid (Row ww7 ww7.heap.size (.slice A3 X.length c3) X.length (X.flatMap rpC)) := (R_X_wr.out.below hx).more (Below.size hx)
            have R_C_ww7 : Hid (Row ww7 ww7.heap.size (.slice AL D.length cL) D.length (D.flatMap baC)) := (R_C_wr.out.below hx).more (Below.size hx)
            have HXR2 : Hid (Below ww6.heap.size ww6 ww7) := Lib.hid (HXR.out.trans (hx.mono zr))
            clear ho hx C HB_wr HE_wr R_L_wr R_I_wr R_X_wr R_C_wr
            rw [HM0.out]
            clear HXR
            cases D with
            | nil =>
              simp only [List.length_nil]
              go_wp2_with fail
              have HR : Hid (decW (N : Int) L = (1, noopEn, 0)) := by
                show decW (N : Int) L = _
                rw [HR0.out, ← HLP.out]; rfl
              have C := Lib.hid (noop_is ww7)
              refine C.out.mono ?_
              rintro e ww8 ⟨rfl, hx⟩
              have HB_ww8 := Lib.hid (HB_ww7.out.trans (Below.mono hx (by have := HB_ww7.out.size; omega)))
              have HE_ww8 := Lib.hid (HE_ww7.out.below hx HE_ww7.out.lt)
              have R_L_ww8 : Hid (Row ww8 ww8.heap.size (.slice A N c) N (L.flatMap rpC)) := (R_L_ww7.out.below hx).more (Below.size hx)
              have R_I_ww8 : Hid (Row ww8 ww8.heap.size (.slice A2 I.length c2) I.length (I.flatMap rpC)) := (R_I_ww7.out.below hx).more (Below.size hx)
              clear hx C HB_ww7 HE_ww7 R_L_ww7 R_I_ww7
              have hec := HE_ww8.out
              have e0 := hec.cell 0; have f0 := hec.free 0; have e1 := hec.cell 1; have f1 := hec.free 1; have e2 := hec.cell 2; have f2 := hec.free 2; have e3 := hec.cell 3; have f3 := hec.free 3; have e4 := hec.cell 4; have f4 := hec.free 4; have e5 := hec.cell 5; have f5 := hec.free 5; have e6 := hec.cell 6; have f6 := hec.free 6
              simp only [List.getElem?_cons_zero, List.getElem?_cons_succ] at e0 e1 e2 e3 e4 e5 e6
              clear hec
              simp only [enC, noopEn, noStr]
              go_wp2_with fail
              rw [Exit.noGoto_ret]
              exact bodyPost_ret (results_en3 rfl _ _ w.heap.size (noopEn) rfl ((((((((HE_ww8.out.set 0 _).set 1 _).set 2 _).set 3 _).set 4 _).set 5 _).set 6 _))) rfl ⟨by rw [HR.out]; rfl, (Below.setCell (p := ⟨w.heap.size, 6, none⟩) (Below.setCell (p := ⟨w.heap.size, 5, none⟩) (Below.setCell (p := ⟨w.heap.size, 4, none⟩) (Below.setCell (p := ⟨w.heap.size, 3, none⟩) (Below.setCell (p := ⟨w.heap.size, 2, none⟩) (Below.setCell (p := ⟨w.heap.size, 1, none⟩) (Below.setCell (p := ⟨w.heap.size, 0, none⟩) HB_ww8.out (by simp) _) (by simp) _) (by simp) _) (by simp) _) (by simp) _) (by simp) _) (by simp) _)⟩
            | cons b r =>
              obtain ⟨br, bp⟩ := b
              obtain ⟨nr, hnr⟩ : ∃ nr, r.length = nr := ⟨_, rfl⟩
              have HNR := Lib.hid hnr
              have hDc : Row ww7 ww7.heap.size (.slice AL (nr + 1) cL) (nr + 1) (baC ⟨br, bp⟩ ++ r.flatMap baC) := by have h := R_C_ww7.out; rw [List.length_cons, hnr, List.flatMap_cons] at h; exact h
              have hncL : (nr : Int) + 1 ≤ (cL : Int) := by obtain ⟨_, _, h, _, _⟩ := hDc.slice; injection h with _ _ h; omega
              have hm5' : m + 500 * nr + 500 ≤ 251000 := by rw [List.length_cons, hnr] at hm5; omega
              obtain ⟨b2, o2, hA2, hb2, hx2⟩ := hDc.at_ (j := 0) (by simp [baC])
              subst hA2
              have q0 := hx2 0 _ rfl
              have q1 := hx2 1 _ rfl
              simp only [Nat.add_zero] at q0 q1
              have hoX : ∃ oX, (∀ w, (Instr.sliceAt 63 (.slice (some ⟨b2, o2, none⟩) (nr + 1) cL) (some (.int .i64 1)) none none).run Try.prog w = .ok (.slice (some ⟨b2, oX, none⟩) nr (cL - 1)) w) ∧ Row ww7 ww7.heap.size (.slice (some ⟨b2, oX, none⟩) nr (cL - 1)) nr (r.flatMap baC) := slice_rest hDc hnr
              obtain ⟨oX, hsl, hrX⟩ := hoX
              have R_T_ww7 : Hid (Row ww7 ww7.heap.size (.slice (some ⟨b2, oX, none⟩) nr (cL - 1)) nr (r.flatMap baC)) := hrX
              rw [List.length_cons, hnr]
              have hlz : ((nr : Int) + 1 == 0) = false := by rw [beq_eq_false_iff_ne]; omega
              clear hx2 hDc hnr hm5 hrX R_C_ww7
              obtain ⟨ww9, huB⟩ : ∃ u : World, u = ww7.alloc (.cells #[.int .i64 br, .int .i64 bp] 27) := ⟨_, rfl⟩
              have hx : Below ww7.heap.size ww7 ww9 := by rw [huB]; exact be1 ww7 _
              have BX_ww9 : Hid (Whole ww9 ww7.heap.size 27 [.int .i64 br, .int .i64 bp]) := by rw [huB]; exact Whole.new ww7 _ _
              have HB_ww9 := Lib.hid (HB_ww7.out.trans (Below.mono hx (by have := HB_ww7.out.size; omega)))
              have HE_ww9 := Lib.hid (HE_ww7.out.below hx HE_ww7.out.lt)
              have R_L_ww9 : Hid (Row ww9 ww9.heap.size (.slice A N c) N (L.flatMap rpC)) := (R_L_ww7.out.below hx).more (Below.size hx)
              have R_I_ww9 : Hid (Row ww9 ww9.heap.size (.slice A2 I.length c2) I.length (I.flatMap rpC)) := (R_I_ww7.out.below hx).more (Below.size hx)
              have R_X_ww9 : Hid (Row ww9 ww9.heap.size (.slice A3 X.length c3) X.length (X.flatMap rpC)) := (R_X_ww7.out.below hx).more (Below.size hx)
              have R_T_ww9 : Hid (Row ww9 ww9.heap.size (.slice (some ⟨b2, oX, none⟩) nr (cL - 1)) nr (r.flatMap baC)) := (R_T_ww7.out.below hx).more (Below.size hx)
              clear hx HB_ww7 HE_ww7 R_L_ww7 R_I_ww7 R_X_ww7 R_T_ww7
              have C := first_is ⟨br, bp⟩ I (.slice A2 I.length c2) ww9.heap.size ww9 (Nat.le_refl _) R_I_ww9.out hI5
              simp only [baC] at C
              have HXR3 : Hid (Below ww6.heap.size ww6 ww9) := by show Below _ _ _; rw [huB]; exact HXR2.out.alloc HXR2.out.size _
              have hbx := BX_ww9.out
              have c0 := hbx.cell 0; have c1 := hbx.cell 1
              simp only [List.getElem?_cons_zero, List.getElem?_cons_succ] at c0 c1
              clear hbx HXR2
              cases hfb : firstB ⟨br, bp⟩ I
              · rw [hfb] at C
                obtain ⟨xe, hxe⟩ : ∃ xe, firstE ⟨br, bp⟩ I = xe := ⟨_, rfl⟩
                rw [hxe] at C
                clear hxe
                obtain ⟨ek, ec, eq, ⟨ok, oa, ob, oc⟩⟩ := xe
                simp only [enC] at C
                have C := Lib.hid C
                have HLP2 : Hid (loopP M I X m0 D0 = if (M : Int) ≤ m + (byB ⟨br, bp⟩ X).length then none else loopP M I X (m + (byB ⟨br, bp⟩ X).length) r) := by
                  show loopP M I X m0 D0 = _
                  rw [← HLP.out, loopP_cons, hfb]; rfl
                clear hfb HLP
                go_wp2_with fail
                rw [← huB]
                clear huB
                go_wp2_with fail
                refine C.out.mono ?_
                rintro e ww10 ⟨rfl, hx⟩
                have hbx := BX_ww9.out.below hx BX_ww9.out.lt
                have d0 := hbx.cell 0; have d1 := hbx.cell 1
                simp only [List.getElem?_cons_zero, List.getElem?_cons_succ] at d0 d1
                have HXR4 := Lib.hid (HXR3.out.trans (hx.mono HXR3.out.size))
                have hzz := hx.size
                have hlb := BX_ww9.out.lt
                have hl7 : ww7.heap.size < ww10.heap.size := Nat.lt_of_lt_of_le hlb hzz
                clear hbx BX_ww9 c0 c1
                have HB_ww10 := Lib.hid (HB_ww9.out.trans (Below.mono hx (by have := HB_ww9.out.size; omega)))
                have HE_ww10 := Lib.hid (HE_ww9.out.below hx HE_ww9.out.lt)
                have R_L_ww10 : Hid (Row ww10 ww10.heap.size (.slice A N c) N (L.flatMap rpC)) := (R_L_ww9.out.below hx).more (Below.size hx)
                have R_I_ww10 : Hid (Row ww10 ww10.heap.size (.slice A2 I.length c2) I.length (I.flatMap rpC)) := (R_I_ww9.out.below hx).more (Below.size hx)
                have R_X_ww10 : Hid (Row ww10 ww10.heap.size (.slice A3 X.length c3) X.length (X.flatMap rpC)) := (R_X_ww9.out.below hx).more (Below.size hx)
                have R_T_ww10 : Hid (Row ww10 ww10.heap.size (.slice (some ⟨b2, oX, none⟩) nr (cL - 1)) nr (r.flatMap baC)) := (R_T_ww9.out.below hx).more (Below.size hx)
                clear hx C q0 q1 HXR3 HB_ww9 HE_ww9 R_L_ww9 R_I_ww9 R_X_ww9 R_T_ww9
                obtain ⟨ww11, huD⟩ : ∃ u : World, u = ww10.alloc (.cells #[.int .u8 (ek : Nat), .int .i64 ec, .int .i64 eq, .int .u8 (ok : Nat), .string oa, .string ob, .string oc] 31) := ⟨_, rfl⟩
                have hx : Below ww10.heap.size ww10 ww11 := by rw [huD]; exact be1 ww10 _
                have HXR5 := Lib.hid (HXR4.out.trans (hx.mono HXR4.out.size))
                have HB_ww11 := Lib.hid (HB_ww10.out.trans (Below.mono hx (by have := HB_ww10.out.size; omega)))
                have HE_ww11 := Lib.hid (HE_ww10.out.below hx HE_ww10.out.lt)
                have R_L_ww11 : Hid (Row ww11 ww11.heap.size (.slice A N c) N (L.flatMap rpC)) := (R_L_ww10.out.below hx).more (Below.size hx)
                have R_I_ww11 : Hid (Row ww11 ww11.heap.size (.slice A2 I.length c2) I.length (I.flatMap rpC)) := (R_I_ww10.out.below hx).more (Below.size hx)
                have R_X_ww11 : Hid (Row ww11 ww11.heap.size (.slice A3 X.length c3) X.length (X.flatMap rpC)) := (R_X_ww10.out.below hx).more (Below.size hx)
                have R_T_ww11 : Hid (Row ww11 ww11.heap.size (.slice (some ⟨b2, oX, none⟩) nr (cL - 1)) nr (r.flatMap baC)) := (R_T_ww10.out.below hx).more (Below.size hx)
                clear hx HB_ww10 HE_ww10 R_L_ww10 R_I_ww10 R_X_ww10 R_T_ww10
                have C := Lib.hid (by_is ⟨br, bp⟩ X (.slice A3 X.length c3) ww11.heap.size ww11 (Nat.le_refl _) R_X_ww11.out hX5)
                have hby := byB_le ⟨br, bp⟩ X
                simp only [baC] at C
                go_wp2_with fail
                rw [← huD]
                clear huD
                go_wp2_with fail
                refine C.out.mono ?_
                rintro e ww12 ⟨vY, rfl, ho, hx⟩
                obtain ⟨AY, cY, rfl, _, _⟩ := (Row.of_own ho).slice
                have HXR6 := Lib.hid (HXR5.out.trans (hx.mono HXR5.out.size))
                have HB_ww12 := Lib.hid (HB_ww11.out.trans (Below.mono hx (by have := HB_ww11.out.size; omega)))
                have HE_ww12 := Lib.hid (HE_ww11.out.below hx HE_ww11.out.lt)
                have R_L_ww12 : Hid (Row ww12 ww12.heap.size (.slice A N c) N (L.flatMap rpC)) := (R_L_ww11.out.below hx).more (Below.size hx)
                have R_I_ww12 : Hid (Row ww12 ww12.heap.size (.slice A2 I.length c2) I.length (I.flatMap rpC)) := (R_I_ww11.out.below hx).more (Below.size hx)
                have R_X_ww12 : Hid (Row ww12 ww12.heap.size (.slice A3 X.length c3) X.length (X.flatMap rpC)) := (R_X_ww11.out.below hx).more (Below.size hx)
                have R_T_ww12 : Hid (Row ww12 ww12.heap.size (.slice (some ⟨b2, oX, none⟩) nr (cL - 1)) nr (r.flatMap baC)) := (R_T_ww11.out.below hx).more (Below.size hx)
                clear ho hx C d0 d1 HXR4 HXR5 HB_ww11 HE_ww11 R_L_ww11 R_I_ww11 R_X_ww11 R_T_ww11
                generalize (byB ⟨br, bp⟩ X).length = y at *
                have hy0 : (0 : Int) ≤ (y : Int) := by omega
                have hy5 : (y : Int) ≤ 500 := by omega
                have hwr : IntKind.i64.wrap (m + (y : Int)) = m + (y : Int) := by rw [IntKind.wrap_i64]; omega
                by_cases hmy : (M : Int) ≤ m + (y : Int)
                · have HRR : Hid (decW (N : Int) L = restP L) := by
                    show decW (N : Int) L = _
                    rw [HR0.out, HLP2.out, if_pos hmy]
                  clear HR0 HLP2 HXR6 HNR
                  go_wp2_with fail
                  have C := Lib.hid (only_is [0] L (.slice (some ⟨ww12.heap.size, 0, none⟩) 1 1) (.slice A N c) ww12.heap.size (ww12.alloc (.cells #[.int .u8 0] 5)) (by simp) (by rw [HN.out]; exact R_L_ww12.out.alloc (Nat.le_refl _) _) (Row.blk (Whole.new ww12 5 [.int .u8 0]) rfl (by simp) (by unfold maxLen; omega)) (by rw [HN.out]; exact hL))
                  go_wp2_with fail
                  refine C.out.mono ?_
                  rintro e ww13 ⟨v13, rfl, ho, hx⟩
                  have hx : Below ww12.heap.size ww12 ww13 := (be1 ww12 _).trans (hx.mono (by simp))
                  obtain ⟨A13, c13, rfl, _, _⟩ := (Row.of_own ho).slice
                  have HB_ww13 := Lib.hid (HB_ww12.out.trans (Below.mono hx (by have := HB_ww12.out.size; omega)))
                  have HE_ww13 := Lib.hid (HE_ww12.out.below hx HE_ww12.out.lt)
                  have R_L_ww13 : Hid (Row ww13 ww13.heap.size (.slice A N c) N (L.flatMap rpC)) := (R_L_ww12.out.below hx).more (Below.size hx)
                  have R_I_ww13 : Hid (Row ww13 ww13.heap.size (.slice A2 I.length c2) I.length (I.flatMap rpC)) := (R_I_ww12.out.below hx).more (Below.size hx)
                  clear ho hx C HB_ww12 HE_ww12 R_L_ww12 R_I_ww12
                  by_cases h0 : 0 < (only [0] L).length
                  · have HR : Hid (decW (N : Int) L = (0, zeroEn, 0)) := by
                      show decW (N : Int) L = _
                      rw [HRR.out, restP, if_pos h0]
                    generalize (only [0] L).length = q at *
                    have hec := HE_ww13.out
                    have e0 := hec.cell 0; have f0 := hec.free 0; have e1 := hec.cell 1; have f1 := hec.free 1; have e2 := hec.cell 2; have f2 := hec.free 2; have e3 := hec.cell 3; have f3 := hec.free 3; have e4 := hec.cell 4; have f4 := hec.free 4; have e5 := hec.cell 5; have f5 := hec.free 5; have e6 := hec.cell 6; have f6 := hec.free 6
                    simp only [List.getElem?_cons_zero, List.getElem?_cons_succ] at e0 e1 e2 e3 e4 e5 e6
                    clear hec
                    have h0i : (0 : Int) < (q : Int) := by omega
                    go_wp2_with fail
                    rw [Exit.noGoto_ret]
                    exact bodyPost_ret (results_en3 rfl _ _ w.heap.size (zeroEn) rfl ((((((((HE_ww13.out.set 0 _).set 1 _).set 2 _).set 3 _).set 4 _).set 5 _).set 6 _))) rfl ⟨by rw [HR.out]; rfl, (Below.setCell (p := ⟨w.heap.size, 6, none⟩) (Below.setCell (p := ⟨w.heap.size, 5, none⟩) (Below.setCell (p := ⟨w.heap.size, 4, none⟩) (Below.setCell (p := ⟨w.heap.size, 3, none⟩) (Below.setCell (p := ⟨w.heap.size, 2, none⟩) (Below.setCell (p := ⟨w.heap.size, 1, none⟩) (Below.setCell (p := ⟨w.heap.size, 0, none⟩) HB_ww13.out (by simp) _) (by simp) _) (by simp) _) (by simp) _) (by simp) _) (by simp) _) (by simp) _)⟩
                  · have HR1 : Hid (decW (N : Int) L = match ballots I with
                        | [] => (1, noopEn, 0)
                        | b :: _ => (2, firstE b I, 0)) := by
                      show decW (N : Int) L = _
                      rw [HRR.out, restP, if_neg h0, HI.out]
                      rfl
                    have h0n : (only [0] L).length = 0 := by omega
                    rw [h0n]
                    clear h0 h0n HRR
                    have C := Lib.hid (ballots_is I (.slice A2 I.length c2) ww13.heap.size ww13 (Nat.le_refl _) R_I_ww13.out hI5)
                    go_wp2_with fail
                    refine C.out.mono ?_
                    rintro e ww14 ⟨vE, rfl, ho, hx⟩
                    obtain ⟨AE, cE, rfl, _, _⟩ := (Row.of_own ho).slice
                    have hrE := Row.of_own ho
                    have HB_ww14 := Lib.hid (HB_ww13.out.trans (Below.mono hx (by have := HB_ww13.out.size; omega)))
                    have HE_ww14 := Lib.hid (HE_ww13.out.below hx HE_ww13.out.lt)
                    have R_L_ww14 : Hid (Row ww14 ww14.heap.size (.slice A N c) N (L.flatMap rpC)) := (R_L_ww13.out.below hx).more (Below.size hx)
                    have R_I_ww14 : Hid (Row ww14 ww14.heap.size (.slice A2 I.length c2) I.length (I.flatMap rpC)) := (R_I_ww13.out.below hx).more (Below.size hx)
                    clear ho hx C HB_ww13 HE_ww13 R_L_ww13 R_I_ww13
                    cases hE : ballots I with
                    | nil =>
                      rw [hE] at HR1
                      have hn0 : (ballots I).length = 0 := by rw [hE]; rfl
                      simp only [List.length_nil]
                      clear hrE hE hn0
                      go_wp2_with fail
                      refine wp_loop_rounds 1 ?_
                      rw [rounds_succ]
                      go_wp2_with fail
                      have HR : Hid (decW (N : Int) L = (1, noopEn, 0)) := by
                        show decW (N : Int) L = _
                        rw [HR1.out]
                      have C := Lib.hid (noop_is ww14)
                      refine C.out.mono ?_
                      rintro e ww15 ⟨rfl, hx⟩
                      have HB_ww15 := Lib.hid (HB_ww14.out.trans (Below.mono hx (by have := HB_ww14.out.size; omega)))
                      have HE_ww15 := Lib.hid (HE_ww14.out.below hx HE_ww14.out.lt)
                      have R_L_ww15 : Hid (Row ww15 ww15.heap.size (.slice A N c) N (L.flatMap rpC)) := (R_L_ww14.out.below hx).more (Below.size hx)
                      have R_I_ww15 : Hid (Row ww15 ww15.heap.size (.slice A2 I.length c2) I.length (I.flatMap rpC)) := (R_I_ww14.out.below hx).more (Below.size hx)
                      clear hx C HB_ww14 HE_ww14 R_L_ww14 R_I_ww14
                      have hec := HE_ww15.out
                      have e0 := hec.cell 0; have f0 := hec.free 0; have e1 := hec.cell 1; have f1 := hec.free 1; have e2 := hec.cell 2; have f2 := hec.free 2; have e3 := hec.cell 3; have f3 := hec.free 3; have e4 := hec.cell 4; have f4 := hec.free 4; have e5 := hec.cell 5; have f5 := hec.free 5; have e6 := hec.cell 6; have f6 := hec.free 6
                      simp only [List.getElem?_cons_zero, List.getElem?_cons_succ] at e0 e1 e2 e3 e4 e5 e6
                      clear hec
                      simp only [enC, noopEn, noStr]
                      go_wp2_with fail
                      rw [Exit.noGoto_ret]
                      exact bodyPost_ret (results_en3 rfl _ _ w.heap.size (noopEn) rfl ((((((((HE_ww15.out.set 0 _).set 1 _).set 2 _).set 3 _).set 4 _).set 5 _).set 6 _))) rfl ⟨by rw [HR.out]; rfl, (Below.setCell (p := ⟨w.heap.size, 6, none⟩) (Below.setCell (p := ⟨w.heap.size, 5, none⟩) (Below.setCell (p := ⟨w.heap.size, 4, none⟩) (Below.setCell (p := ⟨w.heap.size, 3, none⟩) (Below.setCell (p := ⟨w.heap.size, 2, none⟩) (Below.setCell (p := ⟨w.heap.size, 1, none⟩) (Below.setCell (p := ⟨w.heap.size, 0, none⟩) HB_ww15.out (by simp) _) (by simp) _) (by simp) _) (by simp) _) (by simp) _) (by simp) _) (by simp) _)⟩
                    | cons b r =>
                      rw [hE] at HR1 hrE
                      have hbd2 := hrE.bound
                      obtain ⟨b2, o2, rfl, hb2, hx2⟩ := hrE.elem baC_len (by omega) (k := 0) (by simp)
                      simp only [List.getElem_cons_zero, Nat.zero_mul, Nat.add_zero] at hx2
                      obtain ⟨br, bp⟩ := b
                      have q0 := hx2 0 _ rfl
                      have q1 := hx2 1 _ rfl
                      simp only [Nat.add_zero, Nat.zero_add] at q0 q1
                      have hlen : (0 : Int) < (((⟨br, bp⟩ : Ba) :: r).length : Int) := by simp
                      generalize ((⟨br, bp⟩ : Ba) :: r).length = QN at *
                      clear hrE hx2 hE
                      obtain ⟨ww16, huB⟩ : ∃ u : World, u = ww14.alloc (.cells #[.int .i64 br, .int .i64 bp] 27) := ⟨_, rfl⟩
                      have hx : Below ww14.heap.size ww14 ww16 := by rw [huB]; exact be1 ww14 _
                      have BX_ww16 : Hid (Whole ww16 ww14.heap.size 27 [.int .i64 br, .int .i64 bp]) := by rw [huB]; exact Whole.new ww14 _ _
                      have HB_ww16 := Lib.hid (HB_ww14.out.trans (Below.mono hx (by have := HB_ww14.out.size; omega)))
                      have HE_ww16 := Lib.hid (HE_ww14.out.below hx HE_ww14.out.lt)
                      have R_L_ww16 : Hid (Row ww16 ww16.heap.size (.slice A N c) N (L.flatMap rpC)) := (R_L_ww14.out.below hx).more (Below.size hx)
                      have R_I_ww16 : Hid (Row ww16 ww16.heap.size (.slice A2 I.length c2) I.length (I.flatMap rpC)) := (R_I_ww14.out.below hx).more (Below.size hx)
                      clear hx HB_ww14 HE_ww14 R_L_ww14 R_I_ww14
                      have C := first_is ⟨br, bp⟩ I (.slice A2 I.length c2) ww16.heap.size ww16 (Nat.le_refl _) R_I_ww16.out hI5
                      simp only [baC] at C
                      obtain ⟨xe, hxe⟩ : ∃ xe, firstE ⟨br, bp⟩ I = xe := ⟨_, rfl⟩
                      rw [hxe] at C
                      obtain ⟨ek, ec, eq, ⟨ok, oa, ob, oc⟩⟩ := xe
                      simp only [enC] at C
                      have C := Lib.hid C
                      have HR : Hid (decW (N : Int) L = (2, ⟨ek, ec, eq, ⟨ok, oa, ob, oc⟩⟩, 0)) := by
                        show decW (N : Int) L = _
                        rw [HR1.out]
                        show (2, firstE ⟨br, bp⟩ I, (0 : Int)) = _
                        rw [hxe]
                      clear hxe HR1
                      have hbx := BX_ww16.out
                      have c0 := hbx.cell 0; have c1 := hbx.cell 1
                      simp only [List.getElem?_cons_zero, List.getElem?_cons_succ] at c0 c1
                      clear hbx BX_ww16
                      go_wp2_with fail
                      refine wp_loop_rounds 1 ?_
                      rw [rounds_succ]
                      go_wp2_with fail
                      rw [← huB]
                      clear huB
                      go_wp2_with fail
                      refine C.out.mono ?_
                      rintro e ww17 ⟨rfl, hx⟩
                      have HB_ww17 := Lib.hid (HB_ww16.out.trans (Below.mono hx (by have := HB_ww16.out.size; omega)))
                      have HE_ww17 := Lib.hid (HE_ww16.out.below hx HE_ww16.out.lt)
                      have R_L_ww17 : Hid (Row ww17 ww17.heap.size (.slice A N c) N (L.flatMap rpC)) := (R_L_ww16.out.below hx).more (Below.size hx)
                      have R_I_ww17 : Hid (Row ww17 ww17.heap.size (.slice A2 I.length c2) I.length (I.flatMap rpC)) := (R_I_ww16.out.below hx).more (Below.size hx)
                      clear hx C q0 q1 c0 c1 HB_ww16 HE_ww16 R_L_ww16 R_I_ww16
                      obtain ⟨ww18, huD⟩ : ∃ u : World, u = ww17.alloc (.cells #[.int .u8 (ek : Nat), .int .i64 ec, .int .i64 eq, .int .u8 (ok : Nat), .string oa, .string ob, .string oc] 31) := ⟨_, rfl⟩
                      have hx : Below ww17.heap.size ww17 ww18 := by rw [huD]; exact be1 ww17 _
                      have EX : Hid (Whole ww18 ww17.heap.size 31 [.int .u8 (ek : Nat), .int .i64 ec, .int .i64 eq, .int .u8 (ok : Nat), .string oa, .string ob, .string oc]) := by rw [huD]; exact Whole.new ww17 _ _
                      have HB_ww18 := Lib.hid (HB_ww17.out.trans (Below.mono hx (by have := HB_ww17.out.size; omega)))
                      have HE_ww18 := Lib.hid (HE_ww17.out.below hx HE_ww17.out.lt)
                      have R_L_ww18 : Hid (Row ww18 ww18.heap.size (.slice A N c) N (L.flatMap rpC)) := (R_L_ww17.out.below hx).more (Below.size hx)
                      have R_I_ww18 : Hid (Row ww18 ww18.heap.size (.slice A2 I.length c2) I.length (I.flatMap rpC)) := (R_I_ww17.out.below hx).more (Below.size hx)
                      go_wp2_with fail
                      rw [← huD]
                      clear hx huD HB_ww17 HE_ww17 R_L_ww17 R_I_ww17 
                      have hex := EX.out
                      have g0 := hex.cell 0; have g1 := hex.cell 1; have g2 := hex.cell 2; have g3 := hex.cell 3; have g4 := hex.cell 4; have g5 := hex.cell 5; have g6 := hex.cell 6
                      simp only [List.getElem?_cons_zero, List.getElem?_cons_succ] at g0 g1 g2 g3 g4 g5 g6
                      clear hex
                      have hec := HE_ww18.out
                      have e0 := hec.cell 0; have f0 := hec.free 0; have e1 := hec.cell 1; have f1 := hec.free 1; have e2 := hec.cell 2; have f2 := hec.free 2; have e3 := hec.cell 3; have f3 := hec.free 3; have e4 := hec.cell 4; have f4 := hec.free 4; have e5 := hec.cell 5; have f5 := hec.free 5; have e6 := hec.cell 6; have f6 := hec.free 6
                      simp only [List.getElem?_cons_zero, List.getElem?_cons_succ] at e0 e1 e2 e3 e4 e5 e6
                      clear hec
                      go_wp2_with fail
                      refine wp_region_held_drew (S := (fun _ : World => True)) (by kernel_rfl) (trivial) (fun HS => ?_)
                      refine handTake 1 (some 4) ?_ rfl rfl (by kernel_rfl) (by kernel_rfl) (by kernel_rfl) (fun _ _ _ h => h) (by rfl) ?_ HS ?_
                      rotate_left
                      · (intro u hu; (try dsimp only at hu); go_simp; try with_reducible rfl)
                      simp only [Act.put, List.setIfInBounds_toArray, List.set_cons_zero, List.set_cons_succ]
                      refine wpAnyH_ready (rs := [0]) (by kernel_rfl) (by simp) ?_
                      refine AllReadyH.cons rfl (fun K hK => ?_) AllReadyH.nil
                      clear HS
                      go_simp
                      refine hK.out _ _ (trivial) (fun HS => ?_)
                      clear hK
                      try simp only [Act.put, List.setIfInBounds_toArray, List.set_cons_zero, List.set_cons_succ]
                      refine wpAnyH_ready (rs := [2]) (by kernel_rfl) (by simp) ?_
                      refine AllReadyH.cons rfl (fun K hK => ?_) AllReadyH.nil
                      clear HS
                      go_simp
                      refine hK.out _ _ (trivial) (fun HS => ?_)
                      clear hK
                      try simp only [Act.put, List.setIfInBounds_toArray, List.set_cons_zero, List.set_cons_succ]
                      refine handTake 3 (some 6) ?_ rfl rfl (by kernel_rfl) (by kernel_rfl) (by kernel_rfl) (fun _ _ _ h => h) (by rfl) ?_ HS ?_
                      rotate_left
                      · (intro u hu; (try dsimp only at hu); go_simp; try with_reducible rfl)
                      simp only [Act.put, List.setIfInBounds_toArray, List.set_cons_zero, List.set_cons_succ]
                      refine wpAnyH_done (by kernel_rfl) ?_ _
                      clear HS
                      go_wp2_with fail
                      rw [Exit.noGoto_ret]
                      exact bodyPost_ret (results_en3 rfl _ _ w.heap.size ((⟨ek, ec, eq, ⟨ok, oa, ob, oc⟩⟩ : En)) rfl ((((((((HE_ww18.out.set 0 _).set 1 _).set 2 _).set 3 _).set 4 _).set 5 _).set 6 _).drew)) rfl ⟨by rw [HR.out]; rfl, (Below.setCell (p := ⟨w.heap.size, 6, none⟩) (Below.setCell (p := ⟨w.heap.size, 5, none⟩) (Below.setCell (p := ⟨w.heap.size, 4, none⟩) (Below.setCell (p := ⟨w.heap.size, 3, none⟩) (Below.setCell (p := ⟨w.heap.size, 2, none⟩) (Below.setCell (p := ⟨w.heap.size, 1, none⟩) (Below.setCell (p := ⟨w.heap.size, 0, none⟩) HB_ww18.out (by simp) _) (by simp) _) (by simp) _) (by simp) _) (by simp) _) (by simp) _) (by simp) _).drew⟩
                · go_wp2_with fail
                  go_roundw
                  case rel =>
                    refine ⟨m + (y : Int), r, by go_num, by omega, by rw [HNR.out]; omega, ?_, ?_, HXR6.out⟩
                    · rw [HLP2.out, if_neg (by omega)]
                    · rw [HNR.out]; exact R_T_ww12.out
                  case measure => have := HNR.out; simp [lenOf]; omega
              · rw [hfb] at C
                obtain ⟨xe, hxe⟩ : ∃ xe, firstE ⟨br, bp⟩ I = xe := ⟨_, rfl⟩
                rw [hxe] at C
                obtain ⟨ek, ec, eq, ⟨ok, oa, ob, oc⟩⟩ := xe
                simp only [enC] at C
                have C := Lib.hid C
                have HR : Hid (decW (N : Int) L = (2, ⟨ek, ec, eq, ⟨ok, oa, ob, oc⟩⟩, 0)) := by
                  show decW (N : Int) L = _
                  rw [HR0.out, ← HLP.out, loopP_cons, hfb, hxe]; rfl
                clear hxe hfb BX_ww9
                go_wp2_with fail
                rw [← huB]
                clear huB
                go_wp2_with fail
                refine C.out.mono ?_
                rintro e ww10 ⟨rfl, hx⟩
                have HB_ww10 := Lib.hid (HB_ww9.out.trans (Below.mono hx (by have := HB_ww9.out.size; omega)))
                have HE_ww10 := Lib.hid (HE_ww9.out.below hx HE_ww9.out.lt)
                have R_L_ww10 : Hid (Row ww10 ww10.heap.size (.slice A N c) N (L.flatMap rpC)) := (R_L_ww9.out.below hx).more (Below.size hx)
                have R_I_ww10 : Hid (Row ww10 ww10.heap.size (.slice A2 I.length c2) I.length (I.flatMap rpC)) := (R_I_ww9.out.below hx).more (Below.size hx)
                have R_X_ww10 : Hid (Row ww10 ww10.heap.size (.slice A3 X.length c3) X.length (X.flatMap rpC)) := (R_X_ww9.out.below hx).more (Below.size hx)
                have R_T_ww10 : Hid (Row ww10 ww10.heap.size (.slice (some ⟨b2, oX, none⟩) nr (cL - 1)) nr (r.flatMap baC)) := (R_T_ww9.out.below hx).more (Below.size hx)
                clear hx C q0 q1 c0 c1 HXR3 HB_ww9 HE_ww9 R_L_ww9 R_I_ww9 R_X_ww9 R_T_ww9
                obtain ⟨ww11, huD⟩ : ∃ u : World, u = ww10.alloc (.cells #[.int .u8 (ek : Nat), .int .i64 ec, .int .i64 eq, .int .u8 (ok : Nat), .string oa, .string ob, .string oc] 31) := ⟨_, rfl⟩
                have hx : Below ww10.heap.size ww10 ww11 := by rw [huD]; exact be1 ww10 _
                have EX : Hid (Whole ww11 ww10.heap.size 31 [.int .u8 (ek : Nat), .int .i64 ec, .int .i64 eq, .int .u8 (ok : Nat), .string oa, .string ob, .string oc]) := by rw [huD]; exact Whole.new ww10 _ _
                have HB_ww11 := Lib.hid (HB_ww10.out.trans (Below.mono hx (by have := HB_ww10.out.size; omega)))
                have HE_ww11 := Lib.hid (HE_ww10.out.below hx HE_ww10.out.lt)
                have R_L_ww11 : Hid (Row ww11 ww11.heap.size (.slice A N c) N (L.flatMap rpC)) := (R_L_ww10.out.below hx).more (Below.size hx)
                have R_I_ww11 : Hid (Row ww11 ww11.heap.size (.slice A2 I.length c2) I.length (I.flatMap rpC)) := (R_I_ww10.out.below hx).more (Below.size hx)
                have R_X_ww11 : Hid (Row ww11 ww11.heap.size (.slice A3 X.length c3) X.length (X.flatMap rpC)) := (R_X_ww10.out.below hx).more (Below.size hx)
                have R_T_ww11 : Hid (Row ww11 ww11.heap.size (.slice (some ⟨b2, oX, none⟩) nr (cL - 1)) nr (r.flatMap baC)) := (R_T_ww10.out.below hx).more (Below.size hx)
                go_wp2_with fail
                rw [← huD]
                clear hx huD HB_ww10 HE_ww10 R_L_ww10 R_I_ww10 R_X_ww10 R_T_ww10 
                have hex := EX.out
                have g0 := hex.cell 0; have g1 := hex.cell 1; have g2 := hex.cell 2; have g3 := hex.cell 3; have g4 := hex.cell 4; have g5 := hex.cell 5; have g6 := hex.cell 6
                simp only [List.getElem?_cons_zero, List.getElem?_cons_succ] at g0 g1 g2 g3 g4 g5 g6
                clear hex
                have hec := HE_ww11.out
                have e0 := hec.cell 0; have f0 := hec.free 0; have e1 := hec.cell 1; have f1 := hec.free 1; have e2 := hec.cell 2; have f2 := hec.free 2; have e3 := hec.cell 3; have f3 := hec.free 3; have e4 := hec.cell 4; have f4 := hec.free 4; have e5 := hec.cell 5; have f5 := hec.free 5; have e6 := hec.cell 6; have f6 := hec.free 6
                simp only [List.getElem?_cons_zero, List.getElem?_cons_succ] at e0 e1 e2 e3 e4 e5 e6
                clear hec
                go_wp2_with fail
                refine wp_region_held_drew (S := (fun _ : World => True)) (by kernel_rfl) (trivial) (fun HS => ?_)
                refine handTake 1 (some 4) ?_ rfl rfl (by kernel_rfl) (by kernel_rfl) (by kernel_rfl) (fun _ _ _ h => h) (by rfl) ?_ HS ?_
                rotate_left
                · (intro u hu; (try dsimp only at hu); go_simp; try with_reducible rfl)
                simp only [Act.put, List.setIfInBounds_toArray, List.set_cons_zero, List.set_cons_succ]
                refine wpAnyH_ready (rs := [0]) (by kernel_rfl) (by simp) ?_
                refine AllReadyH.cons rfl (fun K hK => ?_) AllReadyH.nil
                clear HS
                go_simp
                refine hK.out _ _ (trivial) (fun HS => ?_)
                clear hK
                try simp only [Act.put, List.setIfInBounds_toArray, List.set_cons_zero, List.set_cons_succ]
                refine wpAnyH_ready (rs := [2]) (by kernel_rfl) (by simp) ?_
                refine AllReadyH.cons rfl (fun K hK => ?_) AllReadyH.nil
                clear HS
                go_simp
                refine hK.out _ _ (trivial) (fun HS => ?_)
                clear hK
                try simp only [Act.put, List.setIfInBounds_toArray, List.set_cons_zero, List.set_cons_succ]
                refine handTake 3 (some 6) ?_ rfl rfl (by kernel_rfl) (by kernel_rfl) (by kernel_rfl) (fun _ _ _ h => h) (by rfl) ?_ HS ?_
                rotate_left
                · (intro u hu; (try dsimp only at hu); go_simp; try with_reducible rfl)
                simp only [Act.put, List.setIfInBounds_toArray, List.set_cons_zero, List.set_cons_succ]
                refine wpAnyH_done (by kernel_rfl) ?_ _
                clear HS
                go_wp2_with fail
                rw [Exit.noGoto_ret]
                exact bodyPost_ret (results_en3 rfl _ _ w.heap.size ((⟨ek, ec, eq, ⟨ok, oa, ob, oc⟩⟩ : En)) rfl ((((((((HE_ww11.out.set 0 _).set 1 _).set 2 _).set 3 _).set 4 _).set 5 _).set 6 _).drew)) rfl ⟨by rw [HR.out]; rfl, (Below.setCell (p := ⟨w.heap.size, 6, none⟩) (Below.setCell (p := ⟨w.heap.size, 5, none⟩) (Below.setCell (p := ⟨w.heap.size, 4, none⟩) (Below.setCell (p := ⟨w.heap.size, 3, none⟩) (Below.setCell (p := ⟨w.heap.size, 2, none⟩) (Below.setCell (p := ⟨w.heap.size, 1, none⟩) (Below.setCell (p := ⟨w.heap.size, 0, none⟩) HB_ww11.out (by simp) _) (by simp) _) (by simp) _) (by simp) _) (by simp) _) (by simp) _) (by simp) _).drew⟩
        · have HRR : Hid (decW (N : Int) L = restP L) := by
            show decW (N : Int) L = _
            rw [HD2.out, if_neg hk0]
          clear HD2
          refine wp_loop_rounds 1 ?_
          rw [rounds_succ]
          go_wp2_with fail
          have C := Lib.hid (only_is [0, 4] L (.slice (some ⟨ww6.heap.size, 0, none⟩) 2 2) (.slice A N c) ww6.heap.size (ww6.alloc (.cells #[.int .u8 0, .int .u8 4] 5)) (by simp) (by rw [HN.out]; exact R_L_ww6.out.alloc (Nat.le_refl _) _) (Row.blk (Whole.new ww6 5 [.int .u8 0, .int .u8 4]) rfl (by simp) (by unfold maxLen; omega)) (by rw [HN.out]; exact hL))
          refine C.out.mono ?_
          rintro e ww19 ⟨v19, rfl, ho, hx⟩
          have hx : Below ww6.heap.size ww6 ww19 := (be1 ww6 _).trans (hx.mono (by simp))
          obtain ⟨A19, c19, rfl, _, _⟩ := (Row.of_own ho).slice
          have HB_ww19 := Lib.hid (HB_ww6.out.trans (Below.mono hx (by have := HB_ww6.out.size; omega)))
          have HE_ww19 := Lib.hid (HE_ww6.out.below hx HE_ww6.out.lt)
          have R_L_ww19 : Hid (Row ww19 ww19.heap.size (.slice A N c) N (L.flatMap rpC)) := (R_L_ww6.out.below hx).more (Below.size hx)
          have R_I_ww19 : Hid (Row ww19 ww19.heap.size (.slice A2 I.length c2) I.length (I.flatMap rpC)) := (R_I_ww6.out.below hx).more (Below.size hx)
          have R_X_ww19 : Hid (Row ww19 ww19.heap.size (.slice A3 X.length c3) X.length (X.flatMap rpC)) := (R_X_ww6.out.below hx).more (Below.size hx)
          have R_D_ww19 : Hid (Row ww19 ww19.heap.size (.slice AD D0.length cD) D0.length (D0.flatMap baC)) := (R_D_ww6.out.below hx).more (Below.size hx)
          clear ho hx C HB_ww6 HE_ww6 R_L_ww6 R_I_ww6 R_X_ww6 R_D_ww6
          rw [HM0.out]
          go_wp2_with fail
          have C := Lib.hid (only_is [0] L (.slice (some ⟨ww19.heap.size, 0, none⟩) 1 1) (.slice A N c) ww19.heap.size (ww19.alloc (.cells #[.int .u8 0] 5)) (by simp) (by rw [HN.out]; exact R_L_ww19.out.alloc (Nat.le_refl _) _) (Row.blk (Whole.new ww19 5 [.int .u8 0]) rfl (by simp) (by unfold maxLen; omega)) (by rw [HN.out]; exact hL))
          go_wp2_with fail
          refine C.out.mono ?_
          rintro e ww20 ⟨v20, rfl, ho, hx⟩
          have hx : Below ww19.heap.size ww19 ww20 := (be1 ww19 _).trans (hx.mono (by simp))
          obtain ⟨A20, c20, rfl, _, _⟩ := (Row.of_own ho).slice
          have HB_ww20 := Lib.hid (HB_ww19.out.trans (Below.mono hx (by have := HB_ww19.out.size; omega)))
          have HE_ww20 := Lib.hid (HE_ww19.out.below hx HE_ww19.out.lt)
          have R_L_ww20 : Hid (Row ww20 ww20.heap.size (.slice A N c) N (L.flatMap rpC)) := (R_L_ww19.out.below hx).more (Below.size hx)
          have R_I_ww20 : Hid (Row ww20 ww20.heap.size (.slice A2 I.length c2) I.length (I.flatMap rpC)) := (R_I_ww19.out.below hx).more (Below.size hx)
          clear ho hx C HB_ww19 HE_ww19 R_L_ww19 R_I_ww19
          by_cases h0 : 0 < (only [0] L).length
          · have HR : Hid (decW (N : Int) L = (0, zeroEn, 0)) := by
              show decW (N : Int) L = _
              rw [HRR.out, restP, if_pos h0]
            generalize (only [0] L).length = q at *
            have hec := HE_ww20.out
            have e0 := hec.cell 0; have f0 := hec.free 0; have e1 := hec.cell 1; have f1 := hec.free 1; have e2 := hec.cell 2; have f2 := hec.free 2; have e3 := hec.cell 3; have f3 := hec.free 3; have e4 := hec.cell 4; have f4 := hec.free 4; have e5 := hec.cell 5; have f5 := hec.free 5; have e6 := hec.cell 6; have f6 := hec.free 6
            simp only [List.getElem?_cons_zero, List.getElem?_cons_succ] at e0 e1 e2 e3 e4 e5 e6
            clear hec
            have h0i : (0 : Int) < (q : Int) := by omega
            go_wp2_with fail
            rw [Exit.noGoto_ret]
            exact bodyPost_ret (results_en3 rfl _ _ w.heap.size (zeroEn) rfl ((((((((HE_ww20.out.set 0 _).set 1 _).set 2 _).set 3 _).set 4 _).set 5 _).set 6 _))) rfl ⟨by rw [HR.out]; rfl, (Below.setCell (p := ⟨w.heap.size, 6, none⟩) (Below.setCell (p := ⟨w.heap.size, 5, none⟩) (Below.setCell (p := ⟨w.heap.size, 4, none⟩) (Below.setCell (p := ⟨w.heap.size, 3, none⟩) (Below.setCell (p := ⟨w.heap.size, 2, none⟩) (Below.setCell (p := ⟨w.heap.size, 1, none⟩) (Below.setCell (p := ⟨w.heap.size, 0, none⟩) HB_ww20.out (by simp) _) (by simp) _) (by simp) _) (by simp) _) (by simp) _) (by simp) _) (by simp) _)⟩
          · have HR1 : Hid (decW (N : Int) L = match ballots I with
                | [] => (1, noopEn, 0)
                | b :: _ => (2, firstE b I, 0)) := by
              show decW (N : Int) L = _
              rw [HRR.out, restP, if_neg h0, HI.out]
              rfl
            have h0n : (only [0] L).length = 0 := by omega
            rw [h0n]
            clear h0 h0n HRR
            have C := Lib.hid (ballots_is I (.slice A2 I.length c2) ww20.heap.size ww20 (Nat.le_refl _) R_I_ww20.out hI5)
            go_wp2_with fail
            refine C.out.mono ?_
            rintro e ww21 ⟨vE, rfl, ho, hx⟩
            obtain ⟨AE, cE, rfl, _, _⟩ := (Row.of_own ho).slice
            have hrE := Row.of_own ho
            have HB_ww21 := Lib.hid (HB_ww20.out.trans (Below.mono hx (by have := HB_ww20.out.size; omega)))
            have HE_ww21 := Lib.hid (HE_ww20.out.below hx HE_ww20.out.lt)
            have R_L_ww21 : Hid (Row ww21 ww21.heap.size (.slice A N c) N (L.flatMap rpC)) := (R_L_ww20.out.below hx).more (Below.size hx)
            have R_I_ww21 : Hid (Row ww21 ww21.heap.size (.slice A2 I.length c2) I.length (I.flatMap rpC)) := (R_I_ww20.out.below hx).more (Below.size hx)
            clear ho hx C HB_ww20 HE_ww20 R_L_ww20 R_I_ww20
            cases hE : ballots I with
            | nil =>
              rw [hE] at HR1
              have hn0 : (ballots I).length = 0 := by rw [hE]; rfl
              simp only [List.length_nil]
              clear hrE hE hn0
              go_wp2_with fail
              refine wp_loop_rounds 1 ?_
              rw [rounds_succ]
              go_wp2_with fail
              have HR : Hid (decW (N : Int) L = (1, noopEn, 0)) := by
                show decW (N : Int) L = _
                rw [HR1.out]
              have C := Lib.hid (noop_is ww21)
              refine C.out.mono ?_
              rintro e ww22 ⟨rfl, hx⟩
              have HB_ww22 := Lib.hid (HB_ww21.out.trans (Below.mono hx (by have := HB_ww21.out.size; omega)))
              have HE_ww22 := Lib.hid (HE_ww21.out.below hx HE_ww21.out.lt)
              have R_L_ww22 : Hid (Row ww22 ww22.heap.size (.slice A N c) N (L.flatMap rpC)) := (R_L_ww21.out.below hx).more (Below.size hx)
              have R_I_ww22 : Hid (Row ww22 ww22.heap.size (.slice A2 I.length c2) I.length (I.flatMap rpC)) := (R_I_ww21.out.below hx).more (Below.size hx)
              clear hx C HB_ww21 HE_ww21 R_L_ww21 R_I_ww21
              have hec := HE_ww22.out
              have e0 := hec.cell 0; have f0 := hec.free 0; have e1 := hec.cell 1; have f1 := hec.free 1; have e2 := hec.cell 2; have f2 := hec.free 2; have e3 := hec.cell 3; have f3 := hec.free 3; have e4 := hec.cell 4; have f4 := hec.free 4; have e5 := hec.cell 5; have f5 := hec.free 5; have e6 := hec.cell 6; have f6 := hec.free 6
              simp only [List.getElem?_cons_zero, List.getElem?_cons_succ] at e0 e1 e2 e3 e4 e5 e6
              clear hec
              simp only [enC, noopEn, noStr]
              go_wp2_with fail
              rw [Exit.noGoto_ret]
              exact bodyPost_ret (results_en3 rfl _ _ w.heap.size (noopEn) rfl ((((((((HE_ww22.out.set 0 _).set 1 _).set 2 _).set 3 _).set 4 _).set 5 _).set 6 _))) rfl ⟨by rw [HR.out]; rfl, (Below.setCell (p := ⟨w.heap.size, 6, none⟩) (Below.setCell (p := ⟨w.heap.size, 5, none⟩) (Below.setCell (p := ⟨w.heap.size, 4, none⟩) (Below.setCell (p := ⟨w.heap.size, 3, none⟩) (Below.setCell (p := ⟨w.heap.size, 2, none⟩) (Below.setCell (p := ⟨w.heap.size, 1, none⟩) (Below.setCell (p := ⟨w.heap.size, 0, none⟩) HB_ww22.out (by simp) _) (by simp) _) (by simp) _) (by simp) _) (by simp) _) (by simp) _) (by simp) _)⟩
            | cons b r =>
              rw [hE] at HR1 hrE
              have hbd2 := hrE.bound
              obtain ⟨b2, o2, rfl, hb2, hx2⟩ := hrE.elem baC_len (by omega) (k := 0) (by simp)
              simp only [List.getElem_cons_zero, Nat.zero_mul, Nat.add_zero] at hx2
              obtain ⟨br, bp⟩ := b
              have q0 := hx2 0 _ rfl
              have q1 := hx2 1 _ rfl
              simp only [Nat.add_zero, Nat.zero_add] at q0 q1
              have hlen : (0 : Int) < (((⟨br, bp⟩ : Ba) :: r).length : Int) := by simp
              generalize ((⟨br, bp⟩ : Ba) :: r).length = QN at *
              clear hrE hx2 hE
              obtain ⟨ww23, huB⟩ : ∃ u : World, u = ww21.alloc (.cells #[.int .i64 br, .int .i64 bp] 27) := ⟨_, rfl⟩
              have hx : Below ww21.heap.size ww21 ww23 := by rw [huB]; exact be1 ww21 _
              have BX_ww23 : Hid (Whole ww23 ww21.heap.size 27 [.int .i64 br, .int .i64 bp]) := by rw [huB]; exact Whole.new ww21 _ _
              have HB_ww23 := Lib.hid (HB_ww21.out.trans (Below.mono hx (by have := HB_ww21.out.size; omega)))
              have HE_ww23 := Lib.hid (HE_ww21.out.below hx HE_ww21.out.lt)
              have R_L_ww23 : Hid (Row ww23 ww23.heap.size (.slice A N c) N (L.flatMap rpC)) := (R_L_ww21.out.below hx).more (Below.size hx)
              have R_I_ww23 : Hid (Row ww23 ww23.heap.size (.slice A2 I.length c2) I.length (I.flatMap rpC)) := (R_I_ww21.out.below hx).more (Below.size hx)
              clear hx HB_ww21 HE_ww21 R_L_ww21 R_I_ww21
              have C := first_is ⟨br, bp⟩ I (.slice A2 I.length c2) ww23.heap.size ww23 (Nat.le_refl _) R_I_ww23.out hI5
              simp only [baC] at C
              obtain ⟨xe, hxe⟩ : ∃ xe, firstE ⟨br, bp⟩ I = xe := ⟨_, rfl⟩
              rw [hxe] at C
              obtain ⟨ek, ec, eq, ⟨ok, oa, ob, oc⟩⟩ := xe
              simp only [enC] at C
              have C := Lib.hid C
              have HR : Hid (decW (N : Int) L = (2, ⟨ek, ec, eq, ⟨ok, oa, ob, oc⟩⟩, 0)) := by
                show decW (N : Int) L = _
                rw [HR1.out]
                show (2, firstE ⟨br, bp⟩ I, (0 : Int)) = _
                rw [hxe]
              clear hxe HR1
              have hbx := BX_ww23.out
              have c0 := hbx.cell 0; have c1 := hbx.cell 1
              simp only [List.getElem?_cons_zero, List.getElem?_cons_succ] at c0 c1
              clear hbx BX_ww23
              go_wp2_with fail
              refine wp_loop_rounds 1 ?_
              rw [rounds_succ]
              go_wp2_with fail
              rw [← huB]
              clear huB
              go_wp2_with fail
              refine C.out.mono ?_
              rintro e ww24 ⟨rfl, hx⟩
              have HB_ww24 := Lib.hid (HB_ww23.out.trans (Below.mono hx (by have := HB_ww23.out.size; omega)))
              have HE_ww24 := Lib.hid (HE_ww23.out.below hx HE_ww23.out.lt)
              have R_L_ww24 : Hid (Row ww24 ww24.heap.size (.slice A N c) N (L.flatMap rpC)) := (R_L_ww23.out.below hx).more (Below.size hx)
              have R_I_ww24 : Hid (Row ww24 ww24.heap.size (.slice A2 I.length c2) I.length (I.flatMap rpC)) := (R_I_ww23.out.below hx).more (Below.size hx)
              clear hx C q0 q1 c0 c1 HB_ww23 HE_ww23 R_L_ww23 R_I_ww23
              obtain ⟨ww25, huD⟩ : ∃ u : World, u = ww24.alloc (.cells #[.int .u8 (ek : Nat), .int .i64 ec, .int .i64 eq, .int .u8 (ok : Nat), .string oa, .string ob, .string oc] 31) := ⟨_, rfl⟩
              have hx : Below ww24.heap.size ww24 ww25 := by rw [huD]; exact be1 ww24 _
              have EX : Hid (Whole ww25 ww24.heap.size 31 [.int .u8 (ek : Nat), .int .i64 ec, .int .i64 eq, .int .u8 (ok : Nat), .string oa, .string ob, .string oc]) := by rw [huD]; exact Whole.new ww24 _ _
              have HB_ww25 := Lib.hid (HB_ww24.out.trans (Below.mono hx (by have := HB_ww24.out.size; omega)))
              have HE_ww25 := Lib.hid (HE_ww24.out.below hx HE_ww24.out.lt)
              have R_L_ww25 : Hid (Row ww25 ww25.heap.size (.slice A N c) N (L.flatMap rpC)) := (R_L_ww24.out.below hx).more (Below.size hx)
              have R_I_ww25 : Hid (Row ww25 ww25.heap.size (.slice A2 I.length c2) I.length (I.flatMap rpC)) := (R_I_ww24.out.below hx).more (Below.size hx)
              go_wp2_with fail
              rw [← huD]
              clear hx huD HB_ww24 HE_ww24 R_L_ww24 R_I_ww24 
              have hex := EX.out
              have g0 := hex.cell 0; have g1 := hex.cell 1; have g2 := hex.cell 2; have g3 := hex.cell 3; have g4 := hex.cell 4; have g5 := hex.cell 5; have g6 := hex.cell 6
              simp only [List.getElem?_cons_zero, List.getElem?_cons_succ] at g0 g1 g2 g3 g4 g5 g6
              clear hex
              have hec := HE_ww25.out
              have e0 := hec.cell 0; have f0 := hec.free 0; have e1 := hec.cell 1; have f1 := hec.free 1; have e2 := hec.cell 2; have f2 := hec.free 2; have e3 := hec.cell 3; have f3 := hec.free 3; have e4 := hec.cell 4; have f4 := hec.free 4; have e5 := hec.cell 5; have f5 := hec.free 5; have e6 := hec.cell 6; have f6 := hec.free 6
              simp only [List.getElem?_cons_zero, List.getElem?_cons_succ] at e0 e1 e2 e3 e4 e5 e6
              clear hec
              go_wp2_with fail
              refine wp_region_held_drew (S := (fun _ : World => True)) (by kernel_rfl) (trivial) (fun HS => ?_)
              refine handTake 1 (some 4) ?_ rfl rfl (by kernel_rfl) (by kernel_rfl) (by kernel_rfl) (fun _ _ _ h => h) (by rfl) ?_ HS ?_
              rotate_left
              · (intro u hu; (try dsimp only at hu); go_simp; try with_reducible rfl)
              simp only [Act.put, List.setIfInBounds_toArray, List.set_cons_zero, List.set_cons_succ]
              refine wpAnyH_ready (rs := [0]) (by kernel_rfl) (by simp) ?_
              refine AllReadyH.cons rfl (fun K hK => ?_) AllReadyH.nil
              clear HS
              go_simp
              refine hK.out _ _ (trivial) (fun HS => ?_)
              clear hK
              try simp only [Act.put, List.setIfInBounds_toArray, List.set_cons_zero, List.set_cons_succ]
              refine wpAnyH_ready (rs := [2]) (by kernel_rfl) (by simp) ?_
              refine AllReadyH.cons rfl (fun K hK => ?_) AllReadyH.nil
              clear HS
              go_simp
              refine hK.out _ _ (trivial) (fun HS => ?_)
              clear hK
              try simp only [Act.put, List.setIfInBounds_toArray, List.set_cons_zero, List.set_cons_succ]
              refine handTake 3 (some 6) ?_ rfl rfl (by kernel_rfl) (by kernel_rfl) (by kernel_rfl) (fun _ _ _ h => h) (by rfl) ?_ HS ?_
              rotate_left
              · (intro u hu; (try dsimp only at hu); go_simp; try with_reducible rfl)
              simp only [Act.put, List.setIfInBounds_toArray, List.set_cons_zero, List.set_cons_succ]
              refine wpAnyH_done (by kernel_rfl) ?_ _
              clear HS
              go_wp2_with fail
              rw [Exit.noGoto_ret]
              exact bodyPost_ret (results_en3 rfl _ _ w.heap.size ((⟨ek, ec, eq, ⟨ok, oa, ob, oc⟩⟩ : En)) rfl ((((((((HE_ww25.out.set 0 _).set 1 _).set 2 _).set 3 _).set 4 _).set 5 _).set 6 _).drew)) rfl ⟨by rw [HR.out]; rfl, (Below.setCell (p := ⟨w.heap.size, 6, none⟩) (Below.setCell (p := ⟨w.heap.size, 5, none⟩) (Below.setCell (p := ⟨w.heap.size, 4, none⟩) (Below.setCell (p := ⟨w.heap.size, 3, none⟩) (Below.setCell (p := ⟨w.heap.size, 2, none⟩) (Below.setCell (p := ⟨w.heap.size, 1, none⟩) (Below.setCell (p := ⟨w.heap.size, 0, none⟩) HB_ww25.out (by simp) _) (by simp) _) (by simp) _) (by simp) _) (by simp) _) (by simp) _) (by simp) _).drew⟩
      · have h5' : (((only [0, 1, 2, 3, 4] L).length : Int) == (N : Int)) = false := by simpa using h5
        have H5 := Lib.hid h5
        clear h5
        have HR : Hid (decW (N : Int) L = (0, zeroEn, 2)) := by
          show decW (N : Int) L = _
          rw [HDE.out, if_pos (.inr (.inr H5.out))]
        clear HDE H5
        generalize (only [0, 1, 2, 3, 4] L).length = q at *
        have hec := HE_ww1.out
        have e0 := hec.cell 0; have f0 := hec.free 0; have e1 := hec.cell 1; have f1 := hec.free 1; have e2 := hec.cell 2; have f2 := hec.free 2; have e3 := hec.cell 3; have f3 := hec.free 3; have e4 := hec.cell 4; have f4 := hec.free 4; have e5 := hec.cell 5; have f5 := hec.free 5; have e6 := hec.cell 6; have f6 := hec.free 6
        simp only [List.getElem?_cons_zero, List.getElem?_cons_succ] at e0 e1 e2 e3 e4 e5 e6
        clear hec
        go_wp2_with fail
        rw [Exit.noGoto_ret]
        exact bodyPost_ret (results_en3 rfl _ _ w.heap.size (zeroEn) rfl ((((((((HE_ww1.out.set 0 _).set 1 _).set 2 _).set 3 _).set 4 _).set 5 _).set 6 _))) rfl ⟨by rw [HR.out]; rfl, (Below.setCell (p := ⟨w.heap.size, 6, none⟩) (Below.setCell (p := ⟨w.heap.size, 5, none⟩) (Below.setCell (p := ⟨w.heap.size, 4, none⟩) (Below.setCell (p := ⟨w.heap.size, 3, none⟩) (Below.setCell (p := ⟨w.heap.size, 2, none⟩) (Below.setCell (p := ⟨w.heap.size, 1, none⟩) (Below.setCell (p := ⟨w.heap.size, 0, none⟩) HB_ww1.out (by simp) _) (by simp) _) (by simp) _) (by simp) _) (by simp) _) (by simp) _) (by simp) _)⟩
    · have hn' : ((L.length : Int) == n) = false := by simpa using hn
      have hn'' : ((L.length : Int) != n) = true := by simpa using hn
      have HNN := Lib.hid hn
      have HR : Hid (decW n L = (0, zeroEn, 2)) := by
        show decW n L = _
        rw [HDE.out, if_pos (.inr (.inl HNN.out))]
      clear HDE HNN
      generalize mostN n = M at *
      generalize hN : L.length = N at *
      clear hN
      go_enter Try.func11, Try.ntmps11
      go_wp2_with fail
      rw [← hW]
      clear hW
      go_step3
      go_wp2_with fail
      refine MO.out.mono ?_
      rintro e u ⟨rfl, rfl⟩
      clear MO
      have l_W := HE_W.out.lt
      have hec := HE_W.out
      have e0 := hec.cell 0; have f0 := hec.free 0; have e1 := hec.cell 1; have f1 := hec.free 1; have e2 := hec.cell 2; have f2 := hec.free 2; have e3 := hec.cell 3; have f3 := hec.free 3; have e4 := hec.cell 4; have f4 := hec.free 4; have e5 := hec.cell 5; have f5 := hec.free 5; have e6 := hec.cell 6; have f6 := hec.free 6
      simp only [List.getElem?_cons_zero, List.getElem?_cons_succ] at e0 e1 e2 e3 e4 e5 e6
      clear hec
      go_wp2_with fail
      rw [Exit.noGoto_ret]
      exact bodyPost_ret (results_en3 rfl _ _ w.heap.size (zeroEn) rfl ((((((((HE_W.out.set 0 _).set 1 _).set 2 _).set 3 _).set 4 _).set 5 _).set 6 _))) rfl ⟨by rw [HR.out]; rfl, (Below.setCell (p := ⟨w.heap.size, 6, none⟩) (Below.setCell (p := ⟨w.heap.size, 5, none⟩) (Below.setCell (p := ⟨w.heap.size, 4, none⟩) (Below.setCell (p := ⟨w.heap.size, 3, none⟩) (Below.setCell (p := ⟨w.heap.size, 2, none⟩) (Below.setCell (p := ⟨w.heap.size, 1, none⟩) (Below.setCell (p := ⟨w.heap.size, 0, none⟩) HB_W.out (by simp) _) (by simp) _) (by simp) _) (by simp) _) (by simp) _) (by simp) _) (by simp) _)⟩
end Ch
end Go.Proofs.Ytpgejomhcojppaa
