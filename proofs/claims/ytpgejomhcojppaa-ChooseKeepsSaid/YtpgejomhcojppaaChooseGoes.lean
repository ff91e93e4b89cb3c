/- The law ChooseGoes, walked. -/
import Derived.Test.YtpgejomhcojppaaChooseOutPlain
import Derived.Test.YtpgejomhcojppaaChooseMay
import Derived.BigQuiet
set_option linter.unusedSimpArgs false
set_option linter.unusedVariables false
namespace Go.Proofs.Ytpgejomhcojppaa
open Go.RowKit
namespace Ch
open Bl Qm
attribute [local go_sem ↓] eql_en neq_en
theorem below_drewN {B : Nat} {a u : World} (h : Below B a u) (k : Nat) : Below B a (u.drewN k) := h.trans ⟨rfl, rfl, rfl, Nat.le_refl _, fun _ _ => rfl⟩
theorem any_next (p : Rp → Bool) (L : List Rp) (k : Nat) (hk : k < L.length) : (L.take (k + 1)).any p = ((L.take k).any p || p L[k]) := by
  rw [List.take_succ_eq_append_getElem hk, List.any_append]
  simp
/-- All the cells of the elements of a row. -/
theorem row_all {w : World} {B : Nat} {A : Option Addr} {c : Nat} {L : List Rp} (h : Row w B (.slice A L.length c) L.length (L.flatMap rpC)) (hne : 0 < L.length) :
    ∃ b o, A = some ⟨b, o, none⟩ ∧ b < B ∧ ∀ (i : Nat) (hi : i < L.length) (u : World), Below B w u → ∀ j x, (rpC L[i])[j]? = some x → u.cell? ⟨b, o + i * 11 + j, none⟩ = some x := by
  obtain ⟨b, o, hA, hb, _⟩ := h.elem rpC_len (by omega) hne
  refine ⟨b, o, hA, hb, fun i hi u hu => ?_⟩
  obtain ⟨b2, o2, hA2, hb2, hx⟩ := h.elem rpC_len (by omega) hi
  subst hA
  injection hA2 with hA2
  injection hA2 with e1 e2
  subst e1 e2
  exact fun j x hj => by
    rw [Nat.add_assoc]; exact (hu.cell (p := ⟨b, o + (i * 11 + j), none⟩) hb).trans (hx j x hj)
theorem dec_any {d : Nat × En × Int} (n : Int) (L : List Rp) (hd : decR n L = d) (v : Value) (u : World) (h : Row u u.heap.size v L.length (L.flatMap rpC)) : Calls Try.prog 11 #[.int .i64 n, v] u fun e w' => e = .returned (.tuple #[.int .u8 (d.1 : Nat), .agg (enC d.2.1).toArray, .int .i64 d.2.2]) ∧ Below u.heap.size u w' := by
  rw [← hd, ← decW_eq]; exact decide_is n L v u.heap.size u (Nat.le_refl _) h
set_option maxRecDepth 100000 in
set_option maxHeartbeats 16000000 in
theorem chooseGoes_is (n : Int) (L : List Rp) (v : Value) (w : World) (hr : Row w w.heap.size v L.length (L.flatMap rpC)) :
    Calls Try.prog 6 #[.int .i64 n, v] w fun e w' => e = .returned (.bool true) ∧ Below w.heap.size w w' := by
  obtain ⟨A, c, rfl, _, _⟩ := hr.slice
  have hbd := hr.bound
  have AW := Lib.hid (awake_is w)
  obtain ⟨⟨kd, ⟨dk, dc, dq, ⟨pk, pa, pb, pc⟩⟩, fd⟩, hd⟩ : ∃ d, decR n L = d := ⟨_, rfl⟩
  have HD := dec_any n L hd (.slice A L.length c)
  simp only [enC] at HD
  have HD := Lib.hid HD
  have HMY := Lib.hid (fun (u : World) (h : Row u u.heap.size (.slice A L.length c) L.length (L.flatMap rpC)) => may_is n L (.slice A L.length c) u.heap.size u h)
  cases hb : badB n L
  · obtain ⟨hn357, hnL, hst⟩ := not_bad hb
    obtain ⟨hf, hk2, hw0, hw1, hw2⟩ := goes_plain hb kd ⟨dk, dc, dq, ⟨pk, pa, pb, pc⟩⟩ fd hd
    subst hf
    obtain ⟨N, hN⟩ : ∃ N, L.length = N := ⟨_, rfl⟩
    have HN := Lib.hid hN
    have HW0 := Lib.hid hw0
    have HW1 := Lib.hid hw1
    have HW2 := Lib.hid hw2
    have HST := Lib.hid hst
    rw [hb, hN] at HMY
    rw [hN] at hr HD hbd ⊢
    have hnN : n = (N : Int) := by omega
    subst hnN
    have hN7 : N ≤ 7 := by omega
    have hN0 : 0 < N := by omega
    clear hw0 hw1 hw2 hst hb hn357 hnL hd hN
    have hr0 := hr
    have HB_w := Lib.hid (Below.refl w.heap.size w)
    have R_L_w : Hid (Row w w.heap.size (.slice A N c) N (L.flatMap rpC)) := hr
    clear hr
    go_enter Try.func6, Try.ntmps6
    go_wp2_with fail
    refine (AW.out).mono ?_
    rintro e x1 ⟨rfl, hx⟩
    clear AW
    have HB_x1 := Lib.hid (HB_w.out.trans (Below.mono hx (HB_w.out.size)))
    have R_L_x1 : Hid (Row x1 x1.heap.size (.slice A N c) N (L.flatMap rpC)) := (R_L_w.out.below hx).more (Below.size hx)
    clear hx HB_w R_L_w
    go_wp2_with fail
    refine (HD.out _ R_L_x1.out).mono ?_
    rintro e x2 ⟨rfl, hx⟩
    clear HD
    have HB_x2 := Lib.hid (HB_x1.out.trans (Below.mono hx (HB_x1.out.size)))
    have R_L_x2 : Hid (Row x2 x2.heap.size (.slice A N c) N (L.flatMap rpC)) := (R_L_x1.out.below hx).more (Below.size hx)
    clear hx HB_x1 R_L_x1
    obtain ⟨x3, hx3⟩ : ∃ u : World, u = x2.alloc (.cells #[.int .u8 (dk : Nat), .int .i64 dc, .int .i64 dq, .int .u8 (pk : Nat), .string pa, .string pb, .string pc] 31) := ⟨_, rfl⟩
    have hx : Below x2.heap.size x2 x3 := by rw [hx3]; exact be1 x2 _
    have hn : Whole x3 x2.heap.size 31 [.int .u8 (dk : Nat), .int .i64 dc, .int .i64 dq, .int .u8 (pk : Nat), .string pa, .string pb, .string pc] := by rw [hx3]; exact Whole.new x2 _ _
    have HB_x3 := Lib.hid (HB_x2.out.trans (Below.mono hx (HB_x2.out.size)))
    have R_L_x3 : Hid (Row x3 x3.heap.size (.slice A N c) N (L.flatMap rpC)) := (R_L_x2.out.below hx).more (Below.size hx)
    clear hx HB_x2 R_L_x2
    have E_X_x3 : Hid (Whole x3 (x2.heap.size) 31 [.int .u8 (dk : Nat), .int .i64 dc, .int .i64 dq, .int .u8 (pk : Nat), .string pa, .string pb, .string pc]) := Lib.hid hn
    clear hn
    go_wp2_with fail
    rw [← hx3]
    clear hx3
    have MY := HMY.out _ R_L_x3.out
    refine MY.mono ?_
    rintro e u ⟨rfl, rfl⟩
    clear MY HMY
    go_wp2_with fail
    have hrr := hr0
    rw [← HN.out] at hrr
    obtain ⟨b, o, rfl, hbw, hcell⟩ := row_all hrr (by rw [HN.out]; exact hN0)
    have HC := Lib.hid hcell
    clear hrr hcell hr0
    go_loopw [8, 9, 10, 11, 12] (fun pv nv sv bv iv wr => ∃ k : Nat, k ≤ N ∧ iv = .int .i64 k ∧ pv = .int .i64 ((cntF plainR (L.take k) : Nat) : Int) ∧ nv = .int .i64 ((cntF (fun x => x.st == 0) (L.take k) : Nat) : Int) ∧ sv = .int .i64 ((cntF spoiltR (L.take k) : Nat) : Int) ∧ bv = .bool ((L.take k).any (fun x => x.st == 2 && sameE x.e ⟨dk, dc, dq, ⟨pk, pa, pb, pc⟩⟩)) ∧ Below x3.heap.size x3 wr) (fun _ _ _ _ iv _ => N - (intOf iv).toNat)
    case atStart => exact ⟨0, Nat.zero_le _, rfl, rfl, rfl, rfl, rfl, Below.refl _ _⟩
    case round =>
      obtain ⟨k, hk, rfl, rfl, rfl, rfl, rfl, hx⟩ := hrel
      have HXR := Lib.hid hx
      have HB_wr := Lib.hid (HB_x3.out.trans (Below.mono hx (HB_x3.out.size)))
      have R_L_wr : Hid (Row wr wr.heap.size (.slice (some ⟨b, o, none⟩) N c) N (L.flatMap rpC)) := (R_L_x3.out.below hx).more (Below.size hx)
      have E_X_wr : Hid (Whole wr (x2.heap.size) 31 [.int .u8 (dk : Nat), .int .i64 dc, .int .i64 dq, .int .u8 (pk : Nat), .string pa, .string pb, .string pc]) := E_X_x3.out.below hx E_X_x3.out.lt
      clear hx HB_x3 R_L_x3 E_X_x3
      have c1 : cntF plainR (L.take k) ≤ 7 := Nat.le_trans (cntF_le _ _) (by rw [List.length_take]; omega)
      have c2 : cntF (fun x => x.st == 0) (L.take k) ≤ 7 := Nat.le_trans (cntF_le _ _) (by rw [List.length_take]; omega)
      have c3 : cntF spoiltR (L.take k) ≤ 7 := Nat.le_trans (cntF_le _ _) (by rw [List.length_take]; omega)
      have hk0 : (0 : Int) ≤ (k : Int) := by omega
      by_cases hlt : k < N
      · have hl : k < L.length := by rw [HN.out]; exact hlt
        have hk1 : (k : Int) < (N : Int) := by omega
        have hy := HC.out k hl wr HB_wr.out
        have y1 := hy 1 _ rfl
        have y4 := hy 4 _ rfl
        have y5 := hy 5 _ rfl
        have y6 := hy 6 _ rfl
        have y7 := hy 7 _ rfl
        have y8 := hy 8 _ rfl
        have y9 := hy 9 _ rfl
        have y10 := hy 10 _ rfl
        have h4 := HST.out L[k] (List.getElem_mem hl)
        have H1 := Lib.hid (cntF_next plainR L k hl)
        have H2 := Lib.hid (cntF_next (fun x => x.st == 0) L k hl)
        have H3 := Lib.hid (cntF_next spoiltR L k hl)
        have H4 := Lib.hid (any_next (fun x => x.st == 2 && sameE x.e ⟨dk, dc, dq, ⟨pk, pa, pb, pc⟩⟩) L k hl)
        clear hy
        generalize L[k] = x at y1 y4 y5 y6 y7 y8 y9 y10 h4 H1 H2 H3 H4
        obtain ⟨xi, xs, ⟨xr, xp⟩, ⟨ek, ec, eq, ⟨ok, oa, ob, oc⟩⟩⟩ := x
        dsimp only at y1 y4 y5 y6 y7 y8 y9 y10 h4 H2 H4
        obtain ⟨m1, hm1⟩ : ∃ m, cntF plainR (L.take k) = m := ⟨_, rfl⟩
        obtain ⟨m2, hm2⟩ : ∃ m, cntF (fun x => x.st == 0) (L.take k) = m := ⟨_, rfl⟩
        obtain ⟨m3, hm3⟩ : ∃ m, cntF spoiltR (L.take k) = m := ⟨_, rfl⟩
        obtain ⟨bv, hbv⟩ : ∃ m, (L.take k).any (fun x => x.st == 2 && sameE x.e ⟨dk, dc, dq, ⟨pk, pa, pb, pc⟩⟩) = m := ⟨_, rfl⟩
        rw [hm1] at H1 c1 ⊢
        rw [hm2] at H2 c2 ⊢
        rw [hm3] at H3 c3 ⊢
        rw [hbv] at H4 ⊢
        clear hm1 hm2 hm3 hbv
        have hec := E_X_wr.out
        have c_X_0 := hec.cell 0; have f_X_0 := hec.free 0; have c_X_1 := hec.cell 1; have f_X_1 := hec.free 1; have c_X_2 := hec.cell 2; have f_X_2 := hec.free 2; have c_X_3 := hec.cell 3; have f_X_3 := hec.free 3; have c_X_4 := hec.cell 4; have f_X_4 := hec.free 4; have c_X_5 := hec.cell 5; have f_X_5 := hec.free 5; have c_X_6 := hec.cell 6; have f_X_6 := hec.free 6; have l_X := hec.lt
        simp only [List.getElem?_cons_zero, List.getElem?_cons_succ] at c_X_0 c_X_1 c_X_2 c_X_3 c_X_4 c_X_5 c_X_6
        clear hec
        rcases (by omega : xs = 0 ∨ xs = 1 ∨ xs = 2 ∨ (3 ≤ xs ∧ xs ≤ 4)) with hs | hs | hs | hs
        · subst hs
          cases bv
          · have G1 : Hid (cntF plainR (L.take (k + 1)) = m1) := by show _ = _; rw [H1.out]; unfold plainR; simp; try omega
            have G2 : Hid (cntF (fun x => x.st == 0) (L.take (k + 1)) = m2 + 1) := by show _ = _; rw [H2.out]; simp; try omega
            have G3 : Hid (cntF spoiltR (L.take (k + 1)) = m3) := by show _ = _; rw [H3.out]; unfold spoiltR plainR; simp; try omega
            have G4 : Hid ((L.take (k + 1)).any (fun x => x.st == 2 && sameE x.e ⟨dk, dc, dq, ⟨pk, pa, pb, pc⟩⟩) = false) := by show _ = _; rw [H4.out]; rfl
            clear H1 H2 H3 H4
            go_wp2_with fail
            go_quiet (fail)
            go_wp2_with fail
            go_roundw
            case rel => exact ⟨k + 1, by omega, by go_num, by rw [G1.out]; try go_num, by rw [G2.out]; try go_num, by rw [G3.out]; try go_num, by rw [G4.out]; try go_num, below_drewN HXR.out _⟩
            case measure => show N - ((k : Int) + 1).toNat < N - (k : Int).toNat; omega
          · have G1 : Hid (cntF plainR (L.take (k + 1)) = m1) := by show _ = _; rw [H1.out]; unfold plainR; simp; try omega
            have G2 : Hid (cntF (fun x => x.st == 0) (L.take (k + 1)) = m2 + 1) := by show _ = _; rw [H2.out]; simp; try omega
            have G3 : Hid (cntF spoiltR (L.take (k + 1)) = m3) := by show _ = _; rw [H3.out]; unfold spoiltR plainR; simp; try omega
            have G4 : Hid ((L.take (k + 1)).any (fun x => x.st == 2 && sameE x.e ⟨dk, dc, dq, ⟨pk, pa, pb, pc⟩⟩) = true) := by show _ = _; rw [H4.out]; rfl
            clear H1 H2 H3 H4
            go_wp2_with fail
            go_quiet (fail)
            go_wp2_with fail
            go_roundw
            case rel => exact ⟨k + 1, by omega, by go_num, by rw [G1.out]; try go_num, by rw [G2.out]; try go_num, by rw [G3.out]; try go_num, by rw [G4.out]; try go_num, below_drewN HXR.out _⟩
            case measure => show N - ((k : Int) + 1).toNat < N - (k : Int).toNat; omega
        · subst hs
          cases bv
          · have G1 : Hid (cntF plainR (L.take (k + 1)) = m1 + 1) := by show _ = _; rw [H1.out]; unfold plainR; simp; try omega
            have G2 : Hid (cntF (fun x => x.st == 0) (L.take (k + 1)) = m2) := by show _ = _; rw [H2.out]; simp; try omega
            have G3 : Hid (cntF spoiltR (L.take (k + 1)) = m3) := by show _ = _; rw [H3.out]; unfold spoiltR plainR; simp; try omega
            have G4 : Hid ((L.take (k + 1)).any (fun x => x.st == 2 && sameE x.e ⟨dk, dc, dq, ⟨pk, pa, pb, pc⟩⟩) = false) := by show _ = _; rw [H4.out]; rfl
            clear H1 H2 H3 H4
            go_wp2_with fail
            go_quiet (fail)
            go_wp2_with fail
            go_roundw
            case rel => exact ⟨k + 1, by omega, by go_num, by rw [G1.out]; try go_num, by rw [G2.out]; try go_num, by rw [G3.out]; try go_num, by rw [G4.out]; try go_num, below_drewN HXR.out _⟩
            case measure => show N - ((k : Int) + 1).toNat < N - (k : Int).toNat; omega
          · have G1 : Hid (cntF plainR (L.take (k + 1)) = m1 + 1) := by show _ = _; rw [H1.out]; unfold plainR; simp; try omega
            have G2 : Hid (cntF (fun x => x.st == 0) (L.take (k + 1)) = m2) := by show _ = _; rw [H2.out]; simp; try omega
            have G3 : Hid (cntF spoiltR (L.take (k + 1)) = m3) := by show _ = _; rw [H3.out]; unfold spoiltR plainR; simp; try omega
            have G4 : Hid ((L.take (k + 1)).any (fun x => x.st == 2 && sameE x.e ⟨dk, dc, dq, ⟨pk, pa, pb, pc⟩⟩) = true) := by show _ = _; rw [H4.out]; rfl
            clear H1 H2 H3 H4
            go_wp2_with fail
            go_quiet (fail)
            go_wp2_with fail
            go_roundw
            case rel => exact ⟨k + 1, by omega, by go_num, by rw [G1.out]; try go_num, by rw [G2.out]; try go_num, by rw [G3.out]; try go_num, by rw [G4.out]; try go_num, below_drewN HXR.out _⟩
            case measure => show N - ((k : Int) + 1).toNat < N - (k : Int).toNat; omega
        · subst hs
          cases bv
          · have G1 : Hid (cntF plainR (L.take (k + 1)) = m1 + 1) := by show _ = _; rw [H1.out]; unfold plainR; simp; try omega
            have G2 : Hid (cntF (fun x => x.st == 0) (L.take (k + 1)) = m2) := by show _ = _; rw [H2.out]; simp; try omega
            have G3 : Hid (cntF spoiltR (L.take (k + 1)) = m3) := by show _ = _; rw [H3.out]; unfold spoiltR plainR; simp; try omega
            have G4 : Hid ((L.take (k + 1)).any (fun x => x.st == 2 && sameE x.e ⟨dk, dc, dq, ⟨pk, pa, pb, pc⟩⟩) = eqE (ek : Nat) ec eq (ok : Nat) oa ob oc (dk : Nat) dc dq (pk : Nat) pa pb pc) := by show _ = _; rw [H4.out]; rfl
            clear H1 H2 H3 H4
            go_wp2_with fail
            go_quiet (fail)
            go_wp2_with fail
            go_roundw
            case rel => exact ⟨k + 1, by omega, by go_num, by rw [G1.out]; try go_num, by rw [G2.out]; try go_num, by rw [G3.out]; try go_num, by rw [G4.out]; try go_num, below_drewN HXR.out _⟩
            case measure => show N - ((k : Int) + 1).toNat < N - (k : Int).toNat; omega
          · have G1 : Hid (cntF plainR (L.take (k + 1)) = m1 + 1) := by show _ = _; rw [H1.out]; unfold plainR; simp; try omega
            have G2 : Hid (cntF (fun x => x.st == 0) (L.take (k + 1)) = m2) := by show _ = _; rw [H2.out]; simp; try omega
            have G3 : Hid (cntF spoiltR (L.take (k + 1)) = m3) := by show _ = _; rw [H3.out]; unfold spoiltR plainR; simp; try omega
            have G4 : Hid ((L.take (k + 1)).any (fun x => x.st == 2 && sameE x.e ⟨dk, dc, dq, ⟨pk, pa, pb, pc⟩⟩) = true) := by show _ = _; rw [H4.out]; rfl
            clear H1 H2 H3 H4
            go_wp2_with fail
            go_quiet (fail)
            go_wp2_with fail
            go_roundw
            case rel => exact ⟨k + 1, by omega, by go_num, by rw [G1.out]; try go_num, by rw [G2.out]; try go_num, by rw [G3.out]; try go_num, by rw [G4.out]; try go_num, below_drewN HXR.out _⟩
            case measure => show N - ((k : Int) + 1).toNat < N - (k : Int).toNat; omega
        · have e0 : ((xs : Int) == 0) = false := by simp; omega
          have e1 : ((xs : Int) == 1) = false := by simp; omega
          have e2 : ((xs : Int) == 2) = false := by simp; omega
          have e2n : (xs == 2) = false := by simp; omega
          cases bv
          · have G1 : Hid (cntF plainR (L.take (k + 1)) = m1) := by show _ = _; rw [H1.out]; unfold plainR; simp; try omega
            have G2 : Hid (cntF (fun x => x.st == 0) (L.take (k + 1)) = m2) := by show _ = _; rw [H2.out]; simp; try omega
            have G3 : Hid (cntF spoiltR (L.take (k + 1)) = m3 + 1) := by show _ = _; rw [H3.out]; unfold spoiltR plainR; simp; try omega
            have G4 : Hid ((L.take (k + 1)).any (fun x => x.st == 2 && sameE x.e ⟨dk, dc, dq, ⟨pk, pa, pb, pc⟩⟩) = false) := by show _ = _; rw [H4.out]; rw [e2n]; rfl
            clear H1 H2 H3 H4
            go_wp2_with fail
            go_quiet (fail)
            go_wp2_with fail
            go_roundw
            case rel => exact ⟨k + 1, by omega, by go_num, by rw [G1.out]; try go_num, by rw [G2.out]; try go_num, by rw [G3.out]; try go_num, by rw [G4.out]; try go_num, below_drewN HXR.out _⟩
            case measure => show N - ((k : Int) + 1).toNat < N - (k : Int).toNat; omega
          · have G1 : Hid (cntF plainR (L.take (k + 1)) = m1) := by show _ = _; rw [H1.out]; unfold plainR; simp; try omega
            have G2 : Hid (cntF (fun x => x.st == 0) (L.take (k + 1)) = m2) := by show _ = _; rw [H2.out]; simp; try omega
            have G3 : Hid (cntF spoiltR (L.take (k + 1)) = m3 + 1) := by show _ = _; rw [H3.out]; unfold spoiltR plainR; simp; try omega
            have G4 : Hid ((L.take (k + 1)).any (fun x => x.st == 2 && sameE x.e ⟨dk, dc, dq, ⟨pk, pa, pb, pc⟩⟩) = true) := by show _ = _; rw [H4.out]; rfl
            clear H1 H2 H3 H4
            go_wp2_with fail
            go_quiet (fail)
            go_wp2_with fail
            go_roundw
            case rel => exact ⟨k + 1, by omega, by go_num, by rw [G1.out]; try go_num, by rw [G2.out]; try go_num, by rw [G3.out]; try go_num, by rw [G4.out]; try go_num, below_drewN HXR.out _⟩
            case measure => show N - ((k : Int) + 1).toNat < N - (k : Int).toNat; omega
      · have e : k = N := by omega
        subst e
        have hE : L.take k = L := by rw [← HN.out, List.take_length]
        have HXX := Lib.hid HXR.out
        rw [hE] at c1 c2 c3 ⊢
        have MO := Lib.hid (most_any (k : Int) wr)
        have HZ : Hid ((only [0] L).length = cntF (fun x => x.st == 0) L) := cntF_one 0 L
        generalize hc1 : cntF plainR L = m1 at *
        generalize hc2 : cntF (fun x => x.st == 0) L = m2 at *
        generalize hc3 : cntF spoiltR L = m3 at *
        obtain ⟨bv, hbv⟩ : ∃ m, L.any (fun x => x.st == 2 && sameE x.e ⟨dk, dc, dq, ⟨pk, pa, pb, pc⟩⟩) = m := ⟨_, rfl⟩
        rw [hbv] at HW2 ⊢
        clear hbv hc1 hc2 hc3
        have hec := E_X_wr.out
        have c_X_0 := hec.cell 0; have f_X_0 := hec.free 0; have c_X_1 := hec.cell 1; have f_X_1 := hec.free 1; have c_X_2 := hec.cell 2; have f_X_2 := hec.free 2; have c_X_3 := hec.cell 3; have f_X_3 := hec.free 3; have c_X_4 := hec.cell 4; have f_X_4 := hec.free 4; have c_X_5 := hec.cell 5; have f_X_5 := hec.free 5; have c_X_6 := hec.cell 6; have f_X_6 := hec.free 6; have l_X := hec.lt
        simp only [List.getElem?_cons_zero, List.getElem?_cons_succ] at c_X_0 c_X_1 c_X_2 c_X_3 c_X_4 c_X_5 c_X_6
        clear hec
        rcases (by omega : kd = 0 ∨ kd = 1 ∨ kd = 2) with hs | hs | hs
        · subst hs
          obtain ⟨he, hz, hnp⟩ := HW0.out rfl
          rw [HZ.out] at hz
          simp only [zeroEn, noStr, En.mk.injEq, Op.mk.injEq] at he
          obtain ⟨rfl, rfl, rfl, rfl, rfl, rfl, rfl⟩ := he
          have QE := eqE_self 0 0 0 0 { data := #[] } { data := #[] } { data := #[] }
          have hz1 : ((m2 : Int) == 0) = false := by simp; omega
          generalize mostN (k : Int) = M at *
          have HNP := Lib.hid hnp
          clear hnp HW0 HW1 HW2 hz
          go_wp2_with fail
          refine MO.out.mono ?_
          rintro e u ⟨rfl, rfl⟩
          clear MO
          by_cases hm : (M : Int) ≤ (m1 : Int)
          · have h3 : ((m3 : Int) == 0) = false := by
              have := HNP.out
              have : ¬ m3 = 0 := fun h => this ⟨by omega, h⟩
              simp; omega
            go_wp2_with fail
            go_ret
            exact ⟨rfl, HB_wr.out⟩
          · go_wp2_with fail
            go_ret
            exact ⟨rfl, HB_wr.out⟩
        · subst hs
          have he := HW1.out rfl
          simp only [noopEn, noStr, En.mk.injEq, Op.mk.injEq] at he
          obtain ⟨rfl, rfl, rfl, rfl, rfl, rfl, rfl⟩ := he
          have QE := eqE_self 1 0 0 0 { data := #[] } { data := #[] } { data := #[] }
          clear HW0 HW1 HW2
          go_wp2_with fail
          go_ret
          exact ⟨rfl, HB_wr.out⟩
        · subst hs
          have hbt := HW2.out rfl
          subst hbt
          clear HW0 HW1 HW2
          go_wp2_with fail
          go_ret
          exact ⟨rfl, HB_wr.out⟩
  · have hz : decR n L = (0, zeroEn, 2) := decR_bad hb
    rw [hz] at hd
    simp only [zeroEn, noStr, Prod.mk.injEq, En.mk.injEq, Op.mk.injEq] at hd
    obtain ⟨rfl, ⟨rfl, rfl, rfl, rfl, rfl, rfl, rfl⟩, rfl⟩ := hd
    have QE := eqE_self 0 0 0 0 { data := #[] } { data := #[] } { data := #[] }
    rw [hb] at HMY
    generalize hN : L.length = N at *
    clear hN hz hb
    have HB_w := Lib.hid (Below.refl w.heap.size w)
    have R_L_w : Hid (Row w w.heap.size (.slice A N c) N (L.flatMap rpC)) := hr
    clear hr
    go_enter Try.func6, Try.ntmps6
    go_wp2_with fail
    refine (AW.out).mono ?_
    rintro e x1 ⟨rfl, hx⟩
    clear AW
    have HB_x1 := Lib.hid (HB_w.out.trans (Below.mono hx (HB_w.out.size)))
    have R_L_x1 : Hid (Row x1 x1.heap.size (.slice A N c) N (L.flatMap rpC)) := (R_L_w.out.below hx).more (Below.size hx)
    clear hx HB_w R_L_w
    go_wp2_with fail
    refine (HD.out _ R_L_x1.out).mono ?_
    rintro e x2 ⟨rfl, hx⟩
    clear HD
    have HB_x2 := Lib.hid (HB_x1.out.trans (Below.mono hx (HB_x1.out.size)))
    have R_L_x2 : Hid (Row x2 x2.heap.size (.slice A N c) N (L.flatMap rpC)) := (R_L_x1.out.below hx).more (Below.size hx)
    clear hx HB_x1 R_L_x1
    obtain ⟨x3, hx3⟩ : ∃ u : World, u = x2.alloc (.cells #[.int .u8 0, .int .i64 0, .int .i64 0, .int .u8 0, .string { data := #[] }, .string { data := #[] }, .string { data := #[] }] 31) := ⟨_, rfl⟩
    have hx : Below x2.heap.size x2 x3 := by rw [hx3]; exact be1 x2 _
    have hn : Whole x3 x2.heap.size 31 [.int .u8 0, .int .i64 0, .int .i64 0, .int .u8 0, .string { data := #[] }, .string { data := #[] }, .string { data := #[] }] := by rw [hx3]; exact Whole.new x2 _ _
    have HB_x3 := Lib.hid (HB_x2.out.trans (Below.mono hx (HB_x2.out.size)))
    have R_L_x3 : Hid (Row x3 x3.heap.size (.slice A N c) N (L.flatMap rpC)) := (R_L_x2.out.below hx).more (Below.size hx)
    clear hx HB_x2 R_L_x2
    have E_X_x3 : Hid (Whole x3 (x2.heap.size) 31 [.int .u8 0, .int .i64 0, .int .i64 0, .int .u8 0, .string { data := #[] }, .string { data := #[] }, .string { data := #[] }]) := Lib.hid hn
    clear hn
    go_wp2_with fail
    rw [← hx3]
    clear hx3
    have MY := HMY.out _ R_L_x3.out
    refine MY.mono ?_
    rintro e u ⟨rfl, rfl⟩
    clear MY HMY
    have hec := E_X_x3.out
    have c_X_0 := hec.cell 0; have f_X_0 := hec.free 0; have c_X_1 := hec.cell 1; have f_X_1 := hec.free 1; have c_X_2 := hec.cell 2; have f_X_2 := hec.free 2; have c_X_3 := hec.cell 3; have f_X_3 := hec.free 3; have c_X_4 := hec.cell 4; have f_X_4 := hec.free 4; have c_X_5 := hec.cell 5; have f_X_5 := hec.free 5; have c_X_6 := hec.cell 6; have f_X_6 := hec.free 6; have l_X := hec.lt
    simp only [List.getElem?_cons_zero, List.getElem?_cons_succ] at c_X_0 c_X_1 c_X_2 c_X_3 c_X_4 c_X_5 c_X_6
    clear hec
    go_wp2_with fail
    go_ret
    exact ⟨rfl, HB_x3.out⟩
end Ch
end Go.Proofs.Ytpgejomhcojppaa
