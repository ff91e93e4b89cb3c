/- The document's Decide, walked. -/
import Derived.Test.YtpgejomhcojppaaChooseRef
import Derived.Test.YtpgejomhcojppaaChooseDecide
import Derived.Test.YtpgejomhcojppaaQuorumRef
set_option linter.unusedSimpArgs false
set_option linter.unusedVariables false
namespace Go.Proofs.Ytpgejomhcojppaa
open Go.RowKit
namespace Ch
open Bl Qm
set_option maxHeartbeats 400000 in
theorem rcrowd_is (n : Int) (w : World) :
    Calls Try.prog 32 #[.int .i64 n] w fun e w' => e = .returned (.bool (crowdB n)) ∧ w = w' := by
  have N : Hid (crowdB n = (decide (n = 3) || decide (n = 5) || decide (n = 7))) := rfl
  go_enter Try.func32, Try.ntmps32
  go_wp2
  all_goals go_ret
  all_goals refine ⟨ret_bool ?_, rfl⟩
  all_goals rw [N.out]
  all_goals simp_all [Bool.beq_eq_decide_eq]
theorem decR_bad {n : Int} {L : List Rp} (h : badB n L = true) : decR n L = (0, zeroEn, 2) := by unfold decR; rw [if_pos h]
theorem decR_wait {n : Int} {L : List Rp} (h : badB n L = false) (hk : knownB n L = false) (h0 : 0 < (only [0] L).length) : decR n L = (0, zeroEn, 0) := by
  unfold decR; rw [h, hk, if_neg (by simp), if_pos (by simp [h0])]
theorem decR_none {n : Int} {L : List Rp} (h : badB n L = false) (hk : knownB n L = true ∨ ¬ 0 < (only [0] L).length) (hg : greatest L = none) : decR n L = (1, noopEn, 0) := by
  unfold decR
  rw [h, if_neg (by simp), if_neg, hg]
  rcases hk with hk | hk
  · rw [hk]; simp
  · simp [hk]
theorem decR_some {n : Int} {L : List Rp} {x : Rp} (h : badB n L = false) (hk : knownB n L = true ∨ ¬ 0 < (only [0] L).length) (hg : greatest L = some x) : decR n L = (2, x.e, 0) := by
  unfold decR
  rw [h, if_neg (by simp), if_neg, hg]
  rcases hk with hk | hk
  · rw [hk]; simp
  · simp [hk]
theorem cnt_next (b : Ba) (L : List Rp) (k : Nat) (hk : k < L.length) : cntGe b (L.take (k + 1)) = cntGe b (L.take k) + if L[k].st == 3 && !lessB L[k].b b then 1 else 0 := by
  unfold cntGe
  rw [List.take_succ_eq_append_getElem hk, List.filter_append, List.length_append]
  cases h : L[k].st == 3 && !lessB L[k].b b
  · rw [List.filter_cons_of_neg (by rw [h]; simp)]; simp
  · have e : [L[k]].filter (fun k => k.st == 3 && !lessB k.b b) = [L[k]] := by simp only [List.filter_cons, h, List.filter_nil]; rfl
    rw [e]; rfl
theorem cnt_le (b : Ba) (L : List Rp) : cntGe b L ≤ L.length := List.length_filter_le _ _
theorem all_next (p : Rp → Bool) (L : List Rp) (k : Nat) (hk : k < L.length) : (L.take (k + 1)).all p = ((L.take k).all p && p L[k]) := by
  rw [List.take_succ_eq_append_getElem hk, List.all_append]
  simp
set_option maxRecDepth 100000 in
set_option maxHeartbeats 16000000 in
theorem rdecide_is (n : Int) (L : List Rp) (v : Value) (B : Nat) (w : World) (hB : B ≤ w.heap.size) (hr : Row w B v L.length (L.flatMap rpC)) :
    Calls Try.prog 16 #[.int .i64 n, v] w fun e w' => e = .returned (.tuple #[.int .i64 (((decR n L).1 : Nat) : Int), .agg (enC (decR n L).2.1).toArray, .int .i64 (decR n L).2.2]) ∧ Below w.heap.size w w' := by
  obtain ⟨A, c, rfl, _, _⟩ := hr.slice
  have hbd := hr.bound
  obtain ⟨W, hW⟩ : ∃ W : World, W = w.alloc (.cells #[.int .u8 0, .int .i64 0, .int .i64 0, .int .u8 0, .string { data := #[] }, .string { data := #[] }, .string { data := #[] }] 31) := ⟨_, rfl⟩
  have HB_W : Hid (Below w.heap.size w W) := by rw [hW]; exact be1 w _
  have HE_W : Hid (Whole W w.heap.size 31 [.int .u8 0, .int .i64 0, .int .i64 0, .int .u8 0, .string { data := #[] }, .string { data := #[] }, .string { data := #[] }]) := by rw [hW]; exact Whole.new w _ _
  have CR := Lib.hid (rcrowd_is n W)
  have HRW : Hid (Row W W.heap.size (.slice A L.length c) L.length (L.flatMap rpC)) := (hr.below (HB_W.out.mono hB)).more (Nat.le_trans hB HB_W.out.size)
  have l_W := HE_W.out.lt
  cases hc : crowdB n
  · rw [hc] at CR
    have HBAD : Hid (badB n L = true) := by show badB n L = true; unfold badB; rw [hc]; rfl
    clear hr hc
    generalize hN : L.length = N at *
    clear hN
    go_enter Try.func16, Try.ntmps16
    go_wp2_with fail
    rw [← hW]
    clear hW
    go_wp2_with fail
    refine CR.out.mono ?_
    rintro e u ⟨rfl, rfl⟩
    clear CR
    have HR := Lib.hid (decR_bad (n := n) (L := L) (HBAD.out))
    have hec := HE_W.out
    have e0 := hec.cell 0; have f0 := hec.free 0; have e1 := hec.cell 1; have f1 := hec.free 1; have e2 := hec.cell 2; have f2 := hec.free 2; have e3 := hec.cell 3; have f3 := hec.free 3; have e4 := hec.cell 4; have f4 := hec.free 4; have e5 := hec.cell 5; have f5 := hec.free 5; have e6 := hec.cell 6; have f6 := hec.free 6
    simp only [List.getElem?_cons_zero, List.getElem?_cons_succ] at e0 e1 e2 e3 e4 e5 e6
    clear hec
    go_wp2_with fail
    exact bodyPost_ret (results_en3 rfl _ _ w.heap.size (zeroEn) rfl ((((((((HE_W.out.set 0 _).set 1 _).set 2 _).set 3 _).set 4 _).set 5 _).set 6 _))) rfl ⟨by rw [HR.out]; rfl, (Below.setCell (p := ⟨w.heap.size, 6, none⟩) (Below.setCell (p := ⟨w.heap.size, 5, none⟩) (Below.setCell (p := ⟨w.heap.size, 4, none⟩) (Below.setCell (p := ⟨w.heap.size, 3, none⟩) (Below.setCell (p := ⟨w.heap.size, 2, none⟩) (Below.setCell (p := ⟨w.heap.size, 1, none⟩) (Below.setCell (p := ⟨w.heap.size, 0, none⟩) HB_W.out (by simp) _) (by simp) _) (by simp) _) (by simp) _) (by simp) _) (by simp) _) (by simp) _)⟩
  · rw [hc] at CR
    by_cases hn : (L.length : Int) = n
    · have h357 := crowd_iff.1 hc
      obtain ⟨N, hN⟩ : ∃ N, L.length = N := ⟨_, rfl⟩
      have hNn : (N : Int) = n := by rw [← hN]; exact hn
      have hL : N ≤ 7 := by omega
      have hN0 : 0 < N := by omega
      subst hNn
      have HN := Lib.hid hN
      have HCR := Lib.hid hc
      obtain ⟨b, o, rfl, hcell⟩ := row_cells hr (by omega)
      have HC : Hid (∀ (i : Nat) (hi : i < L.length) (u : World), Below w.heap.size w u →
        (u.cell? ⟨b, o + i * 11 + 1, none⟩ = some (.int .u8 (L[i].st : Nat)) ∧ u.cell? ⟨b, o + i * 11 + 2, none⟩ = some (.int .i64 L[i].b.r) ∧ u.cell? ⟨b, o + i * 11 + 3, none⟩ = some (.int .i64 L[i].b.p))) := fun i hi u hu => hcell i hi u (hu.mono hB)
      have HROW := Lib.hid hr
      rw [hN] at HRW hbd ⊢
      clear hn h357 hN hr hcell hc
      go_enter Try.func16, Try.ntmps16
      go_wp2_with fail
      rw [← hW]
      clear hW
      go_wp2_with fail
      refine CR.out.mono ?_
      rintro e u ⟨rfl, rfl⟩
      clear CR
      go_wp2_with fail
      go_loopw [7] (fun iv wr => ∃ k : Nat, k ≤ N ∧ iv = .int .i64 k ∧ (L.take k).any (fun x => decide (4 < x.st)) = false ∧ wr = W) (fun iv _ => N - (intOf iv).toNat)
      case atStart => exact ⟨0, Nat.zero_le _, rfl, by simp, rfl⟩
      case round =>
        obtain ⟨k, hk, rfl, hany, rfl⟩ := hrel
        have HANY := Lib.hid hany
        have HB_wr := HB_W
        have HE_wr := HE_W
        clear hany
        have hk0 : (0 : Int) ≤ (k : Int) := by omega
        by_cases hlt : k < N
        · have hl : k < L.length := by rw [HN.out]; exact hlt
          have hk1 : (k : Int) < (N : Int) := by omega
          obtain ⟨y1, _, _⟩ := HC.out k hl _ HB_wr.out
          have HNX : Hid ((L.take (k + 1)).any (fun x => decide (4 < x.st)) = decide (4 < L[k].st)) := by
            show (L.take (k + 1)).any _ = _
            rw [List.take_succ_eq_append_getElem hl, List.any_append, HANY.out]; simp
          have HYES : Hid (4 < L[k].st → badB (N : Int) L = true) := fun h => by
            unfold badB
            rw [Bool.or_eq_true]
            right
            exact List.any_eq_true.2 ⟨L[k], List.getElem_mem hl, by simpa using h⟩
          generalize L[k] = x at *
          obtain ⟨xi, xs, ⟨xr, xp⟩, ⟨ek, ec, eq, ⟨ok, oa, ob, oc⟩⟩⟩ := x
          dsimp only at y1 HNX HYES
          by_cases h4 : 4 < xs
          · have h4i : (4 : Int) < (xs : Int) := by omega
            have HBAD := Lib.hid (HYES.out h4)
            have HR := Lib.hid (decR_bad (n := (N : Int)) (L := L) HBAD.out)
            have hec := HE_wr.out
            have e0 := hec.cell 0; have f0 := hec.free 0; have e1 := hec.cell 1; have f1 := hec.free 1; have e2 := hec.cell 2; have f2 := hec.free 2; have e3 := hec.cell 3; have f3 := hec.free 3; have e4 := hec.cell 4; have f4 := hec.free 4; have e5 := hec.cell 5; have f5 := hec.free 5; have e6 := hec.cell 6; have f6 := hec.free 6
            simp only [List.getElem?_cons_zero, List.getElem?_cons_succ] at e0 e1 e2 e3 e4 e5 e6
            clear hec
            go_wp2_with fail
            exact bodyPost_ret (results_en3 rfl _ _ w.heap.size (zeroEn) rfl ((((((((HE_wr.out.set 0 _).set 1 _).set 2 _).set 3 _).set 4 _).set 5 _).set 6 _))) rfl ⟨by rw [HR.out]; rfl, (Below.setCell (p := ⟨w.heap.size, 6, none⟩) (Below.setCell (p := ⟨w.heap.size, 5, none⟩) (Below.setCell (p := ⟨w.heap.size, 4, none⟩) (Below.setCell (p := ⟨w.heap.size, 3, none⟩) (Below.setCell (p := ⟨w.heap.size, 2, none⟩) (Below.setCell (p := ⟨w.heap.size, 1, none⟩) (Below.setCell (p := ⟨w.heap.size, 0, none⟩) HB_wr.out (by simp) _) (by simp) _) (by simp) _) (by simp) _) (by simp) _) (by simp) _) (by simp) _)⟩
          · have h4i : ¬ (4 : Int) < (xs : Int) := by omega
            have HX2 : Hid ((L.take (k + 1)).any (fun x => decide (4 < x.st)) = false) := by show (L.take (k + 1)).any _ = false; rw [HNX.out]; simp; omega
            clear HNX HYES
            go_wp2_with fail
            go_roundw
            case rel => exact ⟨k + 1, by omega, by go_num, HX2.out, by trivial⟩
            case measure => show N - ((k : Int) + 1).toNat < N - (k : Int).toNat; omega
        · have e : k = N := by omega
          subst e
          have HBAD : Hid (badB (k : Int) L = false) := by
            show badB (k : Int) L = false
            have h := HANY.out
            rw [show L.take k = L by rw [← HN.out, List.take_length]] at h
            unfold badB
            rw [HCR.out, h, HN.out]; simp
          have MO := Lib.hid (rmost_any (k : Int) wr)
          have M0 := Lib.hid (many_is 0 L _ _ wr (by rw [HN.out]; exact HRW.out))
          have M4 := Lib.hid (many_is 4 L _ _ wr (by rw [HN.out]; exact HRW.out))
          have GR := Lib.hid (greatest_is L _ _ wr (Nat.le_refl _) (by rw [HN.out]; exact HRW.out))
          have hc0 : (only [0] L).length ≤ 7 := Nat.le_trans (only_le _ _) (by rw [HN.out]; exact hL)
          have hc4 : (only [4] L).length ≤ 7 := Nat.le_trans (only_le _ _) (by rw [HN.out]; exact hL)
          have HKN : Hid (knownB (k : Int) L = (decide ((mostN (k : Int) : Int) ≤ (k : Int) - (only [0] L).length - (only [4] L).length) && L.all (fineB (k : Int) L))) := rfl
          have HF : Hid (∀ x, fineB (k : Int) L x = (!(x.st == 3) || !above (greatest L) x || decide (((only [0] L).length : Int) + (only [4] L).length + cntGe x.b L < mostN (k : Int)))) := fun x => rfl
          generalize hc00 : (only [0] L).length = c0 at *
          generalize hc44 : (only [4] L).length = c4 at *
          generalize hM : mostN (k : Int) = M at *
          have HC0 := Lib.hid hc00
          clear hc44 hM HANY hc00
          go_wp2_with fail
          refine MO.out.mono ?_
          rintro e u ⟨rfl, rfl⟩
          clear MO
          go_wp2_with fail
          refine M0.out.mono ?_
          rintro e u ⟨rfl, rfl⟩
          clear M0
          go_wp2_with fail
          refine M4.out.mono ?_
          rintro e u ⟨rfl, rfl⟩
          clear M4
          go_wp2_with fail
          refine GR.out.mono ?_
          rintro e v1 ⟨⟨g, rfl, hat⟩, hx⟩
          have HB_v1 := Lib.hid (HB_wr.out.trans (Below.mono hx (by have := HB_wr.out.size; omega)))
          have HE_v1 := Lib.hid (HE_wr.out.below hx HE_wr.out.lt)
          have HAT := Lib.hid hat
          clear hx hat GR HB_wr HE_wr 
          by_cases hk0 : (M : Int) ≤ (k : Int) - (c0 : Int) - (c4 : Int)
          · have HKN2 : Hid (knownB (k : Int) L = L.all (fineB (k : Int) L)) := by
              show knownB (k : Int) L = _
              rw [HKN.out, decide_eq_true hk0, Bool.true_and]
            clear HKN
            go_wp2_with fail
            go_loopw [12, 13] (fun kv iv wr => ∃ i : Nat, i ≤ k ∧ iv = .int .i64 i ∧ kv = .bool ((L.take i).all (fineB (k : Int) L)) ∧ Below v1.heap.size v1 wr) (fun _ iv _ => k - (intOf iv).toNat)
            case atStart => exact ⟨0, Nat.zero_le _, rfl, by simp, Below.refl _ _⟩
            case round =>
              obtain ⟨i, hi, rfl, rfl, hxi⟩ := hrel
              have HXI := Lib.hid hxi
              have HB_wr := Lib.hid (HB_v1.out.trans (Below.mono hxi (by have := HB_v1.out.size; omega)))
              have HE_wr := Lib.hid (HE_v1.out.below hxi HE_v1.out.lt)
              have zi := hxi.size
              clear hxi
              have hi0 : (0 : Int) ≤ (i : Int) := by omega
              by_cases hil : i < k
              · have hl : i < L.length := by rw [HN.out]; exact hil
                have hi1 : (i : Int) < (k : Int) := by omega
                have C1 := Lib.hid (HC.out i hl)
                have HNX := Lib.hid (all_next (fineB (k : Int) L) L i hl)
                have HFI := Lib.hid (HF.out L[i])
                generalize L[i] = x at C1 HNX HFI
                obtain ⟨xi, xs, ⟨xr, xp⟩, ⟨ek, ec, eq, ⟨ok, oa, ob, oc⟩⟩⟩ := x
                dsimp only at C1 HFI
                obtain ⟨pv, hpv⟩ : ∃ pv, (L.take i).all (fineB (k : Int) L) = pv := ⟨_, rfl⟩
                rw [hpv] at HNX ⊢
                clear hpv
                by_cases hst : xs = 3
                · subst hst
                  rcases HAT.out with ⟨hg, hgn⟩ | ⟨j, hj, hg, hgs⟩
                  · subst hg
                    have AB : Hid (fineB (k : Int) L ⟨xi, 3, ⟨xr, xp⟩, ⟨ek, ec, eq, ⟨ok, oa, ob, oc⟩⟩⟩ = decide ((c0 : Int) + (c4 : Int) + ((cntGe ⟨xr, xp⟩ L : Nat) : Int) < (M : Int))) := by
                      show fineB _ _ _ = _
                      rw [HFI.out, hgn]; rfl
                    clear hgn HFI
                    go_wp2_with fail
                    refine wp_region_held_drew (S := (fun u : World => u.cell? ⟨b, o + i * 11 + 1, none⟩ = some (.int .u8 ((3 : Nat) : Int)))) (by kernel_rfl) ((C1.out _ HB_wr.out.drew).1) (fun HS => ?_)
                    refine handTake 0 (some 59) ?_ rfl rfl (by kernel_rfl) (by kernel_rfl) (by kernel_rfl) (fun _ _ _ h => h) (by rfl) ?_ HS ?_
                    rotate_left
                    · (intro u hu; (try dsimp only at hu); go_simp; try with_reducible rfl)
                    simp only [Act.put, List.setIfInBounds_toArray, List.set_cons_zero, List.set_cons_succ]
                    refine handTake 1 (some 60) ?_ rfl rfl (by kernel_rfl) (by kernel_rfl) (by kernel_rfl) (fun _ _ _ h => h) (by rfl) ?_ HS ?_
                    rotate_left
                    · (intro u hu; (try dsimp only at hu); go_simp; try with_reducible rfl)
                    simp only [Act.put, List.setIfInBounds_toArray, List.set_cons_zero, List.set_cons_succ]
                    refine handTake 2 (some 61) ?_ rfl rfl (by kernel_rfl) (by kernel_rfl) (by kernel_rfl) (fun _ _ _ h => h) (by rfl) ?_ HS ?_
                    rotate_left
                    · (intro u hu; (try dsimp only at hu); go_simp; try with_reducible rfl)
                    simp only [Act.put, List.setIfInBounds_toArray, List.set_cons_zero, List.set_cons_succ]
                    refine handTake 3 (some 62) ?_ rfl rfl (by kernel_rfl) (by kernel_rfl) (by kernel_rfl) (fun _ _ _ h => h) (by rfl) ?_ HS ?_
                    rotate_left
                    · (intro u hu; (try dsimp only at hu); go_simp; try with_reducible rfl)
                    simp only [Act.put, List.setIfInBounds_toArray, List.set_cons_zero, List.set_cons_succ]
                    refine handTake 4 (some 63) ?_ rfl rfl (by kernel_rfl) (by kernel_rfl) (by kernel_rfl) (fun _ _ _ h => h) (by rfl) ?_ HS ?_
                    rotate_left
                    · (intro u hu; (try dsimp only at hu); go_simp; try with_reducible rfl)
                    simp only [Act.put, List.setIfInBounds_toArray, List.set_cons_zero, List.set_cons_succ]
                    refine handTake 5 (some 64) ?_ rfl rfl (by kernel_rfl) (by kernel_rfl) (by kernel_rfl) (fun _ _ _ h => h) (by rfl) ?_ HS ?_
                    rotate_left
                    · (intro u hu; (try dsimp only at hu); go_simp; try with_reducible rfl)
                    simp only [Act.put, List.setIfInBounds_toArray, List.set_cons_zero, List.set_cons_succ]
                    refine handTake 6 (some 65) ?_ rfl rfl (by kernel_rfl) (by kernel_rfl) (by kernel_rfl) (fun _ _ _ h => h) (by rfl) ?_ HS ?_
                    rotate_left
                    · (intro u hu; (try dsimp only at hu); go_simp; try with_reducible rfl)
                    simp only [Act.put, List.setIfInBounds_toArray, List.set_cons_zero, List.set_cons_succ]
                    refine handTake 7 (some 66) ?_ rfl rfl (by kernel_rfl) (by kernel_rfl) (by kernel_rfl) (fun _ _ _ h => h) (by rfl) ?_ HS ?_
                    rotate_left
                    · (intro u hu; (try dsimp only at hu); go_simp; try with_reducible rfl)
                    simp only [Act.put, List.setIfInBounds_toArray, List.set_cons_zero, List.set_cons_succ]
                    refine handTake 8 (some 67) ?_ rfl rfl (by kernel_rfl) (by kernel_rfl) (by kernel_rfl) (fun _ _ _ h => h) (by rfl) ?_ HS ?_
                    rotate_left
                    · (intro u hu; (try dsimp only at hu); go_simp; try with_reducible rfl)
                    simp only [Act.put, List.setIfInBounds_toArray, List.set_cons_zero, List.set_cons_succ]
                    refine handTake 9 (some 68) ?_ rfl rfl (by kernel_rfl) (by kernel_rfl) (by kernel_rfl) (fun _ _ _ h => h) (by rfl) ?_ HS ?_
                    rotate_left
                    · (intro u hu; (try dsimp only at hu); go_simp; try with_reducible rfl)
                    simp only [Act.put, List.setIfInBounds_toArray, List.set_cons_zero, List.set_cons_succ]
                    refine handSkip 10 (some 69) rfl rfl (by kernel_rfl) (by kernel_rfl) (by kernel_rfl) (fun _ _ _ h => h) (by rfl) HS ?_
                    simp only [Act.put, List.setIfInBounds_toArray, List.set_cons_zero, List.set_cons_succ]
                    refine handSkip 11 (some 70) rfl rfl (by kernel_rfl) (by kernel_rfl) (by kernel_rfl) (fun _ _ _ h => h) (by rfl) HS ?_
                    simp only [Act.put, List.setIfInBounds_toArray, List.set_cons_zero, List.set_cons_succ]
                    refine handSkip 12 (some 71) rfl rfl (by kernel_rfl) (by kernel_rfl) (by kernel_rfl) (fun _ _ _ h => h) (by rfl) HS ?_
                    simp only [Act.put, List.setIfInBounds_toArray, List.set_cons_zero, List.set_cons_succ]
                    refine handSkip 13 (some 72) rfl rfl (by kernel_rfl) (by kernel_rfl) (by kernel_rfl) (fun _ _ _ h => h) (by rfl) HS ?_
                    simp only [Act.put, List.setIfInBounds_toArray, List.set_cons_zero, List.set_cons_succ]
                    refine handSkip 14 (some 73) rfl rfl (by kernel_rfl) (by kernel_rfl) (by kernel_rfl) (fun _ _ _ h => h) (by rfl) HS ?_
                    simp only [Act.put, List.setIfInBounds_toArray, List.set_cons_zero, List.set_cons_succ]
                    refine handSkip 15 (some 74) rfl rfl (by kernel_rfl) (by kernel_rfl) (by kernel_rfl) (fun _ _ _ h => h) (by rfl) HS ?_
                    simp only [Act.put, List.setIfInBounds_toArray, List.set_cons_zero, List.set_cons_succ]
                    refine handSkip 16 (some 75) rfl rfl (by kernel_rfl) (by kernel_rfl) (by kernel_rfl) (fun _ _ _ h => h) (by rfl) HS ?_
                    simp only [Act.put, List.setIfInBounds_toArray, List.set_cons_zero, List.set_cons_succ]
                    refine handSkip 17 (some 76) rfl rfl (by kernel_rfl) (by kernel_rfl) (by kernel_rfl) (fun _ _ _ h => h) (by rfl) HS ?_
                    simp only [Act.put, List.setIfInBounds_toArray, List.set_cons_zero, List.set_cons_succ]
                    refine handSkip 18 (some 77) rfl rfl (by kernel_rfl) (by kernel_rfl) (by kernel_rfl) (fun _ _ _ h => h) (by rfl) HS ?_
                    simp only [Act.put, List.setIfInBounds_toArray, List.set_cons_zero, List.set_cons_succ]
                    refine handSkip 19 (some 78) rfl rfl (by kernel_rfl) (by kernel_rfl) (by kernel_rfl) (fun _ _ _ h => h) (by rfl) HS ?_
                    simp only [Act.put, List.setIfInBounds_toArray, List.set_cons_zero, List.set_cons_succ]
                    refine handSkip 20 (some 79) rfl rfl (by kernel_rfl) (by kernel_rfl) (by kernel_rfl) (fun _ _ _ h => h) (by rfl) HS ?_
                    simp only [Act.put, List.setIfInBounds_toArray, List.set_cons_zero, List.set_cons_succ]
                    refine handSkip 21 (some 80) rfl rfl (by kernel_rfl) (by kernel_rfl) (by kernel_rfl) (fun _ _ _ h => h) (by rfl) HS ?_
                    simp only [Act.put, List.setIfInBounds_toArray, List.set_cons_zero, List.set_cons_succ]
                    refine handTake 22 (some 81) ?_ rfl rfl (by kernel_rfl) (by kernel_rfl) (by kernel_rfl) (fun _ _ _ h => h) (by rfl) ?_ HS ?_
                    rotate_left
                    · (intro u hu; (try dsimp only at hu); go_simp; try with_reducible rfl)
                    simp only [Act.put, List.setIfInBounds_toArray, List.set_cons_zero, List.set_cons_succ]
                    refine handTake 23 (some 82) ?_ rfl rfl (by kernel_rfl) (by kernel_rfl) (by kernel_rfl) (fun _ _ _ h => h) (by rfl) ?_ HS ?_
                    rotate_left
                    · (intro u hu; (try dsimp only at hu); go_simp; try with_reducible rfl)
                    simp only [Act.put, List.setIfInBounds_toArray, List.set_cons_zero, List.set_cons_succ]
                    refine wpAnyH_done (by kernel_rfl) ?_ _
                    clear HS
                    go_wp2_with fail
                    go_loopw [14, 15] (fun mv qv wr => ∃ q : Nat, q ≤ k ∧ qv = .int .i64 q ∧ mv = .int .i64 ((c0 : Int) + (c4 : Int) + ((cntGe ⟨xr, xp⟩ (L.take q) : Nat) : Int)) ∧ Below v1.heap.size v1 wr) (fun _ qv _ => k - (intOf qv).toNat)
                    case atStart => exact ⟨0, Nat.zero_le _, rfl, by simp [cntGe], HXI.out.drew⟩
                    case round =>
                      obtain ⟨q, hq, rfl, rfl, hxq⟩ := hrel
                      have HXQ := Lib.hid hxq
                      have zq := hxq.size
                      have HBQ := Lib.hid (HB_v1.out.trans (hxq.mono HB_v1.out.size))
                      clear hxq
                      have hq0 : (0 : Int) ≤ (q : Int) := by omega
                      have hcq : cntGe ⟨xr, xp⟩ (L.take q) ≤ 7 := Nat.le_trans (cnt_le _ _) (by rw [List.length_take]; omega)
                      by_cases hql : q < k
                      · have hqL : q < L.length := by rw [HN.out]; exact hql
                        have hq1 : (q : Int) < (k : Int) := by omega
                        have Q1 := Lib.hid (HC.out q hqL)
                        have QN := Lib.hid (cnt_next ⟨xr, xp⟩ L q hqL)
                        generalize L[q] = z at Q1 QN
                        obtain ⟨zi, zs, ⟨zr, zp⟩, ⟨hk, hc, hq9, ⟨rk, ra, rb, rc⟩⟩⟩ := z
                        dsimp only at Q1 QN
                        obtain ⟨m, hm⟩ : ∃ m, cntGe ⟨xr, xp⟩ (L.take q) = m := ⟨_, rfl⟩
                        rw [hm] at QN hcq ⊢
                        clear hm
                        by_cases hzs : zs = 3
                        · subst hzs
                          have RL := rless_any ⟨zr, zp⟩ ⟨xr, xp⟩
                          simp only [Ba.cells] at RL
                          cases hls : lessB ⟨zr, zp⟩ ⟨xr, xp⟩
                          · rw [hls] at RL QN
                            have RL := Lib.hid RL
                            have SOF : Hid (∀ u : World, Below w.heap.size w u → (u.cell? ⟨b, o + q * 11 + 1, none⟩ = some (.int .u8 ((3 : Nat) : Int)) ∧ u.cell? ⟨b, o + q * 11 + 2, none⟩ = some (.int .i64 zr) ∧ u.cell? ⟨b, o + q * 11 + 3, none⟩ = some (.int .i64 zp) ∧ u.cell? ⟨b, o + i * 11 + 1, none⟩ = some (.int .u8 ((3 : Nat) : Int)) ∧ u.cell? ⟨b, o + i * 11 + 2, none⟩ = some (.int .i64 xr) ∧ u.cell? ⟨b, o + i * 11 + 3, none⟩ = some (.int .i64 xp))) := fun u hu => ⟨(Q1.out u hu).1, (Q1.out u hu).2.1, (Q1.out u hu).2.2, (C1.out u hu).1, (C1.out u hu).2.1, (C1.out u hu).2.2⟩
                            clear hls
                            go_wp2_with fail
                            refine wp_region_held_drew (S := (fun u : World => u.cell? ⟨b, o + q * 11 + 1, none⟩ = some (.int .u8 ((3 : Nat) : Int)) ∧ u.cell? ⟨b, o + q * 11 + 2, none⟩ = some (.int .i64 zr) ∧ u.cell? ⟨b, o + q * 11 + 3, none⟩ = some (.int .i64 zp) ∧ u.cell? ⟨b, o + i * 11 + 1, none⟩ = some (.int .u8 ((3 : Nat) : Int)) ∧ u.cell? ⟨b, o + i * 11 + 2, none⟩ = some (.int .i64 xr) ∧ u.cell? ⟨b, o + i * 11 + 3, none⟩ = some (.int .i64 xp))) (by kernel_rfl) (SOF.out _ HBQ.out.drew) (fun HS => ?_)
                            refine handTake 0 (some 91) ?_ rfl rfl (by kernel_rfl) (by kernel_rfl) (by kernel_rfl) (fun _ _ _ h => h) (by rfl) ?_ HS ?_
                            rotate_left
                            · (intro u hu; (try dsimp only at hu); go_simp; try with_reducible rfl)
                            simp only [Act.put, List.setIfInBounds_toArray, List.set_cons_zero, List.set_cons_succ]
                            refine handTake 1 (some 92) ?_ rfl rfl (by kernel_rfl) (by kernel_rfl) (by kernel_rfl) (fun _ _ _ h => h) (by rfl) ?_ HS ?_
                            rotate_left
                            · (intro u hu; (try dsimp only at hu); go_simp; try with_reducible rfl)
                            simp only [Act.put, List.setIfInBounds_toArray, List.set_cons_zero, List.set_cons_succ]
                            refine handTake 2 (some 93) ?_ rfl rfl (by kernel_rfl) (by kernel_rfl) (by kernel_rfl) (fun _ _ _ h => h) (by rfl) ?_ HS ?_
                            rotate_left
                            · (intro u hu; (try dsimp only at hu); go_simp; try with_reducible rfl)
                            simp only [Act.put, List.setIfInBounds_toArray, List.set_cons_zero, List.set_cons_succ]
                            refine handTake 3 (some 94) ?_ rfl rfl (by kernel_rfl) (by kernel_rfl) (by kernel_rfl) (fun _ _ _ h => h) (by rfl) ?_ HS ?_
                            rotate_left
                            · (intro u hu; (try dsimp only at hu); go_simp; try with_reducible rfl)
                            simp only [Act.put, List.setIfInBounds_toArray, List.set_cons_zero, List.set_cons_succ]
                            refine handTake 4 (some 95) ?_ rfl rfl (by kernel_rfl) (by kernel_rfl) (by kernel_rfl) (fun _ _ _ h => h) (by rfl) ?_ HS ?_
                            rotate_left
                            · (intro u hu; (try dsimp only at hu); go_simp; try with_reducible rfl)
                            simp only [Act.put, List.setIfInBounds_toArray, List.set_cons_zero, List.set_cons_succ]
                            refine handTake 5 (some 96) ?_ rfl rfl (by kernel_rfl) (by kernel_rfl) (by kernel_rfl) (fun _ _ _ h => h) (by rfl) ?_ HS ?_
                            rotate_left
                            · (intro u hu; (try dsimp only at hu); go_simp; try with_reducible rfl)
                            simp only [Act.put, List.setIfInBounds_toArray, List.set_cons_zero, List.set_cons_succ]
                            refine handTake 6 (some 97) ?_ rfl rfl (by kernel_rfl) (by kernel_rfl) (by kernel_rfl) (fun _ _ _ h => h) (by rfl) ?_ HS ?_
                            rotate_left
                            · (intro u hu; (try dsimp only at hu); go_simp; try with_reducible rfl)
                            simp only [Act.put, List.setIfInBounds_toArray, List.set_cons_zero, List.set_cons_succ]
                            refine handTake 7 (some 98) ?_ rfl rfl (by kernel_rfl) (by kernel_rfl) (by kernel_rfl) (fun _ _ _ h => h) (by rfl) ?_ HS ?_
                            rotate_left
                            · (intro u hu; (try dsimp only at hu); go_simp; try with_reducible rfl)
                            simp only [Act.put, List.setIfInBounds_toArray, List.set_cons_zero, List.set_cons_succ]
                            refine handTake 8 (some 99) ?_ rfl rfl (by kernel_rfl) (by kernel_rfl) (by kernel_rfl) (fun _ _ _ h => h) (by rfl) ?_ HS ?_
                            rotate_left
                            · (intro u hu; (try dsimp only at hu); go_simp; try with_reducible rfl)
                            simp only [Act.put, List.setIfInBounds_toArray, List.set_cons_zero, List.set_cons_succ]
                            refine handTake 9 (some 100) ?_ rfl rfl (by kernel_rfl) (by kernel_rfl) (by kernel_rfl) (fun _ _ _ h => h) (by rfl) ?_ HS ?_
                            rotate_left
                            · (intro u hu; (try dsimp only at hu); go_simp; try with_reducible rfl)
                            simp only [Act.put, List.setIfInBounds_toArray, List.set_cons_zero, List.set_cons_succ]
                            refine handTake 10 (some 101) ?_ rfl rfl (by kernel_rfl) (by kernel_rfl) (by kernel_rfl) (fun _ _ _ h => h) (by rfl) ?_ HS ?_
                            rotate_left
                            · (intro u hu; (try dsimp only at hu); go_simp; try with_reducible rfl)
                            simp only [Act.put, List.setIfInBounds_toArray, List.set_cons_zero, List.set_cons_succ]
                            refine handTake 11 (some 102) ?_ rfl rfl (by kernel_rfl) (by kernel_rfl) (by kernel_rfl) (fun _ _ _ h => h) (by rfl) ?_ HS ?_
                            rotate_left
                            · (intro u hu; (try dsimp only at hu); go_simp; try with_reducible rfl)
                            simp only [Act.put, List.setIfInBounds_toArray, List.set_cons_zero, List.set_cons_succ]
                            refine handTake 12 (some 103) ?_ rfl rfl (by kernel_rfl) (by kernel_rfl) (by kernel_rfl) (fun _ _ _ h => h) (by rfl) ?_ HS ?_
                            rotate_left
                            · (intro u hu; (try dsimp only at hu); go_simp; try with_reducible rfl)
                            simp only [Act.put, List.setIfInBounds_toArray, List.set_cons_zero, List.set_cons_succ]
                            refine handTake 13 (some 104) ?_ rfl rfl (by kernel_rfl) (by kernel_rfl) (by kernel_rfl) (fun _ _ _ h => h) (by rfl) ?_ HS ?_
                            rotate_left
                            · (intro u hu; (try dsimp only at hu); go_simp; try with_reducible rfl)
                            simp only [Act.put, List.setIfInBounds_toArray, List.set_cons_zero, List.set_cons_succ]
                            refine handTake 14 (some 105) ?_ rfl rfl (by kernel_rfl) (by kernel_rfl) (by kernel_rfl) (fun _ _ _ h => h) (by rfl) ?_ HS ?_
                            rotate_left
                            · (intro u hu; (try dsimp only at hu); go_simp; try with_reducible rfl)
                            simp only [Act.put, List.setIfInBounds_toArray, List.set_cons_zero, List.set_cons_succ]
                            refine handTake 15 (some 106) ?_ rfl rfl (by kernel_rfl) (by kernel_rfl) (by kernel_rfl) (fun _ _ _ h => h) (by rfl) ?_ HS ?_
                            rotate_left
                            · (intro u hu; (try dsimp only at hu); go_simp; try with_reducible rfl)
                            simp only [Act.put, List.setIfInBounds_toArray, List.set_cons_zero, List.set_cons_succ]
                            refine handTake 16 (some 107) ?_ rfl rfl (by kernel_rfl) (by kernel_rfl) (by kernel_rfl) (fun _ _ _ h => h) (by rfl) ?_ HS ?_
                            rotate_left
                            · (intro u hu; (try dsimp only at hu); go_simp; try with_reducible rfl)
                            simp only [Act.put, List.setIfInBounds_toArray, List.set_cons_zero, List.set_cons_succ]
                            refine wpAnyH_ready (rs := [17]) (by kernel_rfl) (by simp) ?_
                            refine AllReadyH.cons rfl (fun K hK => ?_) AllReadyH.nil
                            go_simp
                            clear HS
                            refine (RL.out _).mono ?_
                            rintro e u3 ⟨rfl, hb⟩
                            have HX3 := Lib.hid (HXQ.out.drew.trans (hb.mono HXQ.out.drew.size))
                            have S3 := Lib.hid (SOF.out _ (HBQ.out.drew.trans (hb.mono HBQ.out.drew.size)))
                            clear hb
                            go_wp2_with fail
                            refine hK.out _ _ (S3.out) (fun HS => ?_)
                            clear hK
                            try simp only [Act.put, List.setIfInBounds_toArray, List.set_cons_zero, List.set_cons_succ]
                            refine handTake 18 (some 109) ?_ rfl rfl (by kernel_rfl) (by kernel_rfl) (by kernel_rfl) (fun _ _ _ h => h) (by rfl) ?_ HS ?_
                            rotate_left
                            · (intro u hu; (try dsimp only at hu); go_simp; try with_reducible rfl)
                            simp only [Act.put, List.setIfInBounds_toArray, List.set_cons_zero, List.set_cons_succ]
                            refine handTake 19 (some 110) ?_ rfl rfl (by kernel_rfl) (by kernel_rfl) (by kernel_rfl) (fun _ _ _ h => h) (by rfl) ?_ HS ?_
                            rotate_left
                            · (intro u hu; (try dsimp only at hu); go_simp; try with_reducible rfl)
                            simp only [Act.put, List.setIfInBounds_toArray, List.set_cons_zero, List.set_cons_succ]
                            refine wpAnyH_done (by kernel_rfl) ?_ _
                            clear HS
                            go_wp2_with fail
                            go_roundw
                            case rel => exact ⟨q + 1, by omega, by go_num, by rw [QN.out]; simp; omega, HX3.out⟩
                            case measure => show k - ((q : Int) + 1).toNat < k - (q : Int).toNat; omega
                          · rw [hls] at RL QN
                            have RL := Lib.hid RL
                            have SOF : Hid (∀ u : World, Below w.heap.size w u → (u.cell? ⟨b, o + q * 11 + 1, none⟩ = some (.int .u8 ((3 : Nat) : Int)) ∧ u.cell? ⟨b, o + q * 11 + 2, none⟩ = some (.int .i64 zr) ∧ u.cell? ⟨b, o + q * 11 + 3, none⟩ = some (.int .i64 zp) ∧ u.cell? ⟨b, o + i * 11 + 1, none⟩ = some (.int .u8 ((3 : Nat) : Int)) ∧ u.cell? ⟨b, o + i * 11 + 2, none⟩ = some (.int .i64 xr) ∧ u.cell? ⟨b, o + i * 11 + 3, none⟩ = some (.int .i64 xp))) := fun u hu => ⟨(Q1.out u hu).1, (Q1.out u hu).2.1, (Q1.out u hu).2.2, (C1.out u hu).1, (C1.out u hu).2.1, (C1.out u hu).2.2⟩
                            clear hls
                            go_wp2_with fail
                            refine wp_region_held_drew (S := (fun u : World => u.cell? ⟨b, o + q * 11 + 1, none⟩ = some (.int .u8 ((3 : Nat) : Int)) ∧ u.cell? ⟨b, o + q * 11 + 2, none⟩ = some (.int .i64 zr) ∧ u.cell? ⟨b, o + q * 11 + 3, none⟩ = some (.int .i64 zp) ∧ u.cell? ⟨b, o + i * 11 + 1, none⟩ = some (.int .u8 ((3 : Nat) : Int)) ∧ u.cell? ⟨b, o + i * 11 + 2, none⟩ = some (.int .i64 xr) ∧ u.cell? ⟨b, o + i * 11 + 3, none⟩ = some (.int .i64 xp))) (by kernel_rfl) (SOF.out _ HBQ.out.drew) (fun HS => ?_)
                            refine handTake 0 (some 91) ?_ rfl rfl (by kernel_rfl) (by kernel_rfl) (by kernel_rfl) (fun _ _ _ h => h) (by rfl) ?_ HS ?_
                            rotate_left
                            · (intro u hu; (try dsimp only at hu); go_simp; try with_reducible rfl)
                            simp only [Act.put, List.setIfInBounds_toArray, List.set_cons_zero, List.set_cons_succ]
                            refine handTake 1 (some 92) ?_ rfl rfl (by kernel_rfl) (by kernel_rfl) (by kernel_rfl) (fun _ _ _ h => h) (by rfl) ?_ HS ?_
                            rotate_left
                            · (intro u hu; (try dsimp only at hu); go_simp; try with_reducible rfl)
                            simp only [Act.put, List.setIfInBounds_toArray, List.set_cons_zero, List.set_cons_succ]
                            refine handTake 2 (some 93) ?_ rfl rfl (by kernel_rfl) (by kernel_rfl) (by kernel_rfl) (fun _ _ _ h => h) (by rfl) ?_ HS ?_
                            rotate_left
                            · (intro u hu; (try dsimp only at hu); go_simp; try with_reducible rfl)
                            simp only [Act.put, List.setIfInBounds_toArray, List.set_cons_zero, List.set_cons_succ]
                            refine handTake 3 (some 94) ?_ rfl rfl (by kernel_rfl) (by kernel_rfl) (by kernel_rfl) (fun _ _ _ h => h) (by rfl) ?_ HS ?_
                            rotate_left
                            · (intro u hu; (try dsimp only at hu); go_simp; try with_reducible rfl)
                            simp only [Act.put, List.setIfInBounds_toArray, List.set_cons_zero, List.set_cons_succ]
                            refine handTake 4 (some 95) ?_ rfl rfl (by kernel_rfl) (by kernel_rfl) (by kernel_rfl) (fun _ _ _ h => h) (by rfl) ?_ HS ?_
                            rotate_left
                            · (intro u hu; (try dsimp only at hu); go_simp; try with_reducible rfl)
                            simp only [Act.put, List.setIfInBounds_toArray, List.set_cons_zero, List.set_cons_succ]
                            refine handTake 5 (some 96) ?_ rfl rfl (by kernel_rfl) (by kernel_rfl) (by kernel_rfl) (fun _ _ _ h => h) (by rfl) ?_ HS ?_
                            rotate_left
                            · (intro u hu; (try dsimp only at hu); go_simp; try with_reducible rfl)
                            simp only [Act.put, List.setIfInBounds_toArray, List.set_cons_zero, List.set_cons_succ]
                            refine handTake 6 (some 97) ?_ rfl rfl (by kernel_rfl) (by kernel_rfl) (by kernel_rfl) (fun _ _ _ h => h) (by rfl) ?_ HS ?_
                            rotate_left
                            · (intro u hu; (try dsimp only at hu); go_simp; try with_reducible rfl)
                            simp only [Act.put, List.setIfInBounds_toArray, List.set_cons_zero, List.set_cons_succ]
                            refine handTake 7 (some 98) ?_ rfl rfl (by kernel_rfl) (by kernel_rfl) (by kernel_rfl) (fun _ _ _ h => h) (by rfl) ?_ HS ?_
                            rotate_left
                            · (intro u hu; (try dsimp only at hu); go_simp; try with_reducible rfl)
                            simp only [Act.put, List.setIfInBounds_toArray, List.set_cons_zero, List.set_cons_succ]
                            refine handTake 8 (some 99) ?_ rfl rfl (by kernel_rfl) (by kernel_rfl) (by kernel_rfl) (fun _ _ _ h => h) (by rfl) ?_ HS ?_
                            rotate_left
                            · (intro u hu; (try dsimp only at hu); go_simp; try with_reducible rfl)
                            simp only [Act.put, List.setIfInBounds_toArray, List.set_cons_zero, List.set_cons_succ]
                            refine handTake 9 (some 100) ?_ rfl rfl (by kernel_rfl) (by kernel_rfl) (by kernel_rfl) (fun _ _ _ h => h) (by rfl) ?_ HS ?_
                            rotate_left
                            · (intro u hu; (try dsimp only at hu); go_simp; try with_reducible rfl)
                            simp only [Act.put, List.setIfInBounds_toArray, List.set_cons_zero, List.set_cons_succ]
                            refine handTake 10 (some 101) ?_ rfl rfl (by kernel_rfl) (by kernel_rfl) (by kernel_rfl) (fun _ _ _ h => h) (by rfl) ?_ HS ?_
                            rotate_left
                            · (intro u hu; (try dsimp only at hu); go_simp; try with_reducible rfl)
                            simp only [Act.put, List.setIfInBounds_toArray, List.set_cons_zero, List.set_cons_succ]
                            refine handTake 11 (some 102) ?_ rfl rfl (by kernel_rfl) (by kernel_rfl) (by kernel_rfl) (fun _ _ _ h => h) (by rfl) ?_ HS ?_
                            rotate_left
                            · (intro u hu; (try dsimp only at hu); go_simp; try with_reducible rfl)
                            simp only [Act.put, List.setIfInBounds_toArray, List.set_cons_zero, List.set_cons_succ]
                            refine handTake 12 (some 103) ?_ rfl rfl (by kernel_rfl) (by kernel_rfl) (by kernel_rfl) (fun _ _ _ h => h) (by rfl) ?_ HS ?_
                            rotate_left
                            · (intro u hu; (try dsimp only at hu); go_simp; try with_reducible rfl)
                            simp only [Act.put, List.setIfInBounds_toArray, List.set_cons_zero, List.set_cons_succ]
                            refine handTake 13 (some 104) ?_ rfl rfl (by kernel_rfl) (by kernel_rfl) (by kernel_rfl) (fun _ _ _ h => h) (by rfl) ?_ HS ?_
                            rotate_left
                            · (intro u hu; (try dsimp only at hu); go_simp; try with_reducible rfl)
                            simp only [Act.put, List.setIfInBounds_toArray, List.set_cons_zero, List.set_cons_succ]
                            refine handTake 14 (some 105) ?_ rfl rfl (by kernel_rfl) (by kernel_rfl) (by kernel_rfl) (fun _ _ _ h => h) (by rfl) ?_ HS ?_
                            rotate_left
                            · (intro u hu; (try dsimp only at hu); go_simp; try with_reducible rfl)
                            simp only [Act.put, List.setIfInBounds_toArray, List.set_cons_zero, List.set_cons_succ]
                            refine handTake 15 (some 106) ?_ rfl rfl (by kernel_rfl) (by kernel_rfl) (by kernel_rfl) (fun _ _ _ h => h) (by rfl) ?_ HS ?_
                            rotate_left
                            · (intro u hu; (try dsimp only at hu); go_simp; try with_reducible rfl)
                            simp only [Act.put, List.setIfInBounds_toArray, List.set_cons_zero, List.set_cons_succ]
                            refine handTake 16 (some 107) ?_ rfl rfl (by kernel_rfl) (by kernel_rfl) (by kernel_rfl) (fun _ _ _ h => h) (by rfl) ?_ HS ?_
                            rotate_left
                            · (intro u hu; (try dsimp only at hu); go_simp; try with_reducible rfl)
                            simp only [Act.put, List.setIfInBounds_toArray, List.set_cons_zero, List.set_cons_succ]
                            refine wpAnyH_ready (rs := [17]) (by kernel_rfl) (by simp) ?_
                            refine AllReadyH.cons rfl (fun K hK => ?_) AllReadyH.nil
                            go_simp
                            clear HS
                            refine (RL.out _).mono ?_
                            rintro e u3 ⟨rfl, hb⟩
                            have HX3 := Lib.hid (HXQ.out.drew.trans (hb.mono HXQ.out.drew.size))
                            have S3 := Lib.hid (SOF.out _ (HBQ.out.drew.trans (hb.mono HBQ.out.drew.size)))
                            clear hb
                            go_wp2_with fail
                            refine hK.out _ _ (S3.out) (fun HS => ?_)
                            clear hK
                            try simp only [Act.put, List.setIfInBounds_toArray, List.set_cons_zero, List.set_cons_succ]
                            refine handTake 18 (some 109) ?_ rfl rfl (by kernel_rfl) (by kernel_rfl) (by kernel_rfl) (fun _ _ _ h => h) (by rfl) ?_ HS ?_
                            rotate_left
                            · (intro u hu; (try dsimp only at hu); go_simp; try with_reducible rfl)
                            simp only [Act.put, List.setIfInBounds_toArray, List.set_cons_zero, List.set_cons_succ]
                            refine handTake 19 (some 110) ?_ rfl rfl (by kernel_rfl) (by kernel_rfl) (by kernel_rfl) (fun _ _ _ h => h) (by rfl) ?_ HS ?_
                            rotate_left
                            · (intro u hu; (try dsimp only at hu); go_simp; try with_reducible rfl)
                            simp only [Act.put, List.setIfInBounds_toArray, List.set_cons_zero, List.set_cons_succ]
                            refine wpAnyH_done (by kernel_rfl) ?_ _
                            clear HS
                            go_wp2_with fail
                            go_roundw
                            case rel => exact ⟨q + 1, by omega, by go_num, by rw [QN.out]; simp, HX3.out⟩
                            case measure => show k - ((q : Int) + 1).toNat < k - (q : Int).toNat; omega
                        · have hne : ((zs : Int) == 3) = false := by simp; omega
                          have hnb : (zs == 3) = false := by simp; omega
                          have HQN : Hid (cntGe ⟨xr, xp⟩ (L.take (q + 1)) = m) := by show cntGe _ _ = m; rw [QN.out, hnb]; simp
                          clear hnb QN hzs
                          go_wp2_with fail
                          refine wp_region_held_drew (S := (fun u : World => u.cell? ⟨b, o + q * 11 + 1, none⟩ = some (.int .u8 (zs : Nat)))) (by kernel_rfl) ((Q1.out _ HBQ.out.drew).1) (fun HS => ?_)
                          refine handTake 0 (some 91) ?_ rfl rfl (by kernel_rfl) (by kernel_rfl) (by kernel_rfl) (fun _ _ _ h => h) (by rfl) ?_ HS ?_
                          rotate_left
                          · (intro u hu; (try dsimp only at hu); go_simp; try with_reducible rfl)
                          simp only [Act.put, List.setIfInBounds_toArray, List.set_cons_zero, List.set_cons_succ]
                          refine handTake 1 (some 92) ?_ rfl rfl (by kernel_rfl) (by kernel_rfl) (by kernel_rfl) (fun _ _ _ h => h) (by rfl) ?_ HS ?_
                          rotate_left
                          · (intro u hu; (try dsimp only at hu); go_simp; try with_reducible rfl)
                          simp only [Act.put, List.setIfInBounds_toArray, List.set_cons_zero, List.set_cons_succ]
                          refine handTake 2 (some 93) ?_ rfl rfl (by kernel_rfl) (by kernel_rfl) (by kernel_rfl) (fun _ _ _ h => h) (by rfl) ?_ HS ?_
                          rotate_left
                          · (intro u hu; (try dsimp only at hu); go_simp; try with_reducible rfl)
                          simp only [Act.put, List.setIfInBounds_toArray, List.set_cons_zero, List.set_cons_succ]
                          refine handTake 3 (some 94) ?_ rfl rfl (by kernel_rfl) (by kernel_rfl) (by kernel_rfl) (fun _ _ _ h => h) (by rfl) ?_ HS ?_
                          rotate_left
                          · (intro u hu; (try dsimp only at hu); go_simp; try with_reducible rfl)
                          simp only [Act.put, List.setIfInBounds_toArray, List.set_cons_zero, List.set_cons_succ]
                          refine handTake 4 (some 95) ?_ rfl rfl (by kernel_rfl) (by kernel_rfl) (by kernel_rfl) (fun _ _ _ h => h) (by rfl) ?_ HS ?_
                          rotate_left
                          · (intro u hu; (try dsimp only at hu); go_simp; try with_reducible rfl)
                          simp only [Act.put, List.setIfInBounds_toArray, List.set_cons_zero, List.set_cons_succ]
                          refine handTake 5 (some 96) ?_ rfl rfl (by kernel_rfl) (by kernel_rfl) (by kernel_rfl) (fun _ _ _ h => h) (by rfl) ?_ HS ?_
                          rotate_left
                          · (intro u hu; (try dsimp only at hu); go_simp; try with_reducible rfl)
                          simp only [Act.put, List.setIfInBounds_toArray, List.set_cons_zero, List.set_cons_succ]
                          refine handTake 6 (some 97) ?_ rfl rfl (by kernel_rfl) (by kernel_rfl) (by kernel_rfl) (fun _ _ _ h => h) (by rfl) ?_ HS ?_
                          rotate_left
                          · (intro u hu; (try dsimp only at hu); go_simp; try with_reducible rfl)
                          simp only [Act.put, List.setIfInBounds_toArray, List.set_cons_zero, List.set_cons_succ]
                          refine handSkip 7 (some 98) rfl rfl (by kernel_rfl) (by kernel_rfl) (by kernel_rfl) (fun _ _ _ h => h) (by rfl) HS ?_
                          simp only [Act.put, List.setIfInBounds_toArray, List.set_cons_zero, List.set_cons_succ]
                          refine handSkip 8 (some 99) rfl rfl (by kernel_rfl) (by kernel_rfl) (by kernel_rfl) (fun _ _ _ h => h) (by rfl) HS ?_
                          simp only [Act.put, List.setIfInBounds_toArray, List.set_cons_zero, List.set_cons_succ]
                          refine handSkip 9 (some 100) rfl rfl (by kernel_rfl) (by kernel_rfl) (by kernel_rfl) (fun _ _ _ h => h) (by rfl) HS ?_
                          simp only [Act.put, List.setIfInBounds_toArray, List.set_cons_zero, List.set_cons_succ]
                          refine handSkip 10 (some 101) rfl rfl (by kernel_rfl) (by kernel_rfl) (by kernel_rfl) (fun _ _ _ h => h) (by rfl) HS ?_
                          simp only [Act.put, List.setIfInBounds_toArray, List.set_cons_zero, List.set_cons_succ]
                          refine handSkip 11 (some 102) rfl rfl (by kernel_rfl) (by kernel_rfl) (by kernel_rfl) (fun _ _ _ h => h) (by rfl) HS ?_
                          simp only [Act.put, List.setIfInBounds_toArray, List.set_cons_zero, List.set_cons_succ]
                          refine handSkip 12 (some 103) rfl rfl (by kernel_rfl) (by kernel_rfl) (by kernel_rfl) (fun _ _ _ h => h) (by rfl) HS ?_
                          simp only [Act.put, List.setIfInBounds_toArray, List.set_cons_zero, List.set_cons_succ]
                          refine handSkip 13 (some 104) rfl rfl (by kernel_rfl) (by kernel_rfl) (by kernel_rfl) (fun _ _ _ h => h) (by rfl) HS ?_
                          simp only [Act.put, List.setIfInBounds_toArray, List.set_cons_zero, List.set_cons_succ]
                          refine handSkip 14 (some 105) rfl rfl (by kernel_rfl) (by kernel_rfl) (by kernel_rfl) (fun _ _ _ h => h) (by rfl) HS ?_
                          simp only [Act.put, List.setIfInBounds_toArray, List.set_cons_zero, List.set_cons_succ]
                          refine handSkip 15 (some 106) rfl rfl (by kernel_rfl) (by kernel_rfl) (by kernel_rfl) (fun _ _ _ h => h) (by rfl) HS ?_
                          simp only [Act.put, List.setIfInBounds_toArray, List.set_cons_zero, List.set_cons_succ]
                          refine handSkip 16 (some 107) rfl rfl (by kernel_rfl) (by kernel_rfl) (by kernel_rfl) (fun _ _ _ h => h) (by rfl) HS ?_
                          simp only [Act.put, List.setIfInBounds_toArray, List.set_cons_zero, List.set_cons_succ]
                          refine handSkip 17 (some 108) rfl rfl (by kernel_rfl) (by kernel_rfl) (by kernel_rfl) (fun _ _ _ h => h) (by rfl) HS ?_
                          simp only [Act.put, List.setIfInBounds_toArray, List.set_cons_zero, List.set_cons_succ]
                          refine handSkip 18 (some 109) rfl rfl (by kernel_rfl) (by kernel_rfl) (by kernel_rfl) (fun _ _ _ h => h) (by rfl) HS ?_
                          simp only [Act.put, List.setIfInBounds_toArray, List.set_cons_zero, List.set_cons_succ]
                          refine handTake 19 (some 110) ?_ rfl rfl (by kernel_rfl) (by kernel_rfl) (by kernel_rfl) (fun _ _ _ h => h) (by rfl) ?_ HS ?_
                          rotate_left
                          · (intro u hu; (try dsimp only at hu); go_simp; try with_reducible rfl)
                          simp only [Act.put, List.setIfInBounds_toArray, List.set_cons_zero, List.set_cons_succ]
                          refine wpAnyH_done (by kernel_rfl) ?_ _
                          clear HS
                          go_wp2_with fail
                          go_roundw
                          case rel => exact ⟨q + 1, by omega, by go_num, by rw [HQN.out], HXQ.out.drew⟩
                          case measure => show k - ((q : Int) + 1).toNat < k - (q : Int).toNat; omega
                      · have e : q = k := by omega
                        subst e
                        have hE : L.take q = L := by rw [← HN.out, List.take_length]
                        rw [hE] at hcq ⊢
                        generalize cntGe ⟨xr, xp⟩ L = m at *
                        by_cases hmM : (M : Int) ≤ (c0 : Int) + (c4 : Int) + (m : Int)
                        · have HFF : Hid (fineB (q : Int) L ⟨xi, 3, ⟨xr, xp⟩, ⟨ek, ec, eq, ⟨ok, oa, ob, oc⟩⟩⟩ = false) := by show fineB _ _ _ = false; rw [AB.out, decide_eq_false (by omega)]
                          go_wp2_with fail
                          go_roundw
                          case rel => exact ⟨i + 1, by omega, by go_num, by rw [HNX.out, HFF.out]; simp, HXQ.out⟩
                          case measure => show q - ((i : Int) + 1).toNat < q - (i : Int).toNat; omega
                        · have HFF : Hid (fineB (q : Int) L ⟨xi, 3, ⟨xr, xp⟩, ⟨ek, ec, eq, ⟨ok, oa, ob, oc⟩⟩⟩ = true) := by show fineB _ _ _ = true; rw [AB.out, decide_eq_true (by omega)]
                          go_wp2_with fail
                          go_roundw
                          case rel => exact ⟨i + 1, by omega, by go_num, by rw [HNX.out, HFF.out]; simp, HXQ.out⟩
                          case measure => show q - ((i : Int) + 1).toNat < q - (i : Int).toNat; omega
                  · subst hg
                    have hj0 : (0 : Int) ≤ (j : Int) := by omega
                    have hj1 : (j : Int) < (k : Int) := by rw [← HN.out]; omega
                    have J1 := Lib.hid (HC.out j hj)
                    rw [hgs] at HFI
                    have HFI2 := HFI.out
                    generalize hyj : L[j] = y at J1 HFI2
                    clear HFI hgs hyj
                    obtain ⟨yi, ys, ⟨yr, yp⟩, ⟨gk, gc, gq, ⟨qk, qa, qb, qc⟩⟩⟩ := y
                    dsimp only at J1 HFI2
                    have HFI := Lib.hid HFI2
                    clear HFI2
                    have RL := rless_any ⟨yr, yp⟩ ⟨xr, xp⟩
                    simp only [Ba.cells] at RL
                    cases hls : lessB ⟨yr, yp⟩ ⟨xr, xp⟩
                    · rw [hls] at RL
                      have RL := Lib.hid RL
                      have SOF : Hid (∀ u : World, Below w.heap.size w u → (u.cell? ⟨b, o + i * 11 + 1, none⟩ = some (.int .u8 ((3 : Nat) : Int)) ∧ u.cell? ⟨b, o + i * 11 + 2, none⟩ = some (.int .i64 xr) ∧ u.cell? ⟨b, o + i * 11 + 3, none⟩ = some (.int .i64 xp) ∧ u.cell? ⟨b, o + j * 11 + 1, none⟩ = some (.int .u8 (ys : Nat)) ∧ u.cell? ⟨b, o + j * 11 + 2, none⟩ = some (.int .i64 yr) ∧ u.cell? ⟨b, o + j * 11 + 3, none⟩ = some (.int .i64 yp))) := fun u hu => ⟨(C1.out u hu).1, (C1.out u hu).2.1, (C1.out u hu).2.2, (J1.out u hu).1, (J1.out u hu).2.1, (J1.out u hu).2.2⟩
                      have AB : Hid (fineB (k : Int) L ⟨xi, 3, ⟨xr, xp⟩, ⟨ek, ec, eq, ⟨ok, oa, ob, oc⟩⟩⟩ = true) := by
                        show fineB _ _ _ = _
                        rw [HFI.out]; unfold above; dsimp only; rw [hls]; rfl
                      clear hls HFI
                      go_wp2_with fail
                      refine wp_region_held_drew (S := (fun u : World => u.cell? ⟨b, o + i * 11 + 1, none⟩ = some (.int .u8 ((3 : Nat) : Int)) ∧ u.cell? ⟨b, o + i * 11 + 2, none⟩ = some (.int .i64 xr) ∧ u.cell? ⟨b, o + i * 11 + 3, none⟩ = some (.int .i64 xp) ∧ u.cell? ⟨b, o + j * 11 + 1, none⟩ = some (.int .u8 (ys : Nat)) ∧ u.cell? ⟨b, o + j * 11 + 2, none⟩ = some (.int .i64 yr) ∧ u.cell? ⟨b, o + j * 11 + 3, none⟩ = some (.int .i64 yp))) (by kernel_rfl) (SOF.out _ HB_wr.out.drew) (fun HS => ?_)
                      refine handTake 0 (some 59) ?_ rfl rfl (by kernel_rfl) (by kernel_rfl) (by kernel_rfl) (fun _ _ _ h => h) (by rfl) ?_ HS ?_
                      rotate_left
                      · (intro u hu; (try dsimp only at hu); go_simp; try with_reducible rfl)
                      simp only [Act.put, List.setIfInBounds_toArray, List.set_cons_zero, List.set_cons_succ]
                      refine handTake 1 (some 60) ?_ rfl rfl (by kernel_rfl) (by kernel_rfl) (by kernel_rfl) (fun _ _ _ h => h) (by rfl) ?_ HS ?_
                      rotate_left
                      · (intro u hu; (try dsimp only at hu); go_simp; try with_reducible rfl)
                      simp only [Act.put, List.setIfInBounds_toArray, List.set_cons_zero, List.set_cons_succ]
                      refine handTake 2 (some 61) ?_ rfl rfl (by kernel_rfl) (by kernel_rfl) (by kernel_rfl) (fun _ _ _ h => h) (by rfl) ?_ HS ?_
                      rotate_left
                      · (intro u hu; (try dsimp only at hu); go_simp; try with_reducible rfl)
                      simp only [Act.put, List.setIfInBounds_toArray, List.set_cons_zero, List.set_cons_succ]
                      refine handTake 3 (some 62) ?_ rfl rfl (by kernel_rfl) (by kernel_rfl) (by kernel_rfl) (fun _ _ _ h => h) (by rfl) ?_ HS ?_
                      rotate_left
                      · (intro u hu; (try dsimp only at hu); go_simp; try with_reducible rfl)
                      simp only [Act.put, List.setIfInBounds_toArray, List.set_cons_zero, List.set_cons_succ]
                      refine handTake 4 (some 63) ?_ rfl rfl (by kernel_rfl) (by kernel_rfl) (by kernel_rfl) (fun _ _ _ h => h) (by rfl) ?_ HS ?_
                      rotate_left
                      · (intro u hu; (try dsimp only at hu); go_simp; try with_reducible rfl)
                      simp only [Act.put, List.setIfInBounds_toArray, List.set_cons_zero, List.set_cons_succ]
                      refine handTake 5 (some 64) ?_ rfl rfl (by kernel_rfl) (by kernel_rfl) (by kernel_rfl) (fun _ _ _ h => h) (by rfl) ?_ HS ?_
                      rotate_left
                      · (intro u hu; (try dsimp only at hu); go_simp; try with_reducible rfl)
                      simp only [Act.put, List.setIfInBounds_toArray, List.set_cons_zero, List.set_cons_succ]
                      refine handTake 6 (some 65) ?_ rfl rfl (by kernel_rfl) (by kernel_rfl) (by kernel_rfl) (fun _ _ _ h => h) (by rfl) ?_ HS ?_
                      rotate_left
                      · (intro u hu; (try dsimp only at hu); go_simp; try with_reducible rfl)
                      simp only [Act.put, List.setIfInBounds_toArray, List.set_cons_zero, List.set_cons_succ]
                      refine handTake 7 (some 66) ?_ rfl rfl (by kernel_rfl) (by kernel_rfl) (by kernel_rfl) (fun _ _ _ h => h) (by rfl) ?_ HS ?_
                      rotate_left
                      · (intro u hu; (try dsimp only at hu); go_simp; try with_reducible rfl)
                      simp only [Act.put, List.setIfInBounds_toArray, List.set_cons_zero, List.set_cons_succ]
                      refine handTake 8 (some 67) ?_ rfl rfl (by kernel_rfl) (by kernel_rfl) (by kernel_rfl) (fun _ _ _ h => h) (by rfl) ?_ HS ?_
                      rotate_left
                      · (intro u hu; (try dsimp only at hu); go_simp; try with_reducible rfl)
                      simp only [Act.put, List.setIfInBounds_toArray, List.set_cons_zero, List.set_cons_succ]
                      refine handTake 9 (some 68) ?_ rfl rfl (by kernel_rfl) (by kernel_rfl) (by kernel_rfl) (fun _ _ _ h => h) (by rfl) ?_ HS ?_
                      rotate_left
                      · (intro u hu; (try dsimp only at hu); go_simp; try with_reducible rfl)
                      simp only [Act.put, List.setIfInBounds_toArray, List.set_cons_zero, List.set_cons_succ]
                      refine handTake 10 (some 69) ?_ rfl rfl (by kernel_rfl) (by kernel_rfl) (by kernel_rfl) (fun _ _ _ h => h) (by rfl) ?_ HS ?_
                      rotate_left
                      · (intro u hu; (try dsimp only at hu); go_simp; try with_reducible rfl)
                      simp only [Act.put, List.setIfInBounds_toArray, List.set_cons_zero, List.set_cons_succ]
                      refine handTake 11 (some 70) ?_ rfl rfl (by kernel_rfl) (by kernel_rfl) (by kernel_rfl) (fun _ _ _ h => h) (by rfl) ?_ HS ?_
                      rotate_left
                      · (intro u hu; (try dsimp only at hu); go_simp; try with_reducible rfl)
                      simp only [Act.put, List.setIfInBounds_toArray, List.set_cons_zero, List.set_cons_succ]
                      refine handTake 12 (some 71) ?_ rfl rfl (by kernel_rfl) (by kernel_rfl) (by kernel_rfl) (fun _ _ _ h => h) (by rfl) ?_ HS ?_
                      rotate_left
                      · (intro u hu; (try dsimp only at hu); go_simp; try with_reducible rfl)
                      simp only [Act.put, List.setIfInBounds_toArray, List.set_cons_zero, List.set_cons_succ]
                      refine handTake 13 (some 72) ?_ rfl rfl (by kernel_rfl) (by kernel_rfl) (by kernel_rfl) (fun _ _ _ h => h) (by rfl) ?_ HS ?_
                      rotate_left
                      · (intro u hu; (try dsimp only at hu); go_simp; try with_reducible rfl)
                      simp only [Act.put, List.setIfInBounds_toArray, List.set_cons_zero, List.set_cons_succ]
                      refine handTake 14 (some 73) ?_ rfl rfl (by kernel_rfl) (by kernel_rfl) (by kernel_rfl) (fun _ _ _ h => h) (by rfl) ?_ HS ?_
                      rotate_left
                      · (intro u hu; (try dsimp only at hu); go_simp; try with_reducible rfl)
                      simp only [Act.put, List.setIfInBounds_toArray, List.set_cons_zero, List.set_cons_succ]
                      refine handTake 15 (some 74) ?_ rfl rfl (by kernel_rfl) (by kernel_rfl) (by kernel_rfl) (fun _ _ _ h => h) (by rfl) ?_ HS ?_
                      rotate_left
                      · (intro u hu; (try dsimp only at hu); go_simp; try with_reducible rfl)
                      simp only [Act.put, List.setIfInBounds_toArray, List.set_cons_zero, List.set_cons_succ]
                      refine handTake 16 (some 75) ?_ rfl rfl (by kernel_rfl) (by kernel_rfl) (by kernel_rfl) (fun _ _ _ h => h) (by rfl) ?_ HS ?_
                      rotate_left
                      · (intro u hu; (try dsimp only at hu); go_simp; try with_reducible rfl)
                      simp only [Act.put, List.setIfInBounds_toArray, List.set_cons_zero, List.set_cons_succ]
                      refine handTake 17 (some 76) ?_ rfl rfl (by kernel_rfl) (by kernel_rfl) (by kernel_rfl) (fun _ _ _ h => h) (by rfl) ?_ HS ?_
                      rotate_left
                      · (intro u hu; (try dsimp only at hu); go_simp; try with_reducible rfl)
                      simp only [Act.put, List.setIfInBounds_toArray, List.set_cons_zero, List.set_cons_succ]
                      refine handTake 18 (some 77) ?_ rfl rfl (by kernel_rfl) (by kernel_rfl) (by kernel_rfl) (fun _ _ _ h => h) (by rfl) ?_ HS ?_
                      rotate_left
                      · (intro u hu; (try dsimp only at hu); go_simp; try with_reducible rfl)
                      simp only [Act.put, List.setIfInBounds_toArray, List.set_cons_zero, List.set_cons_succ]
                      refine handTake 19 (some 78) ?_ rfl rfl (by kernel_rfl) (by kernel_rfl) (by kernel_rfl) (fun _ _ _ h => h) (by rfl) ?_ HS ?_
                      rotate_left
                      · (intro u hu; (try dsimp only at hu); go_simp; try with_reducible rfl)
                      simp only [Act.put, List.setIfInBounds_toArray, List.set_cons_zero, List.set_cons_succ]
                      refine wpAnyH_ready (rs := [20]) (by kernel_rfl) (by simp) ?_
                      refine AllReadyH.cons rfl (fun K hK => ?_) AllReadyH.nil
                      go_simp
                      clear HS
                      refine (RL.out _).mono ?_
                      rintro e u2 ⟨rfl, hb⟩
                      have HX2 := Lib.hid (HXI.out.drew.trans (hb.mono HXI.out.drew.size))
                      have S2 := Lib.hid (SOF.out _ (HB_wr.out.drew.trans (hb.mono HB_wr.out.drew.size)))
                      clear hb
                      go_wp2_with fail
                      refine hK.out _ _ (S2.out) (fun HS => ?_)
                      clear hK
                      try simp only [Act.put, List.setIfInBounds_toArray, List.set_cons_zero, List.set_cons_succ]
                      refine handTake 21 (some 80) ?_ rfl rfl (by kernel_rfl) (by kernel_rfl) (by kernel_rfl) (fun _ _ _ h => h) (by rfl) ?_ HS ?_
                      rotate_left
                      · (intro u hu; (try dsimp only at hu); go_simp; try with_reducible rfl)
                      simp only [Act.put, List.setIfInBounds_toArray, List.set_cons_zero, List.set_cons_succ]
                      refine handTake 22 (some 81) ?_ rfl rfl (by kernel_rfl) (by kernel_rfl) (by kernel_rfl) (fun _ _ _ h => h) (by rfl) ?_ HS ?_
                      rotate_left
                      · (intro u hu; (try dsimp only at hu); go_simp; try with_reducible rfl)
                      simp only [Act.put, List.setIfInBounds_toArray, List.set_cons_zero, List.set_cons_succ]
                      refine handTake 23 (some 82) ?_ rfl rfl (by kernel_rfl) (by kernel_rfl) (by kernel_rfl) (fun _ _ _ h => h) (by rfl) ?_ HS ?_
                      rotate_left
                      · (intro u hu; (try dsimp only at hu); go_simp; try with_reducible rfl)
                      simp only [Act.put, List.setIfInBounds_toArray, List.set_cons_zero, List.set_cons_succ]
                      refine wpAnyH_done (by kernel_rfl) ?_ _
                      clear HS
                      go_wp2_with fail
                      go_roundw
                      case rel => exact ⟨i + 1, by omega, by go_num, by rw [HNX.out, AB.out]; simp, HX2.out⟩
                      case measure => show k - ((i : Int) + 1).toNat < k - (i : Int).toNat; omega
                    · rw [hls] at RL
                      have RL := Lib.hid RL
                      have SOF : Hid (∀ u : World, Below w.heap.size w u → (u.cell? ⟨b, o + i * 11 + 1, none⟩ = some (.int .u8 ((3 : Nat) : Int)) ∧ u.cell? ⟨b, o + i * 11 + 2, none⟩ = some (.int .i64 xr) ∧ u.cell? ⟨b, o + i * 11 + 3, none⟩ = some (.int .i64 xp) ∧ u.cell? ⟨b, o + j * 11 + 1, none⟩ = some (.int .u8 (ys : Nat)) ∧ u.cell? ⟨b, o + j * 11 + 2, none⟩ = some (.int .i64 yr) ∧ u.cell? ⟨b, o + j * 11 + 3, none⟩ = some (.int .i64 yp))) := fun u hu => ⟨(C1.out u hu).1, (C1.out u hu).2.1, (C1.out u hu).2.2, (J1.out u hu).1, (J1.out u hu).2.1, (J1.out u hu).2.2⟩
                      have AB : Hid (fineB (k : Int) L ⟨xi, 3, ⟨xr, xp⟩, ⟨ek, ec, eq, ⟨ok, oa, ob, oc⟩⟩⟩ = decide ((c0 : Int) + (c4 : Int) + ((cntGe ⟨xr, xp⟩ L : Nat) : Int) < (M : Int))) := by
                        show fineB _ _ _ = _
                        rw [HFI.out]; unfold above; dsimp only; rw [hls]; rfl
                      clear hls HFI
                      go_wp2_with fail
                      refine wp_region_held_drew (S := (fun u : World => u.cell? ⟨b, o + i * 11 + 1, none⟩ = some (.int .u8 ((3 : Nat) : Int)) ∧ u.cell? ⟨b, o + i * 11 + 2, none⟩ = some (.int .i64 xr) ∧ u.cell? ⟨b, o + i * 11 + 3, none⟩ = some (.int .i64 xp) ∧ u.cell? ⟨b, o + j * 11 + 1, none⟩ = some (.int .u8 (ys : Nat)) ∧ u.cell? ⟨b, o + j * 11 + 2, none⟩ = some (.int .i64 yr) ∧ u.cell? ⟨b, o + j * 11 + 3, none⟩ = some (.int .i64 yp))) (by kernel_rfl) (SOF.out _ HB_wr.out.drew) (fun HS => ?_)
                      refine handTake 0 (some 59) ?_ rfl rfl (by kernel_rfl) (by kernel_rfl) (by kernel_rfl) (fun _ _ _ h => h) (by rfl) ?_ HS ?_
                      rotate_left
                      · (intro u hu; (try dsimp only at hu); go_simp; try with_reducible rfl)
                      simp only [Act.put, List.setIfInBounds_toArray, List.set_cons_zero, List.set_cons_succ]
                      refine handTake 1 (some 60) ?_ rfl rfl (by kernel_rfl) (by kernel_rfl) (by kernel_rfl) (fun _ _ _ h => h) (by rfl) ?_ HS ?_
                      rotate_left
                      · (intro u hu; (try dsimp only at hu); go_simp; try with_reducible rfl)
                      simp only [Act.put, List.setIfInBounds_toArray, List.set_cons_zero, List.set_cons_succ]
                      refine handTake 2 (some 61) ?_ rfl rfl (by kernel_rfl) (by kernel_rfl) (by kernel_rfl) (fun _ _ _ h => h) (by rfl) ?_ HS ?_
                      rotate_left
                      · (intro u hu; (try dsimp only at hu); go_simp; try with_reducible rfl)
                      simp only [Act.put, List.setIfInBounds_toArray, List.set_cons_zero, List.set_cons_succ]
                      refine handTake 3 (some 62) ?_ rfl rfl (by kernel_rfl) (by kernel_rfl) (by kernel_rfl) (fun _ _ _ h => h) (by rfl) ?_ HS ?_
                      rotate_left
                      · (intro u hu; (try dsimp only at hu); go_simp; try with_reducible rfl)
                      simp only [Act.put, List.setIfInBounds_toArray, List.set_cons_zero, List.set_cons_succ]
                      refine handTake 4 (some 63) ?_ rfl rfl (by kernel_rfl) (by kernel_rfl) (by kernel_rfl) (fun _ _ _ h => h) (by rfl) ?_ HS ?_
                      rotate_left
                      · (intro u hu; (try dsimp only at hu); go_simp; try with_reducible rfl)
                      simp only [Act.put, List.setIfInBounds_toArray, List.set_cons_zero, List.set_cons_succ]
                      refine handTake 5 (some 64) ?_ rfl rfl (by kernel_rfl) (by kernel_rfl) (by kernel_rfl) (fun _ _ _ h => h) (by rfl) ?_ HS ?_
                      rotate_left
                      · (intro u hu; (try dsimp only at hu); go_simp; try with_reducible rfl)
                      simp only [Act.put, List.setIfInBounds_toArray, List.set_cons_zero, List.set_cons_succ]
                      refine handTake 6 (some 65) ?_ rfl rfl (by kernel_rfl) (by kernel_rfl) (by kernel_rfl) (fun _ _ _ h => h) (by rfl) ?_ HS ?_
                      rotate_left
                      · (intro u hu; (try dsimp only at hu); go_simp; try with_reducible rfl)
                      simp only [Act.put, List.setIfInBounds_toArray, List.set_cons_zero, List.set_cons_succ]
                      refine handTake 7 (some 66) ?_ rfl rfl (by kernel_rfl) (by kernel_rfl) (by kernel_rfl) (fun _ _ _ h => h) (by rfl) ?_ HS ?_
                      rotate_left
                      · (intro u hu; (try dsimp only at hu); go_simp; try with_reducible rfl)
                      simp only [Act.put, List.setIfInBounds_toArray, List.set_cons_zero, List.set_cons_succ]
                      refine handTake 8 (some 67) ?_ rfl rfl (by kernel_rfl) (by kernel_rfl) (by kernel_rfl) (fun _ _ _ h => h) (by rfl) ?_ HS ?_
                      rotate_left
                      · (intro u hu; (try dsimp only at hu); go_simp; try with_reducible rfl)
                      simp only [Act.put, List.setIfInBounds_toArray, List.set_cons_zero, List.set_cons_succ]
                      refine handTake 9 (some 68) ?_ rfl rfl (by kernel_rfl) (by kernel_rfl) (by kernel_rfl) (fun _ _ _ h => h) (by rfl) ?_ HS ?_
                      rotate_left
                      · (intro u hu; (try dsimp only at hu); go_simp; try with_reducible rfl)
                      simp only [Act.put, List.setIfInBounds_toArray, List.set_cons_zero, List.set_cons_succ]
                      refine handTake 10 (some 69) ?_ rfl rfl (by kernel_rfl) (by kernel_rfl) (by kernel_rfl) (fun _ _ _ h => h) (by rfl) ?_ HS ?_
                      rotate_left
                      · (intro u hu; (try dsimp only at hu); go_simp; try with_reducible rfl)
                      simp only [Act.put, List.setIfInBounds_toArray, List.set_cons_zero, List.set_cons_succ]
                      refine handTake 11 (some 70) ?_ rfl rfl (by kernel_rfl) (by kernel_rfl) (by kernel_rfl) (fun _ _ _ h => h) (by rfl) ?_ HS ?_
                      rotate_left
                      · (intro u hu; (try dsimp only at hu); go_simp; try with_reducible rfl)
                      simp only [Act.put, List.setIfInBounds_toArray, List.set_cons_zero, List.set_cons_succ]
                      refine handTake 12 (some 71) ?_ rfl rfl (by kernel_rfl) (by kernel_rfl) (by kernel_rfl) (fun _ _ _ h => h) (by rfl) ?_ HS ?_
                      rotate_left
                      · (intro u hu; (try dsimp only at hu); go_simp; try with_reducible rfl)
                      simp only [Act.put, List.setIfInBounds_toArray, List.set_cons_zero, List.set_cons_succ]
                      refine handTake 13 (some 72) ?_ rfl rfl (by kernel_rfl) (by kernel_rfl) (by kernel_rfl) (fun _ _ _ h => h) (by rfl) ?_ HS ?_
                      rotate_left
                      · (intro u hu; (try dsimp only at hu); go_simp; try with_reducible rfl)
                      simp only [Act.put, List.setIfInBounds_toArray, List.set_cons_zero, List.set_cons_succ]
                      refine handTake 14 (some 73) ?_ rfl rfl (by kernel_rfl) (by kernel_rfl) (by kernel_rfl) (fun _ _ _ h => h) (by rfl) ?_ HS ?_
                      rotate_left
                      · (intro u hu; (try dsimp only at hu); go_simp; try with_reducible rfl)
                      simp only [Act.put, List.setIfInBounds_toArray, List.set_cons_zero, List.set_cons_succ]
                      refine handTake 15 (some 74) ?_ rfl rfl (by kernel_rfl) (by kernel_rfl) (by kernel_rfl) (fun _ _ _ h => h) (by rfl) ?_ HS ?_
                      rotate_left
                      · (intro u hu; (try dsimp only at hu); go_simp; try with_reducible rfl)
                      simp only [Act.put, List.setIfInBounds_toArray, List.set_cons_zero, List.set_cons_succ]
                      refine handTake 16 (some 75) ?_ rfl rfl (by kernel_rfl) (by kernel_rfl) (by kernel_rfl) (fun _ _ _ h => h) (by rfl) ?_ HS ?_
                      rotate_left
                      · (intro u hu; (try dsimp only at hu); go_simp; try with_reducible rfl)
                      simp only [Act.put, List.setIfInBounds_toArray, List.set_cons_zero, List.set_cons_succ]
                      refine handTake 17 (some 76) ?_ rfl rfl (by kernel_rfl) (by kernel_rfl) (by kernel_rfl) (fun _ _ _ h => h) (by rfl) ?_ HS ?_
                      rotate_left
                      · (intro u hu; (try dsimp only at hu); go_simp; try with_reducible rfl)
                      simp only [Act.put, List.setIfInBounds_toArray, List.set_cons_zero, List.set_cons_succ]
                      refine handTake 18 (some 77) ?_ rfl rfl (by kernel_rfl) (by kernel_rfl) (by kernel_rfl) (fun _ _ _ h => h) (by rfl) ?_ HS ?_
                      rotate_left
                      · (intro u hu; (try dsimp only at hu); go_simp; try with_reducible rfl)
                      simp only [Act.put, List.setIfInBounds_toArray, List.set_cons_zero, List.set_cons_succ]
                      refine handTake 19 (some 78) ?_ rfl rfl (by kernel_rfl) (by kernel_rfl) (by kernel_rfl) (fun _ _ _ h => h) (by rfl) ?_ HS ?_
                      rotate_left
                      · (intro u hu; (try dsimp only at hu); go_simp; try with_reducible rfl)
                      simp only [Act.put, List.setIfInBounds_toArray, List.set_cons_zero, List.set_cons_succ]
                      refine wpAnyH_ready (rs := [20]) (by kernel_rfl) (by simp) ?_
                      refine AllReadyH.cons rfl (fun K hK => ?_) AllReadyH.nil
                      go_simp
                      clear HS
                      refine (RL.out _).mono ?_
                      rintro e u2 ⟨rfl, hb⟩
                      have HX2 := Lib.hid (HXI.out.drew.trans (hb.mono HXI.out.drew.size))
                      have S2 := Lib.hid (SOF.out _ (HB_wr.out.drew.trans (hb.mono HB_wr.out.drew.size)))
                      clear hb
                      go_wp2_with fail
                      refine hK.out _ _ (S2.out) (fun HS => ?_)
                      clear hK
                      try simp only [Act.put, List.setIfInBounds_toArray, List.set_cons_zero, List.set_cons_succ]
                      refine handTake 21 (some 80) ?_ rfl rfl (by kernel_rfl) (by kernel_rfl) (by kernel_rfl) (fun _ _ _ h => h) (by rfl) ?_ HS ?_
                      rotate_left
                      · (intro u hu; (try dsimp only at hu); go_simp; try with_reducible rfl)
                      simp only [Act.put, List.setIfInBounds_toArray, List.set_cons_zero, List.set_cons_succ]
                      refine handTake 22 (some 81) ?_ rfl rfl (by kernel_rfl) (by kernel_rfl) (by kernel_rfl) (fun _ _ _ h => h) (by rfl) ?_ HS ?_
                      rotate_left
                      · (intro u hu; (try dsimp only at hu); go_simp; try with_reducible rfl)
                      simp only [Act.put, List.setIfInBounds_toArray, List.set_cons_zero, List.set_cons_succ]
                      refine handTake 23 (some 82) ?_ rfl rfl (by kernel_rfl) (by kernel_rfl) (by kernel_rfl) (fun _ _ _ h => h) (by rfl) ?_ HS ?_
                      rotate_left
                      · (intro u hu; (try dsimp only at hu); go_simp; try with_reducible rfl)
                      simp only [Act.put, List.setIfInBounds_toArray, List.set_cons_zero, List.set_cons_succ]
                      refine wpAnyH_done (by kernel_rfl) ?_ _
                      clear HS
                      go_wp2_with fail
                      go_loopw [14, 15] (fun mv qv wr => ∃ q : Nat, q ≤ k ∧ qv = .int .i64 q ∧ mv = .int .i64 ((c0 : Int) + (c4 : Int) + ((cntGe ⟨xr, xp⟩ (L.take q) : Nat) : Int)) ∧ Below v1.heap.size v1 wr) (fun _ qv _ => k - (intOf qv).toNat)
                      case atStart => exact ⟨0, Nat.zero_le _, rfl, by simp [cntGe], HX2.out⟩
                      case round =>
                        obtain ⟨q, hq, rfl, rfl, hxq⟩ := hrel
                        have HXQ := Lib.hid hxq
                        have zq := hxq.size
                        have HBQ := Lib.hid (HB_v1.out.trans (hxq.mono HB_v1.out.size))
                        clear hxq
                        have hq0 : (0 : Int) ≤ (q : Int) := by omega
                        have hcq : cntGe ⟨xr, xp⟩ (L.take q) ≤ 7 := Nat.le_trans (cnt_le _ _) (by rw [List.length_take]; omega)
                        by_cases hql : q < k
                        · have hqL : q < L.length := by rw [HN.out]; exact hql
                          have hq1 : (q : Int) < (k : Int) := by omega
                          have Q1 := Lib.hid (HC.out q hqL)
                          have QN := Lib.hid (cnt_next ⟨xr, xp⟩ L q hqL)
                          generalize L[q] = z at Q1 QN
                          obtain ⟨zi, zs, ⟨zr, zp⟩, ⟨hk, hc, hq9, ⟨rk, ra, rb, rc⟩⟩⟩ := z
                          dsimp only at Q1 QN
                          obtain ⟨m, hm⟩ : ∃ m, cntGe ⟨xr, xp⟩ (L.take q) = m := ⟨_, rfl⟩
                          rw [hm] at QN hcq ⊢
                          clear hm
                          by_cases hzs : zs = 3
                          · subst hzs
                            have RL := rless_any ⟨zr, zp⟩ ⟨xr, xp⟩
                            simp only [Ba.cells] at RL
                            cases hls : lessB ⟨zr, zp⟩ ⟨xr, xp⟩
                            · rw [hls] at RL QN
                              have RL := Lib.hid RL
                              have SOF : Hid (∀ u : World, Below w.heap.size w u → (u.cell? ⟨b, o + q * 11 + 1, none⟩ = some (.int .u8 ((3 : Nat) : Int)) ∧ u.cell? ⟨b, o + q * 11 + 2, none⟩ = some (.int .i64 zr) ∧ u.cell? ⟨b, o + q * 11 + 3, none⟩ = some (.int .i64 zp) ∧ u.cell? ⟨b, o + i * 11 + 1, none⟩ = some (.int .u8 ((3 : Nat) : Int)) ∧ u.cell? ⟨b, o + i * 11 + 2, none⟩ = some (.int .i64 xr) ∧ u.cell? ⟨b, o + i * 11 + 3, none⟩ = some (.int .i64 xp))) := fun u hu => ⟨(Q1.out u hu).1, (Q1.out u hu).2.1, (Q1.out u hu).2.2, (C1.out u hu).1, (C1.out u hu).2.1, (C1.out u hu).2.2⟩
                              clear hls
                              go_wp2_with fail
                              refine wp_region_held_drew (S := (fun u : World => u.cell? ⟨b, o + q * 11 + 1, none⟩ = some (.int .u8 ((3 : Nat) : Int)) ∧ u.cell? ⟨b, o + q * 11 + 2, none⟩ = some (.int .i64 zr) ∧ u.cell? ⟨b, o + q * 11 + 3, none⟩ = some (.int .i64 zp) ∧ u.cell? ⟨b, o + i * 11 + 1, none⟩ = some (.int .u8 ((3 : Nat) : Int)) ∧ u.cell? ⟨b, o + i * 11 + 2, none⟩ = some (.int .i64 xr) ∧ u.cell? ⟨b, o + i * 11 + 3, none⟩ = some (.int .i64 xp))) (by kernel_rfl) (SOF.out _ HBQ.out.drew) (fun HS => ?_)
                              refine handTake 0 (some 91) ?_ rfl rfl (by kernel_rfl) (by kernel_rfl) (by kernel_rfl) (fun _ _ _ h => h) (by rfl) ?_ HS ?_
                              rotate_left
                              · (intro u hu; (try dsimp only at hu); go_simp; try with_reducible rfl)
                              simp only [Act.put, List.setIfInBounds_toArray, List.set_cons_zero, List.set_cons_succ]
                              refine handTake 1 (some 92) ?_ rfl rfl (by kernel_rfl) (by kernel_rfl) (by kernel_rfl) (fun _ _ _ h => h) (by rfl) ?_ HS ?_
                              rotate_left
                              · (intro u hu; (try dsimp only at hu); go_simp; try with_reducible rfl)
                              simp only [Act.put, List.setIfInBounds_toArray, List.set_cons_zero, List.set_cons_succ]
                              refine handTake 2 (some 93) ?_ rfl rfl (by kernel_rfl) (by kernel_rfl) (by kernel_rfl) (fun _ _ _ h => h) (by rfl) ?_ HS ?_
                              rotate_left
                              · (intro u hu; (try dsimp only at hu); go_simp; try with_reducible rfl)
                              simp only [Act.put, List.setIfInBounds_toArray, List.set_cons_zero, List.set_cons_succ]
                              refine handTake 3 (some 94) ?_ rfl rfl (by kernel_rfl) (by kernel_rfl) (by kernel_rfl) (fun _ _ _ h => h) (by rfl) ?_ HS ?_
                              rotate_left
                              · (intro u hu; (try dsimp only at hu); go_simp; try with_reducible rfl)
                              simp only [Act.put, List.setIfInBounds_toArray, List.set_cons_zero, List.set_cons_succ]
                              refine handTake 4 (some 95) ?_ rfl rfl (by kernel_rfl) (by kernel_rfl) (by kernel_rfl) (fun _ _ _ h => h) (by rfl) ?_ HS ?_
                              rotate_left
                              · (intro u hu; (try dsimp only at hu); go_simp; try with_reducible rfl)
                              simp only [Act.put, List.setIfInBounds_toArray, List.set_cons_zero, List.set_cons_succ]
                              refine handTake 5 (some 96) ?_ rfl rfl (by kernel_rfl) (by kernel_rfl) (by kernel_rfl) (fun _ _ _ h => h) (by rfl) ?_ HS ?_
                              rotate_left
                              · (intro u hu; (try dsimp only at hu); go_simp; try with_reducible rfl)
                              simp only [Act.put, List.setIfInBounds_toArray, List.set_cons_zero, List.set_cons_succ]
                              refine handTake 6 (some 97) ?_ rfl rfl (by kernel_rfl) (by kernel_rfl) (by kernel_rfl) (fun _ _ _ h => h) (by rfl) ?_ HS ?_
                              rotate_left
                              · (intro u hu; (try dsimp only at hu); go_simp; try with_reducible rfl)
                              simp only [Act.put, List.setIfInBounds_toArray, List.set_cons_zero, List.set_cons_succ]
                              refine handTake 7 (some 98) ?_ rfl rfl (by kernel_rfl) (by kernel_rfl) (by kernel_rfl) (fun _ _ _ h => h) (by rfl) ?_ HS ?_
                              rotate_left
                              · (intro u hu; (try dsimp only at hu); go_simp; try with_reducible rfl)
                              simp only [Act.put, List.setIfInBounds_toArray, List.set_cons_zero, List.set_cons_succ]
                              refine handTake 8 (some 99) ?_ rfl rfl (by kernel_rfl) (by kernel_rfl) (by kernel_rfl) (fun _ _ _ h => h) (by rfl) ?_ HS ?_
                              rotate_left
                              · (intro u hu; (try dsimp only at hu); go_simp; try with_reducible rfl)
                              simp only [Act.put, List.setIfInBounds_toArray, List.set_cons_zero, List.set_cons_succ]
                              refine handTake 9 (some 100) ?_ rfl rfl (by kernel_rfl) (by kernel_rfl) (by kernel_rfl) (fun _ _ _ h => h) (by rfl) ?_ HS ?_
                              rotate_left
                              · (intro u hu; (try dsimp only at hu); go_simp; try with_reducible rfl)
                              simp only [Act.put, List.setIfInBounds_toArray, List.set_cons_zero, List.set_cons_succ]
                              refine handTake 10 (some 101) ?_ rfl rfl (by kernel_rfl) (by kernel_rfl) (by kernel_rfl) (fun _ _ _ h => h) (by rfl) ?_ HS ?_
                              rotate_left
                              · (intro u hu; (try dsimp only at hu); go_simp; try with_reducible rfl)
                              simp only [Act.put, List.setIfInBounds_toArray, List.set_cons_zero, List.set_cons_succ]
                              refine handTake 11 (some 102) ?_ rfl rfl (by kernel_rfl) (by kernel_rfl) (by kernel_rfl) (fun _ _ _ h => h) (by rfl) ?_ HS ?_
                              rotate_left
                              · (intro u hu; (try dsimp only at hu); go_simp; try with_reducible rfl)
                              simp only [Act.put, List.setIfInBounds_toArray, List.set_cons_zero, List.set_cons_succ]
                              refine handTake 12 (some 103) ?_ rfl rfl (by kernel_rfl) (by kernel_rfl) (by kernel_rfl) (fun _ _ _ h => h) (by rfl) ?_ HS ?_
                              rotate_left
                              · (intro u hu; (try dsimp only at hu); go_simp; try with_reducible rfl)
                              simp only [Act.put, List.setIfInBounds_toArray, List.set_cons_zero, List.set_cons_succ]
                              refine handTake 13 (some 104) ?_ rfl rfl (by kernel_rfl) (by kernel_rfl) (by kernel_rfl) (fun _ _ _ h => h) (by rfl) ?_ HS ?_
                              rotate_left
                              · (intro u hu; (try dsimp only at hu); go_simp; try with_reducible rfl)
                              simp only [Act.put, List.setIfInBounds_toArray, List.set_cons_zero, List.set_cons_succ]
                              refine handTake 14 (some 105) ?_ rfl rfl (by kernel_rfl) (by kernel_rfl) (by kernel_rfl) (fun _ _ _ h => h) (by rfl) ?_ HS ?_
                              rotate_left
                              · (intro u hu; (try dsimp only at hu); go_simp; try with_reducible rfl)
                              simp only [Act.put, List.setIfInBounds_toArray, List.set_cons_zero, List.set_cons_succ]
                              refine handTake 15 (some 106) ?_ rfl rfl (by kernel_rfl) (by kernel_rfl) (by kernel_rfl) (fun _ _ _ h => h) (by rfl) ?_ HS ?_
                              rotate_left
                              · (intro u hu; (try dsimp only at hu); go_simp; try with_reducible rfl)
                              simp only [Act.put, List.setIfInBounds_toArray, List.set_cons_zero, List.set_cons_succ]
                              refine handTake 16 (some 107) ?_ rfl rfl (by kernel_rfl) (by kernel_rfl) (by kernel_rfl) (fun _ _ _ h => h) (by rfl) ?_ HS ?_
                              rotate_left
                              · (intro u hu; (try dsimp only at hu); go_simp; try with_reducible rfl)
                              simp only [Act.put, List.setIfInBounds_toArray, List.set_cons_zero, List.set_cons_succ]
                              refine wpAnyH_ready (rs := [17]) (by kernel_rfl) (by simp) ?_
                              refine AllReadyH.cons rfl (fun K hK => ?_) AllReadyH.nil
                              go_simp
                              clear HS
                              refine (RL.out _).mono ?_
                              rintro e u3 ⟨rfl, hb⟩
                              have HX3 := Lib.hid (HXQ.out.drew.trans (hb.mono HXQ.out.drew.size))
                              have S3 := Lib.hid (SOF.out _ (HBQ.out.drew.trans (hb.mono HBQ.out.drew.size)))
                              clear hb
                              go_wp2_with fail
                              refine hK.out _ _ (S3.out) (fun HS => ?_)
                              clear hK
                              try simp only [Act.put, List.setIfInBounds_toArray, List.set_cons_zero, List.set_cons_succ]
                              refine handTake 18 (some 109) ?_ rfl rfl (by kernel_rfl) (by kernel_rfl) (by kernel_rfl) (fun _ _ _ h => h) (by rfl) ?_ HS ?_
                              rotate_left
                              · (intro u hu; (try dsimp only at hu); go_simp; try with_reducible rfl)
                              simp only [Act.put, List.setIfInBounds_toArray, List.set_cons_zero, List.set_cons_succ]
                              refine handTake 19 (some 110) ?_ rfl rfl (by kernel_rfl) (by kernel_rfl) (by kernel_rfl) (fun _ _ _ h => h) (by rfl) ?_ HS ?_
                              rotate_left
                              · (intro u hu; (try dsimp only at hu); go_simp; try with_reducible rfl)
                              simp only [Act.put, List.setIfInBounds_toArray, List.set_cons_zero, List.set_cons_succ]
                              refine wpAnyH_done (by kernel_rfl) ?_ _
                              clear HS
                              go_wp2_with fail
                              go_roundw
                              case rel => exact ⟨q + 1, by omega, by go_num, by rw [QN.out]; simp; omega, HX3.out⟩
                              case measure => show k - ((q : Int) + 1).toNat < k - (q : Int).toNat; omega
                            · rw [hls] at RL QN
                              have RL := Lib.hid RL
                              have SOF : Hid (∀ u : World, Below w.heap.size w u → (u.cell? ⟨b, o + q * 11 + 1, none⟩ = some (.int .u8 ((3 : Nat) : Int)) ∧ u.cell? ⟨b, o + q * 11 + 2, none⟩ = some (.int .i64 zr) ∧ u.cell? ⟨b, o + q * 11 + 3, none⟩ = some (.int .i64 zp) ∧ u.cell? ⟨b, o + i * 11 + 1, none⟩ = some (.int .u8 ((3 : Nat) : Int)) ∧ u.cell? ⟨b, o + i * 11 + 2, none⟩ = some (.int .i64 xr) ∧ u.cell? ⟨b, o + i * 11 + 3, none⟩ = some (.int .i64 xp))) := fun u hu => ⟨(Q1.out u hu).1, (Q1.out u hu).2.1, (Q1.out u hu).2.2, (C1.out u hu).1, (C1.out u hu).2.1, (C1.out u hu).2.2⟩
                              clear hls
                              go_wp2_with fail
                              refine wp_region_held_drew (S := (fun u : World => u.cell? ⟨b, o + q * 11 + 1, none⟩ = some (.int .u8 ((3 : Nat) : Int)) ∧ u.cell? ⟨b, o + q * 11 + 2, none⟩ = some (.int .i64 zr) ∧ u.cell? ⟨b, o + q * 11 + 3, none⟩ = some (.int .i64 zp) ∧ u.cell? ⟨b, o + i * 11 + 1, none⟩ = some (.int .u8 ((3 : Nat) : Int)) ∧ u.cell? ⟨b, o + i * 11 + 2, none⟩ = some (.int .i64 xr) ∧ u.cell? ⟨b, o + i * 11 + 3, none⟩ = some (.int .i64 xp))) (by kernel_rfl) (SOF.out _ HBQ.out.drew) (fun HS => ?_)
                              refine handTake 0 (some 91) ?_ rfl rfl (by kernel_rfl) (by kernel_rfl) (by kernel_rfl) (fun _ _ _ h => h) (by rfl) ?_ HS ?_
                              rotate_left
                              · (intro u hu; (try dsimp only at hu); go_simp; try with_reducible rfl)
                              simp only [Act.put, List.setIfInBounds_toArray, List.set_cons_zero, List.set_cons_succ]
                              refine handTake 1 (some 92) ?_ rfl rfl (by kernel_rfl) (by kernel_rfl) (by kernel_rfl) (fun _ _ _ h => h) (by rfl) ?_ HS ?_
                              rotate_left
                              · (intro u hu; (try dsimp only at hu); go_simp; try with_reducible rfl)
                              simp only [Act.put, List.setIfInBounds_toArray, List.set_cons_zero, List.set_cons_succ]
                              refine handTake 2 (some 93) ?_ rfl rfl (by kernel_rfl) (by kernel_rfl) (by kernel_rfl) (fun _ _ _ h => h) (by rfl) ?_ HS ?_
                              rotate_left
                              · (intro u hu; (try dsimp only at hu); go_simp; try with_reducible rfl)
                              simp only [Act.put, List.setIfInBounds_toArray, List.set_cons_zero, List.set_cons_succ]
                              refine handTake 3 (some 94) ?_ rfl rfl (by kernel_rfl) (by kernel_rfl) (by kernel_rfl) (fun _ _ _ h => h) (by rfl) ?_ HS ?_
                              rotate_left
                              · (intro u hu; (try dsimp only at hu); go_simp; try with_reducible rfl)
                              simp only [Act.put, List.setIfInBounds_toArray, List.set_cons_zero, List.set_cons_succ]
                              refine handTake 4 (some 95) ?_ rfl rfl (by kernel_rfl) (by kernel_rfl) (by kernel_rfl) (fun _ _ _ h => h) (by rfl) ?_ HS ?_
                              rotate_left
                              · (intro u hu; (try dsimp only at hu); go_simp; try with_reducible rfl)
                              simp only [Act.put, List.setIfInBounds_toArray, List.set_cons_zero, List.set_cons_succ]
                              refine handTake 5 (some 96) ?_ rfl rfl (by kernel_rfl) (by kernel_rfl) (by kernel_rfl) (fun _ _ _ h => h) (by rfl) ?_ HS ?_
                              rotate_left
                              · (intro u hu; (try dsimp only at hu); go_simp; try with_reducible rfl)
                              simp only [Act.put, List.setIfInBounds_toArray, List.set_cons_zero, List.set_cons_succ]
                              refine handTake 6 (some 97) ?_ rfl rfl (by kernel_rfl) (by kernel_rfl) (by kernel_rfl) (fun _ _ _ h => h) (by rfl) ?_ HS ?_
                              rotate_left
                              · (intro u hu; (try dsimp only at hu); go_simp; try with_reducible rfl)
                              simp only [Act.put, List.setIfInBounds_toArray, List.set_cons_zero, List.set_cons_succ]
                              refine handTake 7 (some 98) ?_ rfl rfl (by kernel_rfl) (by kernel_rfl) (by kernel_rfl) (fun _ _ _ h => h) (by rfl) ?_ HS ?_
                              rotate_left
                              · (intro u hu; (try dsimp only at hu); go_simp; try with_reducible rfl)
                              simp only [Act.put, List.setIfInBounds_toArray, List.set_cons_zero, List.set_cons_succ]
                              refine handTake 8 (some 99) ?_ rfl rfl (by kernel_rfl) (by kernel_rfl) (by kernel_rfl) (fun _ _ _ h => h) (by rfl) ?_ HS ?_
                              rotate_left
                              · (intro u hu; (try dsimp only at hu); go_simp; try with_reducible rfl)
                              simp only [Act.put, List.setIfInBounds_toArray, List.set_cons_zero, List.set_cons_succ]
                              refine handTake 9 (some 100) ?_ rfl rfl (by kernel_rfl) (by kernel_rfl) (by kernel_rfl) (fun _ _ _ h => h) (by rfl) ?_ HS ?_
                              rotate_left
                              · (intro u hu; (try dsimp only at hu); go_simp; try with_reducible rfl)
                              simp only [Act.put, List.setIfInBounds_toArray, List.set_cons_zero, List.set_cons_succ]
                              refine handTake 10 (some 101) ?_ rfl rfl (by kernel_rfl) (by kernel_rfl) (by kernel_rfl) (fun _ _ _ h => h) (by rfl) ?_ HS ?_
                              rotate_left
                              · (intro u hu; (try dsimp only at hu); go_simp; try with_reducible rfl)
                              simp only [Act.put, List.setIfInBounds_toArray, List.set_cons_zero, List.set_cons_succ]
                              refine handTake 11 (some 102) ?_ rfl rfl (by kernel_rfl) (by kernel_rfl) (by kernel_rfl) (fun _ _ _ h => h) (by rfl) ?_ HS ?_
                              rotate_left
                              · (intro u hu; (try dsimp only at hu); go_simp; try with_reducible rfl)
                              simp only [Act.put, List.setIfInBounds_toArray, List.set_cons_zero, List.set_cons_succ]
                              refine handTake 12 (some 103) ?_ rfl rfl (by kernel_rfl) (by kernel_rfl) (by kernel_rfl) (fun _ _ _ h => h) (by rfl) ?_ HS ?_
                              rotate_left
                              · (intro u hu; (try dsimp only at hu); go_simp; try with_reducible rfl)
                              simp only [Act.put, List.setIfInBounds_toArray, List.set_cons_zero, List.set_cons_succ]
                              refine handTake 13 (some 104) ?_ rfl rfl (by kernel_rfl) (by kernel_rfl) (by kernel_rfl) (fun _ _ _ h => h) (by rfl) ?_ HS ?_
                              rotate_left
                              · (intro u hu; (try dsimp only at hu); go_simp; try with_reducible rfl)
                              simp only [Act.put, List.setIfInBounds_toArray, List.set_cons_zero, List.set_cons_succ]
                              refine handTake 14 (some 105) ?_ rfl rfl (by kernel_rfl) (by kernel_rfl) (by kernel_rfl) (fun _ _ _ h => h) (by rfl) ?_ HS ?_
                              rotate_left
                              · (intro u hu; (try dsimp only at hu); go_simp; try with_reducible rfl)
                              simp only [Act.put, List.setIfInBounds_toArray, List.set_cons_zero, List.set_cons_succ]
                              refine handTake 15 (some 106) ?_ rfl rfl (by kernel_rfl) (by kernel_rfl) (by kernel_rfl) (fun _ _ _ h => h) (by rfl) ?_ HS ?_
                              rotate_left
                              · (intro u hu; (try dsimp only at hu); go_simp; try with_reducible rfl)
                              simp only [Act.put, List.setIfInBounds_toArray, List.set_cons_zero, List.set_cons_succ]
                              refine handTake 16 (some 107) ?_ rfl rfl (by kernel_rfl) (by kernel_rfl) (by kernel_rfl) (fun _ _ _ h => h) (by rfl) ?_ HS ?_
                              rotate_left
                              · (intro u hu; (try dsimp only at hu); go_simp; try with_reducible rfl)
                              simp only [Act.put, List.setIfInBounds_toArray, List.set_cons_zero, List.set_cons_succ]
                              refine wpAnyH_ready (rs := [17]) (by kernel_rfl) (by simp) ?_
                              refine AllReadyH.cons rfl (fun K hK => ?_) AllReadyH.nil
                              go_simp
                              clear HS
                              refine (RL.out _).mono ?_
                              rintro e u3 ⟨rfl, hb⟩
                              have HX3 := Lib.hid (HXQ.out.drew.trans (hb.mono HXQ.out.drew.size))
                              have S3 := Lib.hid (SOF.out _ (HBQ.out.drew.trans (hb.mono HBQ.out.drew.size)))
                              clear hb
                              go_wp2_with fail
                              refine hK.out _ _ (S3.out) (fun HS => ?_)
                              clear hK
                              try simp only [Act.put, List.setIfInBounds_toArray, List.set_cons_zero, List.set_cons_succ]
                              refine handTake 18 (some 109) ?_ rfl rfl (by kernel_rfl) (by kernel_rfl) (by kernel_rfl) (fun _ _ _ h => h) (by rfl) ?_ HS ?_
                              rotate_left
                              · (intro u hu; (try dsimp only at hu); go_simp; try with_reducible rfl)
                              simp only [Act.put, List.setIfInBounds_toArray, List.set_cons_zero, List.set_cons_succ]
                              refine handTake 19 (some 110) ?_ rfl rfl (by kernel_rfl) (by kernel_rfl) (by kernel_rfl) (fun _ _ _ h => h) (by rfl) ?_ HS ?_
                              rotate_left
                              · (intro u hu; (try dsimp only at hu); go_simp; try with_reducible rfl)
                              simp only [Act.put, List.setIfInBounds_toArray, List.set_cons_zero, List.set_cons_succ]
                              refine wpAnyH_done (by kernel_rfl) ?_ _
                              clear HS
                              go_wp2_with fail
                              go_roundw
                              case rel => exact ⟨q + 1, by omega, by go_num, by rw [QN.out]; simp, HX3.out⟩
                              case measure => show k - ((q : Int) + 1).toNat < k - (q : Int).toNat; omega
                          · have hne : ((zs : Int) == 3) = false := by simp; omega
                            have hnb : (zs == 3) = false := by simp; omega
                            have HQN : Hid (cntGe ⟨xr, xp⟩ (L.take (q + 1)) = m) := by show cntGe _ _ = m; rw [QN.out, hnb]; simp
                            clear hnb QN hzs
                            go_wp2_with fail
                            refine wp_region_held_drew (S := (fun u : World => u.cell? ⟨b, o + q * 11 + 1, none⟩ = some (.int .u8 (zs : Nat)))) (by kernel_rfl) ((Q1.out _ HBQ.out.drew).1) (fun HS => ?_)
                            refine handTake 0 (some 91) ?_ rfl rfl (by kernel_rfl) (by kernel_rfl) (by kernel_rfl) (fun _ _ _ h => h) (by rfl) ?_ HS ?_
                            rotate_left
                            · (intro u hu; (try dsimp only at hu); go_simp; try with_reducible rfl)
                            simp only [Act.put, List.setIfInBounds_toArray, List.set_cons_zero, List.set_cons_succ]
                            refine handTake 1 (some 92) ?_ rfl rfl (by kernel_rfl) (by kernel_rfl) (by kernel_rfl) (fun _ _ _ h => h) (by rfl) ?_ HS ?_
                            rotate_left
                            · (intro u hu; (try dsimp only at hu); go_simp; try with_reducible rfl)
                            simp only [Act.put, List.setIfInBounds_toArray, List.set_cons_zero, List.set_cons_succ]
                            refine handTake 2 (some 93) ?_ rfl rfl (by kernel_rfl) (by kernel_rfl) (by kernel_rfl) (fun _ _ _ h => h) (by rfl) ?_ HS ?_
                            rotate_left
                            · (intro u hu; (try dsimp only at hu); go_simp; try with_reducible rfl)
                            simp only [Act.put, List.setIfInBounds_toArray, List.set_cons_zero, List.set_cons_succ]
                            refine handTake 3 (some 94) ?_ rfl rfl (by kernel_rfl) (by kernel_rfl) (by kernel_rfl) (fun _ _ _ h => h) (by rfl) ?_ HS ?_
                            rotate_left
                            · (intro u hu; (try dsimp only at hu); go_simp; try with_reducible rfl)
                            simp only [Act.put, List.setIfInBounds_toArray, List.set_cons_zero, List.set_cons_succ]
                            refine handTake 4 (some 95) ?_ rfl rfl (by kernel_rfl) (by kernel_rfl) (by kernel_rfl) (fun _ _ _ h => h) (by rfl) ?_ HS ?_
                            rotate_left
                            · (intro u hu; (try dsimp only at hu); go_simp; try with_reducible rfl)
                            simp only [Act.put, List.setIfInBounds_toArray, List.set_cons_zero, List.set_cons_succ]
                            refine handTake 5 (some 96) ?_ rfl rfl (by kernel_rfl) (by kernel_rfl) (by kernel_rfl) (fun _ _ _ h => h) (by rfl) ?_ HS ?_
                            rotate_left
                            · (intro u hu; (try dsimp only at hu); go_simp; try with_reducible rfl)
                            simp only [Act.put, List.setIfInBounds_toArray, List.set_cons_zero, List.set_cons_succ]
                            refine handTake 6 (some 97) ?_ rfl rfl (by kernel_rfl) (by kernel_rfl) (by kernel_rfl) (fun _ _ _ h => h) (by rfl) ?_ HS ?_
                            rotate_left
                            · (intro u hu; (try dsimp only at hu); go_simp; try with_reducible rfl)
                            simp only [Act.put, List.setIfInBounds_toArray, List.set_cons_zero, List.set_cons_succ]
                            refine handSkip 7 (some 98) rfl rfl (by kernel_rfl) (by kernel_rfl) (by kernel_rfl) (fun _ _ _ h => h) (by rfl) HS ?_
                            simp only [Act.put, List.setIfInBounds_toArray, List.set_cons_zero, List.set_cons_succ]
                            refine handSkip 8 (some 99) rfl rfl (by kernel_rfl) (by kernel_rfl) (by kernel_rfl) (fun _ _ _ h => h) (by rfl) HS ?_
                            simp only [Act.put, List.setIfInBounds_toArray, List.set_cons_zero, List.set_cons_succ]
                            refine handSkip 9 (some 100) rfl rfl (by kernel_rfl) (by kernel_rfl) (by kernel_rfl) (fun _ _ _ h => h) (by rfl) HS ?_
                            simp only [Act.put, List.setIfInBounds_toArray, List.set_cons_zero, List.set_cons_succ]
                            refine handSkip 10 (some 101) rfl rfl (by kernel_rfl) (by kernel_rfl) (by kernel_rfl) (fun _ _ _ h => h) (by rfl) HS ?_
                            simp only [Act.put, List.setIfInBounds_toArray, List.set_cons_zero, List.set_cons_succ]
                            refine handSkip 11 (some 102) rfl rfl (by kernel_rfl) (by kernel_rfl) (by kernel_rfl) (fun _ _ _ h => h) (by rfl) HS ?_
                            simp only [Act.put, List.setIfInBounds_toArray, List.set_cons_zero, List.set_cons_succ]
                            refine handSkip 12 (some 103) rfl rfl (by kernel_rfl) (by kernel_rfl) (by kernel_rfl) (fun _ _ _ h => h) (by rfl) HS ?_
                            simp only [Act.put, List.setIfInBounds_toArray, List.set_cons_zero, List.set_cons_succ]
                            refine handSkip 13 (some 104) rfl rfl (by kernel_rfl) (by kernel_rfl) (by kernel_rfl) (fun _ _ _ h => h) (by rfl) HS ?_
                            simp only [Act.put, List.setIfInBounds_toArray, List.set_cons_zero, List.set_cons_succ]
                            refine handSkip 14 (some 105) rfl rfl (by kernel_rfl) (by kernel_rfl) (by kernel_rfl) (fun _ _ _ h => h) (by rfl) HS ?_
                            simp only [Act.put, List.setIfInBounds_toArray, List.set_cons_zero, List.set_cons_succ]
                            refine handSkip 15 (some 106) rfl rfl (by kernel_rfl) (by kernel_rfl) (by kernel_rfl) (fun _ _ _ h => h) (by rfl) HS ?_
                            simp only [Act.put, List.setIfInBounds_toArray, List.set_cons_zero, List.set_cons_succ]
                            refine handSkip 16 (some 107) rfl rfl (by kernel_rfl) (by kernel_rfl) (by kernel_rfl) (fun _ _ _ h => h) (by rfl) HS ?_
                            simp only [Act.put, List.setIfInBounds_toArray, List.set_cons_zero, List.set_cons_succ]
                            refine handSkip 17 (some 108) rfl rfl (by kernel_rfl) (by kernel_rfl) (by kernel_rfl) (fun _ _ _ h => h) (by rfl) HS ?_
                            simp only [Act.put, List.setIfInBounds_toArray, List.set_cons_zero, List.set_cons_succ]
                            refine handSkip 18 (some 109) rfl rfl (by kernel_rfl) (by kernel_rfl) (by kernel_rfl) (fun _ _ _ h => h) (by rfl) HS ?_
                            simp only [Act.put, List.setIfInBounds_toArray, List.set_cons_zero, List.set_cons_succ]
                            refine handTake 19 (some 110) ?_ rfl rfl (by kernel_rfl) (by kernel_rfl) (by kernel_rfl) (fun _ _ _ h => h) (by rfl) ?_ HS ?_
                            rotate_left
                            · (intro u hu; (try dsimp only at hu); go_simp; try with_reducible rfl)
                            simp only [Act.put, List.setIfInBounds_toArray, List.set_cons_zero, List.set_cons_succ]
                            refine wpAnyH_done (by kernel_rfl) ?_ _
                            clear HS
                            go_wp2_with fail
                            go_roundw
                            case rel => exact ⟨q + 1, by omega, by go_num, by rw [HQN.out], HXQ.out.drew⟩
                            case measure => show k - ((q : Int) + 1).toNat < k - (q : Int).toNat; omega
                        · have e : q = k := by omega
                          subst e
                          have hE : L.take q = L := by rw [← HN.out, List.take_length]
                          rw [hE] at hcq ⊢
                          generalize cntGe ⟨xr, xp⟩ L = m at *
                          by_cases hmM : (M : Int) ≤ (c0 : Int) + (c4 : Int) + (m : Int)
                          · have HFF : Hid (fineB (q : Int) L ⟨xi, 3, ⟨xr, xp⟩, ⟨ek, ec, eq, ⟨ok, oa, ob, oc⟩⟩⟩ = false) := by show fineB _ _ _ = false; rw [AB.out, decide_eq_false (by omega)]
                            go_wp2_with fail
                            go_roundw
                            case rel => exact ⟨i + 1, by omega, by go_num, by rw [HNX.out, HFF.out]; simp, HXQ.out⟩
                            case measure => show q - ((i : Int) + 1).toNat < q - (i : Int).toNat; omega
                          · have HFF : Hid (fineB (q : Int) L ⟨xi, 3, ⟨xr, xp⟩, ⟨ek, ec, eq, ⟨ok, oa, ob, oc⟩⟩⟩ = true) := by show fineB _ _ _ = true; rw [AB.out, decide_eq_true (by omega)]
                            go_wp2_with fail
                            go_roundw
                            case rel => exact ⟨i + 1, by omega, by go_num, by rw [HNX.out, HFF.out]; simp, HXQ.out⟩
                            case measure => show q - ((i : Int) + 1).toNat < q - (i : Int).toNat; omega
                · have hne : ((xs : Int) == 3) = false := by simp; omega
                  have hne2 : ((xs : Int) != 3) = true := by simp; omega
                  have AB : Hid (fineB (k : Int) L ⟨xi, xs, ⟨xr, xp⟩, ⟨ek, ec, eq, ⟨ok, oa, ob, oc⟩⟩⟩ = true) := by
                    show fineB _ _ _ = true
                    rw [HFI.out, show (xs == 3) = false by simp; omega]; rfl
                  clear HFI hst
                  go_wp2_with fail
                  refine wp_region_held_drew (S := (fun u : World => u.cell? ⟨b, o + i * 11 + 1, none⟩ = some (.int .u8 (xs : Nat)))) (by kernel_rfl) ((C1.out _ HB_wr.out.drew).1) (fun HS => ?_)
                  refine handTake 0 (some 59) ?_ rfl rfl (by kernel_rfl) (by kernel_rfl) (by kernel_rfl) (fun _ _ _ h => h) (by rfl) ?_ HS ?_
                  rotate_left
                  · (intro u hu; (try dsimp only at hu); go_simp; try with_reducible rfl)
                  simp only [Act.put, List.setIfInBounds_toArray, List.set_cons_zero, List.set_cons_succ]
                  refine handTake 1 (some 60) ?_ rfl rfl (by kernel_rfl) (by kernel_rfl) (by kernel_rfl) (fun _ _ _ h => h) (by rfl) ?_ HS ?_
                  rotate_left
                  · (intro u hu; (try dsimp only at hu); go_simp; try with_reducible rfl)
                  simp only [Act.put, List.setIfInBounds_toArray, List.set_cons_zero, List.set_cons_succ]
                  refine handTake 2 (some 61) ?_ rfl rfl (by kernel_rfl) (by kernel_rfl) (by kernel_rfl) (fun _ _ _ h => h) (by rfl) ?_ HS ?_
                  rotate_left
                  · (intro u hu; (try dsimp only at hu); go_simp; try with_reducible rfl)
                  simp only [Act.put, List.setIfInBounds_toArray, List.set_cons_zero, List.set_cons_succ]
                  refine handTake 3 (some 62) ?_ rfl rfl (by kernel_rfl) (by kernel_rfl) (by kernel_rfl) (fun _ _ _ h => h) (by rfl) ?_ HS ?_
                  rotate_left
                  · (intro u hu; (try dsimp only at hu); go_simp; try with_reducible rfl)
                  simp only [Act.put, List.setIfInBounds_toArray, List.set_cons_zero, List.set_cons_succ]
                  refine handTake 4 (some 63) ?_ rfl rfl (by kernel_rfl) (by kernel_rfl) (by kernel_rfl) (fun _ _ _ h => h) (by rfl) ?_ HS ?_
                  rotate_left
                  · (intro u hu; (try dsimp only at hu); go_simp; try with_reducible rfl)
                  simp only [Act.put, List.setIfInBounds_toArray, List.set_cons_zero, List.set_cons_succ]
                  refine handTake 5 (some 64) ?_ rfl rfl (by kernel_rfl) (by kernel_rfl) (by kernel_rfl) (fun _ _ _ h => h) (by rfl) ?_ HS ?_
                  rotate_left
                  · (intro u hu; (try dsimp only at hu); go_simp; try with_reducible rfl)
                  simp only [Act.put, List.setIfInBounds_toArray, List.set_cons_zero, List.set_cons_succ]
                  refine handTake 6 (some 65) ?_ rfl rfl (by kernel_rfl) (by kernel_rfl) (by kernel_rfl) (fun _ _ _ h => h) (by rfl) ?_ HS ?_
                  rotate_left
                  · (intro u hu; (try dsimp only at hu); go_simp; try with_reducible rfl)
                  simp only [Act.put, List.setIfInBounds_toArray, List.set_cons_zero, List.set_cons_succ]
                  refine handSkip 7 (some 66) rfl rfl (by kernel_rfl) (by kernel_rfl) (by kernel_rfl) (fun _ _ _ h => h) (by rfl) HS ?_
                  simp only [Act.put, List.setIfInBounds_toArray, List.set_cons_zero, List.set_cons_succ]
                  refine handSkip 8 (some 67) rfl rfl (by kernel_rfl) (by kernel_rfl) (by kernel_rfl) (fun _ _ _ h => h) (by rfl) HS ?_
                  simp only [Act.put, List.setIfInBounds_toArray, List.set_cons_zero, List.set_cons_succ]
                  refine handSkip 9 (some 68) rfl rfl (by kernel_rfl) (by kernel_rfl) (by kernel_rfl) (fun _ _ _ h => h) (by rfl) HS ?_
                  simp only [Act.put, List.setIfInBounds_toArray, List.set_cons_zero, List.set_cons_succ]
                  refine handSkip 10 (some 69) rfl rfl (by kernel_rfl) (by kernel_rfl) (by kernel_rfl) (fun _ _ _ h => h) (by rfl) HS ?_
                  simp only [Act.put, List.setIfInBounds_toArray, List.set_cons_zero, List.set_cons_succ]
                  refine handSkip 11 (some 70) rfl rfl (by kernel_rfl) (by kernel_rfl) (by kernel_rfl) (fun _ _ _ h => h) (by rfl) HS ?_
                  simp only [Act.put, List.setIfInBounds_toArray, List.set_cons_zero, List.set_cons_succ]
                  refine handSkip 12 (some 71) rfl rfl (by kernel_rfl) (by kernel_rfl) (by kernel_rfl) (fun _ _ _ h => h) (by rfl) HS ?_
                  simp only [Act.put, List.setIfInBounds_toArray, List.set_cons_zero, List.set_cons_succ]
                  refine handSkip 13 (some 72) rfl rfl (by kernel_rfl) (by kernel_rfl) (by kernel_rfl) (fun _ _ _ h => h) (by rfl) HS ?_
                  simp only [Act.put, List.setIfInBounds_toArray, List.set_cons_zero, List.set_cons_succ]
                  refine handSkip 14 (some 73) rfl rfl (by kernel_rfl) (by kernel_rfl) (by kernel_rfl) (fun _ _ _ h => h) (by rfl) HS ?_
                  simp only [Act.put, List.setIfInBounds_toArray, List.set_cons_zero, List.set_cons_succ]
                  refine handSkip 15 (some 74) rfl rfl (by kernel_rfl) (by kernel_rfl) (by kernel_rfl) (fun _ _ _ h => h) (by rfl) HS ?_
                  simp only [Act.put, List.setIfInBounds_toArray, List.set_cons_zero, List.set_cons_succ]
                  refine handSkip 16 (some 75) rfl rfl (by kernel_rfl) (by kernel_rfl) (by kernel_rfl) (fun _ _ _ h => h) (by rfl) HS ?_
                  simp only [Act.put, List.setIfInBounds_toArray, List.set_cons_zero, List.set_cons_succ]
                  refine handSkip 17 (some 76) rfl rfl (by kernel_rfl) (by kernel_rfl) (by kernel_rfl) (fun _ _ _ h => h) (by rfl) HS ?_
                  simp only [Act.put, List.setIfInBounds_toArray, List.set_cons_zero, List.set_cons_succ]
                  refine handSkip 18 (some 77) rfl rfl (by kernel_rfl) (by kernel_rfl) (by kernel_rfl) (fun _ _ _ h => h) (by rfl) HS ?_
                  simp only [Act.put, List.setIfInBounds_toArray, List.set_cons_zero, List.set_cons_succ]
                  refine handSkip 19 (some 78) rfl rfl (by kernel_rfl) (by kernel_rfl) (by kernel_rfl) (fun _ _ _ h => h) (by rfl) HS ?_
                  simp only [Act.put, List.setIfInBounds_toArray, List.set_cons_zero, List.set_cons_succ]
                  refine handSkip 20 (some 79) rfl rfl (by kernel_rfl) (by kernel_rfl) (by kernel_rfl) (fun _ _ _ h => h) (by rfl) HS ?_
                  simp only [Act.put, List.setIfInBounds_toArray, List.set_cons_zero, List.set_cons_succ]
                  refine handSkip 21 (some 80) rfl rfl (by kernel_rfl) (by kernel_rfl) (by kernel_rfl) (fun _ _ _ h => h) (by rfl) HS ?_
                  simp only [Act.put, List.setIfInBounds_toArray, List.set_cons_zero, List.set_cons_succ]
                  refine handSkip 22 (some 81) rfl rfl (by kernel_rfl) (by kernel_rfl) (by kernel_rfl) (fun _ _ _ h => h) (by rfl) HS ?_
                  simp only [Act.put, List.setIfInBounds_toArray, List.set_cons_zero, List.set_cons_succ]
                  refine handTake 23 (some 82) ?_ rfl rfl (by kernel_rfl) (by kernel_rfl) (by kernel_rfl) (fun _ _ _ h => h) (by rfl) ?_ HS ?_
                  rotate_left
                  · (intro u hu; (try dsimp only at hu); go_simp; try with_reducible rfl)
                  simp only [Act.put, List.setIfInBounds_toArray, List.set_cons_zero, List.set_cons_succ]
                  refine wpAnyH_done (by kernel_rfl) ?_ _
                  clear HS
                  go_wp2_with fail
                  go_roundw
                  case rel => exact ⟨i + 1, by omega, by go_num, by rw [HNX.out, AB.out]; simp, HXI.out.drew⟩
                  case measure => show k - ((i : Int) + 1).toNat < k - (i : Int).toNat; omega
              · have e : i = k := by omega
                subst e
                obtain ⟨kn, hkn⟩ : ∃ kn, L.all (fineB (i : Int) L) = kn := ⟨_, rfl⟩
                have HK : Hid (knownB (i : Int) L = kn) := by show knownB _ _ = _; rw [HKN2.out]; exact hkn
                rw [show L.take i = L by rw [← HN.out, List.take_length], hkn]
                clear hkn HKN2
                cases kn
                · by_cases h0 : 0 < c0
                  · have HR := Lib.hid (decR_wait HBAD.out HK.out (by rw [HC0.out]; exact h0))
                    have h0i : (0 : Int) < (c0 : Int) := by omega
                    have hec := HE_wr.out
                    have e0 := hec.cell 0; have f0 := hec.free 0; have e1 := hec.cell 1; have f1 := hec.free 1; have e2 := hec.cell 2; have f2 := hec.free 2; have e3 := hec.cell 3; have f3 := hec.free 3; have e4 := hec.cell 4; have f4 := hec.free 4; have e5 := hec.cell 5; have f5 := hec.free 5; have e6 := hec.cell 6; have f6 := hec.free 6
                    simp only [List.getElem?_cons_zero, List.getElem?_cons_succ] at e0 e1 e2 e3 e4 e5 e6
                    clear hec
                    go_wp2_with fail
                    exact bodyPost_ret (results_en3 rfl _ _ w.heap.size (zeroEn) rfl ((((((((HE_wr.out.set 0 _).set 1 _).set 2 _).set 3 _).set 4 _).set 5 _).set 6 _))) rfl ⟨by rw [HR.out]; rfl, (Below.setCell (p := ⟨w.heap.size, 6, none⟩) (Below.setCell (p := ⟨w.heap.size, 5, none⟩) (Below.setCell (p := ⟨w.heap.size, 4, none⟩) (Below.setCell (p := ⟨w.heap.size, 3, none⟩) (Below.setCell (p := ⟨w.heap.size, 2, none⟩) (Below.setCell (p := ⟨w.heap.size, 1, none⟩) (Below.setCell (p := ⟨w.heap.size, 0, none⟩) HB_wr.out (by simp) _) (by simp) _) (by simp) _) (by simp) _) (by simp) _) (by simp) _) (by simp) _)⟩
                  · have HKK : Hid (knownB (i : Int) L = true ∨ ¬ 0 < (only [0] L).length) := .inr (by rw [HC0.out]; exact h0)
                    have h0i : ¬ (0 : Int) < (c0 : Int) := by omega
                    rcases HAT.out with ⟨hg, hgn⟩ | ⟨j, hj, hg, hgs⟩
                    · have HR := Lib.hid (decR_none HBAD.out HKK.out hgn)
                      subst hg
                      clear hgn HAT
                      have hec := HE_wr.out
                      have e0 := hec.cell 0; have f0 := hec.free 0; have e1 := hec.cell 1; have f1 := hec.free 1; have e2 := hec.cell 2; have f2 := hec.free 2; have e3 := hec.cell 3; have f3 := hec.free 3; have e4 := hec.cell 4; have f4 := hec.free 4; have e5 := hec.cell 5; have f5 := hec.free 5; have e6 := hec.cell 6; have f6 := hec.free 6
                      simp only [List.getElem?_cons_zero, List.getElem?_cons_succ] at e0 e1 e2 e3 e4 e5 e6
                      clear hec
                      go_wp2_with fail
                      exact bodyPost_ret (results_en3 rfl _ _ w.heap.size (noopEn) rfl ((((((((HE_wr.out.set 0 _).set 1 _).set 2 _).set 3 _).set 4 _).set 5 _).set 6 _))) rfl ⟨by rw [HR.out]; rfl, (Below.setCell (p := ⟨w.heap.size, 6, none⟩) (Below.setCell (p := ⟨w.heap.size, 5, none⟩) (Below.setCell (p := ⟨w.heap.size, 4, none⟩) (Below.setCell (p := ⟨w.heap.size, 3, none⟩) (Below.setCell (p := ⟨w.heap.size, 2, none⟩) (Below.setCell (p := ⟨w.heap.size, 1, none⟩) (Below.setCell (p := ⟨w.heap.size, 0, none⟩) HB_wr.out (by simp) _) (by simp) _) (by simp) _) (by simp) _) (by simp) _) (by simp) _) (by simp) _)⟩
                    · have HR := Lib.hid (decR_some HBAD.out HKK.out hgs)
                      subst hg
                      have hrow := HROW.out
                      obtain ⟨b2, o2, hA2, hb2, hx2⟩ := hrow.elem rpC_len (by omega) hj
                      obtain ⟨rfl, rfl⟩ : b = b2 ∧ o = o2 := by injection hA2 with hA2; injection hA2 with e1 e2; exact ⟨e1, e2⟩
                      have hy : ∀ i x, (rpC L[j])[i]? = some x → wr.cell? ⟨b, o + j * 11 + i, none⟩ = some x := fun i x h => by
                        rw [Nat.add_assoc]; exact (HB_wr.out.cell (p := ⟨b, o + (j * 11 + i), none⟩) (Nat.lt_of_lt_of_le hb2 hB)).trans (hx2 i x h)
                      have y0 := hy 0 _ rfl
                      have y1 := hy 1 _ rfl
                      have y2 := hy 2 _ rfl
                      have y3 := hy 3 _ rfl
                      have y4 := hy 4 _ rfl
                      have y5 := hy 5 _ rfl
                      have y6 := hy 6 _ rfl
                      have y7 := hy 7 _ rfl
                      have y8 := hy 8 _ rfl
                      have y9 := hy 9 _ rfl
                      have y10 := hy 10 _ rfl
                      simp only [Nat.add_zero] at y0
                      have hjN : (j : Int) < (i : Int) := by rw [← HN.out]; omega
                      have hj0 : (0 : Int) ≤ (j : Int) := by omega
                      have hj00 : ¬ (j : Int) < 0 := by omega
                      clear hgs hy hx2 hA2 hrow HAT
                      generalize L[j] = x at HR y0 y1 y2 y3 y4 y5 y6 y7 y8 y9 y10
                      obtain ⟨xi, xs, ⟨xr, xp⟩, ⟨ek, ec, eq, ⟨ok, oa, ob, oc⟩⟩⟩ := x
                      dsimp only at HR y0 y1 y2 y3 y4 y5 y6 y7 y8 y9 y10
                      have hec := HE_wr.out
                      have e0 := hec.cell 0; have f0 := hec.free 0; have e1 := hec.cell 1; have f1 := hec.free 1; have e2 := hec.cell 2; have f2 := hec.free 2; have e3 := hec.cell 3; have f3 := hec.free 3; have e4 := hec.cell 4; have f4 := hec.free 4; have e5 := hec.cell 5; have f5 := hec.free 5; have e6 := hec.cell 6; have f6 := hec.free 6
                      simp only [List.getElem?_cons_zero, List.getElem?_cons_succ] at e0 e1 e2 e3 e4 e5 e6
                      clear hec
                      go_wp2_with fail
                      refine wp_region_held_drew (S := (fun _ : World => True)) (by kernel_rfl) (trivial) (fun HS => ?_)
                      refine handTake 0 (some 128) ?_ rfl rfl (by kernel_rfl) (by kernel_rfl) (by kernel_rfl) (fun _ _ _ h => h) (by rfl) ?_ HS ?_
                      rotate_left
                      · (intro u hu; (try dsimp only at hu); go_simp; try with_reducible rfl)
                      simp only [Act.put, List.setIfInBounds_toArray, List.set_cons_zero, List.set_cons_succ]
                      refine handTake 1 (some 129) ?_ rfl rfl (by kernel_rfl) (by kernel_rfl) (by kernel_rfl) (fun _ _ _ h => h) (by rfl) ?_ HS ?_
                      rotate_left
                      · (intro u hu; (try dsimp only at hu); go_simp; try with_reducible rfl)
                      simp only [Act.put, List.setIfInBounds_toArray, List.set_cons_zero, List.set_cons_succ]
                      refine handTake 2 (some 130) ?_ rfl rfl (by kernel_rfl) (by kernel_rfl) (by kernel_rfl) (fun _ _ _ h => h) (by rfl) ?_ HS ?_
                      rotate_left
                      · (intro u hu; (try dsimp only at hu); go_simp; try with_reducible rfl)
                      simp only [Act.put, List.setIfInBounds_toArray, List.set_cons_zero, List.set_cons_succ]
                      refine handTake 3 (some 131) ?_ rfl rfl (by kernel_rfl) (by kernel_rfl) (by kernel_rfl) (fun _ _ _ h => h) (by rfl) ?_ HS ?_
                      rotate_left
                      · (intro u hu; (try dsimp only at hu); go_simp; try with_reducible rfl)
                      simp only [Act.put, List.setIfInBounds_toArray, List.set_cons_zero, List.set_cons_succ]
                      refine handTake 5 (some 4) ?_ rfl rfl (by kernel_rfl) (by kernel_rfl) (by kernel_rfl) (fun _ _ _ h => h) (by rfl) ?_ HS ?_
                      rotate_left
                      · (intro u hu; (try dsimp only at hu); go_simp; try with_reducible rfl)
                      simp only [Act.put, List.setIfInBounds_toArray, List.set_cons_zero, List.set_cons_succ]
                      refine wpAnyH_ready (rs := [4]) (by kernel_rfl) (by simp) ?_
                      refine AllReadyH.cons rfl (fun K hK => ?_) AllReadyH.nil
                      clear HS
                      go_simp
                      refine hK.out _ _ (trivial) (fun HS => ?_)
                      clear hK
                      try simp only [Act.put, List.setIfInBounds_toArray, List.set_cons_zero, List.set_cons_succ]
                      refine wpAnyH_ready (rs := [6]) (by kernel_rfl) (by simp) ?_
                      refine AllReadyH.cons rfl (fun K hK => ?_) AllReadyH.nil
                      clear HS
                      go_simp
                      refine hK.out _ _ (trivial) (fun HS => ?_)
                      clear hK
                      try simp only [Act.put, List.setIfInBounds_toArray, List.set_cons_zero, List.set_cons_succ]
                      refine handTake 7 (some 6) ?_ rfl rfl (by kernel_rfl) (by kernel_rfl) (by kernel_rfl) (fun _ _ _ h => h) (by rfl) ?_ HS ?_
                      rotate_left
                      · (intro u hu; (try dsimp only at hu); go_simp; try with_reducible rfl)
                      simp only [Act.put, List.setIfInBounds_toArray, List.set_cons_zero, List.set_cons_succ]
                      refine wpAnyH_done (by kernel_rfl) ?_ _
                      clear HS
                      go_wp2_with fail
                      exact bodyPost_ret (results_en3 rfl _ _ w.heap.size ((⟨ek, ec, eq, ⟨ok, oa, ob, oc⟩⟩ : En)) rfl ((((((((HE_wr.out.set 0 _).set 1 _).set 2 _).set 3 _).set 4 _).set 5 _).set 6 _).drew)) rfl ⟨by rw [HR.out]; rfl, (Below.setCell (p := ⟨w.heap.size, 6, none⟩) (Below.setCell (p := ⟨w.heap.size, 5, none⟩) (Below.setCell (p := ⟨w.heap.size, 4, none⟩) (Below.setCell (p := ⟨w.heap.size, 3, none⟩) (Below.setCell (p := ⟨w.heap.size, 2, none⟩) (Below.setCell (p := ⟨w.heap.size, 1, none⟩) (Below.setCell (p := ⟨w.heap.size, 0, none⟩) HB_wr.out (by simp) _) (by simp) _) (by simp) _) (by simp) _) (by simp) _) (by simp) _) (by simp) _).drew⟩
                · have HKK : Hid (knownB (i : Int) L = true ∨ ¬ 0 < (only [0] L).length) := .inl HK.out
                  rcases HAT.out with ⟨hg, hgn⟩ | ⟨j, hj, hg, hgs⟩
                  · have HR := Lib.hid (decR_none HBAD.out HKK.out hgn)
                    subst hg
                    clear hgn HAT
                    have hec := HE_wr.out
                    have e0 := hec.cell 0; have f0 := hec.free 0; have e1 := hec.cell 1; have f1 := hec.free 1; have e2 := hec.cell 2; have f2 := hec.free 2; have e3 := hec.cell 3; have f3 := hec.free 3; have e4 := hec.cell 4; have f4 := hec.free 4; have e5 := hec.cell 5; have f5 := hec.free 5; have e6 := hec.cell 6; have f6 := hec.free 6
                    simp only [List.getElem?_cons_zero, List.getElem?_cons_succ] at e0 e1 e2 e3 e4 e5 e6
                    clear hec
                    go_wp2_with fail
                    exact bodyPost_ret (results_en3 rfl _ _ w.heap.size (noopEn) rfl ((((((((HE_wr.out.set 0 _).set 1 _).set 2 _).set 3 _).set 4 _).set 5 _).set 6 _))) rfl ⟨by rw [HR.out]; rfl, (Below.setCell (p := ⟨w.heap.size, 6, none⟩) (Below.setCell (p := ⟨w.heap.size, 5, none⟩) (Below.setCell (p := ⟨w.heap.size, 4, none⟩) (Below.setCell (p := ⟨w.heap.size, 3, none⟩) (Below.setCell (p := ⟨w.heap.size, 2, none⟩) (Below.setCell (p := ⟨w.heap.size, 1, none⟩) (Below.setCell (p := ⟨w.heap.size, 0, none⟩) HB_wr.out (by simp) _) (by simp) _) (by simp) _) (by simp) _) (by simp) _) (by simp) _) (by simp) _)⟩
                  · have HR := Lib.hid (decR_some HBAD.out HKK.out hgs)
                    subst hg
                    have hrow := HROW.out
                    obtain ⟨b2, o2, hA2, hb2, hx2⟩ := hrow.elem rpC_len (by omega) hj
                    obtain ⟨rfl, rfl⟩ : b = b2 ∧ o = o2 := by injection hA2 with hA2; injection hA2 with e1 e2; exact ⟨e1, e2⟩
                    have hy : ∀ i x, (rpC L[j])[i]? = some x → wr.cell? ⟨b, o + j * 11 + i, none⟩ = some x := fun i x h => by
                      rw [Nat.add_assoc]; exact (HB_wr.out.cell (p := ⟨b, o + (j * 11 + i), none⟩) (Nat.lt_of_lt_of_le hb2 hB)).trans (hx2 i x h)
                    have y0 := hy 0 _ rfl
                    have y1 := hy 1 _ rfl
                    have y2 := hy 2 _ rfl
                    have y3 := hy 3 _ rfl
                    have y4 := hy 4 _ rfl
                    have y5 := hy 5 _ rfl
                    have y6 := hy 6 _ rfl
                    have y7 := hy 7 _ rfl
                    have y8 := hy 8 _ rfl
                    have y9 := hy 9 _ rfl
                    have y10 := hy 10 _ rfl
                    simp only [Nat.add_zero] at y0
                    have hjN : (j : Int) < (i : Int) := by rw [← HN.out]; omega
                    have hj0 : (0 : Int) ≤ (j : Int) := by omega
                    have hj00 : ¬ (j : Int) < 0 := by omega
                    clear hgs hy hx2 hA2 hrow HAT
                    generalize L[j] = x at HR y0 y1 y2 y3 y4 y5 y6 y7 y8 y9 y10
                    obtain ⟨xi, xs, ⟨xr, xp⟩, ⟨ek, ec, eq, ⟨ok, oa, ob, oc⟩⟩⟩ := x
                    dsimp only at HR y0 y1 y2 y3 y4 y5 y6 y7 y8 y9 y10
                    have hec := HE_wr.out
                    have e0 := hec.cell 0; have f0 := hec.free 0; have e1 := hec.cell 1; have f1 := hec.free 1; have e2 := hec.cell 2; have f2 := hec.free 2; have e3 := hec.cell 3; have f3 := hec.free 3; have e4 := hec.cell 4; have f4 := hec.free 4; have e5 := hec.cell 5; have f5 := hec.free 5; have e6 := hec.cell 6; have f6 := hec.free 6
                    simp only [List.getElem?_cons_zero, List.getElem?_cons_succ] at e0 e1 e2 e3 e4 e5 e6
                    clear hec
                    go_wp2_with fail
                    refine wp_region_held_drew (S := (fun _ : World => True)) (by kernel_rfl) (trivial) (fun HS => ?_)
                    refine handTake 0 (some 128) ?_ rfl rfl (by kernel_rfl) (by kernel_rfl) (by kernel_rfl) (fun _ _ _ h => h) (by rfl) ?_ HS ?_
                    rotate_left
                    · (intro u hu; (try dsimp only at hu); go_simp; try with_reducible rfl)
                    simp only [Act.put, List.setIfInBounds_toArray, List.set_cons_zero, List.set_cons_succ]
                    refine handTake 1 (some 129) ?_ rfl rfl (by kernel_rfl) (by kernel_rfl) (by kernel_rfl) (fun _ _ _ h => h) (by rfl) ?_ HS ?_
                    rotate_left
                    · (intro u hu; (try dsimp only at hu); go_simp; try with_reducible rfl)
                    simp only [Act.put, List.setIfInBounds_toArray, List.set_cons_zero, List.set_cons_succ]
                    refine handTake 2 (some 130) ?_ rfl rfl (by kernel_rfl) (by kernel_rfl) (by kernel_rfl) (fun _ _ _ h => h) (by rfl) ?_ HS ?_
                    rotate_left
                    · (intro u hu; (try dsimp only at hu); go_simp; try with_reducible rfl)
                    simp only [Act.put, List.setIfInBounds_toArray, List.set_cons_zero, List.set_cons_succ]
                    refine handTake 3 (some 131) ?_ rfl rfl (by kernel_rfl) (by kernel_rfl) (by kernel_rfl) (fun _ _ _ h => h) (by rfl) ?_ HS ?_
                    rotate_left
                    · (intro u hu; (try dsimp only at hu); go_simp; try with_reducible rfl)
                    simp only [Act.put, List.setIfInBounds_toArray, List.set_cons_zero, List.set_cons_succ]
                    refine handTake 5 (some 4) ?_ rfl rfl (by kernel_rfl) (by kernel_rfl) (by kernel_rfl) (fun _ _ _ h => h) (by rfl) ?_ HS ?_
                    rotate_left
                    · (intro u hu; (try dsimp only at hu); go_simp; try with_reducible rfl)
                    simp only [Act.put, List.setIfInBounds_toArray, List.set_cons_zero, List.set_cons_succ]
                    refine wpAnyH_ready (rs := [4]) (by kernel_rfl) (by simp) ?_
                    refine AllReadyH.cons rfl (fun K hK => ?_) AllReadyH.nil
                    clear HS
                    go_simp
                    refine hK.out _ _ (trivial) (fun HS => ?_)
                    clear hK
                    try simp only [Act.put, List.setIfInBounds_toArray, List.set_cons_zero, List.set_cons_succ]
                    refine wpAnyH_ready (rs := [6]) (by kernel_rfl) (by simp) ?_
                    refine AllReadyH.cons rfl (fun K hK => ?_) AllReadyH.nil
                    clear HS
                    go_simp
                    refine hK.out _ _ (trivial) (fun HS => ?_)
                    clear hK
                    try simp only [Act.put, List.setIfInBounds_toArray, List.set_cons_zero, List.set_cons_succ]
                    refine handTake 7 (some 6) ?_ rfl rfl (by kernel_rfl) (by kernel_rfl) (by kernel_rfl) (fun _ _ _ h => h) (by rfl) ?_ HS ?_
                    rotate_left
                    · (intro u hu; (try dsimp only at hu); go_simp; try with_reducible rfl)
                    simp only [Act.put, List.setIfInBounds_toArray, List.set_cons_zero, List.set_cons_succ]
                    refine wpAnyH_done (by kernel_rfl) ?_ _
                    clear HS
                    go_wp2_with fail
                    exact bodyPost_ret (results_en3 rfl _ _ w.heap.size ((⟨ek, ec, eq, ⟨ok, oa, ob, oc⟩⟩ : En)) rfl ((((((((HE_wr.out.set 0 _).set 1 _).set 2 _).set 3 _).set 4 _).set 5 _).set 6 _).drew)) rfl ⟨by rw [HR.out]; rfl, (Below.setCell (p := ⟨w.heap.size, 6, none⟩) (Below.setCell (p := ⟨w.heap.size, 5, none⟩) (Below.setCell (p := ⟨w.heap.size, 4, none⟩) (Below.setCell (p := ⟨w.heap.size, 3, none⟩) (Below.setCell (p := ⟨w.heap.size, 2, none⟩) (Below.setCell (p := ⟨w.heap.size, 1, none⟩) (Below.setCell (p := ⟨w.heap.size, 0, none⟩) HB_wr.out (by simp) _) (by simp) _) (by simp) _) (by simp) _) (by simp) _) (by simp) _) (by simp) _).drew⟩
          · obtain ⟨kn, hkn⟩ : ∃ kn, kn = false := ⟨_, rfl⟩
            have HK : Hid (knownB (k : Int) L = kn) := by show knownB _ _ = _; rw [HKN.out, decide_eq_false hk0, hkn]; rfl
            subst hkn
            clear HKN
            have hkd : decide ((M : Int) ≤ (k : Int) - (c0 : Int) - (c4 : Int)) = false := decide_eq_false hk0
            have hkd2 : (!decide ((M : Int) ≤ (k : Int) - (c0 : Int) - (c4 : Int))) = true := by rw [hkd]; rfl
            by_cases h0 : 0 < c0
            · have HR := Lib.hid (decR_wait HBAD.out HK.out (by rw [HC0.out]; exact h0))
              have h0i : (0 : Int) < (c0 : Int) := by omega
              have hec := HE_v1.out
              have e0 := hec.cell 0; have f0 := hec.free 0; have e1 := hec.cell 1; have f1 := hec.free 1; have e2 := hec.cell 2; have f2 := hec.free 2; have e3 := hec.cell 3; have f3 := hec.free 3; have e4 := hec.cell 4; have f4 := hec.free 4; have e5 := hec.cell 5; have f5 := hec.free 5; have e6 := hec.cell 6; have f6 := hec.free 6
              simp only [List.getElem?_cons_zero, List.getElem?_cons_succ] at e0 e1 e2 e3 e4 e5 e6
              clear hec
              go_wp2_with fail
              exact bodyPost_ret (results_en3 rfl _ _ w.heap.size (zeroEn) rfl ((((((((HE_v1.out.set 0 _).set 1 _).set 2 _).set 3 _).set 4 _).set 5 _).set 6 _))) rfl ⟨by rw [HR.out]; rfl, (Below.setCell (p := ⟨w.heap.size, 6, none⟩) (Below.setCell (p := ⟨w.heap.size, 5, none⟩) (Below.setCell (p := ⟨w.heap.size, 4, none⟩) (Below.setCell (p := ⟨w.heap.size, 3, none⟩) (Below.setCell (p := ⟨w.heap.size, 2, none⟩) (Below.setCell (p := ⟨w.heap.size, 1, none⟩) (Below.setCell (p := ⟨w.heap.size, 0, none⟩) HB_v1.out (by simp) _) (by simp) _) (by simp) _) (by simp) _) (by simp) _) (by simp) _) (by simp) _)⟩
            · have HKK : Hid (knownB (k : Int) L = true ∨ ¬ 0 < (only [0] L).length) := .inr (by rw [HC0.out]; exact h0)
              have h0i : ¬ (0 : Int) < (c0 : Int) := by omega
              rcases HAT.out with ⟨hg, hgn⟩ | ⟨j, hj, hg, hgs⟩
              · have HR := Lib.hid (decR_none HBAD.out HKK.out hgn)
                subst hg
                clear hgn HAT
                have hec := HE_v1.out
                have e0 := hec.cell 0; have f0 := hec.free 0; have e1 := hec.cell 1; have f1 := hec.free 1; have e2 := hec.cell 2; have f2 := hec.free 2; have e3 := hec.cell 3; have f3 := hec.free 3; have e4 := hec.cell 4; have f4 := hec.free 4; have e5 := hec.cell 5; have f5 := hec.free 5; have e6 := hec.cell 6; have f6 := hec.free 6
                simp only [List.getElem?_cons_zero, List.getElem?_cons_succ] at e0 e1 e2 e3 e4 e5 e6
                clear hec
                go_wp2_with fail
                exact bodyPost_ret (results_en3 rfl _ _ w.heap.size (noopEn) rfl ((((((((HE_v1.out.set 0 _).set 1 _).set 2 _).set 3 _).set 4 _).set 5 _).set 6 _))) rfl ⟨by rw [HR.out]; rfl, (Below.setCell (p := ⟨w.heap.size, 6, none⟩) (Below.setCell (p := ⟨w.heap.size, 5, none⟩) (Below.setCell (p := ⟨w.heap.size, 4, none⟩) (Below.setCell (p := ⟨w.heap.size, 3, none⟩) (Below.setCell (p := ⟨w.heap.size, 2, none⟩) (Below.setCell (p := ⟨w.heap.size, 1, none⟩) (Below.setCell (p := ⟨w.heap.size, 0, none⟩) HB_v1.out (by simp) _) (by simp) _) (by simp) _) (by simp) _) (by simp) _) (by simp) _) (by simp) _)⟩
              · have HR := Lib.hid (decR_some HBAD.out HKK.out hgs)
                subst hg
                have hrow := HROW.out
                obtain ⟨b2, o2, hA2, hb2, hx2⟩ := hrow.elem rpC_len (by omega) hj
                obtain ⟨rfl, rfl⟩ : b = b2 ∧ o = o2 := by injection hA2 with hA2; injection hA2 with e1 e2; exact ⟨e1, e2⟩
                have hy : ∀ i x, (rpC L[j])[i]? = some x → v1.cell? ⟨b, o + j * 11 + i, none⟩ = some x := fun i x h => by
                  rw [Nat.add_assoc]; exact (HB_v1.out.cell (p := ⟨b, o + (j * 11 + i), none⟩) (Nat.lt_of_lt_of_le hb2 hB)).trans (hx2 i x h)
                have y0 := hy 0 _ rfl
                have y1 := hy 1 _ rfl
                have y2 := hy 2 _ rfl
                have y3 := hy 3 _ rfl
                have y4 := hy 4 _ rfl
                have y5 := hy 5 _ rfl
                have y6 := hy 6 _ rfl
                have y7 := hy 7 _ rfl
                have y8 := hy 8 _ rfl
                have y9 := hy 9 _ rfl
                have y10 := hy 10 _ rfl
                simp only [Nat.add_zero] at y0
                have hjN : (j : Int) < (k : Int) := by rw [← HN.out]; omega
                have hj0 : (0 : Int) ≤ (j : Int) := by omega
                have hj00 : ¬ (j : Int) < 0 := by omega
                clear hgs hy hx2 hA2 hrow HAT
                generalize L[j] = x at HR y0 y1 y2 y3 y4 y5 y6 y7 y8 y9 y10
                obtain ⟨xi, xs, ⟨xr, xp⟩, ⟨ek, ec, eq, ⟨ok, oa, ob, oc⟩⟩⟩ := x
                dsimp only at HR y0 y1 y2 y3 y4 y5 y6 y7 y8 y9 y10
                have hec := HE_v1.out
                have e0 := hec.cell 0; have f0 := hec.free 0; have e1 := hec.cell 1; have f1 := hec.free 1; have e2 := hec.cell 2; have f2 := hec.free 2; have e3 := hec.cell 3; have f3 := hec.free 3; have e4 := hec.cell 4; have f4 := hec.free 4; have e5 := hec.cell 5; have f5 := hec.free 5; have e6 := hec.cell 6; have f6 := hec.free 6
                simp only [List.getElem?_cons_zero, List.getElem?_cons_succ] at e0 e1 e2 e3 e4 e5 e6
                clear hec
                go_wp2_with fail
                refine wp_region_held_drew (S := (fun _ : World => True)) (by kernel_rfl) (trivial) (fun HS => ?_)
                refine handTake 0 (some 128) ?_ rfl rfl (by kernel_rfl) (by kernel_rfl) (by kernel_rfl) (fun _ _ _ h => h) (by rfl) ?_ HS ?_
                rotate_left
                · (intro u hu; (try dsimp only at hu); go_simp; try with_reducible rfl)
                simp only [Act.put, List.setIfInBounds_toArray, List.set_cons_zero, List.set_cons_succ]
                refine handTake 1 (some 129) ?_ rfl rfl (by kernel_rfl) (by kernel_rfl) (by kernel_rfl) (fun _ _ _ h => h) (by rfl) ?_ HS ?_
                rotate_left
                · (intro u hu; (try dsimp only at hu); go_simp; try with_reducible rfl)
                simp only [Act.put, List.setIfInBounds_toArray, List.set_cons_zero, List.set_cons_succ]
                refine handTake 2 (some 130) ?_ rfl rfl (by kernel_rfl) (by kernel_rfl) (by kernel_rfl) (fun _ _ _ h => h) (by rfl) ?_ HS ?_
                rotate_left
                · (intro u hu; (try dsimp only at hu); go_simp; try with_reducible rfl)
                simp only [Act.put, List.setIfInBounds_toArray, List.set_cons_zero, List.set_cons_succ]
                refine handTake 3 (some 131) ?_ rfl rfl (by kernel_rfl) (by kernel_rfl) (by kernel_rfl) (fun _ _ _ h => h) (by rfl) ?_ HS ?_
                rotate_left
                · (intro u hu; (try dsimp only at hu); go_simp; try with_reducible rfl)
                simp only [Act.put, List.setIfInBounds_toArray, List.set_cons_zero, List.set_cons_succ]
                refine handTake 5 (some 4) ?_ rfl rfl (by kernel_rfl) (by kernel_rfl) (by kernel_rfl) (fun _ _ _ h => h) (by rfl) ?_ HS ?_
                rotate_left
                · (intro u hu; (try dsimp only at hu); go_simp; try with_reducible rfl)
                simp only [Act.put, List.setIfInBounds_toArray, List.set_cons_zero, List.set_cons_succ]
                refine wpAnyH_ready (rs := [4]) (by kernel_rfl) (by simp) ?_
                refine AllReadyH.cons rfl (fun K hK => ?_) AllReadyH.nil
                clear HS
                go_simp
                refine hK.out _ _ (trivial) (fun HS => ?_)
                clear hK
                try simp only [Act.put, List.setIfInBounds_toArray, List.set_cons_zero, List.set_cons_succ]
                refine wpAnyH_ready (rs := [6]) (by kernel_rfl) (by simp) ?_
                refine AllReadyH.cons rfl (fun K hK => ?_) AllReadyH.nil
                clear HS
                go_simp
                refine hK.out _ _ (trivial) (fun HS => ?_)
                clear hK
                try simp only [Act.put, List.setIfInBounds_toArray, List.set_cons_zero, List.set_cons_succ]
                refine handTake 7 (some 6) ?_ rfl rfl (by kernel_rfl) (by kernel_rfl) (by kernel_rfl) (fun _ _ _ h => h) (by rfl) ?_ HS ?_
                rotate_left
                · (intro u hu; (try dsimp only at hu); go_simp; try with_reducible rfl)
                simp only [Act.put, List.setIfInBounds_toArray, List.set_cons_zero, List.set_cons_succ]
                refine wpAnyH_done (by kernel_rfl) ?_ _
                clear HS
                go_wp2_with fail
                exact bodyPost_ret (results_en3 rfl _ _ w.heap.size ((⟨ek, ec, eq, ⟨ok, oa, ob, oc⟩⟩ : En)) rfl ((((((((HE_v1.out.set 0 _).set 1 _).set 2 _).set 3 _).set 4 _).set 5 _).set 6 _).drew)) rfl ⟨by rw [HR.out]; rfl, (Below.setCell (p := ⟨w.heap.size, 6, none⟩) (Below.setCell (p := ⟨w.heap.size, 5, none⟩) (Below.setCell (p := ⟨w.heap.size, 4, none⟩) (Below.setCell (p := ⟨w.heap.size, 3, none⟩) (Below.setCell (p := ⟨w.heap.size, 2, none⟩) (Below.setCell (p := ⟨w.heap.size, 1, none⟩) (Below.setCell (p := ⟨w.heap.size, 0, none⟩) HB_v1.out (by simp) _) (by simp) _) (by simp) _) (by simp) _) (by simp) _) (by simp) _) (by simp) _).drew⟩
    · have hn' : ((L.length : Int) == n) = false := by simpa using hn
      have hn'' : ((L.length : Int) != n) = true := by simpa using hn
      have HBAD : Hid (badB n L = true) := by show badB n L = true; unfold badB; rw [decide_eq_false hn]; simp
      clear hn hr hc
      generalize hN : L.length = N at *
      clear hN
      go_enter Try.func16, Try.ntmps16
      go_wp2_with fail
      rw [← hW]
      clear hW
      go_wp2_with fail
      refine CR.out.mono ?_
      rintro e u ⟨rfl, rfl⟩
      clear CR
      have HR := Lib.hid (decR_bad (n := n) (L := L) (HBAD.out))
      have hec := HE_W.out
      have e0 := hec.cell 0; have f0 := hec.free 0; have e1 := hec.cell 1; have f1 := hec.free 1; have e2 := hec.cell 2; have f2 := hec.free 2; have e3 := hec.cell 3; have f3 := hec.free 3; have e4 := hec.cell 4; have f4 := hec.free 4; have e5 := hec.cell 5; have f5 := hec.free 5; have e6 := hec.cell 6; have f6 := hec.free 6
      simp only [List.getElem?_cons_zero, List.getElem?_cons_succ] at e0 e1 e2 e3 e4 e5 e6
      clear hec
      go_wp2_with fail
      exact bodyPost_ret (results_en3 rfl _ _ w.heap.size (zeroEn) rfl ((((((((HE_W.out.set 0 _).set 1 _).set 2 _).set 3 _).set 4 _).set 5 _).set 6 _))) rfl ⟨by rw [HR.out]; rfl, (Below.setCell (p := ⟨w.heap.size, 6, none⟩) (Below.setCell (p := ⟨w.heap.size, 5, none⟩) (Below.setCell (p := ⟨w.heap.size, 4, none⟩) (Below.setCell (p := ⟨w.heap.size, 3, none⟩) (Below.setCell (p := ⟨w.heap.size, 2, none⟩) (Below.setCell (p := ⟨w.heap.size, 1, none⟩) (Below.setCell (p := ⟨w.heap.size, 0, none⟩) HB_W.out (by simp) _) (by simp) _) (by simp) _) (by simp) _) (by simp) _) (by simp) _) (by simp) _)⟩
end Ch
end Go.Proofs.Ytpgejomhcojppaa
