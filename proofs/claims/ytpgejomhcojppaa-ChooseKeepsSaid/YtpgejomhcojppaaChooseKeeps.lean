/- The law ChooseKeeps, walked: two values are never chosen. -/
import Derived.Test.YtpgejomhcojppaaChooseProposes
import Derived.Test.YtpgejomhcojppaaChooseLoses
import Derived.Test.YtpgejomhcojppaaChooseKeepsOpen
import Derived.Test.YtpgejomhcojppaaChooseAwake
set_option linter.unusedSimpArgs false
set_option linter.unusedVariables false
namespace Go.Proofs.Ytpgejomhcojppaa
open Go.RowKit
namespace Ch
open Bl Qm
theorem odd_of (n : Int) : ∃ N : Nat, wrap64 (3 + wrap64 (2 * wrap64 ((IntKind.u64.wrap n).tmod 3))) = (N : Int) ∧ (N = 3 ∨ N = 5 ∨ N = 7) := by
  have h : ∃ N : Int, wrap64 (3 + wrap64 (2 * wrap64 ((IntKind.u64.wrap n).tmod 3))) = N ∧ (N = 3 ∨ N = 5 ∨ N = 7) := by
    refine ⟨_, rfl, ?_⟩
    unfold wrap64
    rw [IntKind.wrap_u64, Int.tmod_eq_emod_of_nonneg (by omega)]
    omega
  obtain ⟨N, h1, h2⟩ := h
  obtain ⟨k, rfl⟩ := Int.eq_ofNat_of_zero_le (by omega : 0 ≤ N)
  exact ⟨k, h1, by omega⟩
theorem tmod_nat (a b : Nat) : ((a : Nat) : Int).tmod (b : Nat) = ((a % b : Nat) : Int) := by rw [Int.tmod_eq_emod_of_nonneg (by omega)]; simp
theorem k_small {a k q i M : Nat} (h1 : a = k + 1) (h2 : a ≤ q + 1) (h3 : q ≤ i) (h4 : i < M) (h5 : ¬ 60 < M) : (k : Int) ≤ 1000 := by omega
theorem q_small {a q i M : Nat} (h2 : a ≤ q + 1) (h3 : q ≤ i) (h4 : i < M) (h5 : ¬ 60 < M) : a ≤ 1000 := by omega
theorem q_next {a q i : Nat} (h2 : a ≤ q + 1) (h3 : q ≤ i) : a ≤ i + 1 := by omega
theorem wrap_small (k : Nat) (h : (k : Int) ≤ 1000) : wrap64 (k : Int) = (k : Int) ∧ IntKind.i64.wrap (k : Int) = (k : Int) := by
  refine ⟨by unfold wrap64; omega, by rw [IntKind.wrap_i64]; omega⟩
theorem qs_prop (s : Sl) (who so : Nat) : (proposes s who so).1.qs.length ≤ s.qs.length + 1 := by
  unfold proposes
  dsimp only
  split
  · split <;> simp
  · simp
theorem qs_acc (s : Sl) (k so : Nat) : (accepts s k so).1.qs.length = s.qs.length := by
  unfold accepts
  dsimp only
  split
  · split <;> simp
  · simp
set_option maxRecDepth 100000 in
set_option maxHeartbeats 32000000 in
theorem chooseKeeps_is (n : Int) (L : List Ka) (hok : ∀ a ∈ L, kaOk a) (v : Value) (w : World) (hr : Row w w.heap.size v L.length (L.flatMap kaC)) :
    Calls Try.prog 4 #[.int .i64 n, v] w fun e w' => e = .returned (.bool true) ∧ Below w.heap.size w w' := by
  obtain ⟨A, c, rfl, _, _⟩ := hr.slice
  have hbd := hr.bound
  have AW := Lib.hid (awake_is w)
  by_cases hL : 60 < L.length
  · have hL1 : (60 : Int) < (L.length : Int) := by omega
    generalize L.length = M at *
    clear hr hok hL
    go_enter Try.func4, Try.ntmps4
    go_wp2_with fail
    refine AW.out.mono ?_
    rintro e u1 ⟨rfl, hx⟩
    have HB := Lib.hid hx
    clear hx AW
    go_wp2_with fail
    go_ret
    exact ⟨rfl, HB.out⟩
  have hL1 : ¬ (60 : Int) < (L.length : Int) := by omega
  obtain ⟨N, hN, h357⟩ := odd_of n
  have HR := Lib.hid hr
  have HOK := Lib.hid hok
  obtain ⟨M, hM⟩ : ∃ M, L.length = M := ⟨_, rfl⟩
  have HM := Lib.hid hM
  rw [hM] at hbd hL1 hL ⊢
  have HI := Lib.hid (start_inv h357)
  clear hr hok hM h357
  go_enter Try.func4, Try.ntmps4
  go_wp2_with fail
  refine AW.out.mono ?_
  rintro e u1 ⟨rfl, hx⟩
  obtain ⟨V0, hV0⟩ : ∃ V : World, V = u1.alloc (.cells #[.int .i64 (N : Nat), .int .i64 0, .int .i64 0, .int .i64 0, .int .i64 0, .int .u8 0, .int .i64 0, .int .i64 0, .int .i64 0, .int .i64 0, .int .i64 0, .int .u8 0, .int .i64 0, .int .i64 0, .int .i64 0, .int .i64 0, .int .i64 0, .int .u8 0, .int .i64 0, .int .i64 0, .int .i64 0, .int .i64 0, .int .i64 0, .int .u8 0, .int .i64 0, .int .i64 0, .int .i64 0, .int .i64 0, .int .i64 0, .int .u8 0, .int .i64 0, .int .i64 0, .int .i64 0, .int .i64 0, .int .i64 0, .int .u8 0, .int .i64 0, .int .i64 0, .int .i64 0, .int .i64 0, .int .i64 0, .int .u8 0, .int .i64 0, .slice none 0 0, .int .i64 0, .int .i64 0, .int .i64 0] 45) := ⟨_, rfl⟩
  have H0 : Hid (Sep w (sI w.heap.size u1.heap.size (.slice none 0 0) (startS N) ++ []) V0) := by
    rw [hV0]
    exact ((Sep.start w hx).empty w.heap.size 75 4).alloc 45 (slC (startS N) (.slice none 0 0))
  obtain ⟨g, hg⟩ : ∃ g, u1.heap.size = g := ⟨_, rfl⟩
  rw [hg] at H0
  clear hx AW
  go_wp2_with fail
  try rw [hN]
  rw [← hV0]
  try rw [hg]
  clear hV0 hg hN
  go_loopw [6] (fun iv wr => ∃ (i : Nat) (s : Sl) (pv : Value), i ≤ M ∧ iv = .int .i64 i ∧ Inv s ∧ s.qs.length ≤ i ∧ Sep w (sI w.heap.size g pv s ++ []) wr) (fun iv _ => M - (intOf iv).toNat)
  case atStart => exact ⟨0, startS N, .slice none 0 0, Nat.zero_le _, rfl, HI.out, Nat.le_refl _, H0.out⟩
  case round =>
    obtain ⟨i, s, pv, hi, rfl, hinv, hqs, hs⟩ := hrel
    have HS := Lib.hid hs
    have HINV := Lib.hid hinv
    have zs := hs.size
    have hi0 : (0 : Int) ≤ (i : Int) := by omega
    by_cases hlt : i < M
    · have hl : i < L.length := by rw [HM.out]; exact hlt
      have hi1 : (i : Int) < (M : Int) := by omega
      have h2 := HR.out
      obtain ⟨b, o, rfl, hb, hx2⟩ := h2.elem kaC_len (by omega) hl
      have hy : ∀ j x, (kaC L[i])[j]? = some x → wr.cell? ⟨b, o + i * 4 + j, none⟩ = some x := fun j x h => by
        rw [Nat.add_assoc]; exact (hs.below.cell (p := ⟨b, o + (i * 4 + j), none⟩) hb).trans (hx2 j x h)
      have y0 := hy 0 _ rfl; have y1 := hy 1 _ rfl; have y2 := hy 2 _ rfl; have y3 := hy 3 _ rfl
      simp only [Nat.add_zero] at y0
      have hak := HOK.out L[i] (List.getElem_mem hl)
      obtain ⟨a, ha⟩ : ∃ a, L[i] = a := ⟨_, rfl⟩
      rw [ha] at y0 y1 y2 y3 hak
      obtain ⟨ak, aw, aso, aot⟩ := a
      obtain ⟨hk1, hk2, hk3, hk4⟩ := hak
      dsimp only at y0 y1 y2 y3 hk1 hk2 hk3 hk4
      have HACT := Lib.hid (act_inv hinv ⟨ak, aw, aso, aot⟩ hk3)
      have hn357 := hinv.n357
      have hlen := hinv.len
      clear hx2 hy ha h2
      obtain ⟨V1, hV1⟩ : ∃ V : World, V = wr.alloc (.cells #[.int .u8 (ak : Nat), .int .u8 (aw : Nat), .int .u8 (aso : Nat), .int .u8 (aot : Nat)] 47) := ⟨_, rfl⟩
      have HV1 : Hid (Sep w (sI w.heap.size g pv s ++ (.box wr.heap.size 47 [.int .u8 (ak : Nat), .int .u8 (aw : Nat), .int .u8 (aso : Nat), .int .u8 (aot : Nat)] :: [])) V1) := by rw [hV1]; exact Sep.box_new _ hs 47 [.int .u8 (ak : Nat), .int .u8 (aw : Nat), .int .u8 (aso : Nat), .int .u8 (aot : Nat)]
      have hbx := HV1.out.box_at
      have d0 := hbx.cell 0; have d1 := hbx.cell 1; have d2 := hbx.cell 2; have d3 := hbx.cell 3
      simp only [List.getElem?_cons_zero, List.getElem?_cons_succ] at d0 d1 d2 d3
      have z := sl_at HV1.out hlen
      have c0 := z.n
      have c43 := z.pv
      obtain ⟨pA, pc, hpv⟩ := sl_form HV1.out
      have HPV := Lib.hid hpv
      rw [hpv] at c43
      have ht4 := tmod_nat ak 4
      have hm4 : ak % 4 < 4 := Nat.mod_lt _ (by omega)
      obtain ⟨m, hm⟩ : ∃ m, ak % 4 = m := ⟨_, rfl⟩
      rw [hm] at ht4 hm4
      have ht4 : ((ak : Nat) : Int).tmod 4 = (m : Int) := ht4
      have HMM := Lib.hid hm
      clear hbx z hs hinv hpv hm
      go_wp2_with fail
      rw [← hV1]
      obtain ⟨bA, hbA⟩ : ∃ b, wr.heap.size = b := ⟨_, rfl⟩
      rw [hbA] at HV1 d0 d1 d2 d3 ⊢
      clear hV1 hbA
      go_quiet (fail)
      obtain ⟨V2, hV2⟩ : ∃ V : World, V = V1.drewN nq := ⟨_, rfl⟩
      have HV2 : Hid (Sep w (sI w.heap.size g pv s ++ (.box bA 47 [.int .u8 (ak : Nat), .int .u8 (aw : Nat), .int .u8 (aso : Nat), .int .u8 (aot : Nat)] :: [])) V2) := by rw [hV2]; exact HV1.out.drewN nq
      rw [← hV2]
      rw [show V1.cell? = V2.cell? by rw [hV2]; rfl] at d0 d1 d2 d3 c0 c43
      have hqs61 : s.qs.length ≤ 1000 := by omega
      have hs7 : s.n ≤ 7 := by omega
      have hs3 : 0 < s.n := by omega
      clear hV2 HV1 y0 y1 y2 y3
      by_cases hA : m < 2
      · have hA1 : (m : Int) < 2 := by omega
        have PR := Lib.hid (proposes_is s hn357 hlen hqs61 (aw % s.n) (Nat.mod_lt _ hs3) aso hk3 g pv HV2.out.drew)
        have hp := Lib.hid (proposes_inv HINV.out (Nat.mod_lt aw hs3) hk3)
        have hq1 := Lib.hid (qs_prop s (aw % s.n) aso)
        have HACT1 : Hid (actN s ⟨ak, aw, aso, aot⟩ = if (proposes s (aw % s.n) aso).2 then accepts (proposes s (aw % s.n) aso).1 ((proposes s (aw % s.n) aso).1.qs.length - 1) aot else ((proposes s (aw % s.n) aso).1, true)) := by
          show actN _ _ = _
          unfold actN
          dsimp only
          rw [if_pos (by rw [HMM.out]; exact hA)]
        have htw := tmod_nat aw s.n
        obtain ⟨N1, hN1⟩ : ∃ N, s.n = N := ⟨_, rfl⟩
        rw [hN1] at c0 htw hs7 hs3
        have hNz : ¬ (N1 : Int) = 0 := by omega
        have hNz2 : ¬ N1 = 0 := by omega
        obtain ⟨hwa, hwa2⟩ := wrap_small aw (Int.ofNat_le.2 (Nat.le_trans (Nat.le_of_lt hk2) (by decide)))
        have hpn : (proposes s (aw % s.n) aso).1.n = N1 := by
          rw [← hN1]
          unfold proposes
          dsimp only
          split
          · split <;> rfl
          · rfl
        obtain ⟨⟨s2, ok2⟩, hs2⟩ : ∃ r, proposes s (aw % s.n) aso = r := ⟨_, rfl⟩
        rw [hs2] at PR hp hq1 HACT1 hpn
        rw [hN1, Int.natCast_emod] at PR
        dsimp only at PR hp hq1 HACT1 hpn
        have SOF : Hid (∀ (s' : Sl) (pv' : Value) (u : World), s'.n = N1 → s'.ps.length = 7 → Sep w (sI w.heap.size g pv' s' ++ (.box bA 47 [.int .u8 (ak : Nat), .int .u8 (aw : Nat), .int .u8 (aso : Nat), .int .u8 (aot : Nat)] :: [])) u → (u.cell? ⟨bA, 1, none⟩ = some (.int .u8 (aw : Nat)) ∧ u.cell? ⟨g, 0, none⟩ = some (.int .i64 (N1 : Nat)))) := fun s' pv' u h1 h2 h => ⟨h.box_at.cell 1, by have := (sl_at h h2).n; rw [h1] at this; exact this⟩
        have HN1 := Lib.hid hN1
        have HLEN := Lib.hid hlen
        have HLEN2 := Lib.hid hp.out.1.len
        have HPN := Lib.hid hpn
        clear hs2 hpn hN1
        cases ok2
        · go_wp2_with fail
          refine wp_region_held_drew (S := (fun u : World => u.cell? ⟨bA, 1, none⟩ = some (.int .u8 (aw : Nat)) ∧ u.cell? ⟨g, 0, none⟩ = some (.int .i64 (N1 : Nat)))) (by kernel_rfl) (SOF.out s pv _ HN1.out HLEN.out HV2.out.drew) (fun HS => ?_)
          refine handTake 0 (some 46) ?_ rfl rfl (by kernel_rfl) (by kernel_rfl) (by kernel_rfl) (fun _ _ _ h => h) (by rfl) ?_ HS ?_
          rotate_left
          · (intro u hu; (try dsimp only at hu); go_simp; try with_reducible rfl)
          simp only [Act.put, List.setIfInBounds_toArray, List.set_cons_zero, List.set_cons_succ]
          refine handTake 1 (some 47) ?_ rfl rfl (by kernel_rfl) (by kernel_rfl) (by kernel_rfl) (fun _ _ _ h => h) (by rfl) ?_ HS ?_
          rotate_left
          · (intro u hu; (try dsimp only at hu); go_simp; try with_reducible rfl)
          simp only [Act.put, List.setIfInBounds_toArray, List.set_cons_zero, List.set_cons_succ]
          refine handTake 2 (some 48) ?_ rfl rfl (by kernel_rfl) (by kernel_rfl) (by kernel_rfl) (fun _ _ _ h => h) (by rfl) ?_ HS ?_
          rotate_left
          · (intro u hu; (try dsimp only at hu); go_simp; try with_reducible rfl)
          simp only [Act.put, List.setIfInBounds_toArray, List.set_cons_zero, List.set_cons_succ]
          refine handTake 3 (some 49) ?_ rfl rfl (by kernel_rfl) (by kernel_rfl) (by kernel_rfl) (fun _ _ _ h => h) (by rfl) ?_ HS ?_
          rotate_left
          · (intro u hu; (try dsimp only at hu); go_simp; try with_reducible rfl)
          simp only [Act.put, List.setIfInBounds_toArray, List.set_cons_zero, List.set_cons_succ]
          refine handTake 4 (some 50) ?_ rfl rfl (by kernel_rfl) (by kernel_rfl) (by kernel_rfl) (fun _ _ _ h => h) (by rfl) ?_ HS ?_
          rotate_left
          · (intro u hu; (try dsimp only at hu); go_simp; try with_reducible rfl)
          simp only [Act.put, List.setIfInBounds_toArray, List.set_cons_zero, List.set_cons_succ]
          refine handTake 5 (some 51) ?_ rfl rfl (by kernel_rfl) (by kernel_rfl) (by kernel_rfl) (fun _ _ _ h => h) (by rfl) ?_ HS ?_
          rotate_left
          · (intro u hu; (try dsimp only at hu); go_simp; try with_reducible rfl)
          simp only [Act.put, List.setIfInBounds_toArray, List.set_cons_zero, List.set_cons_succ]
          refine handTake 6 (some 52) ?_ rfl rfl (by kernel_rfl) (by kernel_rfl) (by kernel_rfl) (fun _ _ _ h => h) (by rfl) ?_ HS ?_
          rotate_left
          · (intro u hu; (try dsimp only at hu); go_simp; try with_reducible rfl)
          simp only [Act.put, List.setIfInBounds_toArray, List.set_cons_zero, List.set_cons_succ]
          refine handTake 7 (some 53) ?_ rfl rfl (by kernel_rfl) (by kernel_rfl) (by kernel_rfl) (fun _ _ _ h => h) (by rfl) ?_ HS ?_
          rotate_left
          · (intro u hu; (try dsimp only at hu); go_simp; try with_reducible rfl)
          simp only [Act.put, List.setIfInBounds_toArray, List.set_cons_zero, List.set_cons_succ]
          refine handTake 8 (some 54) ?_ rfl rfl (by kernel_rfl) (by kernel_rfl) (by kernel_rfl) (fun _ _ _ h => h) (by rfl) ?_ HS ?_
          rotate_left
          · (intro u hu; (try dsimp only at hu); go_simp; try with_reducible rfl)
          simp only [Act.put, List.setIfInBounds_toArray, List.set_cons_zero, List.set_cons_succ]
          refine handTake 9 (some 55) ?_ rfl rfl (by kernel_rfl) (by kernel_rfl) (by kernel_rfl) (fun _ _ _ h => h) (by rfl) ?_ HS ?_
          rotate_left
          · (intro u hu; (try dsimp only at hu); go_simp; try with_reducible rfl)
          simp only [Act.put, List.setIfInBounds_toArray, List.set_cons_zero, List.set_cons_succ]
          refine wpAnyH_ready (rs := [10]) (by kernel_rfl) (by simp) ?_
          refine AllReadyH.cons rfl (fun K hK => ?_) AllReadyH.nil
          clear HS
          go_simp
          refine PR.out.mono ?_
          rintro e u4 ⟨rfl, pv2, hs4⟩
          have HS4 := Lib.hid hs4
          clear hs4 PR
          go_wp2_with fail
          refine hK.out _ _ (SOF.out s2 pv2 _ HPN.out HLEN2.out HS4.out) (fun HS => ?_)
          clear hK
          try simp only [Act.put, List.setIfInBounds_toArray, List.set_cons_zero, List.set_cons_succ]
          refine handTake 11 (some 57) ?_ rfl rfl (by kernel_rfl) (by kernel_rfl) (by kernel_rfl) (fun _ _ _ h => h) (by rfl) ?_ HS ?_
          rotate_left
          · (intro u hu; (try dsimp only at hu); go_simp; try with_reducible rfl)
          simp only [Act.put, List.setIfInBounds_toArray, List.set_cons_zero, List.set_cons_succ]
          refine handSkip 12 (some 58) rfl rfl (by kernel_rfl) (by kernel_rfl) (by kernel_rfl) (fun _ _ _ h => h) (by rfl) HS ?_
          simp only [Act.put, List.setIfInBounds_toArray, List.set_cons_zero, List.set_cons_succ]
          refine handSkip 13 (some 59) rfl rfl (by kernel_rfl) (by kernel_rfl) (by kernel_rfl) (fun _ _ _ h => h) (by rfl) HS ?_
          simp only [Act.put, List.setIfInBounds_toArray, List.set_cons_zero, List.set_cons_succ]
          refine handSkip 14 (some 60) rfl rfl (by kernel_rfl) (by kernel_rfl) (by kernel_rfl) (fun _ _ _ h => h) (by rfl) HS ?_
          simp only [Act.put, List.setIfInBounds_toArray, List.set_cons_zero, List.set_cons_succ]
          refine handSkip 15 (some 61) rfl rfl (by kernel_rfl) (by kernel_rfl) (by kernel_rfl) (fun _ _ _ h => h) (by rfl) HS ?_
          simp only [Act.put, List.setIfInBounds_toArray, List.set_cons_zero, List.set_cons_succ]
          refine handSkip 16 (some 62) rfl rfl (by kernel_rfl) (by kernel_rfl) (by kernel_rfl) (fun _ _ _ h => h) (by rfl) HS ?_
          simp only [Act.put, List.setIfInBounds_toArray, List.set_cons_zero, List.set_cons_succ]
          refine handSkip 17 (some 63) rfl rfl (by kernel_rfl) (by kernel_rfl) (by kernel_rfl) (fun _ _ _ h => h) (by rfl) HS ?_
          simp only [Act.put, List.setIfInBounds_toArray, List.set_cons_zero, List.set_cons_succ]
          refine handSkip 18 (some 64) rfl rfl (by kernel_rfl) (by kernel_rfl) (by kernel_rfl) (fun _ _ _ h => h) (by rfl) HS ?_
          simp only [Act.put, List.setIfInBounds_toArray, List.set_cons_zero, List.set_cons_succ]
          refine handSkip 19 (some 65) rfl rfl (by kernel_rfl) (by kernel_rfl) (by kernel_rfl) (fun _ _ _ h => h) (by rfl) HS ?_
          simp only [Act.put, List.setIfInBounds_toArray, List.set_cons_zero, List.set_cons_succ]
          refine handSkip 20 (some 66) rfl rfl (by kernel_rfl) (by kernel_rfl) (by kernel_rfl) (fun _ _ _ h => h) (by rfl) HS ?_
          simp only [Act.put, List.setIfInBounds_toArray, List.set_cons_zero, List.set_cons_succ]
          refine handSkip 21 (some 67) rfl rfl (by kernel_rfl) (by kernel_rfl) (by kernel_rfl) (fun _ _ _ h => h) (by rfl) HS ?_
          simp only [Act.put, List.setIfInBounds_toArray, List.set_cons_zero, List.set_cons_succ]
          refine handTake 22 (some 68) ?_ rfl rfl (by kernel_rfl) (by kernel_rfl) (by kernel_rfl) (fun _ _ _ h => h) (by rfl) ?_ HS ?_
          rotate_left
          · (intro u hu; (try dsimp only at hu); go_simp; try with_reducible rfl)
          simp only [Act.put, List.setIfInBounds_toArray, List.set_cons_zero, List.set_cons_succ]
          refine wpAnyH_done (by kernel_rfl) ?_ _
          clear HS
          go_wp2_with fail
          go_roundw
          case rel => exact ⟨i + 1, s2, pv2, by omega, by go_num, hp.out.1, q_next hq1.out hqs, HS4.out.drop (sI w.heap.size g pv2 s2)⟩
          case measure => show M - ((i : Int) + 1).toNat < M - (i : Int).toNat; omega
        · have hpos := hp.out.2 rfl
          obtain ⟨k2, hk2'⟩ : ∃ k, s2.qs.length = k + 1 := ⟨s2.qs.length - 1, (Nat.succ_pred_eq_of_pos hpos).symm⟩
          have HK2 := Lib.hid hk2'
          have hkk : k2 < s2.qs.length := by rw [hk2']; exact Nat.lt_succ_self _
          have hkl : (k2 : Int) ≤ 1000 := k_small hk2' hq1.out hqs hlt hL
          have hk20 : (0 : Int) ≤ (k2 : Int) := Int.natCast_nonneg _
          obtain ⟨hw2, hw3⟩ := wrap_small k2 hkl
          have hac := Lib.hid (accepts_inv hp.out.1 hkk aot)
          have HACN : Hid ((accepts s2 k2 aot).1.n = N1) := by
            show (accepts s2 k2 aot).1.n = N1
            rw [← HPN.out]
            unfold accepts
            dsimp only
            split
            · split <;> rfl
            · rfl
          have HQA := Lib.hid (qs_acc s2 k2 aot)
          have HAI : Hid (∀ (pv' : Value) (u : World), Sep w (sI w.heap.size g pv' s2 ++ (.box bA 47 [.int .u8 (ak : Nat), .int .u8 (aw : Nat), .int .u8 (aso : Nat), .int .u8 (aot : Nat)] :: [])) u → Calls Try.prog 13 #[.pointer (some ⟨g, 0, none⟩), .int .i64 k2, .int .u8 (aot : Nat)] u fun e w' => e = .returned (.bool true) ∧ Sep w (sI w.heap.size g pv' (accepts s2 k2 aot).1 ++ (.box bA 47 [.int .u8 (ak : Nat), .int .u8 (aw : Nat), .int .u8 (aso : Nat), .int .u8 (aot : Nat)] :: [])) w') := fun pv' u h => by
            have C := accepts_is s2 hp.out.1.n357 HLEN2.out k2 hkk (hp.out.1.by8 _ (List.getElem_mem hkk)) (q_small hq1.out hqs hlt hL) aot hk4 g pv' h
            rw [hac.out.1] at C
            exact C
          clear hk2' hkk hpos
          go_wp2_with fail
          refine wp_region_held_drew (S := (fun u : World => u.cell? ⟨bA, 1, none⟩ = some (.int .u8 (aw : Nat)) ∧ u.cell? ⟨g, 0, none⟩ = some (.int .i64 (N1 : Nat)))) (by kernel_rfl) (SOF.out s pv _ HN1.out HLEN.out HV2.out.drew) (fun HS => ?_)
          refine handTake 0 (some 46) ?_ rfl rfl (by kernel_rfl) (by kernel_rfl) (by kernel_rfl) (fun _ _ _ h => h) (by rfl) ?_ HS ?_
          rotate_left
          · (intro u hu; (try dsimp only at hu); go_simp; try with_reducible rfl)
          simp only [Act.put, List.setIfInBounds_toArray, List.set_cons_zero, List.set_cons_succ]
          refine handTake 1 (some 47) ?_ rfl rfl (by kernel_rfl) (by kernel_rfl) (by kernel_rfl) (fun _ _ _ h => h) (by rfl) ?_ HS ?_
          rotate_left
          · (intro u hu; (try dsimp only at hu); go_simp; try with_reducible rfl)
          simp only [Act.put, List.setIfInBounds_toArray, List.set_cons_zero, List.set_cons_succ]
          refine handTake 2 (some 48) ?_ rfl rfl (by kernel_rfl) (by kernel_rfl) (by kernel_rfl) (fun _ _ _ h => h) (by rfl) ?_ HS ?_
          rotate_left
          · (intro u hu; (try dsimp only at hu); go_simp; try with_reducible rfl)
          simp only [Act.put, List.setIfInBounds_toArray, List.set_cons_zero, List.set_cons_succ]
          refine handTake 3 (some 49) ?_ rfl rfl (by kernel_rfl) (by kernel_rfl) (by kernel_rfl) (fun _ _ _ h => h) (by rfl) ?_ HS ?_
          rotate_left
          · (intro u hu; (try dsimp only at hu); go_simp; try with_reducible rfl)
          simp only [Act.put, List.setIfInBounds_toArray, List.set_cons_zero, List.set_cons_succ]
          refine handTake 4 (some 50) ?_ rfl rfl (by kernel_rfl) (by kernel_rfl) (by kernel_rfl) (fun _ _ _ h => h) (by rfl) ?_ HS ?_
          rotate_left
          · (intro u hu; (try dsimp only at hu); go_simp; try with_reducible rfl)
          simp only [Act.put, List.setIfInBounds_toArray, List.set_cons_zero, List.set_cons_succ]
          refine handTake 5 (some 51) ?_ rfl rfl (by kernel_rfl) (by kernel_rfl) (by kernel_rfl) (fun _ _ _ h => h) (by rfl) ?_ HS ?_
          rotate_left
          · (intro u hu; (try dsimp only at hu); go_simp; try with_reducible rfl)
          simp only [Act.put, List.setIfInBounds_toArray, List.set_cons_zero, List.set_cons_succ]
          refine handTake 6 (some 52) ?_ rfl rfl (by kernel_rfl) (by kernel_rfl) (by kernel_rfl) (fun _ _ _ h => h) (by rfl) ?_ HS ?_
          rotate_left
          · (intro u hu; (try dsimp only at hu); go_simp; try with_reducible rfl)
          simp only [Act.put, List.setIfInBounds_toArray, List.set_cons_zero, List.set_cons_succ]
          refine handTake 7 (some 53) ?_ rfl rfl (by kernel_rfl) (by kernel_rfl) (by kernel_rfl) (fun _ _ _ h => h) (by rfl) ?_ HS ?_
          rotate_left
          · (intro u hu; (try dsimp only at hu); go_simp; try with_reducible rfl)
          simp only [Act.put, List.setIfInBounds_toArray, List.set_cons_zero, List.set_cons_succ]
          refine handTake 8 (some 54) ?_ rfl rfl (by kernel_rfl) (by kernel_rfl) (by kernel_rfl) (fun _ _ _ h => h) (by rfl) ?_ HS ?_
          rotate_left
          · (intro u hu; (try dsimp only at hu); go_simp; try with_reducible rfl)
          simp only [Act.put, List.setIfInBounds_toArray, List.set_cons_zero, List.set_cons_succ]
          refine handTake 9 (some 55) ?_ rfl rfl (by kernel_rfl) (by kernel_rfl) (by kernel_rfl) (fun _ _ _ h => h) (by rfl) ?_ HS ?_
          rotate_left
          · (intro u hu; (try dsimp only at hu); go_simp; try with_reducible rfl)
          simp only [Act.put, List.setIfInBounds_toArray, List.set_cons_zero, List.set_cons_succ]
          refine wpAnyH_ready (rs := [10]) (by kernel_rfl) (by simp) ?_
          refine AllReadyH.cons rfl (fun K hK => ?_) AllReadyH.nil
          clear HS
          go_simp
          refine PR.out.mono ?_
          rintro e u4 ⟨rfl, pv2, hs4⟩
          obtain ⟨qA, qc, hpv2⟩ := sl_form hs4
          rw [HK2.out] at hpv2
          subst hpv2
          have z43 := (sl_at hs4 HLEN2.out).pv
          have HS4 := Lib.hid hs4
          clear hs4 PR
          go_wp2_with fail
          refine hK.out _ _ (SOF.out s2 _ _ HPN.out HLEN2.out HS4.out) (fun HS => ?_)
          clear hK
          try simp only [Act.put, List.setIfInBounds_toArray, List.set_cons_zero, List.set_cons_succ]
          refine handTake 11 (some 57) ?_ rfl rfl (by kernel_rfl) (by kernel_rfl) (by kernel_rfl) (fun _ _ _ h => h) (by rfl) ?_ HS ?_
          rotate_left
          · (intro u hu; (try dsimp only at hu); go_simp; try with_reducible rfl)
          simp only [Act.put, List.setIfInBounds_toArray, List.set_cons_zero, List.set_cons_succ]
          refine handTake 12 (some 58) ?_ rfl rfl (by kernel_rfl) (by kernel_rfl) (by kernel_rfl) (fun _ _ _ h => h) (by rfl) ?_ HS ?_
          rotate_left
          · (intro u hu; (try dsimp only at hu); go_simp; try with_reducible rfl)
          simp only [Act.put, List.setIfInBounds_toArray, List.set_cons_zero, List.set_cons_succ]
          refine handTake 13 (some 59) ?_ rfl rfl (by kernel_rfl) (by kernel_rfl) (by kernel_rfl) (fun _ _ _ h => h) (by rfl) ?_ HS ?_
          rotate_left
          · (intro u hu; (try dsimp only at hu); go_simp; try with_reducible rfl)
          simp only [Act.put, List.setIfInBounds_toArray, List.set_cons_zero, List.set_cons_succ]
          refine handTake 14 (some 60) ?_ rfl rfl (by kernel_rfl) (by kernel_rfl) (by kernel_rfl) (fun _ _ _ h => h) (by rfl) ?_ HS ?_
          rotate_left
          · (intro u hu; (try dsimp only at hu); go_simp; try with_reducible rfl)
          simp only [Act.put, List.setIfInBounds_toArray, List.set_cons_zero, List.set_cons_succ]
          refine handTake 15 (some 61) ?_ rfl rfl (by kernel_rfl) (by kernel_rfl) (by kernel_rfl) (fun _ _ _ h => h) (by rfl) ?_ HS ?_
          rotate_left
          · (intro u hu; (try dsimp only at hu); go_simp; try with_reducible rfl)
          simp only [Act.put, List.setIfInBounds_toArray, List.set_cons_zero, List.set_cons_succ]
          refine handTake 19 (some 65) ?_ rfl rfl (by kernel_rfl) (by kernel_rfl) (by kernel_rfl) (fun _ _ _ h => h) (by rfl) ?_ HS ?_
          rotate_left
          · (intro u hu; (try dsimp only at hu); go_simp; try with_reducible rfl)
          simp only [Act.put, List.setIfInBounds_toArray, List.set_cons_zero, List.set_cons_succ]
          refine wpAnyH_ready (rs := [16]) (by kernel_rfl) (by simp) ?_
          refine AllReadyH.cons rfl (fun K hK => ?_) AllReadyH.nil
          clear HS
          go_simp
          refine hK.out _ _ (SOF.out s2 _ _ HPN.out HLEN2.out HS4.out) (fun HS => ?_)
          clear hK
          try simp only [Act.put, List.setIfInBounds_toArray, List.set_cons_zero, List.set_cons_succ]
          refine handTake 17 (some 63) ?_ rfl rfl (by kernel_rfl) (by kernel_rfl) (by kernel_rfl) (fun _ _ _ h => h) (by rfl) ?_ HS ?_
          rotate_left
          · (intro u hu; (try dsimp only at hu); go_simp; try with_reducible rfl)
          simp only [Act.put, List.setIfInBounds_toArray, List.set_cons_zero, List.set_cons_succ]
          refine handTake 18 (some 64) ?_ rfl rfl (by kernel_rfl) (by kernel_rfl) (by kernel_rfl) (fun _ _ _ h => h) (by rfl) ?_ HS ?_
          rotate_left
          · (intro u hu; (try dsimp only at hu); go_simp; try with_reducible rfl)
          simp only [Act.put, List.setIfInBounds_toArray, List.set_cons_zero, List.set_cons_succ]
          refine wpAnyH_ready (rs := [20]) (by kernel_rfl) (by simp) ?_
          refine AllReadyH.cons rfl (fun K hK => ?_) AllReadyH.nil
          clear HS
          go_simp
          refine (HAI.out _ _ HS4.out).mono ?_
          rintro e u5 ⟨rfl, hs5⟩
          have HS5 := Lib.hid hs5
          clear hs5
          go_wp2_with fail
          refine hK.out _ _ (SOF.out _ _ _ HACN.out hac.out.2.len HS5.out) (fun HS => ?_)
          clear hK
          try simp only [Act.put, List.setIfInBounds_toArray, List.set_cons_zero, List.set_cons_succ]
          refine handTake 21 (some 67) ?_ rfl rfl (by kernel_rfl) (by kernel_rfl) (by kernel_rfl) (fun _ _ _ h => h) (by rfl) ?_ HS ?_
          rotate_left
          · (intro u hu; (try dsimp only at hu); go_simp; try with_reducible rfl)
          simp only [Act.put, List.setIfInBounds_toArray, List.set_cons_zero, List.set_cons_succ]
          refine handTake 22 (some 68) ?_ rfl rfl (by kernel_rfl) (by kernel_rfl) (by kernel_rfl) (fun _ _ _ h => h) (by rfl) ?_ HS ?_
          rotate_left
          · (intro u hu; (try dsimp only at hu); go_simp; try with_reducible rfl)
          simp only [Act.put, List.setIfInBounds_toArray, List.set_cons_zero, List.set_cons_succ]
          refine wpAnyH_done (by kernel_rfl) ?_ _
          clear HS
          go_wp2_with fail
          go_roundw
          case rel => exact ⟨i + 1, (accepts s2 k2 aot).1, _, by omega, by go_num, hac.out.2, by rw [HQA.out]; exact q_next hq1.out hqs, HS5.out.drop (sI w.heap.size g _ (accepts s2 k2 aot).1)⟩
          case measure => show M - ((i : Int) + 1).toNat < M - (i : Int).toNat; omega
      · have hA1 : ¬ (m : Int) < 2 := by omega
        obtain ⟨M2, hM2⟩ : ∃ k, s.qs.length = k := ⟨_, rfl⟩
        have HM2 := Lib.hid hM2
        rw [hM2] at c43
        by_cases hB : m = 2
        · have hB1 : ((m : Int) == 2) = true := by simp; omega
          by_cases hE : 0 < M2
          · have hE1 : (0 : Int) < (M2 : Int) := by omega
            have hkk : aw % M2 < s.qs.length := by rw [hM2]; exact Nat.mod_lt _ hE
            have hM20 : ¬ M2 = 0 := by omega
            have hM21 : ¬ (M2 : Int) = 0 := by omega
            obtain ⟨hwa, hwa2⟩ := wrap_small aw (Int.ofNat_le.2 (Nat.le_trans (Nat.le_of_lt hk2) (by decide)))
            have htw := tmod_nat aw M2
            have hac := Lib.hid (accepts_inv HINV.out hkk aso)
            have HQA := Lib.hid (qs_acc s (aw % M2) aso)
            have HAI := accepts_is s hn357 hlen (aw % M2) hkk (HINV.out.by8 _ (List.getElem_mem hkk)) hqs61 aso hk3 g pv HV2.out.drew
            rw [hac.out.1, Int.natCast_emod] at HAI
            have HAI := Lib.hid HAI
            have HLEN := Lib.hid hlen
            have SOF : Hid (∀ (s' : Sl) (u : World), s'.ps.length = 7 → Sep w (sI w.heap.size g pv s' ++ (.box bA 47 [.int .u8 (ak : Nat), .int .u8 (aw : Nat), .int .u8 (aso : Nat), .int .u8 (aot : Nat)] :: [])) u → (u.cell? ⟨bA, 1, none⟩ = some (.int .u8 (aw : Nat)) ∧ u.cell? ⟨g, 43, none⟩ = some (.slice pA M2 pc))) := fun s' u h1 h => ⟨h.box_at.cell 1, by have := (sl_at h h1).pv; rw [HPV.out, hM2] at this; exact this⟩
            have hEd : decide ((0 : Int) < (M2 : Int)) = true := decide_eq_true hE1
            clear hkk hB hM2
            go_wp2_with fail
            refine wp_region_held_drew (S := (fun u : World => u.cell? ⟨bA, 1, none⟩ = some (.int .u8 (aw : Nat)) ∧ u.cell? ⟨g, 43, none⟩ = some (.slice pA M2 pc))) (by kernel_rfl) (SOF.out s _ HLEN.out HV2.out.drew) (fun HS => ?_)
            refine handTake 0 (some 74) ?_ rfl rfl (by kernel_rfl) (by kernel_rfl) (by kernel_rfl) (fun _ _ _ h => h) (by rfl) ?_ HS ?_
            rotate_left
            · (intro u hu; (try dsimp only at hu); go_simp; try with_reducible rfl)
            simp only [Act.put, List.setIfInBounds_toArray, List.set_cons_zero, List.set_cons_succ]
            refine handTake 1 (some 75) ?_ rfl rfl (by kernel_rfl) (by kernel_rfl) (by kernel_rfl) (fun _ _ _ h => h) (by rfl) ?_ HS ?_
            rotate_left
            · (intro u hu; (try dsimp only at hu); go_simp; try with_reducible rfl)
            simp only [Act.put, List.setIfInBounds_toArray, List.set_cons_zero, List.set_cons_succ]
            refine handTake 2 (some 76) ?_ rfl rfl (by kernel_rfl) (by kernel_rfl) (by kernel_rfl) (fun _ _ _ h => h) (by rfl) ?_ HS ?_
            rotate_left
            · (intro u hu; (try dsimp only at hu); go_simp; try with_reducible rfl)
            simp only [Act.put, List.setIfInBounds_toArray, List.set_cons_zero, List.set_cons_succ]
            refine handTake 3 (some 77) ?_ rfl rfl (by kernel_rfl) (by kernel_rfl) (by kernel_rfl) (fun _ _ _ h => h) (by rfl) ?_ HS ?_
            rotate_left
            · (intro u hu; (try dsimp only at hu); go_simp; try with_reducible rfl)
            simp only [Act.put, List.setIfInBounds_toArray, List.set_cons_zero, List.set_cons_succ]
            refine handTake 4 (some 78) ?_ rfl rfl (by kernel_rfl) (by kernel_rfl) (by kernel_rfl) (fun _ _ _ h => h) (by rfl) ?_ HS ?_
            rotate_left
            · (intro u hu; (try dsimp only at hu); go_simp; try with_reducible rfl)
            simp only [Act.put, List.setIfInBounds_toArray, List.set_cons_zero, List.set_cons_succ]
            refine handTake 5 (some 79) ?_ rfl rfl (by kernel_rfl) (by kernel_rfl) (by kernel_rfl) (fun _ _ _ h => h) (by rfl) ?_ HS ?_
            rotate_left
            · (intro u hu; (try dsimp only at hu); go_simp; try with_reducible rfl)
            simp only [Act.put, List.setIfInBounds_toArray, List.set_cons_zero, List.set_cons_succ]
            refine handTake 6 (some 80) ?_ rfl rfl (by kernel_rfl) (by kernel_rfl) (by kernel_rfl) (fun _ _ _ h => h) (by rfl) ?_ HS ?_
            rotate_left
            · (intro u hu; (try dsimp only at hu); go_simp; try with_reducible rfl)
            simp only [Act.put, List.setIfInBounds_toArray, List.set_cons_zero, List.set_cons_succ]
            refine handTake 7 (some 81) ?_ rfl rfl (by kernel_rfl) (by kernel_rfl) (by kernel_rfl) (fun _ _ _ h => h) (by rfl) ?_ HS ?_
            rotate_left
            · (intro u hu; (try dsimp only at hu); go_simp; try with_reducible rfl)
            simp only [Act.put, List.setIfInBounds_toArray, List.set_cons_zero, List.set_cons_succ]
            refine handTake 8 (some 82) ?_ rfl rfl (by kernel_rfl) (by kernel_rfl) (by kernel_rfl) (fun _ _ _ h => h) (by rfl) ?_ HS ?_
            rotate_left
            · (intro u hu; (try dsimp only at hu); go_simp; try with_reducible rfl)
            simp only [Act.put, List.setIfInBounds_toArray, List.set_cons_zero, List.set_cons_succ]
            refine handTake 9 (some 83) ?_ rfl rfl (by kernel_rfl) (by kernel_rfl) (by kernel_rfl) (fun _ _ _ h => h) (by rfl) ?_ HS ?_
            rotate_left
            · (intro u hu; (try dsimp only at hu); go_simp; try with_reducible rfl)
            simp only [Act.put, List.setIfInBounds_toArray, List.set_cons_zero, List.set_cons_succ]
            refine handTake 10 (some 84) ?_ rfl rfl (by kernel_rfl) (by kernel_rfl) (by kernel_rfl) (fun _ _ _ h => h) (by rfl) ?_ HS ?_
            rotate_left
            · (intro u hu; (try dsimp only at hu); go_simp; try with_reducible rfl)
            simp only [Act.put, List.setIfInBounds_toArray, List.set_cons_zero, List.set_cons_succ]
            refine handTake 11 (some 85) ?_ rfl rfl (by kernel_rfl) (by kernel_rfl) (by kernel_rfl) (fun _ _ _ h => h) (by rfl) ?_ HS ?_
            rotate_left
            · (intro u hu; (try dsimp only at hu); go_simp; try with_reducible rfl)
            simp only [Act.put, List.setIfInBounds_toArray, List.set_cons_zero, List.set_cons_succ]
            refine handTake 12 (some 86) ?_ rfl rfl (by kernel_rfl) (by kernel_rfl) (by kernel_rfl) (fun _ _ _ h => h) (by rfl) ?_ HS ?_
            rotate_left
            · (intro u hu; (try dsimp only at hu); go_simp; try with_reducible rfl)
            simp only [Act.put, List.setIfInBounds_toArray, List.set_cons_zero, List.set_cons_succ]
            refine handTake 13 (some 87) ?_ rfl rfl (by kernel_rfl) (by kernel_rfl) (by kernel_rfl) (fun _ _ _ h => h) (by rfl) ?_ HS ?_
            rotate_left
            · (intro u hu; (try dsimp only at hu); go_simp; try with_reducible rfl)
            simp only [Act.put, List.setIfInBounds_toArray, List.set_cons_zero, List.set_cons_succ]
            refine handTake 14 (some 88) ?_ rfl rfl (by kernel_rfl) (by kernel_rfl) (by kernel_rfl) (fun _ _ _ h => h) (by rfl) ?_ HS ?_
            rotate_left
            · (intro u hu; (try dsimp only at hu); go_simp; try with_reducible rfl)
            simp only [Act.put, List.setIfInBounds_toArray, List.set_cons_zero, List.set_cons_succ]
            refine handTake 15 (some 89) ?_ rfl rfl (by kernel_rfl) (by kernel_rfl) (by kernel_rfl) (fun _ _ _ h => h) (by rfl) ?_ HS ?_
            rotate_left
            · (intro u hu; (try dsimp only at hu); go_simp; try with_reducible rfl)
            simp only [Act.put, List.setIfInBounds_toArray, List.set_cons_zero, List.set_cons_succ]
            refine handTake 16 (some 90) ?_ rfl rfl (by kernel_rfl) (by kernel_rfl) (by kernel_rfl) (fun _ _ _ h => h) (by rfl) ?_ HS ?_
            rotate_left
            · (intro u hu; (try dsimp only at hu); go_simp; try with_reducible rfl)
            simp only [Act.put, List.setIfInBounds_toArray, List.set_cons_zero, List.set_cons_succ]
            refine handTake 17 (some 91) ?_ rfl rfl (by kernel_rfl) (by kernel_rfl) (by kernel_rfl) (fun _ _ _ h => h) (by rfl) ?_ HS ?_
            rotate_left
            · (intro u hu; (try dsimp only at hu); go_simp; try with_reducible rfl)
            simp only [Act.put, List.setIfInBounds_toArray, List.set_cons_zero, List.set_cons_succ]
            refine wpAnyH_ready (rs := [18]) (by kernel_rfl) (by simp) ?_
            refine AllReadyH.cons rfl (fun K hK => ?_) AllReadyH.nil
            clear HS
            go_simp
            refine HAI.out.mono ?_
            rintro e u5 ⟨rfl, hs5⟩
            have HS5 := Lib.hid hs5
            clear hs5
            go_wp2_with fail
            refine hK.out _ _ (SOF.out _ _ hac.out.2.len HS5.out) (fun HS => ?_)
            clear hK
            try simp only [Act.put, List.setIfInBounds_toArray, List.set_cons_zero, List.set_cons_succ]
            refine handTake 19 (some 93) ?_ rfl rfl (by kernel_rfl) (by kernel_rfl) (by kernel_rfl) (fun _ _ _ h => h) (by rfl) ?_ HS ?_
            rotate_left
            · (intro u hu; (try dsimp only at hu); go_simp; try with_reducible rfl)
            simp only [Act.put, List.setIfInBounds_toArray, List.set_cons_zero, List.set_cons_succ]
            refine handTake 20 (some 94) ?_ rfl rfl (by kernel_rfl) (by kernel_rfl) (by kernel_rfl) (fun _ _ _ h => h) (by rfl) ?_ HS ?_
            rotate_left
            · (intro u hu; (try dsimp only at hu); go_simp; try with_reducible rfl)
            simp only [Act.put, List.setIfInBounds_toArray, List.set_cons_zero, List.set_cons_succ]
            refine wpAnyH_done (by kernel_rfl) ?_ _
            clear HS
            go_wp2_with fail
            go_roundw
            case rel => exact ⟨i + 1, (accepts s (aw % M2) aso).1, _, by omega, by go_num, hac.out.2, by rw [HQA.out]; omega, HS5.out.drop (sI w.heap.size g _ (accepts s (aw % M2) aso).1)⟩
            case measure => show M - ((i : Int) + 1).toNat < M - (i : Int).toNat; omega
          · have hE1 : ¬ (0 : Int) < (M2 : Int) := by omega
            have hEd : decide ((0 : Int) < (M2 : Int)) = false := decide_eq_false hE1
            clear hB hM2
            go_wp2_with fail
            refine wp_region_held_drew (S := (fun u : World => u.cell? ⟨g, 43, none⟩ = some (.slice pA M2 pc))) (by kernel_rfl) (c43) (fun HS => ?_)
            refine handTake 0 (some 74) ?_ rfl rfl (by kernel_rfl) (by kernel_rfl) (by kernel_rfl) (fun _ _ _ h => h) (by rfl) ?_ HS ?_
            rotate_left
            · (intro u hu; (try dsimp only at hu); go_simp; try with_reducible rfl)
            simp only [Act.put, List.setIfInBounds_toArray, List.set_cons_zero, List.set_cons_succ]
            refine handTake 1 (some 75) ?_ rfl rfl (by kernel_rfl) (by kernel_rfl) (by kernel_rfl) (fun _ _ _ h => h) (by rfl) ?_ HS ?_
            rotate_left
            · (intro u hu; (try dsimp only at hu); go_simp; try with_reducible rfl)
            simp only [Act.put, List.setIfInBounds_toArray, List.set_cons_zero, List.set_cons_succ]
            refine handTake 2 (some 76) ?_ rfl rfl (by kernel_rfl) (by kernel_rfl) (by kernel_rfl) (fun _ _ _ h => h) (by rfl) ?_ HS ?_
            rotate_left
            · (intro u hu; (try dsimp only at hu); go_simp; try with_reducible rfl)
            simp only [Act.put, List.setIfInBounds_toArray, List.set_cons_zero, List.set_cons_succ]
            refine handTake 3 (some 77) ?_ rfl rfl (by kernel_rfl) (by kernel_rfl) (by kernel_rfl) (fun _ _ _ h => h) (by rfl) ?_ HS ?_
            rotate_left
            · (intro u hu; (try dsimp only at hu); go_simp; try with_reducible rfl)
            simp only [Act.put, List.setIfInBounds_toArray, List.set_cons_zero, List.set_cons_succ]
            refine handTake 4 (some 78) ?_ rfl rfl (by kernel_rfl) (by kernel_rfl) (by kernel_rfl) (fun _ _ _ h => h) (by rfl) ?_ HS ?_
            rotate_left
            · (intro u hu; (try dsimp only at hu); go_simp; try with_reducible rfl)
            simp only [Act.put, List.setIfInBounds_toArray, List.set_cons_zero, List.set_cons_succ]
            refine handTake 5 (some 79) ?_ rfl rfl (by kernel_rfl) (by kernel_rfl) (by kernel_rfl) (fun _ _ _ h => h) (by rfl) ?_ HS ?_
            rotate_left
            · (intro u hu; (try dsimp only at hu); go_simp; try with_reducible rfl)
            simp only [Act.put, List.setIfInBounds_toArray, List.set_cons_zero, List.set_cons_succ]
            refine handTake 6 (some 80) ?_ rfl rfl (by kernel_rfl) (by kernel_rfl) (by kernel_rfl) (fun _ _ _ h => h) (by rfl) ?_ HS ?_
            rotate_left
            · (intro u hu; (try dsimp only at hu); go_simp; try with_reducible rfl)
            simp only [Act.put, List.setIfInBounds_toArray, List.set_cons_zero, List.set_cons_succ]
            refine handSkip 7 (some 81) rfl rfl (by kernel_rfl) (by kernel_rfl) (by kernel_rfl) (fun _ _ _ h => h) (by rfl) HS ?_
            simp only [Act.put, List.setIfInBounds_toArray, List.set_cons_zero, List.set_cons_succ]
            refine handSkip 8 (some 82) rfl rfl (by kernel_rfl) (by kernel_rfl) (by kernel_rfl) (fun _ _ _ h => h) (by rfl) HS ?_
            simp only [Act.put, List.setIfInBounds_toArray, List.set_cons_zero, List.set_cons_succ]
            refine handSkip 9 (some 83) rfl rfl (by kernel_rfl) (by kernel_rfl) (by kernel_rfl) (fun _ _ _ h => h) (by rfl) HS ?_
            simp only [Act.put, List.setIfInBounds_toArray, List.set_cons_zero, List.set_cons_succ]
            refine handSkip 10 (some 84) rfl rfl (by kernel_rfl) (by kernel_rfl) (by kernel_rfl) (fun _ _ _ h => h) (by rfl) HS ?_
            simp only [Act.put, List.setIfInBounds_toArray, List.set_cons_zero, List.set_cons_succ]
            refine handSkip 11 (some 85) rfl rfl (by kernel_rfl) (by kernel_rfl) (by kernel_rfl) (fun _ _ _ h => h) (by rfl) HS ?_
            simp only [Act.put, List.setIfInBounds_toArray, List.set_cons_zero, List.set_cons_succ]
            refine handSkip 12 (some 86) rfl rfl (by kernel_rfl) (by kernel_rfl) (by kernel_rfl) (fun _ _ _ h => h) (by rfl) HS ?_
            simp only [Act.put, List.setIfInBounds_toArray, List.set_cons_zero, List.set_cons_succ]
            refine handSkip 13 (some 87) rfl rfl (by kernel_rfl) (by kernel_rfl) (by kernel_rfl) (fun _ _ _ h => h) (by rfl) HS ?_
            simp only [Act.put, List.setIfInBounds_toArray, List.set_cons_zero, List.set_cons_succ]
            refine handSkip 14 (some 88) rfl rfl (by kernel_rfl) (by kernel_rfl) (by kernel_rfl) (fun _ _ _ h => h) (by rfl) HS ?_
            simp only [Act.put, List.setIfInBounds_toArray, List.set_cons_zero, List.set_cons_succ]
            refine handSkip 15 (some 89) rfl rfl (by kernel_rfl) (by kernel_rfl) (by kernel_rfl) (fun _ _ _ h => h) (by rfl) HS ?_
            simp only [Act.put, List.setIfInBounds_toArray, List.set_cons_zero, List.set_cons_succ]
            refine handSkip 16 (some 90) rfl rfl (by kernel_rfl) (by kernel_rfl) (by kernel_rfl) (fun _ _ _ h => h) (by rfl) HS ?_
            simp only [Act.put, List.setIfInBounds_toArray, List.set_cons_zero, List.set_cons_succ]
            refine handSkip 17 (some 91) rfl rfl (by kernel_rfl) (by kernel_rfl) (by kernel_rfl) (fun _ _ _ h => h) (by rfl) HS ?_
            simp only [Act.put, List.setIfInBounds_toArray, List.set_cons_zero, List.set_cons_succ]
            refine handSkip 18 (some 92) rfl rfl (by kernel_rfl) (by kernel_rfl) (by kernel_rfl) (fun _ _ _ h => h) (by rfl) HS ?_
            simp only [Act.put, List.setIfInBounds_toArray, List.set_cons_zero, List.set_cons_succ]
            refine handSkip 19 (some 93) rfl rfl (by kernel_rfl) (by kernel_rfl) (by kernel_rfl) (fun _ _ _ h => h) (by rfl) HS ?_
            simp only [Act.put, List.setIfInBounds_toArray, List.set_cons_zero, List.set_cons_succ]
            refine handTake 20 (some 94) ?_ rfl rfl (by kernel_rfl) (by kernel_rfl) (by kernel_rfl) (fun _ _ _ h => h) (by rfl) ?_ HS ?_
            rotate_left
            · (intro u hu; (try dsimp only at hu); go_simp; try with_reducible rfl)
            simp only [Act.put, List.setIfInBounds_toArray, List.set_cons_zero, List.set_cons_succ]
            refine wpAnyH_done (by kernel_rfl) ?_ _
            clear HS
            go_wp2_with fail
            go_roundw
            case rel => exact ⟨i + 1, s, pv, by omega, by go_num, HINV.out, Nat.le_succ_of_le hqs, HV2.out.drew.drop (sI w.heap.size g pv s)⟩
            case measure => show M - ((i : Int) + 1).toNat < M - (i : Int).toNat; omega
        · have hB1 : ((m : Int) == 2) = false := by simp; omega
          have LI := Lib.hid (loses_is s hn357 hlen aso aot hk3 hk4 g pv HV2.out)
          have hli := Lib.hid (loses_inv HINV.out aso aot)
          clear hM2
          go_wp2_with fail
          refine LI.out.mono ?_
          rintro e u5 ⟨rfl, hs5⟩
          have HS5 := Lib.hid hs5
          clear hs5 LI
          go_wp2_with fail
          go_roundw
          case rel => exact ⟨i + 1, loses s aso aot, pv, by omega, by go_num, hli.out, Nat.le_succ_of_le hqs, HS5.out.drop (sI w.heap.size g pv (loses s aso aot))⟩
          case measure => show M - ((i : Int) + 1).toNat < M - (i : Int).toNat; omega
    · have e : i = M := by omega
      subst e
      go_wp2_with fail
      go_ret
      exact ⟨rfl, HS.out.below⟩
end Ch
end Go.Proofs.Ytpgejomhcojppaa
