/- Behind a crash each sector holds what it held, or a write that waited (DiskTorn). -/
import Derived.Test.YtnjejffbcgchlaaDiskTornPlain
import Derived.Deep.RegionHeld3
set_option linter.unusedSimpArgs false
set_option linter.unusedVariables false
namespace Go.Proofs.Ytnjejffbcgchlaa
open Go.RowKit
namespace Di
set_option maxRecDepth 100000 in
set_option maxHeartbeats 16000000 in
theorem diskTorn_is (xs : List Nat) (hx : ∀ a ∈ xs, a < 256) (v : Value) (keep : List Bool) (kv : Value) (W : World) (hr : Row W W.heap.size v xs.length (xs.map fun a : Nat => Value.int .u8 (a : Nat))) (hkr : Row W W.heap.size kv keep.length (keep.map fun a => Value.bool a)) :
    Calls Try.prog 3 #[v, kv] W fun e w' => e = .returned (.bool true) ∧ Below W.heap.size W w' := by
  obtain ⟨A, c, rfl, _, _⟩ := hr.slice
  obtain ⟨KA, kc, rfl, _, _⟩ := hkr.slice
  have hbd := hr.bound
  have HR := Lib.hid hr
  have HKR : Hid (Row W W.heap.size (.slice KA keep.length kc) keep.length (bools keep)) := hkr
  have HX := Lib.hid hx
  clear hr hkr hx
  obtain ⟨f, hfd⟩ : ∃ f : Nat → Nat, f = fun i => xs.getD i 0 % 4 := ⟨_, rfl⟩
  have HF4 : Hid (∀ i, f i < 4) := fun i => by rw [hfd]; exact Nat.mod_lt _ (by omega)
  have HFD := Lib.hid hfd
  clear hfd
  obtain ⟨M, hM⟩ : ∃ M, xs.length = M := ⟨_, rfl⟩
  obtain ⟨KN, hKN⟩ : ∃ KN, keep.length = KN := ⟨_, rfl⟩
  have HM := Lib.hid hM
  have HKN := Lib.hid hKN
  rw [hM] at HR hbd ⊢
  rw [hKN] at HKR ⊢
  clear hM hKN
  go_enter Try.func3, Try.ntmps3
  go_wp2_with fail
  refine (awake_is W).mono ?_
  rintro e u0 ⟨rfl, hb⟩
  have S0 := Lib.hid (Sep.start W hb)
  clear hb
  by_cases h40 : 40 < M
  · have h40' : decide (40 < (M : Int)) = true := by rw [decide_eq_true_eq]; omega
    clear h40
    go_wp2_with fail
    go_ret
    exact ⟨rfl, S0.out.below⟩
  have h40' : decide (40 < (M : Int)) = false := by rw [decide_eq_false_iff_not]; omega
  by_cases h100 : 100 < KN
  · have h100' : decide (100 < (KN : Int)) = true := by rw [decide_eq_true_eq]; omega
    clear h40 h100
    go_wp2_with fail
    go_ret
    exact ⟨rfl, S0.out.below⟩
  have h100' : decide (100 < (KN : Int)) = false := by rw [decide_eq_false_iff_not]; omega
  have hM40 : M ≤ 40 := by omega
  clear h40 h100
  have N := Lib.hid (new_is 4 (by omega) (by omega) u0 S0.out)
  go_wp2_with fail
  refine N.out.mono ?_
  rintro e u1 ⟨b, pv, rfl, hs⟩
  have H2 : Hid (Sep W (dI W.heap.size b pv (.slice none 0 0) (new 4) ++ []) u1) := hs
  clear hs N S0
  go_wp2_with fail
  obtain ⟨lb, hlb⟩ : ∃ lb, lb = u1.heap.size := ⟨_, rfl⟩
  have HU : Hid (Sep W (dI W.heap.size b pv (.slice none 0 0) (tornD f 0) ++ [.box lb 29 (ints (lastL f (kept keep) 0))]) (u1.alloc (.cells #[.int .i64 0, .int .i64 0, .int .i64 0, .int .i64 0] 29))) := by
    have h1 := H2.out.alloc 29 [.int .i64 0, .int .i64 0, .int .i64 0, .int .i64 0]
    rw [← hlb] at h1
    exact h1.perm (List.perm_append_singleton _ _).symm
  rw [← hlb]
  clear hlb H2
  go_loopw [8] (fun i wr => ∃ (k : Nat) (wv : Value), k ≤ M ∧ i = .int .i64 k ∧ Sep W (dI W.heap.size b pv wv (tornD f k) ++ [.box lb 29 (ints (lastL f (kept keep) k))]) wr) (fun i _ => M - (intOf i).toNat)
  case atStart => exact ⟨0, _, Nat.zero_le _, rfl, HU.out⟩
  case round =>
    obtain ⟨k, wv, hk, rfl, hs⟩ := hrel
    have HS := Lib.hid hs
    clear hs HU
    by_cases hlt : k < M
    · have hl : k < xs.length := by rw [HM.out]; exact hlt
      obtain ⟨b2, o2, hA2, hb2, hx2⟩ := (HR.out).at_ (j := k) (by simpa using hl)
      subst hA2
      have hcell : ∀ u : World, Below W.heap.size W u → u.cell? ⟨b2, o2 + k, none⟩ = some (.int .u8 (xs[k] : Nat)) := fun u hb => (hb.cell (p := ⟨b2, o2 + k, none⟩) hb2).trans (hx2 k _ (by simp [hl]))
      have HCELL := Lib.hid hcell
      have hxk := HX.out _ (List.getElem_mem hl)
      have hfk : Hid (f k = xs[k] % 4) := by show f k = _; rw [HFD.out]; show xs.getD k 0 % 4 = _; rw [List.getD_eq_getElem?_getD, List.getElem?_eq_getElem hl]; rfl
      clear hx2 hcell
      generalize xs[k] = x at *
      have hm4 : (x : Int) % 4 = ((f k : Nat) : Int) := by rw [hfk.out]; omega
      have hm4t : (x : Int).tmod 4 = ((f k : Nat) : Int) := by rw [Int.tmod_eq_emod_of_nonneg (by omega)]; exact hm4
      have hf4 := HF4.out k
      generalize hfk2 : f k = r at *
      have HFK := Lib.hid hfk2
      clear hfk2 hfk
      have hr0 : (0 : Int) ≤ (r : Int) := by omega
      have hrw : IntKind.i64.wrap (r : Int) = (r : Int) := by rw [IntKind.wrap_i64]; omega
      have hkw : IntKind.i64.wrap ((k : Int) + 1) = (k : Int) + 1 := by rw [IntKind.wrap_i64]; omega
      have hr1 : (r : Int) < 4 := by omega
      have hk0 : (0 : Int) ≤ (k : Int) := by omega
      have hk1 : (k : Int) < (M : Int) := by omega
      have hxb : (x : Int) < 256 := by omega
      obtain ⟨t1, t2⟩ := torn_write f k (by rw [HFK.out]; exact hf4)
      rw [HFK.out] at t1 t2
      have T1 := Lib.hid t1; have T2 := Lib.hid t2
      have OKK := Lib.hid (torn_ok f HF4.out k)
      have OKN := Lib.hid (torn_ok f HF4.out (k + 1))
      have FEWK : Hid ((tornD f k).waits.length ≤ 1000000000) := by show (wl f k).length ≤ _; rw [wl_len]; omega
      have WLN : Hid ((((tornD f (k + 1)).waits.length : Nat) : Int) = (k : Int) + 1) := by show (((wl f (k + 1)).length : Nat) : Int) = _; rw [wl_len]; omega
      clear t1 t2
      go_wp2_with fail
      have HSD := Lib.hid HS.out.drew
      have SD := Lib.hid (HCELL.out _ HSD.out.below)
      refine wp_region_held_drew (S := (fun u : World => u.cell? ⟨b2, o2 + k, none⟩ = some (.int .u8 (x : Nat)))) (by kernel_rfl) (SD.out) (fun HS => ?_)
      refine handTake 0 (some 33) ?_ rfl rfl (by kernel_rfl) (by kernel_rfl) (by kernel_rfl) (fun _ _ _ h => h) (by rfl) ?_ HS ?_
      rotate_left
      · (intro u hu; (try dsimp only at hu); go_simp; try with_reducible rfl)
      simp only [Act.put, List.setIfInBounds_toArray, List.set_cons_zero, List.set_cons_succ]
      refine handTake 1 (some 34) ?_ rfl rfl (by kernel_rfl) (by kernel_rfl) (by kernel_rfl) (fun _ _ _ h => h) (by rfl) ?_ HS ?_
      rotate_left
      · (intro u hu; (try dsimp only at hu); go_simp; try with_reducible rfl)
      simp only [Act.put, List.setIfInBounds_toArray, List.set_cons_zero, List.set_cons_succ]
      refine handTake 2 (some 35) ?_ rfl rfl (by kernel_rfl) (by kernel_rfl) (by kernel_rfl) (fun _ _ _ h => h) (by rfl) ?_ HS ?_
      rotate_left
      · (intro u hu; (try dsimp only at hu); go_simp; try with_reducible rfl)
      simp only [Act.put, List.setIfInBounds_toArray, List.set_cons_zero, List.set_cons_succ]
      refine handTake 3 (some 36) ?_ rfl rfl (by kernel_rfl) (by kernel_rfl) (by kernel_rfl) (fun _ _ _ h => h) (by rfl) ?_ HS ?_
      rotate_left
      · (intro u hu; (try dsimp only at hu); go_simp; try with_reducible rfl)
      simp only [Act.put, List.setIfInBounds_toArray, List.set_cons_zero, List.set_cons_succ]
      refine handTake 4 (some 37) ?_ rfl rfl (by kernel_rfl) (by kernel_rfl) (by kernel_rfl) (fun _ _ _ h => h) (by rfl) ?_ HS ?_
      rotate_left
      · (intro u hu; (try dsimp only at hu); go_simp; try with_reducible rfl)
      simp only [Act.put, List.setIfInBounds_toArray, List.set_cons_zero, List.set_cons_succ]
      refine handTake 5 (some 38) ?_ rfl rfl (by kernel_rfl) (by kernel_rfl) (by kernel_rfl) (fun _ _ _ h => h) (by rfl) ?_ HS ?_
      rotate_left
      · (intro u hu; (try dsimp only at hu); go_simp; try with_reducible rfl)
      simp only [Act.put, List.setIfInBounds_toArray, List.set_cons_zero, List.set_cons_succ]
      refine handTake 6 (some 39) ?_ rfl rfl (by kernel_rfl) (by kernel_rfl) (by kernel_rfl) (fun _ _ _ h => h) (by rfl) ?_ HS ?_
      rotate_left
      · (intro u hu; (try dsimp only at hu); go_simp; try with_reducible rfl)
      simp only [Act.put, List.setIfInBounds_toArray, List.set_cons_zero, List.set_cons_succ]
      refine handTake 7 (some 40) ?_ rfl rfl (by kernel_rfl) (by kernel_rfl) (by kernel_rfl) (fun _ _ _ h => h) (by rfl) ?_ HS ?_
      rotate_left
      · (intro u hu; (try dsimp only at hu); go_simp; try with_reducible rfl)
      simp only [Act.put, List.setIfInBounds_toArray, List.set_cons_zero, List.set_cons_succ]
      refine handTake 8 (some 41) ?_ rfl rfl (by kernel_rfl) (by kernel_rfl) (by kernel_rfl) (fun _ _ _ h => h) (by rfl) ?_ HS ?_
      rotate_left
      · (intro u hu; (try dsimp only at hu); go_simp; try with_reducible rfl)
      simp only [Act.put, List.setIfInBounds_toArray, List.set_cons_zero, List.set_cons_succ]
      refine handTake 9 (some 42) ?_ rfl rfl (by kernel_rfl) (by kernel_rfl) (by kernel_rfl) (fun _ _ _ h => h) (by rfl) ?_ HS ?_
      rotate_left
      · (intro u hu; (try dsimp only at hu); go_simp; try with_reducible rfl)
      simp only [Act.put, List.setIfInBounds_toArray, List.set_cons_zero, List.set_cons_succ]
      refine wpAnyH_ready (rs := [10]) (by kernel_rfl) (by simp) ?_
      refine AllReadyH.cons rfl (fun K hK => ?_) AllReadyH.nil
      go_simp
      clear HS
      refine (sector_is 0 0 ((k : Int) + 1) [] (.slice none 0 0) (.slice none 0 0) _ HSD.out (Stays.nil _ _) (by simp)).mono ?_
      rintro e u1 ⟨v, rfl, hs⟩
      have HS1 : Hid (Sep W (dI W.heap.size b pv wv (tornD f k) ++ [.box lb 29 (ints (lastL f (kept keep) k)), rowB W.heap.size v (sectorL ((k : Int) + 1) [])]) u1) := hs
      have SC1 := Lib.hid (HCELL.out _ hs.below)
      clear hs
      go_wp2_with fail
      refine hK.out _ _ (SC1.out) (fun HS => ?_)
      clear hK
      try simp only [Act.put, List.setIfInBounds_toArray, List.set_cons_zero, List.set_cons_succ]
      refine wpAnyH_ready (rs := [11]) (by kernel_rfl) (by simp) ?_
      refine AllReadyH.cons rfl (fun K hK => ?_) AllReadyH.nil
      go_simp
      clear HS
      have C := write_is (tornD f k) OKK.out (r : Int) (sectorL ((k : Int) + 1) []) b pv wv v u1 HS1.out (Stays.of_own (base := W.heap.size) (e := 5) (K := 1) (by simp [rowB])) FEWK.out
      rw [T1.out] at C
      have C := Lib.hid C
      refine C.out.mono ?_
      rintro e u2 ⟨rfl, wv2, hs⟩
      rw [T2.out] at hs
      have HS2 : Hid (Sep W (dI W.heap.size b pv wv2 (tornD f (k + 1)) ++ [.box lb 29 (ints (lastL f (kept keep) k))]) u2) := (show Sep W (dI W.heap.size b pv wv2 (tornD f (k + 1)) ++ ([.box lb 29 (ints (lastL f (kept keep) k))] ++ [rowB W.heap.size v (sectorL ((k : Int) + 1) [])])) u2 from hs).sub ((List.sublist_append_left _ _).append_left _)
      have SC2 := Lib.hid (HCELL.out _ hs.below)
      clear hs C HS1
      go_wp2_with fail
      refine hK.out _ _ (SC2.out) (fun HS => ?_)
      clear hK
      try simp only [Act.put, List.setIfInBounds_toArray, List.set_cons_zero, List.set_cons_succ]
      refine handTake 12 (some 45) ?_ rfl rfl (by kernel_rfl) (by kernel_rfl) (by kernel_rfl) (fun _ _ _ h => h) (by rfl) ?_ HS ?_
      rotate_left
      · (intro u hu; (try dsimp only at hu); go_simp; try with_reducible rfl)
      simp only [Act.put, List.setIfInBounds_toArray, List.set_cons_zero, List.set_cons_succ]
      refine handTake 13 (some 46) ?_ rfl rfl (by kernel_rfl) (by kernel_rfl) (by kernel_rfl) (fun _ _ _ h => h) (by rfl) ?_ HS ?_
      rotate_left
      · (intro u hu; (try dsimp only at hu); go_simp; try with_reducible rfl)
      simp only [Act.put, List.setIfInBounds_toArray, List.set_cons_zero, List.set_cons_succ]
      refine handTake 14 (some 47) ?_ rfl rfl (by kernel_rfl) (by kernel_rfl) (by kernel_rfl) (fun _ _ _ h => h) (by rfl) ?_ HS ?_
      rotate_left
      · (intro u hu; (try dsimp only at hu); go_simp; try with_reducible rfl)
      simp only [Act.put, List.setIfInBounds_toArray, List.set_cons_zero, List.set_cons_succ]
      refine handTake 16 (some 49) ?_ rfl rfl (by kernel_rfl) (by kernel_rfl) (by kernel_rfl) (fun _ _ _ h => h) (by rfl) ?_ HS ?_
      rotate_left
      · (intro u hu; (try dsimp only at hu); go_simp; try with_reducible rfl)
      simp only [Act.put, List.setIfInBounds_toArray, List.set_cons_zero, List.set_cons_succ]
      refine handTake 17 (some 50) ?_ rfl rfl (by kernel_rfl) (by kernel_rfl) (by kernel_rfl) (fun _ _ _ h => h) (by rfl) ?_ HS ?_
      rotate_left
      · (intro u hu; (try dsimp only at hu); go_simp; try with_reducible rfl)
      simp only [Act.put, List.setIfInBounds_toArray, List.set_cons_zero, List.set_cons_succ]
      refine wpAnyH_ready (rs := [15]) (by kernel_rfl) (by simp) ?_
      refine AllReadyH.cons rfl (fun K hK => ?_) AllReadyH.nil
      go_simp
      clear HS
      have C := waits_is (tornD f (k + 1)) OKN.out b pv wv2 u2 HS2.out
      rw [WLN.out] at C
      have C := Lib.hid C
      refine C.out.mono ?_
      rintro e u3 ⟨rfl, rfl⟩
      clear C
      go_wp2_with fail
      refine hK.out _ _ (SC2.out) (fun HS => ?_)
      clear hK
      try simp only [Act.put, List.setIfInBounds_toArray, List.set_cons_zero, List.set_cons_succ]
      refine handTake 18 (some 51) ?_ rfl rfl (by kernel_rfl) (by kernel_rfl) (by kernel_rfl) (fun _ _ _ h => h) (by rfl) ?_ HS ?_
      rotate_left
      · (intro u hu; (try dsimp only at hu); go_simp; try with_reducible rfl)
      simp only [Act.put, List.setIfInBounds_toArray, List.set_cons_zero, List.set_cons_succ]
      refine handTake 19 (some 52) ?_ rfl rfl (by kernel_rfl) (by kernel_rfl) (by kernel_rfl) (fun _ _ _ h => h) (by rfl) ?_ HS ?_
      rotate_left
      · (intro u hu; (try dsimp only at hu); go_simp; try with_reducible rfl)
      simp only [Act.put, List.setIfInBounds_toArray, List.set_cons_zero, List.set_cons_succ]
      refine wpAnyH_done (by kernel_rfl) ?_ _
      clear HS SC1 SD
      cases hkk : kept keep k
      · have HKK := Lib.hid hkk
        have HEND : Hid (Sep W (dI W.heap.size b pv wv2 (tornD f (k + 1)) ++ [.box lb 29 (ints (lastL f (kept keep) (k + 1)))]) u2) := by
          have e : lastL f (kept keep) (k + 1) = lastL f (kept keep) k := by rw [lastL, HKK.out]; rfl
          rw [e]; exact HS2.out
        by_cases hkl : k < KN
        · have hkl2 : k < keep.length := by rw [HKN.out]; exact hkl
          have hkv : keep[k] = false := by rw [kept, List.getElem?_eq_getElem hkl2] at hkk; exact hkk
          obtain ⟨b3, o3, hA3, hb3, hx3⟩ := (HKR.out).at_ (j := k) (by simpa [bools] using hkl2)
          subst hA3
          have kc3 : u2.cell? ⟨b3, o3 + k, none⟩ = some (.bool false) := (HS2.out.below.cell (p := ⟨b3, o3 + k, none⟩) hb3).trans (hx3 k _ (by simp [bools, hkl2, hkv]))
          have hki : (k : Int) < (KN : Int) := by omega
          clear hx3 hkv hkl2 hkk
          go_wp2_with fail
          go_roundw
          case rel => exact ⟨k + 1, wv2, by omega, by go_num, HEND.out⟩
          case measure => show M - ((k : Int) + 1).toNat < M - (k : Int).toNat; omega
        · have hki : decide ((k : Int) < (KN : Int)) = false := by rw [decide_eq_false_iff_not]; omega
          clear hkk
          go_wp2_with fail
          go_roundw
          case rel => exact ⟨k + 1, wv2, by omega, by go_num, HEND.out⟩
          case measure => show M - ((k : Int) + 1).toNat < M - (k : Int).toNat; omega
      · have hkl : k < KN := by
          rcases Nat.lt_or_ge k KN with h | h
          · exact h
          · rw [kept, List.getElem?_eq_none (by rw [HKN.out]; exact h)] at hkk; cases hkk
        have hkl2 : k < keep.length := by rw [HKN.out]; exact hkl
        have hkv : keep[k] = true := by rw [kept, List.getElem?_eq_getElem hkl2] at hkk; exact hkk
        obtain ⟨b3, o3, hA3, hb3, hx3⟩ := (HKR.out).at_ (j := k) (by simpa [bools] using hkl2)
        subst hA3
        have kc3 : u2.cell? ⟨b3, o3 + k, none⟩ = some (.bool true) := (HS2.out.below.cell (p := ⟨b3, o3 + k, none⟩) hb3).trans (hx3 k _ (by simp [bools, hkl2, hkv]))
        have hki : (k : Int) < (KN : Int) := by omega
        have HKK := Lib.hid hkk
        clear hx3 hkv hkl2 hkk
        have hcb : Whole u2 lb 29 (ints (lastL f (kept keep) k)) := HS2.out.holds (.box lb 29 (ints (lastL f (kept keep) k))) (by simp)
        have hlr : r < (lastL f (kept keep) k).length := by rw [lastL_len]; exact hf4
        have ccr : u2.cell? ⟨lb, r, none⟩ = some (.int .i64 (lastL f (kept keep) k)[r]) := by rw [hcb.cell, ints, List.getElem?_map, List.getElem?_eq_getElem hlr]; rfl
        have ccf := hcb.free r
        have cxx := SC2.out
        clear hcb
        generalize (lastL f (kept keep) k)[r] = old at ccr
        go_wp2_with fail
        go_roundw
        case rel =>
          refine ⟨k + 1, wv2, by omega, by go_num, ?_⟩
          have h := Sep.setAt (a := dI W.heap.size b pv wv2 (tornD f (k + 1))) (c := []) HS2.out r (.int .i64 ((k : Int) + 1))
          have e : (ints (lastL f (kept keep) k)).set r (.int .i64 ((k : Int) + 1)) = ints (lastL f (kept keep) (k + 1)) := by
            rw [lastL, HKK.out, if_pos rfl, HFK.out, ints, ints, List.map_set]
          rw [e] at h
          exact h
        case measure => show M - ((k : Int) + 1).toNat < M - (k : Int).toNat; omega
    · have hkM : k = M := by omega
      subst hkM
      obtain ⟨t1, t2, t3, t4⟩ := torn_after f keep k
      have T1 := Lib.hid t1; have T2 := Lib.hid t2; have T3 := Lib.hid t3; have T4 := Lib.hid t4
      have OK0 := Lib.hid (torn_ok f HF4.out k)
      have OK1 := Lib.hid (crash_ok OK0.out keep)
      have OK2 : Hid (Ok (behind (tornD f k) keep)) := start_ok OK1.out
      clear t1 t2 t3 t4
      have KST : Hid (Stays W [.box lb 29 (ints (lastL f (kept keep) k))] (.slice KA keep.length kc) keep.length (bools keep)) := Stays.of_row (by rw [HKN.out]; exact HKR.out) (Nat.le_refl _)
      rw [HKN.out] at KST
      have C := crash_is (tornD f k) OK0.out keep b pv wv (.slice KA KN kc) wr HS.out (by rw [HKN.out]; exact KST.out)
      rw [T1.out] at C
      have C := Lib.hid C
      go_wp2_with fail
      refine C.out.mono ?_
      rintro e u3 ⟨rfl, wv3, hs⟩
      have H4 : Hid (Sep W (dI W.heap.size b pv wv3 (crashD (tornD f k) keep) ++ [.box lb 29 (ints (lastL f (kept keep) k))]) u3) := hs
      clear hs HS C
      have C := up_is (crashD (tornD f k) keep) OK1.out b pv _ u3 H4.out
      rw [T2.out] at C
      have C := Lib.hid C
      go_wp2_with fail
      refine C.out.mono ?_
      rintro e u9 ⟨rfl, rfl⟩
      clear C
      have C := waits_is (crashD (tornD f k) keep) OK1.out b pv _ u3 H4.out
      rw [T3.out] at C
      have C := Lib.hid C
      go_wp2_with fail
      refine C.out.mono ?_
      rintro e u9 ⟨rfl, rfl⟩
      clear C
      have C := start_is (crashD (tornD f k) keep) OK1.out b pv _ u3 H4.out
      rw [T4.out] at C
      have C := Lib.hid C
      go_wp2_with fail
      refine C.out.mono ?_
      rintro e u5 ⟨rfl, hs⟩
      have H6 : Hid (Sep W (dI W.heap.size b pv wv3 (behind (tornD f k) keep) ++ [.box lb 29 (ints (lastL f (kept keep) k))]) u5) := hs
      clear hs H4 C
      go_wp2_with fail
      go_loopw [9] (fun i wr => ∃ s : Nat, s ≤ 4 ∧ i = .int .i64 s ∧ Sep W (dI W.heap.size b pv wv3 (behind (tornD f k) keep) ++ [.box lb 29 (ints (lastL f (kept keep) k))]) wr) (fun i _ => 4 - (intOf i).toNat)
      case atStart => exact ⟨0, by omega, rfl, H6.out⟩
      case round =>
        obtain ⟨s, hs4, rfl, hs⟩ := hrel
        have HS7 := Lib.hid hs
        clear hs H6
        by_cases hs4' : s < 4
        · obtain ⟨x, hxs⟩ : ∃ x, (lastL f (kept keep) k)[s]? = some x := ⟨_, List.getElem?_eq_getElem (by rw [lastL_len]; exact hs4')⟩
          have hxle := lastL_le f (kept keep) k x (List.mem_of_getElem? hxs)
          have hrd := torn_reads f keep HF4.out k s hs4' hxs
          have hcb : Whole wr lb 29 (ints (lastL f (kept keep) k)) := HS7.out.holds (.box lb 29 (ints (lastL f (kept keep) k))) (by simp)
          have ccx : wr.cell? ⟨lb, s, none⟩ = some (.int .i64 x) := by rw [hcb.cell, ints, List.getElem?_map, hxs]; rfl
          have HRD := Lib.hid hrd
          have hx0 : 0 ≤ x := hxle.1
          have hx1 : x < 256 := by have := hxle.2; omega
          have hxw : IntKind.u8.wrap x = x := by rw [IntKind.wrap_u8]; omega
          have hs0 : (0 : Int) ≤ (s : Int) := by omega
          have hs1 : (s : Int) < 4 := by omega
          clear hxs hxle hrd hcb
          have C := reads_is (behind (tornD f k) keep) OK2.out (s : Nat) x hx0 hx1 b pv _ wr HS7.out
          rw [HRD.out] at C
          have C := Lib.hid C
          go_wp2_with fail
          refine C.out.mono ?_
          rintro e u7 ⟨rfl, hs⟩
          have H8 : Hid (Sep W (dI W.heap.size b pv wv3 (behind (tornD f k) keep) ++ [.box lb 29 (ints (lastL f (kept keep) k))]) u7) := hs
          clear hs HS7 C
          go_wp2_with fail
          go_roundw
          case rel => exact ⟨s + 1, by omega, by go_num, H8.out⟩
          case measure => show 4 - ((s : Int) + 1).toNat < 4 - (s : Int).toNat; omega
        · have hs44 : s = 4 := by omega
          subst hs44
          go_wp2_with fail
          go_ret
          exact ⟨rfl, HS7.out.below⟩
end Di
end Go.Proofs.Ytnjejffbcgchlaa
