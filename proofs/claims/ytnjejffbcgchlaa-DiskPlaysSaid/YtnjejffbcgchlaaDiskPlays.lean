/- A disk does as the document says (DiskPlays), walked. -/
import Derived.Test.YtnjejffbcgchlaaDiskTells
set_option linter.unusedSimpArgs false
set_option linter.unusedVariables false
namespace Go.Proofs.Ytnjejffbcgchlaa
open Go.RowKit
namespace Di
structure RunN (N : Nat) (d : Dk) (k : Nat) : Prop where
  ok : Ok d
  len : d.places.length = N
  few : d.waits.length ≤ k + 1
theorem RunN.start {N : Nat} (h1 : 0 < N) (h2 : N ≤ 1024) : RunN N (new N) 0 := ⟨new_ok h1 h2, by simp [new], by simp [new]⟩
theorem RunN.next {N : Nat} {d : Dk} {k : Nat} (h : RunN N d k) {x : Av} {w : World} (hx : avOk w x) : RunN N (doD d x.a) (k + 1) :=
  ⟨do_ok h.ok _ hx.2.1.2, (do_len _ _).trans h.len, by have := do_waits d x.a; have := h.few; omega⟩
theorem ofBytes {w : World} {l : List It} {x : Av} (h : avOk w x) : Stays w l x.bv x.a.bytes.length (u8s x.a.bytes) := Stays.of_row h.2.2.1 (Nat.le_refl _)
theorem ofKeeps {w : World} {l : List It} {x : Av} (h : avOk w x) : Stays w l x.kv x.a.keep.length (bools x.a.keep) := Stays.of_row h.2.2.2 (Nat.le_refl _)
theorem notGreat {L : List Av} (h : greatB L = false) : L.length ≤ 120 ∧ ∀ x ∈ L, x.a.bytes.length ≤ 200 := by
  unfold greatB at h
  rw [Bool.or_eq_false_iff] at h
  refine ⟨by have := h.1; simp at this; omega, fun x hx => ?_⟩
  have := List.any_eq_false.1 h.2 x hx
  unfold big at this
  simp at this
  omega
set_option maxRecDepth 100000 in
set_option maxHeartbeats 8000000 in
theorem diskPlays_is (n : Int) (L : List Av) {W : World} (hok : ∀ x ∈ L, avOk W x) (v : Value) (_ : World) (hr : Row W W.heap.size v L.length (L.flatMap avC)) :
    Calls Try.prog 8 #[.int .i64 n, v] W fun e w' => e = .returned (.bool true) ∧ Below W.heap.size W w' := by
  obtain ⟨A, c, rfl, _, _⟩ := hr.slice
  have hbd := hr.bound
  have HR := Lib.hid hr
  have HOK := Lib.hid hok
  have GR := great_is L (.slice A L.length c) _ W hr hok
  have S0 := Lib.hid (Sep.start W (Below.refl W.heap.size W))
  clear hr hok
  have hcase : (12 < n ∧ n ≤ 1024) ∨ (n ≤ 12 ∨ 1024 < n) := by omega
  rcases hcase with ⟨h12, h1024⟩ | hsm
  · clear GR
    generalize L.length = M at *
    go_enter Try.func8, Try.ntmps8
    go_wp2_with fail
    go_ret
    exact ⟨rfl, Below.refl _ _⟩
  · cases hg : greatB L
    · rw [hg] at GR
      have GR := Lib.hid GR
      have hg2 := notGreat hg
      have HL := Lib.hid hg2.2
      obtain ⟨M, hM⟩ : ∃ M, L.length = M := ⟨_, rfl⟩
      have hM1 : M ≤ 120 := by rw [← hM]; exact hg2.1
      have HM := Lib.hid hM
      rw [hM] at GR ⊢
      clear hg hg2 hM hbd
      have hcase : n < 1 ∨ 1024 < n ∨ (1 ≤ n ∧ n ≤ 12) := by omega
      rcases hcase with h | h | ⟨h1, h12⟩
      · have N1 := Lib.hid (new_bad n (.inl h))
        have N2 := Lib.hid (rnew_bad n (.inl h) W)
        clear hsm
        have h' : n ≤ 12 := by omega
        go_enter Try.func8, Try.ntmps8
        go_wp2_with fail
        refine GR.out.mono ?_
        rintro e u9 ⟨rfl, rfl⟩
        clear GR
        go_wp2_with fail
        refine (N1.out _).mono ?_
        rintro e u9 ⟨rfl, rfl⟩
        go_wp2_with fail
        refine N2.out.mono ?_
        rintro e u2 ⟨g, rfl, hx⟩
        have HX := Lib.hid hx
        clear hx
        go_wp2_with fail
        go_ret
        exact ⟨rfl, HX.out⟩
      · have N1 := Lib.hid (new_bad n (.inr h))
        have N2 := Lib.hid (rnew_bad n (.inr h) W)
        clear hsm
        have h' : 12 < n := by omega
        go_enter Try.func8, Try.ntmps8
        go_wp2_with fail
        refine GR.out.mono ?_
        rintro e u9 ⟨rfl, rfl⟩
        clear GR
        go_wp2_with fail
        refine (N1.out _).mono ?_
        rintro e u9 ⟨rfl, rfl⟩
        go_wp2_with fail
        refine N2.out.mono ?_
        rintro e u2 ⟨g, rfl, hx⟩
        have HX := Lib.hid hx
        clear hx
        go_wp2_with fail
        go_ret
        exact ⟨rfl, HX.out⟩
      · obtain ⟨N, rfl⟩ : ∃ N : Nat, n = N := ⟨n.toNat, by omega⟩
        clear hsm
        have N1 := new_is N h1 (by omega) W S0.out
        rw [Int.toNat_natCast] at N1
        have N1 := Lib.hid N1
        go_enter Try.func8, Try.ntmps8
        go_wp2_with fail
        refine GR.out.mono ?_
        rintro e u9 ⟨rfl, rfl⟩
        clear GR
        go_wp2_with fail
        refine N1.out.mono ?_
        rintro e u1 ⟨b, pv, rfl, hs⟩
        have S1 := Lib.hid hs
        have N2 := rnew_is N h1 (by omega) u1 hs
        rw [Int.toNat_natCast] at N2
        have N2 := Lib.hid N2
        clear hs N1 S0
        go_wp2_with fail
        refine N2.out.mono ?_
        rintro e u2 ⟨g, sv, mv, lv, m0, rfl, hr0, hs⟩
        have S2 := Lib.hid hs.midSwap
        have R0 := Lib.hid hr0
        have RN0 : RunN N (new N) 0 := RunN.start (by omega) (by omega)
        obtain ⟨gb, cb, hpv⟩ := dI_pv S2.out RN0.ok.some
        rw [RN0.len] at hpv
        have c0 := (dI_box S2.out).cell 0
        simp only [dkC, List.getElem?_cons_zero, List.getElem?_cons_succ] at c0
        rw [hpv] at c0
        have SZ := Lib.hid (size_is b _ N cb u2 c0)
        clear hs N2 S1 hr0 c0 hpv
        go_wp2_with fail
        refine SZ.out.mono ?_
        rintro e u9 ⟨rfl, rfl⟩
        clear SZ
        have RN := Lib.hid RN0
        clear RN0
        go_wp2_with fail
        go_loopw [9] (fun i wr => ∃ (k : Nat) (wv zv : Value) (m : Md), k ≤ M ∧ i = .int .i64 k ∧ RunN N (run (new N) (L.take k)) k ∧ Rel m (run (new N) (L.take k)) ∧ Sep W (dI W.heap.size b pv wv (run (new N) (L.take k)) ++ (mI W.heap.size g sv mv lv zv m ++ [])) wr) (fun i _ => M - (intOf i).toNat)
        case atStart => exact ⟨0, _, _, m0, Nat.zero_le _, rfl, RN.out, R0.out, S2.out⟩
        case round =>
          obtain ⟨k, wv, zv, m, hk, rfl, hrun, hrel2, hs⟩ := hrel
          have HS0 := Lib.hid hs
          have HRUN := Lib.hid hrun
          have HREL := Lib.hid hrel2
          clear hs hrun hrel2 S2 RN R0
          by_cases hlt : k < M
          · have hl : k < L.length := by rw [HM.out]; exact hlt
            have hrw := (HR.out.below HS0.out.below)
            rw [HM.out] at hrw
            obtain ⟨b2, o2, hA2, hb2, hx2⟩ := HR.out.elem avC_len (by omega) hl
            subst hA2
            have hcell : ∀ u : World, Below W.heap.size W u → u.cell? ⟨b2, o2 + k * 5, none⟩ = some (.int .u8 (L[k].a.kind : Nat)) ∧ u.cell? ⟨b2, o2 + k * 5 + 1, none⟩ = some (.int .i64 L[k].a.sector) ∧ u.cell? ⟨b2, o2 + k * 5 + 2, none⟩ = some (.int .i64 L[k].a.n) ∧ u.cell? ⟨b2, o2 + k * 5 + 3, none⟩ = some (L[k].bv) ∧ u.cell? ⟨b2, o2 + k * 5 + 4, none⟩ = some (L[k].kv) := fun u hb =>
              ⟨(hb.cell (p := ⟨b2, o2 + k * 5, none⟩) hb2).trans (by have := hx2 0 _ rfl; simpa only [← Nat.add_assoc, Nat.add_zero] using this), (hb.cell (p := ⟨b2, o2 + k * 5 + 1, none⟩) hb2).trans (by have := hx2 1 _ rfl; simpa only [← Nat.add_assoc, Nat.add_zero] using this), (hb.cell (p := ⟨b2, o2 + k * 5 + 2, none⟩) hb2).trans (by have := hx2 2 _ rfl; simpa only [← Nat.add_assoc, Nat.add_zero] using this), (hb.cell (p := ⟨b2, o2 + k * 5 + 3, none⟩) hb2).trans (by have := hx2 3 _ rfl; simpa only [← Nat.add_assoc, Nat.add_zero] using this), (hb.cell (p := ⟨b2, o2 + k * 5 + 4, none⟩) hb2).trans (by have := hx2 4 _ rfl; simpa only [← Nat.add_assoc, Nat.add_zero] using this)⟩
            have HCELL := Lib.hid hcell
            have hx := HOK.out _ (List.getElem_mem hl)
            have hxl := HL.out _ (List.getElem_mem hl)
            have HSN := Lib.hid (run_snoc (new N) L k hl)
            clear hrw hx2 hcell
            generalize L[k] = x at *
            have HRN := HRUN.out.next hx
            have C1 := Lib.hid (fun u hs => do_is (run (new N) (L.take k)) HRUN.out.ok x.a hx.1 b pv wv x.bv x.kv (w0 := W) (l := mI W.heap.size g sv mv lv zv m ++ []) u hs (ofBytes hx) (ofKeeps hx) (by omega) (by have := HRUN.out.few; omega))
            have C2 := Lib.hid (fun wv' u hs => rdo_is m (run (new N) (L.take k)) HREL.out HRUN.out.ok x.a hx.1 g sv mv lv zv x.bv x.kv (w0 := W) (l := dI W.heap.size b pv wv' (doD (run (new N) (L.take k)) x.a) ++ []) u hs (ofBytes hx) (ofKeeps hx) (by omega) (by have := HRUN.out.few; omega))
            obtain ⟨d, hd⟩ : ∃ d, d = doD (run (new N) (L.take k)) x.a := ⟨_, rfl⟩
            rw [← HSN.out] at hd
            have HD := Lib.hid hd
            rw [← HSN.out, ← hd] at HRN
            rw [← HSN.out, ← hd] at C1 C2
            have HRN := Lib.hid HRN
            clear hd
            obtain ⟨⟨kd, sc, nn, bs, ks⟩, bv, kv⟩ := x
            dsimp only at *
            obtain ⟨E, hE⟩ : ∃ E, E = doE (run (new N) (L.take k)) ⟨kd, sc, nn, bs, ks⟩ := ⟨_, rfl⟩
            rw [← hE] at C1 C2
            clear hE HSN
            have hk0 : (0 : Int) ≤ (k : Int) := by omega
            have hk1 : (k : Int) < (M : Int) := by omega
            clear hx hxl
            go_wp2_with fail
            cases hdn : d.down
            · have HDN := Lib.hid hdn; clear hdn
              cases hde : d.dead
              · have HDE := Lib.hid hde; clear hde
                have HUP : Hid (d.up = true) := by show d.up = true; unfold Dk.up; rw [HDN.out, HDE.out]; rfl
                have HSD := Lib.hid HS0.out.drew
                have SD := Lib.hid (HCELL.out _ HSD.out.below)
                refine wp_region_held_drew (S := (fun u : World => u.cell? ⟨b2, o2 + k * 5, none⟩ = some (.int .u8 (kd : Nat)) ∧ u.cell? ⟨b2, o2 + k * 5 + 1, none⟩ = some (.int .i64 sc) ∧ u.cell? ⟨b2, o2 + k * 5 + 2, none⟩ = some (.int .i64 nn) ∧ u.cell? ⟨b2, o2 + k * 5 + 3, none⟩ = some (bv) ∧ u.cell? ⟨b2, o2 + k * 5 + 4, none⟩ = some (kv))) (by kernel_rfl) (SD.out) (fun HS => ?_)
                refine handTake 0 (some 57) ?_ rfl rfl (by kernel_rfl) (by kernel_rfl) (by kernel_rfl) (fun _ _ _ h => h) (by rfl) ?_ HS ?_
                rotate_left
                · (intro u hu; (try dsimp only at hu); go_simp; try with_reducible rfl)
                simp only [Act.put, List.setIfInBounds_toArray, List.set_cons_zero, List.set_cons_succ]
                refine handTake 1 (some 58) ?_ rfl rfl (by kernel_rfl) (by kernel_rfl) (by kernel_rfl) (fun _ _ _ h => h) (by rfl) ?_ HS ?_
                rotate_left
                · (intro u hu; (try dsimp only at hu); go_simp; try with_reducible rfl)
                simp only [Act.put, List.setIfInBounds_toArray, List.set_cons_zero, List.set_cons_succ]
                refine handTake 2 (some 59) ?_ rfl rfl (by kernel_rfl) (by kernel_rfl) (by kernel_rfl) (fun _ _ _ h => h) (by rfl) ?_ HS ?_
                rotate_left
                · (intro u hu; (try dsimp only at hu); go_simp; try with_reducible rfl)
                simp only [Act.put, List.setIfInBounds_toArray, List.set_cons_zero, List.set_cons_succ]
                refine handTake 3 (some 60) ?_ rfl rfl (by kernel_rfl) (by kernel_rfl) (by kernel_rfl) (fun _ _ _ h => h) (by rfl) ?_ HS ?_
                rotate_left
                · (intro u hu; (try dsimp only at hu); go_simp; try with_reducible rfl)
                simp only [Act.put, List.setIfInBounds_toArray, List.set_cons_zero, List.set_cons_succ]
                refine handTake 4 (some 61) ?_ rfl rfl (by kernel_rfl) (by kernel_rfl) (by kernel_rfl) (fun _ _ _ h => h) (by rfl) ?_ HS ?_
                rotate_left
                · (intro u hu; (try dsimp only at hu); go_simp; try with_reducible rfl)
                simp only [Act.put, List.setIfInBounds_toArray, List.set_cons_zero, List.set_cons_succ]
                refine handTake 6 (some 63) ?_ rfl rfl (by kernel_rfl) (by kernel_rfl) (by kernel_rfl) (fun _ _ _ h => h) (by rfl) ?_ HS ?_
                rotate_left
                · (intro u hu; (try dsimp only at hu); go_simp; try with_reducible rfl)
                simp only [Act.put, List.setIfInBounds_toArray, List.set_cons_zero, List.set_cons_succ]
                refine handTake 7 (some 64) ?_ rfl rfl (by kernel_rfl) (by kernel_rfl) (by kernel_rfl) (fun _ _ _ h => h) (by rfl) ?_ HS ?_
                rotate_left
                · (intro u hu; (try dsimp only at hu); go_simp; try with_reducible rfl)
                simp only [Act.put, List.setIfInBounds_toArray, List.set_cons_zero, List.set_cons_succ]
                refine handTake 8 (some 65) ?_ rfl rfl (by kernel_rfl) (by kernel_rfl) (by kernel_rfl) (fun _ _ _ h => h) (by rfl) ?_ HS ?_
                rotate_left
                · (intro u hu; (try dsimp only at hu); go_simp; try with_reducible rfl)
                simp only [Act.put, List.setIfInBounds_toArray, List.set_cons_zero, List.set_cons_succ]
                refine handTake 9 (some 66) ?_ rfl rfl (by kernel_rfl) (by kernel_rfl) (by kernel_rfl) (fun _ _ _ h => h) (by rfl) ?_ HS ?_
                rotate_left
                · (intro u hu; (try dsimp only at hu); go_simp; try with_reducible rfl)
                simp only [Act.put, List.setIfInBounds_toArray, List.set_cons_zero, List.set_cons_succ]
                refine handTake 10 (some 67) ?_ rfl rfl (by kernel_rfl) (by kernel_rfl) (by kernel_rfl) (fun _ _ _ h => h) (by rfl) ?_ HS ?_
                rotate_left
                · (intro u hu; (try dsimp only at hu); go_simp; try with_reducible rfl)
                simp only [Act.put, List.setIfInBounds_toArray, List.set_cons_zero, List.set_cons_succ]
                refine wpAnyH_ready (rs := [5]) (by kernel_rfl) (by simp) ?_
                refine AllReadyH.cons rfl (fun K hK => ?_) AllReadyH.nil
                go_simp
                clear HS
                refine (C1.out _ HSD.out).mono ?_
                rintro e u5 ⟨rfl, wv5, hs⟩
                have HS5 := Lib.hid hs
                have SC5 := Lib.hid (HCELL.out _ hs.below)
                clear hs C1 HSD SD
                go_wp2_with fail
                refine hK.out _ _ (SC5.out) (fun HS => ?_)
                clear hK
                try simp only [Act.put, List.setIfInBounds_toArray, List.set_cons_zero, List.set_cons_succ]
                refine wpAnyH_ready (rs := [11]) (by kernel_rfl) (by simp) ?_
                refine AllReadyH.cons rfl (fun K hK => ?_) AllReadyH.nil
                go_simp
                clear HS
                refine (C2.out _ _ HS5.out.midSwap).mono ?_
                rintro e u6 ⟨rfl, zv6, m6, hr6, hs⟩
                obtain ⟨zA, zc, hzv, _, _⟩ := (Row.of_own (mI_waits hs)).slice
                subst hzv
                rw [hr6.lw] at hs
                have HS6 := Lib.hid hs.midSwap
                have hbx := mI_box hs
                have c3 := hbx.cell 3; have c4 := hbx.cell 4; have c5 := hbx.cell 5
                simp only [mdC, List.getElem?_cons_zero, List.getElem?_cons_succ] at c3 c4 c5
                rw [hr6.down, HDN.out] at c4
                rw [hr6.dead, HDE.out] at c5
                have HR6 := Lib.hid hr6
                have WT := waits_is d HRN.out.ok b pv wv5 u6 HS6.out
                have UP := up_is d HRN.out.ok b pv wv5 u6 HS6.out
                rw [HUP.out] at UP
                have TL := Lib.hid (fun (s : Int) (u : World) hs => tells_is d HRN.out.ok (by have := HRN.out.few; omega) m6 hr6 s b pv wv5 g sv mv lv (.slice zA d.waits.length zc) (w0 := W) (l := []) u hs)
                have SC6 := Lib.hid (HCELL.out _ hs.below)
                generalize d.waits.length = WL at *
                have UP := Lib.hid UP; have WT := Lib.hid WT
                clear hs hbx C2 HS5 SC5 hr6
                go_wp2_with fail
                refine hK.out _ _ (SC6.out) (fun HS => ?_)
                clear hK
                try simp only [Act.put, List.setIfInBounds_toArray, List.set_cons_zero, List.set_cons_succ]
                refine handTake 12 (some 69) ?_ rfl rfl (by kernel_rfl) (by kernel_rfl) (by kernel_rfl) (fun _ _ _ h => h) (by rfl) ?_ HS ?_
                rotate_left
                · (intro u hu; (try dsimp only at hu); go_simp; try with_reducible rfl)
                simp only [Act.put, List.setIfInBounds_toArray, List.set_cons_zero, List.set_cons_succ]
                refine handTake 13 (some 70) ?_ rfl rfl (by kernel_rfl) (by kernel_rfl) (by kernel_rfl) (fun _ _ _ h => h) (by rfl) ?_ HS ?_
                rotate_left
                · (intro u hu; (try dsimp only at hu); go_simp; try with_reducible rfl)
                simp only [Act.put, List.setIfInBounds_toArray, List.set_cons_zero, List.set_cons_succ]
                refine handTake 14 (some 71) ?_ rfl rfl (by kernel_rfl) (by kernel_rfl) (by kernel_rfl) (fun _ _ _ h => h) (by rfl) ?_ HS ?_
                rotate_left
                · (intro u hu; (try dsimp only at hu); go_simp; try with_reducible rfl)
                simp only [Act.put, List.setIfInBounds_toArray, List.set_cons_zero, List.set_cons_succ]
                refine handTake 16 (some 73) ?_ rfl rfl (by kernel_rfl) (by kernel_rfl) (by kernel_rfl) (fun _ _ _ h => h) (by rfl) ?_ HS ?_
                rotate_left
                · (intro u hu; (try dsimp only at hu); go_simp; try with_reducible rfl)
                simp only [Act.put, List.setIfInBounds_toArray, List.set_cons_zero, List.set_cons_succ]
                refine handTake 17 (some 74) ?_ rfl rfl (by kernel_rfl) (by kernel_rfl) (by kernel_rfl) (fun _ _ _ h => h) (by rfl) ?_ HS ?_
                rotate_left
                · (intro u hu; (try dsimp only at hu); go_simp; try with_reducible rfl)
                simp only [Act.put, List.setIfInBounds_toArray, List.set_cons_zero, List.set_cons_succ]
                refine handTake 18 (some 75) ?_ rfl rfl (by kernel_rfl) (by kernel_rfl) (by kernel_rfl) (fun _ _ _ h => h) (by rfl) ?_ HS ?_
                rotate_left
                · (intro u hu; (try dsimp only at hu); go_simp; try with_reducible rfl)
                simp only [Act.put, List.setIfInBounds_toArray, List.set_cons_zero, List.set_cons_succ]
                refine wpAnyH_ready (rs := [15, 19]) (by kernel_rfl) (by simp) ?_
                refine AllReadyH.cons rfl (fun K hK => ?_) ?_
                · go_simp
                  clear HS
                  refine WT.out.mono ?_
                  rintro e u9 ⟨rfl, rfl⟩
                  clear WT
                  go_wp2_with fail
                  refine hK.out _ _ (SC6.out) (fun HS => ?_)
                  clear hK
                  try simp only [Act.put, List.setIfInBounds_toArray, List.set_cons_zero, List.set_cons_succ]
                  refine wpAnyH_ready (rs := [19]) (by kernel_rfl) (by simp) ?_
                  refine AllReadyH.cons rfl (fun K hK => ?_) AllReadyH.nil
                  clear HS
                  go_simp
                  refine hK.out _ _ (SC6.out) (fun HS => ?_)
                  clear hK
                  try simp only [Act.put, List.setIfInBounds_toArray, List.set_cons_zero, List.set_cons_succ]
                  refine handTake 20 (some 77) ?_ rfl rfl (by kernel_rfl) (by kernel_rfl) (by kernel_rfl) (fun _ _ _ h => h) (by rfl) ?_ HS ?_
                  rotate_left
                  · (intro u hu; (try dsimp only at hu); go_simp; try with_reducible rfl)
                  simp only [Act.put, List.setIfInBounds_toArray, List.set_cons_zero, List.set_cons_succ]
                  refine handTake 21 (some 78) ?_ rfl rfl (by kernel_rfl) (by kernel_rfl) (by kernel_rfl) (fun _ _ _ h => h) (by rfl) ?_ HS ?_
                  rotate_left
                  · (intro u hu; (try dsimp only at hu); go_simp; try with_reducible rfl)
                  simp only [Act.put, List.setIfInBounds_toArray, List.set_cons_zero, List.set_cons_succ]
                  refine handTake 22 (some 79) ?_ rfl rfl (by kernel_rfl) (by kernel_rfl) (by kernel_rfl) (fun _ _ _ h => h) (by rfl) ?_ HS ?_
                  rotate_left
                  · (intro u hu; (try dsimp only at hu); go_simp; try with_reducible rfl)
                  simp only [Act.put, List.setIfInBounds_toArray, List.set_cons_zero, List.set_cons_succ]
                  refine handTake 23 (some 80) ?_ rfl rfl (by kernel_rfl) (by kernel_rfl) (by kernel_rfl) (fun _ _ _ h => h) (by rfl) ?_ HS ?_
                  rotate_left
                  · (intro u hu; (try dsimp only at hu); go_simp; try with_reducible rfl)
                  simp only [Act.put, List.setIfInBounds_toArray, List.set_cons_zero, List.set_cons_succ]
                  refine handTake 24 (some 81) ?_ rfl rfl (by kernel_rfl) (by kernel_rfl) (by kernel_rfl) (fun _ _ _ h => h) (by rfl) ?_ HS ?_
                  rotate_left
                  · (intro u hu; (try dsimp only at hu); go_simp; try with_reducible rfl)
                  simp only [Act.put, List.setIfInBounds_toArray, List.set_cons_zero, List.set_cons_succ]
                  refine handTake 26 (some 83) ?_ rfl rfl (by kernel_rfl) (by kernel_rfl) (by kernel_rfl) (fun _ _ _ h => h) (by rfl) ?_ HS ?_
                  rotate_left
                  · (intro u hu; (try dsimp only at hu); go_simp; try with_reducible rfl)
                  simp only [Act.put, List.setIfInBounds_toArray, List.set_cons_zero, List.set_cons_succ]
                  refine handTake 27 (some 84) ?_ rfl rfl (by kernel_rfl) (by kernel_rfl) (by kernel_rfl) (fun _ _ _ h => h) (by rfl) ?_ HS ?_
                  rotate_left
                  · (intro u hu; (try dsimp only at hu); go_simp; try with_reducible rfl)
                  simp only [Act.put, List.setIfInBounds_toArray, List.set_cons_zero, List.set_cons_succ]
                  refine handTake 28 (some 85) ?_ rfl rfl (by kernel_rfl) (by kernel_rfl) (by kernel_rfl) (fun _ _ _ h => h) (by rfl) ?_ HS ?_
                  rotate_left
                  · (intro u hu; (try dsimp only at hu); go_simp; try with_reducible rfl)
                  simp only [Act.put, List.setIfInBounds_toArray, List.set_cons_zero, List.set_cons_succ]
                  refine wpAnyH_ready (rs := [25, 29]) (by kernel_rfl) (by simp) ?_
                  refine AllReadyH.cons rfl (fun K hK => ?_) ?_
                  · go_simp
                    clear HS
                    refine UP.out.mono ?_
                    rintro e u9 ⟨rfl, rfl⟩
                    clear UP
                    go_wp2_with fail
                    refine hK.out _ _ (SC6.out) (fun HS => ?_)
                    clear hK
                    try simp only [Act.put, List.setIfInBounds_toArray, List.set_cons_zero, List.set_cons_succ]
                    refine wpAnyH_ready (rs := [29]) (by kernel_rfl) (by simp) ?_
                    refine AllReadyH.cons rfl (fun K hK => ?_) AllReadyH.nil
                    clear HS
                    go_simp
                    refine hK.out _ _ (SC6.out) (fun HS => ?_)
                    clear hK
                    try simp only [Act.put, List.setIfInBounds_toArray, List.set_cons_zero, List.set_cons_succ]
                    refine handTake 30 (some 87) ?_ rfl rfl (by kernel_rfl) (by kernel_rfl) (by kernel_rfl) (fun _ _ _ h => h) (by rfl) ?_ HS ?_
                    rotate_left
                    · (intro u hu; (try dsimp only at hu); go_simp; try with_reducible rfl)
                    simp only [Act.put, List.setIfInBounds_toArray, List.set_cons_zero, List.set_cons_succ]
                    refine handTake 31 (some 88) ?_ rfl rfl (by kernel_rfl) (by kernel_rfl) (by kernel_rfl) (fun _ _ _ h => h) (by rfl) ?_ HS ?_
                    rotate_left
                    · (intro u hu; (try dsimp only at hu); go_simp; try with_reducible rfl)
                    simp only [Act.put, List.setIfInBounds_toArray, List.set_cons_zero, List.set_cons_succ]
                    refine handTake 32 (some 89) ?_ rfl rfl (by kernel_rfl) (by kernel_rfl) (by kernel_rfl) (fun _ _ _ h => h) (by rfl) ?_ HS ?_
                    rotate_left
                    · (intro u hu; (try dsimp only at hu); go_simp; try with_reducible rfl)
                    simp only [Act.put, List.setIfInBounds_toArray, List.set_cons_zero, List.set_cons_succ]
                    refine handTake 33 (some 90) ?_ rfl rfl (by kernel_rfl) (by kernel_rfl) (by kernel_rfl) (fun _ _ _ h => h) (by rfl) ?_ HS ?_
                    rotate_left
                    · (intro u hu; (try dsimp only at hu); go_simp; try with_reducible rfl)
                    simp only [Act.put, List.setIfInBounds_toArray, List.set_cons_zero, List.set_cons_succ]
                    refine wpAnyH_ready (rs := [34]) (by kernel_rfl) (by simp) ?_
                    refine AllReadyH.cons rfl (fun K hK => ?_) AllReadyH.nil
                    clear HS
                    go_simp
                    refine hK.out _ _ (SC6.out) (fun HS => ?_)
                    clear hK
                    try simp only [Act.put, List.setIfInBounds_toArray, List.set_cons_zero, List.set_cons_succ]
                    refine handTake 35 (some 92) ?_ rfl rfl (by kernel_rfl) (by kernel_rfl) (by kernel_rfl) (fun _ _ _ h => h) (by rfl) ?_ HS ?_
                    rotate_left
                    · (intro u hu; (try dsimp only at hu); go_simp; try with_reducible rfl)
                    simp only [Act.put, List.setIfInBounds_toArray, List.set_cons_zero, List.set_cons_succ]
                    refine handTake 36 (some 93) ?_ rfl rfl (by kernel_rfl) (by kernel_rfl) (by kernel_rfl) (fun _ _ _ h => h) (by rfl) ?_ HS ?_
                    rotate_left
                    · (intro u hu; (try dsimp only at hu); go_simp; try with_reducible rfl)
                    simp only [Act.put, List.setIfInBounds_toArray, List.set_cons_zero, List.set_cons_succ]
                    refine handTake 37 (some 94) ?_ rfl rfl (by kernel_rfl) (by kernel_rfl) (by kernel_rfl) (fun _ _ _ h => h) (by rfl) ?_ HS ?_
                    rotate_left
                    · (intro u hu; (try dsimp only at hu); go_simp; try with_reducible rfl)
                    simp only [Act.put, List.setIfInBounds_toArray, List.set_cons_zero, List.set_cons_succ]
                    refine wpAnyH_done (by kernel_rfl) ?_ _
                    clear HS
                    clear SC6 c3 c4 c5
                    go_wp2_with fail
                    go_loopw [10] (fun i wr => ∃ (s : Int), -1 ≤ s ∧ s ≤ (N : Int) + 1 ∧ i = .int .i64 s ∧ Sep W (dI W.heap.size b pv wv5 d ++ (mI W.heap.size g sv mv lv (.slice zA WL zc) m6 ++ [])) wr) (fun i _ => ((N : Int) + 1 - intOf i).toNat)
                    case atStart => exact ⟨-1, by omega, by omega, rfl, HS6.out⟩
                    case round =>
                      obtain ⟨s, hs0, hs1, rfl, hs⟩ := hrel
                      have HS7 := Lib.hid hs
                      clear hs HS6
                      by_cases hsN : s ≤ (N : Int)
                      · have T := Lib.hid (TL.out s _ HS7.out)
                        go_wp2_with fail
                        refine T.out.mono ?_
                        rintro e u7 ⟨rfl, hs⟩
                        have HS8 := Lib.hid hs
                        clear hs T HS7
                        go_wp2_with fail
                        go_roundw
                        case rel => exact ⟨s + 1, by omega, by omega, by go_num, HS8.out⟩
                        case measure => show ((N : Int) + 1 - (s + 1)).toNat < ((N : Int) + 1 - s).toNat; omega
                      · clear TL
                        go_wp2_with fail
                        go_roundw
                        case rel => exact ⟨k + 1, wv5, _, m6, by omega, by go_num, by rw [← HD.out]; exact HRN.out, by rw [← HD.out]; exact HR6.out, by rw [← HD.out]; exact HS7.out⟩
                        case measure => show M - ((k : Int) + 1).toNat < M - (k : Int).toNat; omega
                  refine AllReadyH.cons rfl (fun K hK => ?_) ?_
                  · clear HS
                    go_simp
                    refine hK.out _ _ (SC6.out) (fun HS => ?_)
                    clear hK
                    try simp only [Act.put, List.setIfInBounds_toArray, List.set_cons_zero, List.set_cons_succ]
                    refine wpAnyH_ready (rs := [25]) (by kernel_rfl) (by simp) ?_
                    refine AllReadyH.cons rfl (fun K hK => ?_) AllReadyH.nil
                    go_simp
                    clear HS
                    refine UP.out.mono ?_
                    rintro e u9 ⟨rfl, rfl⟩
                    clear UP
                    go_wp2_with fail
                    refine hK.out _ _ (SC6.out) (fun HS => ?_)
                    clear hK
                    try simp only [Act.put, List.setIfInBounds_toArray, List.set_cons_zero, List.set_cons_succ]
                    refine handTake 30 (some 87) ?_ rfl rfl (by kernel_rfl) (by kernel_rfl) (by kernel_rfl) (fun _ _ _ h => h) (by rfl) ?_ HS ?_
                    rotate_left
                    · (intro u hu; (try dsimp only at hu); go_simp; try with_reducible rfl)
                    simp only [Act.put, List.setIfInBounds_toArray, List.set_cons_zero, List.set_cons_succ]
                    refine handTake 31 (some 88) ?_ rfl rfl (by kernel_rfl) (by kernel_rfl) (by kernel_rfl) (fun _ _ _ h => h) (by rfl) ?_ HS ?_
                    rotate_left
                    · (intro u hu; (try dsimp only at hu); go_simp; try with_reducible rfl)
                    simp only [Act.put, List.setIfInBounds_toArray, List.set_cons_zero, List.set_cons_succ]
                    refine handTake 32 (some 89) ?_ rfl rfl (by kernel_rfl) (by kernel_rfl) (by kernel_rfl) (fun _ _ _ h => h) (by rfl) ?_ HS ?_
                    rotate_left
                    · (intro u hu; (try dsimp only at hu); go_simp; try with_reducible rfl)
                    simp only [Act.put, List.setIfInBounds_toArray, List.set_cons_zero, List.set_cons_succ]
                    refine handTake 33 (some 90) ?_ rfl rfl (by kernel_rfl) (by kernel_rfl) (by kernel_rfl) (fun _ _ _ h => h) (by rfl) ?_ HS ?_
                    rotate_left
                    · (intro u hu; (try dsimp only at hu); go_simp; try with_reducible rfl)
                    simp only [Act.put, List.setIfInBounds_toArray, List.set_cons_zero, List.set_cons_succ]
                    refine wpAnyH_ready (rs := [34]) (by kernel_rfl) (by simp) ?_
                    refine AllReadyH.cons rfl (fun K hK => ?_) AllReadyH.nil
                    clear HS
                    go_simp
                    refine hK.out _ _ (SC6.out) (fun HS => ?_)
                    clear hK
                    try simp only [Act.put, List.setIfInBounds_toArray, List.set_cons_zero, List.set_cons_succ]
                    refine handTake 35 (some 92) ?_ rfl rfl (by kernel_rfl) (by kernel_rfl) (by kernel_rfl) (fun _ _ _ h => h) (by rfl) ?_ HS ?_
                    rotate_left
                    · (intro u hu; (try dsimp only at hu); go_simp; try with_reducible rfl)
                    simp only [Act.put, List.setIfInBounds_toArray, List.set_cons_zero, List.set_cons_succ]
                    refine handTake 36 (some 93) ?_ rfl rfl (by kernel_rfl) (by kernel_rfl) (by kernel_rfl) (fun _ _ _ h => h) (by rfl) ?_ HS ?_
                    rotate_left
                    · (intro u hu; (try dsimp only at hu); go_simp; try with_reducible rfl)
                    simp only [Act.put, List.setIfInBounds_toArray, List.set_cons_zero, List.set_cons_succ]
                    refine handTake 37 (some 94) ?_ rfl rfl (by kernel_rfl) (by kernel_rfl) (by kernel_rfl) (fun _ _ _ h => h) (by rfl) ?_ HS ?_
                    rotate_left
                    · (intro u hu; (try dsimp only at hu); go_simp; try with_reducible rfl)
                    simp only [Act.put, List.setIfInBounds_toArray, List.set_cons_zero, List.set_cons_succ]
                    refine wpAnyH_done (by kernel_rfl) ?_ _
                    clear HS
                    clear SC6 c3 c4 c5
                    go_wp2_with fail
                    go_loopw [10] (fun i wr => ∃ (s : Int), -1 ≤ s ∧ s ≤ (N : Int) + 1 ∧ i = .int .i64 s ∧ Sep W (dI W.heap.size b pv wv5 d ++ (mI W.heap.size g sv mv lv (.slice zA WL zc) m6 ++ [])) wr) (fun i _ => ((N : Int) + 1 - intOf i).toNat)
                    case atStart => exact ⟨-1, by omega, by omega, rfl, HS6.out⟩
                    case round =>
                      obtain ⟨s, hs0, hs1, rfl, hs⟩ := hrel
                      have HS7 := Lib.hid hs
                      clear hs HS6
                      by_cases hsN : s ≤ (N : Int)
                      · have T := Lib.hid (TL.out s _ HS7.out)
                        go_wp2_with fail
                        refine T.out.mono ?_
                        rintro e u7 ⟨rfl, hs⟩
                        have HS8 := Lib.hid hs
                        clear hs T HS7
                        go_wp2_with fail
                        go_roundw
                        case rel => exact ⟨s + 1, by omega, by omega, by go_num, HS8.out⟩
                        case measure => show ((N : Int) + 1 - (s + 1)).toNat < ((N : Int) + 1 - s).toNat; omega
                      · clear TL
                        go_wp2_with fail
                        go_roundw
                        case rel => exact ⟨k + 1, wv5, _, m6, by omega, by go_num, by rw [← HD.out]; exact HRN.out, by rw [← HD.out]; exact HR6.out, by rw [← HD.out]; exact HS7.out⟩
                        case measure => show M - ((k : Int) + 1).toNat < M - (k : Int).toNat; omega
                  exact AllReadyH.nil
                refine AllReadyH.cons rfl (fun K hK => ?_) ?_
                · clear HS
                  go_simp
                  refine hK.out _ _ (SC6.out) (fun HS => ?_)
                  clear hK
                  try simp only [Act.put, List.setIfInBounds_toArray, List.set_cons_zero, List.set_cons_succ]
                  refine handTake 20 (some 77) ?_ rfl rfl (by kernel_rfl) (by kernel_rfl) (by kernel_rfl) (fun _ _ _ h => h) (by rfl) ?_ HS ?_
                  rotate_left
                  · (intro u hu; (try dsimp only at hu); go_simp; try with_reducible rfl)
                  simp only [Act.put, List.setIfInBounds_toArray, List.set_cons_zero, List.set_cons_succ]
                  refine wpAnyH_ready (rs := [15]) (by kernel_rfl) (by simp) ?_
                  refine AllReadyH.cons rfl (fun K hK => ?_) AllReadyH.nil
                  go_simp
                  clear HS
                  refine WT.out.mono ?_
                  rintro e u9 ⟨rfl, rfl⟩
                  clear WT
                  go_wp2_with fail
                  refine hK.out _ _ (SC6.out) (fun HS => ?_)
                  clear hK
                  try simp only [Act.put, List.setIfInBounds_toArray, List.set_cons_zero, List.set_cons_succ]
                  refine handTake 21 (some 78) ?_ rfl rfl (by kernel_rfl) (by kernel_rfl) (by kernel_rfl) (fun _ _ _ h => h) (by rfl) ?_ HS ?_
                  rotate_left
                  · (intro u hu; (try dsimp only at hu); go_simp; try with_reducible rfl)
                  simp only [Act.put, List.setIfInBounds_toArray, List.set_cons_zero, List.set_cons_succ]
                  refine handTake 22 (some 79) ?_ rfl rfl (by kernel_rfl) (by kernel_rfl) (by kernel_rfl) (fun _ _ _ h => h) (by rfl) ?_ HS ?_
                  rotate_left
                  · (intro u hu; (try dsimp only at hu); go_simp; try with_reducible rfl)
                  simp only [Act.put, List.setIfInBounds_toArray, List.set_cons_zero, List.set_cons_succ]
                  refine handTake 23 (some 80) ?_ rfl rfl (by kernel_rfl) (by kernel_rfl) (by kernel_rfl) (fun _ _ _ h => h) (by rfl) ?_ HS ?_
                  rotate_left
                  · (intro u hu; (try dsimp only at hu); go_simp; try with_reducible rfl)
                  simp only [Act.put, List.setIfInBounds_toArray, List.set_cons_zero, List.set_cons_succ]
                  refine handTake 24 (some 81) ?_ rfl rfl (by kernel_rfl) (by kernel_rfl) (by kernel_rfl) (fun _ _ _ h => h) (by rfl) ?_ HS ?_
                  rotate_left
                  · (intro u hu; (try dsimp only at hu); go_simp; try with_reducible rfl)
                  simp only [Act.put, List.setIfInBounds_toArray, List.set_cons_zero, List.set_cons_succ]
                  refine handTake 26 (some 83) ?_ rfl rfl (by kernel_rfl) (by kernel_rfl) (by kernel_rfl) (fun _ _ _ h => h) (by rfl) ?_ HS ?_
                  rotate_left
                  · (intro u hu; (try dsimp only at hu); go_simp; try with_reducible rfl)
                  simp only [Act.put, List.setIfInBounds_toArray, List.set_cons_zero, List.set_cons_succ]
                  refine handTake 27 (some 84) ?_ rfl rfl (by kernel_rfl) (by kernel_rfl) (by kernel_rfl) (fun _ _ _ h => h) (by rfl) ?_ HS ?_
                  rotate_left
                  · (intro u hu; (try dsimp only at hu); go_simp; try with_reducible rfl)
                  simp only [Act.put, List.setIfInBounds_toArray, List.set_cons_zero, List.set_cons_succ]
                  refine handTake 28 (some 85) ?_ rfl rfl (by kernel_rfl) (by kernel_rfl) (by kernel_rfl) (fun _ _ _ h => h) (by rfl) ?_ HS ?_
                  rotate_left
                  · (intro u hu; (try dsimp only at hu); go_simp; try with_reducible rfl)
                  simp only [Act.put, List.setIfInBounds_toArray, List.set_cons_zero, List.set_cons_succ]
                  refine wpAnyH_ready (rs := [25, 29]) (by kernel_rfl) (by simp) ?_
                  refine AllReadyH.cons rfl (fun K hK => ?_) ?_
                  · go_simp
                    clear HS
                    refine UP.out.mono ?_
                    rintro e u9 ⟨rfl, rfl⟩
                    clear UP
                    go_wp2_with fail
                    refine hK.out _ _ (SC6.out) (fun HS => ?_)
                    clear hK
                    try simp only [Act.put, List.setIfInBounds_toArray, List.set_cons_zero, List.set_cons_succ]
                    refine wpAnyH_ready (rs := [29]) (by kernel_rfl) (by simp) ?_
                    refine AllReadyH.cons rfl (fun K hK => ?_) AllReadyH.nil
                    clear HS
                    go_simp
                    refine hK.out _ _ (SC6.out) (fun HS => ?_)
                    clear hK
                    try simp only [Act.put, List.setIfInBounds_toArray, List.set_cons_zero, List.set_cons_succ]
                    refine handTake 30 (some 87) ?_ rfl rfl (by kernel_rfl) (by kernel_rfl) (by kernel_rfl) (fun _ _ _ h => h) (by rfl) ?_ HS ?_
                    rotate_left
                    · (intro u hu; (try dsimp only at hu); go_simp; try with_reducible rfl)
                    simp only [Act.put, List.setIfInBounds_toArray, List.set_cons_zero, List.set_cons_succ]
                    refine handTake 31 (some 88) ?_ rfl rfl (by kernel_rfl) (by kernel_rfl) (by kernel_rfl) (fun _ _ _ h => h) (by rfl) ?_ HS ?_
                    rotate_left
                    · (intro u hu; (try dsimp only at hu); go_simp; try with_reducible rfl)
                    simp only [Act.put, List.setIfInBounds_toArray, List.set_cons_zero, List.set_cons_succ]
                    refine handTake 32 (some 89) ?_ rfl rfl (by kernel_rfl) (by kernel_rfl) (by kernel_rfl) (fun _ _ _ h => h) (by rfl) ?_ HS ?_
                    rotate_left
                    · (intro u hu; (try dsimp only at hu); go_simp; try with_reducible rfl)
                    simp only [Act.put, List.setIfInBounds_toArray, List.set_cons_zero, List.set_cons_succ]
                    refine handTake 33 (some 90) ?_ rfl rfl (by kernel_rfl) (by kernel_rfl) (by kernel_rfl) (fun _ _ _ h => h) (by rfl) ?_ HS ?_
                    rotate_left
                    · (intro u hu; (try dsimp only at hu); go_simp; try with_reducible rfl)
                    simp only [Act.put, List.setIfInBounds_toArray, List.set_cons_zero, List.set_cons_succ]
                    refine wpAnyH_ready (rs := [34]) (by kernel_rfl) (by simp) ?_
                    refine AllReadyH.cons rfl (fun K hK => ?_) AllReadyH.nil
                    clear HS
                    go_simp
                    refine hK.out _ _ (SC6.out) (fun HS => ?_)
                    clear hK
                    try simp only [Act.put, List.setIfInBounds_toArray, List.set_cons_zero, List.set_cons_succ]
                    refine handTake 35 (some 92) ?_ rfl rfl (by kernel_rfl) (by kernel_rfl) (by kernel_rfl) (fun _ _ _ h => h) (by rfl) ?_ HS ?_
                    rotate_left
                    · (intro u hu; (try dsimp only at hu); go_simp; try with_reducible rfl)
                    simp only [Act.put, List.setIfInBounds_toArray, List.set_cons_zero, List.set_cons_succ]
                    refine handTake 36 (some 93) ?_ rfl rfl (by kernel_rfl) (by kernel_rfl) (by kernel_rfl) (fun _ _ _ h => h) (by rfl) ?_ HS ?_
                    rotate_left
                    · (intro u hu; (try dsimp only at hu); go_simp; try with_reducible rfl)
                    simp only [Act.put, List.setIfInBounds_toArray, List.set_cons_zero, List.set_cons_succ]
                    refine handTake 37 (some 94) ?_ rfl rfl (by kernel_rfl) (by kernel_rfl) (by kernel_rfl) (fun _ _ _ h => h) (by rfl) ?_ HS ?_
                    rotate_left
                    · (intro u hu; (try dsimp only at hu); go_simp; try with_reducible rfl)
                    simp only [Act.put, List.setIfInBounds_toArray, List.set_cons_zero, List.set_cons_succ]
                    refine wpAnyH_done (by kernel_rfl) ?_ _
                    clear HS
                    clear SC6 c3 c4 c5
                    go_wp2_with fail
                    go_loopw [10] (fun i wr => ∃ (s : Int), -1 ≤ s ∧ s ≤ (N : Int) + 1 ∧ i = .int .i64 s ∧ Sep W (dI W.heap.size b pv wv5 d ++ (mI W.heap.size g sv mv lv (.slice zA WL zc) m6 ++ [])) wr) (fun i _ => ((N : Int) + 1 - intOf i).toNat)
                    case atStart => exact ⟨-1, by omega, by omega, rfl, HS6.out⟩
                    case round =>
                      obtain ⟨s, hs0, hs1, rfl, hs⟩ := hrel
                      have HS7 := Lib.hid hs
                      clear hs HS6
                      by_cases hsN : s ≤ (N : Int)
                      · have T := Lib.hid (TL.out s _ HS7.out)
                        go_wp2_with fail
                        refine T.out.mono ?_
                        rintro e u7 ⟨rfl, hs⟩
                        have HS8 := Lib.hid hs
                        clear hs T HS7
                        go_wp2_with fail
                        go_roundw
                        case rel => exact ⟨s + 1, by omega, by omega, by go_num, HS8.out⟩
                        case measure => show ((N : Int) + 1 - (s + 1)).toNat < ((N : Int) + 1 - s).toNat; omega
                      · clear TL
                        go_wp2_with fail
                        go_roundw
                        case rel => exact ⟨k + 1, wv5, _, m6, by omega, by go_num, by rw [← HD.out]; exact HRN.out, by rw [← HD.out]; exact HR6.out, by rw [← HD.out]; exact HS7.out⟩
                        case measure => show M - ((k : Int) + 1).toNat < M - (k : Int).toNat; omega
                  refine AllReadyH.cons rfl (fun K hK => ?_) ?_
                  · clear HS
                    go_simp
                    refine hK.out _ _ (SC6.out) (fun HS => ?_)
                    clear hK
                    try simp only [Act.put, List.setIfInBounds_toArray, List.set_cons_zero, List.set_cons_succ]
                    refine wpAnyH_ready (rs := [25]) (by kernel_rfl) (by simp) ?_
                    refine AllReadyH.cons rfl (fun K hK => ?_) AllReadyH.nil
                    go_simp
                    clear HS
                    refine UP.out.mono ?_
                    rintro e u9 ⟨rfl, rfl⟩
                    clear UP
                    go_wp2_with fail
                    refine hK.out _ _ (SC6.out) (fun HS => ?_)
                    clear hK
                    try simp only [Act.put, List.setIfInBounds_toArray, List.set_cons_zero, List.set_cons_succ]
                    refine handTake 30 (some 87) ?_ rfl rfl (by kernel_rfl) (by kernel_rfl) (by kernel_rfl) (fun _ _ _ h => h) (by rfl) ?_ HS ?_
                    rotate_left
                    · (intro u hu; (try dsimp only at hu); go_simp; try with_reducible rfl)
                    simp only [Act.put, List.setIfInBounds_toArray, List.set_cons_zero, List.set_cons_succ]
                    refine handTake 31 (some 88) ?_ rfl rfl (by kernel_rfl) (by kernel_rfl) (by kernel_rfl) (fun _ _ _ h => h) (by rfl) ?_ HS ?_
                    rotate_left
                    · (intro u hu; (try dsimp only at hu); go_simp; try with_reducible rfl)
                    simp only [Act.put, List.setIfInBounds_toArray, List.set_cons_zero, List.set_cons_succ]
                    refine handTake 32 (some 89) ?_ rfl rfl (by kernel_rfl) (by kernel_rfl) (by kernel_rfl) (fun _ _ _ h => h) (by rfl) ?_ HS ?_
                    rotate_left
                    · (intro u hu; (try dsimp only at hu); go_simp; try with_reducible rfl)
                    simp only [Act.put, List.setIfInBounds_toArray, List.set_cons_zero, List.set_cons_succ]
                    refine handTake 33 (some 90) ?_ rfl rfl (by kernel_rfl) (by kernel_rfl) (by kernel_rfl) (fun _ _ _ h => h) (by rfl) ?_ HS ?_
                    rotate_left
                    · (intro u hu; (try dsimp only at hu); go_simp; try with_reducible rfl)
                    simp only [Act.put, List.setIfInBounds_toArray, List.set_cons_zero, List.set_cons_succ]
                    refine wpAnyH_ready (rs := [34]) (by kernel_rfl) (by simp) ?_
                    refine AllReadyH.cons rfl (fun K hK => ?_) AllReadyH.nil
                    clear HS
                    go_simp
                    refine hK.out _ _ (SC6.out) (fun HS => ?_)
                    clear hK
                    try simp only [Act.put, List.setIfInBounds_toArray, List.set_cons_zero, List.set_cons_succ]
                    refine handTake 35 (some 92) ?_ rfl rfl (by kernel_rfl) (by kernel_rfl) (by kernel_rfl) (fun _ _ _ h => h) (by rfl) ?_ HS ?_
                    rotate_left
                    · (intro u hu; (try dsimp only at hu); go_simp; try with_reducible rfl)
                    simp only [Act.put, List.setIfInBounds_toArray, List.set_cons_zero, List.set_cons_succ]
                    refine handTake 36 (some 93) ?_ rfl rfl (by kernel_rfl) (by kernel_rfl) (by kernel_rfl) (fun _ _ _ h => h) (by rfl) ?_ HS ?_
                    rotate_left
                    · (intro u hu; (try dsimp only at hu); go_simp; try with_reducible rfl)
                    simp only [Act.put, List.setIfInBounds_toArray, List.set_cons_zero, List.set_cons_succ]
                    refine handTake 37 (some 94) ?_ rfl rfl (by kernel_rfl) (by kernel_rfl) (by kernel_rfl) (fun _ _ _ h => h) (by rfl) ?_ HS ?_
                    rotate_left
                    · (intro u hu; (try dsimp only at hu); go_simp; try with_reducible rfl)
                    simp only [Act.put, List.setIfInBounds_toArray, List.set_cons_zero, List.set_cons_succ]
                    refine wpAnyH_done (by kernel_rfl) ?_ _
                    clear HS
                    clear SC6 c3 c4 c5
                    go_wp2_with fail
                    go_loopw [10] (fun i wr => ∃ (s : Int), -1 ≤ s ∧ s ≤ (N : Int) + 1 ∧ i = .int .i64 s ∧ Sep W (dI W.heap.size b pv wv5 d ++ (mI W.heap.size g sv mv lv (.slice zA WL zc) m6 ++ [])) wr) (fun i _ => ((N : Int) + 1 - intOf i).toNat)
                    case atStart => exact ⟨-1, by omega, by omega, rfl, HS6.out⟩
                    case round =>
                      obtain ⟨s, hs0, hs1, rfl, hs⟩ := hrel
                      have HS7 := Lib.hid hs
                      clear hs HS6
                      by_cases hsN : s ≤ (N : Int)
                      · have T := Lib.hid (TL.out s _ HS7.out)
                        go_wp2_with fail
                        refine T.out.mono ?_
                        rintro e u7 ⟨rfl, hs⟩
                        have HS8 := Lib.hid hs
                        clear hs T HS7
                        go_wp2_with fail
                        go_roundw
                        case rel => exact ⟨s + 1, by omega, by omega, by go_num, HS8.out⟩
                        case measure => show ((N : Int) + 1 - (s + 1)).toNat < ((N : Int) + 1 - s).toNat; omega
                      · clear TL
                        go_wp2_with fail
                        go_roundw
                        case rel => exact ⟨k + 1, wv5, _, m6, by omega, by go_num, by rw [← HD.out]; exact HRN.out, by rw [← HD.out]; exact HR6.out, by rw [← HD.out]; exact HS7.out⟩
                        case measure => show M - ((k : Int) + 1).toNat < M - (k : Int).toNat; omega
                  exact AllReadyH.nil
                exact AllReadyH.nil
              · have HDE := Lib.hid hde; clear hde
                have HUP : Hid (d.up = false) := by show d.up = false; unfold Dk.up; rw [HDN.out, HDE.out]; rfl
                have HSD := Lib.hid HS0.out.drew
                have SD := Lib.hid (HCELL.out _ HSD.out.below)
                refine wp_region_held_drew (S := (fun u : World => u.cell? ⟨b2, o2 + k * 5, none⟩ = some (.int .u8 (kd : Nat)) ∧ u.cell? ⟨b2, o2 + k * 5 + 1, none⟩ = some (.int .i64 sc) ∧ u.cell? ⟨b2, o2 + k * 5 + 2, none⟩ = some (.int .i64 nn) ∧ u.cell? ⟨b2, o2 + k * 5 + 3, none⟩ = some (bv) ∧ u.cell? ⟨b2, o2 + k * 5 + 4, none⟩ = some (kv))) (by kernel_rfl) (SD.out) (fun HS => ?_)
                refine handTake 0 (some 57) ?_ rfl rfl (by kernel_rfl) (by kernel_rfl) (by kernel_rfl) (fun _ _ _ h => h) (by rfl) ?_ HS ?_
                rotate_left
                · (intro u hu; (try dsimp only at hu); go_simp; try with_reducible rfl)
                simp only [Act.put, List.setIfInBounds_toArray, List.set_cons_zero, List.set_cons_succ]
                refine handTake 1 (some 58) ?_ rfl rfl (by kernel_rfl) (by kernel_rfl) (by kernel_rfl) (fun _ _ _ h => h) (by rfl) ?_ HS ?_
                rotate_left
                · (intro u hu; (try dsimp only at hu); go_simp; try with_reducible rfl)
                simp only [Act.put, List.setIfInBounds_toArray, List.set_cons_zero, List.set_cons_succ]
                refine handTake 2 (some 59) ?_ rfl rfl (by kernel_rfl) (by kernel_rfl) (by kernel_rfl) (fun _ _ _ h => h) (by rfl) ?_ HS ?_
                rotate_left
                · (intro u hu; (try dsimp only at hu); go_simp; try with_reducible rfl)
                simp only [Act.put, List.setIfInBounds_toArray, List.set_cons_zero, List.set_cons_succ]
                refine handTake 3 (some 60) ?_ rfl rfl (by kernel_rfl) (by kernel_rfl) (by kernel_rfl) (fun _ _ _ h => h) (by rfl) ?_ HS ?_
                rotate_left
                · (intro u hu; (try dsimp only at hu); go_simp; try with_reducible rfl)
                simp only [Act.put, List.setIfInBounds_toArray, List.set_cons_zero, List.set_cons_succ]
                refine handTake 4 (some 61) ?_ rfl rfl (by kernel_rfl) (by kernel_rfl) (by kernel_rfl) (fun _ _ _ h => h) (by rfl) ?_ HS ?_
                rotate_left
                · (intro u hu; (try dsimp only at hu); go_simp; try with_reducible rfl)
                simp only [Act.put, List.setIfInBounds_toArray, List.set_cons_zero, List.set_cons_succ]
                refine handTake 6 (some 63) ?_ rfl rfl (by kernel_rfl) (by kernel_rfl) (by kernel_rfl) (fun _ _ _ h => h) (by rfl) ?_ HS ?_
                rotate_left
                · (intro u hu; (try dsimp only at hu); go_simp; try with_reducible rfl)
                simp only [Act.put, List.setIfInBounds_toArray, List.set_cons_zero, List.set_cons_succ]
                refine handTake 7 (some 64) ?_ rfl rfl (by kernel_rfl) (by kernel_rfl) (by kernel_rfl) (fun _ _ _ h => h) (by rfl) ?_ HS ?_
                rotate_left
                · (intro u hu; (try dsimp only at hu); go_simp; try with_reducible rfl)
                simp only [Act.put, List.setIfInBounds_toArray, List.set_cons_zero, List.set_cons_succ]
                refine handTake 8 (some 65) ?_ rfl rfl (by kernel_rfl) (by kernel_rfl) (by kernel_rfl) (fun _ _ _ h => h) (by rfl) ?_ HS ?_
                rotate_left
                · (intro u hu; (try dsimp only at hu); go_simp; try with_reducible rfl)
                simp only [Act.put, List.setIfInBounds_toArray, List.set_cons_zero, List.set_cons_succ]
                refine handTake 9 (some 66) ?_ rfl rfl (by kernel_rfl) (by kernel_rfl) (by kernel_rfl) (fun _ _ _ h => h) (by rfl) ?_ HS ?_
                rotate_left
                · (intro u hu; (try dsimp only at hu); go_simp; try with_reducible rfl)
                simp only [Act.put, List.setIfInBounds_toArray, List.set_cons_zero, List.set_cons_succ]
                refine handTake 10 (some 67) ?_ rfl rfl (by kernel_rfl) (by kernel_rfl) (by kernel_rfl) (fun _ _ _ h => h) (by rfl) ?_ HS ?_
                rotate_left
                · (intro u hu; (try dsimp only at hu); go_simp; try with_reducible rfl)
                simp only [Act.put, List.setIfInBounds_toArray, List.set_cons_zero, List.set_cons_succ]
                refine wpAnyH_ready (rs := [5]) (by kernel_rfl) (by simp) ?_
                refine AllReadyH.cons rfl (fun K hK => ?_) AllReadyH.nil
                go_simp
                clear HS
                refine (C1.out _ HSD.out).mono ?_
                rintro e u5 ⟨rfl, wv5, hs⟩
                have HS5 := Lib.hid hs
                have SC5 := Lib.hid (HCELL.out _ hs.below)
                clear hs C1 HSD SD
                go_wp2_with fail
                refine hK.out _ _ (SC5.out) (fun HS => ?_)
                clear hK
                try simp only [Act.put, List.setIfInBounds_toArray, List.set_cons_zero, List.set_cons_succ]
                refine wpAnyH_ready (rs := [11]) (by kernel_rfl) (by simp) ?_
                refine AllReadyH.cons rfl (fun K hK => ?_) AllReadyH.nil
                go_simp
                clear HS
                refine (C2.out _ _ HS5.out.midSwap).mono ?_
                rintro e u6 ⟨rfl, zv6, m6, hr6, hs⟩
                obtain ⟨zA, zc, hzv, _, _⟩ := (Row.of_own (mI_waits hs)).slice
                subst hzv
                rw [hr6.lw] at hs
                have HS6 := Lib.hid hs.midSwap
                have hbx := mI_box hs
                have c3 := hbx.cell 3; have c4 := hbx.cell 4; have c5 := hbx.cell 5
                simp only [mdC, List.getElem?_cons_zero, List.getElem?_cons_succ] at c3 c4 c5
                rw [hr6.down, HDN.out] at c4
                rw [hr6.dead, HDE.out] at c5
                have HR6 := Lib.hid hr6
                have WT := waits_is d HRN.out.ok b pv wv5 u6 HS6.out
                have UP := up_is d HRN.out.ok b pv wv5 u6 HS6.out
                rw [HUP.out] at UP
                have TL := Lib.hid (fun (s : Int) (u : World) hs => tells_is d HRN.out.ok (by have := HRN.out.few; omega) m6 hr6 s b pv wv5 g sv mv lv (.slice zA d.waits.length zc) (w0 := W) (l := []) u hs)
                have SC6 := Lib.hid (HCELL.out _ hs.below)
                generalize d.waits.length = WL at *
                have UP := Lib.hid UP; have WT := Lib.hid WT
                clear hs hbx C2 HS5 SC5 hr6
                go_wp2_with fail
                refine hK.out _ _ (SC6.out) (fun HS => ?_)
                clear hK
                try simp only [Act.put, List.setIfInBounds_toArray, List.set_cons_zero, List.set_cons_succ]
                refine handTake 12 (some 69) ?_ rfl rfl (by kernel_rfl) (by kernel_rfl) (by kernel_rfl) (fun _ _ _ h => h) (by rfl) ?_ HS ?_
                rotate_left
                · (intro u hu; (try dsimp only at hu); go_simp; try with_reducible rfl)
                simp only [Act.put, List.setIfInBounds_toArray, List.set_cons_zero, List.set_cons_succ]
                refine handTake 13 (some 70) ?_ rfl rfl (by kernel_rfl) (by kernel_rfl) (by kernel_rfl) (fun _ _ _ h => h) (by rfl) ?_ HS ?_
                rotate_left
                · (intro u hu; (try dsimp only at hu); go_simp; try with_reducible rfl)
                simp only [Act.put, List.setIfInBounds_toArray, List.set_cons_zero, List.set_cons_succ]
                refine handTake 14 (some 71) ?_ rfl rfl (by kernel_rfl) (by kernel_rfl) (by kernel_rfl) (fun _ _ _ h => h) (by rfl) ?_ HS ?_
                rotate_left
                · (intro u hu; (try dsimp only at hu); go_simp; try with_reducible rfl)
                simp only [Act.put, List.setIfInBounds_toArray, List.set_cons_zero, List.set_cons_succ]
                refine handTake 16 (some 73) ?_ rfl rfl (by kernel_rfl) (by kernel_rfl) (by kernel_rfl) (fun _ _ _ h => h) (by rfl) ?_ HS ?_
                rotate_left
                · (intro u hu; (try dsimp only at hu); go_simp; try with_reducible rfl)
                simp only [Act.put, List.setIfInBounds_toArray, List.set_cons_zero, List.set_cons_succ]
                refine handTake 17 (some 74) ?_ rfl rfl (by kernel_rfl) (by kernel_rfl) (by kernel_rfl) (fun _ _ _ h => h) (by rfl) ?_ HS ?_
                rotate_left
                · (intro u hu; (try dsimp only at hu); go_simp; try with_reducible rfl)
                simp only [Act.put, List.setIfInBounds_toArray, List.set_cons_zero, List.set_cons_succ]
                refine handTake 18 (some 75) ?_ rfl rfl (by kernel_rfl) (by kernel_rfl) (by kernel_rfl) (fun _ _ _ h => h) (by rfl) ?_ HS ?_
                rotate_left
                · (intro u hu; (try dsimp only at hu); go_simp; try with_reducible rfl)
                simp only [Act.put, List.setIfInBounds_toArray, List.set_cons_zero, List.set_cons_succ]
                refine wpAnyH_ready (rs := [15, 19]) (by kernel_rfl) (by simp) ?_
                refine AllReadyH.cons rfl (fun K hK => ?_) ?_
                · go_simp
                  clear HS
                  refine WT.out.mono ?_
                  rintro e u9 ⟨rfl, rfl⟩
                  clear WT
                  go_wp2_with fail
                  refine hK.out _ _ (SC6.out) (fun HS => ?_)
                  clear hK
                  try simp only [Act.put, List.setIfInBounds_toArray, List.set_cons_zero, List.set_cons_succ]
                  refine wpAnyH_ready (rs := [19]) (by kernel_rfl) (by simp) ?_
                  refine AllReadyH.cons rfl (fun K hK => ?_) AllReadyH.nil
                  clear HS
                  go_simp
                  refine hK.out _ _ (SC6.out) (fun HS => ?_)
                  clear hK
                  try simp only [Act.put, List.setIfInBounds_toArray, List.set_cons_zero, List.set_cons_succ]
                  refine handTake 20 (some 77) ?_ rfl rfl (by kernel_rfl) (by kernel_rfl) (by kernel_rfl) (fun _ _ _ h => h) (by rfl) ?_ HS ?_
                  rotate_left
                  · (intro u hu; (try dsimp only at hu); go_simp; try with_reducible rfl)
                  simp only [Act.put, List.setIfInBounds_toArray, List.set_cons_zero, List.set_cons_succ]
                  refine handTake 21 (some 78) ?_ rfl rfl (by kernel_rfl) (by kernel_rfl) (by kernel_rfl) (fun _ _ _ h => h) (by rfl) ?_ HS ?_
                  rotate_left
                  · (intro u hu; (try dsimp only at hu); go_simp; try with_reducible rfl)
                  simp only [Act.put, List.setIfInBounds_toArray, List.set_cons_zero, List.set_cons_succ]
                  refine handTake 22 (some 79) ?_ rfl rfl (by kernel_rfl) (by kernel_rfl) (by kernel_rfl) (fun _ _ _ h => h) (by rfl) ?_ HS ?_
                  rotate_left
                  · (intro u hu; (try dsimp only at hu); go_simp; try with_reducible rfl)
                  simp only [Act.put, List.setIfInBounds_toArray, List.set_cons_zero, List.set_cons_succ]
                  refine handTake 23 (some 80) ?_ rfl rfl (by kernel_rfl) (by kernel_rfl) (by kernel_rfl) (fun _ _ _ h => h) (by rfl) ?_ HS ?_
                  rotate_left
                  · (intro u hu; (try dsimp only at hu); go_simp; try with_reducible rfl)
                  simp only [Act.put, List.setIfInBounds_toArray, List.set_cons_zero, List.set_cons_succ]
                  refine handTake 24 (some 81) ?_ rfl rfl (by kernel_rfl) (by kernel_rfl) (by kernel_rfl) (fun _ _ _ h => h) (by rfl) ?_ HS ?_
                  rotate_left
                  · (intro u hu; (try dsimp only at hu); go_simp; try with_reducible rfl)
                  simp only [Act.put, List.setIfInBounds_toArray, List.set_cons_zero, List.set_cons_succ]
                  refine handTake 26 (some 83) ?_ rfl rfl (by kernel_rfl) (by kernel_rfl) (by kernel_rfl) (fun _ _ _ h => h) (by rfl) ?_ HS ?_
                  rotate_left
                  · (intro u hu; (try dsimp only at hu); go_simp; try with_reducible rfl)
                  simp only [Act.put, List.setIfInBounds_toArray, List.set_cons_zero, List.set_cons_succ]
                  refine handTake 27 (some 84) ?_ rfl rfl (by kernel_rfl) (by kernel_rfl) (by kernel_rfl) (fun _ _ _ h => h) (by rfl) ?_ HS ?_
                  rotate_left
                  · (intro u hu; (try dsimp only at hu); go_simp; try with_reducible rfl)
                  simp only [Act.put, List.setIfInBounds_toArray, List.set_cons_zero, List.set_cons_succ]
                  refine handTake 28 (some 85) ?_ rfl rfl (by kernel_rfl) (by kernel_rfl) (by kernel_rfl) (fun _ _ _ h => h) (by rfl) ?_ HS ?_
                  rotate_left
                  · (intro u hu; (try dsimp only at hu); go_simp; try with_reducible rfl)
                  simp only [Act.put, List.setIfInBounds_toArray, List.set_cons_zero, List.set_cons_succ]
                  refine wpAnyH_ready (rs := [25, 29]) (by kernel_rfl) (by simp) ?_
                  refine AllReadyH.cons rfl (fun K hK => ?_) ?_
                  · go_simp
                    clear HS
                    refine UP.out.mono ?_
                    rintro e u9 ⟨rfl, rfl⟩
                    clear UP
                    go_wp2_with fail
                    refine hK.out _ _ (SC6.out) (fun HS => ?_)
                    clear hK
                    try simp only [Act.put, List.setIfInBounds_toArray, List.set_cons_zero, List.set_cons_succ]
                    refine wpAnyH_ready (rs := [29]) (by kernel_rfl) (by simp) ?_
                    refine AllReadyH.cons rfl (fun K hK => ?_) AllReadyH.nil
                    clear HS
                    go_simp
                    refine hK.out _ _ (SC6.out) (fun HS => ?_)
                    clear hK
                    try simp only [Act.put, List.setIfInBounds_toArray, List.set_cons_zero, List.set_cons_succ]
                    refine handTake 30 (some 87) ?_ rfl rfl (by kernel_rfl) (by kernel_rfl) (by kernel_rfl) (fun _ _ _ h => h) (by rfl) ?_ HS ?_
                    rotate_left
                    · (intro u hu; (try dsimp only at hu); go_simp; try with_reducible rfl)
                    simp only [Act.put, List.setIfInBounds_toArray, List.set_cons_zero, List.set_cons_succ]
                    refine handTake 31 (some 88) ?_ rfl rfl (by kernel_rfl) (by kernel_rfl) (by kernel_rfl) (fun _ _ _ h => h) (by rfl) ?_ HS ?_
                    rotate_left
                    · (intro u hu; (try dsimp only at hu); go_simp; try with_reducible rfl)
                    simp only [Act.put, List.setIfInBounds_toArray, List.set_cons_zero, List.set_cons_succ]
                    refine handTake 32 (some 89) ?_ rfl rfl (by kernel_rfl) (by kernel_rfl) (by kernel_rfl) (fun _ _ _ h => h) (by rfl) ?_ HS ?_
                    rotate_left
                    · (intro u hu; (try dsimp only at hu); go_simp; try with_reducible rfl)
                    simp only [Act.put, List.setIfInBounds_toArray, List.set_cons_zero, List.set_cons_succ]
                    refine handTake 33 (some 90) ?_ rfl rfl (by kernel_rfl) (by kernel_rfl) (by kernel_rfl) (fun _ _ _ h => h) (by rfl) ?_ HS ?_
                    rotate_left
                    · (intro u hu; (try dsimp only at hu); go_simp; try with_reducible rfl)
                    simp only [Act.put, List.setIfInBounds_toArray, List.set_cons_zero, List.set_cons_succ]
                    refine wpAnyH_ready (rs := [34]) (by kernel_rfl) (by simp) ?_
                    refine AllReadyH.cons rfl (fun K hK => ?_) AllReadyH.nil
                    clear HS
                    go_simp
                    refine hK.out _ _ (SC6.out) (fun HS => ?_)
                    clear hK
                    try simp only [Act.put, List.setIfInBounds_toArray, List.set_cons_zero, List.set_cons_succ]
                    refine handTake 35 (some 92) ?_ rfl rfl (by kernel_rfl) (by kernel_rfl) (by kernel_rfl) (fun _ _ _ h => h) (by rfl) ?_ HS ?_
                    rotate_left
                    · (intro u hu; (try dsimp only at hu); go_simp; try with_reducible rfl)
                    simp only [Act.put, List.setIfInBounds_toArray, List.set_cons_zero, List.set_cons_succ]
                    refine handTake 36 (some 93) ?_ rfl rfl (by kernel_rfl) (by kernel_rfl) (by kernel_rfl) (fun _ _ _ h => h) (by rfl) ?_ HS ?_
                    rotate_left
                    · (intro u hu; (try dsimp only at hu); go_simp; try with_reducible rfl)
                    simp only [Act.put, List.setIfInBounds_toArray, List.set_cons_zero, List.set_cons_succ]
                    refine handTake 37 (some 94) ?_ rfl rfl (by kernel_rfl) (by kernel_rfl) (by kernel_rfl) (fun _ _ _ h => h) (by rfl) ?_ HS ?_
                    rotate_left
                    · (intro u hu; (try dsimp only at hu); go_simp; try with_reducible rfl)
                    simp only [Act.put, List.setIfInBounds_toArray, List.set_cons_zero, List.set_cons_succ]
                    refine wpAnyH_done (by kernel_rfl) ?_ _
                    clear HS
                    clear SC6 c3 c4 c5
                    go_wp2_with fail
                    go_loopw [10] (fun i wr => ∃ (s : Int), -1 ≤ s ∧ s ≤ (N : Int) + 1 ∧ i = .int .i64 s ∧ Sep W (dI W.heap.size b pv wv5 d ++ (mI W.heap.size g sv mv lv (.slice zA WL zc) m6 ++ [])) wr) (fun i _ => ((N : Int) + 1 - intOf i).toNat)
                    case atStart => exact ⟨-1, by omega, by omega, rfl, HS6.out⟩
                    case round =>
                      obtain ⟨s, hs0, hs1, rfl, hs⟩ := hrel
                      have HS7 := Lib.hid hs
                      clear hs HS6
                      by_cases hsN : s ≤ (N : Int)
                      · have T := Lib.hid (TL.out s _ HS7.out)
                        go_wp2_with fail
                        refine T.out.mono ?_
                        rintro e u7 ⟨rfl, hs⟩
                        have HS8 := Lib.hid hs
                        clear hs T HS7
                        go_wp2_with fail
                        go_roundw
                        case rel => exact ⟨s + 1, by omega, by omega, by go_num, HS8.out⟩
                        case measure => show ((N : Int) + 1 - (s + 1)).toNat < ((N : Int) + 1 - s).toNat; omega
                      · clear TL
                        go_wp2_with fail
                        go_roundw
                        case rel => exact ⟨k + 1, wv5, _, m6, by omega, by go_num, by rw [← HD.out]; exact HRN.out, by rw [← HD.out]; exact HR6.out, by rw [← HD.out]; exact HS7.out⟩
                        case measure => show M - ((k : Int) + 1).toNat < M - (k : Int).toNat; omega
                  refine AllReadyH.cons rfl (fun K hK => ?_) ?_
                  · clear HS
                    go_simp
                    refine hK.out _ _ (SC6.out) (fun HS => ?_)
                    clear hK
                    try simp only [Act.put, List.setIfInBounds_toArray, List.set_cons_zero, List.set_cons_succ]
                    refine wpAnyH_ready (rs := [25]) (by kernel_rfl) (by simp) ?_
                    refine AllReadyH.cons rfl (fun K hK => ?_) AllReadyH.nil
                    go_simp
                    clear HS
                    refine UP.out.mono ?_
                    rintro e u9 ⟨rfl, rfl⟩
                    clear UP
                    go_wp2_with fail
                    refine hK.out _ _ (SC6.out) (fun HS => ?_)
                    clear hK
                    try simp only [Act.put, List.setIfInBounds_toArray, List.set_cons_zero, List.set_cons_succ]
                    refine handTake 30 (some 87) ?_ rfl rfl (by kernel_rfl) (by kernel_rfl) (by kernel_rfl) (fun _ _ _ h => h) (by rfl) ?_ HS ?_
                    rotate_left
                    · (intro u hu; (try dsimp only at hu); go_simp; try with_reducible rfl)
                    simp only [Act.put, List.setIfInBounds_toArray, List.set_cons_zero, List.set_cons_succ]
                    refine handTake 31 (some 88) ?_ rfl rfl (by kernel_rfl) (by kernel_rfl) (by kernel_rfl) (fun _ _ _ h => h) (by rfl) ?_ HS ?_
                    rotate_left
                    · (intro u hu; (try dsimp only at hu); go_simp; try with_reducible rfl)
                    simp only [Act.put, List.setIfInBounds_toArray, List.set_cons_zero, List.set_cons_succ]
                    refine handTake 32 (some 89) ?_ rfl rfl (by kernel_rfl) (by kernel_rfl) (by kernel_rfl) (fun _ _ _ h => h) (by rfl) ?_ HS ?_
                    rotate_left
                    · (intro u hu; (try dsimp only at hu); go_simp; try with_reducible rfl)
                    simp only [Act.put, List.setIfInBounds_toArray, List.set_cons_zero, List.set_cons_succ]
                    refine handTake 33 (some 90) ?_ rfl rfl (by kernel_rfl) (by kernel_rfl) (by kernel_rfl) (fun _ _ _ h => h) (by rfl) ?_ HS ?_
                    rotate_left
                    · (intro u hu; (try dsimp only at hu); go_simp; try with_reducible rfl)
                    simp only [Act.put, List.setIfInBounds_toArray, List.set_cons_zero, List.set_cons_succ]
                    refine wpAnyH_ready (rs := [34]) (by kernel_rfl) (by simp) ?_
                    refine AllReadyH.cons rfl (fun K hK => ?_) AllReadyH.nil
                    clear HS
                    go_simp
                    refine hK.out _ _ (SC6.out) (fun HS => ?_)
                    clear hK
                    try simp only [Act.put, List.setIfInBounds_toArray, List.set_cons_zero, List.set_cons_succ]
                    refine handTake 35 (some 92) ?_ rfl rfl (by kernel_rfl) (by kernel_rfl) (by kernel_rfl) (fun _ _ _ h => h) (by rfl) ?_ HS ?_
                    rotate_left
                    · (intro u hu; (try dsimp only at hu); go_simp; try with_reducible rfl)
                    simp only [Act.put, List.setIfInBounds_toArray, List.set_cons_zero, List.set_cons_succ]
                    refine handTake 36 (some 93) ?_ rfl rfl (by kernel_rfl) (by kernel_rfl) (by kernel_rfl) (fun _ _ _ h => h) (by rfl) ?_ HS ?_
                    rotate_left
                    · (intro u hu; (try dsimp only at hu); go_simp; try with_reducible rfl)
                    simp only [Act.put, List.setIfInBounds_toArray, List.set_cons_zero, List.set_cons_succ]
                    refine handTake 37 (some 94) ?_ rfl rfl (by kernel_rfl) (by kernel_rfl) (by kernel_rfl) (fun _ _ _ h => h) (by rfl) ?_ HS ?_
                    rotate_left
                    · (intro u hu; (try dsimp only at hu); go_simp; try with_reducible rfl)
                    simp only [Act.put, List.setIfInBounds_toArray, List.set_cons_zero, List.set_cons_succ]
                    refine wpAnyH_done (by kernel_rfl) ?_ _
                    clear HS
                    clear SC6 c3 c4 c5
                    go_wp2_with fail
                    go_loopw [10] (fun i wr => ∃ (s : Int), -1 ≤ s ∧ s ≤ (N : Int) + 1 ∧ i = .int .i64 s ∧ Sep W (dI W.heap.size b pv wv5 d ++ (mI W.heap.size g sv mv lv (.slice zA WL zc) m6 ++ [])) wr) (fun i _ => ((N : Int) + 1 - intOf i).toNat)
                    case atStart => exact ⟨-1, by omega, by omega, rfl, HS6.out⟩
                    case round =>
                      obtain ⟨s, hs0, hs1, rfl, hs⟩ := hrel
                      have HS7 := Lib.hid hs
                      clear hs HS6
                      by_cases hsN : s ≤ (N : Int)
                      · have T := Lib.hid (TL.out s _ HS7.out)
                        go_wp2_with fail
                        refine T.out.mono ?_
                        rintro e u7 ⟨rfl, hs⟩
                        have HS8 := Lib.hid hs
                        clear hs T HS7
                        go_wp2_with fail
                        go_roundw
                        case rel => exact ⟨s + 1, by omega, by omega, by go_num, HS8.out⟩
                        case measure => show ((N : Int) + 1 - (s + 1)).toNat < ((N : Int) + 1 - s).toNat; omega
                      · clear TL
                        go_wp2_with fail
                        go_roundw
                        case rel => exact ⟨k + 1, wv5, _, m6, by omega, by go_num, by rw [← HD.out]; exact HRN.out, by rw [← HD.out]; exact HR6.out, by rw [← HD.out]; exact HS7.out⟩
                        case measure => show M - ((k : Int) + 1).toNat < M - (k : Int).toNat; omega
                  exact AllReadyH.nil
                refine AllReadyH.cons rfl (fun K hK => ?_) ?_
                · clear HS
                  go_simp
                  refine hK.out _ _ (SC6.out) (fun HS => ?_)
                  clear hK
                  try simp only [Act.put, List.setIfInBounds_toArray, List.set_cons_zero, List.set_cons_succ]
                  refine handTake 20 (some 77) ?_ rfl rfl (by kernel_rfl) (by kernel_rfl) (by kernel_rfl) (fun _ _ _ h => h) (by rfl) ?_ HS ?_
                  rotate_left
                  · (intro u hu; (try dsimp only at hu); go_simp; try with_reducible rfl)
                  simp only [Act.put, List.setIfInBounds_toArray, List.set_cons_zero, List.set_cons_succ]
                  refine wpAnyH_ready (rs := [15]) (by kernel_rfl) (by simp) ?_
                  refine AllReadyH.cons rfl (fun K hK => ?_) AllReadyH.nil
                  go_simp
                  clear HS
                  refine WT.out.mono ?_
                  rintro e u9 ⟨rfl, rfl⟩
                  clear WT
                  go_wp2_with fail
                  refine hK.out _ _ (SC6.out) (fun HS => ?_)
                  clear hK
                  try simp only [Act.put, List.setIfInBounds_toArray, List.set_cons_zero, List.set_cons_succ]
                  refine handTake 21 (some 78) ?_ rfl rfl (by kernel_rfl) (by kernel_rfl) (by kernel_rfl) (fun _ _ _ h => h) (by rfl) ?_ HS ?_
                  rotate_left
                  · (intro u hu; (try dsimp only at hu); go_simp; try with_reducible rfl)
                  simp only [Act.put, List.setIfInBounds_toArray, List.set_cons_zero, List.set_cons_succ]
                  refine handTake 22 (some 79) ?_ rfl rfl (by kernel_rfl) (by kernel_rfl) (by kernel_rfl) (fun _ _ _ h => h) (by rfl) ?_ HS ?_
                  rotate_left
                  · (intro u hu; (try dsimp only at hu); go_simp; try with_reducible rfl)
                  simp only [Act.put, List.setIfInBounds_toArray, List.set_cons_zero, List.set_cons_succ]
                  refine handTake 23 (some 80) ?_ rfl rfl (by kernel_rfl) (by kernel_rfl) (by kernel_rfl) (fun _ _ _ h => h) (by rfl) ?_ HS ?_
                  rotate_left
                  · (intro u hu; (try dsimp only at hu); go_simp; try with_reducible rfl)
                  simp only [Act.put, List.setIfInBounds_toArray, List.set_cons_zero, List.set_cons_succ]
                  refine handTake 24 (some 81) ?_ rfl rfl (by kernel_rfl) (by kernel_rfl) (by kernel_rfl) (fun _ _ _ h => h) (by rfl) ?_ HS ?_
                  rotate_left
                  · (intro u hu; (try dsimp only at hu); go_simp; try with_reducible rfl)
                  simp only [Act.put, List.setIfInBounds_toArray, List.set_cons_zero, List.set_cons_succ]
                  refine handTake 26 (some 83) ?_ rfl rfl (by kernel_rfl) (by kernel_rfl) (by kernel_rfl) (fun _ _ _ h => h) (by rfl) ?_ HS ?_
                  rotate_left
                  · (intro u hu; (try dsimp only at hu); go_simp; try with_reducible rfl)
                  simp only [Act.put, List.setIfInBounds_toArray, List.set_cons_zero, List.set_cons_succ]
                  refine handTake 27 (some 84) ?_ rfl rfl (by kernel_rfl) (by kernel_rfl) (by kernel_rfl) (fun _ _ _ h => h) (by rfl) ?_ HS ?_
                  rotate_left
                  · (intro u hu; (try dsimp only at hu); go_simp; try with_reducible rfl)
                  simp only [Act.put, List.setIfInBounds_toArray, List.set_cons_zero, List.set_cons_succ]
                  refine handTake 28 (some 85) ?_ rfl rfl (by kernel_rfl) (by kernel_rfl) (by kernel_rfl) (fun _ _ _ h => h) (by rfl) ?_ HS ?_
                  rotate_left
                  · (intro u hu; (try dsimp only at hu); go_simp; try with_reducible rfl)
                  simp only [Act.put, List.setIfInBounds_toArray, List.set_cons_zero, List.set_cons_succ]
                  refine wpAnyH_ready (rs := [25, 29]) (by kernel_rfl) (by simp) ?_
                  refine AllReadyH.cons rfl (fun K hK => ?_) ?_
                  · go_simp
                    clear HS
                    refine UP.out.mono ?_
                    rintro e u9 ⟨rfl, rfl⟩
                    clear UP
                    go_wp2_with fail
                    refine hK.out _ _ (SC6.out) (fun HS => ?_)
                    clear hK
                    try simp only [Act.put, List.setIfInBounds_toArray, List.set_cons_zero, List.set_cons_succ]
                    refine wpAnyH_ready (rs := [29]) (by kernel_rfl) (by simp) ?_
                    refine AllReadyH.cons rfl (fun K hK => ?_) AllReadyH.nil
                    clear HS
                    go_simp
                    refine hK.out _ _ (SC6.out) (fun HS => ?_)
                    clear hK
                    try simp only [Act.put, List.setIfInBounds_toArray, List.set_cons_zero, List.set_cons_succ]
                    refine handTake 30 (some 87) ?_ rfl rfl (by kernel_rfl) (by kernel_rfl) (by kernel_rfl) (fun _ _ _ h => h) (by rfl) ?_ HS ?_
                    rotate_left
                    · (intro u hu; (try dsimp only at hu); go_simp; try with_reducible rfl)
                    simp only [Act.put, List.setIfInBounds_toArray, List.set_cons_zero, List.set_cons_succ]
                    refine handTake 31 (some 88) ?_ rfl rfl (by kernel_rfl) (by kernel_rfl) (by kernel_rfl) (fun _ _ _ h => h) (by rfl) ?_ HS ?_
                    rotate_left
                    · (intro u hu; (try dsimp only at hu); go_simp; try with_reducible rfl)
                    simp only [Act.put, List.setIfInBounds_toArray, List.set_cons_zero, List.set_cons_succ]
                    refine handTake 32 (some 89) ?_ rfl rfl (by kernel_rfl) (by kernel_rfl) (by kernel_rfl) (fun _ _ _ h => h) (by rfl) ?_ HS ?_
                    rotate_left
                    · (intro u hu; (try dsimp only at hu); go_simp; try with_reducible rfl)
                    simp only [Act.put, List.setIfInBounds_toArray, List.set_cons_zero, List.set_cons_succ]
                    refine handTake 33 (some 90) ?_ rfl rfl (by kernel_rfl) (by kernel_rfl) (by kernel_rfl) (fun _ _ _ h => h) (by rfl) ?_ HS ?_
                    rotate_left
                    · (intro u hu; (try dsimp only at hu); go_simp; try with_reducible rfl)
                    simp only [Act.put, List.setIfInBounds_toArray, List.set_cons_zero, List.set_cons_succ]
                    refine wpAnyH_ready (rs := [34]) (by kernel_rfl) (by simp) ?_
                    refine AllReadyH.cons rfl (fun K hK => ?_) AllReadyH.nil
                    clear HS
                    go_simp
                    refine hK.out _ _ (SC6.out) (fun HS => ?_)
                    clear hK
                    try simp only [Act.put, List.setIfInBounds_toArray, List.set_cons_zero, List.set_cons_succ]
                    refine handTake 35 (some 92) ?_ rfl rfl (by kernel_rfl) (by kernel_rfl) (by kernel_rfl) (fun _ _ _ h => h) (by rfl) ?_ HS ?_
                    rotate_left
                    · (intro u hu; (try dsimp only at hu); go_simp; try with_reducible rfl)
                    simp only [Act.put, List.setIfInBounds_toArray, List.set_cons_zero, List.set_cons_succ]
                    refine handTake 36 (some 93) ?_ rfl rfl (by kernel_rfl) (by kernel_rfl) (by kernel_rfl) (fun _ _ _ h => h) (by rfl) ?_ HS ?_
                    rotate_left
                    · (intro u hu; (try dsimp only at hu); go_simp; try with_reducible rfl)
                    simp only [Act.put, List.setIfInBounds_toArray, List.set_cons_zero, List.set_cons_succ]
                    refine handTake 37 (some 94) ?_ rfl rfl (by kernel_rfl) (by kernel_rfl) (by kernel_rfl) (fun _ _ _ h => h) (by rfl) ?_ HS ?_
                    rotate_left
                    · (intro u hu; (try dsimp only at hu); go_simp; try with_reducible rfl)
                    simp only [Act.put, List.setIfInBounds_toArray, List.set_cons_zero, List.set_cons_succ]
                    refine wpAnyH_done (by kernel_rfl) ?_ _
                    clear HS
                    clear SC6 c3 c4 c5
                    go_wp2_with fail
                    go_loopw [10] (fun i wr => ∃ (s : Int), -1 ≤ s ∧ s ≤ (N : Int) + 1 ∧ i = .int .i64 s ∧ Sep W (dI W.heap.size b pv wv5 d ++ (mI W.heap.size g sv mv lv (.slice zA WL zc) m6 ++ [])) wr) (fun i _ => ((N : Int) + 1 - intOf i).toNat)
                    case atStart => exact ⟨-1, by omega, by omega, rfl, HS6.out⟩
                    case round =>
                      obtain ⟨s, hs0, hs1, rfl, hs⟩ := hrel
                      have HS7 := Lib.hid hs
                      clear hs HS6
                      by_cases hsN : s ≤ (N : Int)
                      · have T := Lib.hid (TL.out s _ HS7.out)
                        go_wp2_with fail
                        refine T.out.mono ?_
                        rintro e u7 ⟨rfl, hs⟩
                        have HS8 := Lib.hid hs
                        clear hs T HS7
                        go_wp2_with fail
                        go_roundw
                        case rel => exact ⟨s + 1, by omega, by omega, by go_num, HS8.out⟩
                        case measure => show ((N : Int) + 1 - (s + 1)).toNat < ((N : Int) + 1 - s).toNat; omega
                      · clear TL
                        go_wp2_with fail
                        go_roundw
                        case rel => exact ⟨k + 1, wv5, _, m6, by omega, by go_num, by rw [← HD.out]; exact HRN.out, by rw [← HD.out]; exact HR6.out, by rw [← HD.out]; exact HS7.out⟩
                        case measure => show M - ((k : Int) + 1).toNat < M - (k : Int).toNat; omega
                  refine AllReadyH.cons rfl (fun K hK => ?_) ?_
                  · clear HS
                    go_simp
                    refine hK.out _ _ (SC6.out) (fun HS => ?_)
                    clear hK
                    try simp only [Act.put, List.setIfInBounds_toArray, List.set_cons_zero, List.set_cons_succ]
                    refine wpAnyH_ready (rs := [25]) (by kernel_rfl) (by simp) ?_
                    refine AllReadyH.cons rfl (fun K hK => ?_) AllReadyH.nil
                    go_simp
                    clear HS
                    refine UP.out.mono ?_
                    rintro e u9 ⟨rfl, rfl⟩
                    clear UP
                    go_wp2_with fail
                    refine hK.out _ _ (SC6.out) (fun HS => ?_)
                    clear hK
                    try simp only [Act.put, List.setIfInBounds_toArray, List.set_cons_zero, List.set_cons_succ]
                    refine handTake 30 (some 87) ?_ rfl rfl (by kernel_rfl) (by kernel_rfl) (by kernel_rfl) (fun _ _ _ h => h) (by rfl) ?_ HS ?_
                    rotate_left
                    · (intro u hu; (try dsimp only at hu); go_simp; try with_reducible rfl)
                    simp only [Act.put, List.setIfInBounds_toArray, List.set_cons_zero, List.set_cons_succ]
                    refine handTake 31 (some 88) ?_ rfl rfl (by kernel_rfl) (by kernel_rfl) (by kernel_rfl) (fun _ _ _ h => h) (by rfl) ?_ HS ?_
                    rotate_left
                    · (intro u hu; (try dsimp only at hu); go_simp; try with_reducible rfl)
                    simp only [Act.put, List.setIfInBounds_toArray, List.set_cons_zero, List.set_cons_succ]
                    refine handTake 32 (some 89) ?_ rfl rfl (by kernel_rfl) (by kernel_rfl) (by kernel_rfl) (fun _ _ _ h => h) (by rfl) ?_ HS ?_
                    rotate_left
                    · (intro u hu; (try dsimp only at hu); go_simp; try with_reducible rfl)
                    simp only [Act.put, List.setIfInBounds_toArray, List.set_cons_zero, List.set_cons_succ]
                    refine handTake 33 (some 90) ?_ rfl rfl (by kernel_rfl) (by kernel_rfl) (by kernel_rfl) (fun _ _ _ h => h) (by rfl) ?_ HS ?_
                    rotate_left
                    · (intro u hu; (try dsimp only at hu); go_simp; try with_reducible rfl)
                    simp only [Act.put, List.setIfInBounds_toArray, List.set_cons_zero, List.set_cons_succ]
                    refine wpAnyH_ready (rs := [34]) (by kernel_rfl) (by simp) ?_
                    refine AllReadyH.cons rfl (fun K hK => ?_) AllReadyH.nil
                    clear HS
                    go_simp
                    refine hK.out _ _ (SC6.out) (fun HS => ?_)
                    clear hK
                    try simp only [Act.put, List.setIfInBounds_toArray, List.set_cons_zero, List.set_cons_succ]
                    refine handTake 35 (some 92) ?_ rfl rfl (by kernel_rfl) (by kernel_rfl) (by kernel_rfl) (fun _ _ _ h => h) (by rfl) ?_ HS ?_
                    rotate_left
                    · (intro u hu; (try dsimp only at hu); go_simp; try with_reducible rfl)
                    simp only [Act.put, List.setIfInBounds_toArray, List.set_cons_zero, List.set_cons_succ]
                    refine handTake 36 (some 93) ?_ rfl rfl (by kernel_rfl) (by kernel_rfl) (by kernel_rfl) (fun _ _ _ h => h) (by rfl) ?_ HS ?_
                    rotate_left
                    · (intro u hu; (try dsimp only at hu); go_simp; try with_reducible rfl)
                    simp only [Act.put, List.setIfInBounds_toArray, List.set_cons_zero, List.set_cons_succ]
                    refine handTake 37 (some 94) ?_ rfl rfl (by kernel_rfl) (by kernel_rfl) (by kernel_rfl) (fun _ _ _ h => h) (by rfl) ?_ HS ?_
                    rotate_left
                    · (intro u hu; (try dsimp only at hu); go_simp; try with_reducible rfl)
                    simp only [Act.put, List.setIfInBounds_toArray, List.set_cons_zero, List.set_cons_succ]
                    refine wpAnyH_done (by kernel_rfl) ?_ _
                    clear HS
                    clear SC6 c3 c4 c5
                    go_wp2_with fail
                    go_loopw [10] (fun i wr => ∃ (s : Int), -1 ≤ s ∧ s ≤ (N : Int) + 1 ∧ i = .int .i64 s ∧ Sep W (dI W.heap.size b pv wv5 d ++ (mI W.heap.size g sv mv lv (.slice zA WL zc) m6 ++ [])) wr) (fun i _ => ((N : Int) + 1 - intOf i).toNat)
                    case atStart => exact ⟨-1, by omega, by omega, rfl, HS6.out⟩
                    case round =>
                      obtain ⟨s, hs0, hs1, rfl, hs⟩ := hrel
                      have HS7 := Lib.hid hs
                      clear hs HS6
                      by_cases hsN : s ≤ (N : Int)
                      · have T := Lib.hid (TL.out s _ HS7.out)
                        go_wp2_with fail
                        refine T.out.mono ?_
                        rintro e u7 ⟨rfl, hs⟩
                        have HS8 := Lib.hid hs
                        clear hs T HS7
                        go_wp2_with fail
                        go_roundw
                        case rel => exact ⟨s + 1, by omega, by omega, by go_num, HS8.out⟩
                        case measure => show ((N : Int) + 1 - (s + 1)).toNat < ((N : Int) + 1 - s).toNat; omega
                      · clear TL
                        go_wp2_with fail
                        go_roundw
                        case rel => exact ⟨k + 1, wv5, _, m6, by omega, by go_num, by rw [← HD.out]; exact HRN.out, by rw [← HD.out]; exact HR6.out, by rw [← HD.out]; exact HS7.out⟩
                        case measure => show M - ((k : Int) + 1).toNat < M - (k : Int).toNat; omega
                  exact AllReadyH.nil
                exact AllReadyH.nil
            · have HDN := Lib.hid hdn; clear hdn
              have HUP : Hid (d.up = false) := by show d.up = false; unfold Dk.up; rw [HDN.out]; rfl
              have HSD := Lib.hid HS0.out.drew
              have SD := Lib.hid (HCELL.out _ HSD.out.below)
              refine wp_region_held_drew (S := (fun u : World => u.cell? ⟨b2, o2 + k * 5, none⟩ = some (.int .u8 (kd : Nat)) ∧ u.cell? ⟨b2, o2 + k * 5 + 1, none⟩ = some (.int .i64 sc) ∧ u.cell? ⟨b2, o2 + k * 5 + 2, none⟩ = some (.int .i64 nn) ∧ u.cell? ⟨b2, o2 + k * 5 + 3, none⟩ = some (bv) ∧ u.cell? ⟨b2, o2 + k * 5 + 4, none⟩ = some (kv))) (by kernel_rfl) (SD.out) (fun HS => ?_)
              refine handTake 0 (some 57) ?_ rfl rfl (by kernel_rfl) (by kernel_rfl) (by kernel_rfl) (fun _ _ _ h => h) (by rfl) ?_ HS ?_
              rotate_left
              · (intro u hu; (try dsimp only at hu); go_simp; try with_reducible rfl)
              simp only [Act.put, List.setIfInBounds_toArray, List.set_cons_zero, List.set_cons_succ]
              refine handTake 1 (some 58) ?_ rfl rfl (by kernel_rfl) (by kernel_rfl) (by kernel_rfl) (fun _ _ _ h => h) (by rfl) ?_ HS ?_
              rotate_left
              · (intro u hu; (try dsimp only at hu); go_simp; try with_reducible rfl)
              simp only [Act.put, List.setIfInBounds_toArray, List.set_cons_zero, List.set_cons_succ]
              refine handTake 2 (some 59) ?_ rfl rfl (by kernel_rfl) (by kernel_rfl) (by kernel_rfl) (fun _ _ _ h => h) (by rfl) ?_ HS ?_
              rotate_left
              · (intro u hu; (try dsimp only at hu); go_simp; try with_reducible rfl)
              simp only [Act.put, List.setIfInBounds_toArray, List.set_cons_zero, List.set_cons_succ]
              refine handTake 3 (some 60) ?_ rfl rfl (by kernel_rfl) (by kernel_rfl) (by kernel_rfl) (fun _ _ _ h => h) (by rfl) ?_ HS ?_
              rotate_left
              · (intro u hu; (try dsimp only at hu); go_simp; try with_reducible rfl)
              simp only [Act.put, List.setIfInBounds_toArray, List.set_cons_zero, List.set_cons_succ]
              refine handTake 4 (some 61) ?_ rfl rfl (by kernel_rfl) (by kernel_rfl) (by kernel_rfl) (fun _ _ _ h => h) (by rfl) ?_ HS ?_
              rotate_left
              · (intro u hu; (try dsimp only at hu); go_simp; try with_reducible rfl)
              simp only [Act.put, List.setIfInBounds_toArray, List.set_cons_zero, List.set_cons_succ]
              refine handTake 6 (some 63) ?_ rfl rfl (by kernel_rfl) (by kernel_rfl) (by kernel_rfl) (fun _ _ _ h => h) (by rfl) ?_ HS ?_
              rotate_left
              · (intro u hu; (try dsimp only at hu); go_simp; try with_reducible rfl)
              simp only [Act.put, List.setIfInBounds_toArray, List.set_cons_zero, List.set_cons_succ]
              refine handTake 7 (some 64) ?_ rfl rfl (by kernel_rfl) (by kernel_rfl) (by kernel_rfl) (fun _ _ _ h => h) (by rfl) ?_ HS ?_
              rotate_left
              · (intro u hu; (try dsimp only at hu); go_simp; try with_reducible rfl)
              simp only [Act.put, List.setIfInBounds_toArray, List.set_cons_zero, List.set_cons_succ]
              refine handTake 8 (some 65) ?_ rfl rfl (by kernel_rfl) (by kernel_rfl) (by kernel_rfl) (fun _ _ _ h => h) (by rfl) ?_ HS ?_
              rotate_left
              · (intro u hu; (try dsimp only at hu); go_simp; try with_reducible rfl)
              simp only [Act.put, List.setIfInBounds_toArray, List.set_cons_zero, List.set_cons_succ]
              refine handTake 9 (some 66) ?_ rfl rfl (by kernel_rfl) (by kernel_rfl) (by kernel_rfl) (fun _ _ _ h => h) (by rfl) ?_ HS ?_
              rotate_left
              · (intro u hu; (try dsimp only at hu); go_simp; try with_reducible rfl)
              simp only [Act.put, List.setIfInBounds_toArray, List.set_cons_zero, List.set_cons_succ]
              refine handTake 10 (some 67) ?_ rfl rfl (by kernel_rfl) (by kernel_rfl) (by kernel_rfl) (fun _ _ _ h => h) (by rfl) ?_ HS ?_
              rotate_left
              · (intro u hu; (try dsimp only at hu); go_simp; try with_reducible rfl)
              simp only [Act.put, List.setIfInBounds_toArray, List.set_cons_zero, List.set_cons_succ]
              refine wpAnyH_ready (rs := [5]) (by kernel_rfl) (by simp) ?_
              refine AllReadyH.cons rfl (fun K hK => ?_) AllReadyH.nil
              go_simp
              clear HS
              refine (C1.out _ HSD.out).mono ?_
              rintro e u5 ⟨rfl, wv5, hs⟩
              have HS5 := Lib.hid hs
              have SC5 := Lib.hid (HCELL.out _ hs.below)
              clear hs C1 HSD SD
              go_wp2_with fail
              refine hK.out _ _ (SC5.out) (fun HS => ?_)
              clear hK
              try simp only [Act.put, List.setIfInBounds_toArray, List.set_cons_zero, List.set_cons_succ]
              refine wpAnyH_ready (rs := [11]) (by kernel_rfl) (by simp) ?_
              refine AllReadyH.cons rfl (fun K hK => ?_) AllReadyH.nil
              go_simp
              clear HS
              refine (C2.out _ _ HS5.out.midSwap).mono ?_
              rintro e u6 ⟨rfl, zv6, m6, hr6, hs⟩
              obtain ⟨zA, zc, hzv, _, _⟩ := (Row.of_own (mI_waits hs)).slice
              subst hzv
              rw [hr6.lw] at hs
              have HS6 := Lib.hid hs.midSwap
              have hbx := mI_box hs
              have c3 := hbx.cell 3; have c4 := hbx.cell 4; have c5 := hbx.cell 5
              simp only [mdC, List.getElem?_cons_zero, List.getElem?_cons_succ] at c3 c4 c5
              rw [hr6.down, HDN.out] at c4
              clear c5
              have HR6 := Lib.hid hr6
              have WT := waits_is d HRN.out.ok b pv wv5 u6 HS6.out
              have UP := up_is d HRN.out.ok b pv wv5 u6 HS6.out
              rw [HUP.out] at UP
              have TL := Lib.hid (fun (s : Int) (u : World) hs => tells_is d HRN.out.ok (by have := HRN.out.few; omega) m6 hr6 s b pv wv5 g sv mv lv (.slice zA d.waits.length zc) (w0 := W) (l := []) u hs)
              have SC6 := Lib.hid (HCELL.out _ hs.below)
              generalize d.waits.length = WL at *
              have UP := Lib.hid UP; have WT := Lib.hid WT
              clear hs hbx C2 HS5 SC5 hr6
              go_wp2_with fail
              refine hK.out _ _ (SC6.out) (fun HS => ?_)
              clear hK
              try simp only [Act.put, List.setIfInBounds_toArray, List.set_cons_zero, List.set_cons_succ]
              refine handTake 12 (some 69) ?_ rfl rfl (by kernel_rfl) (by kernel_rfl) (by kernel_rfl) (fun _ _ _ h => h) (by rfl) ?_ HS ?_
              rotate_left
              · (intro u hu; (try dsimp only at hu); go_simp; try with_reducible rfl)
              simp only [Act.put, List.setIfInBounds_toArray, List.set_cons_zero, List.set_cons_succ]
              refine handTake 13 (some 70) ?_ rfl rfl (by kernel_rfl) (by kernel_rfl) (by kernel_rfl) (fun _ _ _ h => h) (by rfl) ?_ HS ?_
              rotate_left
              · (intro u hu; (try dsimp only at hu); go_simp; try with_reducible rfl)
              simp only [Act.put, List.setIfInBounds_toArray, List.set_cons_zero, List.set_cons_succ]
              refine handTake 14 (some 71) ?_ rfl rfl (by kernel_rfl) (by kernel_rfl) (by kernel_rfl) (fun _ _ _ h => h) (by rfl) ?_ HS ?_
              rotate_left
              · (intro u hu; (try dsimp only at hu); go_simp; try with_reducible rfl)
              simp only [Act.put, List.setIfInBounds_toArray, List.set_cons_zero, List.set_cons_succ]
              refine handTake 16 (some 73) ?_ rfl rfl (by kernel_rfl) (by kernel_rfl) (by kernel_rfl) (fun _ _ _ h => h) (by rfl) ?_ HS ?_
              rotate_left
              · (intro u hu; (try dsimp only at hu); go_simp; try with_reducible rfl)
              simp only [Act.put, List.setIfInBounds_toArray, List.set_cons_zero, List.set_cons_succ]
              refine handTake 17 (some 74) ?_ rfl rfl (by kernel_rfl) (by kernel_rfl) (by kernel_rfl) (fun _ _ _ h => h) (by rfl) ?_ HS ?_
              rotate_left
              · (intro u hu; (try dsimp only at hu); go_simp; try with_reducible rfl)
              simp only [Act.put, List.setIfInBounds_toArray, List.set_cons_zero, List.set_cons_succ]
              refine handTake 18 (some 75) ?_ rfl rfl (by kernel_rfl) (by kernel_rfl) (by kernel_rfl) (fun _ _ _ h => h) (by rfl) ?_ HS ?_
              rotate_left
              · (intro u hu; (try dsimp only at hu); go_simp; try with_reducible rfl)
              simp only [Act.put, List.setIfInBounds_toArray, List.set_cons_zero, List.set_cons_succ]
              refine wpAnyH_ready (rs := [15, 19]) (by kernel_rfl) (by simp) ?_
              refine AllReadyH.cons rfl (fun K hK => ?_) ?_
              · go_simp
                clear HS
                refine WT.out.mono ?_
                rintro e u9 ⟨rfl, rfl⟩
                clear WT
                go_wp2_with fail
                refine hK.out _ _ (SC6.out) (fun HS => ?_)
                clear hK
                try simp only [Act.put, List.setIfInBounds_toArray, List.set_cons_zero, List.set_cons_succ]
                refine wpAnyH_ready (rs := [19]) (by kernel_rfl) (by simp) ?_
                refine AllReadyH.cons rfl (fun K hK => ?_) AllReadyH.nil
                clear HS
                go_simp
                refine hK.out _ _ (SC6.out) (fun HS => ?_)
                clear hK
                try simp only [Act.put, List.setIfInBounds_toArray, List.set_cons_zero, List.set_cons_succ]
                refine handTake 20 (some 77) ?_ rfl rfl (by kernel_rfl) (by kernel_rfl) (by kernel_rfl) (fun _ _ _ h => h) (by rfl) ?_ HS ?_
                rotate_left
                · (intro u hu; (try dsimp only at hu); go_simp; try with_reducible rfl)
                simp only [Act.put, List.setIfInBounds_toArray, List.set_cons_zero, List.set_cons_succ]
                refine handTake 21 (some 78) ?_ rfl rfl (by kernel_rfl) (by kernel_rfl) (by kernel_rfl) (fun _ _ _ h => h) (by rfl) ?_ HS ?_
                rotate_left
                · (intro u hu; (try dsimp only at hu); go_simp; try with_reducible rfl)
                simp only [Act.put, List.setIfInBounds_toArray, List.set_cons_zero, List.set_cons_succ]
                refine handTake 22 (some 79) ?_ rfl rfl (by kernel_rfl) (by kernel_rfl) (by kernel_rfl) (fun _ _ _ h => h) (by rfl) ?_ HS ?_
                rotate_left
                · (intro u hu; (try dsimp only at hu); go_simp; try with_reducible rfl)
                simp only [Act.put, List.setIfInBounds_toArray, List.set_cons_zero, List.set_cons_succ]
                refine handTake 23 (some 80) ?_ rfl rfl (by kernel_rfl) (by kernel_rfl) (by kernel_rfl) (fun _ _ _ h => h) (by rfl) ?_ HS ?_
                rotate_left
                · (intro u hu; (try dsimp only at hu); go_simp; try with_reducible rfl)
                simp only [Act.put, List.setIfInBounds_toArray, List.set_cons_zero, List.set_cons_succ]
                refine handTake 24 (some 81) ?_ rfl rfl (by kernel_rfl) (by kernel_rfl) (by kernel_rfl) (fun _ _ _ h => h) (by rfl) ?_ HS ?_
                rotate_left
                · (intro u hu; (try dsimp only at hu); go_simp; try with_reducible rfl)
                simp only [Act.put, List.setIfInBounds_toArray, List.set_cons_zero, List.set_cons_succ]
                refine handTake 26 (some 83) ?_ rfl rfl (by kernel_rfl) (by kernel_rfl) (by kernel_rfl) (fun _ _ _ h => h) (by rfl) ?_ HS ?_
                rotate_left
                · (intro u hu; (try dsimp only at hu); go_simp; try with_reducible rfl)
                simp only [Act.put, List.setIfInBounds_toArray, List.set_cons_zero, List.set_cons_succ]
                refine handTake 27 (some 84) ?_ rfl rfl (by kernel_rfl) (by kernel_rfl) (by kernel_rfl) (fun _ _ _ h => h) (by rfl) ?_ HS ?_
                rotate_left
                · (intro u hu; (try dsimp only at hu); go_simp; try with_reducible rfl)
                simp only [Act.put, List.setIfInBounds_toArray, List.set_cons_zero, List.set_cons_succ]
                refine handTake 28 (some 85) ?_ rfl rfl (by kernel_rfl) (by kernel_rfl) (by kernel_rfl) (fun _ _ _ h => h) (by rfl) ?_ HS ?_
                rotate_left
                · (intro u hu; (try dsimp only at hu); go_simp; try with_reducible rfl)
                simp only [Act.put, List.setIfInBounds_toArray, List.set_cons_zero, List.set_cons_succ]
                refine wpAnyH_ready (rs := [25, 29]) (by kernel_rfl) (by simp) ?_
                refine AllReadyH.cons rfl (fun K hK => ?_) ?_
                · go_simp
                  clear HS
                  refine UP.out.mono ?_
                  rintro e u9 ⟨rfl, rfl⟩
                  clear UP
                  go_wp2_with fail
                  refine hK.out _ _ (SC6.out) (fun HS => ?_)
                  clear hK
                  try simp only [Act.put, List.setIfInBounds_toArray, List.set_cons_zero, List.set_cons_succ]
                  refine wpAnyH_ready (rs := [29]) (by kernel_rfl) (by simp) ?_
                  refine AllReadyH.cons rfl (fun K hK => ?_) AllReadyH.nil
                  clear HS
                  go_simp
                  refine hK.out _ _ (SC6.out) (fun HS => ?_)
                  clear hK
                  try simp only [Act.put, List.setIfInBounds_toArray, List.set_cons_zero, List.set_cons_succ]
                  refine handTake 30 (some 87) ?_ rfl rfl (by kernel_rfl) (by kernel_rfl) (by kernel_rfl) (fun _ _ _ h => h) (by rfl) ?_ HS ?_
                  rotate_left
                  · (intro u hu; (try dsimp only at hu); go_simp; try with_reducible rfl)
                  simp only [Act.put, List.setIfInBounds_toArray, List.set_cons_zero, List.set_cons_succ]
                  refine handSkip 31 (some 88) rfl rfl (by kernel_rfl) (by kernel_rfl) (by kernel_rfl) (fun _ _ _ h => h) (by rfl) HS ?_
                  simp only [Act.put, List.setIfInBounds_toArray, List.set_cons_zero, List.set_cons_succ]
                  refine handSkip 32 (some 89) rfl rfl (by kernel_rfl) (by kernel_rfl) (by kernel_rfl) (fun _ _ _ h => h) (by rfl) HS ?_
                  simp only [Act.put, List.setIfInBounds_toArray, List.set_cons_zero, List.set_cons_succ]
                  refine handSkip 33 (some 90) rfl rfl (by kernel_rfl) (by kernel_rfl) (by kernel_rfl) (fun _ _ _ h => h) (by rfl) HS ?_
                  simp only [Act.put, List.setIfInBounds_toArray, List.set_cons_zero, List.set_cons_succ]
                  refine handSkip 34 (some 91) rfl rfl (by kernel_rfl) (by kernel_rfl) (by kernel_rfl) (fun _ _ _ h => h) (by rfl) HS ?_
                  simp only [Act.put, List.setIfInBounds_toArray, List.set_cons_zero, List.set_cons_succ]
                  refine handTake 35 (some 92) ?_ rfl rfl (by kernel_rfl) (by kernel_rfl) (by kernel_rfl) (fun _ _ _ h => h) (by rfl) ?_ HS ?_
                  rotate_left
                  · (intro u hu; (try dsimp only at hu); go_simp; try with_reducible rfl)
                  simp only [Act.put, List.setIfInBounds_toArray, List.set_cons_zero, List.set_cons_succ]
                  refine handTake 36 (some 93) ?_ rfl rfl (by kernel_rfl) (by kernel_rfl) (by kernel_rfl) (fun _ _ _ h => h) (by rfl) ?_ HS ?_
                  rotate_left
                  · (intro u hu; (try dsimp only at hu); go_simp; try with_reducible rfl)
                  simp only [Act.put, List.setIfInBounds_toArray, List.set_cons_zero, List.set_cons_succ]
                  refine handTake 37 (some 94) ?_ rfl rfl (by kernel_rfl) (by kernel_rfl) (by kernel_rfl) (fun _ _ _ h => h) (by rfl) ?_ HS ?_
                  rotate_left
                  · (intro u hu; (try dsimp only at hu); go_simp; try with_reducible rfl)
                  simp only [Act.put, List.setIfInBounds_toArray, List.set_cons_zero, List.set_cons_succ]
                  refine wpAnyH_done (by kernel_rfl) ?_ _
                  clear HS
                  clear SC6 c3 c4
                  go_wp2_with fail
                  go_loopw [10] (fun i wr => ∃ (s : Int), -1 ≤ s ∧ s ≤ (N : Int) + 1 ∧ i = .int .i64 s ∧ Sep W (dI W.heap.size b pv wv5 d ++ (mI W.heap.size g sv mv lv (.slice zA WL zc) m6 ++ [])) wr) (fun i _ => ((N : Int) + 1 - intOf i).toNat)
                  case atStart => exact ⟨-1, by omega, by omega, rfl, HS6.out⟩
                  case round =>
                    obtain ⟨s, hs0, hs1, rfl, hs⟩ := hrel
                    have HS7 := Lib.hid hs
                    clear hs HS6
                    by_cases hsN : s ≤ (N : Int)
                    · have T := Lib.hid (TL.out s _ HS7.out)
                      go_wp2_with fail
                      refine T.out.mono ?_
                      rintro e u7 ⟨rfl, hs⟩
                      have HS8 := Lib.hid hs
                      clear hs T HS7
                      go_wp2_with fail
                      go_roundw
                      case rel => exact ⟨s + 1, by omega, by omega, by go_num, HS8.out⟩
                      case measure => show ((N : Int) + 1 - (s + 1)).toNat < ((N : Int) + 1 - s).toNat; omega
                    · clear TL
                      go_wp2_with fail
                      go_roundw
                      case rel => exact ⟨k + 1, wv5, _, m6, by omega, by go_num, by rw [← HD.out]; exact HRN.out, by rw [← HD.out]; exact HR6.out, by rw [← HD.out]; exact HS7.out⟩
                      case measure => show M - ((k : Int) + 1).toNat < M - (k : Int).toNat; omega
                refine AllReadyH.cons rfl (fun K hK => ?_) ?_
                · clear HS
                  go_simp
                  refine hK.out _ _ (SC6.out) (fun HS => ?_)
                  clear hK
                  try simp only [Act.put, List.setIfInBounds_toArray, List.set_cons_zero, List.set_cons_succ]
                  refine wpAnyH_ready (rs := [25]) (by kernel_rfl) (by simp) ?_
                  refine AllReadyH.cons rfl (fun K hK => ?_) AllReadyH.nil
                  go_simp
                  clear HS
                  refine UP.out.mono ?_
                  rintro e u9 ⟨rfl, rfl⟩
                  clear UP
                  go_wp2_with fail
                  refine hK.out _ _ (SC6.out) (fun HS => ?_)
                  clear hK
                  try simp only [Act.put, List.setIfInBounds_toArray, List.set_cons_zero, List.set_cons_succ]
                  refine handTake 30 (some 87) ?_ rfl rfl (by kernel_rfl) (by kernel_rfl) (by kernel_rfl) (fun _ _ _ h => h) (by rfl) ?_ HS ?_
                  rotate_left
                  · (intro u hu; (try dsimp only at hu); go_simp; try with_reducible rfl)
                  simp only [Act.put, List.setIfInBounds_toArray, List.set_cons_zero, List.set_cons_succ]
                  refine handSkip 31 (some 88) rfl rfl (by kernel_rfl) (by kernel_rfl) (by kernel_rfl) (fun _ _ _ h => h) (by rfl) HS ?_
                  simp only [Act.put, List.setIfInBounds_toArray, List.set_cons_zero, List.set_cons_succ]
                  refine handSkip 32 (some 89) rfl rfl (by kernel_rfl) (by kernel_rfl) (by kernel_rfl) (fun _ _ _ h => h) (by rfl) HS ?_
                  simp only [Act.put, List.setIfInBounds_toArray, List.set_cons_zero, List.set_cons_succ]
                  refine handSkip 33 (some 90) rfl rfl (by kernel_rfl) (by kernel_rfl) (by kernel_rfl) (fun _ _ _ h => h) (by rfl) HS ?_
                  simp only [Act.put, List.setIfInBounds_toArray, List.set_cons_zero, List.set_cons_succ]
                  refine handSkip 34 (some 91) rfl rfl (by kernel_rfl) (by kernel_rfl) (by kernel_rfl) (fun _ _ _ h => h) (by rfl) HS ?_
                  simp only [Act.put, List.setIfInBounds_toArray, List.set_cons_zero, List.set_cons_succ]
                  refine handTake 35 (some 92) ?_ rfl rfl (by kernel_rfl) (by kernel_rfl) (by kernel_rfl) (fun _ _ _ h => h) (by rfl) ?_ HS ?_
                  rotate_left
                  · (intro u hu; (try dsimp only at hu); go_simp; try with_reducible rfl)
                  simp only [Act.put, List.setIfInBounds_toArray, List.set_cons_zero, List.set_cons_succ]
                  refine handTake 36 (some 93) ?_ rfl rfl (by kernel_rfl) (by kernel_rfl) (by kernel_rfl) (fun _ _ _ h => h) (by rfl) ?_ HS ?_
                  rotate_left
                  · (intro u hu; (try dsimp only at hu); go_simp; try with_reducible rfl)
                  simp only [Act.put, List.setIfInBounds_toArray, List.set_cons_zero, List.set_cons_succ]
                  refine handTake 37 (some 94) ?_ rfl rfl (by kernel_rfl) (by kernel_rfl) (by kernel_rfl) (fun _ _ _ h => h) (by rfl) ?_ HS ?_
                  rotate_left
                  · (intro u hu; (try dsimp only at hu); go_simp; try with_reducible rfl)
                  simp only [Act.put, List.setIfInBounds_toArray, List.set_cons_zero, List.set_cons_succ]
                  refine wpAnyH_done (by kernel_rfl) ?_ _
                  clear HS
                  clear SC6 c3 c4
                  go_wp2_with fail
                  go_loopw [10] (fun i wr => ∃ (s : Int), -1 ≤ s ∧ s ≤ (N : Int) + 1 ∧ i = .int .i64 s ∧ Sep W (dI W.heap.size b pv wv5 d ++ (mI W.heap.size g sv mv lv (.slice zA WL zc) m6 ++ [])) wr) (fun i _ => ((N : Int) + 1 - intOf i).toNat)
                  case atStart => exact ⟨-1, by omega, by omega, rfl, HS6.out⟩
                  case round =>
                    obtain ⟨s, hs0, hs1, rfl, hs⟩ := hrel
                    have HS7 := Lib.hid hs
                    clear hs HS6
                    by_cases hsN : s ≤ (N : Int)
                    · have T := Lib.hid (TL.out s _ HS7.out)
                      go_wp2_with fail
                      refine T.out.mono ?_
                      rintro e u7 ⟨rfl, hs⟩
                      have HS8 := Lib.hid hs
                      clear hs T HS7
                      go_wp2_with fail
                      go_roundw
                      case rel => exact ⟨s + 1, by omega, by omega, by go_num, HS8.out⟩
                      case measure => show ((N : Int) + 1 - (s + 1)).toNat < ((N : Int) + 1 - s).toNat; omega
                    · clear TL
                      go_wp2_with fail
                      go_roundw
                      case rel => exact ⟨k + 1, wv5, _, m6, by omega, by go_num, by rw [← HD.out]; exact HRN.out, by rw [← HD.out]; exact HR6.out, by rw [← HD.out]; exact HS7.out⟩
                      case measure => show M - ((k : Int) + 1).toNat < M - (k : Int).toNat; omega
                exact AllReadyH.nil
              refine AllReadyH.cons rfl (fun K hK => ?_) ?_
              · clear HS
                go_simp
                refine hK.out _ _ (SC6.out) (fun HS => ?_)
                clear hK
                try simp only [Act.put, List.setIfInBounds_toArray, List.set_cons_zero, List.set_cons_succ]
                refine handTake 20 (some 77) ?_ rfl rfl (by kernel_rfl) (by kernel_rfl) (by kernel_rfl) (fun _ _ _ h => h) (by rfl) ?_ HS ?_
                rotate_left
                · (intro u hu; (try dsimp only at hu); go_simp; try with_reducible rfl)
                simp only [Act.put, List.setIfInBounds_toArray, List.set_cons_zero, List.set_cons_succ]
                refine wpAnyH_ready (rs := [15]) (by kernel_rfl) (by simp) ?_
                refine AllReadyH.cons rfl (fun K hK => ?_) AllReadyH.nil
                go_simp
                clear HS
                refine WT.out.mono ?_
                rintro e u9 ⟨rfl, rfl⟩
                clear WT
                go_wp2_with fail
                refine hK.out _ _ (SC6.out) (fun HS => ?_)
                clear hK
                try simp only [Act.put, List.setIfInBounds_toArray, List.set_cons_zero, List.set_cons_succ]
                refine handTake 21 (some 78) ?_ rfl rfl (by kernel_rfl) (by kernel_rfl) (by kernel_rfl) (fun _ _ _ h => h) (by rfl) ?_ HS ?_
                rotate_left
                · (intro u hu; (try dsimp only at hu); go_simp; try with_reducible rfl)
                simp only [Act.put, List.setIfInBounds_toArray, List.set_cons_zero, List.set_cons_succ]
                refine handTake 22 (some 79) ?_ rfl rfl (by kernel_rfl) (by kernel_rfl) (by kernel_rfl) (fun _ _ _ h => h) (by rfl) ?_ HS ?_
                rotate_left
                · (intro u hu; (try dsimp only at hu); go_simp; try with_reducible rfl)
                simp only [Act.put, List.setIfInBounds_toArray, List.set_cons_zero, List.set_cons_succ]
                refine handTake 23 (some 80) ?_ rfl rfl (by kernel_rfl) (by kernel_rfl) (by kernel_rfl) (fun _ _ _ h => h) (by rfl) ?_ HS ?_
                rotate_left
                · (intro u hu; (try dsimp only at hu); go_simp; try with_reducible rfl)
                simp only [Act.put, List.setIfInBounds_toArray, List.set_cons_zero, List.set_cons_succ]
                refine handTake 24 (some 81) ?_ rfl rfl (by kernel_rfl) (by kernel_rfl) (by kernel_rfl) (fun _ _ _ h => h) (by rfl) ?_ HS ?_
                rotate_left
                · (intro u hu; (try dsimp only at hu); go_simp; try with_reducible rfl)
                simp only [Act.put, List.setIfInBounds_toArray, List.set_cons_zero, List.set_cons_succ]
                refine handTake 26 (some 83) ?_ rfl rfl (by kernel_rfl) (by kernel_rfl) (by kernel_rfl) (fun _ _ _ h => h) (by rfl) ?_ HS ?_
                rotate_left
                · (intro u hu; (try dsimp only at hu); go_simp; try with_reducible rfl)
                simp only [Act.put, List.setIfInBounds_toArray, List.set_cons_zero, List.set_cons_succ]
                refine handTake 27 (some 84) ?_ rfl rfl (by kernel_rfl) (by kernel_rfl) (by kernel_rfl) (fun _ _ _ h => h) (by rfl) ?_ HS ?_
                rotate_left
                · (intro u hu; (try dsimp only at hu); go_simp; try with_reducible rfl)
                simp only [Act.put, List.setIfInBounds_toArray, List.set_cons_zero, List.set_cons_succ]
                refine handTake 28 (some 85) ?_ rfl rfl (by kernel_rfl) (by kernel_rfl) (by kernel_rfl) (fun _ _ _ h => h) (by rfl) ?_ HS ?_
                rotate_left
                · (intro u hu; (try dsimp only at hu); go_simp; try with_reducible rfl)
                simp only [Act.put, List.setIfInBounds_toArray, List.set_cons_zero, List.set_cons_succ]
                refine wpAnyH_ready (rs := [25, 29]) (by kernel_rfl) (by simp) ?_
                refine AllReadyH.cons rfl (fun K hK => ?_) ?_
                · go_simp
                  clear HS
                  refine UP.out.mono ?_
                  rintro e u9 ⟨rfl, rfl⟩
                  clear UP
                  go_wp2_with fail
                  refine hK.out _ _ (SC6.out) (fun HS => ?_)
                  clear hK
                  try simp only [Act.put, List.setIfInBounds_toArray, List.set_cons_zero, List.set_cons_succ]
                  refine wpAnyH_ready (rs := [29]) (by kernel_rfl) (by simp) ?_
                  refine AllReadyH.cons rfl (fun K hK => ?_) AllReadyH.nil
                  clear HS
                  go_simp
                  refine hK.out _ _ (SC6.out) (fun HS => ?_)
                  clear hK
                  try simp only [Act.put, List.setIfInBounds_toArray, List.set_cons_zero, List.set_cons_succ]
                  refine handTake 30 (some 87) ?_ rfl rfl (by kernel_rfl) (by kernel_rfl) (by kernel_rfl) (fun _ _ _ h => h) (by rfl) ?_ HS ?_
                  rotate_left
                  · (intro u hu; (try dsimp only at hu); go_simp; try with_reducible rfl)
                  simp only [Act.put, List.setIfInBounds_toArray, List.set_cons_zero, List.set_cons_succ]
                  refine handSkip 31 (some 88) rfl rfl (by kernel_rfl) (by kernel_rfl) (by kernel_rfl) (fun _ _ _ h => h) (by rfl) HS ?_
                  simp only [Act.put, List.setIfInBounds_toArray, List.set_cons_zero, List.set_cons_succ]
                  refine handSkip 32 (some 89) rfl rfl (by kernel_rfl) (by kernel_rfl) (by kernel_rfl) (fun _ _ _ h => h) (by rfl) HS ?_
                  simp only [Act.put, List.setIfInBounds_toArray, List.set_cons_zero, List.set_cons_succ]
                  refine handSkip 33 (some 90) rfl rfl (by kernel_rfl) (by kernel_rfl) (by kernel_rfl) (fun _ _ _ h => h) (by rfl) HS ?_
                  simp only [Act.put, List.setIfInBounds_toArray, List.set_cons_zero, List.set_cons_succ]
                  refine handSkip 34 (some 91) rfl rfl (by kernel_rfl) (by kernel_rfl) (by kernel_rfl) (fun _ _ _ h => h) (by rfl) HS ?_
                  simp only [Act.put, List.setIfInBounds_toArray, List.set_cons_zero, List.set_cons_succ]
                  refine handTake 35 (some 92) ?_ rfl rfl (by kernel_rfl) (by kernel_rfl) (by kernel_rfl) (fun _ _ _ h => h) (by rfl) ?_ HS ?_
                  rotate_left
                  · (intro u hu; (try dsimp only at hu); go_simp; try with_reducible rfl)
                  simp only [Act.put, List.setIfInBounds_toArray, List.set_cons_zero, List.set_cons_succ]
                  refine handTake 36 (some 93) ?_ rfl rfl (by kernel_rfl) (by kernel_rfl) (by kernel_rfl) (fun _ _ _ h => h) (by rfl) ?_ HS ?_
                  rotate_left
                  · (intro u hu; (try dsimp only at hu); go_simp; try with_reducible rfl)
                  simp only [Act.put, List.setIfInBounds_toArray, List.set_cons_zero, List.set_cons_succ]
                  refine handTake 37 (some 94) ?_ rfl rfl (by kernel_rfl) (by kernel_rfl) (by kernel_rfl) (fun _ _ _ h => h) (by rfl) ?_ HS ?_
                  rotate_left
                  · (intro u hu; (try dsimp only at hu); go_simp; try with_reducible rfl)
                  simp only [Act.put, List.setIfInBounds_toArray, List.set_cons_zero, List.set_cons_succ]
                  refine wpAnyH_done (by kernel_rfl) ?_ _
                  clear HS
                  clear SC6 c3 c4
                  go_wp2_with fail
                  go_loopw [10] (fun i wr => ∃ (s : Int), -1 ≤ s ∧ s ≤ (N : Int) + 1 ∧ i = .int .i64 s ∧ Sep W (dI W.heap.size b pv wv5 d ++ (mI W.heap.size g sv mv lv (.slice zA WL zc) m6 ++ [])) wr) (fun i _ => ((N : Int) + 1 - intOf i).toNat)
                  case atStart => exact ⟨-1, by omega, by omega, rfl, HS6.out⟩
                  case round =>
                    obtain ⟨s, hs0, hs1, rfl, hs⟩ := hrel
                    have HS7 := Lib.hid hs
                    clear hs HS6
                    by_cases hsN : s ≤ (N : Int)
                    · have T := Lib.hid (TL.out s _ HS7.out)
                      go_wp2_with fail
                      refine T.out.mono ?_
                      rintro e u7 ⟨rfl, hs⟩
                      have HS8 := Lib.hid hs
                      clear hs T HS7
                      go_wp2_with fail
                      go_roundw
                      case rel => exact ⟨s + 1, by omega, by omega, by go_num, HS8.out⟩
                      case measure => show ((N : Int) + 1 - (s + 1)).toNat < ((N : Int) + 1 - s).toNat; omega
                    · clear TL
                      go_wp2_with fail
                      go_roundw
                      case rel => exact ⟨k + 1, wv5, _, m6, by omega, by go_num, by rw [← HD.out]; exact HRN.out, by rw [← HD.out]; exact HR6.out, by rw [← HD.out]; exact HS7.out⟩
                      case measure => show M - ((k : Int) + 1).toNat < M - (k : Int).toNat; omega
                refine AllReadyH.cons rfl (fun K hK => ?_) ?_
                · clear HS
                  go_simp
                  refine hK.out _ _ (SC6.out) (fun HS => ?_)
                  clear hK
                  try simp only [Act.put, List.setIfInBounds_toArray, List.set_cons_zero, List.set_cons_succ]
                  refine wpAnyH_ready (rs := [25]) (by kernel_rfl) (by simp) ?_
                  refine AllReadyH.cons rfl (fun K hK => ?_) AllReadyH.nil
                  go_simp
                  clear HS
                  refine UP.out.mono ?_
                  rintro e u9 ⟨rfl, rfl⟩
                  clear UP
                  go_wp2_with fail
                  refine hK.out _ _ (SC6.out) (fun HS => ?_)
                  clear hK
                  try simp only [Act.put, List.setIfInBounds_toArray, List.set_cons_zero, List.set_cons_succ]
                  refine handTake 30 (some 87) ?_ rfl rfl (by kernel_rfl) (by kernel_rfl) (by kernel_rfl) (fun _ _ _ h => h) (by rfl) ?_ HS ?_
                  rotate_left
                  · (intro u hu; (try dsimp only at hu); go_simp; try with_reducible rfl)
                  simp only [Act.put, List.setIfInBounds_toArray, List.set_cons_zero, List.set_cons_succ]
                  refine handSkip 31 (some 88) rfl rfl (by kernel_rfl) (by kernel_rfl) (by kernel_rfl) (fun _ _ _ h => h) (by rfl) HS ?_
                  simp only [Act.put, List.setIfInBounds_toArray, List.set_cons_zero, List.set_cons_succ]
                  refine handSkip 32 (some 89) rfl rfl (by kernel_rfl) (by kernel_rfl) (by kernel_rfl) (fun _ _ _ h => h) (by rfl) HS ?_
                  simp only [Act.put, List.setIfInBounds_toArray, List.set_cons_zero, List.set_cons_succ]
                  refine handSkip 33 (some 90) rfl rfl (by kernel_rfl) (by kernel_rfl) (by kernel_rfl) (fun _ _ _ h => h) (by rfl) HS ?_
                  simp only [Act.put, List.setIfInBounds_toArray, List.set_cons_zero, List.set_cons_succ]
                  refine handSkip 34 (some 91) rfl rfl (by kernel_rfl) (by kernel_rfl) (by kernel_rfl) (fun _ _ _ h => h) (by rfl) HS ?_
                  simp only [Act.put, List.setIfInBounds_toArray, List.set_cons_zero, List.set_cons_succ]
                  refine handTake 35 (some 92) ?_ rfl rfl (by kernel_rfl) (by kernel_rfl) (by kernel_rfl) (fun _ _ _ h => h) (by rfl) ?_ HS ?_
                  rotate_left
                  · (intro u hu; (try dsimp only at hu); go_simp; try with_reducible rfl)
                  simp only [Act.put, List.setIfInBounds_toArray, List.set_cons_zero, List.set_cons_succ]
                  refine handTake 36 (some 93) ?_ rfl rfl (by kernel_rfl) (by kernel_rfl) (by kernel_rfl) (fun _ _ _ h => h) (by rfl) ?_ HS ?_
                  rotate_left
                  · (intro u hu; (try dsimp only at hu); go_simp; try with_reducible rfl)
                  simp only [Act.put, List.setIfInBounds_toArray, List.set_cons_zero, List.set_cons_succ]
                  refine handTake 37 (some 94) ?_ rfl rfl (by kernel_rfl) (by kernel_rfl) (by kernel_rfl) (fun _ _ _ h => h) (by rfl) ?_ HS ?_
                  rotate_left
                  · (intro u hu; (try dsimp only at hu); go_simp; try with_reducible rfl)
                  simp only [Act.put, List.setIfInBounds_toArray, List.set_cons_zero, List.set_cons_succ]
                  refine wpAnyH_done (by kernel_rfl) ?_ _
                  clear HS
                  clear SC6 c3 c4
                  go_wp2_with fail
                  go_loopw [10] (fun i wr => ∃ (s : Int), -1 ≤ s ∧ s ≤ (N : Int) + 1 ∧ i = .int .i64 s ∧ Sep W (dI W.heap.size b pv wv5 d ++ (mI W.heap.size g sv mv lv (.slice zA WL zc) m6 ++ [])) wr) (fun i _ => ((N : Int) + 1 - intOf i).toNat)
                  case atStart => exact ⟨-1, by omega, by omega, rfl, HS6.out⟩
                  case round =>
                    obtain ⟨s, hs0, hs1, rfl, hs⟩ := hrel
                    have HS7 := Lib.hid hs
                    clear hs HS6
                    by_cases hsN : s ≤ (N : Int)
                    · have T := Lib.hid (TL.out s _ HS7.out)
                      go_wp2_with fail
                      refine T.out.mono ?_
                      rintro e u7 ⟨rfl, hs⟩
                      have HS8 := Lib.hid hs
                      clear hs T HS7
                      go_wp2_with fail
                      go_roundw
                      case rel => exact ⟨s + 1, by omega, by omega, by go_num, HS8.out⟩
                      case measure => show ((N : Int) + 1 - (s + 1)).toNat < ((N : Int) + 1 - s).toNat; omega
                    · clear TL
                      go_wp2_with fail
                      go_roundw
                      case rel => exact ⟨k + 1, wv5, _, m6, by omega, by go_num, by rw [← HD.out]; exact HRN.out, by rw [← HD.out]; exact HR6.out, by rw [← HD.out]; exact HS7.out⟩
                      case measure => show M - ((k : Int) + 1).toNat < M - (k : Int).toNat; omega
                exact AllReadyH.nil
              exact AllReadyH.nil
          · have hkM : k = M := by omega
            subst hkM
            go_wp2_with fail
            go_ret
            exact ⟨rfl, HS0.out.below⟩
    · rw [hg] at GR
      have GR := Lib.hid GR
      clear hg
      generalize L.length = M at *
      have hcase : n ≤ 12 ∨ (12 < n ∧ 1024 < n) := by omega
      rcases hcase with h | ⟨h, h'⟩
      · clear hsm
        go_enter Try.func8, Try.ntmps8
        go_wp2_with fail
        refine GR.out.mono ?_
        rintro e u9 ⟨rfl, rfl⟩
        go_wp2_with fail
        go_ret
        exact ⟨rfl, Below.refl _ _⟩
      · clear hsm
        go_enter Try.func8, Try.ntmps8
        go_wp2_with fail
        refine GR.out.mono ?_
        rintro e u9 ⟨rfl, rfl⟩
        go_wp2_with fail
        go_ret
        exact ⟨rfl, Below.refl _ _⟩
end Di
end Go.Proofs.Ytnjejffbcgchlaa
