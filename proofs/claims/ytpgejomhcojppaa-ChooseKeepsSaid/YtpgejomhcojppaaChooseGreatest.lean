/- The law ChooseGreatest, walked. -/
import Derived.Test.YtpgejomhcojppaaChooseGoes
set_option linter.unusedSimpArgs false
set_option linter.unusedVariables false
namespace Go.Proofs.Ytpgejomhcojppaa
open Go.RowKit
namespace Ch
open Bl Qm
attribute [local go_sem ↓] eql_en neq_en
def knownR (x : Rp) : Bool := !(x.st == 0) && !(x.st == 4)
theorem counts4 (L : List Rp) : L.length = (only [0] L).length + (only [4] L).length + cntF knownR L := by
  rw [cntF_one, cntF_one, ← cntF_split _ _ (by
    intro x h
    have h : x.st = 0 := by simpa using h
    simp [h]), ← cntF_split _ _ (by
    intro x h
    unfold knownR
    rcases Bool.or_eq_true _ _ ▸ h with h | h
    · have h : x.st = 0 := by simpa using h
      simp [h]
    · rw [h]; simp), cntF_all]
  intro x _
  unfold knownR
  cases h0 : (x.st == 0) <;> cases h1 : (x.st == 4) <;> simp
set_option maxRecDepth 100000 in
set_option maxHeartbeats 16000000 in
theorem chooseGreatest_is (n : Int) (L : List Rp) (v : Value) (w : World) (hr : Row w w.heap.size v L.length (L.flatMap rpC)) :
    Calls Try.prog 7 #[.int .i64 n, v] w fun e w' => e = .returned (.bool true) ∧ Below w.heap.size w w' := by
  obtain ⟨A, c, rfl, _, _⟩ := hr.slice
  have hbd := hr.bound
  have AW := Lib.hid (awake_is w)
  have HMY := Lib.hid (fun (u : World) (h : Row u u.heap.size (.slice A L.length c) L.length (L.flatMap rpC)) => may_is n L (.slice A L.length c) u.heap.size u h)
  cases hb : badB n L
  · obtain ⟨hn357, hnL, hst⟩ := not_bad hb
    obtain ⟨N, hN⟩ : ∃ N, L.length = N := ⟨_, rfl⟩
    have hnN : n = (N : Int) := by omega
    subst hnN
    have hN7 : N ≤ 7 := by omega
    have hN0 : 0 < N := by omega
    obtain ⟨b, o, rfl, hbw, hcell⟩ := row_all hr (by omega)
    have HC := Lib.hid hcell
    have HC3 : Hid (∀ (i : Nat) (hi : i < L.length) (u : World), Below w.heap.size w u → (u.cell? ⟨b, o + i * 11 + 1, none⟩ = some (.int .u8 (L[i].st : Nat)) ∧ u.cell? ⟨b, o + i * 11 + 2, none⟩ = some (.int .i64 L[i].b.r) ∧ u.cell? ⟨b, o + i * 11 + 3, none⟩ = some (.int .i64 L[i].b.p))) := fun i hi u hu => ⟨hcell i hi u hu 1 _ rfl, hcell i hi u hu 2 _ rfl, hcell i hi u hu 3 _ rfl⟩
    have HN := Lib.hid hN
    have HST := Lib.hid hst
    have HBAD := Lib.hid hb
    have HR0 := Lib.hid hr
    rw [hb, hN] at HMY
    rw [hN] at hr hbd ⊢
    clear hcell hst hnL hn357 hb hN
    have HB_w := Lib.hid (Below.refl w.heap.size w)
    have R_L_w : Hid (Row w w.heap.size (.slice (some ⟨b, o, none⟩) N c) N (L.flatMap rpC)) := hr
    clear hr
    go_enter Try.func7, Try.ntmps7
    go_wp2_with fail
    refine (AW.out).mono ?_
    rintro e x1 ⟨rfl, hx⟩
    clear AW
    have HB_x1 := Lib.hid (HB_w.out.trans (Below.mono hx (HB_w.out.size)))
    have R_L_x1 : Hid (Row x1 x1.heap.size (.slice (some ⟨b, o, none⟩) N c) N (L.flatMap rpC)) := (R_L_w.out.below hx).more (Below.size hx)
    clear hx HB_w R_L_w
    go_wp2_with fail
    have MY := HMY.out _ R_L_x1.out
    refine MY.mono ?_
    rintro e u ⟨rfl, rfl⟩
    clear MY HMY
    clear R_L_x1
    go_wp2_with fail
    go_loopw [5, 6, 7] (fun kv gv iv wr => ∃ (k : Nat) (g : Int), k ≤ N ∧ iv = .int .i64 k ∧ kv = .int .i64 ((cntF knownR (L.take k) : Nat) : Int) ∧ gv = .int .i64 g ∧ At L g (greatest (L.take k)) ∧ Below w.heap.size w wr) (fun _ _ iv _ => N - (intOf iv).toNat)
    case atStart => exact ⟨0, -1, Nat.zero_le _, rfl, rfl, rfl, .inl ⟨rfl, rfl⟩, HB_x1.out⟩
    case round =>
      obtain ⟨k, g, hk, rfl, rfl, rfl, hat, hx⟩ := hrel
      have HX := Lib.hid hx
      have zs := hx.size
      have HAT := Lib.hid hat
      clear hx
      have hk0 : (0 : Int) ≤ (k : Int) := by omega
      have c1 : cntF knownR (L.take k) ≤ 7 := Nat.le_trans (cntF_le _ _) (by rw [List.length_take]; omega)
      by_cases hlt : k < N
      · have hl : k < L.length := by rw [HN.out]; exact hlt
        have hk1 : (k : Int) < (N : Int) := by omega
        have HNX := Lib.hid (greatest_next L k hl)
        have H1 := Lib.hid (cntF_next knownR L k hl)
        have C1 : Hid (∀ u : World, Below w.heap.size w u → u.cell? ⟨b, o + k * 11 + 1, none⟩ = some (.int .u8 (L[k].st : Nat)) ∧ u.cell? ⟨b, o + k * 11 + 2, none⟩ = some (.int .i64 L[k].b.r) ∧ u.cell? ⟨b, o + k * 11 + 3, none⟩ = some (.int .i64 L[k].b.p)) := fun u hu => HC3.out k hl u hu
        have HKX : Hid (At L k (some L[k])) := .inr ⟨k, hl, rfl, rfl⟩
        have h4 := HST.out L[k] (List.getElem_mem hl)
        obtain ⟨m1, hm1⟩ : ∃ m, cntF knownR (L.take k) = m := ⟨_, rfl⟩
        rw [hm1] at H1 c1 ⊢
        clear hm1
        by_cases hst : L[k].st = 2
        · rcases hat with ⟨rfl, hnone⟩ | ⟨j, hj, rfl, hsome⟩
          · have HG : Hid (greatest (L.take (k + 1)) = some L[k]) := by
              show greatest (L.take (k + 1)) = _
              rw [HNX.out, hnone]; unfold stepG; rw [hst]; rfl
            clear hnone HAT HNX
            generalize L[k] = x at HG C1 HKX h4 H1 hst
            obtain ⟨xi, xs, ⟨xr, xp⟩, ⟨ek, ec, eq, ⟨ok, oa, ob, oc⟩⟩⟩ := x
            dsimp only at C1 hst h4
            subst hst
            have G1 : Hid (cntF knownR (L.take (k + 1)) = m1 + 1) := by show _ = _; rw [H1.out]; rfl
            have y1 := (C1.out _ HX.out).1
            clear H1
            go_wp2_with fail
            refine wp_region_held_drew (S := (fun u : World => u.cell? ⟨b, o + k * 11 + 1, none⟩ = some (.int .u8 ((2 : Nat) : Int)))) (by kernel_rfl) ((C1.out _ HX.out.drew).1) (fun HS => ?_)
            refine handTake 0 (some 39) ?_ rfl rfl (by kernel_rfl) (by kernel_rfl) (by kernel_rfl) (fun _ _ _ h => h) (by rfl) ?_ HS ?_
            rotate_left
            · (intro u hu; (try dsimp only at hu); go_simp; try with_reducible rfl)
            simp only [Act.put, List.setIfInBounds_toArray, List.set_cons_zero, List.set_cons_succ]
            refine handTake 1 (some 40) ?_ rfl rfl (by kernel_rfl) (by kernel_rfl) (by kernel_rfl) (fun _ _ _ h => h) (by rfl) ?_ HS ?_
            rotate_left
            · (intro u hu; (try dsimp only at hu); go_simp; try with_reducible rfl)
            simp only [Act.put, List.setIfInBounds_toArray, List.set_cons_zero, List.set_cons_succ]
            refine handTake 2 (some 41) ?_ rfl rfl (by kernel_rfl) (by kernel_rfl) (by kernel_rfl) (fun _ _ _ h => h) (by rfl) ?_ HS ?_
            rotate_left
            · (intro u hu; (try dsimp only at hu); go_simp; try with_reducible rfl)
            simp only [Act.put, List.setIfInBounds_toArray, List.set_cons_zero, List.set_cons_succ]
            refine handTake 3 (some 42) ?_ rfl rfl (by kernel_rfl) (by kernel_rfl) (by kernel_rfl) (fun _ _ _ h => h) (by rfl) ?_ HS ?_
            rotate_left
            · (intro u hu; (try dsimp only at hu); go_simp; try with_reducible rfl)
            simp only [Act.put, List.setIfInBounds_toArray, List.set_cons_zero, List.set_cons_succ]
            refine handTake 4 (some 43) ?_ rfl rfl (by kernel_rfl) (by kernel_rfl) (by kernel_rfl) (fun _ _ _ h => h) (by rfl) ?_ HS ?_
            rotate_left
            · (intro u hu; (try dsimp only at hu); go_simp; try with_reducible rfl)
            simp only [Act.put, List.setIfInBounds_toArray, List.set_cons_zero, List.set_cons_succ]
            refine handTake 5 (some 44) ?_ rfl rfl (by kernel_rfl) (by kernel_rfl) (by kernel_rfl) (fun _ _ _ h => h) (by rfl) ?_ HS ?_
            rotate_left
            · (intro u hu; (try dsimp only at hu); go_simp; try with_reducible rfl)
            simp only [Act.put, List.setIfInBounds_toArray, List.set_cons_zero, List.set_cons_succ]
            refine handTake 6 (some 45) ?_ rfl rfl (by kernel_rfl) (by kernel_rfl) (by kernel_rfl) (fun _ _ _ h => h) (by rfl) ?_ HS ?_
            rotate_left
            · (intro u hu; (try dsimp only at hu); go_simp; try with_reducible rfl)
            simp only [Act.put, List.setIfInBounds_toArray, List.set_cons_zero, List.set_cons_succ]
            refine handTake 7 (some 46) ?_ rfl rfl (by kernel_rfl) (by kernel_rfl) (by kernel_rfl) (fun _ _ _ h => h) (by rfl) ?_ HS ?_
            rotate_left
            · (intro u hu; (try dsimp only at hu); go_simp; try with_reducible rfl)
            simp only [Act.put, List.setIfInBounds_toArray, List.set_cons_zero, List.set_cons_succ]
            refine handTake 8 (some 47) ?_ rfl rfl (by kernel_rfl) (by kernel_rfl) (by kernel_rfl) (fun _ _ _ h => h) (by rfl) ?_ HS ?_
            rotate_left
            · (intro u hu; (try dsimp only at hu); go_simp; try with_reducible rfl)
            simp only [Act.put, List.setIfInBounds_toArray, List.set_cons_zero, List.set_cons_succ]
            refine handTake 9 (some 48) ?_ rfl rfl (by kernel_rfl) (by kernel_rfl) (by kernel_rfl) (fun _ _ _ h => h) (by rfl) ?_ HS ?_
            rotate_left
            · (intro u hu; (try dsimp only at hu); go_simp; try with_reducible rfl)
            simp only [Act.put, List.setIfInBounds_toArray, List.set_cons_zero, List.set_cons_succ]
            refine handSkip 10 (some 49) rfl rfl (by kernel_rfl) (by kernel_rfl) (by kernel_rfl) (fun _ _ _ h => h) (by rfl) HS ?_
            simp only [Act.put, List.setIfInBounds_toArray, List.set_cons_zero, List.set_cons_succ]
            refine handSkip 11 (some 50) rfl rfl (by kernel_rfl) (by kernel_rfl) (by kernel_rfl) (fun _ _ _ h => h) (by rfl) HS ?_
            simp only [Act.put, List.setIfInBounds_toArray, List.set_cons_zero, List.set_cons_succ]
            refine handSkip 12 (some 51) rfl rfl (by kernel_rfl) (by kernel_rfl) (by kernel_rfl) (fun _ _ _ h => h) (by rfl) HS ?_
            simp only [Act.put, List.setIfInBounds_toArray, List.set_cons_zero, List.set_cons_succ]
            refine handSkip 13 (some 52) rfl rfl (by kernel_rfl) (by kernel_rfl) (by kernel_rfl) (fun _ _ _ h => h) (by rfl) HS ?_
            simp only [Act.put, List.setIfInBounds_toArray, List.set_cons_zero, List.set_cons_succ]
            refine handSkip 14 (some 53) rfl rfl (by kernel_rfl) (by kernel_rfl) (by kernel_rfl) (fun _ _ _ h => h) (by rfl) HS ?_
            simp only [Act.put, List.setIfInBounds_toArray, List.set_cons_zero, List.set_cons_succ]
            refine handSkip 15 (some 54) rfl rfl (by kernel_rfl) (by kernel_rfl) (by kernel_rfl) (fun _ _ _ h => h) (by rfl) HS ?_
            simp only [Act.put, List.setIfInBounds_toArray, List.set_cons_zero, List.set_cons_succ]
            refine handSkip 16 (some 55) rfl rfl (by kernel_rfl) (by kernel_rfl) (by kernel_rfl) (fun _ _ _ h => h) (by rfl) HS ?_
            simp only [Act.put, List.setIfInBounds_toArray, List.set_cons_zero, List.set_cons_succ]
            refine handSkip 17 (some 56) rfl rfl (by kernel_rfl) (by kernel_rfl) (by kernel_rfl) (fun _ _ _ h => h) (by rfl) HS ?_
            simp only [Act.put, List.setIfInBounds_toArray, List.set_cons_zero, List.set_cons_succ]
            refine handSkip 18 (some 57) rfl rfl (by kernel_rfl) (by kernel_rfl) (by kernel_rfl) (fun _ _ _ h => h) (by rfl) HS ?_
            simp only [Act.put, List.setIfInBounds_toArray, List.set_cons_zero, List.set_cons_succ]
            refine handSkip 19 (some 58) rfl rfl (by kernel_rfl) (by kernel_rfl) (by kernel_rfl) (fun _ _ _ h => h) (by rfl) HS ?_
            simp only [Act.put, List.setIfInBounds_toArray, List.set_cons_zero, List.set_cons_succ]
            refine handSkip 20 (some 59) rfl rfl (by kernel_rfl) (by kernel_rfl) (by kernel_rfl) (fun _ _ _ h => h) (by rfl) HS ?_
            simp only [Act.put, List.setIfInBounds_toArray, List.set_cons_zero, List.set_cons_succ]
            refine handTake 21 (some 60) ?_ rfl rfl (by kernel_rfl) (by kernel_rfl) (by kernel_rfl) (fun _ _ _ h => h) (by rfl) ?_ HS ?_
            rotate_left
            · (intro u hu; (try dsimp only at hu); go_simp; try with_reducible rfl)
            simp only [Act.put, List.setIfInBounds_toArray, List.set_cons_zero, List.set_cons_succ]
            refine handTake 22 (some 61) ?_ rfl rfl (by kernel_rfl) (by kernel_rfl) (by kernel_rfl) (fun _ _ _ h => h) (by rfl) ?_ HS ?_
            rotate_left
            · (intro u hu; (try dsimp only at hu); go_simp; try with_reducible rfl)
            simp only [Act.put, List.setIfInBounds_toArray, List.set_cons_zero, List.set_cons_succ]
            refine wpAnyH_done (by kernel_rfl) ?_ _
            clear HS
            go_wp2_with fail
            go_roundw
            case rel => exact ⟨k + 1, k, by omega, by go_num, by rw [G1.out]; try go_num, rfl, by rw [HG.out]; exact HKX.out, HX.out.drew⟩
            case measure => show N - ((k : Int) + 1).toNat < N - (k : Int).toNat; omega
          · have HG : Hid (greatest (L.take (k + 1)) = if lessB L[j].b L[k].b then some L[k] else some L[j]) := by
              show greatest (L.take (k + 1)) = _
              rw [HNX.out, hsome]; unfold stepG; rw [hst]; rfl
            have HJX : Hid (At L j (some L[j])) := .inr ⟨j, hj, rfl, rfl⟩
            have C2 : Hid (∀ u : World, Below w.heap.size w u → u.cell? ⟨b, o + j * 11 + 1, none⟩ = some (.int .u8 (L[j].st : Nat)) ∧ u.cell? ⟨b, o + j * 11 + 2, none⟩ = some (.int .i64 L[j].b.r) ∧ u.cell? ⟨b, o + j * 11 + 3, none⟩ = some (.int .i64 L[j].b.p)) := fun u hu => HC3.out j hj u hu
            have hj0 : (0 : Int) ≤ (j : Int) := by omega
            have hj1 : (j : Int) < (N : Int) := by rw [← HN.out]; omega
            clear hsome HAT HNX
            generalize L[k] = x at HG C1 HKX h4 H1 hst
            generalize L[j] = y at HG C2 HJX
            obtain ⟨xi, xs, ⟨xr, xp⟩, ⟨ek, ec, eq, ⟨ok, oa, ob, oc⟩⟩⟩ := x
            obtain ⟨yi, ys, ⟨yr, yp⟩, ⟨gk, gc, gq, ⟨qk, qa, qb, qc⟩⟩⟩ := y
            dsimp only at C1 C2 hst HG h4
            subst hst
            have G1 : Hid (cntF knownR (L.take (k + 1)) = m1 + 1) := by show _ = _; rw [H1.out]; rfl
            have y1 := (C1.out _ HX.out).1
            clear H1
            have RL := less_any ⟨yr, yp⟩ ⟨xr, xp⟩
            simp only [Ba.cells] at RL
            cases hls : lessB ⟨yr, yp⟩ ⟨xr, xp⟩
            · rw [hls] at RL HG
              have RL := Lib.hid RL
              have SOF : Hid (∀ u : World, Below w.heap.size w u → (u.cell? ⟨b, o + k * 11 + 1, none⟩ = some (.int .u8 ((2 : Nat) : Int)) ∧ u.cell? ⟨b, o + k * 11 + 2, none⟩ = some (.int .i64 xr) ∧ u.cell? ⟨b, o + k * 11 + 3, none⟩ = some (.int .i64 xp) ∧ u.cell? ⟨b, o + j * 11 + 1, none⟩ = some (.int .u8 (ys : Nat)) ∧ u.cell? ⟨b, o + j * 11 + 2, none⟩ = some (.int .i64 yr) ∧ u.cell? ⟨b, o + j * 11 + 3, none⟩ = some (.int .i64 yp))) := fun u hu => ⟨(C1.out u hu).1, (C1.out u hu).2.1, (C1.out u hu).2.2, (C2.out u hu).1, (C2.out u hu).2.1, (C2.out u hu).2.2⟩
              clear hls
              go_wp2_with fail
              refine wp_region_held_drew (S := (fun u : World => u.cell? ⟨b, o + k * 11 + 1, none⟩ = some (.int .u8 ((2 : Nat) : Int)) ∧ u.cell? ⟨b, o + k * 11 + 2, none⟩ = some (.int .i64 xr) ∧ u.cell? ⟨b, o + k * 11 + 3, none⟩ = some (.int .i64 xp) ∧ u.cell? ⟨b, o + j * 11 + 1, none⟩ = some (.int .u8 (ys : Nat)) ∧ u.cell? ⟨b, o + j * 11 + 2, none⟩ = some (.int .i64 yr) ∧ u.cell? ⟨b, o + j * 11 + 3, none⟩ = some (.int .i64 yp))) (by kernel_rfl) (SOF.out _ HX.out.drew) (fun HS => ?_)
              refine handTake 0 (some 39) ?_ rfl rfl (by kernel_rfl) (by kernel_rfl) (by kernel_rfl) (fun _ _ _ h => h) (by rfl) ?_ HS ?_
              rotate_left
              · (intro u hu; (try dsimp only at hu); go_simp; try with_reducible rfl)
              simp only [Act.put, List.setIfInBounds_toArray, List.set_cons_zero, List.set_cons_succ]
              refine handTake 1 (some 40) ?_ rfl rfl (by kernel_rfl) (by kernel_rfl) (by kernel_rfl) (fun _ _ _ h => h) (by rfl) ?_ HS ?_
              rotate_left
              · (intro u hu; (try dsimp only at hu); go_simp; try with_reducible rfl)
              simp only [Act.put, List.setIfInBounds_toArray, List.set_cons_zero, List.set_cons_succ]
              refine handTake 2 (some 41) ?_ rfl rfl (by kernel_rfl) (by kernel_rfl) (by kernel_rfl) (fun _ _ _ h => h) (by rfl) ?_ HS ?_
              rotate_left
              · (intro u hu; (try dsimp only at hu); go_simp; try with_reducible rfl)
              simp only [Act.put, List.setIfInBounds_toArray, List.set_cons_zero, List.set_cons_succ]
              refine handTake 3 (some 42) ?_ rfl rfl (by kernel_rfl) (by kernel_rfl) (by kernel_rfl) (fun _ _ _ h => h) (by rfl) ?_ HS ?_
              rotate_left
              · (intro u hu; (try dsimp only at hu); go_simp; try with_reducible rfl)
              simp only [Act.put, List.setIfInBounds_toArray, List.set_cons_zero, List.set_cons_succ]
              refine handTake 4 (some 43) ?_ rfl rfl (by kernel_rfl) (by kernel_rfl) (by kernel_rfl) (fun _ _ _ h => h) (by rfl) ?_ HS ?_
              rotate_left
              · (intro u hu; (try dsimp only at hu); go_simp; try with_reducible rfl)
              simp only [Act.put, List.setIfInBounds_toArray, List.set_cons_zero, List.set_cons_succ]
              refine handTake 5 (some 44) ?_ rfl rfl (by kernel_rfl) (by kernel_rfl) (by kernel_rfl) (fun _ _ _ h => h) (by rfl) ?_ HS ?_
              rotate_left
              · (intro u hu; (try dsimp only at hu); go_simp; try with_reducible rfl)
              simp only [Act.put, List.setIfInBounds_toArray, List.set_cons_zero, List.set_cons_succ]
              refine handTake 6 (some 45) ?_ rfl rfl (by kernel_rfl) (by kernel_rfl) (by kernel_rfl) (fun _ _ _ h => h) (by rfl) ?_ HS ?_
              rotate_left
              · (intro u hu; (try dsimp only at hu); go_simp; try with_reducible rfl)
              simp only [Act.put, List.setIfInBounds_toArray, List.set_cons_zero, List.set_cons_succ]
              refine handTake 7 (some 46) ?_ rfl rfl (by kernel_rfl) (by kernel_rfl) (by kernel_rfl) (fun _ _ _ h => h) (by rfl) ?_ HS ?_
              rotate_left
              · (intro u hu; (try dsimp only at hu); go_simp; try with_reducible rfl)
              simp only [Act.put, List.setIfInBounds_toArray, List.set_cons_zero, List.set_cons_succ]
              refine handTake 8 (some 47) ?_ rfl rfl (by kernel_rfl) (by kernel_rfl) (by kernel_rfl) (fun _ _ _ h => h) (by rfl) ?_ HS ?_
              rotate_left
              · (intro u hu; (try dsimp only at hu); go_simp; try with_reducible rfl)
              simp only [Act.put, List.setIfInBounds_toArray, List.set_cons_zero, List.set_cons_succ]
              refine handTake 9 (some 48) ?_ rfl rfl (by kernel_rfl) (by kernel_rfl) (by kernel_rfl) (fun _ _ _ h => h) (by rfl) ?_ HS ?_
              rotate_left
              · (intro u hu; (try dsimp only at hu); go_simp; try with_reducible rfl)
              simp only [Act.put, List.setIfInBounds_toArray, List.set_cons_zero, List.set_cons_succ]
              refine handTake 10 (some 49) ?_ rfl rfl (by kernel_rfl) (by kernel_rfl) (by kernel_rfl) (fun _ _ _ h => h) (by rfl) ?_ HS ?_
              rotate_left
              · (intro u hu; (try dsimp only at hu); go_simp; try with_reducible rfl)
              simp only [Act.put, List.setIfInBounds_toArray, List.set_cons_zero, List.set_cons_succ]
              refine handTake 11 (some 50) ?_ rfl rfl (by kernel_rfl) (by kernel_rfl) (by kernel_rfl) (fun _ _ _ h => h) (by rfl) ?_ HS ?_
              rotate_left
              · (intro u hu; (try dsimp only at hu); go_simp; try with_reducible rfl)
              simp only [Act.put, List.setIfInBounds_toArray, List.set_cons_zero, List.set_cons_succ]
              refine handTake 12 (some 51) ?_ rfl rfl (by kernel_rfl) (by kernel_rfl) (by kernel_rfl) (fun _ _ _ h => h) (by rfl) ?_ HS ?_
              rotate_left
              · (intro u hu; (try dsimp only at hu); go_simp; try with_reducible rfl)
              simp only [Act.put, List.setIfInBounds_toArray, List.set_cons_zero, List.set_cons_succ]
              refine handTake 13 (some 52) ?_ rfl rfl (by kernel_rfl) (by kernel_rfl) (by kernel_rfl) (fun _ _ _ h => h) (by rfl) ?_ HS ?_
              rotate_left
              · (intro u hu; (try dsimp only at hu); go_simp; try with_reducible rfl)
              simp only [Act.put, List.setIfInBounds_toArray, List.set_cons_zero, List.set_cons_succ]
              refine handTake 14 (some 53) ?_ rfl rfl (by kernel_rfl) (by kernel_rfl) (by kernel_rfl) (fun _ _ _ h => h) (by rfl) ?_ HS ?_
              rotate_left
              · (intro u hu; (try dsimp only at hu); go_simp; try with_reducible rfl)
              simp only [Act.put, List.setIfInBounds_toArray, List.set_cons_zero, List.set_cons_succ]
              refine handTake 15 (some 54) ?_ rfl rfl (by kernel_rfl) (by kernel_rfl) (by kernel_rfl) (fun _ _ _ h => h) (by rfl) ?_ HS ?_
              rotate_left
              · (intro u hu; (try dsimp only at hu); go_simp; try with_reducible rfl)
              simp only [Act.put, List.setIfInBounds_toArray, List.set_cons_zero, List.set_cons_succ]
              refine handTake 16 (some 55) ?_ rfl rfl (by kernel_rfl) (by kernel_rfl) (by kernel_rfl) (fun _ _ _ h => h) (by rfl) ?_ HS ?_
              rotate_left
              · (intro u hu; (try dsimp only at hu); go_simp; try with_reducible rfl)
              simp only [Act.put, List.setIfInBounds_toArray, List.set_cons_zero, List.set_cons_succ]
              refine handTake 17 (some 56) ?_ rfl rfl (by kernel_rfl) (by kernel_rfl) (by kernel_rfl) (fun _ _ _ h => h) (by rfl) ?_ HS ?_
              rotate_left
              · (intro u hu; (try dsimp only at hu); go_simp; try with_reducible rfl)
              simp only [Act.put, List.setIfInBounds_toArray, List.set_cons_zero, List.set_cons_succ]
              refine handTake 18 (some 57) ?_ rfl rfl (by kernel_rfl) (by kernel_rfl) (by kernel_rfl) (fun _ _ _ h => h) (by rfl) ?_ HS ?_
              rotate_left
              · (intro u hu; (try dsimp only at hu); go_simp; try with_reducible rfl)
              simp only [Act.put, List.setIfInBounds_toArray, List.set_cons_zero, List.set_cons_succ]
              refine handTake 19 (some 58) ?_ rfl rfl (by kernel_rfl) (by kernel_rfl) (by kernel_rfl) (fun _ _ _ h => h) (by rfl) ?_ HS ?_
              rotate_left
              · (intro u hu; (try dsimp only at hu); go_simp; try with_reducible rfl)
              simp only [Act.put, List.setIfInBounds_toArray, List.set_cons_zero, List.set_cons_succ]
              refine wpAnyH_ready (rs := [20]) (by kernel_rfl) (by simp) ?_
              refine AllReadyH.cons rfl (fun K hK => ?_) AllReadyH.nil
              go_simp
              clear HS
              refine (RL.out _).mono ?_
              rintro e u1 ⟨rfl, hb⟩
              have HX1 := Lib.hid (HX.out.drew.trans (hb.mono HX.out.drew.size))
              have S1 := Lib.hid (SOF.out _ HX1.out)
              clear hb
              go_wp2_with fail
              refine hK.out _ _ (S1.out) (fun HS => ?_)
              clear hK
              try simp only [Act.put, List.setIfInBounds_toArray, List.set_cons_zero, List.set_cons_succ]
              refine handTake 21 (some 60) ?_ rfl rfl (by kernel_rfl) (by kernel_rfl) (by kernel_rfl) (fun _ _ _ h => h) (by rfl) ?_ HS ?_
              rotate_left
              · (intro u hu; (try dsimp only at hu); go_simp; try with_reducible rfl)
              simp only [Act.put, List.setIfInBounds_toArray, List.set_cons_zero, List.set_cons_succ]
              refine handTake 22 (some 61) ?_ rfl rfl (by kernel_rfl) (by kernel_rfl) (by kernel_rfl) (fun _ _ _ h => h) (by rfl) ?_ HS ?_
              rotate_left
              · (intro u hu; (try dsimp only at hu); go_simp; try with_reducible rfl)
              simp only [Act.put, List.setIfInBounds_toArray, List.set_cons_zero, List.set_cons_succ]
              refine wpAnyH_done (by kernel_rfl) ?_ _
              clear HS
              go_wp2_with fail
              go_roundw
              case rel => exact ⟨k + 1, j, by omega, by go_num, by rw [G1.out]; try go_num, rfl, by rw [HG.out, if_neg (by simp)]; exact HJX.out, HX1.out⟩
              case measure => show N - ((k : Int) + 1).toNat < N - (k : Int).toNat; omega
            · rw [hls] at RL HG
              have RL := Lib.hid RL
              have SOF : Hid (∀ u : World, Below w.heap.size w u → (u.cell? ⟨b, o + k * 11 + 1, none⟩ = some (.int .u8 ((2 : Nat) : Int)) ∧ u.cell? ⟨b, o + k * 11 + 2, none⟩ = some (.int .i64 xr) ∧ u.cell? ⟨b, o + k * 11 + 3, none⟩ = some (.int .i64 xp) ∧ u.cell? ⟨b, o + j * 11 + 1, none⟩ = some (.int .u8 (ys : Nat)) ∧ u.cell? ⟨b, o + j * 11 + 2, none⟩ = some (.int .i64 yr) ∧ u.cell? ⟨b, o + j * 11 + 3, none⟩ = some (.int .i64 yp))) := fun u hu => ⟨(C1.out u hu).1, (C1.out u hu).2.1, (C1.out u hu).2.2, (C2.out u hu).1, (C2.out u hu).2.1, (C2.out u hu).2.2⟩
              clear hls
              go_wp2_with fail
              refine wp_region_held_drew (S := (fun u : World => u.cell? ⟨b, o + k * 11 + 1, none⟩ = some (.int .u8 ((2 : Nat) : Int)) ∧ u.cell? ⟨b, o + k * 11 + 2, none⟩ = some (.int .i64 xr) ∧ u.cell? ⟨b, o + k * 11 + 3, none⟩ = some (.int .i64 xp) ∧ u.cell? ⟨b, o + j * 11 + 1, none⟩ = some (.int .u8 (ys : Nat)) ∧ u.cell? ⟨b, o + j * 11 + 2, none⟩ = some (.int .i64 yr) ∧ u.cell? ⟨b, o + j * 11 + 3, none⟩ = some (.int .i64 yp))) (by kernel_rfl) (SOF.out _ HX.out.drew) (fun HS => ?_)
              refine handTake 0 (some 39) ?_ rfl rfl (by kernel_rfl) (by kernel_rfl) (by kernel_rfl) (fun _ _ _ h => h) (by rfl) ?_ HS ?_
              rotate_left
              · (intro u hu; (try dsimp only at hu); go_simp; try with_reducible rfl)
              simp only [Act.put, List.setIfInBounds_toArray, List.set_cons_zero, List.set_cons_succ]
              refine handTake 1 (some 40) ?_ rfl rfl (by kernel_rfl) (by kernel_rfl) (by kernel_rfl) (fun _ _ _ h => h) (by rfl) ?_ HS ?_
              rotate_left
              · (intro u hu; (try dsimp only at hu); go_simp; try with_reducible rfl)
              simp only [Act.put, List.setIfInBounds_toArray, List.set_cons_zero, List.set_cons_succ]
              refine handTake 2 (some 41) ?_ rfl rfl (by kernel_rfl) (by kernel_rfl) (by kernel_rfl) (fun _ _ _ h => h) (by rfl) ?_ HS ?_
              rotate_left
              · (intro u hu; (try dsimp only at hu); go_simp; try with_reducible rfl)
              simp only [Act.put, List.setIfInBounds_toArray, List.set_cons_zero, List.set_cons_succ]
              refine handTake 3 (some 42) ?_ rfl rfl (by kernel_rfl) (by kernel_rfl) (by kernel_rfl) (fun _ _ _ h => h) (by rfl) ?_ HS ?_
              rotate_left
              · (intro u hu; (try dsimp only at hu); go_simp; try with_reducible rfl)
              simp only [Act.put, List.setIfInBounds_toArray, List.set_cons_zero, List.set_cons_succ]
              refine handTake 4 (some 43) ?_ rfl rfl (by kernel_rfl) (by kernel_rfl) (by kernel_rfl) (fun _ _ _ h => h) (by rfl) ?_ HS ?_
              rotate_left
              · (intro u hu; (try dsimp only at hu); go_simp; try with_reducible rfl)
              simp only [Act.put, List.setIfInBounds_toArray, List.set_cons_zero, List.set_cons_succ]
              refine handTake 5 (some 44) ?_ rfl rfl (by kernel_rfl) (by kernel_rfl) (by kernel_rfl) (fun _ _ _ h => h) (by rfl) ?_ HS ?_
              rotate_left
              · (intro u hu; (try dsimp only at hu); go_simp; try with_reducible rfl)
              simp only [Act.put, List.setIfInBounds_toArray, List.set_cons_zero, List.set_cons_succ]
              refine handTake 6 (some 45) ?_ rfl rfl (by kernel_rfl) (by kernel_rfl) (by kernel_rfl) (fun _ _ _ h => h) (by rfl) ?_ HS ?_
              rotate_left
              · (intro u hu; (try dsimp only at hu); go_simp; try with_reducible rfl)
              simp only [Act.put, List.setIfInBounds_toArray, List.set_cons_zero, List.set_cons_succ]
              refine handTake 7 (some 46) ?_ rfl rfl (by kernel_rfl) (by kernel_rfl) (by kernel_rfl) (fun _ _ _ h => h) (by rfl) ?_ HS ?_
              rotate_left
              · (intro u hu; (try dsimp only at hu); go_simp; try with_reducible rfl)
              simp only [Act.put, List.setIfInBounds_toArray, List.set_cons_zero, List.set_cons_succ]
              refine handTake 8 (some 47) ?_ rfl rfl (by kernel_rfl) (by kernel_rfl) (by kernel_rfl) (fun _ _ _ h => h) (by rfl) ?_ HS ?_
              rotate_left
              · (intro u hu; (try dsimp only at hu); go_simp; try with_reducible rfl)
              simp only [Act.put, List.setIfInBounds_toArray, List.set_cons_zero, List.set_cons_succ]
              refine handTake 9 (some 48) ?_ rfl rfl (by kernel_rfl) (by kernel_rfl) (by kernel_rfl) (fun _ _ _ h => h) (by rfl) ?_ HS ?_
              rotate_left
              · (intro u hu; (try dsimp only at hu); go_simp; try with_reducible rfl)
              simp only [Act.put, List.setIfInBounds_toArray, List.set_cons_zero, List.set_cons_succ]
              refine handTake 10 (some 49) ?_ rfl rfl (by kernel_rfl) (by kernel_rfl) (by kernel_rfl) (fun _ _ _ h => h) (by rfl) ?_ HS ?_
              rotate_left
              · (intro u hu; (try dsimp only at hu); go_simp; try with_reducible rfl)
              simp only [Act.put, List.setIfInBounds_toArray, List.set_cons_zero, List.set_cons_succ]
              refine handTake 11 (some 50) ?_ rfl rfl (by kernel_rfl) (by kernel_rfl) (by kernel_rfl) (fun _ _ _ h => h) (by rfl) ?_ HS ?_
              rotate_left
              · (intro u hu; (try dsimp only at hu); go_simp; try with_reducible rfl)
              simp only [Act.put, List.setIfInBounds_toArray, List.set_cons_zero, List.set_cons_succ]
              refine handTake 12 (some 51) ?_ rfl rfl (by kernel_rfl) (by kernel_rfl) (by kernel_rfl) (fun _ _ _ h => h) (by rfl) ?_ HS ?_
              rotate_left
              · (intro u hu; (try dsimp only at hu); go_simp; try with_reducible rfl)
              simp only [Act.put, List.setIfInBounds_toArray, List.set_cons_zero, List.set_cons_succ]
              refine handTake 13 (some 52) ?_ rfl rfl (by kernel_rfl) (by kernel_rfl) (by kernel_rfl) (fun _ _ _ h => h) (by rfl) ?_ HS ?_
              rotate_left
              · (intro u hu; (try dsimp only at hu); go_simp; try with_reducible rfl)
              simp only [Act.put, List.setIfInBounds_toArray, List.set_cons_zero, List.set_cons_succ]
              refine handTake 14 (some 53) ?_ rfl rfl (by kernel_rfl) (by kernel_rfl) (by kernel_rfl) (fun _ _ _ h => h) (by rfl) ?_ HS ?_
              rotate_left
              · (intro u hu; (try dsimp only at hu); go_simp; try with_reducible rfl)
              simp only [Act.put, List.setIfInBounds_toArray, List.set_cons_zero, List.set_cons_succ]
              refine handTake 15 (some 54) ?_ rfl rfl (by kernel_rfl) (by kernel_rfl) (by kernel_rfl) (fun _ _ _ h => h) (by rfl) ?_ HS ?_
              rotate_left
              · (intro u hu; (try dsimp only at hu); go_simp; try with_reducible rfl)
              simp only [Act.put, List.setIfInBounds_toArray, List.set_cons_zero, List.set_cons_succ]
              refine handTake 16 (some 55) ?_ rfl rfl (by kernel_rfl) (by kernel_rfl) (by kernel_rfl) (fun _ _ _ h => h) (by rfl) ?_ HS ?_
              rotate_left
              · (intro u hu; (try dsimp only at hu); go_simp; try with_reducible rfl)
              simp only [Act.put, List.setIfInBounds_toArray, List.set_cons_zero, List.set_cons_succ]
              refine handTake 17 (some 56) ?_ rfl rfl (by kernel_rfl) (by kernel_rfl) (by kernel_rfl) (fun _ _ _ h => h) (by rfl) ?_ HS ?_
              rotate_left
              · (intro u hu; (try dsimp only at hu); go_simp; try with_reducible rfl)
              simp only [Act.put, List.setIfInBounds_toArray, List.set_cons_zero, List.set_cons_succ]
              refine handTake 18 (some 57) ?_ rfl rfl (by kernel_rfl) (by kernel_rfl) (by kernel_rfl) (fun _ _ _ h => h) (by rfl) ?_ HS ?_
              rotate_left
              · (intro u hu; (try dsimp only at hu); go_simp; try with_reducible rfl)
              simp only [Act.put, List.setIfInBounds_toArray, List.set_cons_zero, List.set_cons_succ]
              refine handTake 19 (some 58) ?_ rfl rfl (by kernel_rfl) (by kernel_rfl) (by kernel_rfl) (fun _ _ _ h => h) (by rfl) ?_ HS ?_
              rotate_left
              · (intro u hu; (try dsimp only at hu); go_simp; try with_reducible rfl)
              simp only [Act.put, List.setIfInBounds_toArray, List.set_cons_zero, List.set_cons_succ]
              refine wpAnyH_ready (rs := [20]) (by kernel_rfl) (by simp) ?_
              refine AllReadyH.cons rfl (fun K hK => ?_) AllReadyH.nil
              go_simp
              clear HS
              refine (RL.out _).mono ?_
              rintro e u1 ⟨rfl, hb⟩
              have HX1 := Lib.hid (HX.out.drew.trans (hb.mono HX.out.drew.size))
              have S1 := Lib.hid (SOF.out _ HX1.out)
              clear hb
              go_wp2_with fail
              refine hK.out _ _ (S1.out) (fun HS => ?_)
              clear hK
              try simp only [Act.put, List.setIfInBounds_toArray, List.set_cons_zero, List.set_cons_succ]
              refine handTake 21 (some 60) ?_ rfl rfl (by kernel_rfl) (by kernel_rfl) (by kernel_rfl) (fun _ _ _ h => h) (by rfl) ?_ HS ?_
              rotate_left
              · (intro u hu; (try dsimp only at hu); go_simp; try with_reducible rfl)
              simp only [Act.put, List.setIfInBounds_toArray, List.set_cons_zero, List.set_cons_succ]
              refine handTake 22 (some 61) ?_ rfl rfl (by kernel_rfl) (by kernel_rfl) (by kernel_rfl) (fun _ _ _ h => h) (by rfl) ?_ HS ?_
              rotate_left
              · (intro u hu; (try dsimp only at hu); go_simp; try with_reducible rfl)
              simp only [Act.put, List.setIfInBounds_toArray, List.set_cons_zero, List.set_cons_succ]
              refine wpAnyH_done (by kernel_rfl) ?_ _
              clear HS
              go_wp2_with fail
              go_roundw
              case rel => exact ⟨k + 1, k, by omega, by go_num, by rw [G1.out]; try go_num, rfl, by rw [HG.out, if_pos (by trivial)]; exact HKX.out, HX1.out⟩
              case measure => show N - ((k : Int) + 1).toNat < N - (k : Int).toNat; omega
        · have HG : Hid (greatest (L.take (k + 1)) = greatest (L.take k)) := by
            show greatest (L.take (k + 1)) = _
            rw [HNX.out]; unfold stepG; rw [if_neg (by simp [hst])]
          clear hat HNX
          generalize L[k] = x at C1 HKX h4 H1 hst
          obtain ⟨xi, xs, ⟨xr, xp⟩, ⟨ek, ec, eq, ⟨ok, oa, ob, oc⟩⟩⟩ := x
          dsimp only at C1 hst h4
          have y1 := (C1.out _ HX.out).1
          rcases (by omega : xs = 0 ∨ xs = 4 ∨ (xs = 1 ∨ xs = 3)) with hs | hs | hs
          · subst hs
            have G1 : Hid (cntF knownR (L.take (k + 1)) = m1) := by show _ = _; rw [H1.out]; rfl
            clear H1 hst
            go_wp2_with fail
            refine wp_region_held_drew (S := (fun u : World => u.cell? ⟨b, o + k * 11 + 1, none⟩ = some (.int .u8 ((0 : Nat) : Int)))) (by kernel_rfl) ((C1.out _ HX.out.drew).1) (fun HS => ?_)
            refine handTake 0 (some 39) ?_ rfl rfl (by kernel_rfl) (by kernel_rfl) (by kernel_rfl) (fun _ _ _ h => h) (by rfl) ?_ HS ?_
            rotate_left
            · (intro u hu; (try dsimp only at hu); go_simp; try with_reducible rfl)
            simp only [Act.put, List.setIfInBounds_toArray, List.set_cons_zero, List.set_cons_succ]
            refine handTake 1 (some 40) ?_ rfl rfl (by kernel_rfl) (by kernel_rfl) (by kernel_rfl) (fun _ _ _ h => h) (by rfl) ?_ HS ?_
            rotate_left
            · (intro u hu; (try dsimp only at hu); go_simp; try with_reducible rfl)
            simp only [Act.put, List.setIfInBounds_toArray, List.set_cons_zero, List.set_cons_succ]
            refine handTake 2 (some 41) ?_ rfl rfl (by kernel_rfl) (by kernel_rfl) (by kernel_rfl) (fun _ _ _ h => h) (by rfl) ?_ HS ?_
            rotate_left
            · (intro u hu; (try dsimp only at hu); go_simp; try with_reducible rfl)
            simp only [Act.put, List.setIfInBounds_toArray, List.set_cons_zero, List.set_cons_succ]
            refine handTake 3 (some 42) ?_ rfl rfl (by kernel_rfl) (by kernel_rfl) (by kernel_rfl) (fun _ _ _ h => h) (by rfl) ?_ HS ?_
            rotate_left
            · (intro u hu; (try dsimp only at hu); go_simp; try with_reducible rfl)
            simp only [Act.put, List.setIfInBounds_toArray, List.set_cons_zero, List.set_cons_succ]
            refine handTake 4 (some 43) ?_ rfl rfl (by kernel_rfl) (by kernel_rfl) (by kernel_rfl) (fun _ _ _ h => h) (by rfl) ?_ HS ?_
            rotate_left
            · (intro u hu; (try dsimp only at hu); go_simp; try with_reducible rfl)
            simp only [Act.put, List.setIfInBounds_toArray, List.set_cons_zero, List.set_cons_succ]
            refine handTake 5 (some 44) ?_ rfl rfl (by kernel_rfl) (by kernel_rfl) (by kernel_rfl) (fun _ _ _ h => h) (by rfl) ?_ HS ?_
            rotate_left
            · (intro u hu; (try dsimp only at hu); go_simp; try with_reducible rfl)
            simp only [Act.put, List.setIfInBounds_toArray, List.set_cons_zero, List.set_cons_succ]
            refine handTake 6 (some 45) ?_ rfl rfl (by kernel_rfl) (by kernel_rfl) (by kernel_rfl) (fun _ _ _ h => h) (by rfl) ?_ HS ?_
            rotate_left
            · (intro u hu; (try dsimp only at hu); go_simp; try with_reducible rfl)
            simp only [Act.put, List.setIfInBounds_toArray, List.set_cons_zero, List.set_cons_succ]
            refine handSkip 7 (some 46) rfl rfl (by kernel_rfl) (by kernel_rfl) (by kernel_rfl) (fun _ _ _ h => h) (by rfl) HS ?_
            simp only [Act.put, List.setIfInBounds_toArray, List.set_cons_zero, List.set_cons_succ]
            refine handSkip 8 (some 47) rfl rfl (by kernel_rfl) (by kernel_rfl) (by kernel_rfl) (fun _ _ _ h => h) (by rfl) HS ?_
            simp only [Act.put, List.setIfInBounds_toArray, List.set_cons_zero, List.set_cons_succ]
            refine handSkip 9 (some 48) rfl rfl (by kernel_rfl) (by kernel_rfl) (by kernel_rfl) (fun _ _ _ h => h) (by rfl) HS ?_
            simp only [Act.put, List.setIfInBounds_toArray, List.set_cons_zero, List.set_cons_succ]
            refine handSkip 10 (some 49) rfl rfl (by kernel_rfl) (by kernel_rfl) (by kernel_rfl) (fun _ _ _ h => h) (by rfl) HS ?_
            simp only [Act.put, List.setIfInBounds_toArray, List.set_cons_zero, List.set_cons_succ]
            refine handSkip 11 (some 50) rfl rfl (by kernel_rfl) (by kernel_rfl) (by kernel_rfl) (fun _ _ _ h => h) (by rfl) HS ?_
            simp only [Act.put, List.setIfInBounds_toArray, List.set_cons_zero, List.set_cons_succ]
            refine handSkip 12 (some 51) rfl rfl (by kernel_rfl) (by kernel_rfl) (by kernel_rfl) (fun _ _ _ h => h) (by rfl) HS ?_
            simp only [Act.put, List.setIfInBounds_toArray, List.set_cons_zero, List.set_cons_succ]
            refine handSkip 13 (some 52) rfl rfl (by kernel_rfl) (by kernel_rfl) (by kernel_rfl) (fun _ _ _ h => h) (by rfl) HS ?_
            simp only [Act.put, List.setIfInBounds_toArray, List.set_cons_zero, List.set_cons_succ]
            refine handSkip 14 (some 53) rfl rfl (by kernel_rfl) (by kernel_rfl) (by kernel_rfl) (fun _ _ _ h => h) (by rfl) HS ?_
            simp only [Act.put, List.setIfInBounds_toArray, List.set_cons_zero, List.set_cons_succ]
            refine handSkip 15 (some 54) rfl rfl (by kernel_rfl) (by kernel_rfl) (by kernel_rfl) (fun _ _ _ h => h) (by rfl) HS ?_
            simp only [Act.put, List.setIfInBounds_toArray, List.set_cons_zero, List.set_cons_succ]
            refine handSkip 16 (some 55) rfl rfl (by kernel_rfl) (by kernel_rfl) (by kernel_rfl) (fun _ _ _ h => h) (by rfl) HS ?_
            simp only [Act.put, List.setIfInBounds_toArray, List.set_cons_zero, List.set_cons_succ]
            refine handSkip 17 (some 56) rfl rfl (by kernel_rfl) (by kernel_rfl) (by kernel_rfl) (fun _ _ _ h => h) (by rfl) HS ?_
            simp only [Act.put, List.setIfInBounds_toArray, List.set_cons_zero, List.set_cons_succ]
            refine handSkip 18 (some 57) rfl rfl (by kernel_rfl) (by kernel_rfl) (by kernel_rfl) (fun _ _ _ h => h) (by rfl) HS ?_
            simp only [Act.put, List.setIfInBounds_toArray, List.set_cons_zero, List.set_cons_succ]
            refine handSkip 19 (some 58) rfl rfl (by kernel_rfl) (by kernel_rfl) (by kernel_rfl) (fun _ _ _ h => h) (by rfl) HS ?_
            simp only [Act.put, List.setIfInBounds_toArray, List.set_cons_zero, List.set_cons_succ]
            refine handSkip 20 (some 59) rfl rfl (by kernel_rfl) (by kernel_rfl) (by kernel_rfl) (fun _ _ _ h => h) (by rfl) HS ?_
            simp only [Act.put, List.setIfInBounds_toArray, List.set_cons_zero, List.set_cons_succ]
            refine handSkip 21 (some 60) rfl rfl (by kernel_rfl) (by kernel_rfl) (by kernel_rfl) (fun _ _ _ h => h) (by rfl) HS ?_
            simp only [Act.put, List.setIfInBounds_toArray, List.set_cons_zero, List.set_cons_succ]
            refine handTake 22 (some 61) ?_ rfl rfl (by kernel_rfl) (by kernel_rfl) (by kernel_rfl) (fun _ _ _ h => h) (by rfl) ?_ HS ?_
            rotate_left
            · (intro u hu; (try dsimp only at hu); go_simp; try with_reducible rfl)
            simp only [Act.put, List.setIfInBounds_toArray, List.set_cons_zero, List.set_cons_succ]
            refine wpAnyH_done (by kernel_rfl) ?_ _
            clear HS
            go_wp2_with fail
            go_roundw
            case rel => exact ⟨k + 1, g, by omega, by go_num, by rw [G1.out]; try go_num, rfl, by rw [HG.out]; exact HAT.out, HX.out.drew⟩
            case measure => show N - ((k : Int) + 1).toNat < N - (k : Int).toNat; omega
          · subst hs
            have G1 : Hid (cntF knownR (L.take (k + 1)) = m1) := by show _ = _; rw [H1.out]; rfl
            clear H1 hst
            go_wp2_with fail
            refine wp_region_held_drew (S := (fun u : World => u.cell? ⟨b, o + k * 11 + 1, none⟩ = some (.int .u8 ((4 : Nat) : Int)))) (by kernel_rfl) ((C1.out _ HX.out.drew).1) (fun HS => ?_)
            refine handTake 0 (some 39) ?_ rfl rfl (by kernel_rfl) (by kernel_rfl) (by kernel_rfl) (fun _ _ _ h => h) (by rfl) ?_ HS ?_
            rotate_left
            · (intro u hu; (try dsimp only at hu); go_simp; try with_reducible rfl)
            simp only [Act.put, List.setIfInBounds_toArray, List.set_cons_zero, List.set_cons_succ]
            refine handTake 1 (some 40) ?_ rfl rfl (by kernel_rfl) (by kernel_rfl) (by kernel_rfl) (fun _ _ _ h => h) (by rfl) ?_ HS ?_
            rotate_left
            · (intro u hu; (try dsimp only at hu); go_simp; try with_reducible rfl)
            simp only [Act.put, List.setIfInBounds_toArray, List.set_cons_zero, List.set_cons_succ]
            refine handTake 2 (some 41) ?_ rfl rfl (by kernel_rfl) (by kernel_rfl) (by kernel_rfl) (fun _ _ _ h => h) (by rfl) ?_ HS ?_
            rotate_left
            · (intro u hu; (try dsimp only at hu); go_simp; try with_reducible rfl)
            simp only [Act.put, List.setIfInBounds_toArray, List.set_cons_zero, List.set_cons_succ]
            refine handTake 3 (some 42) ?_ rfl rfl (by kernel_rfl) (by kernel_rfl) (by kernel_rfl) (fun _ _ _ h => h) (by rfl) ?_ HS ?_
            rotate_left
            · (intro u hu; (try dsimp only at hu); go_simp; try with_reducible rfl)
            simp only [Act.put, List.setIfInBounds_toArray, List.set_cons_zero, List.set_cons_succ]
            refine handTake 4 (some 43) ?_ rfl rfl (by kernel_rfl) (by kernel_rfl) (by kernel_rfl) (fun _ _ _ h => h) (by rfl) ?_ HS ?_
            rotate_left
            · (intro u hu; (try dsimp only at hu); go_simp; try with_reducible rfl)
            simp only [Act.put, List.setIfInBounds_toArray, List.set_cons_zero, List.set_cons_succ]
            refine handTake 5 (some 44) ?_ rfl rfl (by kernel_rfl) (by kernel_rfl) (by kernel_rfl) (fun _ _ _ h => h) (by rfl) ?_ HS ?_
            rotate_left
            · (intro u hu; (try dsimp only at hu); go_simp; try with_reducible rfl)
            simp only [Act.put, List.setIfInBounds_toArray, List.set_cons_zero, List.set_cons_succ]
            refine handTake 6 (some 45) ?_ rfl rfl (by kernel_rfl) (by kernel_rfl) (by kernel_rfl) (fun _ _ _ h => h) (by rfl) ?_ HS ?_
            rotate_left
            · (intro u hu; (try dsimp only at hu); go_simp; try with_reducible rfl)
            simp only [Act.put, List.setIfInBounds_toArray, List.set_cons_zero, List.set_cons_succ]
            refine handSkip 7 (some 46) rfl rfl (by kernel_rfl) (by kernel_rfl) (by kernel_rfl) (fun _ _ _ h => h) (by rfl) HS ?_
            simp only [Act.put, List.setIfInBounds_toArray, List.set_cons_zero, List.set_cons_succ]
            refine handSkip 8 (some 47) rfl rfl (by kernel_rfl) (by kernel_rfl) (by kernel_rfl) (fun _ _ _ h => h) (by rfl) HS ?_
            simp only [Act.put, List.setIfInBounds_toArray, List.set_cons_zero, List.set_cons_succ]
            refine handSkip 9 (some 48) rfl rfl (by kernel_rfl) (by kernel_rfl) (by kernel_rfl) (fun _ _ _ h => h) (by rfl) HS ?_
            simp only [Act.put, List.setIfInBounds_toArray, List.set_cons_zero, List.set_cons_succ]
            refine handSkip 10 (some 49) rfl rfl (by kernel_rfl) (by kernel_rfl) (by kernel_rfl) (fun _ _ _ h => h) (by rfl) HS ?_
            simp only [Act.put, List.setIfInBounds_toArray, List.set_cons_zero, List.set_cons_succ]
            refine handSkip 11 (some 50) rfl rfl (by kernel_rfl) (by kernel_rfl) (by kernel_rfl) (fun _ _ _ h => h) (by rfl) HS ?_
            simp only [Act.put, List.setIfInBounds_toArray, List.set_cons_zero, List.set_cons_succ]
            refine handSkip 12 (some 51) rfl rfl (by kernel_rfl) (by kernel_rfl) (by kernel_rfl) (fun _ _ _ h => h) (by rfl) HS ?_
            simp only [Act.put, List.setIfInBounds_toArray, List.set_cons_zero, List.set_cons_succ]
            refine handSkip 13 (some 52) rfl rfl (by kernel_rfl) (by kernel_rfl) (by kernel_rfl) (fun _ _ _ h => h) (by rfl) HS ?_
            simp only [Act.put, List.setIfInBounds_toArray, List.set_cons_zero, List.set_cons_succ]
            refine handSkip 14 (some 53) rfl rfl (by kernel_rfl) (by kernel_rfl) (by kernel_rfl) (fun _ _ _ h => h) (by rfl) HS ?_
            simp only [Act.put, List.setIfInBounds_toArray, List.set_cons_zero, List.set_cons_succ]
            refine handSkip 15 (some 54) rfl rfl (by kernel_rfl) (by kernel_rfl) (by kernel_rfl) (fun _ _ _ h => h) (by rfl) HS ?_
            simp only [Act.put, List.setIfInBounds_toArray, List.set_cons_zero, List.set_cons_succ]
            refine handSkip 16 (some 55) rfl rfl (by kernel_rfl) (by kernel_rfl) (by kernel_rfl) (fun _ _ _ h => h) (by rfl) HS ?_
            simp only [Act.put, List.setIfInBounds_toArray, List.set_cons_zero, List.set_cons_succ]
            refine handSkip 17 (some 56) rfl rfl (by kernel_rfl) (by kernel_rfl) (by kernel_rfl) (fun _ _ _ h => h) (by rfl) HS ?_
            simp only [Act.put, List.setIfInBounds_toArray, List.set_cons_zero, List.set_cons_succ]
            refine handSkip 18 (some 57) rfl rfl (by kernel_rfl) (by kernel_rfl) (by kernel_rfl) (fun _ _ _ h => h) (by rfl) HS ?_
            simp only [Act.put, List.setIfInBounds_toArray, List.set_cons_zero, List.set_cons_succ]
            refine handSkip 19 (some 58) rfl rfl (by kernel_rfl) (by kernel_rfl) (by kernel_rfl) (fun _ _ _ h => h) (by rfl) HS ?_
            simp only [Act.put, List.setIfInBounds_toArray, List.set_cons_zero, List.set_cons_succ]
            refine handSkip 20 (some 59) rfl rfl (by kernel_rfl) (by kernel_rfl) (by kernel_rfl) (fun _ _ _ h => h) (by rfl) HS ?_
            simp only [Act.put, List.setIfInBounds_toArray, List.set_cons_zero, List.set_cons_succ]
            refine handSkip 21 (some 60) rfl rfl (by kernel_rfl) (by kernel_rfl) (by kernel_rfl) (fun _ _ _ h => h) (by rfl) HS ?_
            simp only [Act.put, List.setIfInBounds_toArray, List.set_cons_zero, List.set_cons_succ]
            refine handTake 22 (some 61) ?_ rfl rfl (by kernel_rfl) (by kernel_rfl) (by kernel_rfl) (fun _ _ _ h => h) (by rfl) ?_ HS ?_
            rotate_left
            · (intro u hu; (try dsimp only at hu); go_simp; try with_reducible rfl)
            simp only [Act.put, List.setIfInBounds_toArray, List.set_cons_zero, List.set_cons_succ]
            refine wpAnyH_done (by kernel_rfl) ?_ _
            clear HS
            go_wp2_with fail
            go_roundw
            case rel => exact ⟨k + 1, g, by omega, by go_num, by rw [G1.out]; try go_num, rfl, by rw [HG.out]; exact HAT.out, HX.out.drew⟩
            case measure => show N - ((k : Int) + 1).toNat < N - (k : Int).toNat; omega
          · have e0 : ((xs : Int) == 0) = false := by simp; omega
            have e4 : ((xs : Int) == 4) = false := by simp; omega
            have e0n : ((xs : Int) != 0) = true := by simp; omega
            have e4n : ((xs : Int) != 4) = true := by simp; omega
            have hne : ((xs : Int) == 2) = false := by simp; omega
            have n0 : (xs == 0) = false := by simp; omega
            have n4 : (xs == 4) = false := by simp; omega
            have G1 : Hid (cntF knownR (L.take (k + 1)) = m1 + 1) := by show _ = _; rw [H1.out]; unfold knownR; dsimp only; rw [n0, n4]; rfl
            clear H1 hst n0 n4 hs
            go_wp2_with fail
            refine wp_region_held_drew (S := (fun u : World => u.cell? ⟨b, o + k * 11 + 1, none⟩ = some (.int .u8 (xs : Nat)))) (by kernel_rfl) ((C1.out _ HX.out.drew).1) (fun HS => ?_)
            refine handTake 0 (some 39) ?_ rfl rfl (by kernel_rfl) (by kernel_rfl) (by kernel_rfl) (fun _ _ _ h => h) (by rfl) ?_ HS ?_
            rotate_left
            · (intro u hu; (try dsimp only at hu); go_simp; try with_reducible rfl)
            simp only [Act.put, List.setIfInBounds_toArray, List.set_cons_zero, List.set_cons_succ]
            refine handTake 1 (some 40) ?_ rfl rfl (by kernel_rfl) (by kernel_rfl) (by kernel_rfl) (fun _ _ _ h => h) (by rfl) ?_ HS ?_
            rotate_left
            · (intro u hu; (try dsimp only at hu); go_simp; try with_reducible rfl)
            simp only [Act.put, List.setIfInBounds_toArray, List.set_cons_zero, List.set_cons_succ]
            refine handTake 2 (some 41) ?_ rfl rfl (by kernel_rfl) (by kernel_rfl) (by kernel_rfl) (fun _ _ _ h => h) (by rfl) ?_ HS ?_
            rotate_left
            · (intro u hu; (try dsimp only at hu); go_simp; try with_reducible rfl)
            simp only [Act.put, List.setIfInBounds_toArray, List.set_cons_zero, List.set_cons_succ]
            refine handTake 3 (some 42) ?_ rfl rfl (by kernel_rfl) (by kernel_rfl) (by kernel_rfl) (fun _ _ _ h => h) (by rfl) ?_ HS ?_
            rotate_left
            · (intro u hu; (try dsimp only at hu); go_simp; try with_reducible rfl)
            simp only [Act.put, List.setIfInBounds_toArray, List.set_cons_zero, List.set_cons_succ]
            refine handTake 4 (some 43) ?_ rfl rfl (by kernel_rfl) (by kernel_rfl) (by kernel_rfl) (fun _ _ _ h => h) (by rfl) ?_ HS ?_
            rotate_left
            · (intro u hu; (try dsimp only at hu); go_simp; try with_reducible rfl)
            simp only [Act.put, List.setIfInBounds_toArray, List.set_cons_zero, List.set_cons_succ]
            refine handTake 5 (some 44) ?_ rfl rfl (by kernel_rfl) (by kernel_rfl) (by kernel_rfl) (fun _ _ _ h => h) (by rfl) ?_ HS ?_
            rotate_left
            · (intro u hu; (try dsimp only at hu); go_simp; try with_reducible rfl)
            simp only [Act.put, List.setIfInBounds_toArray, List.set_cons_zero, List.set_cons_succ]
            refine handTake 6 (some 45) ?_ rfl rfl (by kernel_rfl) (by kernel_rfl) (by kernel_rfl) (fun _ _ _ h => h) (by rfl) ?_ HS ?_
            rotate_left
            · (intro u hu; (try dsimp only at hu); go_simp; try with_reducible rfl)
            simp only [Act.put, List.setIfInBounds_toArray, List.set_cons_zero, List.set_cons_succ]
            refine handSkip 7 (some 46) rfl rfl (by kernel_rfl) (by kernel_rfl) (by kernel_rfl) (fun _ _ _ h => h) (by rfl) HS ?_
            simp only [Act.put, List.setIfInBounds_toArray, List.set_cons_zero, List.set_cons_succ]
            refine handSkip 8 (some 47) rfl rfl (by kernel_rfl) (by kernel_rfl) (by kernel_rfl) (fun _ _ _ h => h) (by rfl) HS ?_
            simp only [Act.put, List.setIfInBounds_toArray, List.set_cons_zero, List.set_cons_succ]
            refine handSkip 9 (some 48) rfl rfl (by kernel_rfl) (by kernel_rfl) (by kernel_rfl) (fun _ _ _ h => h) (by rfl) HS ?_
            simp only [Act.put, List.setIfInBounds_toArray, List.set_cons_zero, List.set_cons_succ]
            refine handSkip 10 (some 49) rfl rfl (by kernel_rfl) (by kernel_rfl) (by kernel_rfl) (fun _ _ _ h => h) (by rfl) HS ?_
            simp only [Act.put, List.setIfInBounds_toArray, List.set_cons_zero, List.set_cons_succ]
            refine handSkip 11 (some 50) rfl rfl (by kernel_rfl) (by kernel_rfl) (by kernel_rfl) (fun _ _ _ h => h) (by rfl) HS ?_
            simp only [Act.put, List.setIfInBounds_toArray, List.set_cons_zero, List.set_cons_succ]
            refine handSkip 12 (some 51) rfl rfl (by kernel_rfl) (by kernel_rfl) (by kernel_rfl) (fun _ _ _ h => h) (by rfl) HS ?_
            simp only [Act.put, List.setIfInBounds_toArray, List.set_cons_zero, List.set_cons_succ]
            refine handSkip 13 (some 52) rfl rfl (by kernel_rfl) (by kernel_rfl) (by kernel_rfl) (fun _ _ _ h => h) (by rfl) HS ?_
            simp only [Act.put, List.setIfInBounds_toArray, List.set_cons_zero, List.set_cons_succ]
            refine handSkip 14 (some 53) rfl rfl (by kernel_rfl) (by kernel_rfl) (by kernel_rfl) (fun _ _ _ h => h) (by rfl) HS ?_
            simp only [Act.put, List.setIfInBounds_toArray, List.set_cons_zero, List.set_cons_succ]
            refine handSkip 15 (some 54) rfl rfl (by kernel_rfl) (by kernel_rfl) (by kernel_rfl) (fun _ _ _ h => h) (by rfl) HS ?_
            simp only [Act.put, List.setIfInBounds_toArray, List.set_cons_zero, List.set_cons_succ]
            refine handSkip 16 (some 55) rfl rfl (by kernel_rfl) (by kernel_rfl) (by kernel_rfl) (fun _ _ _ h => h) (by rfl) HS ?_
            simp only [Act.put, List.setIfInBounds_toArray, List.set_cons_zero, List.set_cons_succ]
            refine handSkip 17 (some 56) rfl rfl (by kernel_rfl) (by kernel_rfl) (by kernel_rfl) (fun _ _ _ h => h) (by rfl) HS ?_
            simp only [Act.put, List.setIfInBounds_toArray, List.set_cons_zero, List.set_cons_succ]
            refine handSkip 18 (some 57) rfl rfl (by kernel_rfl) (by kernel_rfl) (by kernel_rfl) (fun _ _ _ h => h) (by rfl) HS ?_
            simp only [Act.put, List.setIfInBounds_toArray, List.set_cons_zero, List.set_cons_succ]
            refine handSkip 19 (some 58) rfl rfl (by kernel_rfl) (by kernel_rfl) (by kernel_rfl) (fun _ _ _ h => h) (by rfl) HS ?_
            simp only [Act.put, List.setIfInBounds_toArray, List.set_cons_zero, List.set_cons_succ]
            refine handSkip 20 (some 59) rfl rfl (by kernel_rfl) (by kernel_rfl) (by kernel_rfl) (fun _ _ _ h => h) (by rfl) HS ?_
            simp only [Act.put, List.setIfInBounds_toArray, List.set_cons_zero, List.set_cons_succ]
            refine handSkip 21 (some 60) rfl rfl (by kernel_rfl) (by kernel_rfl) (by kernel_rfl) (fun _ _ _ h => h) (by rfl) HS ?_
            simp only [Act.put, List.setIfInBounds_toArray, List.set_cons_zero, List.set_cons_succ]
            refine handTake 22 (some 61) ?_ rfl rfl (by kernel_rfl) (by kernel_rfl) (by kernel_rfl) (fun _ _ _ h => h) (by rfl) ?_ HS ?_
            rotate_left
            · (intro u hu; (try dsimp only at hu); go_simp; try with_reducible rfl)
            simp only [Act.put, List.setIfInBounds_toArray, List.set_cons_zero, List.set_cons_succ]
            refine wpAnyH_done (by kernel_rfl) ?_ _
            clear HS
            go_wp2_with fail
            go_roundw
            case rel => exact ⟨k + 1, g, by omega, by go_num, by rw [G1.out]; try go_num, rfl, by rw [HG.out]; exact HAT.out, HX.out.drew⟩
            case measure => show N - ((k : Int) + 1).toNat < N - (k : Int).toNat; omega
      · have e : k = N := by omega
        subst e
        have hE : L.take k = L := by rw [← HN.out, List.take_length]
        rw [hE] at HAT c1 ⊢
        have MO := Lib.hid (most_any (k : Int) wr)
        have H4 := Lib.hid (counts4 L)
        have hM4 := most_le (k : Int)
        obtain ⟨m1, hm1⟩ : ∃ m, cntF knownR L = m := ⟨_, rfl⟩
        rw [hm1] at H4 c1 ⊢
        obtain ⟨M, hMM⟩ : ∃ m, mostN (k : Int) = m := ⟨_, rfl⟩
        have HMM := Lib.hid hMM
        rw [hMM] at MO hM4
        clear hm1 hE hMM hat
        go_wp2_with fail
        refine MO.out.mono ?_
        rintro e u ⟨rfl, rfl⟩
        clear MO
        by_cases hm : (m1 : Int) < (M : Int)
        · go_wp2_with fail
          go_ret
          exact ⟨rfl, HX.out⟩
        · rcases HAT.out with ⟨rfl, hnone⟩ | ⟨j, hj, rfl, hsome⟩
          · clear hnone HAT
            go_wp2_with fail
            go_ret
            exact ⟨rfl, HX.out⟩
          · have hj0 : (0 : Int) ≤ (j : Int) := by omega
            have hj1 : (j : Int) < (k : Int) := by rw [← HN.out]; omega
            have hj2 : ¬ (j : Int) < 0 := by omega
            have HGP : Hid ((∀ y ∈ L, y.st = 3 → lessB L[j].b y.b = false) → decR (k : Int) L = (2, L[j].e, 0)) := fun hl => greatest_plain HBAD.out hsome (by rw [HMM.out]; have := H4.out; rw [HN.out] at this; omega) hl
            have C2 : Hid (∀ u : World, Below w.heap.size w u → u.cell? ⟨b, o + j * 11 + 1, none⟩ = some (.int .u8 (L[j].st : Nat)) ∧ u.cell? ⟨b, o + j * 11 + 2, none⟩ = some (.int .i64 L[j].b.r) ∧ u.cell? ⟨b, o + j * 11 + 3, none⟩ = some (.int .i64 L[j].b.p)) := fun u hu => HC3.out j hj u hu
            have HCJ : Hid (∀ u : World, Below w.heap.size w u → ∀ i x, (rpC L[j])[i]? = some x → u.cell? ⟨b, o + j * 11 + i, none⟩ = some x) := fun u hu i x h => HC.out j hj u hu i x h
            clear hsome HAT
            generalize L[j] = y at HGP C2 HCJ
            obtain ⟨yi, ys, ⟨yr, yp⟩, ⟨gk, gc, gq, ⟨qk, qa, qb, qc⟩⟩⟩ := y
            dsimp only at HGP C2
            go_wp2_with fail
            rw [decide_eq_false (show ¬ m1 < M by omega), Bool.false_or]
            go_loopw [8] (fun iv wr => ∃ i : Nat, i ≤ k ∧ iv = .int .i64 i ∧ (∀ y ∈ L.take i, y.st = 3 → lessB ⟨yr, yp⟩ y.b = false) ∧ Below w.heap.size w wr) (fun iv _ => k - (intOf iv).toNat)
            case atStart => exact ⟨0, Nat.zero_le _, rfl, by simp, HX.out⟩
            case round =>
              obtain ⟨i, hi9, rfl, hall, hx⟩ := hrel
              have HXI := Lib.hid hx
              have zi := hx.size
              have HALL := Lib.hid hall
              clear hx hall
              have hi0 : (0 : Int) ≤ (i : Int) := by omega
              by_cases hil : i < k
              · have hl : i < L.length := by rw [HN.out]; exact hil
                have hi1 : (i : Int) < (k : Int) := by omega
                have C1 : Hid (∀ u : World, Below w.heap.size w u → u.cell? ⟨b, o + i * 11 + 1, none⟩ = some (.int .u8 (L[i].st : Nat)) ∧ u.cell? ⟨b, o + i * 11 + 2, none⟩ = some (.int .i64 L[i].b.r) ∧ u.cell? ⟨b, o + i * 11 + 3, none⟩ = some (.int .i64 L[i].b.p)) := fun u hu => HC3.out i hl u hu
                have HNX : Hid ((L[i].st = 3 → lessB ⟨yr, yp⟩ L[i].b = false) → ∀ y ∈ L.take (i + 1), y.st = 3 → lessB ⟨yr, yp⟩ y.b = false) := fun h y hy => by
                  rw [List.take_succ_eq_append_getElem hl, List.mem_append, List.mem_singleton] at hy
                  rcases hy with hy | rfl
                  · exact HALL.out y hy
                  · exact h
                generalize L[i] = x at C1 HNX
                obtain ⟨xi, xs, ⟨xr, xp⟩, ⟨ek, ec, eq, ⟨ok, oa, ob, oc⟩⟩⟩ := x
                dsimp only at C1 HNX
                by_cases hst : xs = 3
                · subst hst
                  have RL := less_any ⟨yr, yp⟩ ⟨xr, xp⟩
                  simp only [Ba.cells] at RL
                  cases hls : lessB ⟨yr, yp⟩ ⟨xr, xp⟩
                  · rw [hls] at RL
                    have RL := Lib.hid RL
                    have HL2 := Lib.hid hls
                    have SOF : Hid (∀ u : World, Below w.heap.size w u → (u.cell? ⟨b, o + i * 11 + 1, none⟩ = some (.int .u8 ((3 : Nat) : Int)) ∧ u.cell? ⟨b, o + i * 11 + 2, none⟩ = some (.int .i64 xr) ∧ u.cell? ⟨b, o + i * 11 + 3, none⟩ = some (.int .i64 xp) ∧ u.cell? ⟨b, o + j * 11 + 1, none⟩ = some (.int .u8 (ys : Nat)) ∧ u.cell? ⟨b, o + j * 11 + 2, none⟩ = some (.int .i64 yr) ∧ u.cell? ⟨b, o + j * 11 + 3, none⟩ = some (.int .i64 yp))) := fun u hu => ⟨(C1.out u hu).1, (C1.out u hu).2.1, (C1.out u hu).2.2, (C2.out u hu).1, (C2.out u hu).2.1, (C2.out u hu).2.2⟩
                    clear hls
                    go_wp2_with fail
                    refine wp_region_held_drew (S := (fun u : World => u.cell? ⟨b, o + i * 11 + 1, none⟩ = some (.int .u8 ((3 : Nat) : Int)) ∧ u.cell? ⟨b, o + i * 11 + 2, none⟩ = some (.int .i64 xr) ∧ u.cell? ⟨b, o + i * 11 + 3, none⟩ = some (.int .i64 xp) ∧ u.cell? ⟨b, o + j * 11 + 1, none⟩ = some (.int .u8 (ys : Nat)) ∧ u.cell? ⟨b, o + j * 11 + 2, none⟩ = some (.int .i64 yr) ∧ u.cell? ⟨b, o + j * 11 + 3, none⟩ = some (.int .i64 yp))) (by kernel_rfl) (SOF.out _ HXI.out.drew) (fun HS => ?_)
                    refine handTake 0 (some 76) ?_ rfl rfl (by kernel_rfl) (by kernel_rfl) (by kernel_rfl) (fun _ _ _ h => h) (by rfl) ?_ HS ?_
                    rotate_left
                    · (intro u hu; (try dsimp only at hu); go_simp; try with_reducible rfl)
                    simp only [Act.put, List.setIfInBounds_toArray, List.set_cons_zero, List.set_cons_succ]
                    refine handTake 1 (some 77) ?_ rfl rfl (by kernel_rfl) (by kernel_rfl) (by kernel_rfl) (fun _ _ _ h => h) (by rfl) ?_ HS ?_
                    rotate_left
                    · (intro u hu; (try dsimp only at hu); go_simp; try with_reducible rfl)
                    simp only [Act.put, List.setIfInBounds_toArray, List.set_cons_zero, List.set_cons_succ]
                    refine handTake 2 (some 78) ?_ rfl rfl (by kernel_rfl) (by kernel_rfl) (by kernel_rfl) (fun _ _ _ h => h) (by rfl) ?_ HS ?_
                    rotate_left
                    · (intro u hu; (try dsimp only at hu); go_simp; try with_reducible rfl)
                    simp only [Act.put, List.setIfInBounds_toArray, List.set_cons_zero, List.set_cons_succ]
                    refine handTake 3 (some 79) ?_ rfl rfl (by kernel_rfl) (by kernel_rfl) (by kernel_rfl) (fun _ _ _ h => h) (by rfl) ?_ HS ?_
                    rotate_left
                    · (intro u hu; (try dsimp only at hu); go_simp; try with_reducible rfl)
                    simp only [Act.put, List.setIfInBounds_toArray, List.set_cons_zero, List.set_cons_succ]
                    refine handTake 4 (some 80) ?_ rfl rfl (by kernel_rfl) (by kernel_rfl) (by kernel_rfl) (fun _ _ _ h => h) (by rfl) ?_ HS ?_
                    rotate_left
                    · (intro u hu; (try dsimp only at hu); go_simp; try with_reducible rfl)
                    simp only [Act.put, List.setIfInBounds_toArray, List.set_cons_zero, List.set_cons_succ]
                    refine handTake 5 (some 81) ?_ rfl rfl (by kernel_rfl) (by kernel_rfl) (by kernel_rfl) (fun _ _ _ h => h) (by rfl) ?_ HS ?_
                    rotate_left
                    · (intro u hu; (try dsimp only at hu); go_simp; try with_reducible rfl)
                    simp only [Act.put, List.setIfInBounds_toArray, List.set_cons_zero, List.set_cons_succ]
                    refine handTake 6 (some 82) ?_ rfl rfl (by kernel_rfl) (by kernel_rfl) (by kernel_rfl) (fun _ _ _ h => h) (by rfl) ?_ HS ?_
                    rotate_left
                    · (intro u hu; (try dsimp only at hu); go_simp; try with_reducible rfl)
                    simp only [Act.put, List.setIfInBounds_toArray, List.set_cons_zero, List.set_cons_succ]
                    refine handTake 7 (some 83) ?_ rfl rfl (by kernel_rfl) (by kernel_rfl) (by kernel_rfl) (fun _ _ _ h => h) (by rfl) ?_ HS ?_
                    rotate_left
                    · (intro u hu; (try dsimp only at hu); go_simp; try with_reducible rfl)
                    simp only [Act.put, List.setIfInBounds_toArray, List.set_cons_zero, List.set_cons_succ]
                    refine handTake 8 (some 84) ?_ rfl rfl (by kernel_rfl) (by kernel_rfl) (by kernel_rfl) (fun _ _ _ h => h) (by rfl) ?_ HS ?_
                    rotate_left
                    · (intro u hu; (try dsimp only at hu); go_simp; try with_reducible rfl)
                    simp only [Act.put, List.setIfInBounds_toArray, List.set_cons_zero, List.set_cons_succ]
                    refine handTake 9 (some 85) ?_ rfl rfl (by kernel_rfl) (by kernel_rfl) (by kernel_rfl) (fun _ _ _ h => h) (by rfl) ?_ HS ?_
                    rotate_left
                    · (intro u hu; (try dsimp only at hu); go_simp; try with_reducible rfl)
                    simp only [Act.put, List.setIfInBounds_toArray, List.set_cons_zero, List.set_cons_succ]
                    refine handTake 10 (some 86) ?_ rfl rfl (by kernel_rfl) (by kernel_rfl) (by kernel_rfl) (fun _ _ _ h => h) (by rfl) ?_ HS ?_
                    rotate_left
                    · (intro u hu; (try dsimp only at hu); go_simp; try with_reducible rfl)
                    simp only [Act.put, List.setIfInBounds_toArray, List.set_cons_zero, List.set_cons_succ]
                    refine handTake 11 (some 87) ?_ rfl rfl (by kernel_rfl) (by kernel_rfl) (by kernel_rfl) (fun _ _ _ h => h) (by rfl) ?_ HS ?_
                    rotate_left
                    · (intro u hu; (try dsimp only at hu); go_simp; try with_reducible rfl)
                    simp only [Act.put, List.setIfInBounds_toArray, List.set_cons_zero, List.set_cons_succ]
                    refine handTake 12 (some 88) ?_ rfl rfl (by kernel_rfl) (by kernel_rfl) (by kernel_rfl) (fun _ _ _ h => h) (by rfl) ?_ HS ?_
                    rotate_left
                    · (intro u hu; (try dsimp only at hu); go_simp; try with_reducible rfl)
                    simp only [Act.put, List.setIfInBounds_toArray, List.set_cons_zero, List.set_cons_succ]
                    refine handTake 13 (some 89) ?_ rfl rfl (by kernel_rfl) (by kernel_rfl) (by kernel_rfl) (fun _ _ _ h => h) (by rfl) ?_ HS ?_
                    rotate_left
                    · (intro u hu; (try dsimp only at hu); go_simp; try with_reducible rfl)
                    simp only [Act.put, List.setIfInBounds_toArray, List.set_cons_zero, List.set_cons_succ]
                    refine handTake 14 (some 90) ?_ rfl rfl (by kernel_rfl) (by kernel_rfl) (by kernel_rfl) (fun _ _ _ h => h) (by rfl) ?_ HS ?_
                    rotate_left
                    · (intro u hu; (try dsimp only at hu); go_simp; try with_reducible rfl)
                    simp only [Act.put, List.setIfInBounds_toArray, List.set_cons_zero, List.set_cons_succ]
                    refine handTake 15 (some 91) ?_ rfl rfl (by kernel_rfl) (by kernel_rfl) (by kernel_rfl) (fun _ _ _ h => h) (by rfl) ?_ HS ?_
                    rotate_left
                    · (intro u hu; (try dsimp only at hu); go_simp; try with_reducible rfl)
                    simp only [Act.put, List.setIfInBounds_toArray, List.set_cons_zero, List.set_cons_succ]
                    refine handTake 16 (some 92) ?_ rfl rfl (by kernel_rfl) (by kernel_rfl) (by kernel_rfl) (fun _ _ _ h => h) (by rfl) ?_ HS ?_
                    rotate_left
                    · (intro u hu; (try dsimp only at hu); go_simp; try with_reducible rfl)
                    simp only [Act.put, List.setIfInBounds_toArray, List.set_cons_zero, List.set_cons_succ]
                    refine wpAnyH_ready (rs := [17]) (by kernel_rfl) (by simp) ?_
                    refine AllReadyH.cons rfl (fun K hK => ?_) AllReadyH.nil
                    go_simp
                    clear HS
                    refine (RL.out _).mono ?_
                    rintro e u1 ⟨rfl, hb⟩
                    have HX1 := Lib.hid (HXI.out.drew.trans (hb.mono HXI.out.drew.size))
                    have S1 := Lib.hid (SOF.out _ HX1.out)
                    clear hb
                    go_wp2_with fail
                    refine hK.out _ _ (S1.out) (fun HS => ?_)
                    clear hK
                    try simp only [Act.put, List.setIfInBounds_toArray, List.set_cons_zero, List.set_cons_succ]
                    refine handTake 18 (some 94) ?_ rfl rfl (by kernel_rfl) (by kernel_rfl) (by kernel_rfl) (fun _ _ _ h => h) (by rfl) ?_ HS ?_
                    rotate_left
                    · (intro u hu; (try dsimp only at hu); go_simp; try with_reducible rfl)
                    simp only [Act.put, List.setIfInBounds_toArray, List.set_cons_zero, List.set_cons_succ]
                    refine wpAnyH_done (by kernel_rfl) ?_ _
                    clear HS
                    go_wp2_with fail
                    go_roundw
                    case rel => exact ⟨i + 1, by omega, by go_num, HNX.out (fun _ => HL2.out), HX1.out⟩
                    case measure => show k - ((i : Int) + 1).toNat < k - (i : Int).toNat; omega
                  · rw [hls] at RL
                    have RL := Lib.hid RL
                    have HL2 := Lib.hid hls
                    have SOF : Hid (∀ u : World, Below w.heap.size w u → (u.cell? ⟨b, o + i * 11 + 1, none⟩ = some (.int .u8 ((3 : Nat) : Int)) ∧ u.cell? ⟨b, o + i * 11 + 2, none⟩ = some (.int .i64 xr) ∧ u.cell? ⟨b, o + i * 11 + 3, none⟩ = some (.int .i64 xp) ∧ u.cell? ⟨b, o + j * 11 + 1, none⟩ = some (.int .u8 (ys : Nat)) ∧ u.cell? ⟨b, o + j * 11 + 2, none⟩ = some (.int .i64 yr) ∧ u.cell? ⟨b, o + j * 11 + 3, none⟩ = some (.int .i64 yp))) := fun u hu => ⟨(C1.out u hu).1, (C1.out u hu).2.1, (C1.out u hu).2.2, (C2.out u hu).1, (C2.out u hu).2.1, (C2.out u hu).2.2⟩
                    clear hls
                    go_wp2_with fail
                    refine wp_region_held_drew (S := (fun u : World => u.cell? ⟨b, o + i * 11 + 1, none⟩ = some (.int .u8 ((3 : Nat) : Int)) ∧ u.cell? ⟨b, o + i * 11 + 2, none⟩ = some (.int .i64 xr) ∧ u.cell? ⟨b, o + i * 11 + 3, none⟩ = some (.int .i64 xp) ∧ u.cell? ⟨b, o + j * 11 + 1, none⟩ = some (.int .u8 (ys : Nat)) ∧ u.cell? ⟨b, o + j * 11 + 2, none⟩ = some (.int .i64 yr) ∧ u.cell? ⟨b, o + j * 11 + 3, none⟩ = some (.int .i64 yp))) (by kernel_rfl) (SOF.out _ HXI.out.drew) (fun HS => ?_)
                    refine handTake 0 (some 76) ?_ rfl rfl (by kernel_rfl) (by kernel_rfl) (by kernel_rfl) (fun _ _ _ h => h) (by rfl) ?_ HS ?_
                    rotate_left
                    · (intro u hu; (try dsimp only at hu); go_simp; try with_reducible rfl)
                    simp only [Act.put, List.setIfInBounds_toArray, List.set_cons_zero, List.set_cons_succ]
                    refine handTake 1 (some 77) ?_ rfl rfl (by kernel_rfl) (by kernel_rfl) (by kernel_rfl) (fun _ _ _ h => h) (by rfl) ?_ HS ?_
                    rotate_left
                    · (intro u hu; (try dsimp only at hu); go_simp; try with_reducible rfl)
                    simp only [Act.put, List.setIfInBounds_toArray, List.set_cons_zero, List.set_cons_succ]
                    refine handTake 2 (some 78) ?_ rfl rfl (by kernel_rfl) (by kernel_rfl) (by kernel_rfl) (fun _ _ _ h => h) (by rfl) ?_ HS ?_
                    rotate_left
                    · (intro u hu; (try dsimp only at hu); go_simp; try with_reducible rfl)
                    simp only [Act.put, List.setIfInBounds_toArray, List.set_cons_zero, List.set_cons_succ]
                    refine handTake 3 (some 79) ?_ rfl rfl (by kernel_rfl) (by kernel_rfl) (by kernel_rfl) (fun _ _ _ h => h) (by rfl) ?_ HS ?_
                    rotate_left
                    · (intro u hu; (try dsimp only at hu); go_simp; try with_reducible rfl)
                    simp only [Act.put, List.setIfInBounds_toArray, List.set_cons_zero, List.set_cons_succ]
                    refine handTake 4 (some 80) ?_ rfl rfl (by kernel_rfl) (by kernel_rfl) (by kernel_rfl) (fun _ _ _ h => h) (by rfl) ?_ HS ?_
                    rotate_left
                    · (intro u hu; (try dsimp only at hu); go_simp; try with_reducible rfl)
                    simp only [Act.put, List.setIfInBounds_toArray, List.set_cons_zero, List.set_cons_succ]
                    refine handTake 5 (some 81) ?_ rfl rfl (by kernel_rfl) (by kernel_rfl) (by kernel_rfl) (fun _ _ _ h => h) (by rfl) ?_ HS ?_
                    rotate_left
                    · (intro u hu; (try dsimp only at hu); go_simp; try with_reducible rfl)
                    simp only [Act.put, List.setIfInBounds_toArray, List.set_cons_zero, List.set_cons_succ]
                    refine handTake 6 (some 82) ?_ rfl rfl (by kernel_rfl) (by kernel_rfl) (by kernel_rfl) (fun _ _ _ h => h) (by rfl) ?_ HS ?_
                    rotate_left
                    · (intro u hu; (try dsimp only at hu); go_simp; try with_reducible rfl)
                    simp only [Act.put, List.setIfInBounds_toArray, List.set_cons_zero, List.set_cons_succ]
                    refine handTake 7 (some 83) ?_ rfl rfl (by kernel_rfl) (by kernel_rfl) (by kernel_rfl) (fun _ _ _ h => h) (by rfl) ?_ HS ?_
                    rotate_left
                    · (intro u hu; (try dsimp only at hu); go_simp; try with_reducible rfl)
                    simp only [Act.put, List.setIfInBounds_toArray, List.set_cons_zero, List.set_cons_succ]
                    refine handTake 8 (some 84) ?_ rfl rfl (by kernel_rfl) (by kernel_rfl) (by kernel_rfl) (fun _ _ _ h => h) (by rfl) ?_ HS ?_
                    rotate_left
                    · (intro u hu; (try dsimp only at hu); go_simp; try with_reducible rfl)
                    simp only [Act.put, List.setIfInBounds_toArray, List.set_cons_zero, List.set_cons_succ]
                    refine handTake 9 (some 85) ?_ rfl rfl (by kernel_rfl) (by kernel_rfl) (by kernel_rfl) (fun _ _ _ h => h) (by rfl) ?_ HS ?_
                    rotate_left
                    · (intro u hu; (try dsimp only at hu); go_simp; try with_reducible rfl)
                    simp only [Act.put, List.setIfInBounds_toArray, List.set_cons_zero, List.set_cons_succ]
                    refine handTake 10 (some 86) ?_ rfl rfl (by kernel_rfl) (by kernel_rfl) (by kernel_rfl) (fun _ _ _ h => h) (by rfl) ?_ HS ?_
                    rotate_left
                    · (intro u hu; (try dsimp only at hu); go_simp; try with_reducible rfl)
                    simp only [Act.put, List.setIfInBounds_toArray, List.set_cons_zero, List.set_cons_succ]
                    refine handTake 11 (some 87) ?_ rfl rfl (by kernel_rfl) (by kernel_rfl) (by kernel_rfl) (fun _ _ _ h => h) (by rfl) ?_ HS ?_
                    rotate_left
                    · (intro u hu; (try dsimp only at hu); go_simp; try with_reducible rfl)
                    simp only [Act.put, List.setIfInBounds_toArray, List.set_cons_zero, List.set_cons_succ]
                    refine handTake 12 (some 88) ?_ rfl rfl (by kernel_rfl) (by kernel_rfl) (by kernel_rfl) (fun _ _ _ h => h) (by rfl) ?_ HS ?_
                    rotate_left
                    · (intro u hu; (try dsimp only at hu); go_simp; try with_reducible rfl)
                    simp only [Act.put, List.setIfInBounds_toArray, List.set_cons_zero, List.set_cons_succ]
                    refine handTake 13 (some 89) ?_ rfl rfl (by kernel_rfl) (by kernel_rfl) (by kernel_rfl) (fun _ _ _ h => h) (by rfl) ?_ HS ?_
                    rotate_left
                    · (intro u hu; (try dsimp only at hu); go_simp; try with_reducible rfl)
                    simp only [Act.put, List.setIfInBounds_toArray, List.set_cons_zero, List.set_cons_succ]
                    refine handTake 14 (some 90) ?_ rfl rfl (by kernel_rfl) (by kernel_rfl) (by kernel_rfl) (fun _ _ _ h => h) (by rfl) ?_ HS ?_
                    rotate_left
                    · (intro u hu; (try dsimp only at hu); go_simp; try with_reducible rfl)
                    simp only [Act.put, List.setIfInBounds_toArray, List.set_cons_zero, List.set_cons_succ]
                    refine handTake 15 (some 91) ?_ rfl rfl (by kernel_rfl) (by kernel_rfl) (by kernel_rfl) (fun _ _ _ h => h) (by rfl) ?_ HS ?_
                    rotate_left
                    · (intro u hu; (try dsimp only at hu); go_simp; try with_reducible rfl)
                    simp only [Act.put, List.setIfInBounds_toArray, List.set_cons_zero, List.set_cons_succ]
                    refine handTake 16 (some 92) ?_ rfl rfl (by kernel_rfl) (by kernel_rfl) (by kernel_rfl) (fun _ _ _ h => h) (by rfl) ?_ HS ?_
                    rotate_left
                    · (intro u hu; (try dsimp only at hu); go_simp; try with_reducible rfl)
                    simp only [Act.put, List.setIfInBounds_toArray, List.set_cons_zero, List.set_cons_succ]
                    refine wpAnyH_ready (rs := [17]) (by kernel_rfl) (by simp) ?_
                    refine AllReadyH.cons rfl (fun K hK => ?_) AllReadyH.nil
                    go_simp
                    clear HS
                    refine (RL.out _).mono ?_
                    rintro e u1 ⟨rfl, hb⟩
                    have HX1 := Lib.hid (HXI.out.drew.trans (hb.mono HXI.out.drew.size))
                    have S1 := Lib.hid (SOF.out _ HX1.out)
                    clear hb
                    go_wp2_with fail
                    refine hK.out _ _ (S1.out) (fun HS => ?_)
                    clear hK
                    try simp only [Act.put, List.setIfInBounds_toArray, List.set_cons_zero, List.set_cons_succ]
                    refine handTake 18 (some 94) ?_ rfl rfl (by kernel_rfl) (by kernel_rfl) (by kernel_rfl) (fun _ _ _ h => h) (by rfl) ?_ HS ?_
                    rotate_left
                    · (intro u hu; (try dsimp only at hu); go_simp; try with_reducible rfl)
                    simp only [Act.put, List.setIfInBounds_toArray, List.set_cons_zero, List.set_cons_succ]
                    refine wpAnyH_done (by kernel_rfl) ?_ _
                    clear HS
                    go_wp2_with fail
                    go_ret
                    exact ⟨rfl, HX1.out⟩
                · have hne : ((xs : Int) == 3) = false := by simp; omega
                  have HS3 := Lib.hid hst
                  clear hst
                  go_wp2_with fail
                  refine wp_region_held_drew (S := (fun u : World => u.cell? ⟨b, o + i * 11 + 1, none⟩ = some (.int .u8 (xs : Nat)))) (by kernel_rfl) ((C1.out _ HXI.out.drew).1) (fun HS => ?_)
                  refine handTake 0 (some 76) ?_ rfl rfl (by kernel_rfl) (by kernel_rfl) (by kernel_rfl) (fun _ _ _ h => h) (by rfl) ?_ HS ?_
                  rotate_left
                  · (intro u hu; (try dsimp only at hu); go_simp; try with_reducible rfl)
                  simp only [Act.put, List.setIfInBounds_toArray, List.set_cons_zero, List.set_cons_succ]
                  refine handTake 1 (some 77) ?_ rfl rfl (by kernel_rfl) (by kernel_rfl) (by kernel_rfl) (fun _ _ _ h => h) (by rfl) ?_ HS ?_
                  rotate_left
                  · (intro u hu; (try dsimp only at hu); go_simp; try with_reducible rfl)
                  simp only [Act.put, List.setIfInBounds_toArray, List.set_cons_zero, List.set_cons_succ]
                  refine handTake 2 (some 78) ?_ rfl rfl (by kernel_rfl) (by kernel_rfl) (by kernel_rfl) (fun _ _ _ h => h) (by rfl) ?_ HS ?_
                  rotate_left
                  · (intro u hu; (try dsimp only at hu); go_simp; try with_reducible rfl)
                  simp only [Act.put, List.setIfInBounds_toArray, List.set_cons_zero, List.set_cons_succ]
                  refine handTake 3 (some 79) ?_ rfl rfl (by kernel_rfl) (by kernel_rfl) (by kernel_rfl) (fun _ _ _ h => h) (by rfl) ?_ HS ?_
                  rotate_left
                  · (intro u hu; (try dsimp only at hu); go_simp; try with_reducible rfl)
                  simp only [Act.put, List.setIfInBounds_toArray, List.set_cons_zero, List.set_cons_succ]
                  refine handTake 4 (some 80) ?_ rfl rfl (by kernel_rfl) (by kernel_rfl) (by kernel_rfl) (fun _ _ _ h => h) (by rfl) ?_ HS ?_
                  rotate_left
                  · (intro u hu; (try dsimp only at hu); go_simp; try with_reducible rfl)
                  simp only [Act.put, List.setIfInBounds_toArray, List.set_cons_zero, List.set_cons_succ]
                  refine handTake 5 (some 81) ?_ rfl rfl (by kernel_rfl) (by kernel_rfl) (by kernel_rfl) (fun _ _ _ h => h) (by rfl) ?_ HS ?_
                  rotate_left
                  · (intro u hu; (try dsimp only at hu); go_simp; try with_reducible rfl)
                  simp only [Act.put, List.setIfInBounds_toArray, List.set_cons_zero, List.set_cons_succ]
                  refine handTake 6 (some 82) ?_ rfl rfl (by kernel_rfl) (by kernel_rfl) (by kernel_rfl) (fun _ _ _ h => h) (by rfl) ?_ HS ?_
                  rotate_left
                  · (intro u hu; (try dsimp only at hu); go_simp; try with_reducible rfl)
                  simp only [Act.put, List.setIfInBounds_toArray, List.set_cons_zero, List.set_cons_succ]
                  refine handSkip 7 (some 83) rfl rfl (by kernel_rfl) (by kernel_rfl) (by kernel_rfl) (fun _ _ _ h => h) (by rfl) HS ?_
                  simp only [Act.put, List.setIfInBounds_toArray, List.set_cons_zero, List.set_cons_succ]
                  refine handSkip 8 (some 84) rfl rfl (by kernel_rfl) (by kernel_rfl) (by kernel_rfl) (fun _ _ _ h => h) (by rfl) HS ?_
                  simp only [Act.put, List.setIfInBounds_toArray, List.set_cons_zero, List.set_cons_succ]
                  refine handSkip 9 (some 85) rfl rfl (by kernel_rfl) (by kernel_rfl) (by kernel_rfl) (fun _ _ _ h => h) (by rfl) HS ?_
                  simp only [Act.put, List.setIfInBounds_toArray, List.set_cons_zero, List.set_cons_succ]
                  refine handSkip 10 (some 86) rfl rfl (by kernel_rfl) (by kernel_rfl) (by kernel_rfl) (fun _ _ _ h => h) (by rfl) HS ?_
                  simp only [Act.put, List.setIfInBounds_toArray, List.set_cons_zero, List.set_cons_succ]
                  refine handSkip 11 (some 87) rfl rfl (by kernel_rfl) (by kernel_rfl) (by kernel_rfl) (fun _ _ _ h => h) (by rfl) HS ?_
                  simp only [Act.put, List.setIfInBounds_toArray, List.set_cons_zero, List.set_cons_succ]
                  refine handSkip 12 (some 88) rfl rfl (by kernel_rfl) (by kernel_rfl) (by kernel_rfl) (fun _ _ _ h => h) (by rfl) HS ?_
                  simp only [Act.put, List.setIfInBounds_toArray, List.set_cons_zero, List.set_cons_succ]
                  refine handSkip 13 (some 89) rfl rfl (by kernel_rfl) (by kernel_rfl) (by kernel_rfl) (fun _ _ _ h => h) (by rfl) HS ?_
                  simp only [Act.put, List.setIfInBounds_toArray, List.set_cons_zero, List.set_cons_succ]
                  refine handSkip 14 (some 90) rfl rfl (by kernel_rfl) (by kernel_rfl) (by kernel_rfl) (fun _ _ _ h => h) (by rfl) HS ?_
                  simp only [Act.put, List.setIfInBounds_toArray, List.set_cons_zero, List.set_cons_succ]
                  refine handSkip 15 (some 91) rfl rfl (by kernel_rfl) (by kernel_rfl) (by kernel_rfl) (fun _ _ _ h => h) (by rfl) HS ?_
                  simp only [Act.put, List.setIfInBounds_toArray, List.set_cons_zero, List.set_cons_succ]
                  refine handSkip 16 (some 92) rfl rfl (by kernel_rfl) (by kernel_rfl) (by kernel_rfl) (fun _ _ _ h => h) (by rfl) HS ?_
                  simp only [Act.put, List.setIfInBounds_toArray, List.set_cons_zero, List.set_cons_succ]
                  refine handSkip 17 (some 93) rfl rfl (by kernel_rfl) (by kernel_rfl) (by kernel_rfl) (fun _ _ _ h => h) (by rfl) HS ?_
                  simp only [Act.put, List.setIfInBounds_toArray, List.set_cons_zero, List.set_cons_succ]
                  refine handTake 18 (some 94) ?_ rfl rfl (by kernel_rfl) (by kernel_rfl) (by kernel_rfl) (fun _ _ _ h => h) (by rfl) ?_ HS ?_
                  rotate_left
                  · (intro u hu; (try dsimp only at hu); go_simp; try with_reducible rfl)
                  simp only [Act.put, List.setIfInBounds_toArray, List.set_cons_zero, List.set_cons_succ]
                  refine wpAnyH_done (by kernel_rfl) ?_ _
                  clear HS
                  go_wp2_with fail
                  go_roundw
                  case rel => exact ⟨i + 1, by omega, by go_num, HNX.out (fun h => absurd h HS3.out), HXI.out.drew⟩
                  case measure => show k - ((i : Int) + 1).toNat < k - (i : Int).toNat; omega
              · have e : i = k := by omega
                subst e
                have hE : L.take i = L := by rw [← HN.out, List.take_length]
                have hall := HALL.out
                rw [hE] at hall
                have hd := HGP.out hall
                have HRI : Row wr wr.heap.size (.slice (some ⟨b, o, none⟩) i c) i (L.flatMap rpC) := by
                  have h := HR0.out
                  rw [HN.out] at h
                  exact (h.below HXI.out).more zi
                have D1 := dec_any _ L hd (.slice (some ⟨b, o, none⟩) L.length c) wr (by rw [HN.out]; exact HRI)
                simp only [enC] at D1
                rw [HN.out] at D1
                have D1 := Lib.hid D1
                have QE := eqE_self (gk : Nat) gc gq (qk : Nat) qa qb qc
                clear hE hall hd HRI HGP
                go_wp2_with fail
                refine D1.out.mono ?_
                rintro e u2 ⟨rfl, hx⟩
                have HX2 := Lib.hid (HXI.out.trans (hx.mono zi))
                have z2 := HX2.out.size
                clear hx D1
                obtain ⟨x3, hx3⟩ : ∃ u : World, u = u2.alloc (.cells #[.int .u8 (gk : Nat), .int .i64 gc, .int .i64 gq, .int .u8 (qk : Nat), .string qa, .string qb, .string qc] 31) := ⟨_, rfl⟩
                have EX : Whole x3 u2.heap.size 31 [.int .u8 (gk : Nat), .int .i64 gc, .int .i64 gq, .int .u8 (qk : Nat), .string qa, .string qb, .string qc] := by rw [hx3]; exact Whole.new u2 _ _
                have HX3 : Hid (Below w.heap.size w x3) := by rw [hx3]; exact HX2.out.alloc z2 _
                have hy := HCJ.out x3 HX3.out
                have y4 := hy 4 _ rfl
                have y5 := hy 5 _ rfl
                have y6 := hy 6 _ rfl
                have y7 := hy 7 _ rfl
                have y8 := hy 8 _ rfl
                have y9 := hy 9 _ rfl
                have y10 := hy 10 _ rfl
                have e0 := EX.cell 0; have e1 := EX.cell 1; have e2 := EX.cell 2; have e3 := EX.cell 3; have e4 := EX.cell 4; have e5 := EX.cell 5; have e6 := EX.cell 6
                simp only [List.getElem?_cons_zero, List.getElem?_cons_succ] at e0 e1 e2 e3 e4 e5 e6
                clear hy EX
                go_wp2_with fail
                rw [← hx3]
                clear hx3
                go_quiet (fail)
                go_wp2_with fail
                go_ret
                exact ⟨by simp, below_drewN HX3.out _⟩
  · rw [hb] at HMY
    generalize hN : L.length = N at *
    clear hN hb
    have HB_w := Lib.hid (Below.refl w.heap.size w)
    have R_L_w : Hid (Row w w.heap.size (.slice A N c) N (L.flatMap rpC)) := hr
    clear hr
    go_enter Try.func7, Try.ntmps7
    go_wp2_with fail
    refine (AW.out).mono ?_
    rintro e x1 ⟨rfl, hx⟩
    clear AW
    have HB_x1 := Lib.hid (HB_w.out.trans (Below.mono hx (HB_w.out.size)))
    have R_L_x1 : Hid (Row x1 x1.heap.size (.slice A N c) N (L.flatMap rpC)) := (R_L_w.out.below hx).more (Below.size hx)
    clear hx HB_w R_L_w
    go_wp2_with fail
    have MY := HMY.out _ R_L_x1.out
    refine MY.mono ?_
    rintro e u ⟨rfl, rfl⟩
    clear MY HMY
    go_wp2_with fail
    go_ret
    exact ⟨rfl, HB_x1.out⟩
end Ch
end Go.Proofs.Ytpgejomhcojppaa
