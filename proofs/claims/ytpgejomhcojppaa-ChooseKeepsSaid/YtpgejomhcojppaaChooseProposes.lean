/- A candidate asks some, and proposes: proposes, walked. -/
import Derived.Test.YtpgejomhcojppaaChooseProp0
import Derived.Deep.Cut
import Derived.Deep.RegionHeld3
set_option linter.unusedSimpArgs false
set_option linter.unusedVariables false
namespace Go.Proofs.Ytpgejomhcojppaa
open Go.RowKit
namespace Ch
open Bl Qm
set_option maxRecDepth 100000 in
set_option maxHeartbeats 32000000 in
theorem proposes_is (s : Sl) (hn : s.n = 3 ∨ s.n = 5 ∨ s.n = 7) (hl : s.ps.length = 7) (hqs : s.qs.length ≤ 1000) (who : Nat) (hwho : who < s.n) (so : Nat) (hso : so < 256) (g : Nat) (pv : Value) {w0 : World} {l : List It} {w : World}
    (hS : Sep w0 (sI w0.heap.size g pv s ++ l) w) :
    Calls Try.prog 12 #[.pointer (some ⟨g, 0, none⟩), .int .i64 who, .int .u8 (so : Nat)] w fun e w' => e = .returned (.bool (proposes s who so).2) ∧ ∃ pv', Sep w0 (sI w0.heap.size g pv' (proposes s who so).1 ++ l) w' := by
  obtain ⟨pA, pc, hpv⟩ := sl_form hS
  obtain ⟨N, hN⟩ : ∃ N, s.n = N := ⟨_, rfl⟩
  obtain ⟨M, hM⟩ : ∃ M, s.qs.length = M := ⟨_, rfl⟩
  have hN7 : N ≤ 7 := by omega
  have hN0 : 0 < N := by omega
  have HB1 : Hid (M + 1 ≤ maxLen) := by show M + 1 ≤ maxLen; unfold maxLen; omega
  have HB2 : Hid ((M + 1) * 32 ≤ 140737488355328) := by show (M + 1) * 32 ≤ 140737488355328; omega
  obtain ⟨⟨⟨nr, np⟩, ne⟩, hz⟩ : ∃ z, nextZ (maxN s.ps s.n) (who : Int) (s.n : Int) = z := ⟨_, rfl⟩
  obtain ⟨S, hSS⟩ : ∃ S, addN so (who : Int) = S := ⟨_, rfl⟩
  have hS256 : S < 256 := by rw [← hSS]; exact addN_lt hso _
  obtain ⟨⟨kd, ⟨ek, ec, eq, ⟨ok, oa, ob, oc⟩⟩, fd⟩, hd⟩ : ∃ d, decR (s.n : Int) (askR s ⟨nr, np⟩ S s.n) = d := ⟨_, rfl⟩
  have HPR : Hid (proposes s who so = if ne = 0 then if fd = 0 ∧ kd ≠ 0 then (⟨(askS s ⟨nr, np⟩ S s.n).n, (askS s ⟨nr, np⟩ S s.n).ps, s.qs ++ [⟨⟨nr, np⟩, if kd = 2 then eq else (M : Int) + 1, 0⟩], s.ch, s.cb⟩, true) else (askS s ⟨nr, np⟩ S s.n, false) else (s, false)) := by
    show proposes s who so = _
    unfold proposes
    dsimp only
    rw [hz, hSS]
    dsimp only
    have hd' : decR (s.n : Int) (askN ⟨nr, np⟩ S s.n s.ps s.n).2 = (kd, ⟨ek, ec, eq, ⟨ok, oa, ob, oc⟩⟩, fd) := hd
    rw [hd', hM]
    rfl
  have HD := Lib.hid (dec_any (s.n : Int) (askR s ⟨nr, np⟩ S s.n) hd)
  simp only [enC] at HD
  have hle := decR_two (s.n : Int) (askR s ⟨nr, np⟩ S s.n)
  rw [hd] at hle
  have hle : kd ≤ 2 := hle
  have HAL : Hid (∀ i, i ≤ N → (askS s ⟨nr, np⟩ S i).ps.length = 7 ∧ (askR s ⟨nr, np⟩ S i).length = N) := fun i hi => by
    have := ask_len hl (by omega) ⟨nr, np⟩ S (i := i) (by omega)
    rw [hN] at this; exact this
  have HMX : Hid (∀ i, maxN s.ps (i + 1) = maxL [maxN s.ps i, (s.at_ i).pr]) := fun i => rfl
  have HSA : Hid (∀ (l' : List It) (u : World), Sep w0 (sI w0.heap.size g pv s ++ l') u → SlAt g pv s u) := fun l' u h => sl_at h hl
  have HAA : Hid (∀ i, i ≤ N → ∀ (l' : List It) (u : World), Sep w0 (sI w0.heap.size g pv (askS s ⟨nr, np⟩ S i) ++ l') u → SlAt g pv (askS s ⟨nr, np⟩ S i) u) := fun i hi l' u h => sl_at h (HAL.out i hi).1
  have HNX := Lib.hid (next_lit (maxN s.ps s.n) (who : Int) (s.n : Int) nr np ne hz)
  have HAD := Lib.hid (add_any so hso (who : Int))
  rw [hSS] at HAD
  have HZ0 : Hid (askS s ⟨nr, np⟩ S 0 = s ∧ askR s ⟨nr, np⟩ S 0 = List.replicate N zeroRp) := by show _ ∧ _; rw [← hN]; exact ⟨rfl, rfl⟩
  have HN := Lib.hid hN
  have HM := Lib.hid hM
  have HPV := Lib.hid hpv
  have HND := Lib.hid hn
  have HL7 := Lib.hid hl
  obtain ⟨i0, hi, hz0, hz1, hz2⟩ := info_parts info_rp
  obtain ⟨i1, gi, gz0, gz1, gz2⟩ := info_parts info_pp
  have hzw := hS.size
  obtain ⟨bG, hbG⟩ : ∃ b, w.heap.size = b := ⟨_, rfl⟩
  obtain ⟨x0, hx0⟩ : ∃ u : World, u = w.alloc (.cells #[.int .i64 0, .int .i64 0] 27) := ⟨_, rfl⟩
  have H0 : Hid (Sep w0 (sI w0.heap.size g pv s ++ (.box bG 27 (baC (maxN s.ps 0)) :: l)) x0) := by rw [hx0, ← hbG]; exact Sep.box_new _ hS 27 [.int .i64 0, .int .i64 0]
  rw [hN] at HNX HD HPR
  clear hz hSS hd hS hl hn hN hM hpv hso
  go_enter Try.func12, Try.ntmps12
  go_wp2_with fail
  rw [← hx0]
  try rw [hbG]
  clear hx0 hbG
  go_loopw [8] (fun iv wr => ∃ i : Nat, i ≤ N ∧ iv = .int .i64 i ∧ Sep w0 (sI w0.heap.size g pv s ++ (.box bG 27 (baC (maxN s.ps i)) :: l)) wr) (fun iv _ => N - (intOf iv).toNat)
  case atStart => exact ⟨0, Nat.zero_le _, rfl, H0.out⟩
  case round =>
    obtain ⟨i, hile, rfl, hs⟩ := hrel
    have z := HSA.out _ _ hs
    have c0 := z.n
    rw [HN.out] at c0
    have HS0 := Lib.hid hs
    have hi0 : (0 : Int) ≤ (i : Int) := by omega
    clear hs
    by_cases hlt : i < N
    · have hi7 : i < 7 := by omega
      have hi1 : (i : Int) < (N : Int) := by omega
      have hi71 : (i : Int) < 7 := by omega
      have SOF : Hid (∀ (l' : List It) (u : World), Sep w0 (sI w0.heap.size g pv s ++ l') u → (u.cell? ⟨g, 1 + i * 6, none⟩ = some (.int .i64 (s.at_ i).pr.r) ∧ u.cell? ⟨g, 1 + i * 6 + 1, none⟩ = some (.int .i64 (s.at_ i).pr.p))) := fun l' u h => ⟨(HSA.out l' u h).pl i hi7 0 _ rfl, (HSA.out l' u h).pl i hi7 1 _ rfl⟩
      have HMN := Lib.hid (HMX.out i)
      obtain ⟨⟨xr, xp⟩, hx⟩ : ∃ x, (s.at_ i).pr = x := ⟨_, rfl⟩
      rw [hx] at HMN SOF
      have SOF : Hid (∀ (l' : List It) (u : World), Sep w0 (sI w0.heap.size g pv s ++ l') u → (u.cell? ⟨g, 1 + i * 6, none⟩ = some (.int .i64 xr) ∧ u.cell? ⟨g, 1 + i * 6 + 1, none⟩ = some (.int .i64 xp))) := SOF
      obtain ⟨⟨gr, gp⟩, hgr⟩ : ∃ x, maxN s.ps i = x := ⟨_, rfl⟩
      rw [hgr] at HMN HS0
      obtain ⟨⟨mr, mp⟩, hmr⟩ : ∃ x, maxN s.ps (i + 1) = x := ⟨_, rfl⟩
      rw [hmr] at HMN
      have HMR := Lib.hid hmr
      have HS0 : Hid (Sep w0 (sI w0.heap.size g pv s ++ (.box bG 27 [.int .i64 gr, .int .i64 gp] :: l)) wr) := HS0
      have hbb := HS0.out.box_at
      have g0 := hbb.cell 0; have g1 := hbb.cell 1
      simp only [List.getElem?_cons_zero, List.getElem?_cons_succ] at g0 g1
      have MX := Lib.hid (max_lit ⟨gr, gp⟩ ⟨xr, xp⟩ mr mp HMN.out.symm (.slice (some ⟨wr.heap.size, 0, none⟩) 2 2) ((wr.alloc (.cells #[.int .i64 gr, .int .i64 gp, .int .i64 xr, .int .i64 xp] 27)).drew) (Row.blk ((Whole.new wr 27 [.int .i64 gr, .int .i64 gp, .int .i64 xr, .int .i64 xp]).drew) rfl (by simp) (by simp [maxLen])))
      clear hx hgr hmr hbb z
      go_wp2_with fail
      refine wp_region_held_drew (S := (fun u : World => u.cell? ⟨g, 1 + i * 6, none⟩ = some (.int .i64 xr) ∧ u.cell? ⟨g, 1 + i * 6 + 1, none⟩ = some (.int .i64 xp))) (by kernel_rfl) (SOF.out _ _ HS0.out.drew) (fun HS => ?_)
      refine handTake 1 (some 27) ?_ rfl rfl (by kernel_rfl) (by kernel_rfl) (by kernel_rfl) (fun _ _ _ h => h) (by rfl) ?_ HS ?_
      rotate_left
      · (intro u hu; (try dsimp only at hu); go_simp; try with_reducible rfl)
      simp only [Act.put, List.setIfInBounds_toArray, List.set_cons_zero, List.set_cons_succ]
      refine handTake 2 (some 28) ?_ rfl rfl (by kernel_rfl) (by kernel_rfl) (by kernel_rfl) (fun _ _ _ h => h) (by rfl) ?_ HS ?_
      rotate_left
      · (intro u hu; (try dsimp only at hu); go_simp; try with_reducible rfl)
      simp only [Act.put, List.setIfInBounds_toArray, List.set_cons_zero, List.set_cons_succ]
      refine handTake 3 (some 29) ?_ rfl rfl (by kernel_rfl) (by kernel_rfl) (by kernel_rfl) (fun _ _ _ h => h) (by rfl) ?_ HS ?_
      rotate_left
      · (intro u hu; (try dsimp only at hu); go_simp; try with_reducible rfl)
      simp only [Act.put, List.setIfInBounds_toArray, List.set_cons_zero, List.set_cons_succ]
      refine handTake 4 (some 30) ?_ rfl rfl (by kernel_rfl) (by kernel_rfl) (by kernel_rfl) (fun _ _ _ h => h) (by rfl) ?_ HS ?_
      rotate_left
      · (intro u hu; (try dsimp only at hu); go_simp; try with_reducible rfl)
      simp only [Act.put, List.setIfInBounds_toArray, List.set_cons_zero, List.set_cons_succ]
      refine handTake 5 (some 31) ?_ rfl rfl (by kernel_rfl) (by kernel_rfl) (by kernel_rfl) (fun _ _ _ h => h) (by rfl) ?_ HS ?_
      rotate_left
      · (intro u hu; (try dsimp only at hu); go_simp; try with_reducible rfl)
      simp only [Act.put, List.setIfInBounds_toArray, List.set_cons_zero, List.set_cons_succ]
      refine handTake 6 (some 32) ?_ rfl rfl (by kernel_rfl) (by kernel_rfl) (by kernel_rfl) (fun _ _ _ h => h) (by rfl) ?_ HS ?_
      rotate_left
      · (intro u hu; (try dsimp only at hu); go_simp; try with_reducible rfl)
      simp only [Act.put, List.setIfInBounds_toArray, List.set_cons_zero, List.set_cons_succ]
      refine handTake 7 (some 33) ?_ rfl rfl (by kernel_rfl) (by kernel_rfl) (by kernel_rfl) (fun _ _ _ h => h) (by rfl) ?_ HS ?_
      rotate_left
      · (intro u hu; (try dsimp only at hu); go_simp; try with_reducible rfl)
      simp only [Act.put, List.setIfInBounds_toArray, List.set_cons_zero, List.set_cons_succ]
      refine wpAnyH_ready (rs := [0]) (by kernel_rfl) (by simp) ?_
      refine AllReadyH.cons rfl (fun K hK => ?_) AllReadyH.nil
      clear HS
      go_simp
      refine hK.out _ _ (SOF.out _ _ HS0.out.drew) (fun HS => ?_)
      clear hK
      try simp only [Act.put, List.setIfInBounds_toArray, List.set_cons_zero, List.set_cons_succ]
      refine wpAnyH_ready (rs := [8]) (by kernel_rfl) (by simp) ?_
      refine AllReadyH.cons rfl (fun K hK => ?_) AllReadyH.nil
      clear HS
      go_simp
      refine hK.out _ _ ((SOF.out _ _ (HS0.out.fresh _).drew)) (fun HS => ?_)
      clear hK
      try simp only [Act.put, List.setIfInBounds_toArray, List.set_cons_zero, List.set_cons_succ]
      refine wpAnyH_ready (rs := [9]) (by kernel_rfl) (by simp) ?_
      refine AllReadyH.cons rfl (fun K hK => ?_) AllReadyH.nil
      clear HS
      go_simp
      refine MX.out.mono ?_
      rintro e u2 ⟨rfl, hb⟩
      have HS2 := Lib.hid ((HS0.out.fresh _).drew.call hb)
      clear hb MX
      have hbb := HS2.out.box_at
      have m0 := hbb.cell 0; have m1 := hbb.cell 1; have k0 := hbb.free 0; have k1 := hbb.free 1
      simp only [List.getElem?_cons_zero, List.getElem?_cons_succ] at m0 m1
      have HS3 := Lib.hid ((HS2.out.box_set 0 (.int .i64 mr)).box_set 1 (.int .i64 mp))
      clear hbb
      go_wp2_with fail
      refine hK.out _ _ (SOF.out _ _ HS2.out) (fun HS => ?_)
      clear hK
      try simp only [Act.put, List.setIfInBounds_toArray, List.set_cons_zero, List.set_cons_succ]
      refine wpAnyH_ready (rs := [10]) (by kernel_rfl) (by simp) ?_
      refine AllReadyH.cons rfl (fun K hK => ?_) AllReadyH.nil
      clear HS
      go_simp
      refine hK.out _ _ (SOF.out _ _ HS3.out) (fun HS => ?_)
      clear hK
      try simp only [Act.put, List.setIfInBounds_toArray, List.set_cons_zero, List.set_cons_succ]
      refine wpAnyH_done (by kernel_rfl) ?_ _
      clear HS
      go_wp2_with fail
      go_roundw
      case rel => exact ⟨i + 1, by omega, by go_num, by rw [HMR.out]; exact HS3.out⟩
      case measure => show N - ((i : Int) + 1).toNat < N - (i : Int).toNat; omega
    · have e : i = N := by omega
      subst e
      obtain ⟨⟨gr, gp⟩, hgr⟩ : ∃ x, maxN s.ps i = x := ⟨_, rfl⟩
      rw [hgr] at HNX HS0
      dsimp only at HNX
      have HS0 : Hid (Sep w0 (sI w0.heap.size g pv s ++ (.box bG 27 [.int .i64 gr, .int .i64 gp] :: l)) wr) := HS0
      have SOF : Hid (∀ u : World, Sep w0 (sI w0.heap.size g pv s ++ (.box bG 27 [.int .i64 gr, .int .i64 gp] :: l)) u → (u.cell? ⟨bG, 0, none⟩ = some (.int .i64 gr) ∧ u.cell? ⟨bG, 1, none⟩ = some (.int .i64 gp) ∧ u.cell? ⟨g, 0, none⟩ = some (.int .i64 (i : Nat)))) := fun u h => ⟨h.box_at.cell 0, h.box_at.cell 1, by have := (HSA.out _ _ h).n; rw [HN.out] at this; exact this⟩
      clear hgr z
      go_wp2_with fail
      go_cut [9, 10] from 36 (fun bv ev wx => ∃ bB : Nat, bv = .pointer (some ⟨bB, 0, none⟩) ∧ ev = .int .i64 ne ∧ Sep w0 (sI w0.heap.size g pv s ++ (.box bB 27 [.int .i64 nr, .int .i64 np] :: l)) wx)
      case first =>
        refine wp_region_held_drew (S := (fun u : World => u.cell? ⟨bG, 0, none⟩ = some (.int .i64 gr) ∧ u.cell? ⟨bG, 1, none⟩ = some (.int .i64 gp) ∧ u.cell? ⟨g, 0, none⟩ = some (.int .i64 (i : Nat)))) (by kernel_rfl) (SOF.out _ HS0.out.drew) (fun HS => ?_)
        refine handTake 0 (some 37) ?_ rfl rfl (by kernel_rfl) (by kernel_rfl) (by kernel_rfl) (fun _ _ _ h => h) (by rfl) ?_ HS ?_
        rotate_left
        · (intro u hu; (try dsimp only at hu); go_simp; try with_reducible rfl)
        simp only [Act.put, List.setIfInBounds_toArray, List.set_cons_zero, List.set_cons_succ]
        refine handTake 1 (some 38) ?_ rfl rfl (by kernel_rfl) (by kernel_rfl) (by kernel_rfl) (fun _ _ _ h => h) (by rfl) ?_ HS ?_
        rotate_left
        · (intro u hu; (try dsimp only at hu); go_simp; try with_reducible rfl)
        simp only [Act.put, List.setIfInBounds_toArray, List.set_cons_zero, List.set_cons_succ]
        refine handTake 2 (some 39) ?_ rfl rfl (by kernel_rfl) (by kernel_rfl) (by kernel_rfl) (fun _ _ _ h => h) (by rfl) ?_ HS ?_
        rotate_left
        · (intro u hu; (try dsimp only at hu); go_simp; try with_reducible rfl)
        simp only [Act.put, List.setIfInBounds_toArray, List.set_cons_zero, List.set_cons_succ]
        refine handTake 3 (some 40) ?_ rfl rfl (by kernel_rfl) (by kernel_rfl) (by kernel_rfl) (fun _ _ _ h => h) (by rfl) ?_ HS ?_
        rotate_left
        · (intro u hu; (try dsimp only at hu); go_simp; try with_reducible rfl)
        simp only [Act.put, List.setIfInBounds_toArray, List.set_cons_zero, List.set_cons_succ]
        refine handTake 4 (some 41) ?_ rfl rfl (by kernel_rfl) (by kernel_rfl) (by kernel_rfl) (fun _ _ _ h => h) (by rfl) ?_ HS ?_
        rotate_left
        · (intro u hu; (try dsimp only at hu); go_simp; try with_reducible rfl)
        simp only [Act.put, List.setIfInBounds_toArray, List.set_cons_zero, List.set_cons_succ]
        refine handTake 5 (some 42) ?_ rfl rfl (by kernel_rfl) (by kernel_rfl) (by kernel_rfl) (fun _ _ _ h => h) (by rfl) ?_ HS ?_
        rotate_left
        · (intro u hu; (try dsimp only at hu); go_simp; try with_reducible rfl)
        simp only [Act.put, List.setIfInBounds_toArray, List.set_cons_zero, List.set_cons_succ]
        refine wpAnyH_ready (rs := [6, 10]) (by kernel_rfl) (by simp) ?_
        refine AllReadyH.cons rfl (fun K hK => ?_) ?_
        · clear HS
          go_simp
          refine (HNX.out _).mono ?_
          rintro e u2 ⟨rfl, hb⟩
          have HC2 := Lib.hid (HS0.out.drew.call hb)
          clear hb
          go_wp2_with fail
          refine hK.out _ _ (SOF.out _ HC2.out) (fun HS => ?_)
          clear hK
          try simp only [Act.put, List.setIfInBounds_toArray, List.set_cons_zero, List.set_cons_succ]
          refine handTake 7 (some 36) ?_ rfl rfl (by kernel_rfl) (by kernel_rfl) (by kernel_rfl) (fun _ _ _ h => h) (by rfl) ?_ HS ?_
          rotate_left
          · (intro u hu; (try dsimp only at hu); go_simp; try with_reducible rfl)
          simp only [Act.put, List.setIfInBounds_toArray, List.set_cons_zero, List.set_cons_succ]
          refine handTake 8 (some 44) ?_ rfl rfl (by kernel_rfl) (by kernel_rfl) (by kernel_rfl) (fun _ _ _ h => h) (by rfl) ?_ HS ?_
          rotate_left
          · (intro u hu; (try dsimp only at hu); go_simp; try with_reducible rfl)
          simp only [Act.put, List.setIfInBounds_toArray, List.set_cons_zero, List.set_cons_succ]
          refine handTake 9 (some 45) ?_ rfl rfl (by kernel_rfl) (by kernel_rfl) (by kernel_rfl) (fun _ _ _ h => h) (by rfl) ?_ HS ?_
          rotate_left
          · (intro u hu; (try dsimp only at hu); go_simp; try with_reducible rfl)
          simp only [Act.put, List.setIfInBounds_toArray, List.set_cons_zero, List.set_cons_succ]
          refine wpAnyH_ready (rs := [10]) (by kernel_rfl) (by simp) ?_
          refine AllReadyH.cons rfl (fun K hK => ?_) AllReadyH.nil
          clear HS
          go_simp
          have HB := Lib.hid (HC2.out.box_new (sI w0.heap.size g pv s) 27 [.int .i64 0, .int .i64 0])
          have HB3 := Lib.hid (HC2.out.box_new (sI w0.heap.size g pv s) 27 [.int .i64 nr, .int .i64 np])
          refine hK.out _ _ (SOF.out _ (HB.out.drop (sI w0.heap.size g pv s))) (fun HS => ?_)
          clear hK
          try simp only [Act.put, List.setIfInBounds_toArray, List.set_cons_zero, List.set_cons_succ]
          refine wpAnyH_ready (rs := [11]) (by kernel_rfl) (by simp) ?_
          refine AllReadyH.cons rfl (fun K hK => ?_) AllReadyH.nil
          clear HS
          go_simp
          refine hK.out _ _ (SOF.out _ (HB3.out.drop (sI w0.heap.size g pv s))) (fun HS => ?_)
          clear hK
          try simp only [Act.put, List.setIfInBounds_toArray, List.set_cons_zero, List.set_cons_succ]
          refine handTake 12 (some 10) ?_ rfl rfl (by kernel_rfl) (by kernel_rfl) (by kernel_rfl) (fun _ _ _ h => h) (by rfl) ?_ HS ?_
          rotate_left
          · (intro u hu; (try dsimp only at hu); go_simp; try with_reducible rfl)
          simp only [Act.put, List.setIfInBounds_toArray, List.set_cons_zero, List.set_cons_succ]
          refine wpAnyH_done (by kernel_rfl) ?_ _
          clear HS
          go_wp2_with fail
          go_meet
          exact ⟨_, rfl, rfl, HB3.out.drop2 (sI w0.heap.size g pv s)⟩
        refine AllReadyH.cons rfl (fun K hK => ?_) ?_
        · clear HS
          go_simp
          have HB := Lib.hid ((HS0.out.box_new (sI w0.heap.size g pv s) 27 [.int .i64 0, .int .i64 0]).drew)
          refine hK.out _ _ (SOF.out _ (HB.out.drop (sI w0.heap.size g pv s))) (fun HS => ?_)
          clear hK
          try simp only [Act.put, List.setIfInBounds_toArray, List.set_cons_zero, List.set_cons_succ]
          refine wpAnyH_ready (rs := [6]) (by kernel_rfl) (by simp) ?_
          refine AllReadyH.cons rfl (fun K hK => ?_) AllReadyH.nil
          clear HS
          go_simp
          refine (HNX.out _).mono ?_
          rintro e u2 ⟨rfl, hb⟩
          have HB2 := Lib.hid (HB.out.call hb)
          clear hb
          have hbb := HB2.out.box_at (a := sI w0.heap.size g pv s)
          have m0 := hbb.cell 0; have m1 := hbb.cell 1; have k0 := hbb.free 0; have k1 := hbb.free 1
          simp only [List.getElem?_cons_zero, List.getElem?_cons_succ] at m0 m1
          have HB3 := Lib.hid ((HB2.out.box_set (a := sI w0.heap.size g pv s) 0 (.int .i64 nr)).box_set (a := sI w0.heap.size g pv s) 1 (.int .i64 np))
          clear hbb
          go_wp2_with fail
          refine hK.out _ _ (SOF.out _ (HB2.out.drop (sI w0.heap.size g pv s))) (fun HS => ?_)
          clear hK
          try simp only [Act.put, List.setIfInBounds_toArray, List.set_cons_zero, List.set_cons_succ]
          refine handTake 7 (some 36) ?_ rfl rfl (by kernel_rfl) (by kernel_rfl) (by kernel_rfl) (fun _ _ _ h => h) (by rfl) ?_ HS ?_
          rotate_left
          · (intro u hu; (try dsimp only at hu); go_simp; try with_reducible rfl)
          simp only [Act.put, List.setIfInBounds_toArray, List.set_cons_zero, List.set_cons_succ]
          refine handTake 8 (some 44) ?_ rfl rfl (by kernel_rfl) (by kernel_rfl) (by kernel_rfl) (fun _ _ _ h => h) (by rfl) ?_ HS ?_
          rotate_left
          · (intro u hu; (try dsimp only at hu); go_simp; try with_reducible rfl)
          simp only [Act.put, List.setIfInBounds_toArray, List.set_cons_zero, List.set_cons_succ]
          refine handTake 9 (some 45) ?_ rfl rfl (by kernel_rfl) (by kernel_rfl) (by kernel_rfl) (fun _ _ _ h => h) (by rfl) ?_ HS ?_
          rotate_left
          · (intro u hu; (try dsimp only at hu); go_simp; try with_reducible rfl)
          simp only [Act.put, List.setIfInBounds_toArray, List.set_cons_zero, List.set_cons_succ]
          refine wpAnyH_ready (rs := [11]) (by kernel_rfl) (by simp) ?_
          refine AllReadyH.cons rfl (fun K hK => ?_) AllReadyH.nil
          clear HS
          go_simp
          refine hK.out _ _ (SOF.out _ (HB3.out.drop (sI w0.heap.size g pv s))) (fun HS => ?_)
          clear hK
          try simp only [Act.put, List.setIfInBounds_toArray, List.set_cons_zero, List.set_cons_succ]
          refine handTake 12 (some 10) ?_ rfl rfl (by kernel_rfl) (by kernel_rfl) (by kernel_rfl) (fun _ _ _ h => h) (by rfl) ?_ HS ?_
          rotate_left
          · (intro u hu; (try dsimp only at hu); go_simp; try with_reducible rfl)
          simp only [Act.put, List.setIfInBounds_toArray, List.set_cons_zero, List.set_cons_succ]
          refine wpAnyH_done (by kernel_rfl) ?_ _
          clear HS
          go_wp2_with fail
          go_meet
          exact ⟨_, rfl, rfl, HB3.out.drop2 (sI w0.heap.size g pv s)⟩
        exact AllReadyH.nil
      case rest =>
        obtain ⟨bB, rfl, rfl, hs⟩ := hcut
        have HC := Lib.hid hs
        have zc := hs.size
        clear hs SOF HS0 HNX c0
        by_cases hne : ne = 0
        · have hne1 : (ne == 0) = true := by simpa using hne
          have hne2 : (ne != 0) = false := by simpa using hne
          rw [if_pos hne] at HPR
          have c0 := (HSA.out _ _ HC.out).n
          rw [HN.out] at c0
          clear hne
          go_wp2_with (refine wpList_make_full _ rfl (.tmp 51) (.tmp 51) 22 rfl w0.heap.size 33 i0 _ 11 Try.underlying22 hi hz0 hz1 .i64 .i64 (i : Int) (i : Int) i (by rfl) (by rfl) rfl rfl (by rw [hz2]; omega) (by unfold maxLen; omega) zc ?_
                       intro w7 hown7 hg7
                       rw [made_rps i (HN.out ▸ HND.out) _ rfl] at hown7
                       have HR7 : Hid (Sep w0 (.row w0.heap.size 33 11 (.slice (some ⟨wc.heap.size, 0, none⟩) i i) i ((List.replicate i zeroRp).flatMap rpC) :: (sI w0.heap.size g pv s ++ (.box bB 27 [.int .i64 nr, .int .i64 np] :: l))) w7) := HC.out.add ((Foot.of_grown hg7).below (fun k hk => by cases hk) (Nat.le_refl _)) _ hown7 (fun k hk => by have hk : some wc.heap.size = some k := hk; injection hk with hk; omega)
                       clear hown7 hg7)
          obtain ⟨lb, hlb⟩ : ∃ b, wc.heap.size = b := ⟨_, rfl⟩
          rw [hlb] at HR7 ⊢
          have HR8 : Hid (Sep w0 (sI w0.heap.size g pv (askS s ⟨nr, np⟩ S 0) ++ (.row w0.heap.size 33 11 (.slice (some ⟨lb, 0, none⟩) i i) i ((askR s ⟨nr, np⟩ S 0).flatMap rpC) :: .box bB 27 [.int .i64 nr, .int .i64 np] :: l)) w7) := by
            rw [HZ0.out.1, HZ0.out.2]
            exact HR7.out.perm List.perm_middle.symm
          clear HR7 hlb c0 HC zc
          obtain ⟨N, hNi⟩ : ∃ N, i = N := ⟨_, rfl⟩
          subst hNi
          go_loopw [12] (fun kv wr => ∃ k : Nat, k ≤ i ∧ kv = .int .i64 k ∧ Sep w0 (sI w0.heap.size g pv (askS s ⟨nr, np⟩ S k) ++ (.row w0.heap.size 33 11 (.slice (some ⟨lb, 0, none⟩) i i) i ((askR s ⟨nr, np⟩ S k).flatMap rpC) :: .box bB 27 [.int .i64 nr, .int .i64 np] :: l)) wr) (fun kv _ => i - (intOf kv).toNat)
          case atStart => exact ⟨0, Nat.zero_le _, rfl, HR8.out⟩
          case round =>
            obtain ⟨k, hk, rfl, hs⟩ := hrel
            have z := HAA.out k hk _ _ hs
            have c0 := z.n
            rw [show (askS s ⟨nr, np⟩ S k).n = i from HN.out] at c0
            have HS := Lib.hid hs
            have hk0 : (0 : Int) ≤ (k : Int) := by omega
            clear hs
            by_cases hkl : k < i
            · have hk7 : k < 7 := by omega
              have hk1 : (k : Int) < (i : Int) := by omega
              have hk71 : (k : Int) < 7 := by omega
              have HNO := Lib.hid (ask_no (s := s) (b := ⟨nr, np⟩) (S := S) (i := k))
              have HYS := Lib.hid (ask_yes (s := s) (b := ⟨nr, np⟩) (S := S) (i := k))
              have HHA := has_any S hS256 (k : Int)
              cases hhas : hasB S (k : Int)
              · rw [hhas] at HHA
                have HHA := Lib.hid HHA
                have HN1 := Lib.hid (HNO.out hhas)
                clear hhas z
                go_wp2_with fail
                refine (HAD.out _).mono ?_
                rintro e u1 ⟨rfl, rfl⟩
                go_wp2_with fail
                refine (HHA.out _).mono ?_
                rintro e u1 ⟨rfl, rfl⟩
                go_wp2_with fail
                go_roundw
                case rel => exact ⟨k + 1, by omega, by go_num, by rw [HN1.out.1, HN1.out.2]; exact HS.out⟩
                case measure => show i - ((k : Int) + 1).toNat < i - (k : Int).toNat; omega
              · rw [hhas] at HHA
                have HHA := Lib.hid HHA
                have HY1 := HYS.out hhas
                have hst : (askS s ⟨nr, np⟩ S k).ps.length = 7 := (HAL.out k hk).1
                have hRl : (askR s ⟨nr, np⟩ S k).length = i := (HAL.out k hk).2
                obtain ⟨X, hX⟩ : ∃ X, askS s ⟨nr, np⟩ S k = X := ⟨_, rfl⟩
                have hXn : X.n = s.n ∧ X.qs = s.qs ∧ X.ch = s.ch ∧ X.cb = s.cb := by rw [← hX]; exact ⟨rfl, rfl, rfl, rfl⟩
                obtain ⟨R, hR⟩ : ∃ R, askR s ⟨nr, np⟩ S k = R := ⟨_, rfl⟩
                rw [hX] at HS HY1 z hst
                rw [hR] at HS HY1 hRl
                obtain ⟨⟨⟨xr, xp⟩, ⟨zr, zp⟩, xst, xsq⟩, hx⟩ : ∃ x, X.at_ k = x := ⟨_, rfl⟩
                rw [hx] at HY1
                have hz' := z.pl k hk7
                rw [hx] at hz'
                have w0c := hz' 0 _ rfl; have w1c := hz' 1 _ rfl
                have w0f := z.free (1 + k * 6); have w1f := z.free (1 + k * 6 + 1)
                simp only [Nat.add_zero] at w0c
                dsimp only at w0c w1c HY1
                have HX1 : Hid (Sep w0 (sI w0.heap.size g pv ⟨s.n, X.ps.set k ⟨⟨nr, np⟩, ⟨zr, zp⟩, xst, xsq⟩, s.qs, s.ch, s.cb⟩ ++ (.row w0.heap.size 33 11 (.slice (some ⟨lb, 0, none⟩) i i) i (R.flatMap rpC) :: .box bB 27 [.int .i64 nr, .int .i64 np] :: l)) (((wr.setCell ⟨g, 1 + k * 6, none⟩ (.int .i64 nr)).setCell ⟨g, 1 + k * 6 + 1, none⟩ (.int .i64 np)).drew)) := by
                  have h := sl_pr HS.out hst hk7 ⟨nr, np⟩
                  rw [hx, hXn.1, hXn.2.1, hXn.2.2.1, hXn.2.2.2] at h
                  exact h.drew
                have hbb := (show Sep w0 ((sI w0.heap.size g pv X ++ [.row w0.heap.size 33 11 (.slice (some ⟨lb, 0, none⟩) i i) i (R.flatMap rpC)]) ++ (.box bB 27 [.int .i64 nr, .int .i64 np] :: l)) wr from HS.out).box_at
                have b0 := hbb.cell 0; have b1 := hbb.cell 1
                simp only [List.getElem?_cons_zero, List.getElem?_cons_succ] at b0 b1
                have HY1 := Lib.hid HY1
                have HRL := Lib.hid hRl
                have hps : (X.ps.set k ⟨⟨nr, np⟩, ⟨zr, zp⟩, xst, xsq⟩).length = 7 := by rw [List.length_set]; exact hst
                have HX2 : Hid ((Sl.at_ ⟨s.n, X.ps.set k ⟨⟨nr, np⟩, ⟨zr, zp⟩, xst, xsq⟩, s.qs, s.ch, s.cb⟩ k) = ⟨⟨nr, np⟩, ⟨zr, zp⟩, xst, xsq⟩) := by
                  show List.getD (List.set _ k _) k zeroPl = _
                  rw [getD_set _ _ _ _ _ (by rw [hst]; omega), if_pos rfl]
                obtain ⟨P2, hP2⟩ : ∃ P, (⟨s.n, X.ps.set k ⟨⟨nr, np⟩, ⟨zr, zp⟩, xst, xsq⟩, s.qs, s.ch, s.cb⟩ : Sl) = P := ⟨_, rfl⟩
                have hps2 : P2.ps.length = 7 := by rw [← hP2]; exact hps
                rw [hP2] at HX1 HX2 HY1
                clear hhas hX hR hx hz' hbb z hst hRl hXn hps hP2
                go_wp2_with fail
                refine (HAD.out _).mono ?_
                rintro e u1 ⟨rfl, rfl⟩
                go_wp2_with fail
                refine (HHA.out _).mono ?_
                rintro e u1 ⟨rfl, rfl⟩
                go_wp2_with fail
                refine wp_region_still_tail 7 (by kernel_rfl) (by kernel_rfl) ?_
                simp only [List.take_succ_cons, List.take_zero, List.drop_succ_cons, List.drop_zero]
                refine wpStill_step (fun K hK => ?_)
                go_simp
                refine hK _ ?_
                clear hK K
                refine wpStill_step (fun K hK => ?_)
                go_simp
                refine hK _ ?_
                clear hK K
                refine wpStill_step (fun K hK => ?_)
                go_simp
                refine hK _ ?_
                clear hK K
                refine wpStill_step (fun K hK => ?_)
                go_simp
                refine hK _ ?_
                clear hK K
                refine wpStill_step (fun K hK => ?_)
                go_simp
                refine hK _ ?_
                clear hK K
                refine wpStill_step (fun K hK => ?_)
                go_simp
                refine hK _ ?_
                clear hK K
                refine wpStill_step (fun K hK => ?_)
                go_simp
                refine hK _ ?_
                clear hK K
                refine wpStill_nil ?_
                go_upto_region 15 with fail
                obtain ⟨V0, hV0⟩ : ∃ V : World, V = ((wr.setCell ⟨g, 1 + k * 6, none⟩ (.int .i64 nr)).setCell ⟨g, 1 + k * 6 + 1, none⟩ (.int .i64 np)).drew := ⟨_, rfl⟩
                rw [← hV0] at HX1 ⊢
                have zz := sl_at HX1.out hps2
                have zp := zz.pl k hk7
                rw [HX2.out] at zp
                have p0 := zp 0 _ rfl; have p1 := zp 1 _ rfl; have p2 := zp 2 _ rfl; have p3 := zp 3 _ rfl; have p4 := zp 4 _ rfl; have p5 := zp 5 _ rfl
                simp only [Nat.add_zero] at p0
                dsimp only at p0 p1 p2 p3 p4 p5
                clear hV0 zz zp w0c w1c w0f w1f b0 b1 HS
                go_upto_region 16 with fail
                obtain ⟨V1, hV1⟩ : ∃ V : World, V = V0.alloc (.cells #[.int .i64 nr, .int .i64 np, .int .i64 zr, .int .i64 zp, .int .u8 (xst : Nat), .int .i64 xsq] 41) := ⟨_, rfl⟩
                have H1 : Hid (Sep w0 (sI w0.heap.size g pv P2 ++ (.box V0.heap.size 41 [.int .i64 nr, .int .i64 np, .int .i64 zr, .int .i64 zp, .int .u8 (xst : Nat), .int .i64 xsq] :: .row w0.heap.size 33 11 (.slice (some ⟨lb, 0, none⟩) i i) i (R.flatMap rpC) :: .box bB 27 [.int .i64 nr, .int .i64 np] :: l)) V1) := by rw [hV1]; exact Sep.box_new _ HX1.out 41 [.int .i64 nr, .int .i64 np, .int .i64 zr, .int .i64 zp, .int .u8 (xst : Nat), .int .i64 xsq]
                rw [← hV1]
                have hnb := H1.out.ne_row
                have hnb2 : ¬ lb = V0.heap.size := fun h => hnb h.symm
                clear hV1 p0 p1 p2 p3 p4 p5 HX1
                have hth := own_there ((show Sep w0 ((sI w0.heap.size g pv P2 ++ [.box V0.heap.size 41 [.int .i64 nr, .int .i64 np, .int .i64 zr, .int .i64 zp, .int .u8 (xst : Nat), .int .i64 xsq]]) ++ (.row w0.heap.size 33 11 (.slice (some ⟨lb, 0, none⟩) i i) i (R.flatMap rpC) :: .box bB 27 [.int .i64 nr, .int .i64 np] :: l)) _ from H1.out).row_at) (k * 11) 11 (by omega)
                obtain ⟨e0, t0c⟩ := Option.isSome_iff_exists.1 (hth 0 (by omega)).1; have t0f := (hth 0 (by omega)).2
                obtain ⟨e1, t1c⟩ := Option.isSome_iff_exists.1 (hth 1 (by omega)).1; have t1f := (hth 1 (by omega)).2
                obtain ⟨e2, t2c⟩ := Option.isSome_iff_exists.1 (hth 2 (by omega)).1; have t2f := (hth 2 (by omega)).2
                obtain ⟨e3, t3c⟩ := Option.isSome_iff_exists.1 (hth 3 (by omega)).1; have t3f := (hth 3 (by omega)).2
                obtain ⟨e4, t4c⟩ := Option.isSome_iff_exists.1 (hth 4 (by omega)).1; have t4f := (hth 4 (by omega)).2
                obtain ⟨e5, t5c⟩ := Option.isSome_iff_exists.1 (hth 5 (by omega)).1; have t5f := (hth 5 (by omega)).2
                obtain ⟨e6, t6c⟩ := Option.isSome_iff_exists.1 (hth 6 (by omega)).1; have t6f := (hth 6 (by omega)).2
                obtain ⟨e7, t7c⟩ := Option.isSome_iff_exists.1 (hth 7 (by omega)).1; have t7f := (hth 7 (by omega)).2
                obtain ⟨e8, t8c⟩ := Option.isSome_iff_exists.1 (hth 8 (by omega)).1; have t8f := (hth 8 (by omega)).2
                obtain ⟨e9, t9c⟩ := Option.isSome_iff_exists.1 (hth 9 (by omega)).1; have t9f := (hth 9 (by omega)).2
                obtain ⟨e10, t10c⟩ := Option.isSome_iff_exists.1 (hth 10 (by omega)).1; have t10f := (hth 10 (by omega)).2
                simp only [Nat.add_zero] at t0c t0f
                clear hth
                go_upto_region 17 with fail
                obtain ⟨V2, hV2⟩ : ∃ V : World, V = V1.setCells lb (k * 11) [.int .i64 0, .int .u8 1, .int .i64 0, .int .i64 0, .int .u8 0, .int .i64 0, .int .i64 0, .int .u8 0, .string { data := #[] }, .string { data := #[] }, .string { data := #[] }] := ⟨_, rfl⟩
                have H2 : Hid (Sep w0 (sI w0.heap.size g pv P2 ++ (.box V0.heap.size 41 [.int .i64 nr, .int .i64 np, .int .i64 zr, .int .i64 zp, .int .u8 (xst : Nat), .int .i64 xsq] :: .row w0.heap.size 33 11 (.slice (some ⟨lb, 0, none⟩) i i) i ((R.set k (⟨0, 1, ⟨0, 0⟩, zeroEn⟩ : Rp)).flatMap rpC) :: .box bB 27 [.int .i64 nr, .int .i64 np] :: l)) V2) := by
                  rw [hV2]
                  have h := Sep.row_mids (a := sI w0.heap.size g pv P2 ++ [.box V0.heap.size 41 [.int .i64 nr, .int .i64 np, .int .i64 zr, .int .i64 zp, .int .u8 (xst : Nat), .int .i64 xsq]]) H1.out [.int .i64 0, .int .u8 1, .int .i64 0, .int .i64 0, .int .u8 0, .int .i64 0, .int .i64 0, .int .u8 0, .string { data := #[] }, .string { data := #[] }, .string { data := #[] }] (k * 11)
                  have e : midSets ((R).flatMap rpC) (k * 11) [.int .i64 0, .int .u8 1, .int .i64 0, .int .i64 0, .int .u8 0, .int .i64 0, .int .i64 0, .int .u8 0, .string { data := #[] }, .string { data := #[] }, .string { data := #[] }] = ((R).set k (⟨0, 1, ⟨0, 0⟩, zeroEn⟩ : Rp)).flatMap rpC := flat_mids rpC_len R k (⟨0, 1, ⟨0, 0⟩, zeroEn⟩ : Rp) (by rw [HRL.out]; exact hkl)
                  rw [e] at h
                  exact h
                rw [← sc11, ← hV2]
                clear hV2
                clear t0c t0f t1c t1f t2c t2f t3c t3f t4c t4f t5c t5f t6c t6f t7c t7f t8c t8f t9c t9f t10c t10f H1
                have hbx := (show Sep w0 (sI w0.heap.size g pv P2 ++ (.box V0.heap.size 41 [.int .i64 nr, .int .i64 np, .int .i64 zr, .int .i64 zp, .int .u8 (xst : Nat), .int .i64 xsq] :: _)) _ from H2.out).box_at
                have q2 := hbx.cell 2; have q3 := hbx.cell 3; have q4 := hbx.cell 4; have q5 := hbx.cell 5
                simp only [List.getElem?_cons_zero, List.getElem?_cons_succ] at q2 q3 q4 q5
                clear hbx
                by_cases h0 : xst = 0
                · have e0 : ((xst : Int) != 0) = false := by simp; omega
                  have e2 : ((xst : Int) == 2) = false := by simp; omega
                  have e4 : ((xst : Int) == 4) = false := by simp; omega
                  have HRP : Hid (repN ⟨⟨xr, xp⟩, ⟨zr, zp⟩, xst, xsq⟩ = (⟨0, 1, ⟨0, 0⟩, zeroEn⟩ : Rp)) := by show repN _ = _; unfold repN; dsimp only; rw [if_pos h0]; rfl
                  clear h0
                  go_wp2_with fail
                  go_roundw
                  case rel =>
                    refine ⟨k + 1, by omega, by go_num, ?_⟩
                    rw [HY1.out.1, HY1.out.2, HRP.out]
                    exact H2.out.drop (sI w0.heap.size g pv P2)
                  case measure => show i - ((k : Int) + 1).toNat < i - (k : Int).toNat; omega
                · have e0 : ((xst : Int) != 0) = true := by simp; omega
                  have hr0 : repN ⟨⟨xr, xp⟩, ⟨zr, zp⟩, xst, xsq⟩ = ⟨0, xst, if xst = 4 then zeroBa else ⟨zr, zp⟩, if xst = 2 then ⟨2, 0, xsq, ⟨0, noStr, noStr, noStr⟩⟩ else zeroEn⟩ := by unfold repN; dsimp only; rw [if_neg h0]
                  have hth := own_there ((show Sep w0 ((sI w0.heap.size g pv P2 ++ [.box V0.heap.size 41 [.int .i64 nr, .int .i64 np, .int .i64 zr, .int .i64 zp, .int .u8 (xst : Nat), .int .i64 xsq]]) ++ (.row w0.heap.size 33 11 (.slice (some ⟨lb, 0, none⟩) i i) i ((R.set k (⟨0, 1, ⟨0, 0⟩, zeroEn⟩ : Rp)).flatMap rpC) :: .box bB 27 [.int .i64 nr, .int .i64 np] :: l)) _ from H2.out).row_at) (k * 11) 11 (by omega)
                  obtain ⟨e0, t0c⟩ := Option.isSome_iff_exists.1 (hth 0 (by omega)).1; have t0f := (hth 0 (by omega)).2
                  obtain ⟨e1, t1c⟩ := Option.isSome_iff_exists.1 (hth 1 (by omega)).1; have t1f := (hth 1 (by omega)).2
                  obtain ⟨e2, t2c⟩ := Option.isSome_iff_exists.1 (hth 2 (by omega)).1; have t2f := (hth 2 (by omega)).2
                  obtain ⟨e3, t3c⟩ := Option.isSome_iff_exists.1 (hth 3 (by omega)).1; have t3f := (hth 3 (by omega)).2
                  obtain ⟨e4, t4c⟩ := Option.isSome_iff_exists.1 (hth 4 (by omega)).1; have t4f := (hth 4 (by omega)).2
                  obtain ⟨e5, t5c⟩ := Option.isSome_iff_exists.1 (hth 5 (by omega)).1; have t5f := (hth 5 (by omega)).2
                  obtain ⟨e6, t6c⟩ := Option.isSome_iff_exists.1 (hth 6 (by omega)).1; have t6f := (hth 6 (by omega)).2
                  obtain ⟨e7, t7c⟩ := Option.isSome_iff_exists.1 (hth 7 (by omega)).1; have t7f := (hth 7 (by omega)).2
                  obtain ⟨e8, t8c⟩ := Option.isSome_iff_exists.1 (hth 8 (by omega)).1; have t8f := (hth 8 (by omega)).2
                  obtain ⟨e9, t9c⟩ := Option.isSome_iff_exists.1 (hth 9 (by omega)).1; have t9f := (hth 9 (by omega)).2
                  obtain ⟨e10, t10c⟩ := Option.isSome_iff_exists.1 (hth 10 (by omega)).1; have t10f := (hth 10 (by omega)).2
                  simp only [Nat.add_zero] at t0c t0f
                  clear hth
                  clear h0
                  go_upto_region 19 with fail
                  obtain ⟨V3, hV3⟩ : ∃ V : World, V = V2.setCells lb (k * 11) [.int .i64 0, .int .u8 (xst : Nat), .int .i64 zr, .int .i64 zp, .int .u8 0, .int .i64 0, .int .i64 0, .int .u8 0, .string { data := #[] }, .string { data := #[] }, .string { data := #[] }] := ⟨_, rfl⟩
                  have H3 : Hid (Sep w0 (sI w0.heap.size g pv P2 ++ (.box V0.heap.size 41 [.int .i64 nr, .int .i64 np, .int .i64 zr, .int .i64 zp, .int .u8 (xst : Nat), .int .i64 xsq] :: .row w0.heap.size 33 11 (.slice (some ⟨lb, 0, none⟩) i i) i ((R.set k (⟨0, xst, ⟨zr, zp⟩, zeroEn⟩ : Rp)).flatMap rpC) :: .box bB 27 [.int .i64 nr, .int .i64 np] :: l)) V3) := by
                    rw [hV3]
                    have h := Sep.row_mids (a := sI w0.heap.size g pv P2 ++ [.box V0.heap.size 41 [.int .i64 nr, .int .i64 np, .int .i64 zr, .int .i64 zp, .int .u8 (xst : Nat), .int .i64 xsq]]) H2.out [.int .i64 0, .int .u8 (xst : Nat), .int .i64 zr, .int .i64 zp, .int .u8 0, .int .i64 0, .int .i64 0, .int .u8 0, .string { data := #[] }, .string { data := #[] }, .string { data := #[] }] (k * 11)
                    have e : midSets ((R.set k (⟨0, 1, ⟨0, 0⟩, zeroEn⟩ : Rp)).flatMap rpC) (k * 11) [.int .i64 0, .int .u8 (xst : Nat), .int .i64 zr, .int .i64 zp, .int .u8 0, .int .i64 0, .int .i64 0, .int .u8 0, .string { data := #[] }, .string { data := #[] }, .string { data := #[] }] = ((R.set k (⟨0, 1, ⟨0, 0⟩, zeroEn⟩ : Rp)).set k (⟨0, xst, ⟨zr, zp⟩, zeroEn⟩ : Rp)).flatMap rpC := flat_mids rpC_len (R.set k (⟨0, 1, ⟨0, 0⟩, zeroEn⟩ : Rp)) k (⟨0, xst, ⟨zr, zp⟩, zeroEn⟩ : Rp) (by rw [List.length_set, HRL.out]; exact hkl)
                    rw [e, List.set_set] at h
                    exact h
                  rw [← sc11, ← hV3]
                  clear hV3
                  clear t0c t0f t1c t1f t2c t2f t3c t3f t4c t4f t5c t5f t6c t6f t7c t7f t8c t8f t9c t9f t10c t10f H2 q2 q3 q4 q5
                  have hbx := (show Sep w0 (sI w0.heap.size g pv P2 ++ (.box V0.heap.size 41 [.int .i64 nr, .int .i64 np, .int .i64 zr, .int .i64 zp, .int .u8 (xst : Nat), .int .i64 xsq] :: _)) _ from H3.out).box_at
                  have q2 := hbx.cell 2; have q3 := hbx.cell 3; have q4 := hbx.cell 4; have q5 := hbx.cell 5
                  simp only [List.getElem?_cons_zero, List.getElem?_cons_succ] at q2 q3 q4 q5
                  clear hbx
                  by_cases h2 : xst = 2
                  · have e2 : ((xst : Int) == 2) = true := by simp; omega
                    have e4 : ((xst : Int) == 4) = false := by simp; omega
                    have HRP : Hid (repN ⟨⟨xr, xp⟩, ⟨zr, zp⟩, xst, xsq⟩ = ⟨0, xst, ⟨zr, zp⟩, ⟨2, 0, xsq, ⟨0, noStr, noStr, noStr⟩⟩⟩) := by show repN _ = _; rw [hr0, if_neg (by omega), if_pos h2]
                    clear h2 hr0
                    have hth := own_there ((show Sep w0 ((sI w0.heap.size g pv P2 ++ [.box V0.heap.size 41 [.int .i64 nr, .int .i64 np, .int .i64 zr, .int .i64 zp, .int .u8 (xst : Nat), .int .i64 xsq]]) ++ (.row w0.heap.size 33 11 (.slice (some ⟨lb, 0, none⟩) i i) i ((R.set k (⟨0, xst, ⟨zr, zp⟩, zeroEn⟩ : Rp)).flatMap rpC) :: .box bB 27 [.int .i64 nr, .int .i64 np] :: l)) _ from H3.out).row_at) (k * 11) 11 (by omega)
                    obtain ⟨e4, t4c⟩ := Option.isSome_iff_exists.1 (hth 4 (by omega)).1; have t4f := (hth 4 (by omega)).2
                    obtain ⟨e5, t5c⟩ := Option.isSome_iff_exists.1 (hth 5 (by omega)).1; have t5f := (hth 5 (by omega)).2
                    obtain ⟨e6, t6c⟩ := Option.isSome_iff_exists.1 (hth 6 (by omega)).1; have t6f := (hth 6 (by omega)).2
                    obtain ⟨e7, t7c⟩ := Option.isSome_iff_exists.1 (hth 7 (by omega)).1; have t7f := (hth 7 (by omega)).2
                    obtain ⟨e8, t8c⟩ := Option.isSome_iff_exists.1 (hth 8 (by omega)).1; have t8f := (hth 8 (by omega)).2
                    obtain ⟨e9, t9c⟩ := Option.isSome_iff_exists.1 (hth 9 (by omega)).1; have t9f := (hth 9 (by omega)).2
                    obtain ⟨e10, t10c⟩ := Option.isSome_iff_exists.1 (hth 10 (by omega)).1; have t10f := (hth 10 (by omega)).2
                    clear hth
                    go_upto_region 21 with fail
                    obtain ⟨V4, hV4⟩ : ∃ V : World, V = V3.setCells lb (k * 11 + 4) [.int .u8 2, .int .i64 0, .int .i64 xsq, .int .u8 0, .string { data := #[] }, .string { data := #[] }, .string { data := #[] }] := ⟨_, rfl⟩
                    have H4 : Hid (Sep w0 (sI w0.heap.size g pv P2 ++ (.box V0.heap.size 41 [.int .i64 nr, .int .i64 np, .int .i64 zr, .int .i64 zp, .int .u8 (xst : Nat), .int .i64 xsq] :: .row w0.heap.size 33 11 (.slice (some ⟨lb, 0, none⟩) i i) i ((R.set k (⟨0, xst, ⟨zr, zp⟩, ⟨2, 0, xsq, ⟨0, noStr, noStr, noStr⟩⟩⟩ : Rp)).flatMap rpC) :: .box bB 27 [.int .i64 nr, .int .i64 np] :: l)) V4) := by
                      rw [hV4]
                      have h := Sep.row_mids (a := sI w0.heap.size g pv P2 ++ [.box V0.heap.size 41 [.int .i64 nr, .int .i64 np, .int .i64 zr, .int .i64 zp, .int .u8 (xst : Nat), .int .i64 xsq]]) H3.out [.int .u8 2, .int .i64 0, .int .i64 xsq, .int .u8 0, .string { data := #[] }, .string { data := #[] }, .string { data := #[] }] (k * 11 + 4)
                      have e : midSets ((R.set k (⟨0, xst, ⟨zr, zp⟩, zeroEn⟩ : Rp)).flatMap rpC) (k * 11 + 4) [.int .u8 2, .int .i64 0, .int .i64 xsq, .int .u8 0, .string { data := #[] }, .string { data := #[] }, .string { data := #[] }] = ((R.set k (⟨0, xst, ⟨zr, zp⟩, zeroEn⟩ : Rp)).set k (⟨0, xst, ⟨zr, zp⟩, ⟨2, 0, xsq, ⟨0, noStr, noStr, noStr⟩⟩⟩ : Rp)).flatMap rpC := flat_part rpC_len 4 [.int .u8 2, .int .i64 0, .int .i64 xsq, .int .u8 0, .string { data := #[] }, .string { data := #[] }, .string { data := #[] }] (by simp) (⟨0, xst, ⟨zr, zp⟩, ⟨2, 0, xsq, ⟨0, noStr, noStr, noStr⟩⟩⟩ : Rp) (R.set k (⟨0, xst, ⟨zr, zp⟩, zeroEn⟩ : Rp)) k (by rw [List.length_set, HRL.out]; exact hkl) (by rw [List.getElem_set_self]; rfl)
                      rw [e, List.set_set] at h
                      exact h
                    rw [show ∀ (w : World) (x0 x1 x2 x3 x4 x5 x6 : Value), ((((((w.setCell ⟨lb, k * 11 + 4, none⟩ x0).setCell ⟨lb, k * 11 + 5, none⟩ x1).setCell ⟨lb, k * 11 + 6, none⟩ x2).setCell ⟨lb, k * 11 + 7, none⟩ x3).setCell ⟨lb, k * 11 + 8, none⟩ x4).setCell ⟨lb, k * 11 + 9, none⟩ x5).setCell ⟨lb, k * 11 + 10, none⟩ x6 = w.setCells lb (k * 11 + 4) [x0, x1, x2, x3, x4, x5, x6] from fun _ _ _ _ _ _ _ _ => rfl, ← hV4]
                    clear hV4
                    clear t4c t4f t5c t5f t6c t6f t7c t7f t8c t8f t9c t9f t10c t10f H3 q2 q3 q4 q5
                    have hbx := (show Sep w0 (sI w0.heap.size g pv P2 ++ (.box V0.heap.size 41 [.int .i64 nr, .int .i64 np, .int .i64 zr, .int .i64 zp, .int .u8 (xst : Nat), .int .i64 xsq] :: _)) _ from H4.out).box_at
                    have q2 := hbx.cell 2; have q3 := hbx.cell 3; have q4 := hbx.cell 4; have q5 := hbx.cell 5
                    simp only [List.getElem?_cons_zero, List.getElem?_cons_succ] at q2 q3 q4 q5
                    clear hbx
                    go_wp2_with fail
                    go_roundw
                    case rel =>
                      refine ⟨k + 1, by omega, by go_num, ?_⟩
                      rw [HY1.out.1, HY1.out.2, HRP.out]
                      exact H4.out.drop (sI w0.heap.size g pv P2)
                    case measure => show i - ((k : Int) + 1).toNat < i - (k : Int).toNat; omega
                  · have e2 : ((xst : Int) == 2) = false := by simp; omega
                    by_cases h4 : xst = 4
                    · have e4 : ((xst : Int) == 4) = true := by simp; omega
                      have HRP : Hid (repN ⟨⟨xr, xp⟩, ⟨zr, zp⟩, xst, xsq⟩ = ⟨0, xst, zeroBa, zeroEn⟩) := by show repN _ = _; rw [hr0, if_pos h4, if_neg h2]
                      clear h2 h4 hr0
                      have hth := own_there ((show Sep w0 ((sI w0.heap.size g pv P2 ++ [.box V0.heap.size 41 [.int .i64 nr, .int .i64 np, .int .i64 zr, .int .i64 zp, .int .u8 (xst : Nat), .int .i64 xsq]]) ++ (.row w0.heap.size 33 11 (.slice (some ⟨lb, 0, none⟩) i i) i ((R.set k (⟨0, xst, ⟨zr, zp⟩, zeroEn⟩ : Rp)).flatMap rpC) :: .box bB 27 [.int .i64 nr, .int .i64 np] :: l)) _ from H3.out).row_at) (k * 11) 11 (by omega)
                      obtain ⟨e2, t2c⟩ := Option.isSome_iff_exists.1 (hth 2 (by omega)).1; have t2f := (hth 2 (by omega)).2
                      obtain ⟨e3, t3c⟩ := Option.isSome_iff_exists.1 (hth 3 (by omega)).1; have t3f := (hth 3 (by omega)).2
                      clear hth
                      have H4 : Hid (Sep w0 (sI w0.heap.size g pv P2 ++ (.box V0.heap.size 41 [.int .i64 nr, .int .i64 np, .int .i64 zr, .int .i64 zp, .int .u8 (xst : Nat), .int .i64 xsq] :: .row w0.heap.size 33 11 (.slice (some ⟨lb, 0, none⟩) i i) i ((R.set k (⟨0, xst, zeroBa, zeroEn⟩ : Rp)).flatMap rpC) :: .box bB 27 [.int .i64 nr, .int .i64 np] :: l)) ((V3.setCell ⟨lb, k * 11 + 2, none⟩ (.int .i64 0)).setCell ⟨lb, k * 11 + 3, none⟩ (.int .i64 0))) := by
                        have h := Sep.row_mids (a := sI w0.heap.size g pv P2 ++ [.box V0.heap.size 41 [.int .i64 nr, .int .i64 np, .int .i64 zr, .int .i64 zp, .int .u8 (xst : Nat), .int .i64 xsq]]) H3.out [.int .i64 0, .int .i64 0] (k * 11 + 2)
                        have e : midSets ((R.set k (⟨0, xst, ⟨zr, zp⟩, zeroEn⟩ : Rp)).flatMap rpC) (k * 11 + 2) [.int .i64 0, .int .i64 0] = ((R.set k (⟨0, xst, ⟨zr, zp⟩, zeroEn⟩ : Rp)).set k (⟨0, xst, zeroBa, zeroEn⟩ : Rp)).flatMap rpC := flat_part rpC_len 2 [.int .i64 0, .int .i64 0] (by simp) (⟨0, xst, zeroBa, zeroEn⟩ : Rp) (R.set k (⟨0, xst, ⟨zr, zp⟩, zeroEn⟩ : Rp)) k (by rw [List.length_set, HRL.out]; exact hkl) (by rw [List.getElem_set_self]; rfl)
                        rw [e, List.set_set] at h
                        exact h
                      go_wp2_with fail
                      go_roundw
                      case rel =>
                        refine ⟨k + 1, by omega, by go_num, ?_⟩
                        rw [HY1.out.1, HY1.out.2, HRP.out]
                        exact H4.out.drop (sI w0.heap.size g pv P2)
                      case measure => show i - ((k : Int) + 1).toNat < i - (k : Int).toNat; omega
                    · have e4 : ((xst : Int) == 4) = false := by simp; omega
                      have HRP : Hid (repN ⟨⟨xr, xp⟩, ⟨zr, zp⟩, xst, xsq⟩ = ⟨0, xst, ⟨zr, zp⟩, zeroEn⟩) := by show repN _ = _; rw [hr0, if_neg h4, if_neg h2]
                      clear h2 h4 hr0
                      go_wp2_with fail
                      go_roundw
                      case rel =>
                        refine ⟨k + 1, by omega, by go_num, ?_⟩
                        rw [HY1.out.1, HY1.out.2, HRP.out]
                        exact H3.out.drop (sI w0.heap.size g pv P2)
                      case measure => show i - ((k : Int) + 1).toNat < i - (k : Int).toNat; omega
            · have e : k = i := by omega
              subst e
              have hrow := (HS.out.row_at (a := sI w0.heap.size g pv (askS s ⟨nr, np⟩ S k)))
              have hRl : (askR s ⟨nr, np⟩ S k).length = k := (HAL.out k (Nat.le_refl _)).2
              have D1 := HD.out (.slice (some ⟨lb, 0, none⟩) k k) wr (by rw [hRl]; exact Row.of_own hrow)
              have D1 := Lib.hid D1
              clear hrow hRl z HD
              go_wp2_with fail
              refine D1.out.mono ?_
              rintro e u3 ⟨rfl, hb⟩
              have HU := Lib.hid (HS.out.call hb)
              clear hb D1 HS c0
              by_cases hok : fd = 0 ∧ kd ≠ 0
              · rw [if_pos hok] at HPR
                have k1 : (fd == 0) = true := by simpa using hok.1
                have k2 : (fd != 0) = false := by simpa using hok.1
                have k3 : ((kd : Int) == 0) = false := by have := hok.2; simp; omega
                obtain ⟨V, hV⟩ : ∃ V : World, V = u3.alloc (.cells #[.int .u8 (ek : Nat), .int .i64 ec, .int .i64 eq, .int .u8 (ok : Nat), .string oa, .string ob, .string oc] 31) := ⟨_, rfl⟩
                have HV : Hid (Sep w0 (sI w0.heap.size g pv (askS s ⟨nr, np⟩ S k) ++ (.box u3.heap.size 31 [.int .u8 (ek : Nat), .int .i64 ec, .int .i64 eq, .int .u8 (ok : Nat), .string oa, .string ob, .string oc] :: .row w0.heap.size 33 11 (.slice (some ⟨lb, 0, none⟩) k k) k ((askR s ⟨nr, np⟩ S k).flatMap rpC) :: .box bB 27 [.int .i64 nr, .int .i64 np] :: l)) V) := by rw [hV]; exact HU.out.box_new _ 31 [.int .u8 (ek : Nat), .int .i64 ec, .int .i64 eq, .int .u8 (ok : Nat), .string oa, .string ob, .string oc]
                have SOF : Hid (∀ u : World, Sep w0 (sI w0.heap.size g pv (askS s ⟨nr, np⟩ S k) ++ (.box u3.heap.size 31 [.int .u8 (ek : Nat), .int .i64 ec, .int .i64 eq, .int .u8 (ok : Nat), .string oa, .string ob, .string oc] :: .row w0.heap.size 33 11 (.slice (some ⟨lb, 0, none⟩) k k) k ((askR s ⟨nr, np⟩ S k).flatMap rpC) :: .box bB 27 [.int .i64 nr, .int .i64 np] :: l)) u → (u.cell? ⟨bB, 0, none⟩ = some (.int .i64 nr) ∧ u.cell? ⟨bB, 1, none⟩ = some (.int .i64 np) ∧ u.cell? ⟨g, 43, none⟩ = some (.slice pA M pc) ∧ u.cell? ⟨u3.heap.size, 2, none⟩ = some (.int .i64 eq))) := fun u h => by
                  have hb := (show Sep w0 ((sI w0.heap.size g pv (askS s ⟨nr, np⟩ S k) ++ [.box u3.heap.size 31 [.int .u8 (ek : Nat), .int .i64 ec, .int .i64 eq, .int .u8 (ok : Nat), .string oa, .string ob, .string oc], .row w0.heap.size 33 11 (.slice (some ⟨lb, 0, none⟩) k k) k ((askR s ⟨nr, np⟩ S k).flatMap rpC)]) ++ (.box bB 27 [.int .i64 nr, .int .i64 np] :: l)) u from h).box_at
                  have hp := (HAA.out k (Nat.le_refl _) _ _ h).pv
                  rw [HPV.out, HM.out] at hp
                  exact ⟨hb.cell 0, hb.cell 1, by rw [← HM.out, ← HPV.out, HPV.out, HM.out]; exact hp, h.box_at.cell 2⟩
                have hM0 : (0 : Int) ≤ (M : Int) := by omega
                have hMw : IntKind.i64.wrap ((M : Int) + 1) = (M : Int) + 1 := by rw [IntKind.wrap_i64]; have := HM.out; omega
                have hMw2 : wrap64 ((M : Int) + 1) = (M : Int) + 1 := by unfold wrap64; have := HM.out; omega
                clear hok
                go_wp2_with fail
                rw [← hV]
                clear hV
                refine wp_region_held_drew (S := (fun u : World => u.cell? ⟨bB, 0, none⟩ = some (.int .i64 nr) ∧ u.cell? ⟨bB, 1, none⟩ = some (.int .i64 np) ∧ u.cell? ⟨g, 43, none⟩ = some (.slice pA M pc) ∧ u.cell? ⟨u3.heap.size, 2, none⟩ = some (.int .i64 eq))) (by kernel_rfl) (SOF.out _ HV.out.drew) (fun HS => ?_)
                refine handTake 0 (some 129) ?_ rfl rfl (by kernel_rfl) (by kernel_rfl) (by kernel_rfl) (fun _ _ _ h => h) (by rfl) ?_ HS ?_
                rotate_left
                · (intro u hu; (try dsimp only at hu); go_simp; try with_reducible rfl)
                simp only [Act.put, List.setIfInBounds_toArray, List.set_cons_zero, List.set_cons_succ]
                refine handTake 1 (some 130) ?_ rfl rfl (by kernel_rfl) (by kernel_rfl) (by kernel_rfl) (fun _ _ _ h => h) (by rfl) ?_ HS ?_
                rotate_left
                · (intro u hu; (try dsimp only at hu); go_simp; try with_reducible rfl)
                simp only [Act.put, List.setIfInBounds_toArray, List.set_cons_zero, List.set_cons_succ]
                refine handTake 2 (some 131) ?_ rfl rfl (by kernel_rfl) (by kernel_rfl) (by kernel_rfl) (fun _ _ _ h => h) (by rfl) ?_ HS ?_
                rotate_left
                · (intro u hu; (try dsimp only at hu); go_simp; try with_reducible rfl)
                simp only [Act.put, List.setIfInBounds_toArray, List.set_cons_zero, List.set_cons_succ]
                refine handTake 3 (some 132) ?_ rfl rfl (by kernel_rfl) (by kernel_rfl) (by kernel_rfl) (fun _ _ _ h => h) (by rfl) ?_ HS ?_
                rotate_left
                · (intro u hu; (try dsimp only at hu); go_simp; try with_reducible rfl)
                simp only [Act.put, List.setIfInBounds_toArray, List.set_cons_zero, List.set_cons_succ]
                refine handTake 4 (some 133) ?_ rfl rfl (by kernel_rfl) (by kernel_rfl) (by kernel_rfl) (fun _ _ _ h => h) (by rfl) ?_ HS ?_
                rotate_left
                · (intro u hu; (try dsimp only at hu); go_simp; try with_reducible rfl)
                simp only [Act.put, List.setIfInBounds_toArray, List.set_cons_zero, List.set_cons_succ]
                refine handTake 5 (some 134) ?_ rfl rfl (by kernel_rfl) (by kernel_rfl) (by kernel_rfl) (fun _ _ _ h => h) (by rfl) ?_ HS ?_
                rotate_left
                · (intro u hu; (try dsimp only at hu); go_simp; try with_reducible rfl)
                simp only [Act.put, List.setIfInBounds_toArray, List.set_cons_zero, List.set_cons_succ]
                refine handTake 6 (some 135) ?_ rfl rfl (by kernel_rfl) (by kernel_rfl) (by kernel_rfl) (fun _ _ _ h => h) (by rfl) ?_ HS ?_
                rotate_left
                · (intro u hu; (try dsimp only at hu); go_simp; try with_reducible rfl)
                simp only [Act.put, List.setIfInBounds_toArray, List.set_cons_zero, List.set_cons_succ]
                refine handTake 7 (some 136) ?_ rfl rfl (by kernel_rfl) (by kernel_rfl) (by kernel_rfl) (fun _ _ _ h => h) (by rfl) ?_ HS ?_
                rotate_left
                · (intro u hu; (try dsimp only at hu); go_simp; try with_reducible rfl)
                simp only [Act.put, List.setIfInBounds_toArray, List.set_cons_zero, List.set_cons_succ]
                refine wpAnyH_ready (rs := [8]) (by kernel_rfl) (by simp) ?_
                refine AllReadyH.cons rfl (fun K hK => ?_) AllReadyH.nil
                clear HS
                go_simp
                refine hK.out _ _ (SOF.out _ (HV.out.fresh _).drew) (fun HS => ?_)
                clear hK
                try simp only [Act.put, List.setIfInBounds_toArray, List.set_cons_zero, List.set_cons_succ]
                refine wpAnyH_ready (rs := [9]) (by kernel_rfl) (by simp) ?_
                refine AllReadyH.cons rfl (fun K hK => ?_) AllReadyH.nil
                clear HS
                go_simp
                refine hK.out _ _ (SOF.out _ (HV.out.fresh _).drew) (fun HS => ?_)
                clear hK
                try simp only [Act.put, List.setIfInBounds_toArray, List.set_cons_zero, List.set_cons_succ]
                refine wpAnyH_done (by kernel_rfl) ?_ _
                clear HS
                obtain ⟨d0, d1, d2, d3⟩ := SOF.out _ HV.out
                have hlt3 := HV.out.box_at.lt
                by_cases h2 : kd = 2
                · have k4 : ((kd : Int) == 2) = true := by simp; omega
                  obtain ⟨U, hU⟩ : ∃ U : World, U = (V.alloc (.cells #[.int .i64 nr, .int .i64 np, .int .i64 eq, .int .u8 0] 75)).drew := ⟨_, rfl⟩
                  have HU5 : Hid (Sep w0 (sI w0.heap.size g pv (askS s ⟨nr, np⟩ S k) ++ (.box V.heap.size 75 [.int .i64 nr, .int .i64 np, .int .i64 eq, .int .u8 0] :: .box u3.heap.size 31 [.int .u8 (ek : Nat), .int .i64 ec, .int .i64 eq, .int .u8 (ok : Nat), .string oa, .string ob, .string oc] :: .row w0.heap.size 33 11 (.slice (some ⟨lb, 0, none⟩) k k) k ((askR s ⟨nr, np⟩ S k).flatMap rpC) :: .box bB 27 [.int .i64 nr, .int .i64 np] :: l)) U) := by rw [hU]; exact (HV.out.box_new _ 75 [.int .i64 nr, .int .i64 np, .int .i64 eq, .int .u8 0]).drew
                  go_wp2_with fail
                  rw [← hU]
                  clear hU HV SOF d0 d1 d2 d3
                  have hbb := HU5.out.box_at
                  have r0 := hbb.cell 0; have r1 := hbb.cell 1; have r2 := hbb.cell 2; have r3 := hbb.cell 3
                  simp only [List.getElem?_cons_zero, List.getElem?_cons_succ] at r0 r1 r2 r3
                  have c43 := (HAA.out k (Nat.le_refl _) _ _ HU5.out).pv
                  rw [HPV.out, HM.out] at c43
                  clear hbb
                  have HU6 := Lib.hid ((HU5.out.fresh (.cells #[.int .i64 nr, .int .i64 np, .int .i64 eq, .int .u8 0] 75)).drew)
                  have HW6 := Lib.hid ((Whole.new U 75 [.int .i64 nr, .int .i64 np, .int .i64 eq, .int .u8 0]).drew)
                  have HX6 : Hid (∀ x ∈ ([.int .i64 nr, .int .i64 np, .int .i64 eq, .int .u8 0] : List Value), x.oneCell' = true) := ppC_one ⟨⟨nr, np⟩, eq, 0⟩
                  have HO6 : Hid (((U.alloc (.cells #[.int .i64 nr, .int .i64 np, .int .i64 eq, .int .u8 0] 75)).drew).ownsRow w0.heap.size 75 4 (.slice pA M pc) M (s.qs.flatMap ppC)) := by
                    have h := sl_row HU6.out
                    rw [HPV.out] at h
                    rw [show (askS s ⟨nr, np⟩ S k).qs = s.qs from rfl, HM.out] at h
                    exact h
                  have z6 := HU6.out.size
                  have hgU := (sl_box HU5.out).lt
                  have HM9 : Hid (M ≤ 1000) := by show M ≤ 1000; rw [← HM.out]; exact hqs
                  have hM9 := HM9.out
                  refine wp_region_held_drew (S := (fun _ : World => True)) (by kernel_rfl) (trivial) (fun HS => ?_)
                  refine handTake 0 (some 142) ?_ rfl rfl (by kernel_rfl) (by kernel_rfl) (by kernel_rfl) (fun _ _ _ h => h) (by rfl) ?_ HS ?_
                  rotate_left
                  · (intro u hu; (try dsimp only at hu); go_simp; try with_reducible rfl)
                  simp only [Act.put, List.setIfInBounds_toArray, List.set_cons_zero, List.set_cons_succ]
                  refine handTake 1 (some 143) ?_ rfl rfl (by kernel_rfl) (by kernel_rfl) (by kernel_rfl) (fun _ _ _ h => h) (by rfl) ?_ HS ?_
                  rotate_left
                  · (intro u hu; (try dsimp only at hu); go_simp; try with_reducible rfl)
                  simp only [Act.put, List.setIfInBounds_toArray, List.set_cons_zero, List.set_cons_succ]
                  refine handTake 2 (some 144) ?_ rfl rfl (by kernel_rfl) (by kernel_rfl) (by kernel_rfl) (fun _ _ _ h => h) (by rfl) ?_ HS ?_
                  rotate_left
                  · (intro u hu; (try dsimp only at hu); go_simp; try with_reducible rfl)
                  simp only [Act.put, List.setIfInBounds_toArray, List.set_cons_zero, List.set_cons_succ]
                  refine handTake 3 (some 145) ?_ rfl rfl (by kernel_rfl) (by kernel_rfl) (by kernel_rfl) (fun _ _ _ h => h) (by rfl) ?_ HS ?_
                  rotate_left
                  · (intro u hu; (try dsimp only at hu); go_simp; try with_reducible rfl)
                  simp only [Act.put, List.setIfInBounds_toArray, List.set_cons_zero, List.set_cons_succ]
                  refine wpAnyH_ready (rs := [4, 5]) (by kernel_rfl) (by simp) ?_
                  refine AllReadyH.cons rfl (fun K hK => ?_) ?_
                  · clear HS
                    go_simp
                    refine hK.out _ _ (trivial) (fun HS => ?_)
                    clear hK
                    try simp only [Act.put, List.setIfInBounds_toArray, List.set_cons_zero, List.set_cons_succ]
                    refine wpAnyH_ready (rs := [5]) (by kernel_rfl) (by simp) ?_
                    refine AllReadyH.cons rfl (fun K hK => ?_) AllReadyH.nil
                    clear HS
                    go_simp
                    refine hK.out _ _ (trivial) (fun HS => ?_)
                    clear hK
                    try simp only [Act.put, List.setIfInBounds_toArray, List.set_cons_zero, List.set_cons_succ]
                    refine wpAnyH_ready (rs := [6]) (by kernel_rfl) (by simp) ?_
                    refine AllReadyH.cons rfl (fun K hK => ?_) AllReadyH.nil
                    clear HS
                    go_simp
                    refine hK.out _ _ (trivial) (fun HS => ?_)
                    clear hK
                    try simp only [Act.put, List.setIfInBounds_toArray, List.set_cons_zero, List.set_cons_succ]
                    refine wpAnyH_ready (rs := [7]) (by kernel_rfl) (by simp) ?_
                    refine AllReadyH.cons rfl (fun K hK => ?_) AllReadyH.nil
                    clear HS
                    refine step_append_foot _ rfl (.tmp 146) (.tmp 148) _ (by rfl) w0.heap.size 75 i1 _ 4 32 Try.underlying43 gi gz0 gz1 gz2 rfl (by decide) (.slice pA M pc) M (s.qs.flatMap ppC) (by rfl) HO6.out (U.heap.size + 1) (.slice (some ⟨U.heap.size, 0, none⟩) 1 1) 1 [.int .i64 nr, .int .i64 np, .int .i64 eq, .int .u8 0] (by rfl) (Row.blk HW6.out rfl (Nat.lt_succ_self _) (by simp [maxLen])) rfl HX6.out HB1.out HB2.out z6 ?_
                    intro v7 w7 hown hgr hv
                    obtain ⟨A7, c7, rfl, _, _⟩ := (Row.of_own hown).slice
                    obtain ⟨hw7, hs7⟩ := sl_grown (pv' := .slice A7 (M + 1) c7) (x := ⟨⟨nr, np⟩, eq, 0⟩) HU6.out (HAL.out k (Nat.le_refl _)).1 hown (by show M + 1 = _; rw [show (askS s ⟨nr, np⟩ S k).qs = s.qs from rfl, HM.out]) (by rw [HPV.out, HM.out]; exact hgr) (by rw [HPV.out, HM.out]; exact hv)
                    have f7 := hw7.free 43
                    have c7' := (hw7.cell 43).trans (slC_tail (j := 0) (HAL.out k (Nat.le_refl _)).1)
                    simp only [List.getElem?_cons_zero, List.getElem?_cons_succ] at c7'
                    have HS7 := Lib.hid hs7
                    clear hown hgr hv hw7 hs7
                    refine hK.out _ _ (trivial) (fun HS => ?_)
                    clear hK
                    try simp only [Act.put, List.setIfInBounds_toArray, List.set_cons_zero, List.set_cons_succ]
                    refine handTake 8 (some 150) ?_ rfl rfl (by kernel_rfl) (by kernel_rfl) (by kernel_rfl) (fun _ _ _ h => h) (by rfl) ?_ HS ?_
                    rotate_left
                    · (intro u hu; (try dsimp only at hu); go_simp; try with_reducible rfl)
                    simp only [Act.put, List.setIfInBounds_toArray, List.set_cons_zero, List.set_cons_succ]
                    refine handTake 9 (some 151) ?_ rfl rfl (by kernel_rfl) (by kernel_rfl) (by kernel_rfl) (fun _ _ _ h => h) (by rfl) ?_ HS ?_
                    rotate_left
                    · (intro u hu; (try dsimp only at hu); go_simp; try with_reducible rfl)
                    simp only [Act.put, List.setIfInBounds_toArray, List.set_cons_zero, List.set_cons_succ]
                    refine wpAnyH_ready (rs := [10]) (by kernel_rfl) (by simp) ?_
                    refine AllReadyH.cons rfl (fun K hK => ?_) AllReadyH.nil
                    clear HS
                    go_simp
                    refine hK.out _ _ (trivial) (fun HS => ?_)
                    clear hK
                    try simp only [Act.put, List.setIfInBounds_toArray, List.set_cons_zero, List.set_cons_succ]
                    refine wpAnyH_done (by kernel_rfl) ?_ _
                    clear HS
                    go_wp2_with fail
                    go_ret
                    rw [HPR.out]
                    refine ⟨rfl, .slice A7 (M + 1) c7, ?_⟩
                    rw [if_pos h2]
                    exact (((HS7.out.drop (sI w0.heap.size g (.slice A7 (M + 1) c7) _)).drop (sI w0.heap.size g (.slice A7 (M + 1) c7) _)).drop (sI w0.heap.size g (.slice A7 (M + 1) c7) _)).drop (sI w0.heap.size g (.slice A7 (M + 1) c7) _)
                  refine AllReadyH.cons rfl (fun K hK => ?_) ?_
                  · clear HS
                    go_simp
                    refine hK.out _ _ (trivial) (fun HS => ?_)
                    clear hK
                    try simp only [Act.put, List.setIfInBounds_toArray, List.set_cons_zero, List.set_cons_succ]
                    refine wpAnyH_ready (rs := [4, 6]) (by kernel_rfl) (by simp) ?_
                    refine AllReadyH.cons rfl (fun K hK => ?_) ?_
                    · clear HS
                      go_simp
                      refine hK.out _ _ (trivial) (fun HS => ?_)
                      clear hK
                      try simp only [Act.put, List.setIfInBounds_toArray, List.set_cons_zero, List.set_cons_succ]
                      refine wpAnyH_ready (rs := [6]) (by kernel_rfl) (by simp) ?_
                      refine AllReadyH.cons rfl (fun K hK => ?_) AllReadyH.nil
                      clear HS
                      go_simp
                      refine hK.out _ _ (trivial) (fun HS => ?_)
                      clear hK
                      try simp only [Act.put, List.setIfInBounds_toArray, List.set_cons_zero, List.set_cons_succ]
                      refine wpAnyH_ready (rs := [7]) (by kernel_rfl) (by simp) ?_
                      refine AllReadyH.cons rfl (fun K hK => ?_) AllReadyH.nil
                      clear HS
                      refine step_append_foot _ rfl (.tmp 146) (.tmp 148) _ (by rfl) w0.heap.size 75 i1 _ 4 32 Try.underlying43 gi gz0 gz1 gz2 rfl (by decide) (.slice pA M pc) M (s.qs.flatMap ppC) (by rfl) HO6.out (U.heap.size + 1) (.slice (some ⟨U.heap.size, 0, none⟩) 1 1) 1 [.int .i64 nr, .int .i64 np, .int .i64 eq, .int .u8 0] (by rfl) (Row.blk HW6.out rfl (Nat.lt_succ_self _) (by simp [maxLen])) rfl HX6.out HB1.out HB2.out z6 ?_
                      intro v7 w7 hown hgr hv
                      obtain ⟨A7, c7, rfl, _, _⟩ := (Row.of_own hown).slice
                      obtain ⟨hw7, hs7⟩ := sl_grown (pv' := .slice A7 (M + 1) c7) (x := ⟨⟨nr, np⟩, eq, 0⟩) HU6.out (HAL.out k (Nat.le_refl _)).1 hown (by show M + 1 = _; rw [show (askS s ⟨nr, np⟩ S k).qs = s.qs from rfl, HM.out]) (by rw [HPV.out, HM.out]; exact hgr) (by rw [HPV.out, HM.out]; exact hv)
                      have f7 := hw7.free 43
                      have c7' := (hw7.cell 43).trans (slC_tail (j := 0) (HAL.out k (Nat.le_refl _)).1)
                      simp only [List.getElem?_cons_zero, List.getElem?_cons_succ] at c7'
                      have HS7 := Lib.hid hs7
                      clear hown hgr hv hw7 hs7
                      refine hK.out _ _ (trivial) (fun HS => ?_)
                      clear hK
                      try simp only [Act.put, List.setIfInBounds_toArray, List.set_cons_zero, List.set_cons_succ]
                      refine handTake 8 (some 150) ?_ rfl rfl (by kernel_rfl) (by kernel_rfl) (by kernel_rfl) (fun _ _ _ h => h) (by rfl) ?_ HS ?_
                      rotate_left
                      · (intro u hu; (try dsimp only at hu); go_simp; try with_reducible rfl)
                      simp only [Act.put, List.setIfInBounds_toArray, List.set_cons_zero, List.set_cons_succ]
                      refine handTake 9 (some 151) ?_ rfl rfl (by kernel_rfl) (by kernel_rfl) (by kernel_rfl) (fun _ _ _ h => h) (by rfl) ?_ HS ?_
                      rotate_left
                      · (intro u hu; (try dsimp only at hu); go_simp; try with_reducible rfl)
                      simp only [Act.put, List.setIfInBounds_toArray, List.set_cons_zero, List.set_cons_succ]
                      refine wpAnyH_ready (rs := [10]) (by kernel_rfl) (by simp) ?_
                      refine AllReadyH.cons rfl (fun K hK => ?_) AllReadyH.nil
                      clear HS
                      go_simp
                      refine hK.out _ _ (trivial) (fun HS => ?_)
                      clear hK
                      try simp only [Act.put, List.setIfInBounds_toArray, List.set_cons_zero, List.set_cons_succ]
                      refine wpAnyH_done (by kernel_rfl) ?_ _
                      clear HS
                      go_wp2_with fail
                      go_ret
                      rw [HPR.out]
                      refine ⟨rfl, .slice A7 (M + 1) c7, ?_⟩
                      rw [if_pos h2]
                      exact (((HS7.out.drop (sI w0.heap.size g (.slice A7 (M + 1) c7) _)).drop (sI w0.heap.size g (.slice A7 (M + 1) c7) _)).drop (sI w0.heap.size g (.slice A7 (M + 1) c7) _)).drop (sI w0.heap.size g (.slice A7 (M + 1) c7) _)
                    refine AllReadyH.cons rfl (fun K hK => ?_) ?_
                    · clear HS
                      go_simp
                      refine hK.out _ _ (trivial) (fun HS => ?_)
                      clear hK
                      try simp only [Act.put, List.setIfInBounds_toArray, List.set_cons_zero, List.set_cons_succ]
                      refine wpAnyH_ready (rs := [4]) (by kernel_rfl) (by simp) ?_
                      refine AllReadyH.cons rfl (fun K hK => ?_) AllReadyH.nil
                      clear HS
                      go_simp
                      refine hK.out _ _ (trivial) (fun HS => ?_)
                      clear hK
                      try simp only [Act.put, List.setIfInBounds_toArray, List.set_cons_zero, List.set_cons_succ]
                      refine wpAnyH_ready (rs := [7]) (by kernel_rfl) (by simp) ?_
                      refine AllReadyH.cons rfl (fun K hK => ?_) AllReadyH.nil
                      clear HS
                      refine step_append_foot _ rfl (.tmp 146) (.tmp 148) _ (by rfl) w0.heap.size 75 i1 _ 4 32 Try.underlying43 gi gz0 gz1 gz2 rfl (by decide) (.slice pA M pc) M (s.qs.flatMap ppC) (by rfl) HO6.out (U.heap.size + 1) (.slice (some ⟨U.heap.size, 0, none⟩) 1 1) 1 [.int .i64 nr, .int .i64 np, .int .i64 eq, .int .u8 0] (by rfl) (Row.blk HW6.out rfl (Nat.lt_succ_self _) (by simp [maxLen])) rfl HX6.out HB1.out HB2.out z6 ?_
                      intro v7 w7 hown hgr hv
                      obtain ⟨A7, c7, rfl, _, _⟩ := (Row.of_own hown).slice
                      obtain ⟨hw7, hs7⟩ := sl_grown (pv' := .slice A7 (M + 1) c7) (x := ⟨⟨nr, np⟩, eq, 0⟩) HU6.out (HAL.out k (Nat.le_refl _)).1 hown (by show M + 1 = _; rw [show (askS s ⟨nr, np⟩ S k).qs = s.qs from rfl, HM.out]) (by rw [HPV.out, HM.out]; exact hgr) (by rw [HPV.out, HM.out]; exact hv)
                      have f7 := hw7.free 43
                      have c7' := (hw7.cell 43).trans (slC_tail (j := 0) (HAL.out k (Nat.le_refl _)).1)
                      simp only [List.getElem?_cons_zero, List.getElem?_cons_succ] at c7'
                      have HS7 := Lib.hid hs7
                      clear hown hgr hv hw7 hs7
                      refine hK.out _ _ (trivial) (fun HS => ?_)
                      clear hK
                      try simp only [Act.put, List.setIfInBounds_toArray, List.set_cons_zero, List.set_cons_succ]
                      refine handTake 8 (some 150) ?_ rfl rfl (by kernel_rfl) (by kernel_rfl) (by kernel_rfl) (fun _ _ _ h => h) (by rfl) ?_ HS ?_
                      rotate_left
                      · (intro u hu; (try dsimp only at hu); go_simp; try with_reducible rfl)
                      simp only [Act.put, List.setIfInBounds_toArray, List.set_cons_zero, List.set_cons_succ]
                      refine handTake 9 (some 151) ?_ rfl rfl (by kernel_rfl) (by kernel_rfl) (by kernel_rfl) (fun _ _ _ h => h) (by rfl) ?_ HS ?_
                      rotate_left
                      · (intro u hu; (try dsimp only at hu); go_simp; try with_reducible rfl)
                      simp only [Act.put, List.setIfInBounds_toArray, List.set_cons_zero, List.set_cons_succ]
                      refine wpAnyH_ready (rs := [10]) (by kernel_rfl) (by simp) ?_
                      refine AllReadyH.cons rfl (fun K hK => ?_) AllReadyH.nil
                      clear HS
                      go_simp
                      refine hK.out _ _ (trivial) (fun HS => ?_)
                      clear hK
                      try simp only [Act.put, List.setIfInBounds_toArray, List.set_cons_zero, List.set_cons_succ]
                      refine wpAnyH_done (by kernel_rfl) ?_ _
                      clear HS
                      go_wp2_with fail
                      go_ret
                      rw [HPR.out]
                      refine ⟨rfl, .slice A7 (M + 1) c7, ?_⟩
                      rw [if_pos h2]
                      exact (((HS7.out.drop (sI w0.heap.size g (.slice A7 (M + 1) c7) _)).drop (sI w0.heap.size g (.slice A7 (M + 1) c7) _)).drop (sI w0.heap.size g (.slice A7 (M + 1) c7) _)).drop (sI w0.heap.size g (.slice A7 (M + 1) c7) _)
                    exact AllReadyH.nil
                  exact AllReadyH.nil
                · have k4 : ((kd : Int) == 2) = false := by simp; omega
                  obtain ⟨U, hU⟩ : ∃ U : World, U = (V.alloc (.cells #[.int .i64 nr, .int .i64 np, .int .i64 ((M : Int) + 1), .int .u8 0] 75)).drew := ⟨_, rfl⟩
                  have HU5 : Hid (Sep w0 (sI w0.heap.size g pv (askS s ⟨nr, np⟩ S k) ++ (.box V.heap.size 75 [.int .i64 nr, .int .i64 np, .int .i64 ((M : Int) + 1), .int .u8 0] :: .box u3.heap.size 31 [.int .u8 (ek : Nat), .int .i64 ec, .int .i64 eq, .int .u8 (ok : Nat), .string oa, .string ob, .string oc] :: .row w0.heap.size 33 11 (.slice (some ⟨lb, 0, none⟩) k k) k ((askR s ⟨nr, np⟩ S k).flatMap rpC) :: .box bB 27 [.int .i64 nr, .int .i64 np] :: l)) U) := by rw [hU]; exact (HV.out.box_new _ 75 [.int .i64 nr, .int .i64 np, .int .i64 ((M : Int) + 1), .int .u8 0]).drew
                  go_wp2_with fail
                  rw [← hU]
                  clear hU HV SOF d0 d1 d2 d3
                  have hbb := HU5.out.box_at
                  have r0 := hbb.cell 0; have r1 := hbb.cell 1; have r2 := hbb.cell 2; have r3 := hbb.cell 3
                  simp only [List.getElem?_cons_zero, List.getElem?_cons_succ] at r0 r1 r2 r3
                  have c43 := (HAA.out k (Nat.le_refl _) _ _ HU5.out).pv
                  rw [HPV.out, HM.out] at c43
                  clear hbb
                  have HU6 := Lib.hid ((HU5.out.fresh (.cells #[.int .i64 nr, .int .i64 np, .int .i64 ((M : Int) + 1), .int .u8 0] 75)).drew)
                  have HW6 := Lib.hid ((Whole.new U 75 [.int .i64 nr, .int .i64 np, .int .i64 ((M : Int) + 1), .int .u8 0]).drew)
                  have HX6 : Hid (∀ x ∈ ([.int .i64 nr, .int .i64 np, .int .i64 ((M : Int) + 1), .int .u8 0] : List Value), x.oneCell' = true) := ppC_one ⟨⟨nr, np⟩, ((M : Int) + 1), 0⟩
                  have HO6 : Hid (((U.alloc (.cells #[.int .i64 nr, .int .i64 np, .int .i64 ((M : Int) + 1), .int .u8 0] 75)).drew).ownsRow w0.heap.size 75 4 (.slice pA M pc) M (s.qs.flatMap ppC)) := by
                    have h := sl_row HU6.out
                    rw [HPV.out] at h
                    rw [show (askS s ⟨nr, np⟩ S k).qs = s.qs from rfl, HM.out] at h
                    exact h
                  have z6 := HU6.out.size
                  have hgU := (sl_box HU5.out).lt
                  have HM9 : Hid (M ≤ 1000) := by show M ≤ 1000; rw [← HM.out]; exact hqs
                  have hM9 := HM9.out
                  refine wp_region_held_drew (S := (fun _ : World => True)) (by kernel_rfl) (trivial) (fun HS => ?_)
                  refine handTake 0 (some 142) ?_ rfl rfl (by kernel_rfl) (by kernel_rfl) (by kernel_rfl) (fun _ _ _ h => h) (by rfl) ?_ HS ?_
                  rotate_left
                  · (intro u hu; (try dsimp only at hu); go_simp; try with_reducible rfl)
                  simp only [Act.put, List.setIfInBounds_toArray, List.set_cons_zero, List.set_cons_succ]
                  refine handTake 1 (some 143) ?_ rfl rfl (by kernel_rfl) (by kernel_rfl) (by kernel_rfl) (fun _ _ _ h => h) (by rfl) ?_ HS ?_
                  rotate_left
                  · (intro u hu; (try dsimp only at hu); go_simp; try with_reducible rfl)
                  simp only [Act.put, List.setIfInBounds_toArray, List.set_cons_zero, List.set_cons_succ]
                  refine handTake 2 (some 144) ?_ rfl rfl (by kernel_rfl) (by kernel_rfl) (by kernel_rfl) (fun _ _ _ h => h) (by rfl) ?_ HS ?_
                  rotate_left
                  · (intro u hu; (try dsimp only at hu); go_simp; try with_reducible rfl)
                  simp only [Act.put, List.setIfInBounds_toArray, List.set_cons_zero, List.set_cons_succ]
                  refine handTake 3 (some 145) ?_ rfl rfl (by kernel_rfl) (by kernel_rfl) (by kernel_rfl) (fun _ _ _ h => h) (by rfl) ?_ HS ?_
                  rotate_left
                  · (intro u hu; (try dsimp only at hu); go_simp; try with_reducible rfl)
                  simp only [Act.put, List.setIfInBounds_toArray, List.set_cons_zero, List.set_cons_succ]
                  refine wpAnyH_ready (rs := [4, 5]) (by kernel_rfl) (by simp) ?_
                  refine AllReadyH.cons rfl (fun K hK => ?_) ?_
                  · clear HS
                    go_simp
                    refine hK.out _ _ (trivial) (fun HS => ?_)
                    clear hK
                    try simp only [Act.put, List.setIfInBounds_toArray, List.set_cons_zero, List.set_cons_succ]
                    refine wpAnyH_ready (rs := [5]) (by kernel_rfl) (by simp) ?_
                    refine AllReadyH.cons rfl (fun K hK => ?_) AllReadyH.nil
                    clear HS
                    go_simp
                    refine hK.out _ _ (trivial) (fun HS => ?_)
                    clear hK
                    try simp only [Act.put, List.setIfInBounds_toArray, List.set_cons_zero, List.set_cons_succ]
                    refine wpAnyH_ready (rs := [6]) (by kernel_rfl) (by simp) ?_
                    refine AllReadyH.cons rfl (fun K hK => ?_) AllReadyH.nil
                    clear HS
                    go_simp
                    refine hK.out _ _ (trivial) (fun HS => ?_)
                    clear hK
                    try simp only [Act.put, List.setIfInBounds_toArray, List.set_cons_zero, List.set_cons_succ]
                    refine wpAnyH_ready (rs := [7]) (by kernel_rfl) (by simp) ?_
                    refine AllReadyH.cons rfl (fun K hK => ?_) AllReadyH.nil
                    clear HS
                    refine step_append_foot _ rfl (.tmp 146) (.tmp 148) _ (by rfl) w0.heap.size 75 i1 _ 4 32 Try.underlying43 gi gz0 gz1 gz2 rfl (by decide) (.slice pA M pc) M (s.qs.flatMap ppC) (by rfl) HO6.out (U.heap.size + 1) (.slice (some ⟨U.heap.size, 0, none⟩) 1 1) 1 [.int .i64 nr, .int .i64 np, .int .i64 ((M : Int) + 1), .int .u8 0] (by rfl) (Row.blk HW6.out rfl (Nat.lt_succ_self _) (by simp [maxLen])) rfl HX6.out HB1.out HB2.out z6 ?_
                    intro v7 w7 hown hgr hv
                    obtain ⟨A7, c7, rfl, _, _⟩ := (Row.of_own hown).slice
                    obtain ⟨hw7, hs7⟩ := sl_grown (pv' := .slice A7 (M + 1) c7) (x := ⟨⟨nr, np⟩, ((M : Int) + 1), 0⟩) HU6.out (HAL.out k (Nat.le_refl _)).1 hown (by show M + 1 = _; rw [show (askS s ⟨nr, np⟩ S k).qs = s.qs from rfl, HM.out]) (by rw [HPV.out, HM.out]; exact hgr) (by rw [HPV.out, HM.out]; exact hv)
                    have f7 := hw7.free 43
                    have c7' := (hw7.cell 43).trans (slC_tail (j := 0) (HAL.out k (Nat.le_refl _)).1)
                    simp only [List.getElem?_cons_zero, List.getElem?_cons_succ] at c7'
                    have HS7 := Lib.hid hs7
                    clear hown hgr hv hw7 hs7
                    refine hK.out _ _ (trivial) (fun HS => ?_)
                    clear hK
                    try simp only [Act.put, List.setIfInBounds_toArray, List.set_cons_zero, List.set_cons_succ]
                    refine handTake 8 (some 150) ?_ rfl rfl (by kernel_rfl) (by kernel_rfl) (by kernel_rfl) (fun _ _ _ h => h) (by rfl) ?_ HS ?_
                    rotate_left
                    · (intro u hu; (try dsimp only at hu); go_simp; try with_reducible rfl)
                    simp only [Act.put, List.setIfInBounds_toArray, List.set_cons_zero, List.set_cons_succ]
                    refine handTake 9 (some 151) ?_ rfl rfl (by kernel_rfl) (by kernel_rfl) (by kernel_rfl) (fun _ _ _ h => h) (by rfl) ?_ HS ?_
                    rotate_left
                    · (intro u hu; (try dsimp only at hu); go_simp; try with_reducible rfl)
                    simp only [Act.put, List.setIfInBounds_toArray, List.set_cons_zero, List.set_cons_succ]
                    refine wpAnyH_ready (rs := [10]) (by kernel_rfl) (by simp) ?_
                    refine AllReadyH.cons rfl (fun K hK => ?_) AllReadyH.nil
                    clear HS
                    go_simp
                    refine hK.out _ _ (trivial) (fun HS => ?_)
                    clear hK
                    try simp only [Act.put, List.setIfInBounds_toArray, List.set_cons_zero, List.set_cons_succ]
                    refine wpAnyH_done (by kernel_rfl) ?_ _
                    clear HS
                    go_wp2_with fail
                    go_ret
                    rw [HPR.out]
                    refine ⟨rfl, .slice A7 (M + 1) c7, ?_⟩
                    rw [if_neg h2]
                    exact (((HS7.out.drop (sI w0.heap.size g (.slice A7 (M + 1) c7) _)).drop (sI w0.heap.size g (.slice A7 (M + 1) c7) _)).drop (sI w0.heap.size g (.slice A7 (M + 1) c7) _)).drop (sI w0.heap.size g (.slice A7 (M + 1) c7) _)
                  refine AllReadyH.cons rfl (fun K hK => ?_) ?_
                  · clear HS
                    go_simp
                    refine hK.out _ _ (trivial) (fun HS => ?_)
                    clear hK
                    try simp only [Act.put, List.setIfInBounds_toArray, List.set_cons_zero, List.set_cons_succ]
                    refine wpAnyH_ready (rs := [4, 6]) (by kernel_rfl) (by simp) ?_
                    refine AllReadyH.cons rfl (fun K hK => ?_) ?_
                    · clear HS
                      go_simp
                      refine hK.out _ _ (trivial) (fun HS => ?_)
                      clear hK
                      try simp only [Act.put, List.setIfInBounds_toArray, List.set_cons_zero, List.set_cons_succ]
                      refine wpAnyH_ready (rs := [6]) (by kernel_rfl) (by simp) ?_
                      refine AllReadyH.cons rfl (fun K hK => ?_) AllReadyH.nil
                      clear HS
                      go_simp
                      refine hK.out _ _ (trivial) (fun HS => ?_)
                      clear hK
                      try simp only [Act.put, List.setIfInBounds_toArray, List.set_cons_zero, List.set_cons_succ]
                      refine wpAnyH_ready (rs := [7]) (by kernel_rfl) (by simp) ?_
                      refine AllReadyH.cons rfl (fun K hK => ?_) AllReadyH.nil
                      clear HS
                      refine step_append_foot _ rfl (.tmp 146) (.tmp 148) _ (by rfl) w0.heap.size 75 i1 _ 4 32 Try.underlying43 gi gz0 gz1 gz2 rfl (by decide) (.slice pA M pc) M (s.qs.flatMap ppC) (by rfl) HO6.out (U.heap.size + 1) (.slice (some ⟨U.heap.size, 0, none⟩) 1 1) 1 [.int .i64 nr, .int .i64 np, .int .i64 ((M : Int) + 1), .int .u8 0] (by rfl) (Row.blk HW6.out rfl (Nat.lt_succ_self _) (by simp [maxLen])) rfl HX6.out HB1.out HB2.out z6 ?_
                      intro v7 w7 hown hgr hv
                      obtain ⟨A7, c7, rfl, _, _⟩ := (Row.of_own hown).slice
                      obtain ⟨hw7, hs7⟩ := sl_grown (pv' := .slice A7 (M + 1) c7) (x := ⟨⟨nr, np⟩, ((M : Int) + 1), 0⟩) HU6.out (HAL.out k (Nat.le_refl _)).1 hown (by show M + 1 = _; rw [show (askS s ⟨nr, np⟩ S k).qs = s.qs from rfl, HM.out]) (by rw [HPV.out, HM.out]; exact hgr) (by rw [HPV.out, HM.out]; exact hv)
                      have f7 := hw7.free 43
                      have c7' := (hw7.cell 43).trans (slC_tail (j := 0) (HAL.out k (Nat.le_refl _)).1)
                      simp only [List.getElem?_cons_zero, List.getElem?_cons_succ] at c7'
                      have HS7 := Lib.hid hs7
                      clear hown hgr hv hw7 hs7
                      refine hK.out _ _ (trivial) (fun HS => ?_)
                      clear hK
                      try simp only [Act.put, List.setIfInBounds_toArray, List.set_cons_zero, List.set_cons_succ]
                      refine handTake 8 (some 150) ?_ rfl rfl (by kernel_rfl) (by kernel_rfl) (by kernel_rfl) (fun _ _ _ h => h) (by rfl) ?_ HS ?_
                      rotate_left
                      · (intro u hu; (try dsimp only at hu); go_simp; try with_reducible rfl)
                      simp only [Act.put, List.setIfInBounds_toArray, List.set_cons_zero, List.set_cons_succ]
                      refine handTake 9 (some 151) ?_ rfl rfl (by kernel_rfl) (by kernel_rfl) (by kernel_rfl) (fun _ _ _ h => h) (by rfl) ?_ HS ?_
                      rotate_left
                      · (intro u hu; (try dsimp only at hu); go_simp; try with_reducible rfl)
                      simp only [Act.put, List.setIfInBounds_toArray, List.set_cons_zero, List.set_cons_succ]
                      refine wpAnyH_ready (rs := [10]) (by kernel_rfl) (by simp) ?_
                      refine AllReadyH.cons rfl (fun K hK => ?_) AllReadyH.nil
                      clear HS
                      go_simp
                      refine hK.out _ _ (trivial) (fun HS => ?_)
                      clear hK
                      try simp only [Act.put, List.setIfInBounds_toArray, List.set_cons_zero, List.set_cons_succ]
                      refine wpAnyH_done (by kernel_rfl) ?_ _
                      clear HS
                      go_wp2_with fail
                      go_ret
                      rw [HPR.out]
                      refine ⟨rfl, .slice A7 (M + 1) c7, ?_⟩
                      rw [if_neg h2]
                      exact (((HS7.out.drop (sI w0.heap.size g (.slice A7 (M + 1) c7) _)).drop (sI w0.heap.size g (.slice A7 (M + 1) c7) _)).drop (sI w0.heap.size g (.slice A7 (M + 1) c7) _)).drop (sI w0.heap.size g (.slice A7 (M + 1) c7) _)
                    refine AllReadyH.cons rfl (fun K hK => ?_) ?_
                    · clear HS
                      go_simp
                      refine hK.out _ _ (trivial) (fun HS => ?_)
                      clear hK
                      try simp only [Act.put, List.setIfInBounds_toArray, List.set_cons_zero, List.set_cons_succ]
                      refine wpAnyH_ready (rs := [4]) (by kernel_rfl) (by simp) ?_
                      refine AllReadyH.cons rfl (fun K hK => ?_) AllReadyH.nil
                      clear HS
                      go_simp
                      refine hK.out _ _ (trivial) (fun HS => ?_)
                      clear hK
                      try simp only [Act.put, List.setIfInBounds_toArray, List.set_cons_zero, List.set_cons_succ]
                      refine wpAnyH_ready (rs := [7]) (by kernel_rfl) (by simp) ?_
                      refine AllReadyH.cons rfl (fun K hK => ?_) AllReadyH.nil
                      clear HS
                      refine step_append_foot _ rfl (.tmp 146) (.tmp 148) _ (by rfl) w0.heap.size 75 i1 _ 4 32 Try.underlying43 gi gz0 gz1 gz2 rfl (by decide) (.slice pA M pc) M (s.qs.flatMap ppC) (by rfl) HO6.out (U.heap.size + 1) (.slice (some ⟨U.heap.size, 0, none⟩) 1 1) 1 [.int .i64 nr, .int .i64 np, .int .i64 ((M : Int) + 1), .int .u8 0] (by rfl) (Row.blk HW6.out rfl (Nat.lt_succ_self _) (by simp [maxLen])) rfl HX6.out HB1.out HB2.out z6 ?_
                      intro v7 w7 hown hgr hv
                      obtain ⟨A7, c7, rfl, _, _⟩ := (Row.of_own hown).slice
                      obtain ⟨hw7, hs7⟩ := sl_grown (pv' := .slice A7 (M + 1) c7) (x := ⟨⟨nr, np⟩, ((M : Int) + 1), 0⟩) HU6.out (HAL.out k (Nat.le_refl _)).1 hown (by show M + 1 = _; rw [show (askS s ⟨nr, np⟩ S k).qs = s.qs from rfl, HM.out]) (by rw [HPV.out, HM.out]; exact hgr) (by rw [HPV.out, HM.out]; exact hv)
                      have f7 := hw7.free 43
                      have c7' := (hw7.cell 43).trans (slC_tail (j := 0) (HAL.out k (Nat.le_refl _)).1)
                      simp only [List.getElem?_cons_zero, List.getElem?_cons_succ] at c7'
                      have HS7 := Lib.hid hs7
                      clear hown hgr hv hw7 hs7
                      refine hK.out _ _ (trivial) (fun HS => ?_)
                      clear hK
                      try simp only [Act.put, List.setIfInBounds_toArray, List.set_cons_zero, List.set_cons_succ]
                      refine handTake 8 (some 150) ?_ rfl rfl (by kernel_rfl) (by kernel_rfl) (by kernel_rfl) (fun _ _ _ h => h) (by rfl) ?_ HS ?_
                      rotate_left
                      · (intro u hu; (try dsimp only at hu); go_simp; try with_reducible rfl)
                      simp only [Act.put, List.setIfInBounds_toArray, List.set_cons_zero, List.set_cons_succ]
                      refine handTake 9 (some 151) ?_ rfl rfl (by kernel_rfl) (by kernel_rfl) (by kernel_rfl) (fun _ _ _ h => h) (by rfl) ?_ HS ?_
                      rotate_left
                      · (intro u hu; (try dsimp only at hu); go_simp; try with_reducible rfl)
                      simp only [Act.put, List.setIfInBounds_toArray, List.set_cons_zero, List.set_cons_succ]
                      refine wpAnyH_ready (rs := [10]) (by kernel_rfl) (by simp) ?_
                      refine AllReadyH.cons rfl (fun K hK => ?_) AllReadyH.nil
                      clear HS
                      go_simp
                      refine hK.out _ _ (trivial) (fun HS => ?_)
                      clear hK
                      try simp only [Act.put, List.setIfInBounds_toArray, List.set_cons_zero, List.set_cons_succ]
                      refine wpAnyH_done (by kernel_rfl) ?_ _
                      clear HS
                      go_wp2_with fail
                      go_ret
                      rw [HPR.out]
                      refine ⟨rfl, .slice A7 (M + 1) c7, ?_⟩
                      rw [if_neg h2]
                      exact (((HS7.out.drop (sI w0.heap.size g (.slice A7 (M + 1) c7) _)).drop (sI w0.heap.size g (.slice A7 (M + 1) c7) _)).drop (sI w0.heap.size g (.slice A7 (M + 1) c7) _)).drop (sI w0.heap.size g (.slice A7 (M + 1) c7) _)
                    exact AllReadyH.nil
                  exact AllReadyH.nil
              · rw [if_neg hok] at HPR
                have HU4 : Hid (Sep w0 (sI w0.heap.size g pv (askS s ⟨nr, np⟩ S k) ++ l) (u3.alloc (.cells #[.int .u8 (ek : Nat), .int .i64 ec, .int .i64 eq, .int .u8 (ok : Nat), .string oa, .string ob, .string oc] 31))) := ((HU.out.fresh _).drop (sI w0.heap.size g pv _)).drop (sI w0.heap.size g pv _)
                by_cases hf : fd = 0
                · have hk : kd = 0 := by
                    apply Classical.byContradiction
                    intro h; exact hok ⟨hf, h⟩
                  have k1 : (fd == 0) = true := by simpa using hf
                  have k2 : (fd != 0) = false := by simpa using hf
                  have k3 : ((kd : Int) == 0) = true := by simp; omega
                  clear hf hok hk
                  go_wp2_with fail
                  go_ret
                  rw [HPR.out]
                  exact ⟨rfl, _, HU4.out⟩
                · have k1 : (fd == 0) = false := by simpa using hf
                  have k2 : (fd != 0) = true := by simpa using hf
                  clear hf hok
                  go_wp2_with fail
                  go_ret
                  rw [HPR.out]
                  exact ⟨rfl, _, HU4.out⟩
        · have hne1 : (ne == 0) = false := by simpa using hne
          have hne2 : (ne != 0) = true := by simpa using hne
          rw [if_neg hne] at HPR
          clear hne
          go_wp2_with fail
          go_ret
          rw [HPR.out]
          exact ⟨rfl, _, HC.out.drop (sI w0.heap.size g pv s)⟩
end Ch
end Go.Proofs.Ytpgejomhcojppaa
