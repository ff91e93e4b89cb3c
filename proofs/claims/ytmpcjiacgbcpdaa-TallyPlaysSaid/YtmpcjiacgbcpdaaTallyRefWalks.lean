/- The document's tally: Count, Upto, New, Drop. -/
import Derived.Test.YtmpcjiacgbcpdaaTallyRef
import Derived.Deep.RegionHeld3
import Derived.StillTailTactics
set_option linter.unusedSimpArgs false
set_option linter.unusedVariables false
namespace Go.Proofs.Ytmpcjiacgbcpdaa
open Go.RowKit
open Qm

namespace Ta

def crowdB (n : Int) : Bool := decide (n = 3) || decide (n = 5) || decide (n = 7)
theorem rcrowd_any (n : Int) (w : World) :
    Calls Try.prog 30 #[.int .i64 n] w fun e w' => e = .returned (.bool (crowdB n)) ∧ w = w' := by
  have N : Hid (crowdB n = (decide (n = 3) || decide (n = 5) || decide (n = 7))) := rfl
  go_enter Try.func30, Try.ntmps30
  go_wp2
  all_goals go_ret
  all_goals refine ⟨congrArg (fun z => Ending.returned (Value.bool z)) ?_, rfl⟩
  all_goals rw [N.out]
  all_goals simp_all [Bool.beq_eq_decide_eq]

theorem mem_zero (n : Int) : (membersN 0 n).length = 0 := by
  have h : belowN 0 n = 0 := by unfold belowN; split <;> simp
  unfold membersN; rw [h, bits_zero]; rfl

set_option maxHeartbeats 1000000 in
theorem rcount_any (g : Nat) (n : Int) (R : Rows) (hR : Ok R) (i : Int) (w : World) (ht : RAt w g n R) :
    Calls Try.prog 17 #[.pointer (some ⟨g, 0, none⟩), .int .i64 i] w fun e w' => e = .returned (.int .i64 ((membersN (setOf R i) n).length : Nat)) ∧ Below w.heap.size w w' := by
  have AT := Lib.hid (rat_any g n R i w ht)
  obtain ⟨hz1, hz2⟩ := atZ_ge R i
  obtain ⟨v, H_tl, hown⟩ := ht
  have hr := Row.of_own hown
  have hlen := hr.bound
  obtain ⟨A, c, rfl, _, _⟩ := hr.slice
  have HB := Below.refl w.heap.size w
  have HR := Lib.hid hr
  clear hr hown
  by_cases hz : atZ R i < 0
  · have hs : setOf R i = 0 := by unfold setOf; rw [atZ_none.1 hz]; rfl
    rw [hs, mem_zero]
    clear hs
    generalize atZ R i = z at *
    clear H_tl HB
    go_enter Try.func17, Try.ntmps17
    go_wp2_with fail
    refine AT.out.mono ?_
    rintro e u ⟨rfl, rfl⟩
    go_wp2_with fail
    go_ret
    exact ⟨rfl, Below.refl _ _⟩
  · obtain ⟨k, hk, x, hx, hkx⟩ := atZ_some (R := R) (i := i) (by omega)
    have hs : setOf R i = x := by unfold setOf; rw [hx]; rfl
    have hx8 : x < 256 := by rw [← hs]; exact ok_lt hR i
    rw [hs]
    rw [hk] at AT hz hz1 hz2
    have hlt : k < R.length := by omega
    have hri := HR.out
    obtain ⟨b, off, rfl, hb0, hxx⟩ := hri.elem rc_len (by omega) hlt
    have he : R[k] = (i, x) := by rw [List.getElem?_eq_getElem hlt] at hkx; injection hkx
    rw [he] at hxx
    have x1 := hxx 1 _ rfl
    rw [← Nat.add_assoc] at x1
    have ME := Lib.hid (rmembers_any x hx8 n)
    have hml : (membersN x n).length ≤ 8 := bits_len _
    have hk0 : (0 : Int) ≤ (k : Int) := by omega
    have hk1 : (k : Int) < (R.length : Int) := by omega
    clear hxx he hri hk hx hkx hs hx8 hz hz1 hz2 hR
    have z_w := HB.size
    have c_tl_0 := H_tl.cell 0; have f_tl_0 := H_tl.free 0; have c_tl_1 := H_tl.cell 1; have f_tl_1 := H_tl.free 1
    simp only [List.set_cons_zero, List.set_cons_succ, List.getElem?_cons_zero, List.getElem?_cons_succ] at c_tl_0 c_tl_1
    have l_tl := H_tl.lt; have K_tl := Lib.hid H_tl; clear H_tl
    have KB := Lib.hid HB; clear HB
    go_enter Try.func17, Try.ntmps17
    go_wp2_with fail
    refine (AT.out).mono ?_
    rintro e1 u1 ⟨rfl, rfl⟩
    go_wp2_with fail
    have SOF : Hid (∀ u : World, Hid (Known u [(g, 61, [.int .i64 n, .slice (some ⟨b, off, none⟩) R.length c])] ∧ Below w.heap.size w u) → (fun u : World => (u.cell? ⟨g, 0, none⟩ = some (.int .i64 n) ∧ u.cell? ⟨g, 1, none⟩ = some (.slice (some ⟨b, off, none⟩) R.length c) ∧ u.cell? ⟨b, off + k * 2 + 1, none⟩ = some (.int .u8 (x : Nat))) ∧ Hid (Known u [(g, 61, [.int .i64 n, .slice (some ⟨b, off, none⟩) R.length c])] ∧ Below w.heap.size w u)) u) := fun u h => ⟨⟨(h.out.1.head.cell 0), (h.out.1.head.cell 1), ((h.out.2.cell (p := ⟨b, off + k * 2 + 1, none⟩) hb0).trans x1)⟩, h⟩
    refine wp_region_held_drew (S := (fun u : World => (u.cell? ⟨g, 0, none⟩ = some (.int .i64 n) ∧ u.cell? ⟨g, 1, none⟩ = some (.slice (some ⟨b, off, none⟩) R.length c) ∧ u.cell? ⟨b, off + k * 2 + 1, none⟩ = some (.int .u8 (x : Nat))) ∧ Hid (Known u [(g, 61, [.int .i64 n, .slice (some ⟨b, off, none⟩) R.length c])] ∧ Below w.heap.size w u))) (by kernel_rfl) (SOF.out _ ⟨(Known.add (K_tl.out.drew) (Known.nil _)), (KB.out.drew)⟩) (fun HS => ?_)
    refine handTake 0 (some 11) ?_ rfl rfl (by kernel_rfl) (by kernel_rfl) (by kernel_rfl) (fun _ _ _ h => h) (by rfl) ?_ HS ?_
    rotate_left
    · (intro u hu; (try dsimp only at hu); go_simp; try with_reducible rfl)
    simp only [Act.put, List.setIfInBounds_toArray, List.set_cons_zero, List.set_cons_succ]
    refine handTake 1 (some 12) ?_ rfl rfl (by kernel_rfl) (by kernel_rfl) (by kernel_rfl) (fun _ _ _ h => h) (by rfl) ?_ HS ?_
    rotate_left
    · (intro u hu; (try dsimp only at hu); go_simp; try with_reducible rfl)
    simp only [Act.put, List.setIfInBounds_toArray, List.set_cons_zero, List.set_cons_succ]
    refine handTake 2 (some 13) ?_ rfl rfl (by kernel_rfl) (by kernel_rfl) (by kernel_rfl) (fun _ _ _ h => h) (by rfl) ?_ HS ?_
    rotate_left
    · (intro u hu; (try dsimp only at hu); go_simp; try with_reducible rfl)
    simp only [Act.put, List.setIfInBounds_toArray, List.set_cons_zero, List.set_cons_succ]
    refine handTake 3 (some 14) ?_ rfl rfl (by kernel_rfl) (by kernel_rfl) (by kernel_rfl) (fun _ _ _ h => h) (by rfl) ?_ HS ?_
    rotate_left
    · (intro u hu; (try dsimp only at hu); go_simp; try with_reducible rfl)
    simp only [Act.put, List.setIfInBounds_toArray, List.set_cons_zero, List.set_cons_succ]
    refine handTake 4 (some 15) ?_ rfl rfl (by kernel_rfl) (by kernel_rfl) (by kernel_rfl) (fun _ _ _ h => h) (by rfl) ?_ HS ?_
    rotate_left
    · (intro u hu; (try dsimp only at hu); go_simp; try with_reducible rfl)
    simp only [Act.put, List.setIfInBounds_toArray, List.set_cons_zero, List.set_cons_succ]
    refine handTake 5 (some 16) ?_ rfl rfl (by kernel_rfl) (by kernel_rfl) (by kernel_rfl) (fun _ _ _ h => h) (by rfl) ?_ HS ?_
    rotate_left
    · (intro u hu; (try dsimp only at hu); go_simp; try with_reducible rfl)
    simp only [Act.put, List.setIfInBounds_toArray, List.set_cons_zero, List.set_cons_succ]
    refine handTake 6 (some 17) ?_ rfl rfl (by kernel_rfl) (by kernel_rfl) (by kernel_rfl) (fun _ _ _ h => h) (by rfl) ?_ HS ?_
    rotate_left
    · (intro u hu; (try dsimp only at hu); go_simp; try with_reducible rfl)
    simp only [Act.put, List.setIfInBounds_toArray, List.set_cons_zero, List.set_cons_succ]
    refine handTake 7 (some 18) ?_ rfl rfl (by kernel_rfl) (by kernel_rfl) (by kernel_rfl) (fun _ _ _ h => h) (by rfl) ?_ HS ?_
    rotate_left
    · (intro u hu; (try dsimp only at hu); go_simp; try with_reducible rfl)
    simp only [Act.put, List.setIfInBounds_toArray, List.set_cons_zero, List.set_cons_succ]
    refine handTake 8 (some 19) ?_ rfl rfl (by kernel_rfl) (by kernel_rfl) (by kernel_rfl) (fun _ _ _ h => h) (by rfl) ?_ HS ?_
    rotate_left
    · (intro u hu; (try dsimp only at hu); go_simp; try with_reducible rfl)
    simp only [Act.put, List.setIfInBounds_toArray, List.set_cons_zero, List.set_cons_succ]
    refine handTake 9 (some 20) ?_ rfl rfl (by kernel_rfl) (by kernel_rfl) (by kernel_rfl) (fun _ _ _ h => h) (by rfl) ?_ HS ?_
    rotate_left
    · (intro u hu; (try dsimp only at hu); go_simp; try with_reducible rfl)
    simp only [Act.put, List.setIfInBounds_toArray, List.set_cons_zero, List.set_cons_succ]
    refine handTake 10 (some 21) ?_ rfl rfl (by kernel_rfl) (by kernel_rfl) (by kernel_rfl) (fun _ _ _ h => h) (by rfl) ?_ HS ?_
    rotate_left
    · (intro u hu; (try dsimp only at hu); go_simp; try with_reducible rfl)
    simp only [Act.put, List.setIfInBounds_toArray, List.set_cons_zero, List.set_cons_succ]
    refine handTake 11 (some 22) ?_ rfl rfl (by kernel_rfl) (by kernel_rfl) (by kernel_rfl) (fun _ _ _ h => h) (by rfl) ?_ HS ?_
    rotate_left
    · (intro u hu; (try dsimp only at hu); go_simp; try with_reducible rfl)
    simp only [Act.put, List.setIfInBounds_toArray, List.set_cons_zero, List.set_cons_succ]
    refine wpAnyH_ready (rs := [12]) (by kernel_rfl) (by simp) ?_
    refine AllReadyH.cons rfl (fun K hK => ?_) AllReadyH.nil
    go_simp
    clear HS
    refine (ME.out _).mono ?_
    rintro e2 u2 ⟨v, rfl, hown, hb⟩
    obtain ⟨A, c, rfl, hn1, hc1⟩ := (Row.of_own hown.1).slice
    clear hown
    have H_tl : Whole u2 (g) 61 _ := Whole.below (K_tl.out.drew) hb (by first | omega | (simp; done) | (simp; omega) | (simp at *; omega))
    have HB := (KB.out.drew).trans (hb.mono (by first | omega | (simp; done) | (simp; omega) | (simp at *; omega)))
    clear c_tl_0 c_tl_1 f_tl_0 f_tl_1 l_tl
    clear hb KB K_tl
    have z_u2 := HB.size
    have c_tl_0 := H_tl.cell 0; have f_tl_0 := H_tl.free 0; have c_tl_1 := H_tl.cell 1; have f_tl_1 := H_tl.free 1
    simp only [List.set_cons_zero, List.set_cons_succ, List.getElem?_cons_zero, List.getElem?_cons_succ] at c_tl_0 c_tl_1
    have l_tl := H_tl.lt; have K_tl := Lib.hid H_tl; clear H_tl
    have KB := Lib.hid HB; clear HB
    have HS' := Lib.hid (SOF.out _ ⟨(Known.add K_tl.out (Known.nil _)), KB.out⟩)
    go_wp2_with fail
    refine hK.out _ _ HS'.out (fun HS => ?_)
    clear hK HS'
    try simp only [Act.put, List.setIfInBounds_toArray, List.set_cons_zero, List.set_cons_succ]
    refine handTake 13 (some 24) ?_ rfl rfl (by kernel_rfl) (by kernel_rfl) (by kernel_rfl) (fun _ _ _ h => h) (by rfl) ?_ HS ?_
    rotate_left
    · (intro u hu; (try dsimp only at hu); go_simp; try with_reducible rfl)
    simp only [Act.put, List.setIfInBounds_toArray, List.set_cons_zero, List.set_cons_succ]
    refine handTake 14 (some 4) ?_ rfl rfl (by kernel_rfl) (by kernel_rfl) (by kernel_rfl) (fun _ _ _ h => h) (by rfl) ?_ HS ?_
    rotate_left
    · (intro u hu; (try dsimp only at hu); go_simp; try with_reducible rfl)
    simp only [Act.put, List.setIfInBounds_toArray, List.set_cons_zero, List.set_cons_succ]
    refine wpAnyH_done (by kernel_rfl) ?_ _
    clear HS SOF
    go_wp2_with fail
    go_ret
    exact ⟨by first | rfl | (simp; done), KB.out⟩

set_option maxHeartbeats 1000000 in
theorem rupto_lo (g : Nat) (f : Int) (h1 : f < 0) (w : World) :
    Calls Try.prog 18 #[.pointer (some ⟨g, 0, none⟩), .int .i64 f] w fun e w' => e = .returned (.int .i64 f) ∧ w = w' := by
  go_enter Try.func18, Try.ntmps18
  go_wp2_with fail
  go_ret
  exact ⟨rfl, rfl⟩

set_option maxHeartbeats 1000000 in
theorem rupto_hi (g : Nat) (f : Int) (h1 : 0 ≤ f) (h2 : 1099511627776 < f) (w : World) :
    Calls Try.prog 18 #[.pointer (some ⟨g, 0, none⟩), .int .i64 f] w fun e w' => e = .returned (.int .i64 f) ∧ w = w' := by
  go_enter Try.func18, Try.ntmps18
  go_wp2_with fail
  go_ret
  exact ⟨rfl, rfl⟩

theorem enough_cnt (s : Nat) (n : Int) (hm : 0 < mostN n) : enoughB s n = decide (mostN n ≤ (membersN s n).length) := by
  unfold enoughB
  rw [decide_eq_true hm, Bool.true_and]
set_option maxHeartbeats 4000000 in
theorem rupto_any (g : Nat) (n : Int) (hm : 0 < mostN n) (R : Rows) (hR : Ok R) (f : Int) (h1 : 0 ≤ f) (h2 : f ≤ 1099511627776) (w : World) (ht : RAt w g n R) :
    Calls Try.prog 18 #[.pointer (some ⟨g, 0, none⟩), .int .i64 f] w fun e w' => (∃ u, e = .returned (.int .i64 u) ∧ UptoIs R n f u) ∧ Below w.heap.size w w' := by
  have KR := Lib.hid ht
  obtain ⟨v0, H_tl, _⟩ := ht
  have KT := Lib.hid H_tl
  have HOK := Lib.hid hR
  have hm9 := most_le n
  have HM := Lib.hid hm
  clear hR H_tl hm
  go_enter Try.func18, Try.ntmps18
  go_wp2_with fail
  go_loopw [1] (fun fv wr => ∃ v : Int, fv = .int .i64 v ∧ f ≤ v ∧ v ≤ 1099511627776 ∧ (∀ j, f < j → j ≤ v → enoughB (setOf R j) n = true) ∧ Below w.heap.size w wr) (fun fv _ => (1099511627776 - intOf fv).toNat)
  case atStart => exact ⟨f, rfl, by omega, by omega, fun j a b => by omega, Below.refl _ _⟩
  case round =>
    obtain ⟨v, rfl, hv1, hv2, hall, HB⟩ := hrel
    have H_tl := KT.out.below HB KT.out.lt
    have HA := Lib.hid hall
    have hw : IntKind.i64.wrap (v + 1) = v + 1 := IntWalk.i64_in _ (by omega)
    have hei := @enough_in R HOK.out n (v + 1)
    have hcn := enough_cnt (setOf R (v + 1)) n HM.out
    have CN := rcount_any g n R HOK.out (v + 1)
    have hml : (membersN (setOf R (v + 1)) n).length ≤ 8 := bits_len _
    generalize (membersN (setOf R (v + 1)) n).length = cl at *
    have CN := Lib.hid CN
    clear hall
    by_cases hq : mostN n ≤ cl
    · rw [decide_eq_true hq] at hcn
      have hle := hei hcn
      have HQ := Lib.hid hcn
      clear hei hcn
      obtain ⟨hle1, hle2⟩ := hle
      have z_wr := HB.size
      have c_tl_0 := H_tl.cell 0; have f_tl_0 := H_tl.free 0; have c_tl_1 := H_tl.cell 1; have f_tl_1 := H_tl.free 1
      simp only [List.set_cons_zero, List.set_cons_succ, List.getElem?_cons_zero, List.getElem?_cons_succ] at c_tl_0 c_tl_1
      have l_tl := H_tl.lt; have K_tl := Lib.hid H_tl; clear H_tl
      have KB := Lib.hid HB; clear HB
      generalize hmq : mostN n = mq at *
      have HMQ := Lib.hid hmq; clear hmq
      have MO := rmost_any n
      rw [HMQ.out] at MO
      have MO := Lib.hid MO
      have hq1 : decide ((mq : Int) ≤ (cl : Int)) = true := decide_eq_true (by omega)
      go_wp2_with fail
      have SOF : Hid (∀ u : World, Hid (Known u [(g, 61, [.int .i64 n, v0])] ∧ Below w.heap.size w u) → (fun u : World => (u.cell? ⟨g, 0, none⟩ = some (.int .i64 n) ∧ u.cell? ⟨g, 1, none⟩ = some (v0)) ∧ Hid (Known u [(g, 61, [.int .i64 n, v0])] ∧ Below w.heap.size w u)) u) := fun u h => ⟨⟨(h.out.1.head.cell 0), (h.out.1.head.cell 1)⟩, h⟩
      refine wp_region_held_drew (S := (fun u : World => (u.cell? ⟨g, 0, none⟩ = some (.int .i64 n) ∧ u.cell? ⟨g, 1, none⟩ = some (v0)) ∧ Hid (Known u [(g, 61, [.int .i64 n, v0])] ∧ Below w.heap.size w u))) (by kernel_rfl) (SOF.out _ ⟨(Known.add (K_tl.out.drew) (Known.nil _)), (KB.out.drew)⟩) (fun HS => ?_)
      refine handTake 0 (some 12) ?_ rfl rfl (by kernel_rfl) (by kernel_rfl) (by kernel_rfl) (fun _ _ _ h => h) (by rfl) ?_ HS ?_
      rotate_left
      · (intro u hu; (try dsimp only at hu); go_simp; try with_reducible rfl)
      simp only [Act.put, List.setIfInBounds_toArray, List.set_cons_zero, List.set_cons_succ]
      refine handTake 1 (some 13) ?_ rfl rfl (by kernel_rfl) (by kernel_rfl) (by kernel_rfl) (fun _ _ _ h => h) (by rfl) ?_ HS ?_
      rotate_left
      · (intro u hu; (try dsimp only at hu); go_simp; try with_reducible rfl)
      simp only [Act.put, List.setIfInBounds_toArray, List.set_cons_zero, List.set_cons_succ]
      refine handTake 2 (some 14) ?_ rfl rfl (by kernel_rfl) (by kernel_rfl) (by kernel_rfl) (fun _ _ _ h => h) (by rfl) ?_ HS ?_
      rotate_left
      · (intro u hu; (try dsimp only at hu); go_simp; try with_reducible rfl)
      simp only [Act.put, List.setIfInBounds_toArray, List.set_cons_zero, List.set_cons_succ]
      refine handTake 4 (some 16) ?_ rfl rfl (by kernel_rfl) (by kernel_rfl) (by kernel_rfl) (fun _ _ _ h => h) (by rfl) ?_ HS ?_
      rotate_left
      · (intro u hu; (try dsimp only at hu); go_simp; try with_reducible rfl)
      simp only [Act.put, List.setIfInBounds_toArray, List.set_cons_zero, List.set_cons_succ]
      refine handTake 5 (some 17) ?_ rfl rfl (by kernel_rfl) (by kernel_rfl) (by kernel_rfl) (fun _ _ _ h => h) (by rfl) ?_ HS ?_
      rotate_left
      · (intro u hu; (try dsimp only at hu); go_simp; try with_reducible rfl)
      simp only [Act.put, List.setIfInBounds_toArray, List.set_cons_zero, List.set_cons_succ]
      refine handTake 6 (some 18) ?_ rfl rfl (by kernel_rfl) (by kernel_rfl) (by kernel_rfl) (fun _ _ _ h => h) (by rfl) ?_ HS ?_
      rotate_left
      · (intro u hu; (try dsimp only at hu); go_simp; try with_reducible rfl)
      simp only [Act.put, List.setIfInBounds_toArray, List.set_cons_zero, List.set_cons_succ]
      refine handTake 7 (some 19) ?_ rfl rfl (by kernel_rfl) (by kernel_rfl) (by kernel_rfl) (fun _ _ _ h => h) (by rfl) ?_ HS ?_
      rotate_left
      · (intro u hu; (try dsimp only at hu); go_simp; try with_reducible rfl)
      simp only [Act.put, List.setIfInBounds_toArray, List.set_cons_zero, List.set_cons_succ]
      refine wpAnyH_ready (rs := [3]) (by kernel_rfl) (by simp) ?_
      refine AllReadyH.cons rfl (fun K hK => ?_) AllReadyH.nil
      go_simp
      clear HS
      refine (CN.out _ (KR.out.keep (KB.out.drew))).mono ?_
      rintro e51 u51 ⟨rfl, hb⟩
      have H_tl : Whole u51 (g) 61 _ := Whole.below (K_tl.out.drew) hb (by first | omega | (simp; done) | (simp; omega) | (simp at *; omega))
      have HB := (KB.out.drew).trans (hb.mono (by first | omega | (simp; done) | (simp; omega) | (simp at *; omega)))
      clear c_tl_0 c_tl_1 f_tl_0 f_tl_1 l_tl
      clear hb KB K_tl
      have z_u51 := HB.size
      have c_tl_0 := H_tl.cell 0; have f_tl_0 := H_tl.free 0; have c_tl_1 := H_tl.cell 1; have f_tl_1 := H_tl.free 1
      simp only [List.set_cons_zero, List.set_cons_succ, List.getElem?_cons_zero, List.getElem?_cons_succ] at c_tl_0 c_tl_1
      have l_tl := H_tl.lt; have K_tl := Lib.hid H_tl; clear H_tl
      have KB := Lib.hid HB; clear HB
      have HS' := Lib.hid (SOF.out _ ⟨(Known.add K_tl.out (Known.nil _)), KB.out⟩)
      go_wp2_with fail
      refine hK.out _ _ HS'.out (fun HS => ?_)
      clear hK HS'
      try simp only [Act.put, List.setIfInBounds_toArray, List.set_cons_zero, List.set_cons_succ]
      refine wpAnyH_ready (rs := [8]) (by kernel_rfl) (by simp) ?_
      refine AllReadyH.cons rfl (fun K hK => ?_) AllReadyH.nil
      go_simp
      clear HS
      refine (MO.out _).mono ?_
      rintro e52 u52 ⟨rfl, rfl⟩
      go_wp2_with fail
      refine hK.out _ _ (SOF.out _ ⟨(Known.add K_tl.out (Known.nil _)), KB.out⟩) (fun HS => ?_)
      clear hK
      try simp only [Act.put, List.setIfInBounds_toArray, List.set_cons_zero, List.set_cons_succ]
      refine handTake 9 (some 21) ?_ rfl rfl (by kernel_rfl) (by kernel_rfl) (by kernel_rfl) (fun _ _ _ h => h) (by rfl) ?_ HS ?_
      rotate_left
      · (intro u hu; (try dsimp only at hu); go_simp; try with_reducible rfl)
      simp only [Act.put, List.setIfInBounds_toArray, List.set_cons_zero, List.set_cons_succ]
      refine wpAnyH_done (by kernel_rfl) ?_ _
      clear HS SOF
      go_wp2_with fail
      go_roundw
      case rel => exact ⟨v + 1, rfl, by omega, by omega, fun j a b => by
        by_cases e : j = v + 1
        · subst e; exact HQ.out
        · exact HA.out j a (by omega), KB.out⟩
      case measure => simp [intOf]; omega
    · rw [decide_eq_false hq] at hcn
      have HQ := Lib.hid hcn
      clear hei hcn
      have z_wr := HB.size
      have c_tl_0 := H_tl.cell 0; have f_tl_0 := H_tl.free 0; have c_tl_1 := H_tl.cell 1; have f_tl_1 := H_tl.free 1
      simp only [List.set_cons_zero, List.set_cons_succ, List.getElem?_cons_zero, List.getElem?_cons_succ] at c_tl_0 c_tl_1
      have l_tl := H_tl.lt; have K_tl := Lib.hid H_tl; clear H_tl
      have KB := Lib.hid HB; clear HB
      generalize hmq : mostN n = mq at *
      have HMQ := Lib.hid hmq; clear hmq
      have MO := rmost_any n
      rw [HMQ.out] at MO
      have MO := Lib.hid MO
      have hq1 : decide ((mq : Int) ≤ (cl : Int)) = false := decide_eq_false (by omega)
      go_wp2_with fail
      have SOF : Hid (∀ u : World, Hid (Known u [(g, 61, [.int .i64 n, v0])] ∧ Below w.heap.size w u) → (fun u : World => (u.cell? ⟨g, 0, none⟩ = some (.int .i64 n) ∧ u.cell? ⟨g, 1, none⟩ = some (v0)) ∧ Hid (Known u [(g, 61, [.int .i64 n, v0])] ∧ Below w.heap.size w u)) u) := fun u h => ⟨⟨(h.out.1.head.cell 0), (h.out.1.head.cell 1)⟩, h⟩
      refine wp_region_held_drew (S := (fun u : World => (u.cell? ⟨g, 0, none⟩ = some (.int .i64 n) ∧ u.cell? ⟨g, 1, none⟩ = some (v0)) ∧ Hid (Known u [(g, 61, [.int .i64 n, v0])] ∧ Below w.heap.size w u))) (by kernel_rfl) (SOF.out _ ⟨(Known.add (K_tl.out.drew) (Known.nil _)), (KB.out.drew)⟩) (fun HS => ?_)
      refine handTake 0 (some 12) ?_ rfl rfl (by kernel_rfl) (by kernel_rfl) (by kernel_rfl) (fun _ _ _ h => h) (by rfl) ?_ HS ?_
      rotate_left
      · (intro u hu; (try dsimp only at hu); go_simp; try with_reducible rfl)
      simp only [Act.put, List.setIfInBounds_toArray, List.set_cons_zero, List.set_cons_succ]
      refine handTake 1 (some 13) ?_ rfl rfl (by kernel_rfl) (by kernel_rfl) (by kernel_rfl) (fun _ _ _ h => h) (by rfl) ?_ HS ?_
      rotate_left
      · (intro u hu; (try dsimp only at hu); go_simp; try with_reducible rfl)
      simp only [Act.put, List.setIfInBounds_toArray, List.set_cons_zero, List.set_cons_succ]
      refine handTake 2 (some 14) ?_ rfl rfl (by kernel_rfl) (by kernel_rfl) (by kernel_rfl) (fun _ _ _ h => h) (by rfl) ?_ HS ?_
      rotate_left
      · (intro u hu; (try dsimp only at hu); go_simp; try with_reducible rfl)
      simp only [Act.put, List.setIfInBounds_toArray, List.set_cons_zero, List.set_cons_succ]
      refine handTake 4 (some 16) ?_ rfl rfl (by kernel_rfl) (by kernel_rfl) (by kernel_rfl) (fun _ _ _ h => h) (by rfl) ?_ HS ?_
      rotate_left
      · (intro u hu; (try dsimp only at hu); go_simp; try with_reducible rfl)
      simp only [Act.put, List.setIfInBounds_toArray, List.set_cons_zero, List.set_cons_succ]
      refine handTake 5 (some 17) ?_ rfl rfl (by kernel_rfl) (by kernel_rfl) (by kernel_rfl) (fun _ _ _ h => h) (by rfl) ?_ HS ?_
      rotate_left
      · (intro u hu; (try dsimp only at hu); go_simp; try with_reducible rfl)
      simp only [Act.put, List.setIfInBounds_toArray, List.set_cons_zero, List.set_cons_succ]
      refine handTake 6 (some 18) ?_ rfl rfl (by kernel_rfl) (by kernel_rfl) (by kernel_rfl) (fun _ _ _ h => h) (by rfl) ?_ HS ?_
      rotate_left
      · (intro u hu; (try dsimp only at hu); go_simp; try with_reducible rfl)
      simp only [Act.put, List.setIfInBounds_toArray, List.set_cons_zero, List.set_cons_succ]
      refine handTake 7 (some 19) ?_ rfl rfl (by kernel_rfl) (by kernel_rfl) (by kernel_rfl) (fun _ _ _ h => h) (by rfl) ?_ HS ?_
      rotate_left
      · (intro u hu; (try dsimp only at hu); go_simp; try with_reducible rfl)
      simp only [Act.put, List.setIfInBounds_toArray, List.set_cons_zero, List.set_cons_succ]
      refine wpAnyH_ready (rs := [3]) (by kernel_rfl) (by simp) ?_
      refine AllReadyH.cons rfl (fun K hK => ?_) AllReadyH.nil
      go_simp
      clear HS
      refine (CN.out _ (KR.out.keep (KB.out.drew))).mono ?_
      rintro e51 u51 ⟨rfl, hb⟩
      have H_tl : Whole u51 (g) 61 _ := Whole.below (K_tl.out.drew) hb (by first | omega | (simp; done) | (simp; omega) | (simp at *; omega))
      have HB := (KB.out.drew).trans (hb.mono (by first | omega | (simp; done) | (simp; omega) | (simp at *; omega)))
      clear c_tl_0 c_tl_1 f_tl_0 f_tl_1 l_tl
      clear hb KB K_tl
      have z_u51 := HB.size
      have c_tl_0 := H_tl.cell 0; have f_tl_0 := H_tl.free 0; have c_tl_1 := H_tl.cell 1; have f_tl_1 := H_tl.free 1
      simp only [List.set_cons_zero, List.set_cons_succ, List.getElem?_cons_zero, List.getElem?_cons_succ] at c_tl_0 c_tl_1
      have l_tl := H_tl.lt; have K_tl := Lib.hid H_tl; clear H_tl
      have KB := Lib.hid HB; clear HB
      have HS' := Lib.hid (SOF.out _ ⟨(Known.add K_tl.out (Known.nil _)), KB.out⟩)
      go_wp2_with fail
      refine hK.out _ _ HS'.out (fun HS => ?_)
      clear hK HS'
      try simp only [Act.put, List.setIfInBounds_toArray, List.set_cons_zero, List.set_cons_succ]
      refine wpAnyH_ready (rs := [8]) (by kernel_rfl) (by simp) ?_
      refine AllReadyH.cons rfl (fun K hK => ?_) AllReadyH.nil
      go_simp
      clear HS
      refine (MO.out _).mono ?_
      rintro e52 u52 ⟨rfl, rfl⟩
      go_wp2_with fail
      refine hK.out _ _ (SOF.out _ ⟨(Known.add K_tl.out (Known.nil _)), KB.out⟩) (fun HS => ?_)
      clear hK
      try simp only [Act.put, List.setIfInBounds_toArray, List.set_cons_zero, List.set_cons_succ]
      refine handTake 9 (some 21) ?_ rfl rfl (by kernel_rfl) (by kernel_rfl) (by kernel_rfl) (fun _ _ _ h => h) (by rfl) ?_ HS ?_
      rotate_left
      · (intro u hu; (try dsimp only at hu); go_simp; try with_reducible rfl)
      simp only [Act.put, List.setIfInBounds_toArray, List.set_cons_zero, List.set_cons_succ]
      refine wpAnyH_done (by kernel_rfl) ?_ _
      clear HS SOF
      go_wp2_with fail
      go_ret
      exact ⟨⟨v, rfl, hv1, HA.out, HQ.out⟩, KB.out⟩

set_option maxHeartbeats 400000 in
theorem rnew_bad (n : Int) (h : crowdB n = false) (w : World) : Calls Try.prog 14 #[.int .i64 n] w fun e w' => e = .returned (.pointer none) ∧ w = w' := by
  have C := rcrowd_any n
  rw [h] at C
  have C := Lib.hid C
  go_enter Try.func14, Try.ntmps14
  go_wp2_with fail
  refine (C.out _).mono ?_
  rintro e u ⟨rfl, rfl⟩
  go_wp2_with fail
  go_ret
  exact ⟨rfl, rfl⟩
set_option maxHeartbeats 400000 in
theorem rnew_ok (n : Int) (h : crowdB n = true) (w : World) : Calls Try.prog 14 #[.int .i64 n] w fun e w' => e = .returned (.pointer (some ⟨w.heap.size, 0, none⟩)) ∧ RAt w' w.heap.size n [] ∧ Below w.heap.size w w' := by
  have C := rcrowd_any n
  rw [h] at C
  have C := Lib.hid C
  go_enter Try.func14, Try.ntmps14
  go_wp2_with fail
  refine (C.out _).mono ?_
  rintro e u ⟨rfl, rfl⟩
  go_wp2_with fail
  go_ret
  exact ⟨rfl, ⟨_, Whole.new _ _ [.int .i64 n, .slice none 0 0], World.ownsRow_nil _ _ _ _⟩, (Below.refl _ _).alloc (Nat.le_refl _) _⟩

end Ta
end Go.Proofs.Ytmpcjiacgbcpdaa
