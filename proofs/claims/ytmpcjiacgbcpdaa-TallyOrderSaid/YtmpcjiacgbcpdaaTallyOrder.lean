/- The law TallyOrder, walked. -/
import Derived.Test.YtmpcjiacgbcpdaaTallyAwake
import Derived.Test.YtmpcjiacgbcpdaaTallyOrderPlain
import Derived.Test.YtmpcjiacgbcpdaaAppend
set_option linter.unusedSimpArgs false
set_option linter.unusedVariables false
namespace Go.Proofs.Ytmpcjiacgbcpdaa
open Go.RowKit
open Qm

namespace Ta

theorem info_pair : (Try.prog.info? 48).map (fun i => (i.zero, i.size, i.bytes)) = some (some (.agg #[.int .i64 0, .int .i64 0]), 2, 16) := by kernel_rfl
theorem from_of (f : Int) (n : Nat) (h0 : 0 < n) (h1 : n ≤ 300) : ∃ q : Int, wrap64 ((IntKind.u64.wrap f).tmod (n : Int)) = q ∧ 0 ≤ q ∧ q < n := by
  refine ⟨_, rfl, ?_⟩
  unfold wrap64
  rw [IntKind.wrap_u64, Int.tmod_eq_emod_of_nonneg (by omega)]
  have h2 := Int.emod_nonneg (f % 18446744073709551616) (b := (n : Int)) (by omega)
  have h3 := Int.emod_lt_of_pos (f % 18446744073709551616) (b := (n : Int)) (by omega)
  omega

set_option maxHeartbeats 8000000 in
theorem tallyOrder_is (n : Int) (l : Pairs) (v : Value) (f : Int) (w : World) (hr : Row w w.heap.size v l.length (l.flatMap pc)) :
    Calls Try.prog 6 #[.int .i64 n, v, .int .i64 f] w fun e w' => e = .returned (.bool true) ∧ Below w.heap.size w w' := by
  have AW := Lib.hid (awake_is w)
  obtain ⟨A, c, rfl, _, _⟩ := hr.slice
  have HR := Lib.hid hr
  clear hr
  obtain ⟨i0, hi, hz0, hz1, hz2⟩ := info_parts info_pair
  go_enter Try.func6, Try.ntmps6
  go_wp2_with fail
  refine AW.out.mono ?_
  rintro e ua ⟨rfl, hx⟩
  have HB := Lib.hid hx
  have HR1 := Lib.hid ((HR.out.below hx).more hx.size)
  clear hx
  go_wp2_with fail
  refine (of_any n ua).mono ?_
  rintro e u1 ⟨⟨m, rfl, hm⟩, rfl⟩
  have HM := Lib.hid hm
  clear hm
  go_wp2_with fail
  refine (near_any m l _ ua HR1.out).mono ?_
  rintro e u1 ⟨rfl, rfl⟩
  cases hq : nearB m l
  · go_wp2_with fail
    go_ret
    exact ⟨rfl, HB.out⟩
  have hq' := hq
  unfold nearB at hq'
  rw [Bool.and_eq_true, decide_eq_true_eq] at hq'
  obtain ⟨hl, hok⟩ := hq'
  have HOK := Lib.hid hok
  clear hq hok
  by_cases h0 : l.length = 0
  · have h0' : ((l.length : Int) == 0) = true := by simpa using h0
    go_wp2_with fail
    go_ret
    exact ⟨rfl, HB.out⟩
  have h0' : ((l.length : Int) == 0) = false := by simpa using h0
  have hlu : IntKind.u64.wrap (l.length : Int) = (l.length : Int) := by rw [IntKind.wrap_u64]; omega
  have hlz : ¬ (l.length : Int) = 0 := by omega
  obtain ⟨q, hq, hq0, hq1⟩ := from_of f l.length (by omega) hl
  have hnil : ¬ l = [] := by intro e; subst e; simp at h0
  have HQ := Lib.hid hq
  clear h0
  go_wp2_with fail
  rw [HQ.out]
  clear hq
  go_loopw [7, 8] (fun tv iv wr => ∃ (k : Nat) (tw : Pairs), k ≤ l.length ∧ iv = .int .i64 k ∧ tw.length = 2 * k ∧ (∀ x ∈ tw, x ∈ l) ∧ (∀ x ∈ l.take k, x ∈ tw) ∧
      wr.ownsRow ua.heap.size 48 2 tv (2 * k) (tw.flatMap pc) ∧ Below ua.heap.size ua wr) (fun _ iv _ => l.length - (intOf iv).toNat)
  case atStart => exact ⟨0, [], Nat.zero_le _, rfl, rfl, by simp, by simp, World.ownsRow_nil _ _ _ _, Below.refl _ _⟩
  case round =>
    obtain ⟨k, tw, hk, rfl, htl, ht1, ht2, hown, hbr⟩ := hrel
    have zs := hbr.size
    have T1 := Lib.hid ht1; have T2 := Lib.hid ht2; have TL := Lib.hid htl
    by_cases hlt : k < l.length
    · have h2 := HR.out
      obtain ⟨b2, o2, rfl, hb2, hx2⟩ := h2.elem pc_len (by omega) hlt
      have x0 := hx2 0 _ rfl
      have x1 := hx2 1 _ rfl
      have qk : 0 ≤ q + (k : Int) := by omega
      obtain ⟨j, hj, hjl⟩ : ∃ j : Nat, (q + (k : Int)).tmod (l.length : Int) = (j : Int) ∧ j < l.length := by
        rw [Int.tmod_eq_emod_of_nonneg qk]
        have e0 := Int.emod_nonneg (q + (k : Int)) (b := (l.length : Int)) (by omega)
        have e1 := Int.emod_lt_of_pos (q + (k : Int)) (b := (l.length : Int)) (by omega)
        exact ⟨((q + (k : Int)) % (l.length : Int)).toNat, by omega, by omega⟩
      obtain ⟨b3, o3, hA, _, hx3⟩ := h2.elem pc_len (by omega) hjl
      obtain ⟨rfl, rfl⟩ : b2 = b3 ∧ o2 = o3 := by injection hA with hA; injection hA with e1 e2; exact ⟨e1, e2⟩
      have y0 := hx3 0 _ rfl
      have y1 := hx3 1 _ rfl
      clear hx2 hx3 h2 hA
      simp only [Nat.add_zero] at x0 y0
      rw [← Nat.add_assoc] at x1 y1
      have HT1 : Hid (∀ x ∈ tw ++ [l[j], l[k]], x ∈ l) := by
        intro x hx
        rcases List.mem_append.1 hx with h | h
        · exact T1.out x h
        · simp only [List.mem_cons, List.not_mem_nil, or_false] at h
          rcases h with rfl | rfl
          · exact List.getElem_mem hjl
          · exact List.getElem_mem hlt
      have HT2 : Hid (∀ x ∈ l.take (k + 1), x ∈ tw ++ [l[j], l[k]]) := by
        intro x hx
        rw [List.take_succ_eq_append_getElem hlt] at hx
        rcases List.mem_append.1 hx with h | h
        · exact List.mem_append_left _ (T2.out x h)
        · exact List.mem_append_right _ (by simp at h; simp [h])
      have HFL : Hid ((tw ++ [l[j], l[k]]).flatMap pc = tw.flatMap pc ++ [.int .i64 l[j].1, .int .i64 l[j].2, .int .i64 l[k].1, .int .i64 l[k].2]) := by
        show _ = _
        rw [List.flatMap_append]; rfl
      have HTL : Hid ((tw ++ [l[j], l[k]]).length = 2 * (k + 1)) := by
        show _ = _
        rw [List.length_append, htl]; rfl
      generalize l[k] = ak at *
      generalize l[j] = aj at *
      have hfl1 : ∀ u ∈ ([.int .i64 aj.1, .int .i64 aj.2, .int .i64 ak.1, .int .i64 ak.2] : List Value), u.oneCell' = true := by
        intro u hu
        simp only [List.mem_cons, List.not_mem_nil, or_false] at hu
        rcases hu with rfl | rfl | rfl | rfl <;> rfl
      have HF1 := Lib.hid hfl1
      have hw1 : wrap64 (q + (k : Int)) = q + (k : Int) := IntWalk.wrap64_in _ (by omega)
      have hw2 : IntKind.i64.wrap (q + (k : Int)) = q + (k : Int) := IntWalk.i64_in _ (by omega)
      have hj0 : (0 : Int) ≤ (j : Int) := by omega
      have hj1 : (j : Int) < (l.length : Int) := by omega
      have hk0 : (0 : Int) ≤ (k : Int) := by omega
      have hk1 : (k : Int) < (l.length : Int) := by omega
      have z_wua := HB.out.size
      have HB := HB.out.trans (hbr.mono HB.out.size)
      have H_tw := hown
      have H_BR := hbr
      clear hown hbr htl ht1 ht2 hfl1
      have z_BR_wr := H_BR.size
      have z_wr := HB.size
      have K_tw := Lib.hid H_tw; clear H_tw
      have K_BR := Lib.hid H_BR; clear H_BR
      have KB := Lib.hid HB; clear HB
      go_wp2_with fail
      have SOF : Hid (∀ u : World, Hid (Known u [] ∧ Below w.heap.size w u) → (fun u : World => (u.cell? ⟨b2, o2 + k * 2, none⟩ = some (.int .i64 ak.1) ∧ u.cell? ⟨b2, o2 + k * 2 + 1, none⟩ = some (.int .i64 ak.2) ∧ u.cell? ⟨b2, o2 + j * 2, none⟩ = some (.int .i64 aj.1) ∧ u.cell? ⟨b2, o2 + j * 2 + 1, none⟩ = some (.int .i64 aj.2)) ∧ Hid (Known u [] ∧ Below w.heap.size w u)) u) := fun u h => ⟨⟨((h.out.2.cell (p := ⟨b2, o2 + k * 2, none⟩) hb2).trans x0), ((h.out.2.cell (p := ⟨b2, o2 + k * 2 + 1, none⟩) hb2).trans x1), ((h.out.2.cell (p := ⟨b2, o2 + j * 2, none⟩) hb2).trans y0), ((h.out.2.cell (p := ⟨b2, o2 + j * 2 + 1, none⟩) hb2).trans y1)⟩, h⟩
      refine wp_region_held_drew (S := (fun u : World => (u.cell? ⟨b2, o2 + k * 2, none⟩ = some (.int .i64 ak.1) ∧ u.cell? ⟨b2, o2 + k * 2 + 1, none⟩ = some (.int .i64 ak.2) ∧ u.cell? ⟨b2, o2 + j * 2, none⟩ = some (.int .i64 aj.1) ∧ u.cell? ⟨b2, o2 + j * 2 + 1, none⟩ = some (.int .i64 aj.2)) ∧ Hid (Known u [] ∧ Below w.heap.size w u))) (by kernel_rfl) (SOF.out _ ⟨(Known.nil _), (KB.out.drew)⟩) (fun HS => ?_)
      refine handTake 0 (some 38) ?_ rfl rfl (by kernel_rfl) (by kernel_rfl) (by kernel_rfl) (fun _ _ _ h => h) (by rfl) ?_ HS ?_
      rotate_left
      · (intro u hu; (try dsimp only at hu); go_simp; try with_reducible rfl)
      simp only [Act.put, List.setIfInBounds_toArray, List.set_cons_zero, List.set_cons_succ]
      refine handTake 1 (some 39) ?_ rfl rfl (by kernel_rfl) (by kernel_rfl) (by kernel_rfl) (fun _ _ _ h => h) (by rfl) ?_ HS ?_
      rotate_left
      · (intro u hu; (try dsimp only at hu); go_simp; try with_reducible rfl)
      simp only [Act.put, List.setIfInBounds_toArray, List.set_cons_zero, List.set_cons_succ]
      refine handTake 2 (some 40) ?_ rfl rfl (by kernel_rfl) (by kernel_rfl) (by kernel_rfl) (fun _ _ _ h => h) (by rfl) ?_ HS ?_
      rotate_left
      · (intro u hu; (try dsimp only at hu); go_simp; try with_reducible rfl)
      simp only [Act.put, List.setIfInBounds_toArray, List.set_cons_zero, List.set_cons_succ]
      refine handTake 3 (some 41) ?_ rfl rfl (by kernel_rfl) (by kernel_rfl) (by kernel_rfl) (fun _ _ _ h => h) (by rfl) ?_ HS ?_
      rotate_left
      · (intro u hu; (try dsimp only at hu); go_simp; try with_reducible rfl)
      simp only [Act.put, List.setIfInBounds_toArray, List.set_cons_zero, List.set_cons_succ]
      refine handTake 4 (some 42) ?_ rfl rfl (by kernel_rfl) (by kernel_rfl) (by kernel_rfl) (fun _ _ _ h => h) (by rfl) ?_ HS ?_
      rotate_left
      · (intro u hu; (try dsimp only at hu); go_simp; try with_reducible rfl)
      simp only [Act.put, List.setIfInBounds_toArray, List.set_cons_zero, List.set_cons_succ]
      refine handTake 5 (some 43) ?_ rfl rfl (by kernel_rfl) (by kernel_rfl) (by kernel_rfl) (fun _ _ _ h => h) (by rfl) ?_ HS ?_
      rotate_left
      · (intro u hu; (try dsimp only at hu); go_simp; try with_reducible rfl)
      simp only [Act.put, List.setIfInBounds_toArray, List.set_cons_zero, List.set_cons_succ]
      refine handTake 6 (some 44) ?_ rfl rfl (by kernel_rfl) (by kernel_rfl) (by kernel_rfl) (fun _ _ _ h => h) (by rfl) ?_ HS ?_
      rotate_left
      · (intro u hu; (try dsimp only at hu); go_simp; try with_reducible rfl)
      simp only [Act.put, List.setIfInBounds_toArray, List.set_cons_zero, List.set_cons_succ]
      refine handTake 7 (some 45) ?_ rfl rfl (by kernel_rfl) (by kernel_rfl) (by kernel_rfl) (fun _ _ _ h => h) (by rfl) ?_ HS ?_
      rotate_left
      · (intro u hu; (try dsimp only at hu); go_simp; try with_reducible rfl)
      simp only [Act.put, List.setIfInBounds_toArray, List.set_cons_zero, List.set_cons_succ]
      refine handTake 8 (some 46) ?_ rfl rfl (by kernel_rfl) (by kernel_rfl) (by kernel_rfl) (fun _ _ _ h => h) (by rfl) ?_ HS ?_
      rotate_left
      · (intro u hu; (try dsimp only at hu); go_simp; try with_reducible rfl)
      simp only [Act.put, List.setIfInBounds_toArray, List.set_cons_zero, List.set_cons_succ]
      refine handTake 9 (some 47) ?_ rfl rfl (by kernel_rfl) (by kernel_rfl) (by kernel_rfl) (fun _ _ _ h => h) (by rfl) ?_ HS ?_
      rotate_left
      · (intro u hu; (try dsimp only at hu); go_simp; try with_reducible rfl)
      simp only [Act.put, List.setIfInBounds_toArray, List.set_cons_zero, List.set_cons_succ]
      refine handTake 10 (some 48) ?_ rfl rfl (by kernel_rfl) (by kernel_rfl) (by kernel_rfl) (fun _ _ _ h => h) (by rfl) ?_ HS ?_
      rotate_left
      · (intro u hu; (try dsimp only at hu); go_simp; try with_reducible rfl)
      simp only [Act.put, List.setIfInBounds_toArray, List.set_cons_zero, List.set_cons_succ]
      refine handTake 11 (some 49) ?_ rfl rfl (by kernel_rfl) (by kernel_rfl) (by kernel_rfl) (fun _ _ _ h => h) (by rfl) ?_ HS ?_
      rotate_left
      · (intro u hu; (try dsimp only at hu); go_simp; try with_reducible rfl)
      simp only [Act.put, List.setIfInBounds_toArray, List.set_cons_zero, List.set_cons_succ]
      refine handTake 12 (some 50) ?_ rfl rfl (by kernel_rfl) (by kernel_rfl) (by kernel_rfl) (fun _ _ _ h => h) (by rfl) ?_ HS ?_
      rotate_left
      · (intro u hu; (try dsimp only at hu); go_simp; try with_reducible rfl)
      simp only [Act.put, List.setIfInBounds_toArray, List.set_cons_zero, List.set_cons_succ]
      refine handTake 13 (some 51) ?_ rfl rfl (by kernel_rfl) (by kernel_rfl) (by kernel_rfl) (fun _ _ _ h => h) (by rfl) ?_ HS ?_
      rotate_left
      · (intro u hu; (try dsimp only at hu); go_simp; try with_reducible rfl)
      simp only [Act.put, List.setIfInBounds_toArray, List.set_cons_zero, List.set_cons_succ]
      refine wpAnyH_ready (rs := [14]) (by kernel_rfl) (by simp) ?_
      refine AllReadyH.cons rfl (fun K hK => ?_) AllReadyH.nil
      go_simp
      clear HS
      refine hK.out _ _ (SOF.out _ ⟨(Known.nil _), ((KB.out.alloc (by first | omega | (simp; done) | (simp; omega) | (simp at *; omega)) _).drew)⟩) (fun HS => ?_)
      clear hK
      try simp only [Act.put, List.setIfInBounds_toArray, List.set_cons_zero, List.set_cons_succ]
      refine wpAnyH_ready (rs := [15]) (by kernel_rfl) (by simp) ?_
      refine AllReadyH.cons rfl (fun K hK => ?_) AllReadyH.nil
      clear HS
      refine step_append_row _ rfl (.tmp 38) (.tmp 52) _ (by rfl) ua.heap.size 48 i0 _ 2 16 Try.underlying41 hi hz0 hz1 hz2 rfl (by decide) _ (2 * k) (tw.flatMap pc) (by rfl) (own_drew (K_tw.out.alloc _)) (wr.heap.size + 1) _ 2 [.int .i64 aj.1, .int .i64 aj.2, .int .i64 ak.1, .int .i64 ak.2] (by rfl) (Row.blk ((Whole.new _ 48 _).drew) rfl (by omega) (by unfold maxLen; omega)) rfl HF1.out (by unfold maxLen; omega) (by omega) (by first | omega | (simp; done) | (simp; omega) | (simp at *; omega)) ?_
      intro v9 w9 H_tw hb
      have H_BR := ((K_BR.out.alloc (by first | omega | (simp; done) | (simp; omega) | (simp at *; omega)) _).drew).trans (hb.mono (by first | omega | (simp; done) | (simp; omega) | (simp at *; omega)))
      have HB := ((KB.out.alloc (by first | omega | (simp; done) | (simp; omega) | (simp at *; omega)) _).drew).trans (hb.mono (by first | omega | (simp; done) | (simp; omega) | (simp at *; omega)))
      clear hb KB K_tw K_BR
      have z_w9 := HB.size
      have z_BR_w9 := H_BR.size
      have K_tw := Lib.hid H_tw; clear H_tw
      have K_BR := Lib.hid H_BR; clear H_BR
      have KB := Lib.hid HB; clear HB
      refine hK.out _ _ (SOF.out _ ⟨(Known.nil _), KB.out⟩) (fun HS => ?_)
      clear hK
      try simp only [Act.put, List.setIfInBounds_toArray, List.set_cons_zero, List.set_cons_succ]
      refine handTake 16 (some 7) ?_ rfl rfl (by kernel_rfl) (by kernel_rfl) (by kernel_rfl) (fun _ _ _ h => h) (by rfl) ?_ HS ?_
      rotate_left
      · (intro u hu; (try dsimp only at hu); go_simp; try with_reducible rfl)
      simp only [Act.put, List.setIfInBounds_toArray, List.set_cons_zero, List.set_cons_succ]
      refine wpAnyH_done (by kernel_rfl) ?_ _
      clear HS SOF
      go_wp2_with fail
      go_roundw
      case rel => exact ⟨k + 1, tw ++ [aj, ak], by omega, by go_num, HTL.out, HT1.out, HT2.out, by rw [HFL.out]; exact K_tw.out, K_BR.out⟩
      case measure => simp [intOf]; omega
    · obtain rfl : k = l.length := by omega
      have hmem : ∀ p, p ∈ l ↔ p ∈ tw := fun p => ⟨fun h => ht2 p (by rw [List.take_length]; exact h), ht1 p⟩
      have HSS := Lib.hid (set_same hmem)
      have HOK2 : Hid (tw.all (okP m) = true) := List.all_eq_true.2 fun x hx => List.all_eq_true.1 HOK.out x (ht1 x hx)
      have hrw := Row.of_own hown
      rw [← htl] at hrw
      have hsl := hrw.slice
      obtain ⟨A2, c2, rfl, _, _⟩ := hsl
      have HR2 := Lib.hid ((HR1.out.below hbr).more hbr.size)
      have HRT := Lib.hid hrw
      have HB2 := Lib.hid (HB.out.trans (hbr.mono HB.out.size))
      have HN0 : Hid (m ≠ 0) := by show m ≠ 0; have := HM.out; omega
      clear hrw ht1 ht2 hown hbr T1 T2 TL hmem htl
      go_wp2_with fail
      refine (noted_ok m HM.out l HOK.out _ wr HR2.out).mono ?_
      rintro e u2 ⟨rfl, hta, hx⟩
      have HT1 := Lib.hid hta
      have HB3 := Lib.hid (HB2.out.trans (hx.mono HB2.out.size))
      have HR3 := Lib.hid ((HRT.out.below hx).more hx.size)
      clear hta hx HB2
      go_wp2_with fail
      refine (noted_ok m HM.out tw HOK2.out _ u2 HR3.out).mono ?_
      rintro e u3 ⟨rfl, htb, hx⟩
      have HT2 := Lib.hid (HT1.out.keep hx)
      have HTB := Lib.hid htb
      have HB4 := Lib.hid (HB3.out.trans (hx.mono HB3.out.size))
      clear htb hx HT1 HB3
      have H60 := Lib.hid (ok60_list l ok60_nil HOK.out)
      have H61 := Lib.hid (ok60_list tw ok60_nil HOK2.out)
      generalize u2.heap.size = b at *
      generalize wr.heap.size = b0 at *
      generalize noteL [] l = R at *
      generalize noteL [] tw = S at *
      go_wp2_with fail
      go_loopw [11] (fun iv wr => ∃ k : Nat, k ≤ 70 ∧ iv = .int .i64 k ∧ TallyAt wr (b0 + 1) b0 m R ∧ TallyAt wr (b + 1) b m S ∧ Below w.heap.size w wr) (fun iv _ => 70 - (intOf iv).toNat)
      case atStart => exact ⟨0, by omega, rfl, HT2.out, HTB.out, HB4.out⟩
      case round =>
        obtain ⟨k, hk, rfl, hty, htz, hx⟩ := hrel
        clear HT2 HTB HB4
        have HT2 := Lib.hid hty
        have HTB := Lib.hid htz
        have HB4 := Lib.hid hx
        clear hty htz hx
        by_cases hlt : (k : Int) < 70
        · have CN := Lib.hid (count_any (b + 1) b m HN0.out S H61.out.1 (k : Int) ⟨by omega, by omega⟩)
          rw [← HSS.out (k : Int)] at CN
          go_wp2_with fail
          refine (count_any (b0 + 1) b0 m HN0.out R H60.out.1 (k : Int) ⟨by omega, by omega⟩ _ HT2.out).mono ?_
          rintro e u4 ⟨rfl, hx⟩
          have HT3 := Lib.hid (HT2.out.keep hx)
          have HTC := Lib.hid (HTB.out.keep hx)
          have HB5 := Lib.hid (HB4.out.trans (hx.mono HB4.out.size))
          clear hx HT2 HTB HB4
          go_wp2_with fail
          refine (CN.out _ HTC.out).mono ?_
          rintro e u5 ⟨rfl, hx⟩
          have HT4 := Lib.hid (HT3.out.keep hx)
          have HTD := Lib.hid (HTC.out.keep hx)
          have HB6 := Lib.hid (HB5.out.trans (hx.mono HB5.out.size))
          clear hx HT3 HTC HB5 CN
          go_wp2_with fail
          refine (upto_any (b0 + 1) b0 m HN0.out R H60.out.1 (k : Int) (by omega) (by omega) _ HT4.out).mono ?_
          rintro e u6 ⟨⟨x0, rfl, hu0⟩, hx⟩
          have HU0 := Lib.hid hu0
          have HT5 := Lib.hid (HT4.out.keep hx)
          have HTE := Lib.hid (HTD.out.keep hx)
          have HB7 := Lib.hid (HB6.out.trans (hx.mono HB6.out.size))
          clear hx hu0 HT4 HTD HB6
          go_wp2_with fail
          refine (upto_any (b + 1) b m HN0.out S H61.out.1 (k : Int) (by omega) (by omega) _ HTE.out).mono ?_
          rintro e u7 ⟨⟨x1, rfl, hu1⟩, hx⟩
          obtain rfl := upto_same HSS.out HU0.out hu1
          have HT6 := Lib.hid (HT5.out.keep hx)
          have HTF := Lib.hid (HTE.out.keep hx)
          have HB8 := Lib.hid (HB7.out.trans (hx.mono HB7.out.size))
          clear hx hu1 HU0 HT5 HTE HB7
          go_wp2_with fail
          go_roundw
          case rel => exact ⟨k + 1, by omega, by go_num, HT6.out, HTF.out, HB8.out⟩
          case measure => simp [intOf]; omega
        · go_wp2_with fail
          go_ret
          exact ⟨rfl, HB4.out⟩

end Ta
end Go.Proofs.Ytmpcjiacgbcpdaa
