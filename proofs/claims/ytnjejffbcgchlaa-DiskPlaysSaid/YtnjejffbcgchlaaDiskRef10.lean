/- An act at the document's disk. -/
import Derived.Test.YtnjejffbcgchlaaDiskRef9
import Derived.Deep.RegionHeld3
set_option linter.unusedSimpArgs false
set_option linter.unusedVariables false
namespace Go.Proofs.Ytnjejffbcgchlaa
open Go.RowKit
namespace Di
set_option maxRecDepth 100000 in
set_option maxHeartbeats 4000000 in
theorem rdo_is (m : Md) (d : Dk) (hr : Rel m d) (ho : Ok d) (a : Ac) (hkd : a.kind < 256) (g : Nat) (sv mv lv wv bv kv : Value) {w0 : World} {l : List It} (w : World) (hS : Sep w0 (mI w0.heap.size g sv mv lv wv m ++ l) w) (hB : Stays w0 l bv a.bytes.length (u8s a.bytes)) (hK : Stays w0 l kv a.keep.length (bools a.keep))
    (hbl : a.bytes.length ≤ 1000000000) (hfew : d.waits.length ≤ 1000000000) :
    Calls Try.prog 29 #[.pointer (some ⟨g, 0, none⟩), .agg #[.int .u8 (a.kind : Nat), .int .i64 a.sector, .int .i64 a.n, bv, kv]] w fun e w' => e = .returned (.int .i64 (doE d a)) ∧ ∃ wv' m', Rel m' (doD d a) ∧ Sep w0 (mI w0.heap.size g sv mv lv wv' m' ++ l) w' := by
  obtain ⟨k, s, n, bs, keep⟩ := a
  dsimp only at *
  obtain ⟨Ab, cb, rfl, hy1, hy2⟩ := (hB.now hS).slice
  obtain ⟨Ak, ck, rfl, hy3, hy4⟩ := (hK.now hS).slice
  clear hy1 hy2 hy3 hy4
  have HS : Hid (Sep w0 (mI w0.heap.size g sv mv lv wv m ++ (.box w.heap.size 33 [.int .u8 (k : Nat), .int .i64 s, .int .i64 n, .slice Ab bs.length cb, .slice Ak keep.length ck] :: l)) (w.alloc (.cells #[.int .u8 (k : Nat), .int .i64 s, .int .i64 n, .slice Ab bs.length cb, .slice Ak keep.length ck] 33))) :=
    (hS.alloc 33 _).perm (List.perm_middle (l₁ := mI w0.heap.size g sv mv lv wv m)).symm
  have HB := Lib.hid (hB.cons (.box w.heap.size 33 [.int .u8 (k : Nat), .int .i64 s, .int .i64 n, .slice Ab bs.length cb, .slice Ak keep.length ck]))
  have HK := Lib.hid (hK.cons (.box w.heap.size 33 [.int .u8 (k : Nat), .int .i64 s, .int .i64 n, .slice Ab bs.length cb, .slice Ak keep.length ck]))
  have HW : Whole (w.alloc (.cells #[.int .u8 (k : Nat), .int .i64 s, .int .i64 n, .slice Ab bs.length cb, .slice Ak keep.length ck] 33)) w.heap.size 33 [.int .u8 (k : Nat), .int .i64 s, .int .i64 n, .slice Ab bs.length cb, .slice Ak keep.length ck] := Whole.new _ _ _
  have HEND : Hid (∀ (d' : Dk) (u : World), (∃ wv' m', Rel m' d' ∧ Sep w0 (mI w0.heap.size g sv mv lv wv' m' ++ (.box w.heap.size 33 [.int .u8 (k : Nat), .int .i64 s, .int .i64 n, .slice Ab bs.length cb, .slice Ak keep.length ck] :: l)) u) → ∃ wv' m', Rel m' d' ∧ Sep w0 (mI w0.heap.size g sv mv lv wv' m' ++ l) u) :=
    fun d' u ⟨wv', m', hr, h⟩ => ⟨wv', m', hr, h.sub ((List.sublist_cons_self _ _).append_left _)⟩
  obtain ⟨q, hq, hqm, hqi⟩ := do_cases k hkd
  have HO := Lib.hid ho
  have HR := Lib.hid hr
  have HFEW := Lib.hid hfew
  have HBL := Lib.hid hbl
  clear ho hr hfew hbl hS hB hK
  have hw0 := HW.cell 0; have hw1 := HW.cell 1; have hw2 := HW.cell 2; have hw3 := HW.cell 3; have hw4 := HW.cell 4
  simp only [List.getElem?_cons_zero, List.getElem?_cons_succ] at hw0 hw1 hw2 hw3 hw4
  clear HW
  have hq' : q = 0 ∨ q = 1 ∨ q = 2 ∨ q = 3 ∨ q = 4 ∨ q = 5 ∨ q = 8 ∨ q = 6 ∨ q = 7 := by omega
  rcases hq' with rfl | rfl | rfl | rfl | rfl | rfl | rfl | rfl | rfl
  · have hE : Hid (doE d ⟨k, s, n, bs, keep⟩ = flushE d) := by show doE d ⟨k, s, n, bs, keep⟩ = _; unfold doE; simp only [hqm]
    have hD : Hid (doD d ⟨k, s, n, bs, keep⟩ = flushD d) := by show doD d ⟨k, s, n, bs, keep⟩ = _; unfold doD; simp only [hqm]
    have C := Lib.hid (rflush_is m d HR.out HO.out HFEW.out g sv mv lv wv _ HS.out)
    clear hqm
    go_enter Try.func29, Try.ntmps29
    go_wp2_with fail
    refine C.out.mono ?_
    rintro e u ⟨rfl, hs⟩
    have HX := Lib.hid (HEND.out _ _ hs)
    clear hs
    go_wp2_with fail
    go_ret
    exact ⟨by rw [hE.out]; rfl, by rw [hD.out]; exact HX.out⟩
  · have hE : Hid (doE d ⟨k, s, n, bs, keep⟩ = crashE d) := by show doE d ⟨k, s, n, bs, keep⟩ = _; unfold doE; simp only [hqm]
    have hD : Hid (doD d ⟨k, s, n, bs, keep⟩ = crashD d keep) := by show doD d ⟨k, s, n, bs, keep⟩ = _; unfold doD; simp only [hqm]
    have C := Lib.hid (rcrash_is m d HR.out HO.out HFEW.out keep _ g sv mv lv wv _ HS.out HK.out)
    clear hqm
    go_enter Try.func29, Try.ntmps29
    go_wp2_with fail
    refine C.out.mono ?_
    rintro e u ⟨rfl, hs⟩
    have HX := Lib.hid (HEND.out _ _ hs)
    clear hs
    go_wp2_with fail
    go_ret
    exact ⟨by rw [hE.out]; rfl, by rw [hD.out]; exact HX.out⟩
  · have hE : Hid (doE d ⟨k, s, n, bs, keep⟩ = startE d) := by show doE d ⟨k, s, n, bs, keep⟩ = _; unfold doE; simp only [hqm]
    have hD : Hid (doD d ⟨k, s, n, bs, keep⟩ = startD d) := by show doD d ⟨k, s, n, bs, keep⟩ = _; unfold doD; simp only [hqm]
    have C := Lib.hid (rstart_is m d HR.out g sv mv lv wv _ HS.out)
    clear hqm
    go_enter Try.func29, Try.ntmps29
    go_wp2_with fail
    refine C.out.mono ?_
    rintro e u ⟨rfl, hs⟩
    have HX := Lib.hid (HEND.out _ _ ⟨_, hs⟩)
    clear hs
    go_wp2_with fail
    go_ret
    exact ⟨by rw [hE.out]; rfl, by rw [hD.out]; exact HX.out⟩
  · have hE : Hid (doE d ⟨k, s, n, bs, keep⟩ = faultE d s n) := by show doE d ⟨k, s, n, bs, keep⟩ = _; unfold doE; simp only [hqm]
    have hD : Hid (doD d ⟨k, s, n, bs, keep⟩ = flipD d s n) := by show doD d ⟨k, s, n, bs, keep⟩ = _; unfold doD; simp only [hqm]
    have C := Lib.hid (rflip_is m d HR.out s n g sv mv lv wv _ HS.out)
    clear hqm
    go_enter Try.func29, Try.ntmps29
    go_wp2_with fail
    refine C.out.mono ?_
    rintro e u ⟨rfl, hs⟩
    have HX := Lib.hid (HEND.out _ _ ⟨_, hs⟩)
    clear hs
    go_wp2_with fail
    go_ret
    exact ⟨by rw [hE.out]; rfl, by rw [hD.out]; exact HX.out⟩
  · have hE : Hid (doE d ⟨k, s, n, bs, keep⟩ = thereE d [s]) := by show doE d ⟨k, s, n, bs, keep⟩ = _; unfold doE; simp only [hqm]
    have hD : Hid (doD d ⟨k, s, n, bs, keep⟩ = loseD d s) := by show doD d ⟨k, s, n, bs, keep⟩ = _; unfold doD; simp only [hqm]
    have C := Lib.hid (rlose_is m d HR.out s g sv mv lv wv _ HS.out)
    clear hqm
    go_enter Try.func29, Try.ntmps29
    go_wp2_with fail
    refine C.out.mono ?_
    rintro e u ⟨rfl, hs⟩
    have HX := Lib.hid (HEND.out _ _ ⟨_, hs⟩)
    clear hs
    go_wp2_with fail
    go_ret
    exact ⟨by rw [hE.out]; rfl, by rw [hD.out]; exact HX.out⟩
  · have hE : Hid (doE d ⟨k, s, n, bs, keep⟩ = thereE d [s, n]) := by show doE d ⟨k, s, n, bs, keep⟩ = _; unfold doE; simp only [hqm]
    have hD : Hid (doD d ⟨k, s, n, bs, keep⟩ = strayD d s n) := by show doD d ⟨k, s, n, bs, keep⟩ = _; unfold doD; simp only [hqm]
    have C := Lib.hid (rstray_is m d HR.out s n g sv mv lv wv _ HS.out)
    clear hqm
    go_enter Try.func29, Try.ntmps29
    go_wp2_with fail
    refine C.out.mono ?_
    rintro e u ⟨rfl, hs⟩
    have HX := Lib.hid (HEND.out _ _ ⟨_, hs⟩)
    clear hs
    go_wp2_with fail
    go_ret
    exact ⟨by rw [hE.out]; rfl, by rw [hD.out]; exact HX.out⟩
  · have hE : Hid (doE d ⟨k, s, n, bs, keep⟩ = powerE d n) := by show doE d ⟨k, s, n, bs, keep⟩ = _; unfold doE; simp only [hqm]
    have hD : Hid (doD d ⟨k, s, n, bs, keep⟩ = powerD d n) := by show doD d ⟨k, s, n, bs, keep⟩ = _; unfold doD; simp only [hqm]
    have C := Lib.hid (rpower_is m d HR.out n g sv mv lv wv _ HS.out)
    clear hqm
    go_enter Try.func29, Try.ntmps29
    go_wp2_with fail
    refine C.out.mono ?_
    rintro e u ⟨rfl, hs⟩
    have HX := Lib.hid (HEND.out _ _ ⟨_, hs⟩)
    clear hs
    go_wp2_with fail
    go_ret
    exact ⟨by rw [hE.out]; rfl, by rw [hD.out]; exact HX.out⟩
  · have hE : Hid (doE d ⟨k, s, n, bs, keep⟩ = writeE d s (sectorL n bs)) := by show doE d ⟨k, s, n, bs, keep⟩ = _; unfold doE; simp only [hqm]
    have hD : Hid (doD d ⟨k, s, n, bs, keep⟩ = writeD d s (sectorL n bs)) := by show doD d ⟨k, s, n, bs, keep⟩ = _; unfold doD; simp only [hqm]
    have HFL := Lib.hid (sectorL_few n bs HBL.out)
    have SOF : Hid (∀ (a l' : List It) (u : World), Sep w0 (a ++ (.box w.heap.size 33 [.int .u8 (k : Nat), .int .i64 s, .int .i64 n, .slice Ab bs.length cb, .slice Ak keep.length ck] :: l')) u → (fun u : World => u.cell? ⟨w.heap.size, 0, none⟩ = some (.int .u8 (k : Nat)) ∧ u.cell? ⟨w.heap.size, 1, none⟩ = some (.int .i64 s) ∧ u.cell? ⟨w.heap.size, 2, none⟩ = some (.int .i64 n) ∧ u.cell? ⟨w.heap.size, 3, none⟩ = some (.slice Ab bs.length cb) ∧ u.cell? ⟨w.heap.size, 4, none⟩ = some (.slice Ak keep.length ck)) u) := fun a l' u hs => by
      have h2 : Whole u w.heap.size 33 [.int .u8 (k : Nat), .int .i64 s, .int .i64 n, .slice Ab bs.length cb, .slice Ak keep.length ck] := hs.holds (.box w.heap.size 33 [.int .u8 (k : Nat), .int .i64 s, .int .i64 n, .slice Ab bs.length cb, .slice Ak keep.length ck]) (by simp)
      exact ⟨h2.cell 0, h2.cell 1, h2.cell 2, h2.cell 3, h2.cell 4⟩
    obtain ⟨V, hV⟩ : ∃ V : World, V = w.alloc (.cells #[.int .u8 (k : Nat), .int .i64 s, .int .i64 n, .slice Ab bs.length cb, .slice Ak keep.length ck] 33) := ⟨_, rfl⟩
    have HD : Hid (Sep w0 (mI w0.heap.size g sv mv lv wv m ++ (.box w.heap.size 33 [.int .u8 (k : Nat), .int .i64 s, .int .i64 n, .slice Ab bs.length cb, .slice Ak keep.length ck] :: l)) V.drew) := by rw [hV]; exact HS.out.drew
    have C := Lib.hid (sector_is (k : Nat) s n bs (.slice Ab bs.length cb) (.slice Ak keep.length ck) _ HD.out (HB.out.appL _) HBL.out)
    clear hqm
    go_enter Try.func29, Try.ntmps29
    go_wp2_with fail
    rw [← hV] at hw0 hw1 hw2 hw3 hw4 ⊢
    clear hV
    have SD := Lib.hid (SOF.out _ _ _ HD.out)
    refine wp_region_held_drew (S := (fun u : World => u.cell? ⟨w.heap.size, 0, none⟩ = some (.int .u8 (k : Nat)) ∧ u.cell? ⟨w.heap.size, 1, none⟩ = some (.int .i64 s) ∧ u.cell? ⟨w.heap.size, 2, none⟩ = some (.int .i64 n) ∧ u.cell? ⟨w.heap.size, 3, none⟩ = some (.slice Ab bs.length cb) ∧ u.cell? ⟨w.heap.size, 4, none⟩ = some (.slice Ak keep.length ck))) (by kernel_rfl) (SD.out) (fun HS => ?_)
    refine handTake 0 (some 50) ?_ rfl rfl (by kernel_rfl) (by kernel_rfl) (by kernel_rfl) (fun _ _ _ h => h) (by rfl) ?_ HS ?_
    rotate_left
    · (intro u hu; (try dsimp only at hu); go_simp; try with_reducible rfl)
    simp only [Act.put, List.setIfInBounds_toArray, List.set_cons_zero, List.set_cons_succ]
    refine handTake 1 (some 51) ?_ rfl rfl (by kernel_rfl) (by kernel_rfl) (by kernel_rfl) (fun _ _ _ h => h) (by rfl) ?_ HS ?_
    rotate_left
    · (intro u hu; (try dsimp only at hu); go_simp; try with_reducible rfl)
    simp only [Act.put, List.setIfInBounds_toArray, List.set_cons_zero, List.set_cons_succ]
    refine handTake 2 (some 52) ?_ rfl rfl (by kernel_rfl) (by kernel_rfl) (by kernel_rfl) (fun _ _ _ h => h) (by rfl) ?_ HS ?_
    rotate_left
    · (intro u hu; (try dsimp only at hu); go_simp; try with_reducible rfl)
    simp only [Act.put, List.setIfInBounds_toArray, List.set_cons_zero, List.set_cons_succ]
    refine handTake 3 (some 53) ?_ rfl rfl (by kernel_rfl) (by kernel_rfl) (by kernel_rfl) (fun _ _ _ h => h) (by rfl) ?_ HS ?_
    rotate_left
    · (intro u hu; (try dsimp only at hu); go_simp; try with_reducible rfl)
    simp only [Act.put, List.setIfInBounds_toArray, List.set_cons_zero, List.set_cons_succ]
    refine wpAnyH_ready (rs := [4]) (by kernel_rfl) (by simp) ?_
    refine AllReadyH.cons rfl (fun K hK => ?_) AllReadyH.nil
    clear HS
    go_simp
    refine C.out.mono ?_
    rintro e v1 ⟨x1, rfl, hs⟩
    rw [List.append_assoc] at hs
    have SC := Lib.hid (SOF.out _ _ _ hs)
    have W := Lib.hid (rwrite_is m d HR.out HO.out HFEW.out s (sectorL n bs) x1 g sv mv lv wv v1 hs (Stays.of_own (base := w0.heap.size) (e := 5) (K := 1) (by simp [rowB])))
    have hrow := rowB_row (base := w0.heap.size) (v := x1) (xs := sectorL n bs) hs (by simp)
    obtain ⟨xa, xc, hxv, hy1, hy2⟩ := hrow.slice
    subst hxv
    clear hs hrow hy1 hy2 hw0 hw1 hw2 hw3 hw4
    go_wp2_with fail
    refine hK.out _ _ (SC.out) (fun HS => ?_)
    clear hK
    try simp only [Act.put, List.setIfInBounds_toArray, List.set_cons_zero, List.set_cons_succ]
    refine wpAnyH_ready (rs := [5]) (by kernel_rfl) (by simp) ?_
    refine AllReadyH.cons rfl (fun K hK => ?_) AllReadyH.nil
    clear HS
    go_simp
    refine W.out.mono ?_
    rintro e v2 ⟨rfl, wv2, m2, hr2, hs⟩
    have SW := Lib.hid (SOF.out _ _ _ hs)
    have HX := Lib.hid (HEND.out _ _ ⟨wv2, m2, hr2, hs.sub (by
      show List.Sublist _ (_ ++ ((_ :: l) ++ [rowB w0.heap.size (.slice xa (sectorL n bs).length xc) (sectorL n bs)]))
      rw [← List.append_assoc]
      exact List.sublist_append_left _ _)⟩)
    clear hs hr2
    go_wp2_with fail
    refine hK.out _ _ (SW.out) (fun HS => ?_)
    clear hK
    try simp only [Act.put, List.setIfInBounds_toArray, List.set_cons_zero, List.set_cons_succ]
    refine handTake 6 (some 4) ?_ rfl rfl (by kernel_rfl) (by kernel_rfl) (by kernel_rfl) (fun _ _ _ h => h) (by rfl) ?_ HS ?_
    rotate_left
    · (intro u hu; (try dsimp only at hu); go_simp; try with_reducible rfl)
    simp only [Act.put, List.setIfInBounds_toArray, List.set_cons_zero, List.set_cons_succ]
    refine wpAnyH_done (by kernel_rfl) ?_ _
    clear HS
    go_wp2_with fail
    go_ret
    exact ⟨by rw [hE.out]; rfl, by rw [hD.out]; exact HX.out⟩
  · have hE : Hid (doE d ⟨k, s, n, bs, keep⟩ = writeE d s (sectorL n bs)) := by show doE d ⟨k, s, n, bs, keep⟩ = _; unfold doE; simp only [hqm]
    have hD : Hid (doD d ⟨k, s, n, bs, keep⟩ = writeD d s (sectorL n bs)) := by show doD d ⟨k, s, n, bs, keep⟩ = _; unfold doD; simp only [hqm]
    have HFL := Lib.hid (sectorL_few n bs HBL.out)
    have SOF : Hid (∀ (a l' : List It) (u : World), Sep w0 (a ++ (.box w.heap.size 33 [.int .u8 (k : Nat), .int .i64 s, .int .i64 n, .slice Ab bs.length cb, .slice Ak keep.length ck] :: l')) u → (fun u : World => u.cell? ⟨w.heap.size, 0, none⟩ = some (.int .u8 (k : Nat)) ∧ u.cell? ⟨w.heap.size, 1, none⟩ = some (.int .i64 s) ∧ u.cell? ⟨w.heap.size, 2, none⟩ = some (.int .i64 n) ∧ u.cell? ⟨w.heap.size, 3, none⟩ = some (.slice Ab bs.length cb) ∧ u.cell? ⟨w.heap.size, 4, none⟩ = some (.slice Ak keep.length ck)) u) := fun a l' u hs => by
      have h2 : Whole u w.heap.size 33 [.int .u8 (k : Nat), .int .i64 s, .int .i64 n, .slice Ab bs.length cb, .slice Ak keep.length ck] := hs.holds (.box w.heap.size 33 [.int .u8 (k : Nat), .int .i64 s, .int .i64 n, .slice Ab bs.length cb, .slice Ak keep.length ck]) (by simp)
      exact ⟨h2.cell 0, h2.cell 1, h2.cell 2, h2.cell 3, h2.cell 4⟩
    obtain ⟨V, hV⟩ : ∃ V : World, V = w.alloc (.cells #[.int .u8 (k : Nat), .int .i64 s, .int .i64 n, .slice Ab bs.length cb, .slice Ak keep.length ck] 33) := ⟨_, rfl⟩
    have HD : Hid (Sep w0 (mI w0.heap.size g sv mv lv wv m ++ (.box w.heap.size 33 [.int .u8 (k : Nat), .int .i64 s, .int .i64 n, .slice Ab bs.length cb, .slice Ak keep.length ck] :: l)) V.drew) := by rw [hV]; exact HS.out.drew
    have C := Lib.hid (sector_is (k : Nat) s n bs (.slice Ab bs.length cb) (.slice Ak keep.length ck) _ HD.out (HB.out.appL _) HBL.out)
    clear hqm
    go_enter Try.func29, Try.ntmps29
    go_wp2_with fail
    rw [← hV] at hw0 hw1 hw2 hw3 hw4 ⊢
    clear hV
    have SD := Lib.hid (SOF.out _ _ _ HD.out)
    refine wp_region_held_drew (S := (fun u : World => u.cell? ⟨w.heap.size, 0, none⟩ = some (.int .u8 (k : Nat)) ∧ u.cell? ⟨w.heap.size, 1, none⟩ = some (.int .i64 s) ∧ u.cell? ⟨w.heap.size, 2, none⟩ = some (.int .i64 n) ∧ u.cell? ⟨w.heap.size, 3, none⟩ = some (.slice Ab bs.length cb) ∧ u.cell? ⟨w.heap.size, 4, none⟩ = some (.slice Ak keep.length ck))) (by kernel_rfl) (SD.out) (fun HS => ?_)
    refine handTake 0 (some 50) ?_ rfl rfl (by kernel_rfl) (by kernel_rfl) (by kernel_rfl) (fun _ _ _ h => h) (by rfl) ?_ HS ?_
    rotate_left
    · (intro u hu; (try dsimp only at hu); go_simp; try with_reducible rfl)
    simp only [Act.put, List.setIfInBounds_toArray, List.set_cons_zero, List.set_cons_succ]
    refine handTake 1 (some 51) ?_ rfl rfl (by kernel_rfl) (by kernel_rfl) (by kernel_rfl) (fun _ _ _ h => h) (by rfl) ?_ HS ?_
    rotate_left
    · (intro u hu; (try dsimp only at hu); go_simp; try with_reducible rfl)
    simp only [Act.put, List.setIfInBounds_toArray, List.set_cons_zero, List.set_cons_succ]
    refine handTake 2 (some 52) ?_ rfl rfl (by kernel_rfl) (by kernel_rfl) (by kernel_rfl) (fun _ _ _ h => h) (by rfl) ?_ HS ?_
    rotate_left
    · (intro u hu; (try dsimp only at hu); go_simp; try with_reducible rfl)
    simp only [Act.put, List.setIfInBounds_toArray, List.set_cons_zero, List.set_cons_succ]
    refine handTake 3 (some 53) ?_ rfl rfl (by kernel_rfl) (by kernel_rfl) (by kernel_rfl) (fun _ _ _ h => h) (by rfl) ?_ HS ?_
    rotate_left
    · (intro u hu; (try dsimp only at hu); go_simp; try with_reducible rfl)
    simp only [Act.put, List.setIfInBounds_toArray, List.set_cons_zero, List.set_cons_succ]
    refine wpAnyH_ready (rs := [4]) (by kernel_rfl) (by simp) ?_
    refine AllReadyH.cons rfl (fun K hK => ?_) AllReadyH.nil
    clear HS
    go_simp
    refine C.out.mono ?_
    rintro e v1 ⟨x1, rfl, hs⟩
    rw [List.append_assoc] at hs
    have SC := Lib.hid (SOF.out _ _ _ hs)
    have W := Lib.hid (rwrite_is m d HR.out HO.out HFEW.out s (sectorL n bs) x1 g sv mv lv wv v1 hs (Stays.of_own (base := w0.heap.size) (e := 5) (K := 1) (by simp [rowB])))
    have hrow := rowB_row (base := w0.heap.size) (v := x1) (xs := sectorL n bs) hs (by simp)
    obtain ⟨xa, xc, hxv, hy1, hy2⟩ := hrow.slice
    subst hxv
    clear hs hrow hy1 hy2 hw0 hw1 hw2 hw3 hw4
    go_wp2_with fail
    refine hK.out _ _ (SC.out) (fun HS => ?_)
    clear hK
    try simp only [Act.put, List.setIfInBounds_toArray, List.set_cons_zero, List.set_cons_succ]
    refine wpAnyH_ready (rs := [5]) (by kernel_rfl) (by simp) ?_
    refine AllReadyH.cons rfl (fun K hK => ?_) AllReadyH.nil
    clear HS
    go_simp
    refine W.out.mono ?_
    rintro e v2 ⟨rfl, wv2, m2, hr2, hs⟩
    have SW := Lib.hid (SOF.out _ _ _ hs)
    have HX := Lib.hid (HEND.out _ _ ⟨wv2, m2, hr2, hs.sub (by
      show List.Sublist _ (_ ++ ((_ :: l) ++ [rowB w0.heap.size (.slice xa (sectorL n bs).length xc) (sectorL n bs)]))
      rw [← List.append_assoc]
      exact List.sublist_append_left _ _)⟩)
    clear hs hr2
    go_wp2_with fail
    refine hK.out _ _ (SW.out) (fun HS => ?_)
    clear hK
    try simp only [Act.put, List.setIfInBounds_toArray, List.set_cons_zero, List.set_cons_succ]
    refine handTake 6 (some 4) ?_ rfl rfl (by kernel_rfl) (by kernel_rfl) (by kernel_rfl) (fun _ _ _ h => h) (by rfl) ?_ HS ?_
    rotate_left
    · (intro u hu; (try dsimp only at hu); go_simp; try with_reducible rfl)
    simp only [Act.put, List.setIfInBounds_toArray, List.set_cons_zero, List.set_cons_succ]
    refine wpAnyH_done (by kernel_rfl) ?_ _
    clear HS
    go_wp2_with fail
    go_ret
    exact ⟨by rw [hE.out]; rfl, by rw [hD.out]; exact HX.out⟩
end Di
end Go.Proofs.Ytnjejffbcgchlaa
