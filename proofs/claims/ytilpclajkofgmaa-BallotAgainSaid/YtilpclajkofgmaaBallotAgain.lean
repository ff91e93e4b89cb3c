/- The walk of the statement that replicas that outbid one another go on behind all that was. -/
import Derived.Test.YtilpclajkofgmaaBallotAwake
set_option linter.unusedSimpArgs false
set_option linter.unusedVariables false
namespace Go.Proofs.Ytilpclajkofgmaa
open Go.RowKit

namespace Bl

theorem odd_of (n : Int) : ∃ N : Int, wrap64 (3 + wrap64 (2 * wrap64 ((IntKind.u64.wrap n).tmod 3))) = N ∧ (N = 3 ∨ N = 5 ∨ N = 7) := by
  refine ⟨_, rfl, ?_⟩
  unfold wrap64
  rw [IntKind.wrap_u64, Int.tmod_eq_emod_of_nonneg (by omega)]
  omega

set_option maxHeartbeats 4000000 in
theorem again_any (who : List Nat) (hwho : ∀ x ∈ who, x < 256) (v : Value) (n : Int) (w : World) (hr : Row w w.heap.size v who.length (who.map fun x => Value.int .u8 (x : Nat))) :
    Calls Try.prog 8 #[v, .int .i64 n] w fun e w' => e = .returned (.bool true) ∧ Below w.heap.size w w' := by
  obtain ⟨A, c, rfl, hn, hc⟩ := hr.slice
  have hlen := hr.bound
  have HR := Lib.hid hr; clear hr
  have AW := Lib.hid awake_any
  by_cases hbig : 200 < who.length
  · have hbig' : (200 : Int) < (who.length : Int) := by omega
    go_enter Try.func8, Try.ntmps8
    go_wp2_with fail
    refine (AW.out _).mono ?_
    rintro e u ⟨rfl, hb⟩
    have HB := Lib.hid hb; clear hb
    go_wp2_with fail
    go_ret
    exact ⟨rfl, HB.out⟩
  have hbig' : (who.length : Int) ≤ 200 := by omega
  obtain ⟨N, hN, h357⟩ := odd_of n
  have LL := Lib.hid less_any
  have HW := Lib.hid hwho; clear hwho
  go_enter Try.func8, Try.ntmps8
  go_wp2_with fail
  refine (AW.out _).mono ?_
  rintro e u0 ⟨rfl, hb⟩
  have hz0 := hb.size
  have HB0 := Lib.hid hb; clear hb
  go_wp2_with fail
  rw [hN]
  clear hN
  go_loopw [6] (fun iv wr => ∃ (k : Nat) (b : Ba), k ≤ who.length ∧ iv = .int .i64 k ∧ Whole wr u0.heap.size 23 b.cells ∧ mayB b N = true ∧ b.r ≤ k ∧ Below w.heap.size w wr) (fun iv _ => who.length - (intOf iv).toNat)
  case atStart => exact ⟨0, zeroBa, Nat.zero_le _, rfl, Whole.new _ _ _, by rcases h357 with rfl | rfl | rfl <;> rfl, by simp [zeroBa], HB0.out.alloc hz0 _⟩
  case round =>
    obtain ⟨k, b, hk, rfl, H_b, hmay, hbr, HB⟩ := hrel
    by_cases hlt : k < who.length
    · have h2 := HR.out
      obtain ⟨bb, o2, rfl, hb2, hx2⟩ := h2.at_ (j := k) (by simpa using hlt)
      have hx := hx2 k _ (by rw [List.getElem?_map, List.getElem?_eq_getElem hlt]; rfl)
      clear h2 hx2
      have hlt8 := HW.out who[k] (List.getElem_mem hlt)
      generalize who[k] = x at *
      have q1 : 0 ≤ (x : Int).tmod N ∧ (x : Int).tmod N < N := by
        rw [Int.tmod_eq_emod_of_nonneg (by omega)]
        rcases h357 with rfl | rfl | rfl <;> omega
      obtain ⟨q, hq⟩ : ∃ q, (x : Int).tmod N = q := ⟨_, rfl⟩
      rw [hq] at q1
      obtain ⟨q10, q11⟩ := q1
      have hge := nextR_ge (i := q) hmay
      have hbeh := next_behind (i := q) hmay
      have hz : nextZ b q N = (⟨nextR b q, q⟩, 0) := by
        unfold nextZ
        rw [hmay, decide_eq_false (by omega : ¬ q < 0), decide_eq_false (by omega : ¬ N ≤ q), if_neg (by simp), if_neg (by omega)]
      have hmay2 : mayB ⟨nextR b q, q⟩ N = true := by
        rw [may_iff] at hmay ⊢
        exact ⟨hmay.1, .inr ⟨by simp only; omega, by simp only; omega, q10, q11⟩⟩
      generalize nextR b q = R at *
      obtain ⟨r, p⟩ := b
      simp only at hge hbr
      obtain ⟨g1, g2, g3⟩ := hge
      have NX := Lib.hid (next_is ⟨r, p⟩ q N R q 0 hz)
      have LT := less_any ⟨r, p⟩ ⟨R, q⟩
      rw [hbeh] at LT
      simp only [Ba.cells] at LT
      have LT := Lib.hid LT
      have HM2 := Lib.hid hmay2
      clear hz hbeh hmay hmay2
      have H_b : Whole wr u0.heap.size 23 [.int .i64 r, .int .i64 p] := H_b
      have w1 : IntKind.i64.wrap (x : Int) = x := IntWalk.i64_in _ (by omega)
      have w2 : wrap64 (x : Int) = x := IntWalk.wrap64_in _ (by omega)
      have N0 : ¬ N = 0 := by omega
      have N3 : 3 ≤ N ∧ N ≤ 7 := by omega
      obtain ⟨N31, N32⟩ := N3
      have H357 := Lib.hid h357; clear h357
      have z_wr := HB.size
      have c_b_0 := H_b.cell 0; have f_b_0 := H_b.free 0; have c_b_1 := H_b.cell 1; have f_b_1 := H_b.free 1
      simp only [List.set_cons_zero, List.set_cons_succ, List.getElem?_cons_zero, List.getElem?_cons_succ] at c_b_0 c_b_1
      have l_b := H_b.lt; have K_b := Lib.hid H_b; clear H_b
      have KB := Lib.hid HB; clear HB
      go_wp2_with fail
      have SOF : Hid (∀ u : World, Hid (Known u [(u0.heap.size, 23, [.int .i64 r, .int .i64 p])] ∧ Below w.heap.size w u) → (fun u : World => (u.cell? ⟨u0.heap.size, 0, none⟩ = some (.int .i64 r) ∧ u.cell? ⟨u0.heap.size, 1, none⟩ = some (.int .i64 p) ∧ u.cell? ⟨bb, o2 + k, none⟩ = some (.int .u8 (x : Nat))) ∧ Hid (Known u [(u0.heap.size, 23, [.int .i64 r, .int .i64 p])] ∧ Below w.heap.size w u)) u) := fun u h => ⟨⟨(h.out.1.head.cell 0), (h.out.1.head.cell 1), ((h.out.2.cell (p := ⟨bb, o2 + k, none⟩) hb2).trans hx)⟩, h⟩
      refine wp_region_held_drew (S := (fun u : World => (u.cell? ⟨u0.heap.size, 0, none⟩ = some (.int .i64 r) ∧ u.cell? ⟨u0.heap.size, 1, none⟩ = some (.int .i64 p) ∧ u.cell? ⟨bb, o2 + k, none⟩ = some (.int .u8 (x : Nat))) ∧ Hid (Known u [(u0.heap.size, 23, [.int .i64 r, .int .i64 p])] ∧ Below w.heap.size w u))) (by kernel_rfl) (SOF.out _ ⟨(Known.add (K_b.out.drew) (Known.nil _)), (KB.out.drew)⟩) (fun HS => ?_)
      refine handTake 0 (some 27) ?_ rfl rfl (by kernel_rfl) (by kernel_rfl) (by kernel_rfl) (fun _ _ _ h => h) (by rfl) ?_ HS ?_
      rotate_left
      · (intro u hu; (try dsimp only at hu); go_simp; try with_reducible rfl)
      simp only [Act.put, List.setIfInBounds_toArray, List.set_cons_zero, List.set_cons_succ]
      refine handTake 1 (some 28) ?_ rfl rfl (by kernel_rfl) (by kernel_rfl) (by kernel_rfl) (fun _ _ _ h => h) (by rfl) ?_ HS ?_
      rotate_left
      · (intro u hu; (try dsimp only at hu); go_simp; try with_reducible rfl)
      simp only [Act.put, List.setIfInBounds_toArray, List.set_cons_zero, List.set_cons_succ]
      refine handTake 2 (some 29) ?_ rfl rfl (by kernel_rfl) (by kernel_rfl) (by kernel_rfl) (fun _ _ _ h => h) (by rfl) ?_ HS ?_
      rotate_left
      · (intro u hu; (try dsimp only at hu); go_simp; try with_reducible rfl)
      simp only [Act.put, List.setIfInBounds_toArray, List.set_cons_zero, List.set_cons_succ]
      refine handTake 3 (some 30) ?_ rfl rfl (by kernel_rfl) (by kernel_rfl) (by kernel_rfl) (fun _ _ _ h => h) (by rfl) ?_ HS ?_
      rotate_left
      · (intro u hu; (try dsimp only at hu); go_simp; try with_reducible rfl)
      simp only [Act.put, List.setIfInBounds_toArray, List.set_cons_zero, List.set_cons_succ]
      refine handTake 4 (some 31) ?_ rfl rfl (by kernel_rfl) (by kernel_rfl) (by kernel_rfl) (fun _ _ _ h => h) (by rfl) ?_ HS ?_
      rotate_left
      · (intro u hu; (try dsimp only at hu); go_simp; try with_reducible rfl)
      simp only [Act.put, List.setIfInBounds_toArray, List.set_cons_zero, List.set_cons_succ]
      refine handTake 5 (some 32) ?_ rfl rfl (by kernel_rfl) (by kernel_rfl) (by kernel_rfl) (fun _ _ _ h => h) (by rfl) ?_ HS ?_
      rotate_left
      · (intro u hu; (try dsimp only at hu); go_simp; try with_reducible rfl)
      simp only [Act.put, List.setIfInBounds_toArray, List.set_cons_zero, List.set_cons_succ]
      refine handTake 6 (some 33) ?_ rfl rfl (by kernel_rfl) (by kernel_rfl) (by kernel_rfl) (fun _ _ _ h => h) (by rfl) ?_ HS ?_
      rotate_left
      · (intro u hu; (try dsimp only at hu); go_simp; try with_reducible rfl)
      simp only [Act.put, List.setIfInBounds_toArray, List.set_cons_zero, List.set_cons_succ]
      refine handTake 7 (some 34) ?_ rfl rfl (by kernel_rfl) (by kernel_rfl) (by kernel_rfl) (fun _ _ _ h => h) (by rfl) ?_ HS ?_
      rotate_left
      · (intro u hu; (try dsimp only at hu); go_simp; try with_reducible rfl)
      simp only [Act.put, List.setIfInBounds_toArray, List.set_cons_zero, List.set_cons_succ]
      refine handTake 8 (some 35) ?_ rfl rfl (by kernel_rfl) (by kernel_rfl) (by kernel_rfl) (fun _ _ _ h => h) (by rfl) ?_ HS ?_
      rotate_left
      · (intro u hu; (try dsimp only at hu); go_simp; try with_reducible rfl)
      simp only [Act.put, List.setIfInBounds_toArray, List.set_cons_zero, List.set_cons_succ]
      refine wpAnyH_ready (rs := [9, 13]) (by kernel_rfl) (by simp) ?_
      refine AllReadyH.cons rfl (fun K hK => ?_) ?_
      · go_simp
        clear HS
        refine (NX.out _).mono ?_
        rintro e1 u1 ⟨rfl, hb⟩
        have H_b : Whole u1 (u0.heap.size) 23 _ := Whole.below (K_b.out.drew) hb (by first | omega | (simp; done) | (simp; omega) | (simp at *; omega))
        have HB := (KB.out.drew).trans (hb.mono (by first | omega | (simp; done) | (simp; omega) | (simp at *; omega)))
        clear c_b_0 c_b_1 f_b_0 f_b_1 l_b
        clear hb KB K_b
        have z_u1 := HB.size
        have c_b_0 := H_b.cell 0; have f_b_0 := H_b.free 0; have c_b_1 := H_b.cell 1; have f_b_1 := H_b.free 1
        simp only [List.set_cons_zero, List.set_cons_succ, List.getElem?_cons_zero, List.getElem?_cons_succ] at c_b_0 c_b_1
        have l_b := H_b.lt; have K_b := Lib.hid H_b; clear H_b
        have KB := Lib.hid HB; clear HB
        have HS' := Lib.hid (SOF.out _ ⟨(Known.add K_b.out (Known.nil _)), KB.out⟩)
        go_wp2_with fail
        refine hK.out _ _ HS'.out (fun HS => ?_)
        clear hK HS'
        try simp only [Act.put, List.setIfInBounds_toArray, List.set_cons_zero, List.set_cons_succ]
        refine handTake 10 (some 26) ?_ rfl rfl (by kernel_rfl) (by kernel_rfl) (by kernel_rfl) (fun _ _ _ h => h) (by rfl) ?_ HS ?_
        rotate_left
        · (intro u hu; (try dsimp only at hu); go_simp; try with_reducible rfl)
        simp only [Act.put, List.setIfInBounds_toArray, List.set_cons_zero, List.set_cons_succ]
        refine handTake 11 (some 37) ?_ rfl rfl (by kernel_rfl) (by kernel_rfl) (by kernel_rfl) (fun _ _ _ h => h) (by rfl) ?_ HS ?_
        rotate_left
        · (intro u hu; (try dsimp only at hu); go_simp; try with_reducible rfl)
        simp only [Act.put, List.setIfInBounds_toArray, List.set_cons_zero, List.set_cons_succ]
        refine handTake 12 (some 38) ?_ rfl rfl (by kernel_rfl) (by kernel_rfl) (by kernel_rfl) (fun _ _ _ h => h) (by rfl) ?_ HS ?_
        rotate_left
        · (intro u hu; (try dsimp only at hu); go_simp; try with_reducible rfl)
        simp only [Act.put, List.setIfInBounds_toArray, List.set_cons_zero, List.set_cons_succ]
        refine wpAnyH_ready (rs := [13]) (by kernel_rfl) (by simp) ?_
        refine AllReadyH.cons rfl (fun K hK => ?_) AllReadyH.nil
        go_simp
        clear HS
        refine hK.out _ _ (SOF.out _ ⟨(Known.add (K_b.out.alloc _) (Known.nil _)), (KB.out.alloc (by first | omega | (simp; done) | (simp; omega) | (simp at *; omega)) _)⟩) (fun HS => ?_)
        clear hK
        try simp only [Act.put, List.setIfInBounds_toArray, List.set_cons_zero, List.set_cons_succ]
        refine wpAnyH_ready (rs := [14]) (by kernel_rfl) (by simp) ?_
        refine AllReadyH.cons rfl (fun K hK => ?_) AllReadyH.nil
        go_simp
        clear HS
        refine hK.out _ _ (SOF.out _ ⟨(Known.add (K_b.out.alloc _) (Known.nil _)), (KB.out.alloc (by first | omega | (simp; done) | (simp; omega) | (simp at *; omega)) _)⟩) (fun HS => ?_)
        clear hK
        try simp only [Act.put, List.setIfInBounds_toArray, List.set_cons_zero, List.set_cons_succ]
        refine handTake 15 (some 8) ?_ rfl rfl (by kernel_rfl) (by kernel_rfl) (by kernel_rfl) (fun _ _ _ h => h) (by rfl) ?_ HS ?_
        rotate_left
        · (intro u hu; (try dsimp only at hu); go_simp; try with_reducible rfl)
        simp only [Act.put, List.setIfInBounds_toArray, List.set_cons_zero, List.set_cons_succ]
        refine wpAnyH_done (by kernel_rfl) ?_ _
        clear HS SOF
        go_wp2_with fail
        refine (LT.out _).mono ?_
        rintro e2 u2 ⟨rfl, hb⟩
        have H_b : Whole u2 (u0.heap.size) 23 _ := Whole.below (K_b.out.alloc _) hb (by first | omega | (simp; done) | (simp; omega) | (simp at *; omega))
        have H_x : Whole u2 (u1.heap.size) 23 _ := Whole.below (Whole.new _ 23 _) hb (by first | omega | (simp; done) | (simp; omega) | (simp at *; omega))
        have HB := (KB.out.alloc (by first | omega | (simp; done) | (simp; omega) | (simp at *; omega)) _).trans (hb.mono (by first | omega | (simp; done) | (simp; omega) | (simp at *; omega)))
        clear c_b_0 c_b_1 f_b_0 f_b_1
        clear hb KB K_b
        have z_u2 := HB.size
        have c_b_0 := H_b.cell 0; have f_b_0 := H_b.free 0; have c_b_1 := H_b.cell 1; have f_b_1 := H_b.free 1
        simp only [List.set_cons_zero, List.set_cons_succ, List.getElem?_cons_zero, List.getElem?_cons_succ] at c_b_0 c_b_1
        have c_x_0 := H_x.cell 0; have f_x_0 := H_x.free 0; have c_x_1 := H_x.cell 1; have f_x_1 := H_x.free 1
        simp only [List.set_cons_zero, List.set_cons_succ, List.getElem?_cons_zero, List.getElem?_cons_succ] at c_x_0 c_x_1
        have l_b := H_b.lt; have K_b := Lib.hid H_b; clear H_b
        have l_x := H_x.lt; have K_x := Lib.hid H_x; clear H_x
        have KB := Lib.hid HB; clear HB
        go_wp2_with fail
        go_roundw
        case rel => exact ⟨k + 1, ⟨R, q⟩, by omega, by go_num, ((K_b.out.set 0 _).set 1 _), HM2.out, by simp only; omega, ((KB.out.setCell (p := ⟨u0.heap.size, 0, none⟩) (by first | omega | (simp; done) | (simp; omega) | (simp at *; omega)) _).setCell (p := ⟨u0.heap.size, 1, none⟩) (by first | omega | (simp; done) | (simp; omega) | (simp at *; omega)) _)⟩
        case measure => simp [intOf]; omega
      refine AllReadyH.cons rfl (fun K hK => ?_) ?_
      · go_simp
        clear HS
        refine hK.out _ _ (SOF.out _ ⟨(Known.add ((K_b.out.alloc _).drew) (Known.nil _)), ((KB.out.alloc (by first | omega | (simp; done) | (simp; omega) | (simp at *; omega)) _).drew)⟩) (fun HS => ?_)
        clear hK
        try simp only [Act.put, List.setIfInBounds_toArray, List.set_cons_zero, List.set_cons_succ]
        refine wpAnyH_ready (rs := [9]) (by kernel_rfl) (by simp) ?_
        refine AllReadyH.cons rfl (fun K hK => ?_) AllReadyH.nil
        go_simp
        clear HS
        refine (NX.out _).mono ?_
        rintro e3 u3 ⟨rfl, hb⟩
        have H_b : Whole u3 (u0.heap.size) 23 _ := Whole.below ((K_b.out.alloc _).drew) hb (by first | omega | (simp; done) | (simp; omega) | (simp at *; omega))
        have H_x : Whole u3 (wr.heap.size) 23 _ := Whole.below ((Whole.new _ 23 _).drew) hb (by first | omega | (simp; done) | (simp; omega) | (simp at *; omega))
        have HB := ((KB.out.alloc (by first | omega | (simp; done) | (simp; omega) | (simp at *; omega)) _).drew).trans (hb.mono (by first | omega | (simp; done) | (simp; omega) | (simp at *; omega)))
        clear c_b_0 c_b_1 f_b_0 f_b_1
        clear hb KB K_b
        have z_u3 := HB.size
        have c_b_0 := H_b.cell 0; have f_b_0 := H_b.free 0; have c_b_1 := H_b.cell 1; have f_b_1 := H_b.free 1
        simp only [List.set_cons_zero, List.set_cons_succ, List.getElem?_cons_zero, List.getElem?_cons_succ] at c_b_0 c_b_1
        have c_x_0 := H_x.cell 0; have f_x_0 := H_x.free 0; have c_x_1 := H_x.cell 1; have f_x_1 := H_x.free 1
        simp only [List.set_cons_zero, List.set_cons_succ, List.getElem?_cons_zero, List.getElem?_cons_succ] at c_x_0 c_x_1
        have l_b := H_b.lt; have K_b := Lib.hid H_b; clear H_b
        have l_x := H_x.lt; have K_x := Lib.hid H_x; clear H_x
        have KB := Lib.hid HB; clear HB
        have HS' := Lib.hid (SOF.out _ ⟨(Known.add K_b.out (Known.nil _)), KB.out⟩)
        go_wp2_with fail
        refine hK.out _ _ HS'.out (fun HS => ?_)
        clear hK HS'
        try simp only [Act.put, List.setIfInBounds_toArray, List.set_cons_zero, List.set_cons_succ]
        refine handTake 10 (some 26) ?_ rfl rfl (by kernel_rfl) (by kernel_rfl) (by kernel_rfl) (fun _ _ _ h => h) (by rfl) ?_ HS ?_
        rotate_left
        · (intro u hu; (try dsimp only at hu); go_simp; try with_reducible rfl)
        simp only [Act.put, List.setIfInBounds_toArray, List.set_cons_zero, List.set_cons_succ]
        refine handTake 11 (some 37) ?_ rfl rfl (by kernel_rfl) (by kernel_rfl) (by kernel_rfl) (fun _ _ _ h => h) (by rfl) ?_ HS ?_
        rotate_left
        · (intro u hu; (try dsimp only at hu); go_simp; try with_reducible rfl)
        simp only [Act.put, List.setIfInBounds_toArray, List.set_cons_zero, List.set_cons_succ]
        refine handTake 12 (some 38) ?_ rfl rfl (by kernel_rfl) (by kernel_rfl) (by kernel_rfl) (fun _ _ _ h => h) (by rfl) ?_ HS ?_
        rotate_left
        · (intro u hu; (try dsimp only at hu); go_simp; try with_reducible rfl)
        simp only [Act.put, List.setIfInBounds_toArray, List.set_cons_zero, List.set_cons_succ]
        refine wpAnyH_ready (rs := [14]) (by kernel_rfl) (by simp) ?_
        refine AllReadyH.cons rfl (fun K hK => ?_) AllReadyH.nil
        go_simp
        clear HS
        refine hK.out _ _ (SOF.out _ ⟨(Known.add ((K_b.out.far (p := ⟨wr.heap.size, 0, none⟩) (by first | omega | (simp; done) | (simp; omega) | (simp at *; omega)) _).far (p := ⟨wr.heap.size, 1, none⟩) (by first | omega | (simp; done) | (simp; omega) | (simp at *; omega)) _) (Known.nil _)), ((KB.out.setCell (p := ⟨wr.heap.size, 0, none⟩) (by first | omega | (simp; done) | (simp; omega) | (simp at *; omega)) _).setCell (p := ⟨wr.heap.size, 1, none⟩) (by first | omega | (simp; done) | (simp; omega) | (simp at *; omega)) _)⟩) (fun HS => ?_)
        clear hK
        try simp only [Act.put, List.setIfInBounds_toArray, List.set_cons_zero, List.set_cons_succ]
        refine handTake 15 (some 8) ?_ rfl rfl (by kernel_rfl) (by kernel_rfl) (by kernel_rfl) (fun _ _ _ h => h) (by rfl) ?_ HS ?_
        rotate_left
        · (intro u hu; (try dsimp only at hu); go_simp; try with_reducible rfl)
        simp only [Act.put, List.setIfInBounds_toArray, List.set_cons_zero, List.set_cons_succ]
        refine wpAnyH_done (by kernel_rfl) ?_ _
        clear HS SOF
        go_wp2_with fail
        refine (LT.out _).mono ?_
        rintro e4 u4 ⟨rfl, hb⟩
        have H_b : Whole u4 (u0.heap.size) 23 _ := Whole.below ((K_b.out.far (p := ⟨wr.heap.size, 0, none⟩) (by first | omega | (simp; done) | (simp; omega) | (simp at *; omega)) _).far (p := ⟨wr.heap.size, 1, none⟩) (by first | omega | (simp; done) | (simp; omega) | (simp at *; omega)) _) hb (by first | omega | (simp; done) | (simp; omega) | (simp at *; omega))
        have H_x : Whole u4 (wr.heap.size) 23 _ := Whole.below ((K_x.out.set 0 _).set 1 _) hb (by first | omega | (simp; done) | (simp; omega) | (simp at *; omega))
        have HB := ((KB.out.setCell (p := ⟨wr.heap.size, 0, none⟩) (by first | omega | (simp; done) | (simp; omega) | (simp at *; omega)) _).setCell (p := ⟨wr.heap.size, 1, none⟩) (by first | omega | (simp; done) | (simp; omega) | (simp at *; omega)) _).trans (hb.mono (by first | omega | (simp; done) | (simp; omega) | (simp at *; omega)))
        clear c_b_0 c_b_1 f_b_0 f_b_1 c_x_0 c_x_1 f_x_0 f_x_1 l_b l_x
        clear hb KB K_b K_x
        have z_u4 := HB.size
        have c_b_0 := H_b.cell 0; have f_b_0 := H_b.free 0; have c_b_1 := H_b.cell 1; have f_b_1 := H_b.free 1
        simp only [List.set_cons_zero, List.set_cons_succ, List.getElem?_cons_zero, List.getElem?_cons_succ] at c_b_0 c_b_1
        have c_x_0 := H_x.cell 0; have f_x_0 := H_x.free 0; have c_x_1 := H_x.cell 1; have f_x_1 := H_x.free 1
        simp only [List.set_cons_zero, List.set_cons_succ, List.getElem?_cons_zero, List.getElem?_cons_succ] at c_x_0 c_x_1
        have l_b := H_b.lt; have K_b := Lib.hid H_b; clear H_b
        have l_x := H_x.lt; have K_x := Lib.hid H_x; clear H_x
        have KB := Lib.hid HB; clear HB
        go_wp2_with fail
        go_roundw
        case rel => exact ⟨k + 1, ⟨R, q⟩, by omega, by go_num, ((K_b.out.set 0 _).set 1 _), HM2.out, by simp only; omega, ((KB.out.setCell (p := ⟨u0.heap.size, 0, none⟩) (by first | omega | (simp; done) | (simp; omega) | (simp at *; omega)) _).setCell (p := ⟨u0.heap.size, 1, none⟩) (by first | omega | (simp; done) | (simp; omega) | (simp at *; omega)) _)⟩
        case measure => simp [intOf]; omega
      exact AllReadyH.nil
    · have e : k = who.length := by omega
      subst e
      have HB' := Lib.hid HB; clear HB H_b
      go_wp2_with fail
      go_ret
      exact ⟨rfl, HB'.out⟩

end Bl
end Go.Proofs.Ytilpclajkofgmaa
