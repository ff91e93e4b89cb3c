/- What the program's functions on tallies return (package tally), function by function. -/
import Derived.Test.YtmpcjiacgbcpdaaTallyMap
import Derived.Test.YtmpcjiacgbcpdaaTallyPlain
import Derived.Test.YtmpcjiacgbcpdaaQuorumMembers
import Derived.Test.YtmpcjiacgbcpdaaAppend
import Derived.Deep.RegionHeld3
import Derived.StillTailTactics
set_option linter.unusedSimpArgs false
set_option linter.unusedVariables false
namespace Go.Proofs.Ytmpcjiacgbcpdaa
open Go.RowKit
open Qm

namespace Ta

/-- Block g holds a tally of n replicas, whose map is block b, with these rows. -/
def TallyAt (w : World) (g b : Nat) (n : Int) (R : Rows) : Prop := Whole w g 25 [.int .i64 n, .map (some b)] ∧ MapAt w b (look R) R.length ∧ g ≠ b
theorem TallyAt.below {w w' : World} {g b B : Nat} {n : Int} {R : Rows} (h : TallyAt w g b n R) (hb : Below B w w') (hg : g < B) (hB : b < B) : TallyAt w' g b n R := ⟨h.1.below hb hg, h.2.1.below hb hB, h.2.2⟩
theorem TallyAt.keep {w w' : World} {g b : Nat} {n : Int} {R : Rows} (h : TallyAt w g b n R) (hb : Below w.heap.size w w') : TallyAt w' g b n R := h.below hb h.1.lt h.2.1.lt
theorem TallyAt.drew {w : World} {g b : Nat} {n : Int} {R : Rows} (h : TallyAt w g b n R) : TallyAt w.drew g b n R := h
theorem TallyAt.alloc {w : World} {g b : Nat} {n : Int} {R : Rows} (h : TallyAt w g b n R) (o : Obj) : TallyAt (w.alloc o) g b n R := ⟨h.1.alloc o, h.2.1.alloc o, h.2.2⟩

set_option maxHeartbeats 400000 in
theorem none_nil (w : World) : Calls Try.prog 26 #[.pointer none] w fun e w' => e = .returned (.bool true) ∧ w = w' := by
  go_enter Try.func26, Try.ntmps26
  go_wp2
  go_ret
  exact ⟨rfl, rfl⟩
set_option maxHeartbeats 400000 in
theorem none_zero (g : Nat) (m : Value) (w : World) (h : Whole w g 25 [.int .i64 0, m]) : Calls Try.prog 26 #[.pointer (some ⟨g, 0, none⟩)] w fun e w' => e = .returned (.bool true) ∧ w = w' := by
  obtain ⟨⟨c0, c1⟩, f0, f1⟩ := h.two
  clear h
  go_enter Try.func26, Try.ntmps26
  go_wp2
  go_ret
  exact ⟨rfl, rfl⟩
set_option maxHeartbeats 400000 in
theorem none_false (g : Nat) (n : Int) (hn : n ≠ 0) (m : Value) (w : World) (h : Whole w g 25 [.int .i64 n, m]) : Calls Try.prog 26 #[.pointer (some ⟨g, 0, none⟩)] w fun e w' => e = .returned (.bool false) ∧ w = w' := by
  obtain ⟨⟨c0, c1⟩, f0, f1⟩ := h.two
  have hn' : (n == 0) = false := by simpa using hn
  clear h
  go_enter Try.func26, Try.ntmps26
  go_wp2
  go_ret
  exact ⟨by first | rfl | simp [hn], rfl⟩

set_option maxHeartbeats 400000 in
theorem new_bad (n : Int) (h : mostN n = 0) (w : World) : Calls Try.prog 13 #[.int .i64 n] w fun e w' => e = .returned (.tuple #[.pointer none, .int .i64 2]) ∧ w = w' := by
  have M := most_any n
  rw [h] at M
  have M := Lib.hid M
  clear h
  go_enter Try.func13, Try.ntmps13
  go_wp2_with (refine (M.out _).mono ?_; rintro e w' ⟨rfl, rfl⟩)
  go_ret2
  exact ⟨rfl, rfl⟩
set_option maxHeartbeats 400000 in
theorem new_ok (n : Int) (h : mostN n ≠ 0) (w : World) : Calls Try.prog 13 #[.int .i64 n] w fun e w' =>
    e = .returned (.tuple #[.pointer (some ⟨w.heap.size + 1, 0, none⟩), .int .i64 0]) ∧ TallyAt w' (w.heap.size + 1) w.heap.size n [] ∧ Below w.heap.size w w' := by
  have M := Lib.hid (most_any n)
  have hm : (mostN n == 0) = false := by simpa using h
  clear h
  have hmm := @run_makeMap Try.prog
  go_enter Try.func13, Try.ntmps13
  go_wp2_with (refine (M.out _).mono ?_; rintro e w' ⟨rfl, rfl⟩)
  go_ret2
  refine ⟨rfl, ⟨wh1_2 _ _ _ _, (MapAt.made w).alloc _, by omega⟩, be2 _ _ _⟩

set_option maxHeartbeats 1000000 in
theorem count_any (g b : Nat) (n : Int) (hn : n ≠ 0) (R : Rows) (hR : Ok R) (i : Int) (hi : inI i) (w : World) (ht : TallyAt w g b n R) :
    Calls Try.prog 10 #[.pointer (some ⟨g, 0, none⟩), .int .i64 i] w fun e w' => e = .returned (.int .i64 ((membersN (setOf R i) n).length : Nat)) ∧ Below w.heap.size w w' := by
  obtain ⟨H_tl, hmp, hne⟩ := ht
  have N := Lib.hid (none_false g n hn _ w H_tl)
  have MP := Lib.hid hmp
  have HI := Lib.hid hi
  have ME := Lib.hid (members_any (setOf R i) (ok_lt hR i) n)
  have hml : (membersN (setOf R i) n).length ≤ 8 := bits_len _
  clear hmp hi hR hn
  have HB := Below.refl w.heap.size w
  have z_w := HB.size
  have c_tl_0 := H_tl.cell 0; have f_tl_0 := H_tl.free 0; have c_tl_1 := H_tl.cell 1; have f_tl_1 := H_tl.free 1
  simp only [List.set_cons_zero, List.set_cons_succ, List.getElem?_cons_zero, List.getElem?_cons_succ] at c_tl_0 c_tl_1
  have l_tl := H_tl.lt; have K_tl := Lib.hid H_tl; clear H_tl
  have KB := Lib.hid HB; clear HB
  go_enter Try.func10, Try.ntmps10
  go_wp2_with fail
  refine (N.out).mono ?_
  rintro e1 u1 ⟨rfl, rfl⟩
  go_wp2_with fail
  have SOF : Hid (∀ u : World, Hid (Known u [(g, 25, [.int .i64 n, .map (some b)])] ∧ Below w.heap.size w u) → (fun u : World => (u.cell? ⟨g, 0, none⟩ = some (.int .i64 n) ∧ u.cell? ⟨g, 1, none⟩ = some (.map (some b)) ∧ (Instr.lookup 23 (.map (some b)) (.int .i64 i) false).run Try.prog u = .ok (.int .u8 (setOf R i : Nat)) u) ∧ Hid (Known u [(g, 25, [.int .i64 n, .map (some b)])] ∧ Below w.heap.size w u)) u) := fun u h => ⟨⟨(h.out.1.head.cell 0), (h.out.1.head.cell 1), ((MP.out.below h.out.2 MP.out.lt).look HI.out)⟩, h⟩
  refine wp_region_held_drew (S := (fun u : World => (u.cell? ⟨g, 0, none⟩ = some (.int .i64 n) ∧ u.cell? ⟨g, 1, none⟩ = some (.map (some b)) ∧ (Instr.lookup 23 (.map (some b)) (.int .i64 i) false).run Try.prog u = .ok (.int .u8 (setOf R i : Nat)) u) ∧ Hid (Known u [(g, 25, [.int .i64 n, .map (some b)])] ∧ Below w.heap.size w u))) (by kernel_rfl) (SOF.out _ ⟨(Known.add (K_tl.out.drew) (Known.nil _)), (KB.out.drew)⟩) (fun HS => ?_)
  refine handTake 0 (some 7) ?_ rfl rfl (by kernel_rfl) (by kernel_rfl) (by kernel_rfl) (fun _ _ _ h => h) (by rfl) ?_ HS ?_
  rotate_left
  · (intro u hu; (try dsimp only at hu); go_simp; try with_reducible rfl)
  simp only [Act.put, List.setIfInBounds_toArray, List.set_cons_zero, List.set_cons_succ]
  refine handTake 1 (some 8) ?_ rfl rfl (by kernel_rfl) (by kernel_rfl) (by kernel_rfl) (fun _ _ _ h => h) (by rfl) ?_ HS ?_
  rotate_left
  · (intro u hu; (try dsimp only at hu); go_simp; try with_reducible rfl)
  simp only [Act.put, List.setIfInBounds_toArray, List.set_cons_zero, List.set_cons_succ]
  refine handTake 2 (some 9) ?_ rfl rfl (by kernel_rfl) (by kernel_rfl) (by kernel_rfl) (fun _ _ _ h => h) (by rfl) ?_ HS ?_
  rotate_left
  · (intro u hu; (try dsimp only at hu); go_simp; try with_reducible rfl)
  simp only [Act.put, List.setIfInBounds_toArray, List.set_cons_zero, List.set_cons_succ]
  refine handTake 3 (some 10) ?_ rfl rfl (by kernel_rfl) (by kernel_rfl) (by kernel_rfl) (fun _ _ _ h => h) (by rfl) ?_ HS ?_
  rotate_left
  · (intro u hu; (try dsimp only at hu); go_simp; try with_reducible rfl)
  simp only [Act.put, List.setIfInBounds_toArray, List.set_cons_zero, List.set_cons_succ]
  refine handTake 4 (some 11) ?_ rfl rfl (by kernel_rfl) (by kernel_rfl) (by kernel_rfl) (fun _ _ _ h => h) (by rfl) ?_ HS ?_
  rotate_left
  · (intro u hu; (try dsimp only at hu); go_simp; try with_reducible rfl)
  simp only [Act.put, List.setIfInBounds_toArray, List.set_cons_zero, List.set_cons_succ]
  refine handTake 5 (some 12) ?_ rfl rfl (by kernel_rfl) (by kernel_rfl) (by kernel_rfl) (fun _ _ _ h => h) (by rfl) ?_ HS ?_
  rotate_left
  · (intro u hu; (try dsimp only at hu); go_simp; try with_reducible rfl)
  simp only [Act.put, List.setIfInBounds_toArray, List.set_cons_zero, List.set_cons_succ]
  refine handTake 6 (some 13) ?_ rfl rfl (by kernel_rfl) (by kernel_rfl) (by kernel_rfl) (fun _ _ _ h => h) (by rfl) ?_ HS ?_
  rotate_left
  · (intro u hu; (try dsimp only at hu); go_simp; try with_reducible rfl)
  simp only [Act.put, List.setIfInBounds_toArray, List.set_cons_zero, List.set_cons_succ]
  refine handTake 7 (some 14) ?_ rfl rfl (by kernel_rfl) (by kernel_rfl) (by kernel_rfl) (fun _ _ _ h => h) (by rfl) ?_ HS ?_
  rotate_left
  · (intro u hu; (try dsimp only at hu); go_simp; try with_reducible rfl)
  simp only [Act.put, List.setIfInBounds_toArray, List.set_cons_zero, List.set_cons_succ]
  refine handTake 8 (some 15) ?_ rfl rfl (by kernel_rfl) (by kernel_rfl) (by kernel_rfl) (fun _ _ _ h => h) (by rfl) ?_ HS ?_
  rotate_left
  · (intro u hu; (try dsimp only at hu); go_simp; try with_reducible rfl)
  simp only [Act.put, List.setIfInBounds_toArray, List.set_cons_zero, List.set_cons_succ]
  refine handTake 9 (some 16) ?_ rfl rfl (by kernel_rfl) (by kernel_rfl) (by kernel_rfl) (fun _ _ _ h => h) (by rfl) ?_ HS ?_
  rotate_left
  · (intro u hu; (try dsimp only at hu); go_simp; try with_reducible rfl)
  simp only [Act.put, List.setIfInBounds_toArray, List.set_cons_zero, List.set_cons_succ]
  refine wpAnyH_ready (rs := [10]) (by kernel_rfl) (by simp) ?_
  refine AllReadyH.cons rfl (fun K hK => ?_) AllReadyH.nil
  go_simp
  clear HS
  refine (ME.out _).mono ?_
  rintro e2 u2 ⟨v, rfl, hown, hb⟩
  obtain ⟨A, c, rfl, hn1, hc1⟩ := (Row.of_own hown.1).slice
  clear hown
  have H_tl : Whole u2 (g) 25 _ := Whole.below (K_tl.out.drew) hb (by first | omega | (simp; done) | (simp; omega) | (simp at *; omega))
  have HB := (KB.out.drew).trans (hb.mono (by first | omega | (simp; done) | (simp; omega) | (simp at *; omega)))
  clear c_tl_0 c_tl_1 f_tl_0 f_tl_1 l_tl
  clear hb KB K_tl
  have z_u2 := HB.size
  have c_tl_0 := H_tl.cell 0; have f_tl_0 := H_tl.free 0; have c_tl_1 := H_tl.cell 1; have f_tl_1 := H_tl.free 1
  simp only [List.set_cons_zero, List.set_cons_succ, List.getElem?_cons_zero, List.getElem?_cons_succ] at c_tl_0 c_tl_1
  have l_tl := H_tl.lt; have K_tl := Lib.hid H_tl; clear H_tl
  have KB := Lib.hid HB; clear HB
  have HS' := Lib.hid (SOF.out _ ⟨(Known.add K_tl.out (Known.nil _)), KB.out⟩)
  go_wp2_with fail
  refine hK.out _ _ HS'.out (fun HS => ?_)
  clear hK HS'
  try simp only [Act.put, List.setIfInBounds_toArray, List.set_cons_zero, List.set_cons_succ]
  refine handTake 11 (some 18) ?_ rfl rfl (by kernel_rfl) (by kernel_rfl) (by kernel_rfl) (fun _ _ _ h => h) (by rfl) ?_ HS ?_
  rotate_left
  · (intro u hu; (try dsimp only at hu); go_simp; try with_reducible rfl)
  simp only [Act.put, List.setIfInBounds_toArray, List.set_cons_zero, List.set_cons_succ]
  refine handTake 12 (some 4) ?_ rfl rfl (by kernel_rfl) (by kernel_rfl) (by kernel_rfl) (fun _ _ _ h => h) (by rfl) ?_ HS ?_
  rotate_left
  · (intro u hu; (try dsimp only at hu); go_simp; try with_reducible rfl)
  simp only [Act.put, List.setIfInBounds_toArray, List.set_cons_zero, List.set_cons_succ]
  refine wpAnyH_done (by kernel_rfl) ?_ _
  clear HS SOF
  go_wp2_with fail
  go_ret
  exact ⟨by first | rfl | (simp; done), KB.out⟩

/-- A set is put into the map, at the operation. -/
theorem wpList_put {w : World} {ops : Array Oper} {rest : List Oper} {o : Oper} {a : Act} {Q : Exit → Act → World → Prop} (hg : o.guard = none) (m x v : Operand) (hop : o.op = Op.mapUpdate 23 m x v)
    (b : Nat) (R : Rows) (h : MapAt w b (look R) R.length) (hlen : R.length < 1000) (i : Int) (hi : inI i) (s : Nat) (hs : s < 256) (hm : a.eval m = .map (some b)) (hx : a.eval x = .int .i64 i) (hv : a.eval v = .int .u8 (s : Int))
    (hK : ∀ w', MapAt w' b (look (put R i s)) (put R i s).length → Only b w w' → wpList Try.prog ops Q rest (a.put o.dst undef) w') : wpList Try.prog ops Q (o :: rest) a w := by
  refine wpList_plain hg fun K' hK' => ?_
  obtain ⟨w', hrun, r1, r2⟩ := h.put hi hs (show R.length < maxLen by unfold maxLen; omega)
  unfold Oper.wp
  simp [execOp, hop, hm, hx, hv, hrun, Result.andThen]
  have e1 : putM (look R) i s = look (put R i s) := funext fun j => (put_look R i s j).symm
  rw [e1, ← put_len R i s] at r1
  exact hK' _ _ (hK w' r1 r2)

set_option maxHeartbeats 1000000 in
theorem note_lo (g b : Nat) (n : Int) (hn : n ≠ 0) (R : Rows) (i r : Int) (h1 : i < 1) (w : World) (ht : TallyAt w g b n R) :
    Calls Try.prog 9 #[.pointer (some ⟨g, 0, none⟩), .int .i64 i, .int .i64 r] w fun e w' => e = .returned (.int .i64 2) ∧ w = w' := by
  obtain ⟨H_tl, _, _⟩ := ht
  have N := Lib.hid (none_false g n hn _ w H_tl)
  obtain ⟨⟨c0, c1⟩, f0, f1⟩ := H_tl.two
  clear H_tl hn
  go_enter Try.func9, Try.ntmps9
  go_wp2_with fail
  refine N.out.mono ?_
  rintro e u ⟨rfl, rfl⟩
  go_wp2_with fail
  go_ret
  exact ⟨rfl, rfl⟩

set_option maxHeartbeats 1000000 in
theorem note_hi (g b : Nat) (n : Int) (hn : n ≠ 0) (R : Rows) (i r : Int) (h1 : 1 ≤ i) (h2 : 1099511627776 < i) (w : World) (ht : TallyAt w g b n R) :
    Calls Try.prog 9 #[.pointer (some ⟨g, 0, none⟩), .int .i64 i, .int .i64 r] w fun e w' => e = .returned (.int .i64 2) ∧ w = w' := by
  obtain ⟨H_tl, _, _⟩ := ht
  have N := Lib.hid (none_false g n hn _ w H_tl)
  obtain ⟨⟨c0, c1⟩, f0, f1⟩ := H_tl.two
  clear H_tl hn
  go_enter Try.func9, Try.ntmps9
  go_wp2_with fail
  refine N.out.mono ?_
  rintro e u ⟨rfl, rfl⟩
  go_wp2_with fail
  go_ret
  exact ⟨rfl, rfl⟩

set_option maxHeartbeats 1000000 in
theorem note_rlo (g b : Nat) (n : Int) (hn : n ≠ 0) (R : Rows) (i r : Int) (h1 : 1 ≤ i) (h2 : i ≤ 1099511627776) (h3 : r < 0) (w : World) (ht : TallyAt w g b n R) :
    Calls Try.prog 9 #[.pointer (some ⟨g, 0, none⟩), .int .i64 i, .int .i64 r] w fun e w' => e = .returned (.int .i64 2) ∧ w = w' := by
  obtain ⟨H_tl, _, _⟩ := ht
  have N := Lib.hid (none_false g n hn _ w H_tl)
  obtain ⟨⟨c0, c1⟩, f0, f1⟩ := H_tl.two
  clear H_tl hn
  go_enter Try.func9, Try.ntmps9
  go_wp2_with fail
  refine N.out.mono ?_
  rintro e u ⟨rfl, rfl⟩
  go_wp2_with fail
  go_ret
  exact ⟨rfl, rfl⟩

set_option maxHeartbeats 1000000 in
theorem note_rhi (g b : Nat) (n : Int) (hn : n ≠ 0) (R : Rows) (i r : Int) (h1 : 1 ≤ i) (h2 : i ≤ 1099511627776) (h3 : 0 ≤ r) (h4 : n ≤ r) (w : World) (ht : TallyAt w g b n R) :
    Calls Try.prog 9 #[.pointer (some ⟨g, 0, none⟩), .int .i64 i, .int .i64 r] w fun e w' => e = .returned (.int .i64 2) ∧ w = w' := by
  obtain ⟨H_tl, _, _⟩ := ht
  have N := Lib.hid (none_false g n hn _ w H_tl)
  obtain ⟨⟨c0, c1⟩, f0, f1⟩ := H_tl.two
  clear H_tl hn
  go_enter Try.func9, Try.ntmps9
  go_wp2_with fail
  refine N.out.mono ?_
  rintro e u ⟨rfl, rfl⟩
  go_wp2_with fail
  go_ret
  exact ⟨rfl, rfl⟩

set_option maxHeartbeats 2000000 in
theorem note_full (g b : Nat) (n : Int) (hn : n ≠ 0) (R : Rows) (hR : Ok R) (i r : Int) (h1 : 1 ≤ i) (h2 : i ≤ 1099511627776) (h3 : 0 ≤ r) (h4 : r < n) (hsome : (look R i).isSome = false) (hlen : (64 : Int) ≤ (R.length : Int)) (w : World) (ht : TallyAt w g b n R) :
    Calls Try.prog 9 #[.pointer (some ⟨g, 0, none⟩), .int .i64 i, .int .i64 r] w fun e w' => e = .returned (.int .i64 4) ∧ w = w' := by
  obtain ⟨H_tl, hmp, hne⟩ := ht
  have N := Lib.hid (none_false g n hn _ w H_tl)
  have hin : inI i := ⟨by omega, by omega⟩
  have LK := hmp.lookOk hin
  rw [hsome] at LK
  have LN := hmp.len
  have MP := Lib.hid hmp.drew
  have H2 := Lib.hid H_tl.drew
  have HN := Lib.hid hne
  obtain ⟨⟨c0, c1⟩, f0, f1⟩ := H_tl.two
  have HI := Lib.hid hin
  have hs := ok_lt hR i
  have HA := Lib.hid (add_any (setOf R i) hs r)
  have HL := Lib.hid (addN_lt hs r)
  clear H_tl hn hmp hne hin hsome hR hs
  go_enter Try.func9, Try.ntmps9
  go_wp2_with fail
  refine N.out.mono ?_
  rintro e u ⟨rfl, rfl⟩
  go_wp2_with fail
  go_ret
  exact ⟨rfl, rfl⟩

set_option maxHeartbeats 2000000 in
theorem note_old (g b : Nat) (n : Int) (hn : n ≠ 0) (R : Rows) (hR : Ok R) (i r : Int) (h1 : 1 ≤ i) (h2 : i ≤ 1099511627776) (h3 : 0 ≤ r) (h4 : r < n) (hsome : (look R i).isSome = true) (hlen : R.length ≤ 64) (w : World) (ht : TallyAt w g b n R) :
    Calls Try.prog 9 #[.pointer (some ⟨g, 0, none⟩), .int .i64 i, .int .i64 r] w fun e w' => e = .returned (.int .i64 0) ∧ TallyAt w' g b n (put R i (addN (setOf R i) r)) ∧ Only b w w' := by
  obtain ⟨H_tl, hmp, hne⟩ := ht
  have N := Lib.hid (none_false g n hn _ w H_tl)
  have hin : inI i := ⟨by omega, by omega⟩
  have LK := hmp.lookOk hin
  rw [hsome] at LK
  have LN := hmp.len
  have MP := Lib.hid hmp.drew
  have H2 := Lib.hid H_tl.drew
  have HN := Lib.hid hne
  obtain ⟨⟨c0, c1⟩, f0, f1⟩ := H_tl.two
  have HI := Lib.hid hin
  have hs := ok_lt hR i
  have HA := Lib.hid (add_any (setOf R i) hs r)
  have HL := Lib.hid (addN_lt hs r)
  clear H_tl hn hmp hne hin hsome hR hs
  go_enter Try.func9, Try.ntmps9
  go_wp2_with fail
  refine N.out.mono ?_
  rintro e u ⟨rfl, rfl⟩
  go_wp2_with fail
  refine wp_region_still_tail 13 (by kernel_rfl) (by kernel_rfl) ?_
  simp only [List.take_succ_cons, List.take_zero, List.drop_succ_cons, List.drop_zero]
  clear c0 c1 f0 f1 LK LN
  have HW := Lib.hid ((Only.refl b w).drew)
  change wpStill _ _ w.drew (fun a' => wpList _ _ _ _ a' w.drew) _ _
  generalize w.drew = W2 at *
  obtain ⟨⟨c0, c1⟩, f0, f1⟩ := H2.out.two
  have LK := MP.out.look HI.out
  refine wpStill_step (fun K hK => ?_)
  go_simp
  refine hK _ ?_
  clear hK K
  refine wpStill_step (fun K hK => ?_)
  go_simp
  refine hK _ ?_
  clear hK K
  refine wpStill_step (fun K hK => ?_)
  go_simp
  refine hK _ ?_
  clear hK K
  refine wpStill_step (fun K hK => ?_)
  go_simp
  refine hK _ ?_
  clear hK K
  refine wpStill_step (fun K hK => ?_)
  go_simp
  refine hK _ ?_
  clear hK K
  refine wpStill_step (fun K hK => ?_)
  go_simp
  refine hK _ ?_
  clear hK K
  refine wpStill_step (fun K hK => ?_)
  go_simp
  refine hK _ ?_
  clear hK K
  refine wpStill_step (fun K hK => ?_)
  go_simp
  refine hK _ ?_
  clear hK K
  refine wpStill_step (fun K hK => ?_)
  go_simp
  refine hK _ ?_
  clear hK K
  refine wpStill_step (fun K hK => ?_)
  go_simp
  refine hK _ ?_
  clear hK K
  refine wpStill_step (fun K hK => ?_)
  go_simp
  refine hK _ ?_
  clear hK K
  refine wpStill_step (fun K hK => ?_)
  go_simp
  refine hK _ ?_
  clear hK K
  refine wpStill_step (fun K hK => ?_)
  go_simp
  refine ⟨_, (HA.out _).mono (fun e w' h => ⟨h.1, h.2.symm⟩), hK _ ?_⟩
  clear hK K
  refine wpStill_nil ?_
  have hlen' : R.length < 1000 := by omega
  go_wp2_with (with_reducible refine wpList_put rfl _ _ _ rfl b R MP.out hlen' i HI.out _ HL.out rfl rfl rfl ?_)
  intro w9 hmp9 ho9
  have M9 := Lib.hid hmp9
  have O9 := Lib.hid ho9
  clear hmp9 ho9
  go_wp2_with fail
  go_ret
  exact ⟨rfl, ⟨O9.out.whole H2.out HN.out, M9.out, HN.out⟩, HW.out.trans O9.out⟩

set_option maxHeartbeats 2000000 in
theorem note_new (g b : Nat) (n : Int) (hn : n ≠ 0) (R : Rows) (hR : Ok R) (i r : Int) (h1 : 1 ≤ i) (h2 : i ≤ 1099511627776) (h3 : 0 ≤ r) (h4 : r < n) (hsome : (look R i).isSome = false) (hlen : (R.length : Int) < 64) (w : World) (ht : TallyAt w g b n R) :
    Calls Try.prog 9 #[.pointer (some ⟨g, 0, none⟩), .int .i64 i, .int .i64 r] w fun e w' => e = .returned (.int .i64 0) ∧ TallyAt w' g b n (put R i (addN (setOf R i) r)) ∧ Only b w w' := by
  obtain ⟨H_tl, hmp, hne⟩ := ht
  have N := Lib.hid (none_false g n hn _ w H_tl)
  have hin : inI i := ⟨by omega, by omega⟩
  have LK := hmp.lookOk hin
  rw [hsome] at LK
  have LN := hmp.len
  have MP := Lib.hid hmp.drew
  have H2 := Lib.hid H_tl.drew
  have HN := Lib.hid hne
  obtain ⟨⟨c0, c1⟩, f0, f1⟩ := H_tl.two
  have HI := Lib.hid hin
  have hs := ok_lt hR i
  have HA := Lib.hid (add_any (setOf R i) hs r)
  have HL := Lib.hid (addN_lt hs r)
  clear H_tl hn hmp hne hin hsome hR hs
  go_enter Try.func9, Try.ntmps9
  go_wp2_with fail
  refine N.out.mono ?_
  rintro e u ⟨rfl, rfl⟩
  go_wp2_with fail
  refine wp_region_still_tail 13 (by kernel_rfl) (by kernel_rfl) ?_
  simp only [List.take_succ_cons, List.take_zero, List.drop_succ_cons, List.drop_zero]
  clear c0 c1 f0 f1 LK LN
  have HW := Lib.hid ((Only.refl b w).drew)
  change wpStill _ _ w.drew (fun a' => wpList _ _ _ _ a' w.drew) _ _
  generalize w.drew = W2 at *
  obtain ⟨⟨c0, c1⟩, f0, f1⟩ := H2.out.two
  have LK := MP.out.look HI.out
  refine wpStill_step (fun K hK => ?_)
  go_simp
  refine hK _ ?_
  clear hK K
  refine wpStill_step (fun K hK => ?_)
  go_simp
  refine hK _ ?_
  clear hK K
  refine wpStill_step (fun K hK => ?_)
  go_simp
  refine hK _ ?_
  clear hK K
  refine wpStill_step (fun K hK => ?_)
  go_simp
  refine hK _ ?_
  clear hK K
  refine wpStill_step (fun K hK => ?_)
  go_simp
  refine hK _ ?_
  clear hK K
  refine wpStill_step (fun K hK => ?_)
  go_simp
  refine hK _ ?_
  clear hK K
  refine wpStill_step (fun K hK => ?_)
  go_simp
  refine hK _ ?_
  clear hK K
  refine wpStill_step (fun K hK => ?_)
  go_simp
  refine hK _ ?_
  clear hK K
  refine wpStill_step (fun K hK => ?_)
  go_simp
  refine hK _ ?_
  clear hK K
  refine wpStill_step (fun K hK => ?_)
  go_simp
  refine hK _ ?_
  clear hK K
  refine wpStill_step (fun K hK => ?_)
  go_simp
  refine hK _ ?_
  clear hK K
  refine wpStill_step (fun K hK => ?_)
  go_simp
  refine hK _ ?_
  clear hK K
  refine wpStill_step (fun K hK => ?_)
  go_simp
  refine ⟨_, (HA.out _).mono (fun e w' h => ⟨h.1, h.2.symm⟩), hK _ ?_⟩
  clear hK K
  refine wpStill_nil ?_
  have hlen' : R.length < 1000 := by omega
  go_wp2_with (with_reducible refine wpList_put rfl _ _ _ rfl b R MP.out hlen' i HI.out _ HL.out rfl rfl rfl ?_)
  intro w9 hmp9 ho9
  have M9 := Lib.hid hmp9
  have O9 := Lib.hid ho9
  clear hmp9 ho9
  go_wp2_with fail
  go_ret
  exact ⟨rfl, ⟨O9.out.whole H2.out HN.out, M9.out, HN.out⟩, HW.out.trans O9.out⟩


theorem enough_zero (n : Int) : enoughB 0 n = false := by
  unfold enoughB
  have h : belowN 0 n = 0 := by unfold belowN; split <;> simp
  have hz : (membersN 0 n).length = 0 := by unfold membersN; rw [h, bits_zero]; rfl
  rw [hz]
  by_cases h : 0 < mostN n
  · rw [decide_eq_false (by omega : ¬ mostN n ≤ 0), Bool.and_false]
  · rw [decide_eq_false h, Bool.false_and]
/-- Up to u all slots behind f are enough, and the next one is not. -/
def UptoIs (R : Rows) (n f u : Int) : Prop := f ≤ u ∧ (∀ j, f < j → j ≤ u → enoughB (setOf R j) n = true) ∧ enoughB (setOf R (u + 1)) n = false
theorem UptoIs.one {R : Rows} {n f u v : Int} (h : UptoIs R n f u) (k : UptoIs R n f v) : u = v := by
  obtain ⟨h1, h2, h3⟩ := h
  obtain ⟨k1, k2, k3⟩ := k
  rcases Int.lt_trichotomy u v with c | c | c
  · have := k2 (u + 1) (by omega) (by omega); rw [h3] at this; cases this
  · exact c
  · have := h2 (v + 1) (by omega) (by omega); rw [k3] at this; cases this
theorem enough_in {R : Rows} (hR : Ok R) {n i : Int} (h : enoughB (setOf R i) n = true) : 1 ≤ i ∧ i ≤ 1099511627776 := by
  apply ok_in hR
  cases hl : look R i with
  | none =>
    have : setOf R i = 0 := by unfold setOf; rw [hl]; rfl
    rw [this, enough_zero] at h; cases h
  | some x => rfl

set_option maxHeartbeats 1000000 in
theorem upto_lo (g b : Nat) (n : Int) (hn : n ≠ 0) (R : Rows) (f : Int) (h1 : f < 0) (w : World) (ht : TallyAt w g b n R) :
    Calls Try.prog 11 #[.pointer (some ⟨g, 0, none⟩), .int .i64 f] w fun e w' => e = .returned (.int .i64 f) ∧ w = w' := by
  obtain ⟨H_tl, _, _⟩ := ht
  have N := Lib.hid (none_false g n hn _ w H_tl)
  clear H_tl hn
  go_enter Try.func11, Try.ntmps11
  go_wp2_with fail
  refine N.out.mono ?_
  rintro e u ⟨rfl, rfl⟩
  go_wp2_with fail
  go_ret
  exact ⟨rfl, rfl⟩

set_option maxHeartbeats 1000000 in
theorem upto_hi (g b : Nat) (n : Int) (hn : n ≠ 0) (R : Rows) (f : Int) (h1 : 0 ≤ f) (h2 : 1099511627776 < f) (w : World) (ht : TallyAt w g b n R) :
    Calls Try.prog 11 #[.pointer (some ⟨g, 0, none⟩), .int .i64 f] w fun e w' => e = .returned (.int .i64 f) ∧ w = w' := by
  obtain ⟨H_tl, _, _⟩ := ht
  have N := Lib.hid (none_false g n hn _ w H_tl)
  clear H_tl hn
  go_enter Try.func11, Try.ntmps11
  go_wp2_with fail
  refine N.out.mono ?_
  rintro e u ⟨rfl, rfl⟩
  go_wp2_with fail
  go_ret
  exact ⟨rfl, rfl⟩

set_option maxHeartbeats 4000000 in
theorem upto_any (g b : Nat) (n : Int) (hn : n ≠ 0) (R : Rows) (hR : Ok R) (f : Int) (h1 : 0 ≤ f) (h2 : f ≤ 1099511627776) (w : World) (ht : TallyAt w g b n R) :
    Calls Try.prog 11 #[.pointer (some ⟨g, 0, none⟩), .int .i64 f] w fun e w' => (∃ u, e = .returned (.int .i64 u) ∧ UptoIs R n f u) ∧ Below w.heap.size w w' := by
  obtain ⟨H_tl, hmp, hne⟩ := ht
  have N := Lib.hid (none_false g n hn _ w H_tl)
  have MP := Lib.hid hmp
  have KT := Lib.hid H_tl
  have HOK := Lib.hid hR
  clear hmp hn hR
  go_enter Try.func11, Try.ntmps11
  go_wp2_with fail
  refine N.out.mono ?_
  rintro e u ⟨rfl, rfl⟩
  clear H_tl
  go_wp2_with fail
  go_loopw [1] (fun fv wr => ∃ v : Int, fv = .int .i64 v ∧ f ≤ v ∧ v ≤ 1099511627776 ∧ (∀ j, f < j → j ≤ v → enoughB (setOf R j) n = true) ∧ Below w.heap.size w wr) (fun fv _ => (1099511627776 - intOf fv).toNat)
  case atStart => exact ⟨f, rfl, by omega, by omega, fun j a b => by omega, Below.refl _ _⟩
  case round =>
    obtain ⟨v, rfl, hv1, hv2, hall, HB⟩ := hrel
    have H_tl := KT.out.below HB KT.out.lt
    have hin : inI (v + 1) := ⟨by omega, by omega⟩
    have HI := Lib.hid hin
    have HA := Lib.hid hall
    have hs := ok_lt HOK.out (v + 1)
    have EN := enough_any (setOf R (v + 1)) hs n
    have hw : IntKind.i64.wrap (v + 1) = v + 1 := IntWalk.i64_in _ (by omega)
    have hei := @enough_in R HOK.out n (v + 1)
    clear hin hall hs
    cases hq : enoughB (setOf R (v + 1)) n
    · rw [hq] at EN
      have HQ := Lib.hid hq
      have EN := Lib.hid EN
      clear hq hei
      have z_wr := HB.size
      have c_tl_0 := H_tl.cell 0; have f_tl_0 := H_tl.free 0; have c_tl_1 := H_tl.cell 1; have f_tl_1 := H_tl.free 1
      simp only [List.set_cons_zero, List.set_cons_succ, List.getElem?_cons_zero, List.getElem?_cons_succ] at c_tl_0 c_tl_1
      have l_tl := H_tl.lt; have K_tl := Lib.hid H_tl; clear H_tl
      have KB := Lib.hid HB; clear HB
      go_wp2_with fail
      have SOF : Hid (∀ u : World, Hid (Known u [(g, 25, [.int .i64 n, .map (some b)])] ∧ Below w.heap.size w u) → (fun u : World => (u.cell? ⟨g, 0, none⟩ = some (.int .i64 n) ∧ u.cell? ⟨g, 1, none⟩ = some (.map (some b)) ∧ (Instr.lookup 23 (.map (some b)) (.int .i64 (v + 1)) false).run Try.prog u = .ok (.int .u8 (setOf R (v + 1) : Nat)) u) ∧ Hid (Known u [(g, 25, [.int .i64 n, .map (some b)])] ∧ Below w.heap.size w u)) u) := fun u h => ⟨⟨(h.out.1.head.cell 0), (h.out.1.head.cell 1), ((MP.out.below h.out.2 MP.out.lt).look HI.out)⟩, h⟩
      refine wp_region_held_drew (S := (fun u : World => (u.cell? ⟨g, 0, none⟩ = some (.int .i64 n) ∧ u.cell? ⟨g, 1, none⟩ = some (.map (some b)) ∧ (Instr.lookup 23 (.map (some b)) (.int .i64 (v + 1)) false).run Try.prog u = .ok (.int .u8 (setOf R (v + 1) : Nat)) u) ∧ Hid (Known u [(g, 25, [.int .i64 n, .map (some b)])] ∧ Below w.heap.size w u))) (by kernel_rfl) (SOF.out _ ⟨(Known.add (K_tl.out.drew) (Known.nil _)), (KB.out.drew)⟩) (fun HS => ?_)
      refine handTake 0 (some 16) ?_ rfl rfl (by kernel_rfl) (by kernel_rfl) (by kernel_rfl) (fun _ _ _ h => h) (by rfl) ?_ HS ?_
      rotate_left
      · (intro u hu; (try dsimp only at hu); go_simp; try with_reducible rfl)
      simp only [Act.put, List.setIfInBounds_toArray, List.set_cons_zero, List.set_cons_succ]
      refine handTake 1 (some 17) ?_ rfl rfl (by kernel_rfl) (by kernel_rfl) (by kernel_rfl) (fun _ _ _ h => h) (by rfl) ?_ HS ?_
      rotate_left
      · (intro u hu; (try dsimp only at hu); go_simp; try with_reducible rfl)
      simp only [Act.put, List.setIfInBounds_toArray, List.set_cons_zero, List.set_cons_succ]
      refine handTake 2 (some 18) ?_ rfl rfl (by kernel_rfl) (by kernel_rfl) (by kernel_rfl) (fun _ _ _ h => h) (by rfl) ?_ HS ?_
      rotate_left
      · (intro u hu; (try dsimp only at hu); go_simp; try with_reducible rfl)
      simp only [Act.put, List.setIfInBounds_toArray, List.set_cons_zero, List.set_cons_succ]
      refine handTake 3 (some 19) ?_ rfl rfl (by kernel_rfl) (by kernel_rfl) (by kernel_rfl) (fun _ _ _ h => h) (by rfl) ?_ HS ?_
      rotate_left
      · (intro u hu; (try dsimp only at hu); go_simp; try with_reducible rfl)
      simp only [Act.put, List.setIfInBounds_toArray, List.set_cons_zero, List.set_cons_succ]
      refine handTake 4 (some 20) ?_ rfl rfl (by kernel_rfl) (by kernel_rfl) (by kernel_rfl) (fun _ _ _ h => h) (by rfl) ?_ HS ?_
      rotate_left
      · (intro u hu; (try dsimp only at hu); go_simp; try with_reducible rfl)
      simp only [Act.put, List.setIfInBounds_toArray, List.set_cons_zero, List.set_cons_succ]
      refine handTake 5 (some 21) ?_ rfl rfl (by kernel_rfl) (by kernel_rfl) (by kernel_rfl) (fun _ _ _ h => h) (by rfl) ?_ HS ?_
      rotate_left
      · (intro u hu; (try dsimp only at hu); go_simp; try with_reducible rfl)
      simp only [Act.put, List.setIfInBounds_toArray, List.set_cons_zero, List.set_cons_succ]
      refine handTake 6 (some 22) ?_ rfl rfl (by kernel_rfl) (by kernel_rfl) (by kernel_rfl) (fun _ _ _ h => h) (by rfl) ?_ HS ?_
      rotate_left
      · (intro u hu; (try dsimp only at hu); go_simp; try with_reducible rfl)
      simp only [Act.put, List.setIfInBounds_toArray, List.set_cons_zero, List.set_cons_succ]
      refine handTake 7 (some 23) ?_ rfl rfl (by kernel_rfl) (by kernel_rfl) (by kernel_rfl) (fun _ _ _ h => h) (by rfl) ?_ HS ?_
      rotate_left
      · (intro u hu; (try dsimp only at hu); go_simp; try with_reducible rfl)
      simp only [Act.put, List.setIfInBounds_toArray, List.set_cons_zero, List.set_cons_succ]
      refine handTake 8 (some 24) ?_ rfl rfl (by kernel_rfl) (by kernel_rfl) (by kernel_rfl) (fun _ _ _ h => h) (by rfl) ?_ HS ?_
      rotate_left
      · (intro u hu; (try dsimp only at hu); go_simp; try with_reducible rfl)
      simp only [Act.put, List.setIfInBounds_toArray, List.set_cons_zero, List.set_cons_succ]
      refine handTake 9 (some 25) ?_ rfl rfl (by kernel_rfl) (by kernel_rfl) (by kernel_rfl) (fun _ _ _ h => h) (by rfl) ?_ HS ?_
      rotate_left
      · (intro u hu; (try dsimp only at hu); go_simp; try with_reducible rfl)
      simp only [Act.put, List.setIfInBounds_toArray, List.set_cons_zero, List.set_cons_succ]
      refine handTake 10 (some 26) ?_ rfl rfl (by kernel_rfl) (by kernel_rfl) (by kernel_rfl) (fun _ _ _ h => h) (by rfl) ?_ HS ?_
      rotate_left
      · (intro u hu; (try dsimp only at hu); go_simp; try with_reducible rfl)
      simp only [Act.put, List.setIfInBounds_toArray, List.set_cons_zero, List.set_cons_succ]
      refine wpAnyH_ready (rs := [11]) (by kernel_rfl) (by simp) ?_
      refine AllReadyH.cons rfl (fun K hK => ?_) AllReadyH.nil
      go_simp
      clear HS
      refine (EN.out _).mono ?_
      rintro e51 u51 ⟨rfl, rfl⟩
      go_wp2_with fail
      refine hK.out _ _ (SOF.out _ ⟨(Known.add (K_tl.out.drew) (Known.nil _)), (KB.out.drew)⟩) (fun HS => ?_)
      clear hK
      try simp only [Act.put, List.setIfInBounds_toArray, List.set_cons_zero, List.set_cons_succ]
      refine wpAnyH_done (by kernel_rfl) ?_ _
      clear HS SOF
      go_wp2_with fail
      go_ret
      exact ⟨⟨v, rfl, hv1, HA.out, HQ.out⟩, (KB.out.drew)⟩
    · rw [hq] at EN
      have hle := hei hq
      have HQ := Lib.hid hq
      have EN := Lib.hid EN
      clear hq hei
      obtain ⟨hle1, hle2⟩ := hle
      have z_wr := HB.size
      have c_tl_0 := H_tl.cell 0; have f_tl_0 := H_tl.free 0; have c_tl_1 := H_tl.cell 1; have f_tl_1 := H_tl.free 1
      simp only [List.set_cons_zero, List.set_cons_succ, List.getElem?_cons_zero, List.getElem?_cons_succ] at c_tl_0 c_tl_1
      have l_tl := H_tl.lt; have K_tl := Lib.hid H_tl; clear H_tl
      have KB := Lib.hid HB; clear HB
      go_wp2_with fail
      have SOF : Hid (∀ u : World, Hid (Known u [(g, 25, [.int .i64 n, .map (some b)])] ∧ Below w.heap.size w u) → (fun u : World => (u.cell? ⟨g, 0, none⟩ = some (.int .i64 n) ∧ u.cell? ⟨g, 1, none⟩ = some (.map (some b)) ∧ (Instr.lookup 23 (.map (some b)) (.int .i64 (v + 1)) false).run Try.prog u = .ok (.int .u8 (setOf R (v + 1) : Nat)) u) ∧ Hid (Known u [(g, 25, [.int .i64 n, .map (some b)])] ∧ Below w.heap.size w u)) u) := fun u h => ⟨⟨(h.out.1.head.cell 0), (h.out.1.head.cell 1), ((MP.out.below h.out.2 MP.out.lt).look HI.out)⟩, h⟩
      refine wp_region_held_drew (S := (fun u : World => (u.cell? ⟨g, 0, none⟩ = some (.int .i64 n) ∧ u.cell? ⟨g, 1, none⟩ = some (.map (some b)) ∧ (Instr.lookup 23 (.map (some b)) (.int .i64 (v + 1)) false).run Try.prog u = .ok (.int .u8 (setOf R (v + 1) : Nat)) u) ∧ Hid (Known u [(g, 25, [.int .i64 n, .map (some b)])] ∧ Below w.heap.size w u))) (by kernel_rfl) (SOF.out _ ⟨(Known.add (K_tl.out.drew) (Known.nil _)), (KB.out.drew)⟩) (fun HS => ?_)
      refine handTake 0 (some 16) ?_ rfl rfl (by kernel_rfl) (by kernel_rfl) (by kernel_rfl) (fun _ _ _ h => h) (by rfl) ?_ HS ?_
      rotate_left
      · (intro u hu; (try dsimp only at hu); go_simp; try with_reducible rfl)
      simp only [Act.put, List.setIfInBounds_toArray, List.set_cons_zero, List.set_cons_succ]
      refine handTake 1 (some 17) ?_ rfl rfl (by kernel_rfl) (by kernel_rfl) (by kernel_rfl) (fun _ _ _ h => h) (by rfl) ?_ HS ?_
      rotate_left
      · (intro u hu; (try dsimp only at hu); go_simp; try with_reducible rfl)
      simp only [Act.put, List.setIfInBounds_toArray, List.set_cons_zero, List.set_cons_succ]
      refine handTake 2 (some 18) ?_ rfl rfl (by kernel_rfl) (by kernel_rfl) (by kernel_rfl) (fun _ _ _ h => h) (by rfl) ?_ HS ?_
      rotate_left
      · (intro u hu; (try dsimp only at hu); go_simp; try with_reducible rfl)
      simp only [Act.put, List.setIfInBounds_toArray, List.set_cons_zero, List.set_cons_succ]
      refine handTake 3 (some 19) ?_ rfl rfl (by kernel_rfl) (by kernel_rfl) (by kernel_rfl) (fun _ _ _ h => h) (by rfl) ?_ HS ?_
      rotate_left
      · (intro u hu; (try dsimp only at hu); go_simp; try with_reducible rfl)
      simp only [Act.put, List.setIfInBounds_toArray, List.set_cons_zero, List.set_cons_succ]
      refine handTake 4 (some 20) ?_ rfl rfl (by kernel_rfl) (by kernel_rfl) (by kernel_rfl) (fun _ _ _ h => h) (by rfl) ?_ HS ?_
      rotate_left
      · (intro u hu; (try dsimp only at hu); go_simp; try with_reducible rfl)
      simp only [Act.put, List.setIfInBounds_toArray, List.set_cons_zero, List.set_cons_succ]
      refine handTake 5 (some 21) ?_ rfl rfl (by kernel_rfl) (by kernel_rfl) (by kernel_rfl) (fun _ _ _ h => h) (by rfl) ?_ HS ?_
      rotate_left
      · (intro u hu; (try dsimp only at hu); go_simp; try with_reducible rfl)
      simp only [Act.put, List.setIfInBounds_toArray, List.set_cons_zero, List.set_cons_succ]
      refine handTake 6 (some 22) ?_ rfl rfl (by kernel_rfl) (by kernel_rfl) (by kernel_rfl) (fun _ _ _ h => h) (by rfl) ?_ HS ?_
      rotate_left
      · (intro u hu; (try dsimp only at hu); go_simp; try with_reducible rfl)
      simp only [Act.put, List.setIfInBounds_toArray, List.set_cons_zero, List.set_cons_succ]
      refine handTake 7 (some 23) ?_ rfl rfl (by kernel_rfl) (by kernel_rfl) (by kernel_rfl) (fun _ _ _ h => h) (by rfl) ?_ HS ?_
      rotate_left
      · (intro u hu; (try dsimp only at hu); go_simp; try with_reducible rfl)
      simp only [Act.put, List.setIfInBounds_toArray, List.set_cons_zero, List.set_cons_succ]
      refine handTake 8 (some 24) ?_ rfl rfl (by kernel_rfl) (by kernel_rfl) (by kernel_rfl) (fun _ _ _ h => h) (by rfl) ?_ HS ?_
      rotate_left
      · (intro u hu; (try dsimp only at hu); go_simp; try with_reducible rfl)
      simp only [Act.put, List.setIfInBounds_toArray, List.set_cons_zero, List.set_cons_succ]
      refine handTake 9 (some 25) ?_ rfl rfl (by kernel_rfl) (by kernel_rfl) (by kernel_rfl) (fun _ _ _ h => h) (by rfl) ?_ HS ?_
      rotate_left
      · (intro u hu; (try dsimp only at hu); go_simp; try with_reducible rfl)
      simp only [Act.put, List.setIfInBounds_toArray, List.set_cons_zero, List.set_cons_succ]
      refine handTake 10 (some 26) ?_ rfl rfl (by kernel_rfl) (by kernel_rfl) (by kernel_rfl) (fun _ _ _ h => h) (by rfl) ?_ HS ?_
      rotate_left
      · (intro u hu; (try dsimp only at hu); go_simp; try with_reducible rfl)
      simp only [Act.put, List.setIfInBounds_toArray, List.set_cons_zero, List.set_cons_succ]
      refine wpAnyH_ready (rs := [11]) (by kernel_rfl) (by simp) ?_
      refine AllReadyH.cons rfl (fun K hK => ?_) AllReadyH.nil
      go_simp
      clear HS
      refine (EN.out _).mono ?_
      rintro e51 u51 ⟨rfl, rfl⟩
      go_wp2_with fail
      refine hK.out _ _ (SOF.out _ ⟨(Known.add (K_tl.out.drew) (Known.nil _)), (KB.out.drew)⟩) (fun HS => ?_)
      clear hK
      try simp only [Act.put, List.setIfInBounds_toArray, List.set_cons_zero, List.set_cons_succ]
      refine wpAnyH_done (by kernel_rfl) ?_ _
      clear HS SOF
      go_wp2_with fail
      go_roundw
      case rel => exact ⟨v + 1, rfl, by omega, by omega, fun j a b => by
        by_cases e : j = v + 1
        · subst e; exact HQ.out
        · exact HA.out j a (by omega), (KB.out.drew)⟩
      case measure => simp [intOf]; omega

end Ta
end Go.Proofs.Ytmpcjiacgbcpdaa
