/- Copies of reports, and that they are the same. -/
import Derived.Test.YtpgejomhcojppaaChooseEql
import Derived.Test.YtpgejomhcojppaaChooseRef
set_option linter.unusedSimpArgs false
set_option linter.unusedVariables false
namespace Go.Proofs.Ytpgejomhcojppaa
open Go.RowKit
namespace Ch
open Bl
set_option maxHeartbeats 1000000 in
theorem copy_is (L : List Rp) (v : Value) (B : Nat) (w : World) (hB : B ≤ w.heap.size) (hr : Row w B v L.length (L.flatMap rpC)) (hL : L.length ≤ 500) :
    Calls Try.prog 15 #[v] w fun e w' => ∃ v', e = .returned v' ∧ w'.ownsRow w.heap.size 33 11 v' L.length (L.flatMap rpC) ∧ Below w.heap.size w w' := by
  obtain ⟨A, c, rfl, _, _⟩ := hr.slice
  obtain ⟨i0, hi, hz0, hz1, hz2⟩ := info_parts info_rp
  have HR := Lib.hid hr
  have HL := Lib.hid (flat_len rpC_len L)
  have HX6 : Hid (∀ u ∈ L.flatMap rpC, u.oneCell' = true) := by
    intro u hu
    obtain ⟨x, _, hx⟩ := List.mem_flatMap.1 hu
    exact rpC_one x u hx
  have HM0 : Hid (w.ownsRow w.heap.size 33 11 (.slice none 0 0) 0 []) := ⟨rfl, .inl ⟨rfl, rfl⟩⟩
  generalize hM : L.length = M at *
  clear hr
  go_enter Try.func15, Try.ntmps15
  go_wp2_with (at_builtin
               refine wpList_append_foot _ rfl (.tmp 4) (.tmp 5) _ rfl w.heap.size 33 i0 _ 11 112 Try.underlying22 hi hz0 hz1 hz2 rfl (by decide) _ 0 [] rfl HM0.out B _ M (L.flatMap rpC) rfl HR.out HL.out HX6.out (by unfold maxLen; omega) (by omega) (by simp) ?_
               intro v7 w7 hown7 hg7 hv7
               have HB7 := Lib.hid (below_grown _ HM0.out (by simp) hg7)
               have HO7 := Lib.hid hown7
               clear hown7 hg7 hv7)
  go_ret
  refine ⟨_, rfl, ?_, HB7.out⟩
  have h := HO7.out
  rw [Nat.zero_add] at h
  exact h
theorem cell_at {w u : World} {b o i j : Nat} {x : Value} (hu : Below w.heap.size w u) (hb : b < w.heap.size) (h : w.cell? ⟨b, o + (i + j), none⟩ = some x) : u.cell? ⟨b, o + i + j, none⟩ = some x := by
  rw [Nat.add_assoc]; exact (hu.cell (p := ⟨b, o + (i + j), none⟩) hb).trans h
attribute [local go_sem ↓] neq_rp
set_option maxHeartbeats 2000000 in
theorem same_is (L : List Rp) (v v2 : Value) (B B2 : Nat) (w : World) (hB : B ≤ w.heap.size) (hr : Row w B v L.length (L.flatMap rpC)) (hB2 : B2 ≤ w.heap.size) (hr2 : Row w B2 v2 L.length (L.flatMap rpC)) :
    Calls Try.prog 17 #[v, v2] w fun e w' => e = .returned (.bool true) ∧ Below w.heap.size w w' := by
  obtain ⟨A, c, rfl, _, _⟩ := hr.slice
  obtain ⟨A2, c2, rfl, _, _⟩ := hr2.slice
  have hbd := hr.bound
  have HR := Lib.hid hr
  have HR2 := Lib.hid hr2
  obtain ⟨N, hN⟩ : ∃ N, L.length = N := ⟨_, rfl⟩
  have HN := Lib.hid hN
  rw [hN] at hbd ⊢
  clear hr hr2 hN
  go_enter Try.func17, Try.ntmps17
  go_wp2_with fail
  go_loopw [5] (fun iv wr => ∃ k : Nat, k ≤ N ∧ iv = .int .i64 k ∧ Below w.heap.size w wr) (fun iv _ => N - (intOf iv).toNat)
  case atStart => exact ⟨0, Nat.zero_le _, rfl, Below.refl _ _⟩
  case round =>
    obtain ⟨k, hk, rfl, hx⟩ := hrel
    have zr := hx.size
    by_cases hlt : k < N
    · have hl : k < L.length := by rw [HN.out]; exact hlt
      have h1 := HR.out
      have h2 := HR2.out
      obtain ⟨b, o, rfl, hb, hx1⟩ := h1.elem rpC_len (by omega) hl
      obtain ⟨b2, o2, rfl, hb2, hx2⟩ := h2.elem rpC_len (by omega) hl
      have SOF : Hid (∀ u : World, Below w.heap.size w u → (u.cell? ⟨b, o + k * 11, none⟩ = some (.int .i64 L[k].ix) ∧ u.cell? ⟨b, o + k * 11 + 1, none⟩ = some (.int .u8 (L[k].st : Nat)) ∧ u.cell? ⟨b, o + k * 11 + 2, none⟩ = some (.int .i64 L[k].b.r) ∧ u.cell? ⟨b, o + k * 11 + 3, none⟩ = some (.int .i64 L[k].b.p) ∧ u.cell? ⟨b, o + k * 11 + 4, none⟩ = some (.int .u8 (L[k].e.k : Nat)) ∧ u.cell? ⟨b, o + k * 11 + 5, none⟩ = some (.int .i64 L[k].e.cl) ∧ u.cell? ⟨b, o + k * 11 + 6, none⟩ = some (.int .i64 L[k].e.sq) ∧ u.cell? ⟨b, o + k * 11 + 7, none⟩ = some (.int .u8 (L[k].e.op.k : Nat)) ∧ u.cell? ⟨b, o + k * 11 + 8, none⟩ = some (.string L[k].e.op.a) ∧ u.cell? ⟨b, o + k * 11 + 9, none⟩ = some (.string L[k].e.op.b) ∧ u.cell? ⟨b, o + k * 11 + 10, none⟩ = some (.string L[k].e.op.c) ∧ u.cell? ⟨b2, o2 + k * 11, none⟩ = some (.int .i64 L[k].ix) ∧ u.cell? ⟨b2, o2 + k * 11 + 1, none⟩ = some (.int .u8 (L[k].st : Nat)) ∧ u.cell? ⟨b2, o2 + k * 11 + 2, none⟩ = some (.int .i64 L[k].b.r) ∧ u.cell? ⟨b2, o2 + k * 11 + 3, none⟩ = some (.int .i64 L[k].b.p) ∧ u.cell? ⟨b2, o2 + k * 11 + 4, none⟩ = some (.int .u8 (L[k].e.k : Nat)) ∧ u.cell? ⟨b2, o2 + k * 11 + 5, none⟩ = some (.int .i64 L[k].e.cl) ∧ u.cell? ⟨b2, o2 + k * 11 + 6, none⟩ = some (.int .i64 L[k].e.sq) ∧ u.cell? ⟨b2, o2 + k * 11 + 7, none⟩ = some (.int .u8 (L[k].e.op.k : Nat)) ∧ u.cell? ⟨b2, o2 + k * 11 + 8, none⟩ = some (.string L[k].e.op.a) ∧ u.cell? ⟨b2, o2 + k * 11 + 9, none⟩ = some (.string L[k].e.op.b) ∧ u.cell? ⟨b2, o2 + k * 11 + 10, none⟩ = some (.string L[k].e.op.c))) := fun u hu => ⟨cell_at hu (Nat.lt_of_lt_of_le hb hB) (hx1 0 _ rfl), cell_at hu (Nat.lt_of_lt_of_le hb hB) (hx1 1 _ rfl), cell_at hu (Nat.lt_of_lt_of_le hb hB) (hx1 2 _ rfl), cell_at hu (Nat.lt_of_lt_of_le hb hB) (hx1 3 _ rfl), cell_at hu (Nat.lt_of_lt_of_le hb hB) (hx1 4 _ rfl), cell_at hu (Nat.lt_of_lt_of_le hb hB) (hx1 5 _ rfl), cell_at hu (Nat.lt_of_lt_of_le hb hB) (hx1 6 _ rfl), cell_at hu (Nat.lt_of_lt_of_le hb hB) (hx1 7 _ rfl), cell_at hu (Nat.lt_of_lt_of_le hb hB) (hx1 8 _ rfl), cell_at hu (Nat.lt_of_lt_of_le hb hB) (hx1 9 _ rfl), cell_at hu (Nat.lt_of_lt_of_le hb hB) (hx1 10 _ rfl), cell_at hu (Nat.lt_of_lt_of_le hb2 hB2) (hx2 0 _ rfl), cell_at hu (Nat.lt_of_lt_of_le hb2 hB2) (hx2 1 _ rfl), cell_at hu (Nat.lt_of_lt_of_le hb2 hB2) (hx2 2 _ rfl), cell_at hu (Nat.lt_of_lt_of_le hb2 hB2) (hx2 3 _ rfl), cell_at hu (Nat.lt_of_lt_of_le hb2 hB2) (hx2 4 _ rfl), cell_at hu (Nat.lt_of_lt_of_le hb2 hB2) (hx2 5 _ rfl), cell_at hu (Nat.lt_of_lt_of_le hb2 hB2) (hx2 6 _ rfl), cell_at hu (Nat.lt_of_lt_of_le hb2 hB2) (hx2 7 _ rfl), cell_at hu (Nat.lt_of_lt_of_le hb2 hB2) (hx2 8 _ rfl), cell_at hu (Nat.lt_of_lt_of_le hb2 hB2) (hx2 9 _ rfl), cell_at hu (Nat.lt_of_lt_of_le hb2 hB2) (hx2 10 _ rfl)⟩
      have HB := Lib.hid hx
      clear hx1 hx2 hx h1 h2
      generalize L[k] = x at SOF
      obtain ⟨xi, xs, ⟨xr, xp⟩, ⟨ek, ec, eq, ⟨ok, oa, ob, oc⟩⟩⟩ := x
      dsimp only at SOF
      have SOF : Hid (∀ u : World, Below w.heap.size w u → (u.cell? ⟨b, o + k * 11, none⟩ = some (.int .i64 xi) ∧ u.cell? ⟨b, o + k * 11 + 1, none⟩ = some (.int .u8 (xs : Nat)) ∧ u.cell? ⟨b, o + k * 11 + 2, none⟩ = some (.int .i64 xr) ∧ u.cell? ⟨b, o + k * 11 + 3, none⟩ = some (.int .i64 xp) ∧ u.cell? ⟨b, o + k * 11 + 4, none⟩ = some (.int .u8 (ek : Nat)) ∧ u.cell? ⟨b, o + k * 11 + 5, none⟩ = some (.int .i64 ec) ∧ u.cell? ⟨b, o + k * 11 + 6, none⟩ = some (.int .i64 eq) ∧ u.cell? ⟨b, o + k * 11 + 7, none⟩ = some (.int .u8 (ok : Nat)) ∧ u.cell? ⟨b, o + k * 11 + 8, none⟩ = some (.string oa) ∧ u.cell? ⟨b, o + k * 11 + 9, none⟩ = some (.string ob) ∧ u.cell? ⟨b, o + k * 11 + 10, none⟩ = some (.string oc) ∧ u.cell? ⟨b2, o2 + k * 11, none⟩ = some (.int .i64 xi) ∧ u.cell? ⟨b2, o2 + k * 11 + 1, none⟩ = some (.int .u8 (xs : Nat)) ∧ u.cell? ⟨b2, o2 + k * 11 + 2, none⟩ = some (.int .i64 xr) ∧ u.cell? ⟨b2, o2 + k * 11 + 3, none⟩ = some (.int .i64 xp) ∧ u.cell? ⟨b2, o2 + k * 11 + 4, none⟩ = some (.int .u8 (ek : Nat)) ∧ u.cell? ⟨b2, o2 + k * 11 + 5, none⟩ = some (.int .i64 ec) ∧ u.cell? ⟨b2, o2 + k * 11 + 6, none⟩ = some (.int .i64 eq) ∧ u.cell? ⟨b2, o2 + k * 11 + 7, none⟩ = some (.int .u8 (ok : Nat)) ∧ u.cell? ⟨b2, o2 + k * 11 + 8, none⟩ = some (.string oa) ∧ u.cell? ⟨b2, o2 + k * 11 + 9, none⟩ = some (.string ob) ∧ u.cell? ⟨b2, o2 + k * 11 + 10, none⟩ = some (.string oc))) := SOF
      have hk0 : (0 : Int) ≤ (k : Int) := by omega
      have hk1 : (k : Int) < (N : Int) := by omega
      have QE := eqR_self xi (xs : Nat) xr xp (ek : Nat) ec eq (ok : Nat) oa ob oc
      go_wp2_with fail
      refine wp_region_held_drew (S := (fun u : World => u.cell? ⟨b, o + k * 11, none⟩ = some (.int .i64 xi) ∧ u.cell? ⟨b, o + k * 11 + 1, none⟩ = some (.int .u8 (xs : Nat)) ∧ u.cell? ⟨b, o + k * 11 + 2, none⟩ = some (.int .i64 xr) ∧ u.cell? ⟨b, o + k * 11 + 3, none⟩ = some (.int .i64 xp) ∧ u.cell? ⟨b, o + k * 11 + 4, none⟩ = some (.int .u8 (ek : Nat)) ∧ u.cell? ⟨b, o + k * 11 + 5, none⟩ = some (.int .i64 ec) ∧ u.cell? ⟨b, o + k * 11 + 6, none⟩ = some (.int .i64 eq) ∧ u.cell? ⟨b, o + k * 11 + 7, none⟩ = some (.int .u8 (ok : Nat)) ∧ u.cell? ⟨b, o + k * 11 + 8, none⟩ = some (.string oa) ∧ u.cell? ⟨b, o + k * 11 + 9, none⟩ = some (.string ob) ∧ u.cell? ⟨b, o + k * 11 + 10, none⟩ = some (.string oc) ∧ u.cell? ⟨b2, o2 + k * 11, none⟩ = some (.int .i64 xi) ∧ u.cell? ⟨b2, o2 + k * 11 + 1, none⟩ = some (.int .u8 (xs : Nat)) ∧ u.cell? ⟨b2, o2 + k * 11 + 2, none⟩ = some (.int .i64 xr) ∧ u.cell? ⟨b2, o2 + k * 11 + 3, none⟩ = some (.int .i64 xp) ∧ u.cell? ⟨b2, o2 + k * 11 + 4, none⟩ = some (.int .u8 (ek : Nat)) ∧ u.cell? ⟨b2, o2 + k * 11 + 5, none⟩ = some (.int .i64 ec) ∧ u.cell? ⟨b2, o2 + k * 11 + 6, none⟩ = some (.int .i64 eq) ∧ u.cell? ⟨b2, o2 + k * 11 + 7, none⟩ = some (.int .u8 (ok : Nat)) ∧ u.cell? ⟨b2, o2 + k * 11 + 8, none⟩ = some (.string oa) ∧ u.cell? ⟨b2, o2 + k * 11 + 9, none⟩ = some (.string ob) ∧ u.cell? ⟨b2, o2 + k * 11 + 10, none⟩ = some (.string oc))) (by kernel_rfl) (SOF.out _ HB.out.drew) (fun HS => ?_)
      refine handTake 0 (some 17) ?_ rfl rfl (by kernel_rfl) (by kernel_rfl) (by kernel_rfl) (fun _ _ _ h => h) (by rfl) ?_ HS ?_
      rotate_left
      · (intro u hu; (try dsimp only at hu); go_simp; try with_reducible rfl)
      simp only [Act.put, List.setIfInBounds_toArray, List.set_cons_zero, List.set_cons_succ]
      refine handTake 1 (some 18) ?_ rfl rfl (by kernel_rfl) (by kernel_rfl) (by kernel_rfl) (fun _ _ _ h => h) (by rfl) ?_ HS ?_
      rotate_left
      · (intro u hu; (try dsimp only at hu); go_simp; try with_reducible rfl)
      simp only [Act.put, List.setIfInBounds_toArray, List.set_cons_zero, List.set_cons_succ]
      refine handTake 2 (some 19) ?_ rfl rfl (by kernel_rfl) (by kernel_rfl) (by kernel_rfl) (fun _ _ _ h => h) (by rfl) ?_ HS ?_
      rotate_left
      · (intro u hu; (try dsimp only at hu); go_simp; try with_reducible rfl)
      simp only [Act.put, List.setIfInBounds_toArray, List.set_cons_zero, List.set_cons_succ]
      refine handTake 3 (some 20) ?_ rfl rfl (by kernel_rfl) (by kernel_rfl) (by kernel_rfl) (fun _ _ _ h => h) (by rfl) ?_ HS ?_
      rotate_left
      · (intro u hu; (try dsimp only at hu); go_simp; try with_reducible rfl)
      simp only [Act.put, List.setIfInBounds_toArray, List.set_cons_zero, List.set_cons_succ]
      refine handTake 4 (some 21) ?_ rfl rfl (by kernel_rfl) (by kernel_rfl) (by kernel_rfl) (fun _ _ _ h => h) (by rfl) ?_ HS ?_
      rotate_left
      · (intro u hu; (try dsimp only at hu); go_simp; try with_reducible rfl)
      simp only [Act.put, List.setIfInBounds_toArray, List.set_cons_zero, List.set_cons_succ]
      refine handTake 5 (some 22) ?_ rfl rfl (by kernel_rfl) (by kernel_rfl) (by kernel_rfl) (fun _ _ _ h => h) (by rfl) ?_ HS ?_
      rotate_left
      · (intro u hu; (try dsimp only at hu); go_simp; try with_reducible rfl)
      simp only [Act.put, List.setIfInBounds_toArray, List.set_cons_zero, List.set_cons_succ]
      refine handTake 6 (some 23) ?_ rfl rfl (by kernel_rfl) (by kernel_rfl) (by kernel_rfl) (fun _ _ _ h => h) (by rfl) ?_ HS ?_
      rotate_left
      · (intro u hu; (try dsimp only at hu); go_simp; try with_reducible rfl)
      simp only [Act.put, List.setIfInBounds_toArray, List.set_cons_zero, List.set_cons_succ]
      refine handTake 7 (some 24) ?_ rfl rfl (by kernel_rfl) (by kernel_rfl) (by kernel_rfl) (fun _ _ _ h => h) (by rfl) ?_ HS ?_
      rotate_left
      · (intro u hu; (try dsimp only at hu); go_simp; try with_reducible rfl)
      simp only [Act.put, List.setIfInBounds_toArray, List.set_cons_zero, List.set_cons_succ]
      refine handTake 8 (some 25) ?_ rfl rfl (by kernel_rfl) (by kernel_rfl) (by kernel_rfl) (fun _ _ _ h => h) (by rfl) ?_ HS ?_
      rotate_left
      · (intro u hu; (try dsimp only at hu); go_simp; try with_reducible rfl)
      simp only [Act.put, List.setIfInBounds_toArray, List.set_cons_zero, List.set_cons_succ]
      refine wpAnyH_done (by kernel_rfl) ?_ _
      clear HS
      go_wp2_with fail
      go_roundw
      case rel => exact ⟨k + 1, by omega, by go_num, HB.out.drew⟩
      case measure => show N - ((k : Int) + 1).toNat < N - (k : Int).toNat; omega
    · have e : k = N := by omega
      subst e
      have HB := Lib.hid hx
      go_wp2_with fail
      go_ret
      exact ⟨rfl, HB.out⟩
end Ch
end Go.Proofs.Ytpgejomhcojppaa
