/- slices.Clone of reports, those of a ballot, the first of these. -/
import Derived.Test.YtpgejomhcojppaaChooseDel
import Derived.Deep.WholeRow
set_option linter.unusedSimpArgs false
set_option linter.unusedVariables false
namespace Go.Proofs.Ytpgejomhcojppaa
open Go.RowKit
namespace Ch
open Bl
theorem info_en : (Try.prog.info? 31).map (·.size) = some 7 := by kernel_rfl
/-- Results of which one is an entry that lies in a block. -/
theorem results_en2 {fn : Func} {p q : Tmp} (h : fn.results = #[.cell p 31, .tmp q]) (tmps : Array Value) (w : World) (g : Nat) (x : En)
    (hp : tmps.getD p undef = .pointer (some ⟨g, 0, none⟩)) (hg : Whole w g 31 (enC x)) :
    (results fn tmps).run Try.prog w = .ok (.tuple #[.agg (enC x).toArray, tmps.getD q undef]) w := by
  have hp' : tmps[p]?.getD undef = .pointer (some ⟨g, 0, none⟩) := by simpa using hp
  have hl := run_loadVar_row (P := Try.prog) w g 31 31 (enC x).toArray (0, 0) _ hg Try.underlying31 rfl info_en
  simp [results, h, hp', asAddr, hl]
theorem results_en3 {fn : Func} {o p q : Tmp} (h : fn.results = #[.tmp o, .cell p 31, .tmp q]) (tmps : Array Value) (w : World) (g : Nat) (x : En)
    (hp : tmps.getD p undef = .pointer (some ⟨g, 0, none⟩)) (hg : Whole w g 31 (enC x)) :
    (results fn tmps).run Try.prog w = .ok (.tuple #[tmps.getD o undef, .agg (enC x).toArray, tmps.getD q undef]) w := by
  have hp' : tmps[p]?.getD undef = .pointer (some ⟨g, 0, none⟩) := by simpa using hp
  have hl := run_loadVar_row (P := Try.prog) w g 31 31 (enC x).toArray (0, 0) _ hg Try.underlying31 rfl info_en
  simp [results, h, hp', asAddr, hl]
set_option maxRecDepth 100000 in
set_option maxHeartbeats 1000000 in
theorem clone_is (L : List Rp) (v : Value) (B : Nat) (w : World) (hB : B ≤ w.heap.size) (hr : Row w B v L.length (L.flatMap rpC)) (hL : L.length ≤ 500) :
    Calls Try.prog 43 #[v] w fun e w' => ∃ v', e = .returned v' ∧ w'.ownsRow w.heap.size 33 11 v' L.length (L.flatMap rpC) ∧ Below w.heap.size w w' := by
  obtain ⟨A, c, rfl, _, _⟩ := hr.slice
  obtain ⟨i0, hi, hz0, hz1, hz2⟩ := info_parts info_rp
  have hl : (L.flatMap rpC).length = L.length * 11 := flat_len rpC_len L
  rcases A with _ | A
  · have h0 : L = [] := by
      cases L with
      | nil => rfl
      | cons x L =>
        obtain ⟨A', c', hv, _, _, hx⟩ := hr
        obtain ⟨b, o, hA, _⟩ := hx (by simp [rpC])
        subst hA; cases hv
    subst h0
    have q22 : ∀ (w : World) (a : Option Addr) (n c n' c' : Nat), (binOp .eql 61 (.slice a n c) (.slice none n' c')).run Try.prog w = .ok (.bool a.isNone) w := fun w a n c n' c' => Lib.run_eql_slice_nil w _ _ a n c n' c' Try.underlying61
    go_enter Try.func43, Try.ntmps43
    go_wp2_with fail
    go_ret
    exact ⟨_, rfl, ⟨rfl, .inl ⟨rfl, rfl⟩⟩, Below.refl _ _⟩
  · have HR := Lib.hid (hr.alloc hB (.cells #[] 33))
    have HX6 : Hid (∀ u ∈ L.flatMap rpC, u.oneCell' = true) := by
      intro u hu
      obtain ⟨x, _, hx⟩ := List.mem_flatMap.1 hu
      exact rpC_one x u hx
    have HM0 : Hid ((w.alloc (.cells #[] 33)).ownsRow w.heap.size 33 11 (.slice (some ⟨w.heap.size, 0, none⟩) 0 0) 0 []) := World.ownsRow_made w #[] 0 (Nat.le_refl _) (Nat.zero_le _) (by simp)
    have HL := Lib.hid hl
    generalize hM : L.length = M at *
    clear hr hl
    have q22 : ∀ (w : World) (a : Option Addr) (n c n' c' : Nat), (binOp .eql 61 (.slice a n c) (.slice none n' c')).run Try.prog w = .ok (.bool a.isNone) w := fun w a n c n' c' => Lib.run_eql_slice_nil w _ _ a n c n' c' Try.underlying61
    go_enter Try.func43, Try.ntmps43
    go_wp2_with (at_builtin
                 refine wpList_append_foot _ rfl (.tmp 5) (.tmp 6) _ rfl w.heap.size 33 i0 _ 11 112 Try.underlying61 hi hz0 hz1 hz2 rfl (by decide) _ 0 [] rfl HM0.out B _ M (L.flatMap rpC) rfl HR.out HL.out HX6.out (by unfold maxLen; omega) (by omega) (by simp) ?_
                 intro v7 w7 hown7 hg7 hv7
                 have HB7 := Lib.hid (below_grown _ HM0.out (by simp) hg7)
                 have HO7 := Lib.hid hown7
                 clear hown7 hg7 hv7)
    go_ret
    refine ⟨_, rfl, ?_, (be1 w _).trans HB7.out⟩
    have h := HO7.out
    rw [Nat.zero_add] at h
    exact h
set_option maxHeartbeats 1000000 in
theorem by_is (b : Ba) (L : List Rp) (v : Value) (B : Nat) (w : World) (hB : B ≤ w.heap.size) (hr : Row w B v L.length (L.flatMap rpC)) (hL : L.length ≤ 500) :
    Calls Try.prog 26 #[v, .agg (baC b).toArray] w fun e w' => ∃ v', e = .returned v' ∧ w'.ownsRow w.heap.size 33 11 v' (byB b L).length ((byB b L).flatMap rpC) ∧ Below w.heap.size w w' := by
  have HBX := Lib.hid (Whole.new w 27 (baC b))
  have C := Lib.hid (clone_is L v B _ (by simp; omega) (hr.alloc hB (.cells (baC b).toArray 27)) hL)
  simp only [baC] at C ⊢
  obtain ⟨W, hW⟩ : ∃ W : World, W = w.alloc (.cells #[.int .i64 b.r, .int .i64 b.p] 27) := ⟨_, rfl⟩
  have hz : W.heap.size = w.heap.size + 1 := by rw [hW]; simp
  have HBW : Hid (Below w.heap.size w W) := by rw [hW]; exact be1 w _
  have HBX2 : Hid (Whole W w.heap.size 27 (baC b)) := by rw [hW]; exact HBX.out
  clear HBX
  rw [show (([.int .i64 b.r, .int .i64 b.p] : List Value)).toArray = #[.int .i64 b.r, .int .i64 b.p] from rfl, ← hW] at C
  go_enter Try.func26, Try.ntmps26
  go_wp2_with fail
  rw [← hW]
  clear hW
  refine C.out.mono ?_
  rintro e w1 ⟨v1, rfl, hown, hx⟩
  have hz1 := hx.size
  have D := Lib.hid (delete_is W.heap.size w.heap.size b L v1 w1 hown (HBX2.out.below hx HBX2.out.lt) (by omega) hz1 hL)
  have HX := Lib.hid hx
  clear hown hx C
  go_wp2_with fail
  refine D.out.mono ?_
  rintro e w2 ⟨v2, rfl, hown, hx⟩
  have HB := Lib.hid (HBW.out.trans ((HX.out.trans hx).mono (by omega)))
  have HO := Lib.hid hown
  clear hown hx D
  go_wp2_with fail
  go_ret
  refine ⟨_, rfl, ?_, HB.out⟩
  have h := HO.out
  rcases h.2 with h2 | ⟨g, cap, cur, h2, h3, h4⟩
  · exact ⟨h.1, .inl h2⟩
  · exact ⟨h.1, .inr ⟨g, cap, cur, h2, by omega, h4⟩⟩
set_option maxHeartbeats 2000000 in
theorem first_is (b : Ba) (L : List Rp) (v : Value) (B : Nat) (w : World) (hB : B ≤ w.heap.size) (hr : Row w B v L.length (L.flatMap rpC)) (hL : L.length ≤ 500) :
    Calls Try.prog 25 #[v, .agg (baC b).toArray] w fun e w' => e = .returned (.tuple #[.agg (enC (firstE b L)).toArray, .bool (firstB b L)]) ∧ Below w.heap.size w w' := by
  obtain ⟨W, hW⟩ : ∃ W : World, W = (w.alloc (.cells #[.int .i64 b.r, .int .i64 b.p] 27)).alloc (.cells #[.int .u8 0, .int .i64 0, .int .i64 0, .int .u8 0, .string { data := #[] }, .string { data := #[] }, .string { data := #[] }] 31) := ⟨_, rfl⟩
  have hz : W.heap.size = w.heap.size + 2 := by rw [hW]; simp
  have HBW : Hid (Below w.heap.size w W) := by rw [hW]; exact be2 w _ _
  have HEX : Hid (Whole W (w.heap.size + 1) 31 [.int .u8 0, .int .i64 0, .int .i64 0, .int .u8 0, .string { data := #[] }, .string { data := #[] }, .string { data := #[] }]) := by rw [hW]; exact wh1_2 w _ _ _
  have HBX : Whole W w.heap.size 27 [.int .i64 b.r, .int .i64 b.p] := by rw [hW]; exact wh0_2 w _ _ _
  have C := Lib.hid (by_is b L v B W (by omega) (hr.below (HBW.out.mono hB)) hL)
  have c0 := HBX.cell 0; have c1 := HBX.cell 1
  simp only [List.getElem?_cons_zero, List.getElem?_cons_succ] at c0 c1
  simp only [baC] at C ⊢
  clear HBX hr
  go_enter Try.func25, Try.ntmps25
  go_wp2_with fail
  rw [← hW]
  clear hW
  go_wp2_with fail
  refine C.out.mono ?_
  rintro e w1 ⟨v1, rfl, hown, hx⟩
  have hex := HEX.out.below hx HEX.out.lt
  have e0 := hex.cell 0; have f0 := hex.free 0; have e1 := hex.cell 1; have f1 := hex.free 1; have e2 := hex.cell 2; have f2 := hex.free 2; have e3 := hex.cell 3; have f3 := hex.free 3; have e4 := hex.cell 4; have f4 := hex.free 4; have e5 := hex.cell 5; have f5 := hex.free 5; have e6 := hex.cell 6; have f6 := hex.free 6
  simp only [List.getElem?_cons_zero, List.getElem?_cons_succ] at e0 e1 e2 e3 e4 e5 e6
  have hrow := Row.of_own hown
  have hz1 := hx.size
  have l1 : w.heap.size + 1 < w1.heap.size := by omega
  have HB := Lib.hid (HBW.out.trans (hx.mono (by omega)))
  have HEX1 := Lib.hid hex
  clear hown hx hex C c0 c1
  obtain ⟨A, c', rfl, _, _⟩ := hrow.slice
  cases hl : byB b L with
  | nil =>
    have h1 : firstE b L = zeroEn := by unfold firstE; rw [hl]
    have h2 : firstB b L = false := by unfold firstB; rw [hl]; rfl
    have H1 := Lib.hid h1
    have H2 := Lib.hid h2
    clear hrow h1 h2
    simp only [List.length_nil]
    go_wp2_with fail
    refine wp_loop_rounds 1 ?_
    rw [rounds_succ]
    go_wp2_with fail
    exact bodyPost_ret (results_en2 rfl _ _ (w.heap.size + 1) zeroEn rfl ((((((((HEX1.out.set 0 _).set 1 _).set 2 _).set 3 _).set 4 _).set 5 _).set 6 _))) rfl ⟨by rw [H1.out, H2.out]; rfl, (Below.setCell (p := ⟨w.heap.size + 1, 6, none⟩) (Below.setCell (p := ⟨w.heap.size + 1, 5, none⟩) (Below.setCell (p := ⟨w.heap.size + 1, 4, none⟩) (Below.setCell (p := ⟨w.heap.size + 1, 3, none⟩) (Below.setCell (p := ⟨w.heap.size + 1, 2, none⟩) (Below.setCell (p := ⟨w.heap.size + 1, 1, none⟩) (Below.setCell (p := ⟨w.heap.size + 1, 0, none⟩) HB.out (by simp) _) (by simp) _) (by simp) _) (by simp) _) (by simp) _) (by simp) _) (by simp) _)⟩
  | cons x r =>
    have h1 : firstE b L = x.e := by unfold firstE; rw [hl]
    have h2 : firstB b L = true := by unfold firstB; rw [hl]; rfl
    have H1 := Lib.hid h1
    have H2 := Lib.hid h2
    rw [hl] at hrow
    clear h1 h2
    have hbd := hrow.bound
    obtain ⟨b2, o2, rfl, hb2, hx2⟩ := hrow.elem rpC_len (by omega) (k := 0) (by simp)
    simp only [List.getElem_cons_zero, Nat.zero_mul, Nat.add_zero] at hx2
    have y0 := hx2 0 _ rfl
    have y1 := hx2 1 _ rfl
    have y2 := hx2 2 _ rfl
    have y3 := hx2 3 _ rfl
    have y4 := hx2 4 _ rfl
    have y5 := hx2 5 _ rfl
    have y6 := hx2 6 _ rfl
    have y7 := hx2 7 _ rfl
    have y8 := hx2 8 _ rfl
    have y9 := hx2 9 _ rfl
    have y10 := hx2 10 _ rfl
    simp only [Nat.add_zero] at y0
    obtain ⟨xi, xs, ⟨xr, xp⟩, ⟨ek, ec, eq, ⟨ok, oa, ob, oc⟩⟩⟩ := x
    dsimp only at y0 y1 y2 y3 y4 y5 y6 y7 y8 y9 y10
    dsimp only at H1
    clear hx2 hrow
    have hlen : (0 : Int) < (((⟨xi, xs, ⟨xr, xp⟩, ⟨ek, ec, eq, ⟨ok, oa, ob, oc⟩⟩⟩ : Rp) :: r).length : Int) := by simp
    generalize ((⟨xi, xs, ⟨xr, xp⟩, ⟨ek, ec, eq, ⟨ok, oa, ob, oc⟩⟩⟩ : Rp) :: r).length = M at *
    go_wp2_with fail
    refine wp_loop_rounds 1 ?_
    rw [rounds_succ]
    go_wp2_with fail
    exact bodyPost_ret (results_en2 rfl _ _ (w.heap.size + 1) (⟨ek, ec, eq, ⟨ok, oa, ob, oc⟩⟩ : En) rfl ((((((((HEX1.out.set 0 _).set 1 _).set 2 _).set 3 _).set 4 _).set 5 _).set 6 _).alloc _)) rfl ⟨by rw [H1.out, H2.out]; rfl, Below.alloc (Below.setCell (p := ⟨w.heap.size + 1, 6, none⟩) (Below.setCell (p := ⟨w.heap.size + 1, 5, none⟩) (Below.setCell (p := ⟨w.heap.size + 1, 4, none⟩) (Below.setCell (p := ⟨w.heap.size + 1, 3, none⟩) (Below.setCell (p := ⟨w.heap.size + 1, 2, none⟩) (Below.setCell (p := ⟨w.heap.size + 1, 1, none⟩) (Below.setCell (p := ⟨w.heap.size + 1, 0, none⟩) HB.out (by simp) _) (by simp) _) (by simp) _) (by simp) _) (by simp) _) (by simp) _) (by simp) _) (by simp [size_set]; omega) _⟩
end Ch
end Go.Proofs.Ytpgejomhcojppaa
