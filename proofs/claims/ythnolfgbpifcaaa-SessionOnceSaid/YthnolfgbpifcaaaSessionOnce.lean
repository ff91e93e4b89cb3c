/- The law SessionOnce, walked. -/
import Derived.Test.YthnolfgbpifcaaaSessionOncePlain
import Derived.BigQuiet
set_option linter.unusedSimpArgs false
set_option linter.unusedVariables false
namespace Go.Proofs.Ythnolfgbpifcaaa
open Go.RowKit

namespace Se

/-- A request: its client, its number. -/
abbrev Rq := Int × Int
def rqc (p : Rq) : List Value := [.int .i64 p.1, .int .i64 p.2]
theorem rqc_len (p : Rq) : (rqc p).length = 2 := rfl
theorem step_store_table {ops : Array Oper} {o : Oper} {a : Act} {w : World} {K : Act → World → Prop} {Q : Exit → Act → World → Prop} {E : Prop} (hgd : o.guard = none) (x y : Operand) (ho : o.op = .store 28 x y)
    (g : Nat) (tb old : Tb) (hx : a.eval x = .pointer (some ⟨g, 0, none⟩)) (hy : a.eval y = .agg tb.cells.toArray) (h : Whole w g 28 old.cells)
    (hk : ∀ w', Whole w' g 28 tb.cells → Only g w w' → K (a.put o.dst undef) w') : if Region.wanted o (yielded ops a.tmps) = true then Oper.wp Try.prog o a w K Q else E := by
  rw [if_pos (by simp [Region.wanted, hgd])]
  exact wp_store_row 28 x y ho g tb.cells.toArray hx hy 28 old.cells.toArray h (by rw [tcells_size]; exact info_table) rfl (cells_one tb) (hk _ (Whole.row h _) ((Only.refl _ _).row _))

/-- The table, what was last done, what was told. -/
structure SO (w : World) (b : Nat) (t : Tb) (u : World) : Prop where
  tt : Whole u b 28 t.cells
  l : Whole u (b + 1) 41 (lastC t)
  d : Whole u (b + 1 + 1) 42 (toldC t)
  below : Below w.heap.size w u
theorem SO.call {w u u' : World} {b : Nat} {t : Tb} (h : SO w b t u) (hx : Below u.heap.size u u') : SO w b t u' := ⟨h.tt.below hx h.tt.lt, h.l.below hx h.l.lt, h.d.below hx h.d.lt, h.below.trans (hx.mono h.below.size)⟩
theorem SO.drew {w u : World} {b : Nat} {t : Tb} (h : SO w b t u) : SO w b t u.drew := ⟨h.tt.drew, h.l.drew, h.d.drew, h.below.drew⟩
theorem SO.drewN {w u : World} {b : Nat} {t : Tb} (h : SO w b t u) (n : Nat) : SO w b t (u.drewN n) := ⟨h.tt.drewN n, h.l.drewN n, h.d.drewN n, ⟨h.below.os, h.below.tape, h.below.output, h.below.size, h.below.block⟩⟩
theorem SO.alloc {w u : World} {b : Nat} {t : Tb} (h : SO w b t u) (o : Obj) : SO w b t (u.alloc o) := ⟨h.tt.alloc o, h.l.alloc o, h.d.alloc o, h.below.alloc h.below.size o⟩
theorem SO.only {w u u' : World} {b g : Nat} {t : Tb} (h : SO w b t u) (hO : Only g u u') (hg : b + 1 + 1 < g) (hw : w.heap.size ≤ g) : SO w b t u' :=
  ⟨hO.whole h.tt (by omega), hO.whole h.l (by omega), hO.whole h.d (by omega), Only.below h.below hO h.below.size hw⟩

set_option maxRecDepth 100000 in
set_option maxHeartbeats 8000000 in
theorem sessionOnce_is (l : List Rq) (v : Value) (w : World) (hr : Row w w.heap.size v l.length (l.flatMap rqc)) :
    Calls Try.prog 4 #[v] w fun e w' => e = .returned (.bool true) ∧ Below w.heap.size w w' := by
  obtain ⟨A, c, rfl, _, _⟩ := hr.slice
  have AW := Lib.hid (awake_is w)
  have HR := Lib.hid hr
  clear hr
  go_enter Try.func4, Try.ntmps4
  go_wp2_with fail
  refine AW.out.mono ?_
  rintro e ua ⟨rfl, hx⟩
  have HB := Lib.hid hx
  have HR1 := Lib.hid ((HR.out.below hx).more hx.size)
  clear hx AW HR
  by_cases hl : (300 : Int) < (l.length : Int)
  · go_wp2_with fail
    go_ret
    exact ⟨rfl, HB.out⟩
  go_wp2_with fail
  go_loopw [6] (fun iv wr => ∃ (k : Nat) (t : Tb), k ≤ l.length ∧ iv = .int .i64 k ∧ mayB t = true ∧ SO ua ua.heap.size t wr) (fun iv _ => l.length - (intOf iv).toNat)
  case atStart =>
    refine ⟨0, zeroTb, Nat.zero_le _, rfl, may_zero, ?_, ?_, ?_, be3 _ _ _ _⟩
    · exact wh0_3 ua 28 zeroTb.cells _ _
    · exact wh1_3 ua _ 41 (lastC zeroTb) _
    · exact wh2_3 ua _ _ 42 (toldC zeroTb)
  case round =>
    obtain ⟨k, t, hk, rfl, hmay, hso⟩ := hrel
    by_cases hlt : k < l.length
    · have h2 := HR1.out
      obtain ⟨b2, o2, rfl, hb2, hx2⟩ := h2.elem rqc_len (by omega) hlt
      have x0 := (hso.below.cell (p := ⟨b2, o2 + (k * 2 + 0), none⟩) hb2).trans (hx2 0 _ rfl)
      have x1 := (hso.below.cell (p := ⟨b2, o2 + (k * 2 + 1), none⟩) hb2).trans (hx2 1 _ rfl)
      simp only [Nat.add_zero] at x0
      rw [← Nat.add_assoc] at x1
      clear hx2 h2
      generalize l[k] = rq at *
      obtain ⟨cl, s⟩ := rq
      dsimp only at x0 x1
      have hk0 : (0 : Int) ≤ (k : Int) := by omega
      have hk1 : (k : Int) < (l.length : Int) := by omega
      have hlw := hso.d.lt
      have HSO := Lib.hid hso
      have HM := Lib.hid hmay
      clear hso hmay
      by_cases g1 : cl < 0
      · have hbad : cl < 0 ∨ 4 ≤ cl ∨ s < 1 ∨ 1099511627776 < s := .inl g1
        have A1 := ask_any t cl s
        rw [ask_arg (argB_bad hbad)] at A1
        simp only [Rp.cells] at A1
        have A1 := Lib.hid A1
        go_wp2_with fail
        go_region
        have HSO2 := Lib.hid HSO.out.drew
        go_wp2_with (with_reducible refine wpList_load_table rfl (.tmp 3) rfl ua.heap.size rfl 28 t HSO2.out.tt ?_)
        refine (A1.out _).mono ?_
        rintro e1 u1 ⟨rfl, hx⟩
        have HS1 := Lib.hid (HSO2.out.call hx)
        have hlw1 := HS1.out.d.lt
        have hlw2 := HS1.out.l.lt
        have hsz := hx.size
        clear hx A1
        go_wp2_with fail
        go_roundw
        case rel => exact ⟨k + 1, t, by omega, by go_num, HM.out, by first | exact HS1.out.alloc _ | exact (HS1.out.alloc _).drewN _⟩
        case measure => simp [intOf]; omega
      by_cases g2 : 4 ≤ cl
      · have hbad : cl < 0 ∨ 4 ≤ cl ∨ s < 1 ∨ 1099511627776 < s := .inr (.inl g2)
        have g1' : 0 ≤ cl := by omega
        have A1 := ask_any t cl s
        rw [ask_arg (argB_bad hbad)] at A1
        simp only [Rp.cells] at A1
        have A1 := Lib.hid A1
        go_wp2_with fail
        go_region
        have HSO2 := Lib.hid HSO.out.drew
        go_wp2_with (with_reducible refine wpList_load_table rfl (.tmp 3) rfl ua.heap.size rfl 28 t HSO2.out.tt ?_)
        refine (A1.out _).mono ?_
        rintro e1 u1 ⟨rfl, hx⟩
        have HS1 := Lib.hid (HSO2.out.call hx)
        have hlw1 := HS1.out.d.lt
        have hlw2 := HS1.out.l.lt
        have hsz := hx.size
        clear hx A1
        go_wp2_with fail
        go_roundw
        case rel => exact ⟨k + 1, t, by omega, by go_num, HM.out, by first | exact HS1.out.alloc _ | exact (HS1.out.alloc _).drewN _⟩
        case measure => simp [intOf]; omega
      by_cases g3 : s < 1
      · have hbad : cl < 0 ∨ 4 ≤ cl ∨ s < 1 ∨ 1099511627776 < s := .inr (.inr (.inl g3))
        have g1' : 0 ≤ cl := by omega
        have g2' : cl < 4 := by omega
        have A1 := ask_any t cl s
        rw [ask_arg (argB_bad hbad)] at A1
        simp only [Rp.cells] at A1
        have A1 := Lib.hid A1
        go_wp2_with fail
        go_region
        have HSO2 := Lib.hid HSO.out.drew
        go_wp2_with (with_reducible refine wpList_load_table rfl (.tmp 3) rfl ua.heap.size rfl 28 t HSO2.out.tt ?_)
        refine (A1.out _).mono ?_
        rintro e1 u1 ⟨rfl, hx⟩
        have HS1 := Lib.hid (HSO2.out.call hx)
        have hlw1 := HS1.out.d.lt
        have hlw2 := HS1.out.l.lt
        have hsz := hx.size
        clear hx A1
        go_wp2_with fail
        go_roundw
        case rel => exact ⟨k + 1, t, by omega, by go_num, HM.out, by first | exact HS1.out.alloc _ | exact (HS1.out.alloc _).drewN _⟩
        case measure => simp [intOf]; omega
      by_cases g4 : 1099511627776 < s
      · have hbad : cl < 0 ∨ 4 ≤ cl ∨ s < 1 ∨ 1099511627776 < s := .inr (.inr (.inr g4))
        have g1' : 0 ≤ cl := by omega
        have g2' : cl < 4 := by omega
        have g3' : 1 ≤ s := by omega
        have A1 := ask_any t cl s
        rw [ask_arg (argB_bad hbad)] at A1
        simp only [Rp.cells] at A1
        have A1 := Lib.hid A1
        go_wp2_with fail
        go_region
        have HSO2 := Lib.hid HSO.out.drew
        go_wp2_with (with_reducible refine wpList_load_table rfl (.tmp 3) rfl ua.heap.size rfl 28 t HSO2.out.tt ?_)
        refine (A1.out _).mono ?_
        rintro e1 u1 ⟨rfl, hx⟩
        have HS1 := Lib.hid (HSO2.out.call hx)
        have hlw1 := HS1.out.d.lt
        have hlw2 := HS1.out.l.lt
        have hsz := hx.size
        clear hx A1
        go_wp2_with fail
        go_roundw
        case rel => exact ⟨k + 1, t, by omega, by go_num, HM.out, by first | exact HS1.out.alloc _ | exact (HS1.out.alloc _).drewN _⟩
        case measure => simp [intOf]; omega
      have g1' : 0 ≤ cl := by omega
      have g2' : cl < 4 := by omega
      have g3' : 1 ≤ s := by omega
      have g4' : s ≤ 1099511627776 := by omega
      obtain ⟨j, rfl⟩ : ∃ j : Nat, cl = (j : Int) := ⟨cl.toNat, by omega⟩
      have hj : j < 4 := by omega
      have harg := argB_ok HM.out (c := (j : Int)) (s := s) ⟨g1', g2', g3', g4'⟩
      have H0l := (HSO.out.l.cell j).trans (last_at t j hj)
      clear g1 g2 g3 g4
      rcases Int.lt_trichotomy (t.at_ j).seq s with hq | hq | hq
      · have hask := ask_new harg hq
        have hnote := note_new harg (rep_good k) hq
        have A1 := ask_any t (j : Int) s
        rw [hask] at A1
        simp only [Rp.cells] at A1
        have A1 := Lib.hid A1
        go_wp2_with fail
        go_region
        have HSO2 := Lib.hid HSO.out.drew
        go_wp2_with (with_reducible refine wpList_load_table rfl (.tmp 3) rfl ua.heap.size rfl 28 t HSO2.out.tt ?_)
        refine (A1.out _).mono ?_
        rintro e1 u1 ⟨rfl, hx⟩
        have HS1 := Lib.hid (HSO2.out.call hx)
        have hlw1 := HS1.out.d.lt
        have hlw2 := HS1.out.l.lt
        have hsz := hx.size
        clear hx A1
        have c_l := (HS1.out.l.cell j).trans (last_at t j hj)
        have HD : ∀ (i : Nat) (v : Value), (t.at_ j).rep.cells[i]? = some v → u1.cell? ⟨ua.heap.size + 1 + 1, j * 3 + i, none⟩ = some v := fun i v h => (HS1.out.d.cell _).trans (told_at t j hj i v h)
        have c_d0 := HD 0 _ rfl
        have c_d1 := HD 1 _ rfl
        have c_d2 := HD 2 _ rfl
        simp only [Nat.add_zero] at c_d0
        clear HD H0l
        have NT := note_any t (j : Int) s (repI k)
        rw [hnote] at NT
        simp only [Rp.cells] at NT
        have MY := may_any (t.put j ⟨s, repI k⟩)
        rw [may_set HM.out (odd_good g3' g4' (rep_good k))] at MY
        have HMN := Lib.hid (may_set HM.out (odd_good g3' g4' (rep_good k)) (a := (j : Int)))
        have HLS := Lib.hid (last_set t j hj ⟨s, repI k⟩)
        have HDS := Lib.hid (told_set3 t j hj ⟨s, repI k⟩)
        generalize t.put (j : Int) ⟨s, repI k⟩ = tn at *
        have NT := Lib.hid NT
        have MY := Lib.hid MY
        generalize (t.at_ j).rep.err = re at *
        generalize (t.at_ j).rep.found = rf at *
        generalize (t.at_ j).rep.val = rv at *
        generalize (t.at_ j).seq = qs at *
        have d1 : decide (qs < s) = true := decide_eq_true hq
        have d2 : (s == qs) = false := by simp; omega
        have d3 : decide (s < qs) = false := decide_eq_false (by omega)
        go_wp2_with fail
        go_quiet (fail)
        go_wp2_with fail
        have HS2 := Lib.hid ((HS1.out.alloc (.cells #[.int .i64 0, .bool false, .string { data := #[] }] 24)).drewN nq)
        obtain ⟨U, hU⟩ : ∃ U : World, U = (u1.alloc (.cells #[.int .i64 0, .bool false, .string { data := #[] }] 24)).drewN nq := ⟨_, rfl⟩
        rw [← hU] at HS2 ⊢
        clear hU
        refine wp_region_held_drew (S := (fun u : World => Whole u ua.heap.size 28 t.cells)) (by kernel_rfl) (HS2.out.tt.drew) (fun HS => ?_)
        refine handTake 0 (some 111) (.agg t.cells.toArray) rfl rfl (by kernel_rfl) (by kernel_rfl) (by kernel_rfl) (fun _ _ _ h => h) (by rfl) (fun u hu => exec_load 28 (.tmp 3) rfl ua.heap.size 28 t.cells _ rfl hu Try.underlying28 rfl info_table) HS ?_
        simp only [Act.put, List.setIfInBounds_toArray, List.set_cons_zero, List.set_cons_succ]
        refine handTake 1 (some 112) ?_ rfl rfl (by kernel_rfl) (by kernel_rfl) (by kernel_rfl) (fun _ _ _ h => h) (by rfl) ?_ HS ?_
        rotate_left
        · (intro u hu; (try dsimp only at hu); go_simp; try with_reducible rfl)
        simp only [Act.put, List.setIfInBounds_toArray, List.set_cons_zero, List.set_cons_succ]
        refine handTake 2 (some 113) ?_ rfl rfl (by kernel_rfl) (by kernel_rfl) (by kernel_rfl) (fun _ _ _ h => h) (by rfl) ?_ HS ?_
        rotate_left
        · (intro u hu; (try dsimp only at hu); go_simp; try with_reducible rfl)
        simp only [Act.put, List.setIfInBounds_toArray, List.set_cons_zero, List.set_cons_succ]
        refine handTake 3 (some 114) ?_ rfl rfl (by kernel_rfl) (by kernel_rfl) (by kernel_rfl) (fun _ _ _ h => h) (by rfl) ?_ HS ?_
        rotate_left
        · (intro u hu; (try dsimp only at hu); go_simp; try with_reducible rfl)
        simp only [Act.put, List.setIfInBounds_toArray, List.set_cons_zero, List.set_cons_succ]
        refine wpAnyH_ready (rs := [4, 9]) (by kernel_rfl) (by simp) ?_
        refine AllReadyH.cons rfl (fun K hK => ?_) ?_
        · go_simp
          clear HS
          refine (reply_any k (by omega) _).mono ?_
          rintro e3 u3 ⟨rfl, hx⟩
          have HS3 := Lib.hid (HS2.out.drew.call hx)
          have hsz3 := hx.size
          clear hx
          go_wp2_with fail
          refine hK.out _ _ (HS3.out.tt) (fun HS => ?_)
          clear hK
          try simp only [Act.put, List.setIfInBounds_toArray, List.set_cons_zero, List.set_cons_succ]
          refine wpAnyH_ready (rs := [5, 9]) (by kernel_rfl) (by simp) ?_
          refine AllReadyH.cons rfl (fun K hK => ?_) ?_
          · go_simp
            clear HS
            refine (NT.out _).mono ?_
            rintro e4 u4 ⟨rfl, hx⟩
            have HS4 := Lib.hid (HS3.out.call hx)
            have hsz4 := hx.size
            clear hx
            go_wp2_with fail
            refine hK.out _ _ (HS4.out.tt) (fun HS => ?_)
            clear hK
            try simp only [Act.put, List.setIfInBounds_toArray, List.set_cons_zero, List.set_cons_succ]
            refine handTake 6 (some 110) ?_ rfl rfl (by kernel_rfl) (by kernel_rfl) (by kernel_rfl) (fun _ _ _ h => h) (by rfl) ?_ HS ?_
            rotate_left
            · (intro u hu; (try dsimp only at hu); go_simp; try with_reducible rfl)
            simp only [Act.put, List.setIfInBounds_toArray, List.set_cons_zero, List.set_cons_succ]
            refine handTake 7 (some 117) ?_ rfl rfl (by kernel_rfl) (by kernel_rfl) (by kernel_rfl) (fun _ _ _ h => h) (by rfl) ?_ HS ?_
            rotate_left
            · (intro u hu; (try dsimp only at hu); go_simp; try with_reducible rfl)
            simp only [Act.put, List.setIfInBounds_toArray, List.set_cons_zero, List.set_cons_succ]
            refine handTake 8 (some 118) ?_ rfl rfl (by kernel_rfl) (by kernel_rfl) (by kernel_rfl) (fun _ _ _ h => h) (by rfl) ?_ HS ?_
            rotate_left
            · (intro u hu; (try dsimp only at hu); go_simp; try with_reducible rfl)
            simp only [Act.put, List.setIfInBounds_toArray, List.set_cons_zero, List.set_cons_succ]
            refine wpAnyH_ready (rs := [9]) (by kernel_rfl) (by simp) ?_
            refine AllReadyH.cons rfl (fun K hK => ?_) AllReadyH.nil
            go_simp
            clear HS
            have HS5 := Lib.hid ((HS4.out.alloc (.cells #[.int .i64 0, .int .i64 0, .bool false, .string { data := #[] }, .int .i64 0, .int .i64 0, .bool false, .string { data := #[] }, .int .i64 0, .int .i64 0, .bool false, .string { data := #[] }, .int .i64 0, .int .i64 0, .bool false, .string { data := #[] }] 28)))
            have HN5 : Hid (Whole (u4.alloc (.cells #[.int .i64 0, .int .i64 0, .bool false, .string { data := #[] }, .int .i64 0, .int .i64 0, .bool false, .string { data := #[] }, .int .i64 0, .int .i64 0, .bool false, .string { data := #[] }, .int .i64 0, .int .i64 0, .bool false, .string { data := #[] }] 28)) u4.heap.size 28 zeroTb.cells) := (Whole.new u4 28 zeroTb.cells)
            have hnb : ua.heap.size + 1 + 1 < u4.heap.size := HS4.out.d.lt
            have hnw : ua.heap.size ≤ u4.heap.size := by omega
            generalize hnbe : u4.heap.size = nb at *
            clear hnbe
            refine hK.out _ _ (HS5.out.tt) (fun HS => ?_)
            clear hK
            try simp only [Act.put, List.setIfInBounds_toArray, List.set_cons_zero, List.set_cons_succ]
            refine wpAnyH_ready (rs := [10]) (by kernel_rfl) (by simp) ?_
            refine AllReadyH.cons rfl (fun K hK => ?_) AllReadyH.nil
            clear HS
            refine step_store_table rfl (.tmp 12) (.tmp 117) rfl nb tn zeroTb rfl rfl HN5.out ?_
            intro v6 hw hO
            have HS6 := Lib.hid (HS5.out.only hO hnb hnw)
            have HN6 := Lib.hid hw
            clear hw hO
            refine hK.out _ _ (HS6.out.tt) (fun HS => ?_)
            clear hK
            try simp only [Act.put, List.setIfInBounds_toArray, List.set_cons_zero, List.set_cons_succ]
            refine handTake 11 (some 13) ?_ rfl rfl (by kernel_rfl) (by kernel_rfl) (by kernel_rfl) (fun _ _ _ h => h) (by rfl) ?_ HS ?_
            rotate_left
            · (intro u hu; (try dsimp only at hu); go_simp; try with_reducible rfl)
            simp only [Act.put, List.setIfInBounds_toArray, List.set_cons_zero, List.set_cons_succ]
            refine wpAnyH_done (by kernel_rfl) ?_ _
            clear HS
            go_wp2_with (first | (with_reducible refine wpList_load_table rfl (.tmp 12) rfl nb rfl 28 tn HN6.out ?_) | (refine (MY.out _).mono ?_; rintro e7 u7 ⟨rfl, hx7⟩))
            have HS7 := Lib.hid (HS6.out.call hx7)
            have HN7 := Lib.hid (HN6.out.below hx7 HN6.out.lt)
            clear hx7
            refine wp_region_held_drew (S := (fun u : World => Whole u nb 28 tn.cells)) (by kernel_rfl) (HN7.out.drew) (fun HS => ?_)
            refine handTake 0 (some 130) ?_ rfl rfl (by kernel_rfl) (by kernel_rfl) (by kernel_rfl) (fun _ _ _ h => h) (by rfl) ?_ HS ?_
            rotate_left
            · (intro u hu; (try dsimp only at hu); go_simp; try with_reducible rfl)
            simp only [Act.put, List.setIfInBounds_toArray, List.set_cons_zero, List.set_cons_succ]
            refine handTake 1 (some 131) ?_ rfl rfl (by kernel_rfl) (by kernel_rfl) (by kernel_rfl) (fun _ _ _ h => h) (by rfl) ?_ HS ?_
            rotate_left
            · (intro u hu; (try dsimp only at hu); go_simp; try with_reducible rfl)
            simp only [Act.put, List.setIfInBounds_toArray, List.set_cons_zero, List.set_cons_succ]
            refine handTake 2 (some 132) (.agg tn.cells.toArray) rfl rfl (by kernel_rfl) (by kernel_rfl) (by kernel_rfl) (fun _ _ _ h => h) (by rfl) (fun u hu => exec_load 28 (.tmp 12) rfl nb 28 tn.cells _ rfl hu Try.underlying28 rfl info_table) HS ?_
            simp only [Act.put, List.setIfInBounds_toArray, List.set_cons_zero, List.set_cons_succ]
            refine handTake 3 (some 133) ?_ rfl rfl (by kernel_rfl) (by kernel_rfl) (by kernel_rfl) (fun _ _ _ h => h) (by rfl) ?_ HS ?_
            rotate_left
            · (intro u hu; (try dsimp only at hu); go_simp; try with_reducible rfl)
            simp only [Act.put, List.setIfInBounds_toArray, List.set_cons_zero, List.set_cons_succ]
            refine handTake 4 (some 134) ?_ rfl rfl (by kernel_rfl) (by kernel_rfl) (by kernel_rfl) (fun _ _ _ h => h) (by rfl) ?_ HS ?_
            rotate_left
            · (intro u hu; (try dsimp only at hu); go_simp; try with_reducible rfl)
            simp only [Act.put, List.setIfInBounds_toArray, List.set_cons_zero, List.set_cons_succ]
            refine wpAnyH_ready (rs := [5]) (by kernel_rfl) (by simp) ?_
            refine AllReadyH.cons rfl (fun K hK => ?_) AllReadyH.nil
            go_simp
            clear HS
            refine (reply_any k (by omega) _).mono ?_
            rintro e8 u8 ⟨rfl, hx⟩
            have HS8 := Lib.hid ((HS7.out.drew).call hx)
            have HN8 := Lib.hid ((HN7.out.drew).below hx HN7.out.lt)
            clear hx
            go_wp2_with fail
            refine hK.out _ _ (HN8.out) (fun HS => ?_)
            clear hK
            try simp only [Act.put, List.setIfInBounds_toArray, List.set_cons_zero, List.set_cons_succ]
            refine wpAnyH_ready (rs := [6]) (by kernel_rfl) (by simp) ?_
            refine AllReadyH.cons rfl (fun K hK => ?_) AllReadyH.nil
            clear HS
            refine step_store_table rfl (.tmp 3) (.tmp 132) rfl ua.heap.size tn t rfl rfl HS8.out.tt ?_
            intro v9 hw hO
            have HT9 := Lib.hid hw
            have HL9 := Lib.hid (hO.whole HS8.out.l (by omega))
            have HD9 := Lib.hid (hO.whole HS8.out.d (by omega))
            have HN9 := Lib.hid (hO.whole HN8.out (by omega))
            have HB9 := Lib.hid (Only.below HS8.out.below hO HS8.out.below.size (Nat.le_refl _))
            have c9 := (HL9.out.cell j).trans (last_at t j hj)
            have f9 := HL9.out.free j
            clear hw hO
            refine hK.out _ _ (HN9.out) (fun HS => ?_)
            clear hK
            try simp only [Act.put, List.setIfInBounds_toArray, List.set_cons_zero, List.set_cons_succ]
            refine handTake 7 (some 136) ?_ rfl rfl (by kernel_rfl) (by kernel_rfl) (by kernel_rfl) (fun _ _ _ h => h) (by rfl) ?_ HS ?_
            rotate_left
            · (intro u hu; (try dsimp only at hu); go_simp; try with_reducible rfl)
            simp only [Act.put, List.setIfInBounds_toArray, List.set_cons_zero, List.set_cons_succ]
            refine wpAnyH_ready (rs := [8]) (by kernel_rfl) (by simp) ?_
            refine AllReadyH.cons rfl (fun K hK => ?_) AllReadyH.nil
            go_simp
            clear HS
            obtain ⟨W, hW⟩ : ∃ W : World, W = v9.setCell ⟨ua.heap.size + 1, j, none⟩ (.int .i64 s) := ⟨_, rfl⟩
            have HT10 : Hid (Whole W ua.heap.size 28 tn.cells) := by rw [hW]; exact HT9.out.far (p := ⟨ua.heap.size + 1, j, none⟩) (by simp) _
            have HL10 : Hid (Whole W (ua.heap.size + 1) 41 (lastC tn)) := by rw [hW, ← HLS.out]; exact HL9.out.set j _
            have HD10 : Hid (Whole W (ua.heap.size + 1 + 1) 42 (toldC t)) := by rw [hW]; exact HD9.out.far (p := ⟨ua.heap.size + 1, j, none⟩) (by simp) _
            have HN10 : Hid (Whole W nb 28 tn.cells) := by rw [hW]; exact HN9.out.far (p := ⟨ua.heap.size + 1, j, none⟩) (by simp; omega) _
            have HB10 : Hid (Below ua.heap.size ua W) := by rw [hW]; exact HB9.out.setCell (p := ⟨ua.heap.size + 1, j, none⟩) (by simp) _
            rw [← hW]
            have HX : ∀ (i : Nat) (v : Value), (t.at_ j).rep.cells[i]? = some v → W.cell? ⟨ua.heap.size + 1 + 1, j * 3 + i, none⟩ = some v := fun i v h => (HD10.out.cell _).trans (told_at t j hj i v h)
            have y0 := HX 0 _ rfl
            have y1 := HX 1 _ rfl
            have y2 := HX 2 _ rfl
            have z0 := HD10.out.free (j * 3)
            have z1 := HD10.out.free (j * 3 + 1)
            have z2 := HD10.out.free (j * 3 + 2)
            simp only [Nat.add_zero] at y0
            clear HX hW c9 f9 HT9 HL9 HD9 HN9 HB9
            refine hK.out _ _ (HN10.out) (fun HS => ?_)
            clear hK
            try simp only [Act.put, List.setIfInBounds_toArray, List.set_cons_zero, List.set_cons_succ]
            refine handTake 9 (some 137) ?_ rfl rfl (by kernel_rfl) (by kernel_rfl) (by kernel_rfl) (fun _ _ _ h => h) (by rfl) ?_ HS ?_
            rotate_left
            · (intro u hu; (try dsimp only at hu); go_simp; try with_reducible rfl)
            simp only [Act.put, List.setIfInBounds_toArray, List.set_cons_zero, List.set_cons_succ]
            refine wpAnyH_ready (rs := [10]) (by kernel_rfl) (by simp) ?_
            refine AllReadyH.cons rfl (fun K hK => ?_) AllReadyH.nil
            go_simp
            clear HS
            have HT11 := Lib.hid (((HT10.out.far (p := ⟨ua.heap.size + 1 + 1, j * 3, none⟩) (by simp; try omega) (.int .i64 (repI k).err)).far (p := ⟨ua.heap.size + 1 + 1, j * 3 + 1, none⟩) (by simp; try omega) (.bool (repI k).found)).far (p := ⟨ua.heap.size + 1 + 1, j * 3 + 2, none⟩) (by simp; try omega) (.string (repI k).val))
            have HL11 := Lib.hid (((HL10.out.far (p := ⟨ua.heap.size + 1 + 1, j * 3, none⟩) (by simp; try omega) (.int .i64 (repI k).err)).far (p := ⟨ua.heap.size + 1 + 1, j * 3 + 1, none⟩) (by simp; try omega) (.bool (repI k).found)).far (p := ⟨ua.heap.size + 1 + 1, j * 3 + 2, none⟩) (by simp; try omega) (.string (repI k).val))
            have HN11 := Lib.hid (((HN10.out.far (p := ⟨ua.heap.size + 1 + 1, j * 3, none⟩) (by simp; try omega) (.int .i64 (repI k).err)).far (p := ⟨ua.heap.size + 1 + 1, j * 3 + 1, none⟩) (by simp; try omega) (.bool (repI k).found)).far (p := ⟨ua.heap.size + 1 + 1, j * 3 + 2, none⟩) (by simp; try omega) (.string (repI k).val))
            have HB11 := Lib.hid (((HB10.out.setCell (p := ⟨ua.heap.size + 1 + 1, j * 3, none⟩) (by simp; try omega) (.int .i64 (repI k).err)).setCell (p := ⟨ua.heap.size + 1 + 1, j * 3 + 1, none⟩) (by simp; try omega) (.bool (repI k).found)).setCell (p := ⟨ua.heap.size + 1 + 1, j * 3 + 2, none⟩) (by simp; try omega) (.string (repI k).val))
            have HD11 := Lib.hid (((HD10.out.set (j * 3) (.int .i64 (repI k).err)).set (j * 3 + 1) (.bool (repI k).found)).set (j * 3 + 2) (.string (repI k).val))
            refine hK.out _ _ (HN11.out) (fun HS => ?_)
            clear hK
            try simp only [Act.put, List.setIfInBounds_toArray, List.set_cons_zero, List.set_cons_succ]
            refine wpAnyH_done (by kernel_rfl) ?_ _
            clear HS
            have e1 := HDS.out
            try dsimp only at e1
            go_wp2_with fail
            go_roundw
            case rel =>
              refine ⟨k + 1, tn, by omega, by go_num, HMN.out, HT11.out, HL11.out, ?_, HB11.out⟩
              rw [← e1]
              exact HD11.out
            case measure => simp [intOf]; omega
          refine AllReadyH.cons rfl (fun K hK => ?_) ?_
          · go_simp
            clear HS
            have HS4 := Lib.hid ((HS3.out.alloc (.cells #[.int .i64 0, .int .i64 0, .bool false, .string { data := #[] }, .int .i64 0, .int .i64 0, .bool false, .string { data := #[] }, .int .i64 0, .int .i64 0, .bool false, .string { data := #[] }, .int .i64 0, .int .i64 0, .bool false, .string { data := #[] }] 28)))
            have HN4 : Hid (Whole (u3.alloc (.cells #[.int .i64 0, .int .i64 0, .bool false, .string { data := #[] }, .int .i64 0, .int .i64 0, .bool false, .string { data := #[] }, .int .i64 0, .int .i64 0, .bool false, .string { data := #[] }, .int .i64 0, .int .i64 0, .bool false, .string { data := #[] }] 28)) u3.heap.size 28 zeroTb.cells) := (Whole.new u3 28 zeroTb.cells)
            have hnb : ua.heap.size + 1 + 1 < u3.heap.size := HS3.out.d.lt
            have hnw : ua.heap.size ≤ u3.heap.size := by omega
            generalize hnbe : u3.heap.size = nb at *
            clear hnbe
            refine hK.out _ _ (HS4.out.tt) (fun HS => ?_)
            clear hK
            try simp only [Act.put, List.setIfInBounds_toArray, List.set_cons_zero, List.set_cons_succ]
            refine wpAnyH_ready (rs := [5]) (by kernel_rfl) (by simp) ?_
            refine AllReadyH.cons rfl (fun K hK => ?_) AllReadyH.nil
            go_simp
            clear HS
            refine (NT.out _).mono ?_
            rintro e5 u5 ⟨rfl, hx⟩
            have HS5 := Lib.hid (HS4.out.call hx)
            have HN5 := Lib.hid (HN4.out.below hx HN4.out.lt)
            have hsz5 := hx.size
            clear hx
            go_wp2_with fail
            refine hK.out _ _ (HS5.out.tt) (fun HS => ?_)
            clear hK
            try simp only [Act.put, List.setIfInBounds_toArray, List.set_cons_zero, List.set_cons_succ]
            refine handTake 6 (some 110) ?_ rfl rfl (by kernel_rfl) (by kernel_rfl) (by kernel_rfl) (fun _ _ _ h => h) (by rfl) ?_ HS ?_
            rotate_left
            · (intro u hu; (try dsimp only at hu); go_simp; try with_reducible rfl)
            simp only [Act.put, List.setIfInBounds_toArray, List.set_cons_zero, List.set_cons_succ]
            refine handTake 7 (some 117) ?_ rfl rfl (by kernel_rfl) (by kernel_rfl) (by kernel_rfl) (fun _ _ _ h => h) (by rfl) ?_ HS ?_
            rotate_left
            · (intro u hu; (try dsimp only at hu); go_simp; try with_reducible rfl)
            simp only [Act.put, List.setIfInBounds_toArray, List.set_cons_zero, List.set_cons_succ]
            refine handTake 8 (some 118) ?_ rfl rfl (by kernel_rfl) (by kernel_rfl) (by kernel_rfl) (fun _ _ _ h => h) (by rfl) ?_ HS ?_
            rotate_left
            · (intro u hu; (try dsimp only at hu); go_simp; try with_reducible rfl)
            simp only [Act.put, List.setIfInBounds_toArray, List.set_cons_zero, List.set_cons_succ]
            refine wpAnyH_ready (rs := [10]) (by kernel_rfl) (by simp) ?_
            refine AllReadyH.cons rfl (fun K hK => ?_) AllReadyH.nil
            clear HS
            refine step_store_table rfl (.tmp 12) (.tmp 117) rfl nb tn zeroTb rfl rfl HN5.out ?_
            intro v6 hw hO
            have HS6 := Lib.hid (HS5.out.only hO hnb hnw)
            have HN6 := Lib.hid hw
            clear hw hO
            refine hK.out _ _ (HS6.out.tt) (fun HS => ?_)
            clear hK
            try simp only [Act.put, List.setIfInBounds_toArray, List.set_cons_zero, List.set_cons_succ]
            refine handTake 11 (some 13) ?_ rfl rfl (by kernel_rfl) (by kernel_rfl) (by kernel_rfl) (fun _ _ _ h => h) (by rfl) ?_ HS ?_
            rotate_left
            · (intro u hu; (try dsimp only at hu); go_simp; try with_reducible rfl)
            simp only [Act.put, List.setIfInBounds_toArray, List.set_cons_zero, List.set_cons_succ]
            refine wpAnyH_done (by kernel_rfl) ?_ _
            clear HS
            go_wp2_with (first | (with_reducible refine wpList_load_table rfl (.tmp 12) rfl nb rfl 28 tn HN6.out ?_) | (refine (MY.out _).mono ?_; rintro e7 u7 ⟨rfl, hx7⟩))
            have HS7 := Lib.hid (HS6.out.call hx7)
            have HN7 := Lib.hid (HN6.out.below hx7 HN6.out.lt)
            clear hx7
            refine wp_region_held_drew (S := (fun u : World => Whole u nb 28 tn.cells)) (by kernel_rfl) (HN7.out.drew) (fun HS => ?_)
            refine handTake 0 (some 130) ?_ rfl rfl (by kernel_rfl) (by kernel_rfl) (by kernel_rfl) (fun _ _ _ h => h) (by rfl) ?_ HS ?_
            rotate_left
            · (intro u hu; (try dsimp only at hu); go_simp; try with_reducible rfl)
            simp only [Act.put, List.setIfInBounds_toArray, List.set_cons_zero, List.set_cons_succ]
            refine handTake 1 (some 131) ?_ rfl rfl (by kernel_rfl) (by kernel_rfl) (by kernel_rfl) (fun _ _ _ h => h) (by rfl) ?_ HS ?_
            rotate_left
            · (intro u hu; (try dsimp only at hu); go_simp; try with_reducible rfl)
            simp only [Act.put, List.setIfInBounds_toArray, List.set_cons_zero, List.set_cons_succ]
            refine handTake 2 (some 132) (.agg tn.cells.toArray) rfl rfl (by kernel_rfl) (by kernel_rfl) (by kernel_rfl) (fun _ _ _ h => h) (by rfl) (fun u hu => exec_load 28 (.tmp 12) rfl nb 28 tn.cells _ rfl hu Try.underlying28 rfl info_table) HS ?_
            simp only [Act.put, List.setIfInBounds_toArray, List.set_cons_zero, List.set_cons_succ]
            refine handTake 3 (some 133) ?_ rfl rfl (by kernel_rfl) (by kernel_rfl) (by kernel_rfl) (fun _ _ _ h => h) (by rfl) ?_ HS ?_
            rotate_left
            · (intro u hu; (try dsimp only at hu); go_simp; try with_reducible rfl)
            simp only [Act.put, List.setIfInBounds_toArray, List.set_cons_zero, List.set_cons_succ]
            refine handTake 4 (some 134) ?_ rfl rfl (by kernel_rfl) (by kernel_rfl) (by kernel_rfl) (fun _ _ _ h => h) (by rfl) ?_ HS ?_
            rotate_left
            · (intro u hu; (try dsimp only at hu); go_simp; try with_reducible rfl)
            simp only [Act.put, List.setIfInBounds_toArray, List.set_cons_zero, List.set_cons_succ]
            refine wpAnyH_ready (rs := [5]) (by kernel_rfl) (by simp) ?_
            refine AllReadyH.cons rfl (fun K hK => ?_) AllReadyH.nil
            go_simp
            clear HS
            refine (reply_any k (by omega) _).mono ?_
            rintro e8 u8 ⟨rfl, hx⟩
            have HS8 := Lib.hid ((HS7.out.drew).call hx)
            have HN8 := Lib.hid ((HN7.out.drew).below hx HN7.out.lt)
            clear hx
            go_wp2_with fail
            refine hK.out _ _ (HN8.out) (fun HS => ?_)
            clear hK
            try simp only [Act.put, List.setIfInBounds_toArray, List.set_cons_zero, List.set_cons_succ]
            refine wpAnyH_ready (rs := [6]) (by kernel_rfl) (by simp) ?_
            refine AllReadyH.cons rfl (fun K hK => ?_) AllReadyH.nil
            clear HS
            refine step_store_table rfl (.tmp 3) (.tmp 132) rfl ua.heap.size tn t rfl rfl HS8.out.tt ?_
            intro v9 hw hO
            have HT9 := Lib.hid hw
            have HL9 := Lib.hid (hO.whole HS8.out.l (by omega))
            have HD9 := Lib.hid (hO.whole HS8.out.d (by omega))
            have HN9 := Lib.hid (hO.whole HN8.out (by omega))
            have HB9 := Lib.hid (Only.below HS8.out.below hO HS8.out.below.size (Nat.le_refl _))
            have c9 := (HL9.out.cell j).trans (last_at t j hj)
            have f9 := HL9.out.free j
            clear hw hO
            refine hK.out _ _ (HN9.out) (fun HS => ?_)
            clear hK
            try simp only [Act.put, List.setIfInBounds_toArray, List.set_cons_zero, List.set_cons_succ]
            refine handTake 7 (some 136) ?_ rfl rfl (by kernel_rfl) (by kernel_rfl) (by kernel_rfl) (fun _ _ _ h => h) (by rfl) ?_ HS ?_
            rotate_left
            · (intro u hu; (try dsimp only at hu); go_simp; try with_reducible rfl)
            simp only [Act.put, List.setIfInBounds_toArray, List.set_cons_zero, List.set_cons_succ]
            refine wpAnyH_ready (rs := [8]) (by kernel_rfl) (by simp) ?_
            refine AllReadyH.cons rfl (fun K hK => ?_) AllReadyH.nil
            go_simp
            clear HS
            obtain ⟨W, hW⟩ : ∃ W : World, W = v9.setCell ⟨ua.heap.size + 1, j, none⟩ (.int .i64 s) := ⟨_, rfl⟩
            have HT10 : Hid (Whole W ua.heap.size 28 tn.cells) := by rw [hW]; exact HT9.out.far (p := ⟨ua.heap.size + 1, j, none⟩) (by simp) _
            have HL10 : Hid (Whole W (ua.heap.size + 1) 41 (lastC tn)) := by rw [hW, ← HLS.out]; exact HL9.out.set j _
            have HD10 : Hid (Whole W (ua.heap.size + 1 + 1) 42 (toldC t)) := by rw [hW]; exact HD9.out.far (p := ⟨ua.heap.size + 1, j, none⟩) (by simp) _
            have HN10 : Hid (Whole W nb 28 tn.cells) := by rw [hW]; exact HN9.out.far (p := ⟨ua.heap.size + 1, j, none⟩) (by simp; omega) _
            have HB10 : Hid (Below ua.heap.size ua W) := by rw [hW]; exact HB9.out.setCell (p := ⟨ua.heap.size + 1, j, none⟩) (by simp) _
            rw [← hW]
            have HX : ∀ (i : Nat) (v : Value), (t.at_ j).rep.cells[i]? = some v → W.cell? ⟨ua.heap.size + 1 + 1, j * 3 + i, none⟩ = some v := fun i v h => (HD10.out.cell _).trans (told_at t j hj i v h)
            have y0 := HX 0 _ rfl
            have y1 := HX 1 _ rfl
            have y2 := HX 2 _ rfl
            have z0 := HD10.out.free (j * 3)
            have z1 := HD10.out.free (j * 3 + 1)
            have z2 := HD10.out.free (j * 3 + 2)
            simp only [Nat.add_zero] at y0
            clear HX hW c9 f9 HT9 HL9 HD9 HN9 HB9
            refine hK.out _ _ (HN10.out) (fun HS => ?_)
            clear hK
            try simp only [Act.put, List.setIfInBounds_toArray, List.set_cons_zero, List.set_cons_succ]
            refine handTake 9 (some 137) ?_ rfl rfl (by kernel_rfl) (by kernel_rfl) (by kernel_rfl) (fun _ _ _ h => h) (by rfl) ?_ HS ?_
            rotate_left
            · (intro u hu; (try dsimp only at hu); go_simp; try with_reducible rfl)
            simp only [Act.put, List.setIfInBounds_toArray, List.set_cons_zero, List.set_cons_succ]
            refine wpAnyH_ready (rs := [10]) (by kernel_rfl) (by simp) ?_
            refine AllReadyH.cons rfl (fun K hK => ?_) AllReadyH.nil
            go_simp
            clear HS
            have HT11 := Lib.hid (((HT10.out.far (p := ⟨ua.heap.size + 1 + 1, j * 3, none⟩) (by simp; try omega) (.int .i64 (repI k).err)).far (p := ⟨ua.heap.size + 1 + 1, j * 3 + 1, none⟩) (by simp; try omega) (.bool (repI k).found)).far (p := ⟨ua.heap.size + 1 + 1, j * 3 + 2, none⟩) (by simp; try omega) (.string (repI k).val))
            have HL11 := Lib.hid (((HL10.out.far (p := ⟨ua.heap.size + 1 + 1, j * 3, none⟩) (by simp; try omega) (.int .i64 (repI k).err)).far (p := ⟨ua.heap.size + 1 + 1, j * 3 + 1, none⟩) (by simp; try omega) (.bool (repI k).found)).far (p := ⟨ua.heap.size + 1 + 1, j * 3 + 2, none⟩) (by simp; try omega) (.string (repI k).val))
            have HN11 := Lib.hid (((HN10.out.far (p := ⟨ua.heap.size + 1 + 1, j * 3, none⟩) (by simp; try omega) (.int .i64 (repI k).err)).far (p := ⟨ua.heap.size + 1 + 1, j * 3 + 1, none⟩) (by simp; try omega) (.bool (repI k).found)).far (p := ⟨ua.heap.size + 1 + 1, j * 3 + 2, none⟩) (by simp; try omega) (.string (repI k).val))
            have HB11 := Lib.hid (((HB10.out.setCell (p := ⟨ua.heap.size + 1 + 1, j * 3, none⟩) (by simp; try omega) (.int .i64 (repI k).err)).setCell (p := ⟨ua.heap.size + 1 + 1, j * 3 + 1, none⟩) (by simp; try omega) (.bool (repI k).found)).setCell (p := ⟨ua.heap.size + 1 + 1, j * 3 + 2, none⟩) (by simp; try omega) (.string (repI k).val))
            have HD11 := Lib.hid (((HD10.out.set (j * 3) (.int .i64 (repI k).err)).set (j * 3 + 1) (.bool (repI k).found)).set (j * 3 + 2) (.string (repI k).val))
            refine hK.out _ _ (HN11.out) (fun HS => ?_)
            clear hK
            try simp only [Act.put, List.setIfInBounds_toArray, List.set_cons_zero, List.set_cons_succ]
            refine wpAnyH_done (by kernel_rfl) ?_ _
            clear HS
            have e1 := HDS.out
            try dsimp only at e1
            go_wp2_with fail
            go_roundw
            case rel =>
              refine ⟨k + 1, tn, by omega, by go_num, HMN.out, HT11.out, HL11.out, ?_, HB11.out⟩
              rw [← e1]
              exact HD11.out
            case measure => simp [intOf]; omega
          exact AllReadyH.nil
        refine AllReadyH.cons rfl (fun K hK => ?_) ?_
        · go_simp
          clear HS
          have HS3 := Lib.hid ((HS2.out.alloc (.cells #[.int .i64 0, .int .i64 0, .bool false, .string { data := #[] }, .int .i64 0, .int .i64 0, .bool false, .string { data := #[] }, .int .i64 0, .int .i64 0, .bool false, .string { data := #[] }, .int .i64 0, .int .i64 0, .bool false, .string { data := #[] }] 28)).drew)
          have HN3 : Hid (Whole (U.alloc (.cells #[.int .i64 0, .int .i64 0, .bool false, .string { data := #[] }, .int .i64 0, .int .i64 0, .bool false, .string { data := #[] }, .int .i64 0, .int .i64 0, .bool false, .string { data := #[] }, .int .i64 0, .int .i64 0, .bool false, .string { data := #[] }] 28)).drew U.heap.size 28 zeroTb.cells) := (Whole.new U 28 zeroTb.cells).drew
          have hnb : ua.heap.size + 1 + 1 < U.heap.size := HS2.out.d.lt
          have hnw : ua.heap.size ≤ U.heap.size := by omega
          generalize hnbe : U.heap.size = nb at *
          clear hnbe
          refine hK.out _ _ (HS3.out.tt) (fun HS => ?_)
          clear hK
          try simp only [Act.put, List.setIfInBounds_toArray, List.set_cons_zero, List.set_cons_succ]
          refine wpAnyH_ready (rs := [4]) (by kernel_rfl) (by simp) ?_
          refine AllReadyH.cons rfl (fun K hK => ?_) AllReadyH.nil
          go_simp
          clear HS
          refine (reply_any k (by omega) _).mono ?_
          rintro e4 u4 ⟨rfl, hx⟩
          have HS4 := Lib.hid (HS3.out.call hx)
          have HN4 := Lib.hid (HN3.out.below hx HN3.out.lt)
          have hsz4 := hx.size
          clear hx
          go_wp2_with fail
          refine hK.out _ _ (HS4.out.tt) (fun HS => ?_)
          clear hK
          try simp only [Act.put, List.setIfInBounds_toArray, List.set_cons_zero, List.set_cons_succ]
          refine wpAnyH_ready (rs := [5]) (by kernel_rfl) (by simp) ?_
          refine AllReadyH.cons rfl (fun K hK => ?_) AllReadyH.nil
          go_simp
          clear HS
          refine (NT.out _).mono ?_
          rintro e5 u5 ⟨rfl, hx⟩
          have HS5 := Lib.hid (HS4.out.call hx)
          have HN5 := Lib.hid (HN4.out.below hx HN4.out.lt)
          have hsz5 := hx.size
          clear hx
          go_wp2_with fail
          refine hK.out _ _ (HS5.out.tt) (fun HS => ?_)
          clear hK
          try simp only [Act.put, List.setIfInBounds_toArray, List.set_cons_zero, List.set_cons_succ]
          refine handTake 6 (some 110) ?_ rfl rfl (by kernel_rfl) (by kernel_rfl) (by kernel_rfl) (fun _ _ _ h => h) (by rfl) ?_ HS ?_
          rotate_left
          · (intro u hu; (try dsimp only at hu); go_simp; try with_reducible rfl)
          simp only [Act.put, List.setIfInBounds_toArray, List.set_cons_zero, List.set_cons_succ]
          refine handTake 7 (some 117) ?_ rfl rfl (by kernel_rfl) (by kernel_rfl) (by kernel_rfl) (fun _ _ _ h => h) (by rfl) ?_ HS ?_
          rotate_left
          · (intro u hu; (try dsimp only at hu); go_simp; try with_reducible rfl)
          simp only [Act.put, List.setIfInBounds_toArray, List.set_cons_zero, List.set_cons_succ]
          refine handTake 8 (some 118) ?_ rfl rfl (by kernel_rfl) (by kernel_rfl) (by kernel_rfl) (fun _ _ _ h => h) (by rfl) ?_ HS ?_
          rotate_left
          · (intro u hu; (try dsimp only at hu); go_simp; try with_reducible rfl)
          simp only [Act.put, List.setIfInBounds_toArray, List.set_cons_zero, List.set_cons_succ]
          refine wpAnyH_ready (rs := [10]) (by kernel_rfl) (by simp) ?_
          refine AllReadyH.cons rfl (fun K hK => ?_) AllReadyH.nil
          clear HS
          refine step_store_table rfl (.tmp 12) (.tmp 117) rfl nb tn zeroTb rfl rfl HN5.out ?_
          intro v6 hw hO
          have HS6 := Lib.hid (HS5.out.only hO hnb hnw)
          have HN6 := Lib.hid hw
          clear hw hO
          refine hK.out _ _ (HS6.out.tt) (fun HS => ?_)
          clear hK
          try simp only [Act.put, List.setIfInBounds_toArray, List.set_cons_zero, List.set_cons_succ]
          refine handTake 11 (some 13) ?_ rfl rfl (by kernel_rfl) (by kernel_rfl) (by kernel_rfl) (fun _ _ _ h => h) (by rfl) ?_ HS ?_
          rotate_left
          · (intro u hu; (try dsimp only at hu); go_simp; try with_reducible rfl)
          simp only [Act.put, List.setIfInBounds_toArray, List.set_cons_zero, List.set_cons_succ]
          refine wpAnyH_done (by kernel_rfl) ?_ _
          clear HS
          go_wp2_with (first | (with_reducible refine wpList_load_table rfl (.tmp 12) rfl nb rfl 28 tn HN6.out ?_) | (refine (MY.out _).mono ?_; rintro e7 u7 ⟨rfl, hx7⟩))
          have HS7 := Lib.hid (HS6.out.call hx7)
          have HN7 := Lib.hid (HN6.out.below hx7 HN6.out.lt)
          clear hx7
          refine wp_region_held_drew (S := (fun u : World => Whole u nb 28 tn.cells)) (by kernel_rfl) (HN7.out.drew) (fun HS => ?_)
          refine handTake 0 (some 130) ?_ rfl rfl (by kernel_rfl) (by kernel_rfl) (by kernel_rfl) (fun _ _ _ h => h) (by rfl) ?_ HS ?_
          rotate_left
          · (intro u hu; (try dsimp only at hu); go_simp; try with_reducible rfl)
          simp only [Act.put, List.setIfInBounds_toArray, List.set_cons_zero, List.set_cons_succ]
          refine handTake 1 (some 131) ?_ rfl rfl (by kernel_rfl) (by kernel_rfl) (by kernel_rfl) (fun _ _ _ h => h) (by rfl) ?_ HS ?_
          rotate_left
          · (intro u hu; (try dsimp only at hu); go_simp; try with_reducible rfl)
          simp only [Act.put, List.setIfInBounds_toArray, List.set_cons_zero, List.set_cons_succ]
          refine handTake 2 (some 132) (.agg tn.cells.toArray) rfl rfl (by kernel_rfl) (by kernel_rfl) (by kernel_rfl) (fun _ _ _ h => h) (by rfl) (fun u hu => exec_load 28 (.tmp 12) rfl nb 28 tn.cells _ rfl hu Try.underlying28 rfl info_table) HS ?_
          simp only [Act.put, List.setIfInBounds_toArray, List.set_cons_zero, List.set_cons_succ]
          refine handTake 3 (some 133) ?_ rfl rfl (by kernel_rfl) (by kernel_rfl) (by kernel_rfl) (fun _ _ _ h => h) (by rfl) ?_ HS ?_
          rotate_left
          · (intro u hu; (try dsimp only at hu); go_simp; try with_reducible rfl)
          simp only [Act.put, List.setIfInBounds_toArray, List.set_cons_zero, List.set_cons_succ]
          refine handTake 4 (some 134) ?_ rfl rfl (by kernel_rfl) (by kernel_rfl) (by kernel_rfl) (fun _ _ _ h => h) (by rfl) ?_ HS ?_
          rotate_left
          · (intro u hu; (try dsimp only at hu); go_simp; try with_reducible rfl)
          simp only [Act.put, List.setIfInBounds_toArray, List.set_cons_zero, List.set_cons_succ]
          refine wpAnyH_ready (rs := [5]) (by kernel_rfl) (by simp) ?_
          refine AllReadyH.cons rfl (fun K hK => ?_) AllReadyH.nil
          go_simp
          clear HS
          refine (reply_any k (by omega) _).mono ?_
          rintro e8 u8 ⟨rfl, hx⟩
          have HS8 := Lib.hid ((HS7.out.drew).call hx)
          have HN8 := Lib.hid ((HN7.out.drew).below hx HN7.out.lt)
          clear hx
          go_wp2_with fail
          refine hK.out _ _ (HN8.out) (fun HS => ?_)
          clear hK
          try simp only [Act.put, List.setIfInBounds_toArray, List.set_cons_zero, List.set_cons_succ]
          refine wpAnyH_ready (rs := [6]) (by kernel_rfl) (by simp) ?_
          refine AllReadyH.cons rfl (fun K hK => ?_) AllReadyH.nil
          clear HS
          refine step_store_table rfl (.tmp 3) (.tmp 132) rfl ua.heap.size tn t rfl rfl HS8.out.tt ?_
          intro v9 hw hO
          have HT9 := Lib.hid hw
          have HL9 := Lib.hid (hO.whole HS8.out.l (by omega))
          have HD9 := Lib.hid (hO.whole HS8.out.d (by omega))
          have HN9 := Lib.hid (hO.whole HN8.out (by omega))
          have HB9 := Lib.hid (Only.below HS8.out.below hO HS8.out.below.size (Nat.le_refl _))
          have c9 := (HL9.out.cell j).trans (last_at t j hj)
          have f9 := HL9.out.free j
          clear hw hO
          refine hK.out _ _ (HN9.out) (fun HS => ?_)
          clear hK
          try simp only [Act.put, List.setIfInBounds_toArray, List.set_cons_zero, List.set_cons_succ]
          refine handTake 7 (some 136) ?_ rfl rfl (by kernel_rfl) (by kernel_rfl) (by kernel_rfl) (fun _ _ _ h => h) (by rfl) ?_ HS ?_
          rotate_left
          · (intro u hu; (try dsimp only at hu); go_simp; try with_reducible rfl)
          simp only [Act.put, List.setIfInBounds_toArray, List.set_cons_zero, List.set_cons_succ]
          refine wpAnyH_ready (rs := [8]) (by kernel_rfl) (by simp) ?_
          refine AllReadyH.cons rfl (fun K hK => ?_) AllReadyH.nil
          go_simp
          clear HS
          obtain ⟨W, hW⟩ : ∃ W : World, W = v9.setCell ⟨ua.heap.size + 1, j, none⟩ (.int .i64 s) := ⟨_, rfl⟩
          have HT10 : Hid (Whole W ua.heap.size 28 tn.cells) := by rw [hW]; exact HT9.out.far (p := ⟨ua.heap.size + 1, j, none⟩) (by simp) _
          have HL10 : Hid (Whole W (ua.heap.size + 1) 41 (lastC tn)) := by rw [hW, ← HLS.out]; exact HL9.out.set j _
          have HD10 : Hid (Whole W (ua.heap.size + 1 + 1) 42 (toldC t)) := by rw [hW]; exact HD9.out.far (p := ⟨ua.heap.size + 1, j, none⟩) (by simp) _
          have HN10 : Hid (Whole W nb 28 tn.cells) := by rw [hW]; exact HN9.out.far (p := ⟨ua.heap.size + 1, j, none⟩) (by simp; omega) _
          have HB10 : Hid (Below ua.heap.size ua W) := by rw [hW]; exact HB9.out.setCell (p := ⟨ua.heap.size + 1, j, none⟩) (by simp) _
          rw [← hW]
          have HX : ∀ (i : Nat) (v : Value), (t.at_ j).rep.cells[i]? = some v → W.cell? ⟨ua.heap.size + 1 + 1, j * 3 + i, none⟩ = some v := fun i v h => (HD10.out.cell _).trans (told_at t j hj i v h)
          have y0 := HX 0 _ rfl
          have y1 := HX 1 _ rfl
          have y2 := HX 2 _ rfl
          have z0 := HD10.out.free (j * 3)
          have z1 := HD10.out.free (j * 3 + 1)
          have z2 := HD10.out.free (j * 3 + 2)
          simp only [Nat.add_zero] at y0
          clear HX hW c9 f9 HT9 HL9 HD9 HN9 HB9
          refine hK.out _ _ (HN10.out) (fun HS => ?_)
          clear hK
          try simp only [Act.put, List.setIfInBounds_toArray, List.set_cons_zero, List.set_cons_succ]
          refine handTake 9 (some 137) ?_ rfl rfl (by kernel_rfl) (by kernel_rfl) (by kernel_rfl) (fun _ _ _ h => h) (by rfl) ?_ HS ?_
          rotate_left
          · (intro u hu; (try dsimp only at hu); go_simp; try with_reducible rfl)
          simp only [Act.put, List.setIfInBounds_toArray, List.set_cons_zero, List.set_cons_succ]
          refine wpAnyH_ready (rs := [10]) (by kernel_rfl) (by simp) ?_
          refine AllReadyH.cons rfl (fun K hK => ?_) AllReadyH.nil
          go_simp
          clear HS
          have HT11 := Lib.hid (((HT10.out.far (p := ⟨ua.heap.size + 1 + 1, j * 3, none⟩) (by simp; try omega) (.int .i64 (repI k).err)).far (p := ⟨ua.heap.size + 1 + 1, j * 3 + 1, none⟩) (by simp; try omega) (.bool (repI k).found)).far (p := ⟨ua.heap.size + 1 + 1, j * 3 + 2, none⟩) (by simp; try omega) (.string (repI k).val))
          have HL11 := Lib.hid (((HL10.out.far (p := ⟨ua.heap.size + 1 + 1, j * 3, none⟩) (by simp; try omega) (.int .i64 (repI k).err)).far (p := ⟨ua.heap.size + 1 + 1, j * 3 + 1, none⟩) (by simp; try omega) (.bool (repI k).found)).far (p := ⟨ua.heap.size + 1 + 1, j * 3 + 2, none⟩) (by simp; try omega) (.string (repI k).val))
          have HN11 := Lib.hid (((HN10.out.far (p := ⟨ua.heap.size + 1 + 1, j * 3, none⟩) (by simp; try omega) (.int .i64 (repI k).err)).far (p := ⟨ua.heap.size + 1 + 1, j * 3 + 1, none⟩) (by simp; try omega) (.bool (repI k).found)).far (p := ⟨ua.heap.size + 1 + 1, j * 3 + 2, none⟩) (by simp; try omega) (.string (repI k).val))
          have HB11 := Lib.hid (((HB10.out.setCell (p := ⟨ua.heap.size + 1 + 1, j * 3, none⟩) (by simp; try omega) (.int .i64 (repI k).err)).setCell (p := ⟨ua.heap.size + 1 + 1, j * 3 + 1, none⟩) (by simp; try omega) (.bool (repI k).found)).setCell (p := ⟨ua.heap.size + 1 + 1, j * 3 + 2, none⟩) (by simp; try omega) (.string (repI k).val))
          have HD11 := Lib.hid (((HD10.out.set (j * 3) (.int .i64 (repI k).err)).set (j * 3 + 1) (.bool (repI k).found)).set (j * 3 + 2) (.string (repI k).val))
          refine hK.out _ _ (HN11.out) (fun HS => ?_)
          clear hK
          try simp only [Act.put, List.setIfInBounds_toArray, List.set_cons_zero, List.set_cons_succ]
          refine wpAnyH_done (by kernel_rfl) ?_ _
          clear HS
          have e1 := HDS.out
          try dsimp only at e1
          go_wp2_with fail
          go_roundw
          case rel =>
            refine ⟨k + 1, tn, by omega, by go_num, HMN.out, HT11.out, HL11.out, ?_, HB11.out⟩
            rw [← e1]
            exact HD11.out
          case measure => simp [intOf]; omega
        exact AllReadyH.nil
      · have hask := ask_same harg hq
        have A1 := ask_any t (j : Int) s
        rw [hask] at A1
        simp only [Rp.cells] at A1
        have A1 := Lib.hid A1
        go_wp2_with fail
        go_region
        have HSO2 := Lib.hid HSO.out.drew
        go_wp2_with (with_reducible refine wpList_load_table rfl (.tmp 3) rfl ua.heap.size rfl 28 t HSO2.out.tt ?_)
        refine (A1.out _).mono ?_
        rintro e1 u1 ⟨rfl, hx⟩
        have HS1 := Lib.hid (HSO2.out.call hx)
        have hlw1 := HS1.out.d.lt
        have hlw2 := HS1.out.l.lt
        have hsz := hx.size
        clear hx A1
        have c_l := (HS1.out.l.cell j).trans (last_at t j hj)
        have HD : ∀ (i : Nat) (v : Value), (t.at_ j).rep.cells[i]? = some v → u1.cell? ⟨ua.heap.size + 1 + 1, j * 3 + i, none⟩ = some v := fun i v h => (HS1.out.d.cell _).trans (told_at t j hj i v h)
        have c_d0 := HD 0 _ rfl
        have c_d1 := HD 1 _ rfl
        have c_d2 := HD 2 _ rfl
        simp only [Nat.add_zero] at c_d0
        clear HD H0l
        generalize (t.at_ j).rep.err = re at *
        generalize (t.at_ j).rep.found = rf at *
        generalize (t.at_ j).rep.val = rv at *
        generalize (t.at_ j).seq = qs at *
        have d1 : decide (qs < s) = false := decide_eq_false (by omega)
        have d2 : (s == qs) = true := by simp; omega
        have d3 : decide (s < qs) = false := decide_eq_false (by omega)
        go_wp2_with fail
        go_quiet (fail)
        go_wp2_with fail
        go_roundw
        case rel => exact ⟨k + 1, t, by omega, by go_num, HM.out, by first | exact HS1.out.alloc _ | exact (HS1.out.alloc _).drewN _⟩
        case measure => simp [intOf]; omega
      · have hask := ask_past harg hq
        have A1 := ask_any t (j : Int) s
        rw [hask] at A1
        simp only [Rp.cells] at A1
        have A1 := Lib.hid A1
        go_wp2_with fail
        go_region
        have HSO2 := Lib.hid HSO.out.drew
        go_wp2_with (with_reducible refine wpList_load_table rfl (.tmp 3) rfl ua.heap.size rfl 28 t HSO2.out.tt ?_)
        refine (A1.out _).mono ?_
        rintro e1 u1 ⟨rfl, hx⟩
        have HS1 := Lib.hid (HSO2.out.call hx)
        have hlw1 := HS1.out.d.lt
        have hlw2 := HS1.out.l.lt
        have hsz := hx.size
        clear hx A1
        have c_l := (HS1.out.l.cell j).trans (last_at t j hj)
        have HD : ∀ (i : Nat) (v : Value), (t.at_ j).rep.cells[i]? = some v → u1.cell? ⟨ua.heap.size + 1 + 1, j * 3 + i, none⟩ = some v := fun i v h => (HS1.out.d.cell _).trans (told_at t j hj i v h)
        have c_d0 := HD 0 _ rfl
        have c_d1 := HD 1 _ rfl
        have c_d2 := HD 2 _ rfl
        simp only [Nat.add_zero] at c_d0
        clear HD H0l
        generalize (t.at_ j).rep.err = re at *
        generalize (t.at_ j).rep.found = rf at *
        generalize (t.at_ j).rep.val = rv at *
        generalize (t.at_ j).seq = qs at *
        have d1 : decide (qs < s) = false := decide_eq_false (by omega)
        have d2 : (s == qs) = false := by simp; omega
        have d3 : decide (s < qs) = true := decide_eq_true hq
        go_wp2_with fail
        go_quiet (fail)
        go_wp2_with fail
        go_roundw
        case rel => exact ⟨k + 1, t, by omega, by go_num, HM.out, by first | exact HS1.out.alloc _ | exact (HS1.out.alloc _).drewN _⟩
        case measure => simp [intOf]; omega
    · go_wp2_with fail
      go_ret
      exact ⟨rfl, HB.out.trans (hso.below.mono HB.out.size)⟩

end Se
end Go.Proofs.Ythnolfgbpifcaaa
