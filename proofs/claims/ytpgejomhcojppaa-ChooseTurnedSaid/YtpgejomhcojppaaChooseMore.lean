/- The law ChooseMore, walked. -/
import Derived.Test.YtpgejomhcojppaaChooseGoes
set_option linter.unusedSimpArgs false
set_option linter.unusedVariables false
namespace Go.Proofs.Ytpgejomhcojppaa
open Go.RowKit
namespace Ch
open Bl Qm
attribute [local go_sem ↓] eql_en neq_en
theorem mod_of (a : Int) (N : Nat) (h : N = 3 ∨ N = 5 ∨ N = 7) : ∃ q : Nat, q < N ∧ wrap64 ((IntKind.u64.wrap a).tmod (N : Int)) = (q : Int) := by
  have h1 : 0 ≤ IntKind.u64.wrap a := by rw [IntKind.wrap_u64]; omega
  rw [Int.tmod_eq_emod_of_nonneg h1]
  have h2 : 0 ≤ IntKind.u64.wrap a % (N : Int) ∧ IntKind.u64.wrap a % (N : Int) < N := by
    constructor
    · apply Int.emod_nonneg; omega
    · apply Int.emod_lt_of_pos; omega
  obtain ⟨q, hq⟩ := Int.eq_ofNat_of_zero_le h2.1
  refine ⟨q, by omega, ?_⟩
  rw [hq]
  unfold wrap64; omega
set_option maxRecDepth 100000 in
set_option maxHeartbeats 16000000 in
theorem chooseMore_is (n : Int) (L : List Rp) (v : Value) (which : Int) (w : World) (hr : Row w w.heap.size v L.length (L.flatMap rpC)) :
    Calls Try.prog 3 #[.int .i64 n, v, .int .i64 which] w fun e w' => e = .returned (.bool true) ∧ Below w.heap.size w w' := by
  obtain ⟨A, c, rfl, _, _⟩ := hr.slice
  have hbd := hr.bound
  have AW := Lib.hid (awake_is w)
  have HMY := Lib.hid (fun (u : World) (h : Row u u.heap.size (.slice A L.length c) L.length (L.flatMap rpC)) => may_is n L (.slice A L.length c) u.heap.size u h)
  cases hb : badB n L
  · obtain ⟨hn357, hnL, _⟩ := not_bad hb
    obtain ⟨N, hN⟩ : ∃ N, L.length = N := ⟨_, rfl⟩
    have hnN : n = (N : Int) := by omega
    subst hnN
    have hN357 : N = 3 ∨ N = 5 ∨ N = 7 := by omega
    obtain ⟨q, hqN, hq⟩ := mod_of which N hN357
    have hN7 : N ≤ 7 := by omega
    have hN0 : 0 < N := by omega
    have hql : q < L.length := by omega
    have hwN : IntKind.u64.wrap (N : Int) = (N : Int) := by rw [IntKind.wrap_u64]; omega
    have hNz : ¬ (N : Int) = 0 := by omega
    have hq0 : (0 : Int) ≤ (q : Int) := by omega
    have hq1 : (q : Int) < (N : Int) := by omega
    obtain ⟨b, o, rfl, hbw, hcell⟩ := row_all hr (by omega)
    have HC := Lib.hid (hcell q hql)
    have HN := Lib.hid hN
    have HX6 : Hid (∀ u ∈ L.flatMap rpC, u.oneCell' = true) := by
      intro u hu
      obtain ⟨x, _, hx⟩ := List.mem_flatMap.1 hu
      exact rpC_one x u hx
    have HL := Lib.hid (flat_len rpC_len L)
    obtain ⟨i0, hi, hz0, hz1, hz2⟩ := info_parts info_rp
    rw [hb, hN] at HMY
    clear hcell hnL hn357 hN357
    by_cases h0 : L[q].st = 0
    · obtain ⟨h1, h2, h3, h4⟩ := more_plain hb hql h0 (a := (⟨0, 1, ⟨0, 0⟩, zeroEn⟩ : Rp)) rfl
      obtain ⟨⟨k1, ⟨sk, sc, sq, ⟨so, sx, sy, sz⟩⟩, f1⟩, hd1⟩ : ∃ d, decR (N : Int) L = d := ⟨_, rfl⟩
      obtain ⟨⟨k2, ⟨tk, tc, tq, ⟨to, tx, ty, tz⟩⟩, f2⟩, hd2⟩ : ∃ d, decR (N : Int) (L.set q (⟨0, 1, ⟨0, 0⟩, zeroEn⟩ : Rp)) = d := ⟨_, rfl⟩
      rw [hd1] at h2 h4
      rw [hd2] at h3 h4
      dsimp only at h2 h3 h4
      subst h2 h3
      have D1 := dec_any _ L hd1 (.slice (some ⟨b, o, none⟩) L.length c)
      have D2 := dec_any _ (L.set q (⟨0, 1, ⟨0, 0⟩, zeroEn⟩ : Rp)) hd2
      rw [List.length_set] at D2
      simp only [enC] at D1 D2
      have D1 := Lib.hid D1
      have D2 := Lib.hid D2
      have H4 := Lib.hid h4
      have H0 := Lib.hid h0
      have HQL := Lib.hid hql
      rw [hN] at D1 D2 HL hbd hr ⊢
      clear hd1 hd2 h4 h0 h1 hN hb
      have HB_w := Lib.hid (Below.refl w.heap.size w)
      have R_L_w : Hid (Row w w.heap.size (.slice (some ⟨b, o, none⟩) N c) N (L.flatMap rpC)) := hr
      clear hr
      go_enter Try.func3, Try.ntmps3
      go_wp2_with fail
      refine (AW.out).mono ?_
      rintro e x1 ⟨rfl, hx⟩
      clear AW
      have HB_x1 := Lib.hid (HB_w.out.trans (Below.mono hx (HB_w.out.size)))
      have R_L_x1 : Hid (Row x1 x1.heap.size (.slice (some ⟨b, o, none⟩) N c) N (L.flatMap rpC)) := (R_L_w.out.below hx).more (Below.size hx)
      clear hx HB_w R_L_w
      go_wp2_with fail
      have MY := HMY.out _ R_L_x1.out
      refine MY.mono ?_
      rintro e u ⟨rfl, rfl⟩
      clear MY HMY
      have y1 := HC.out x1 HB_x1.out 1 _ rfl
      rw [H0.out] at y1
      have HM0 : Hid ((x1.alloc (.cells #[] 33)).ownsRow x1.heap.size 33 11 (.slice (some ⟨x1.heap.size, 0, none⟩) 0 0) 0 []) := World.ownsRow_made x1 #[] 0 (Nat.le_refl _) (Nat.zero_le _) (by simp)
      have HRA : Hid (Row (x1.alloc (.cells #[] 33)) x1.heap.size (.slice (some ⟨b, o, none⟩) N c) N (L.flatMap rpC)) := R_L_x1.out.alloc (Nat.le_refl _) _
      clear H0 HC
      go_wp2_with (at_builtin
                   refine wpList_append_foot _ rfl (.tmp 32) (.tmp 33) _ rfl x1.heap.size 33 i0 _ 11 112 Try.underlying22 hi hz0 hz1 hz2 rfl (by decide) _ 0 [] rfl HM0.out x1.heap.size _ N (L.flatMap rpC) rfl HRA.out HL.out HX6.out (by unfold maxLen; omega) (by omega) (by simp) ?_
                   intro v7 w7 hown7 hg7 hv7
                   have HB7 := Lib.hid ((be1 x1 _).trans (below_grown _ HM0.out (by simp) hg7))
                   rw [Nat.zero_add] at hown7
                   obtain ⟨gb, cap, rfl, hgb⟩ := own_form hown7 hN0
                   have hth := own_there hown7 (q * 11) 11 (by omega)
                   have HO7 := Lib.hid hown7
                   obtain ⟨e0, t0c⟩ := Option.isSome_iff_exists.1 (hth 0 (by omega)).1; have t0f := (hth 0 (by omega)).2
                   obtain ⟨e1, t1c⟩ := Option.isSome_iff_exists.1 (hth 1 (by omega)).1; have t1f := (hth 1 (by omega)).2
                   obtain ⟨e2, t2c⟩ := Option.isSome_iff_exists.1 (hth 2 (by omega)).1; have t2f := (hth 2 (by omega)).2
                   obtain ⟨e3, t3c⟩ := Option.isSome_iff_exists.1 (hth 3 (by omega)).1; have t3f := (hth 3 (by omega)).2
                   obtain ⟨e4, t4c⟩ := Option.isSome_iff_exists.1 (hth 4 (by omega)).1; have t4f := (hth 4 (by omega)).2
                   obtain ⟨e5, t5c⟩ := Option.isSome_iff_exists.1 (hth 5 (by omega)).1; have t5f := (hth 5 (by omega)).2
                   obtain ⟨e6, t6c⟩ := Option.isSome_iff_exists.1 (hth 6 (by omega)).1; have t6f := (hth 6 (by omega)).2
                   obtain ⟨e7, t7c⟩ := Option.isSome_iff_exists.1 (hth 7 (by omega)).1; have t7f := (hth 7 (by omega)).2
                   obtain ⟨e8, t8c⟩ := Option.isSome_iff_exists.1 (hth 8 (by omega)).1; have t8f := (hth 8 (by omega)).2
                   obtain ⟨e9, t9c⟩ := Option.isSome_iff_exists.1 (hth 9 (by omega)).1; have t9f := (hth 9 (by omega)).2
                   obtain ⟨e10, t10c⟩ := Option.isSome_iff_exists.1 (hth 10 (by omega)).1; have t10f := (hth 10 (by omega)).2
                   simp only [Nat.add_zero] at t0c t0f
                   clear hown7 hg7 hv7 hth y1)
      rw [← sc11]
      obtain ⟨x8, hx8⟩ : ∃ u : World, u = w7.setCells gb (q * 11) [.int .i64 0, .int .u8 1, .int .i64 0, .int .i64 0, .int .u8 0, .int .i64 0, .int .i64 0, .int .u8 0, .string { data := #[] }, .string { data := #[] }, .string { data := #[] }] := ⟨_, rfl⟩
      rw [← hx8]
      have hx : Below x1.heap.size x1 x8 := by
        rw [hx8]
        exact HB7.out.trans ((foot_mids (F := fun j => j = gb) rfl [.int .i64 0, .int .u8 1, .int .i64 0, .int .i64 0, .int .u8 0, .int .i64 0, .int .i64 0, .int .u8 0, .string { data := #[] }, .string { data := #[] }, .string { data := #[] }] (q * 11) (Foot.refl _ w7)).below (fun k hk => by rw [hk]; exact hgb) HB7.out.size)
      have hown8 : x8.ownsRow x1.heap.size 33 11 (.slice (some ⟨gb, 0, none⟩) N cap) N ((L.set q (⟨0, 1, ⟨0, 0⟩, zeroEn⟩ : Rp)).flatMap rpC) := by
        rw [hx8]
        have h5 := own_mids (rpC (⟨0, 1, ⟨0, 0⟩, zeroEn⟩ : Rp)) (q * 11) HO7.out
        rw [List.nil_append, flat_mids rpC_len L _ _ HQL.out] at h5
        exact h5
      clear hx8 t0c t0f t1c t1f t2c t2f t3c t3f t4c t4f t5c t5f t6c t6f t7c t7f t8c t8f t9c t9f t10c t10f
      have HB_x8 := Lib.hid (HB_x1.out.trans (Below.mono hx (HB_x1.out.size)))
      have R_L_x8 : Hid (Row x8 x8.heap.size (.slice (some ⟨b, o, none⟩) N c) N (L.flatMap rpC)) := (R_L_x1.out.below hx).more (Below.size hx)
      clear hx HB_x1 R_L_x1
      have R_M_x8 : Hid (Row x8 x8.heap.size (.slice (some ⟨gb, 0, none⟩) N cap) N ((L.set q (⟨0, 1, ⟨0, 0⟩, zeroEn⟩ : Rp)).flatMap rpC)) := Row.of_own hown8
      clear hown8 HO7 HB7 HM0 HRA
      refine (D1.out _ R_L_x8.out).mono ?_
      rintro e x2 ⟨rfl, hx⟩
      clear D1
      have HB_x2 := Lib.hid (HB_x8.out.trans (Below.mono hx (HB_x8.out.size)))
      have R_L_x2 : Hid (Row x2 x2.heap.size (.slice (some ⟨b, o, none⟩) N c) N (L.flatMap rpC)) := (R_L_x8.out.below hx).more (Below.size hx)
      have R_M_x2 : Hid (Row x2 x2.heap.size (.slice (some ⟨gb, 0, none⟩) N cap) N ((L.set q (⟨0, 1, ⟨0, 0⟩, zeroEn⟩ : Rp)).flatMap rpC)) := (R_M_x8.out.below hx).more (Below.size hx)
      clear hx HB_x8 R_L_x8 R_M_x8
      obtain ⟨x3, hx3⟩ : ∃ u : World, u = x2.alloc (.cells #[.int .u8 (sk : Nat), .int .i64 sc, .int .i64 sq, .int .u8 (so : Nat), .string sx, .string sy, .string sz] 31) := ⟨_, rfl⟩
      have hx : Below x2.heap.size x2 x3 := by rw [hx3]; exact be1 x2 _
      have hn : Whole x3 x2.heap.size 31 [.int .u8 (sk : Nat), .int .i64 sc, .int .i64 sq, .int .u8 (so : Nat), .string sx, .string sy, .string sz] := by rw [hx3]; exact Whole.new x2 _ _
      have HB_x3 := Lib.hid (HB_x2.out.trans (Below.mono hx (HB_x2.out.size)))
      have R_L_x3 : Hid (Row x3 x3.heap.size (.slice (some ⟨b, o, none⟩) N c) N (L.flatMap rpC)) := (R_L_x2.out.below hx).more (Below.size hx)
      have R_M_x3 : Hid (Row x3 x3.heap.size (.slice (some ⟨gb, 0, none⟩) N cap) N ((L.set q (⟨0, 1, ⟨0, 0⟩, zeroEn⟩ : Rp)).flatMap rpC)) := (R_M_x2.out.below hx).more (Below.size hx)
      clear hx HB_x2 R_L_x2 R_M_x2
      have E_S_x3 : Hid (Whole x3 (x2.heap.size) 31 [.int .u8 (sk : Nat), .int .i64 sc, .int .i64 sq, .int .u8 (so : Nat), .string sx, .string sy, .string sz]) := Lib.hid hn
      clear hn
      go_wp2_with fail
      rw [← hx3]
      clear hx3
      refine (D2.out _ _ R_M_x3.out).mono ?_
      rintro e x4 ⟨rfl, hx⟩
      clear D2
      have HB_x4 := Lib.hid (HB_x3.out.trans (Below.mono hx (HB_x3.out.size)))
      have R_L_x4 : Hid (Row x4 x4.heap.size (.slice (some ⟨b, o, none⟩) N c) N (L.flatMap rpC)) := (R_L_x3.out.below hx).more (Below.size hx)
      have R_M_x4 : Hid (Row x4 x4.heap.size (.slice (some ⟨gb, 0, none⟩) N cap) N ((L.set q (⟨0, 1, ⟨0, 0⟩, zeroEn⟩ : Rp)).flatMap rpC)) := (R_M_x3.out.below hx).more (Below.size hx)
      have E_S_x4 : Hid (Whole x4 (x2.heap.size) 31 [.int .u8 (sk : Nat), .int .i64 sc, .int .i64 sq, .int .u8 (so : Nat), .string sx, .string sy, .string sz]) := E_S_x3.out.below hx E_S_x3.out.lt
      clear hx HB_x3 R_L_x3 R_M_x3 E_S_x3
      have hec := E_S_x4.out
      have c_S_0 := hec.cell 0; have f_S_0 := hec.free 0; have c_S_1 := hec.cell 1; have f_S_1 := hec.free 1; have c_S_2 := hec.cell 2; have f_S_2 := hec.free 2; have c_S_3 := hec.cell 3; have f_S_3 := hec.free 3; have c_S_4 := hec.cell 4; have f_S_4 := hec.free 4; have c_S_5 := hec.cell 5; have f_S_5 := hec.free 5; have c_S_6 := hec.cell 6; have f_S_6 := hec.free 6; have l_S := hec.lt
      simp only [List.getElem?_cons_zero, List.getElem?_cons_succ] at c_S_0 c_S_1 c_S_2 c_S_3 c_S_4 c_S_5 c_S_6
      clear hec
      have HBE : Hid (Below w.heap.size w (x4.alloc (.cells #[.int .u8 (tk : Nat), .int .i64 tc, .int .i64 tq, .int .u8 (to : Nat), .string tx, .string ty, .string tz] 31))) := Lib.hid (HB_x4.out.alloc HB_x4.out.size _)
      rcases H4.out with h | ⟨h, he⟩
      · subst h
        clear H4
        go_wp2_with fail
        go_ret
        exact ⟨rfl, HBE.out⟩
      · subst h
        clear H4
        simp only [En.mk.injEq, Op.mk.injEq] at he
        obtain ⟨h1, rfl, rfl, h2, rfl, rfl, rfl⟩ := he
        subst h1 h2
        have QE := eqE_self (sk : Nat) sc sq (so : Nat) sx sy sz
        go_wp2_with fail
        all_goals go_ret
        all_goals exact ⟨by simp, HBE.out⟩
    · have H0 : Hid (¬ L[q].st = 0) := h0
      rw [hN] at hbd hr ⊢
      clear h0 hN hb
      have HB_w := Lib.hid (Below.refl w.heap.size w)
      have R_L_w : Hid (Row w w.heap.size (.slice (some ⟨b, o, none⟩) N c) N (L.flatMap rpC)) := hr
      clear hr
      go_enter Try.func3, Try.ntmps3
      go_wp2_with fail
      refine (AW.out).mono ?_
      rintro e x5 ⟨rfl, hx⟩
      clear AW
      have HB_x5 := Lib.hid (HB_w.out.trans (Below.mono hx (HB_w.out.size)))
      have R_L_x5 : Hid (Row x5 x5.heap.size (.slice (some ⟨b, o, none⟩) N c) N (L.flatMap rpC)) := (R_L_w.out.below hx).more (Below.size hx)
      clear hx HB_w R_L_w
      go_wp2_with fail
      have MY := HMY.out _ R_L_x5.out
      refine MY.mono ?_
      rintro e u ⟨rfl, rfl⟩
      clear MY HMY
      have y1 := HC.out x5 HB_x5.out 1 _ rfl
      have hne : ((L[q].st : Int) == 0) = false := by have := H0.out; simp; omega
      generalize L[q].st = xs at y1 hne
      clear H0 HC
      go_wp2_with fail
      go_ret
      exact ⟨rfl, HB_x5.out⟩
  · rw [hb] at HMY
    generalize hN : L.length = N at *
    clear hN hb
    have HB_w := Lib.hid (Below.refl w.heap.size w)
    have R_L_w : Hid (Row w w.heap.size (.slice A N c) N (L.flatMap rpC)) := hr
    clear hr
    go_enter Try.func3, Try.ntmps3
    go_wp2_with fail
    refine (AW.out).mono ?_
    rintro e x1 ⟨rfl, hx⟩
    clear AW
    have HB_x1 := Lib.hid (HB_w.out.trans (Below.mono hx (HB_w.out.size)))
    have R_L_x1 : Hid (Row x1 x1.heap.size (.slice A N c) N (L.flatMap rpC)) := (R_L_w.out.below hx).more (Below.size hx)
    clear hx HB_w R_L_w
    go_wp2_with fail
    have MY := HMY.out _ R_L_x1.out
    refine MY.mono ?_
    rintro e u ⟨rfl, rfl⟩
    clear MY HMY
    go_wp2_with fail
    go_ret
    exact ⟨rfl, HB_x1.out⟩
end Ch
end Go.Proofs.Ytpgejomhcojppaa
