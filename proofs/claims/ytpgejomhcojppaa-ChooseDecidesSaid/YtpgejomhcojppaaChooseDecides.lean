/- The law ChooseDecides, walked: of any reports what may be proposed is what the chapter says. -/
import Derived.Test.YtpgejomhcojppaaChooseRdecide
import Derived.Test.YtpgejomhcojppaaChooseSame
set_option linter.unusedSimpArgs false
set_option linter.unusedVariables false
namespace Go.Proofs.Ytpgejomhcojppaa
open Go.RowKit
namespace Ch
open Bl Qm
attribute [local go_sem ↓] eql_en
theorem decR_le (n : Int) (L : List Rp) : (decR n L).1 ≤ 2 := by
  unfold decR
  split
  · simp
  · split
    · simp
    · split <;> simp
set_option maxHeartbeats 2000000 in
theorem chooseDecides_is (n : Int) (L : List Rp) (v : Value) (w : World) (hr : Row w w.heap.size v L.length (L.flatMap rpC)) :
    Calls Try.prog 5 #[.int .i64 n, v] w fun e w' => e = .returned (.bool true) ∧ Below w.heap.size w w' := by
  obtain ⟨A, c, rfl, _, _⟩ := hr.slice
  have hbd := hr.bound
  by_cases hL : L.length ≤ 20
  · have HD : Hid (∀ (v : Value) (u : World), Row u u.heap.size v L.length (L.flatMap rpC) → Calls Try.prog 11 #[.int .i64 n, v] u fun e w' => e = .returned (.tuple #[.int .u8 ((decR n L).1 : Nat), .agg (enC (decR n L).2.1).toArray, .int .i64 (decR n L).2.2]) ∧ Below u.heap.size u w') := fun v u h => by
      rw [← decW_eq]; exact decide_is n L v u.heap.size u (Nat.le_refl _) h
    have HR : Hid (∀ (v : Value) (u : World), Row u u.heap.size v L.length (L.flatMap rpC) → Calls Try.prog 16 #[.int .i64 n, v] u fun e w' => e = .returned (.tuple #[.int .i64 (((decR n L).1 : Nat) : Int), .agg (enC (decR n L).2.1).toArray, .int .i64 (decR n L).2.2]) ∧ Below u.heap.size u w') := fun v u h => rdecide_is n L v u.heap.size u (Nat.le_refl _) h
    have hle := decR_le n L
    have C := Lib.hid (copy_is L (.slice A L.length c) w.heap.size w (Nat.le_refl _) hr (by omega))
    have HSA : Hid (∀ (v v2 : Value) (u : World), Row u u.heap.size v L.length (L.flatMap rpC) → Row u u.heap.size v2 L.length (L.flatMap rpC) → Calls Try.prog 17 #[v, v2] u fun e w' => e = .returned (.bool true) ∧ Below u.heap.size u w') := fun v v2 u h h2 => same_is L v v2 u.heap.size u.heap.size u (Nat.le_refl _) h (Nat.le_refl _) h2
    generalize decR n L = d at *
    obtain ⟨k, ⟨ek, ec, eq, ⟨ok, oa, ob, oc⟩⟩, f⟩ := d
    simp only [enC] at HD HR hle
    generalize hN : L.length = N at *
    have QE := eqE_self (ek : Nat) ec eq (ok : Nat) oa ob oc
    have hk3 : wrap64 (k : Int) = (k : Int) := by unfold wrap64; omega
    clear hN hle
    have HB_w := Lib.hid (Below.refl w.heap.size w)
    have R_L_w : Hid (Row w w.heap.size (.slice A N c) N (L.flatMap rpC)) := hr
    clear hr
    go_enter Try.func5, Try.ntmps5
    go_wp2_with fail
    refine (C.out).mono ?_
    rintro e x1 ⟨v1, rfl, ho, hx⟩
    obtain ⟨A1, c1, rfl, _, _⟩ := (Row.of_own ho).slice
    have HB_x1 := Lib.hid (HB_w.out.trans (Below.mono hx (HB_w.out.size)))
    have R_L_x1 : Hid (Row x1 x1.heap.size (.slice A N c) N (L.flatMap rpC)) := (R_L_w.out.below hx).more (Below.size hx)
    clear hx HB_w R_L_w
    have R_M_x1 : Hid (Row x1 x1.heap.size (.slice A1 N c1) N (L.flatMap rpC)) := Row.of_own ho
    clear ho C
    go_wp2_with fail
    refine (HD.out _ _ R_M_x1.out).mono ?_
    rintro e x2 ⟨rfl, hx⟩
    have HB_x2 := Lib.hid (HB_x1.out.trans (Below.mono hx (HB_x1.out.size)))
    have R_L_x2 : Hid (Row x2 x2.heap.size (.slice A N c) N (L.flatMap rpC)) := (R_L_x1.out.below hx).more (Below.size hx)
    have R_M_x2 : Hid (Row x2 x2.heap.size (.slice A1 N c1) N (L.flatMap rpC)) := (R_M_x1.out.below hx).more (Below.size hx)
    clear hx HB_x1 R_L_x1 R_M_x1
    obtain ⟨x3, hx3⟩ : ∃ u : World, u = x2.alloc (.cells #[.int .u8 (ek : Nat), .int .i64 ec, .int .i64 eq, .int .u8 (ok : Nat), .string oa, .string ob, .string oc] 31) := ⟨_, rfl⟩
    have hx : Below x2.heap.size x2 x3 := by rw [hx3]; exact be1 x2 _
    have hn : Whole x3 x2.heap.size 31 [.int .u8 (ek : Nat), .int .i64 ec, .int .i64 eq, .int .u8 (ok : Nat), .string oa, .string ob, .string oc] := by rw [hx3]; exact Whole.new x2 _ _
    have HB_x3 := Lib.hid (HB_x2.out.trans (Below.mono hx (HB_x2.out.size)))
    have R_L_x3 : Hid (Row x3 x3.heap.size (.slice A N c) N (L.flatMap rpC)) := (R_L_x2.out.below hx).more (Below.size hx)
    have R_M_x3 : Hid (Row x3 x3.heap.size (.slice A1 N c1) N (L.flatMap rpC)) := (R_M_x2.out.below hx).more (Below.size hx)
    clear hx HB_x2 R_L_x2 R_M_x2
    have E_X_x3 : Hid (Whole x3 (x2.heap.size) 31 [.int .u8 (ek : Nat), .int .i64 ec, .int .i64 eq, .int .u8 (ok : Nat), .string oa, .string ob, .string oc]) := Lib.hid hn
    clear hn
    go_wp2_with fail
    rw [← hx3]
    clear hx3
    refine (HR.out _ _ R_L_x3.out).mono ?_
    rintro e x4 ⟨rfl, hx⟩
    have HB_x4 := Lib.hid (HB_x3.out.trans (Below.mono hx (HB_x3.out.size)))
    have R_L_x4 : Hid (Row x4 x4.heap.size (.slice A N c) N (L.flatMap rpC)) := (R_L_x3.out.below hx).more (Below.size hx)
    have R_M_x4 : Hid (Row x4 x4.heap.size (.slice A1 N c1) N (L.flatMap rpC)) := (R_M_x3.out.below hx).more (Below.size hx)
    have E_X_x4 : Hid (Whole x4 (x2.heap.size) 31 [.int .u8 (ek : Nat), .int .i64 ec, .int .i64 eq, .int .u8 (ok : Nat), .string oa, .string ob, .string oc]) := E_X_x3.out.below hx E_X_x3.out.lt
    clear hx HB_x3 R_L_x3 R_M_x3 E_X_x3
    have hec := E_X_x4.out
    have c_X_0 := hec.cell 0; have f_X_0 := hec.free 0; have c_X_1 := hec.cell 1; have f_X_1 := hec.free 1; have c_X_2 := hec.cell 2; have f_X_2 := hec.free 2; have c_X_3 := hec.cell 3; have f_X_3 := hec.free 3; have c_X_4 := hec.cell 4; have f_X_4 := hec.free 4; have c_X_5 := hec.cell 5; have f_X_5 := hec.free 5; have c_X_6 := hec.cell 6; have f_X_6 := hec.free 6; have l_X := hec.lt
    simp only [List.getElem?_cons_zero, List.getElem?_cons_succ] at c_X_0 c_X_1 c_X_2 c_X_3 c_X_4 c_X_5 c_X_6
    clear hec
    have HS := HSA.out (.slice A1 N c1) (.slice A N c) (x4.alloc (.cells #[.int .u8 (ek : Nat), .int .i64 ec, .int .i64 eq, .int .u8 (ok : Nat), .string oa, .string ob, .string oc] 31)) (((R_M_x4.out.alloc (Nat.le_refl _) _)).more (by simp)) (((R_L_x4.out.alloc (Nat.le_refl _) _)).more (by simp))
    have HB7 : Hid (Below w.heap.size w (x4.alloc (.cells #[.int .u8 (ek : Nat), .int .i64 ec, .int .i64 eq, .int .u8 (ok : Nat), .string oa, .string ob, .string oc] 31))) := Lib.hid (HB_x4.out.alloc HB_x4.out.size _)
    have HS := Lib.hid HS
    go_wp2_with fail
    refine HS.out.mono ?_
    rintro e u9 ⟨rfl, hx⟩
    have HB9 := Lib.hid (HB7.out.trans (hx.mono HB7.out.size))
    clear hx HS
    go_wp2_with fail
    go_ret
    exact ⟨rfl, HB9.out⟩
  · have hL1 : (20 : Int) < (L.length : Int) := by omega
    generalize hN : L.length = N at *
    clear hN hr
    go_enter Try.func5, Try.ntmps5
    go_wp2_with fail
    go_ret
    exact ⟨rfl, Below.refl _ _⟩
end Ch
end Go.Proofs.Ytpgejomhcojppaa
