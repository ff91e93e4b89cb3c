/- May these be reports of n replicas? -/
import Derived.Test.YtpgejomhcojppaaChooseRdecide
import Derived.Test.YtpgejomhcojppaaChooseAwake
set_option linter.unusedSimpArgs false
set_option linter.unusedVariables false
namespace Go.Proofs.Ytpgejomhcojppaa
open Go.RowKit
namespace Ch
open Bl Qm
set_option maxHeartbeats 1000000 in
theorem may_is (n : Int) (L : List Rp) (v : Value) (B : Nat) (w : World) (hr : Row w B v L.length (L.flatMap rpC)) :
    Calls Try.prog 10 #[.int .i64 n, v] w fun e w' => e = .returned (.bool (!badB n L)) ∧ w = w' := by
  obtain ⟨A, c, rfl, _, _⟩ := hr.slice
  have hbd := hr.bound
  obtain ⟨N, hN⟩ : ∃ N, L.length = N := ⟨_, rfl⟩
  have HN := Lib.hid hN
  have HR := Lib.hid hr
  clear hr
  cases hc : crowdB n
  · have HBAD : Hid (badB n L = true) := by show badB n L = true; unfold badB; rw [hc]; rfl
    have h357 : n ≠ 3 ∧ n ≠ 5 ∧ n ≠ 7 := by
      refine ⟨?_, ?_, ?_⟩ <;> (intro h; rw [crowd_iff.2 (by omega)] at hc; cases hc)
    have h3 : (n == 3) = false := by simpa using h357.1
    have h5 : (n == 5) = false := by simpa using h357.2.1
    have h7 : (n == 7) = false := by simpa using h357.2.2
    rw [hN] at hbd ⊢
    clear hc h357 hN
    go_enter Try.func10, Try.ntmps10
    go_wp2_with fail
    go_ret
    exact ⟨by rw [HBAD.out]; rfl, rfl⟩
  · by_cases hn : (N : Int) = n
    · subst hn
      have h357 := crowd_iff.1 hc
      have HC := Lib.hid hc
      have hL : N ≤ 7 := by omega
      have hN0 : 0 < N := by omega
      have hrr := HR.out
      obtain ⟨b, o, rfl, hcell⟩ := row_cells hrr (by omega)
      have HCE := Lib.hid hcell
      have HG : Hid ((if (N : Int) = 3 then false else if (N : Int) = 5 then false else !decide ((N : Int) = 7)) = false) := by
        show _ = false
        rcases h357 with h | h | h <;> simp [h]
      rw [hN] at hbd ⊢
      clear hc hrr hcell hN
      rcases h357 with h | h | h
      · obtain rfl : N = 3 := by omega
        clear HG h
        go_enter Try.func10, Try.ntmps10
        go_wp2_with fail
        go_loopw [5] (fun iv wr => ∃ k : Nat, k ≤ 3 ∧ iv = .int .i64 k ∧ (L.take k).any (fun x => decide (4 < x.st)) = false ∧ wr = w) (fun iv _ => 3 - (intOf iv).toNat)
        case atStart => exact ⟨0, Nat.zero_le _, rfl, by simp, rfl⟩
        case round =>
          obtain ⟨k, hk, rfl, hany, rfl⟩ := hrel
          have HANY := Lib.hid hany
          clear hany
          have hk0 : (0 : Int) ≤ (k : Int) := by omega
          by_cases hlt : k < 3
          · have hl : k < L.length := by rw [HN.out]; exact hlt
            have hk1 : (k : Int) < 3 := by omega
            obtain ⟨y1, _, _⟩ := HCE.out k hl _ (Below.refl _ _)
            have HNX : Hid ((L.take (k + 1)).any (fun x => decide (4 < x.st)) = decide (4 < L[k].st)) := by
              show (L.take (k + 1)).any _ = _
              rw [List.take_succ_eq_append_getElem hl, List.any_append, HANY.out]; simp
            have HYES : Hid (4 < L[k].st → badB (((3 : Nat) : Int)) L = true) := fun h => by
              unfold badB
              rw [Bool.or_eq_true]
              right
              exact List.any_eq_true.2 ⟨L[k], List.getElem_mem hl, by simpa using h⟩
            generalize L[k] = x at *
            obtain ⟨xi, xs, ⟨xr, xp⟩, ⟨ek, ec, eq, ⟨ok, oa, ob, oc⟩⟩⟩ := x
            dsimp only at y1 HNX HYES
            by_cases h4 : 4 < xs
            · have h4i : (4 : Int) < (xs : Int) := by omega
              have HBAD := Lib.hid (HYES.out h4)
              go_wp2_with fail
              go_ret
              exact ⟨ret_bool (congrArg (!·) HBAD.out).symm, rfl⟩
            · have h4i : ¬ (4 : Int) < (xs : Int) := by omega
              have HX2 : Hid ((L.take (k + 1)).any (fun x => decide (4 < x.st)) = false) := by show (L.take (k + 1)).any _ = false; rw [HNX.out]; simp; omega
              clear HNX HYES
              go_wp2_with fail
              go_roundw
              case rel => exact ⟨k + 1, by omega, by go_num, HX2.out, by trivial⟩
              case measure => show 3 - ((k : Int) + 1).toNat < 3 - (k : Int).toNat; omega
          · have e : k = 3 := by omega
            subst e
            have HBAD : Hid (badB (((3 : Nat) : Int)) L = false) := by
              show badB _ L = false
              have h := HANY.out
              rw [show L.take 3 = L by rw [← HN.out, List.take_length]] at h
              unfold badB
              rw [HC.out, h, HN.out]; simp
            go_wp2_with fail
            go_ret
            exact ⟨ret_bool (congrArg (!·) HBAD.out).symm, rfl⟩
      · obtain rfl : N = 5 := by omega
        clear HG h
        go_enter Try.func10, Try.ntmps10
        go_wp2_with fail
        go_loopw [5] (fun iv wr => ∃ k : Nat, k ≤ 5 ∧ iv = .int .i64 k ∧ (L.take k).any (fun x => decide (4 < x.st)) = false ∧ wr = w) (fun iv _ => 5 - (intOf iv).toNat)
        case atStart => exact ⟨0, Nat.zero_le _, rfl, by simp, rfl⟩
        case round =>
          obtain ⟨k, hk, rfl, hany, rfl⟩ := hrel
          have HANY := Lib.hid hany
          clear hany
          have hk0 : (0 : Int) ≤ (k : Int) := by omega
          by_cases hlt : k < 5
          · have hl : k < L.length := by rw [HN.out]; exact hlt
            have hk1 : (k : Int) < 5 := by omega
            obtain ⟨y1, _, _⟩ := HCE.out k hl _ (Below.refl _ _)
            have HNX : Hid ((L.take (k + 1)).any (fun x => decide (4 < x.st)) = decide (4 < L[k].st)) := by
              show (L.take (k + 1)).any _ = _
              rw [List.take_succ_eq_append_getElem hl, List.any_append, HANY.out]; simp
            have HYES : Hid (4 < L[k].st → badB (((5 : Nat) : Int)) L = true) := fun h => by
              unfold badB
              rw [Bool.or_eq_true]
              right
              exact List.any_eq_true.2 ⟨L[k], List.getElem_mem hl, by simpa using h⟩
            generalize L[k] = x at *
            obtain ⟨xi, xs, ⟨xr, xp⟩, ⟨ek, ec, eq, ⟨ok, oa, ob, oc⟩⟩⟩ := x
            dsimp only at y1 HNX HYES
            by_cases h4 : 4 < xs
            · have h4i : (4 : Int) < (xs : Int) := by omega
              have HBAD := Lib.hid (HYES.out h4)
              go_wp2_with fail
              go_ret
              exact ⟨ret_bool (congrArg (!·) HBAD.out).symm, rfl⟩
            · have h4i : ¬ (4 : Int) < (xs : Int) := by omega
              have HX2 : Hid ((L.take (k + 1)).any (fun x => decide (4 < x.st)) = false) := by show (L.take (k + 1)).any _ = false; rw [HNX.out]; simp; omega
              clear HNX HYES
              go_wp2_with fail
              go_roundw
              case rel => exact ⟨k + 1, by omega, by go_num, HX2.out, by trivial⟩
              case measure => show 5 - ((k : Int) + 1).toNat < 5 - (k : Int).toNat; omega
          · have e : k = 5 := by omega
            subst e
            have HBAD : Hid (badB (((5 : Nat) : Int)) L = false) := by
              show badB _ L = false
              have h := HANY.out
              rw [show L.take 5 = L by rw [← HN.out, List.take_length]] at h
              unfold badB
              rw [HC.out, h, HN.out]; simp
            go_wp2_with fail
            go_ret
            exact ⟨ret_bool (congrArg (!·) HBAD.out).symm, rfl⟩
      · obtain rfl : N = 7 := by omega
        clear HG h
        go_enter Try.func10, Try.ntmps10
        go_wp2_with fail
        go_loopw [5] (fun iv wr => ∃ k : Nat, k ≤ 7 ∧ iv = .int .i64 k ∧ (L.take k).any (fun x => decide (4 < x.st)) = false ∧ wr = w) (fun iv _ => 7 - (intOf iv).toNat)
        case atStart => exact ⟨0, Nat.zero_le _, rfl, by simp, rfl⟩
        case round =>
          obtain ⟨k, hk, rfl, hany, rfl⟩ := hrel
          have HANY := Lib.hid hany
          clear hany
          have hk0 : (0 : Int) ≤ (k : Int) := by omega
          by_cases hlt : k < 7
          · have hl : k < L.length := by rw [HN.out]; exact hlt
            have hk1 : (k : Int) < 7 := by omega
            obtain ⟨y1, _, _⟩ := HCE.out k hl _ (Below.refl _ _)
            have HNX : Hid ((L.take (k + 1)).any (fun x => decide (4 < x.st)) = decide (4 < L[k].st)) := by
              show (L.take (k + 1)).any _ = _
              rw [List.take_succ_eq_append_getElem hl, List.any_append, HANY.out]; simp
            have HYES : Hid (4 < L[k].st → badB (((7 : Nat) : Int)) L = true) := fun h => by
              unfold badB
              rw [Bool.or_eq_true]
              right
              exact List.any_eq_true.2 ⟨L[k], List.getElem_mem hl, by simpa using h⟩
            generalize L[k] = x at *
            obtain ⟨xi, xs, ⟨xr, xp⟩, ⟨ek, ec, eq, ⟨ok, oa, ob, oc⟩⟩⟩ := x
            dsimp only at y1 HNX HYES
            by_cases h4 : 4 < xs
            · have h4i : (4 : Int) < (xs : Int) := by omega
              have HBAD := Lib.hid (HYES.out h4)
              go_wp2_with fail
              go_ret
              exact ⟨ret_bool (congrArg (!·) HBAD.out).symm, rfl⟩
            · have h4i : ¬ (4 : Int) < (xs : Int) := by omega
              have HX2 : Hid ((L.take (k + 1)).any (fun x => decide (4 < x.st)) = false) := by show (L.take (k + 1)).any _ = false; rw [HNX.out]; simp; omega
              clear HNX HYES
              go_wp2_with fail
              go_roundw
              case rel => exact ⟨k + 1, by omega, by go_num, HX2.out, by trivial⟩
              case measure => show 7 - ((k : Int) + 1).toNat < 7 - (k : Int).toNat; omega
          · have e : k = 7 := by omega
            subst e
            have HBAD : Hid (badB (((7 : Nat) : Int)) L = false) := by
              show badB _ L = false
              have h := HANY.out
              rw [show L.take 7 = L by rw [← HN.out, List.take_length]] at h
              unfold badB
              rw [HC.out, h, HN.out]; simp
            go_wp2_with fail
            go_ret
            exact ⟨ret_bool (congrArg (!·) HBAD.out).symm, rfl⟩
    · have HBAD : Hid (badB n L = true) := by show badB n L = true; unfold badB; rw [hN, decide_eq_false hn]; simp
      have hn1 : ((N : Int) == n) = false := by simpa using hn
      have h357 := crowd_iff.1 hc
      rw [hN] at hbd ⊢
      clear hc hn hN
      rcases h357 with h | h | h
      all_goals
        subst h
        go_enter Try.func10, Try.ntmps10
        go_wp2_with fail
        go_ret
        exact ⟨by rw [HBAD.out]; rfl, rfl⟩
end Ch
end Go.Proofs.Ytpgejomhcojppaa
