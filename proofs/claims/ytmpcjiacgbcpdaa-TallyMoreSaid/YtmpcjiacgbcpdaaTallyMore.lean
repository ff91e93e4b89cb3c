/- The law TallyMore, walked. -/
import Derived.Test.YtmpcjiacgbcpdaaTallyAwake
import Derived.Test.YtmpcjiacgbcpdaaTallyMorePlain
set_option linter.unusedSimpArgs false
set_option linter.unusedVariables false
namespace Go.Proofs.Ytmpcjiacgbcpdaa
open Go.RowKit
open Qm

namespace Ta

theorem first_of (f : Int) (n : Nat) (h1 : n ≤ 300) : ∃ q : Nat, wrap64 ((IntKind.u64.wrap f).tmod ((n : Int) + 1)) = (q : Int) ∧ q ≤ n := by
  unfold wrap64
  rw [IntKind.wrap_u64, Int.tmod_eq_emod_of_nonneg (by omega)]
  have h2 := Int.emod_nonneg (f % 18446744073709551616) (b := (n : Int) + 1) (by omega)
  have h3 := Int.emod_lt_of_pos (f % 18446744073709551616) (b := (n : Int) + 1) (by omega)
  exact ⟨(f % 18446744073709551616 % ((n : Int) + 1)).toNat, by omega, by omega⟩

set_option maxHeartbeats 8000000 in
theorem tallyMore_is (n : Int) (l : Pairs) (v : Value) (first f : Int) (w : World) (hr : Row w w.heap.size v l.length (l.flatMap pc)) :
    Calls Try.prog 7 #[.int .i64 n, v, .int .i64 first, .int .i64 f] w fun e w' => e = .returned (.bool true) ∧ Below w.heap.size w w' := by
  have AW := Lib.hid (awake_is w)
  have HMZ : Hid (∀ n : Int, (membersN 0 n).length = 0) := by
    intro n
    have h : belowN 0 n = 0 := by unfold belowN; split <;> simp
    unfold membersN; rw [h, bits_zero]; rfl
  obtain ⟨A, c, rfl, _, _⟩ := hr.slice
  have HR := Lib.hid hr
  clear hr
  go_enter Try.func7, Try.ntmps7
  go_wp2_with fail
  refine AW.out.mono ?_
  rintro e u ⟨rfl, hx⟩
  have HB := Lib.hid hx
  have HR1 := Lib.hid ((HR.out.below hx).more hx.size)
  clear hx
  go_wp2_with fail
  refine (of_any n u).mono ?_
  rintro e u1 ⟨⟨m, rfl, hm⟩, rfl⟩
  have HM := Lib.hid hm
  clear hm
  go_wp2_with fail
  refine (near_any m l _ u HR1.out).mono ?_
  rintro e u1 ⟨rfl, rfl⟩
  cases hq : nearB m l
  · go_wp2_with fail
    go_ret
    exact ⟨rfl, HB.out⟩
  have hq' := hq
  unfold nearB at hq'
  rw [Bool.and_eq_true, decide_eq_true_eq] at hq'
  obtain ⟨hl, hok⟩ := hq'
  have HOK := Lib.hid hok
  clear hq hok
  by_cases f1 : f < 0
  · go_wp2_with fail
    go_ret
    exact ⟨rfl, HB.out⟩
  by_cases f2 : 70 < f
  · have f1' : 0 ≤ f := by omega
    go_wp2_with fail
    go_ret
    exact ⟨rfl, HB.out⟩
  have f3 : 0 ≤ f := by omega
  have f4 : f ≤ 70 := by omega
  clear f1 f2
  have hlu : IntKind.u64.wrap ((l.length : Int) + 1) = (l.length : Int) + 1 := by rw [IntKind.wrap_u64]; omega
  have hlw : wrap64 ((l.length : Int) + 1) = (l.length : Int) + 1 := IntWalk.wrap64_in _ (by omega)
  have hlz : ¬ (l.length : Int) + 1 = 0 := by omega
  obtain ⟨q, hq, hq1⟩ := first_of first l.length hl
  have hq0 : (0 : Int) ≤ (q : Int) := by omega
  have hq2 : (q : Int) ≤ (l.length : Int) := by omega
  go_wp2_with fail
  rw [hq]
  clear hq
  refine (noted_ok m HM.out (l.take q) (all_take HOK.out q) _ u (Row.pairs HR1.out q hq1)).mono ?_
  rintro e u2 ⟨rfl, hta, hx⟩
  have HT1 := Lib.hid hta
  have HB2 := Lib.hid (HB.out.trans (hx.mono HB.out.size))
  have HR2 := Lib.hid ((HR1.out.below hx).more hx.size)
  clear hta hx HB
  go_wp2_with fail
  refine (noted_ok m HM.out l HOK.out _ u2 HR2.out).mono ?_
  rintro e u3 ⟨rfl, htb, hx⟩
  have HT2 := Lib.hid (HT1.out.keep hx)
  have HTB := Lib.hid htb
  have HB3 := Lib.hid (HB2.out.trans (hx.mono HB2.out.size))
  have hbb : w.heap.size ≤ u2.heap.size := HB2.out.size
  clear htb hx HT1
  have h60 := ok60_list l ok60_nil HOK.out
  have h61 := ok60_list (l.take q) ok60_nil (all_take HOK.out q)
  have hmore := more_list HM.out (l.drop q) h61 (List.all_eq_true.2 fun x hx => List.all_eq_true.1 HOK.out x (List.mem_of_mem_drop hx))
  rw [← noteL_split] at hmore
  have HMO := Lib.hid hmore
  have H60 := Lib.hid h60
  have H61 := Lib.hid h61
  have HN0 : Hid (m ≠ 0) := by show m ≠ 0; have := HM.out; omega
  clear hmore h60 h61
  generalize u2.heap.size = b at *
  generalize noteL [] l = R at *
  generalize noteL [] (l.take q) = R0 at *
  generalize u.heap.size = b0 at *
  go_wp2_with fail
  refine (upto_any (b + 1) b m HN0.out R H60.out.1 f f3 (by omega) _ HTB.out).mono ?_
  rintro e u4 ⟨⟨x1, rfl, hu1⟩, hx⟩
  have HU1 := Lib.hid hu1
  have HT3 := Lib.hid (HT2.out.keep hx)
  have HTC := Lib.hid (HTB.out.keep hx)
  have HB4 := Lib.hid (HB3.out.trans (hx.mono HB3.out.size))
  clear hx hu1 HT2 HTB HB3
  go_wp2_with fail
  refine (upto_any (b0 + 1) b0 m HN0.out R0 H61.out.1 f f3 (by omega) _ HT3.out).mono ?_
  rintro e u5 ⟨⟨x0, rfl, hu0⟩, hx⟩
  have hle : x0 ≤ x1 := upto_more HMO.out hu0 HU1.out
  have HTD := Lib.hid (HTC.out.keep hx)
  have HB5 := Lib.hid (HB4.out.trans (hx.mono HB4.out.size))
  clear hx hu0 HT3 HTC HB4
  go_wp2_with fail
  refine (drop_any (b + 1) b m HN0.out R H60.out.1 f _ HTD.out).mono ?_
  rintro e u6 ⟨rfl, hty, hx⟩
  have HTE := Lib.hid hty
  have HB6 := Lib.hid (Only.below HB5.out hx HB5.out.size hbb)
  have HOD := Lib.hid (drop_ok H60.out.1 f)
  clear hty hx HTD HB5
  go_wp2_with fail
  go_loopw [12] (fun iv wr => ∃ k : Nat, 1 ≤ k ∧ k ≤ 70 ∧ iv = .int .i64 k ∧ TallyAt wr (b + 1) b m (drop R f) ∧ Below w.heap.size w wr) (fun iv _ => 70 - (intOf iv).toNat)
  case atStart => exact ⟨1, by omega, by omega, rfl, HTE.out, HB6.out⟩
  case round =>
    obtain ⟨k, hk1, hk, rfl, hty, hx⟩ := hrel
    clear HTE HB6
    have HTE := Lib.hid hty
    have HB6 := Lib.hid hx
    clear hty hx
    by_cases hlt : (k : Int) < 70
    · by_cases hkf : (k : Int) ≤ f
      · have hz := Lib.hid (show (membersN (setOf (drop R f) (k : Int)) m).length = 0 by rw [set_drop0 hkf]; exact HMZ.out m)
        go_wp2_with fail
        refine (count_is 0 (b + 1) b m HN0.out _ HOD.out (k : Int) ⟨by omega, by omega⟩ hz.out _ HTE.out).mono ?_
        rintro e u7 ⟨rfl, hx⟩
        have HTF := Lib.hid (HTE.out.keep hx)
        have HB7 := Lib.hid (HB6.out.trans (hx.mono HB6.out.size))
        clear hx HTE HB6
        go_wp2_with fail
        go_roundw
        case rel => exact ⟨k + 1, by omega, by omega, by go_num, HTF.out, HB7.out⟩
        case measure => simp [intOf]; omega
      · have hkf' : f < (k : Int) := by omega
        clear hkf
        go_wp2_with fail
        go_roundw
        case rel => exact ⟨k + 1, by omega, by omega, by go_num, HTE.out, HB6.out⟩
        case measure => simp [intOf]; omega
    · obtain rfl : k = 70 := by omega
      go_wp2_with fail
      refine (upto_is x1 (b + 1) b m HN0.out _ HOD.out f f3 (by omega) (upto_drop HU1.out) _ HTE.out).mono ?_
      rintro e u7 ⟨rfl, hx⟩
      have HB7 := Lib.hid (HB6.out.trans (hx.mono HB6.out.size))
      clear hx HTE HB6
      go_wp2_with fail
      go_ret
      exact ⟨by first | rfl | (simp; done), HB7.out⟩

end Ta
end Go.Proofs.Ytmpcjiacgbcpdaa
