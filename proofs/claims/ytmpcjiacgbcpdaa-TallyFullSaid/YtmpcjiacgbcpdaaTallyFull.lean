/- The law TallyFull, walked. -/
import Derived.Test.YtmpcjiacgbcpdaaTallyAwake
set_option linter.unusedSimpArgs false
set_option linter.unusedVariables false
namespace Go.Proofs.Ytmpcjiacgbcpdaa
open Go.RowKit
open Qm

namespace Ta

def K (f : Int) (k : Nat) : List Int := (List.range k).map fun j : Nat => f + (j : Int)
theorem K_mem {f x : Int} {k : Nat} : x ∈ K f k ↔ f ≤ x ∧ x < f + k := by
  unfold K
  rw [List.mem_map]
  constructor
  · rintro ⟨j, hj, rfl⟩; have := List.mem_range.1 hj; omega
  · intro h; exact ⟨(x - f).toNat, List.mem_range.2 (by omega), by omega⟩
theorem K_succ (f : Int) (k : Nat) : K f (k + 1) = K f k ++ [f + (k : Int)] := by unfold K; rw [List.range_succ, List.map_append]; rfl
theorem K_len (f : Int) (k : Nat) : (K f k).length = k := by unfold K; simp
theorem rows_len {R : Rows} {l : List Int} (h : keys R = l) : R.length = l.length := by rw [← h]; simp [keys]
theorem look_no {R : Rows} {f x : Int} {k : Nat} (h : keys R = K f k) (hx : ¬ (f ≤ x ∧ x < f + k)) : look R x = none := look_none.2 (by rw [h]; exact fun m => hx (K_mem.1 m))
theorem look_yes {R : Rows} {f x : Int} {k : Nat} (h : keys R = K f k) (hx : f ≤ x ∧ x < f + k) : (look R x).isSome = true := look_some_key.2 (by rw [h]; exact K_mem.2 hx)
theorem keys_new {R : Rows} {f : Int} {k : Nat} (h : keys R = K f k) (y : Nat) : keys (put R (f + (k : Int)) y) = K f (k + 1) := by
  rw [put_keys, look_no h (by omega), K_succ, h]; rfl
theorem keys_old {R : Rows} {f x : Int} {k : Nat} (h : keys R = K f k) (hx : f ≤ x ∧ x < f + k) (y : Nat) : keys (put R x y) = K f k := by
  rw [put_keys, look_yes h hx, h]; rfl
theorem drop_keys (R : Rows) (i : Int) : keys (drop R i) = (keys R).filter fun x => decide (i < x) := by
  unfold keys drop; rw [List.filter_map]; rfl
theorem drop63 {R : Rows} {f : Int} (h : keys R = K f 64) : (drop R f).length = 63 := by
  rw [rows_len (drop_keys R f), h]
  unfold K
  rw [List.filter_map, List.length_map]
  rw [List.filter_congr (q := fun j : Nat => decide (0 < j)) (fun j _ => by simp only [Function.comp]; exact decide_eq_decide.2 ⟨fun h => by omega, fun h => by omega⟩)]
  decide
theorem set_none {R : Rows} {i : Int} (h : look R i = none) : setOf R i = 0 := by unfold setOf; rw [h]; rfl
theorem mem_zero' (n : Int) : (membersN 0 n).length = 0 := by
  have h : belowN 0 n = 0 := by unfold belowN; split <;> simp
  unfold membersN; rw [h, bits_zero]; rfl

set_option maxHeartbeats 8000000 in
theorem tallyFull_is (f : Int) (w : World) : Calls Try.prog 8 #[.int .i64 f] w fun e w' => e = .returned (.bool true) ∧ Below w.heap.size w w' := by
  have AW := Lib.hid (awake_is w)
  have HN3 : Hid ((3 : Int) ≠ 0) := by show (3 : Int) ≠ 0; decide
  have HMZ := Lib.hid mem_zero'
  by_cases q1 : f < 1
  · go_enter Try.func8, Try.ntmps8
    go_wp2_with fail
    refine AW.out.mono ?_
    rintro e u ⟨rfl, hx⟩
    have HB := Lib.hid hx
    clear hx
    go_wp2_with fail
    go_ret
    exact ⟨rfl, HB.out⟩
  by_cases q2 : 1073741824 < f
  · have q1' : 1 ≤ f := by omega
    go_enter Try.func8, Try.ntmps8
    go_wp2_with fail
    refine AW.out.mono ?_
    rintro e u ⟨rfl, hx⟩
    have HB := Lib.hid hx
    clear hx
    go_wp2_with fail
    go_ret
    exact ⟨rfl, HB.out⟩
  have q3 : 1 ≤ f := by omega
  have q4 : f ≤ 1073741824 := by omega
  clear q1 q2
  go_enter Try.func8, Try.ntmps8
  go_wp2_with fail
  refine AW.out.mono ?_
  rintro e u ⟨rfl, hx⟩
  have HB0 := Lib.hid hx
  clear hx
  go_wp2_with fail
  refine (new_ok 3 (by decide) u).mono ?_
  rintro e u0 ⟨rfl, hta, hx⟩
  have HB := Lib.hid (HB0.out.trans (hx.mono HB0.out.size))
  have hbb : w.heap.size ≤ u.heap.size := HB0.out.size
  have HT := Lib.hid hta
  generalize u.heap.size = b at *
  clear hx hta
  go_wp2_with fail
  go_loopw [5] (fun iv wr => ∃ (k : Nat) (R : Rows), k ≤ 64 ∧ iv = .int .i64 k ∧ Ok R ∧ keys R = K f k ∧ TallyAt wr (b + 1) b 3 R ∧ Below w.heap.size w wr) (fun iv _ => 64 - (intOf iv).toNat)
  case atStart => exact ⟨0, [], by omega, rfl, ok_nil, rfl, HT.out, HB.out⟩
  case round =>
    obtain ⟨k, R, hk, rfl, hR, hK, hta, hx⟩ := hrel
    clear HT HB
    have HT := Lib.hid hta
    have HB := Lib.hid hx
    have HK := Lib.hid hK
    have HR := Lib.hid hR
    have hlen : R.length = k := by rw [rows_len hK, K_len]
    clear hta hx hK hR
    by_cases hlt : k < 64
    · have hw : wrap64 (f + (k : Int)) = f + (k : Int) := IntWalk.wrap64_in _ (by omega)
      have hlt' : (k : Int) < 64 := by omega
      obtain ⟨m, hm, hm0, hm1⟩ : ∃ m : Int, (k : Int).tmod 3 = m ∧ 0 ≤ m ∧ m < 3 := ⟨_, rfl, by rw [Int.tmod_eq_emod_of_nonneg (by omega)]; omega, by rw [Int.tmod_eq_emod_of_nonneg (by omega)]; omega⟩
      go_wp2_with fail
      try rw [hm]
      refine (note_new (b + 1) b 3 HN3.out R HR.out (f + (k : Int)) m (by omega) (by omega) hm0 hm1 (by rw [look_no HK.out (by omega)]; rfl) (by omega) _ HT.out).mono ?_
      rintro e u1 ⟨rfl, hty, hx⟩
      have HT1 := Lib.hid hty
      have HB1 := Lib.hid (Only.below HB.out hx HB.out.size hbb)
      clear hty hx
      go_wp2_with fail
      go_roundw
      case rel => exact ⟨k + 1, _, by omega, by go_num, put_ok HR.out ⟨by omega, by omega⟩ (addN_lt (ok_lt HR.out _) _), keys_new HK.out _, HT1.out, HB1.out⟩
      case measure => simp [intOf]; omega
    · obtain rfl : k = 64 := by omega
      have hn64 := look_no HK.out (x := f + 64) (by omega)
      have hy := look_yes HK.out (x := f) (by omega)
      have HN64 := Lib.hid hn64
      have HY := Lib.hid hy
      have hR1 := put_ok HR.out (i := f) ⟨by omega, by omega⟩ (addN_lt (ok_lt HR.out f) 1)
      have hK1 := keys_old HK.out (x := f) (by omega) (addN (setOf R f) 1)
      clear hn64 hy
      go_wp2_with fail
      refine (note_full (b + 1) b 3 HN3.out R HR.out (f + 64) 0 (by omega) (by omega) (by decide) (by decide) (by rw [HN64.out]; rfl) (by omega) _ HT.out).mono ?_
      rintro e u1 ⟨rfl, rfl⟩
      go_wp2_with fail
      refine (note_old (b + 1) b 3 HN3.out R HR.out f 1 (by omega) (by omega) (by decide) (by decide) HY.out (by omega) _ HT.out).mono ?_
      rintro e u2 ⟨rfl, hty, hx⟩
      have HT1 := Lib.hid hty
      have HB1 := Lib.hid (Only.below HB.out hx HB.out.size hbb)
      clear hty hx
      generalize put R f (addN (setOf R f) 1) = R1 at *
      have HR1 := Lib.hid hR1
      have HK1 := Lib.hid hK1
      have hR2 := drop_ok hR1 f
      have hl2 := drop63 hK1
      have hd1 : look (drop R1 f) (f + 64) = none := by rw [drop_look, if_pos (by omega)]; exact look_no hK1 (by omega)
      have hd2 : look (drop R1 f) f = none := by rw [drop_look, if_neg (by omega)]
      have HD1 := Lib.hid hd1
      have HD2 := Lib.hid hd2
      have HR2 := Lib.hid hR2
      have hs1 : (membersN (setOf R1 (f + 64)) 3).length = 0 := by rw [set_none (look_no hK1 (by omega))]; exact HMZ.out 3
      have HS1 := Lib.hid hs1
      clear hR1 hK1 hR2 hd1 hd2 hs1
      go_wp2_with fail
      refine (count_is 0 (b + 1) b 3 HN3.out R1 HR1.out (f + 64) ⟨by omega, by omega⟩ HS1.out _ HT1.out).mono ?_
      rintro e u3 ⟨rfl, hx⟩
      have HT2 := Lib.hid (HT1.out.keep hx)
      have HB2 := Lib.hid (HB1.out.trans (hx.mono HB1.out.size))
      clear hx HT1 HB1
      go_wp2_with fail
      refine (drop_any (b + 1) b 3 HN3.out R1 HR1.out f _ HT2.out).mono ?_
      rintro e u4 ⟨rfl, hty, hx⟩
      have HT3 := Lib.hid hty
      have HB3 := Lib.hid (Only.below HB2.out hx HB2.out.size hbb)
      clear hty hx HT2 HB2
      generalize drop R1 f = R2 at *
      have hR3 := put_ok HR2.out (i := f + 64) ⟨by omega, by omega⟩ (addN_lt (ok_lt HR2.out (f + 64)) 0)
      have hl3 : (put R2 (f + 64) (addN (setOf R2 (f + 64)) 0)).length = 64 := by rw [put_len, HD1.out]; simp; omega
      have hd3 : look (put R2 (f + 64) (addN (setOf R2 (f + 64)) 0)) f = none := by rw [put_look, if_neg (by omega)]; exact HD2.out
      have HR3 := Lib.hid hR3
      have HD3 := Lib.hid hd3
      have hs3 : (membersN (setOf (put R2 (f + 64) (addN (setOf R2 (f + 64)) 0)) f) 3).length = 0 := by rw [set_none HD3.out]; exact HMZ.out 3
      have HS3 := Lib.hid hs3
      clear hR3 hd3 hs3
      go_wp2_with fail
      refine (note_new (b + 1) b 3 HN3.out R2 HR2.out (f + 64) 0 (by omega) (by omega) (by decide) (by decide) (by rw [HD1.out]; rfl) (by omega) _ HT3.out).mono ?_
      rintro e u5 ⟨rfl, hty, hx⟩
      have HT4 := Lib.hid hty
      have HB4 := Lib.hid (Only.below HB3.out hx HB3.out.size hbb)
      clear hty hx HT3 HB3
      go_wp2_with fail
      refine (count_is 0 (b + 1) b 3 HN3.out _ HR3.out f ⟨by omega, by omega⟩ HS3.out _ HT4.out).mono ?_
      rintro e u6 ⟨rfl, hx⟩
      have HT5 := Lib.hid (HT4.out.keep hx)
      have HB5 := Lib.hid (HB4.out.trans (hx.mono HB4.out.size))
      clear hx HT4 HB4
      go_wp2_with fail
      refine (note_full (b + 1) b 3 HN3.out _ HR3.out f 0 (by omega) (by omega) (by decide) (by decide) (by rw [HD3.out]; rfl) (by omega) _ HT5.out).mono ?_
      rintro e u7 ⟨rfl, rfl⟩
      go_wp2_with fail
      go_ret
      exact ⟨rfl, HB5.out⟩

end Ta
end Go.Proofs.Ytmpcjiacgbcpdaa
