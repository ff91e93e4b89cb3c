/- The law QueueReads, walked. -/
import Derived.Test.YtinnpeonokdljaaQueueAwake
import Derived.Test.YtinnpeonokdljaaQuorumRef
import Derived.Deep.Cut
import Derived.Deep.CutRange
import Derived.Deep.DeepCutAuto
set_option linter.unusedSimpArgs false
set_option linter.unusedVariables false
namespace Go.Proofs.Ytinnpeonokdljaa
open Go.RowKit

namespace Qu
open Qm
attribute [local go_sem ↓] neq_rq

theorem odd_of (n : Int) : ∃ N : Int, wrap64 (3 + wrap64 (2 * wrap64 ((IntKind.u64.wrap n).tmod 3))) = N ∧ (N = 3 ∨ N = 5 ∨ N = 7) := by
  refine ⟨_, rfl, ?_⟩
  unfold wrap64
  rw [IntKind.wrap_u64, Int.tmod_eq_emod_of_nonneg (by omega)]
  omega
theorem own_of (f N : Int) (h : N = 3 ∨ N = 5 ∨ N = 7) : ∃ q : Int, wrap64 ((IntKind.u64.wrap f).tmod N) = q ∧ 0 ≤ q ∧ q < N := by
  refine ⟨_, rfl, ?_⟩
  unfold wrap64
  rw [IntKind.wrap_u64, Int.tmod_eq_emod_of_nonneg (by omega)]
  have h2 := Int.emod_nonneg (f % 18446744073709551616) (b := N) (by omega)
  have h3 := Int.emod_lt_of_pos (f % 18446744073709551616) (b := N) (by omega)
  omega
theorem made_odd {N q : Int} (h : N = 3 ∨ N = 5 ∨ N = 7) (h0 : 0 ≤ q) (h1 : q < N) : madeB N q = true := by
  unfold madeB
  rw [decide_eq_true h0, decide_eq_true h1]
  rcases h with rfl | rfl | rfl <;> rfl
/-- The one read. -/
def oneR (nonce index : Int) (s : Nat) : Wt := ⟨⟨2, 3, ⟨1, cA, em, em⟩⟩, nonce, index, s⟩
theorem one_put {own nonce index : Int} (h1 : 1 ≤ nonce) (h2 : nonce ≤ 1099511627776) (h3 : 0 ≤ index) (h4 : index ≤ 1099511627776) :
    (true, (0 : Int), [oneR nonce index (addN 0 own)]) = putR own (readsB ⟨1, cA, em, em⟩ && numB 1 nonce && numB 0 index) [] ⟨2, 3, ⟨1, cA, em, em⟩⟩ nonce index := by
  have e1 : numB 1 nonce = true := by unfold numB; rw [decide_eq_true h1, decide_eq_true h2]; rfl
  have e2 : numB 0 index = true := by unfold numB; rw [decide_eq_true h3, decide_eq_true h4]; rfl
  rw [e1, e2]
  rfl
def nextS (nonce x k : Int) (s : Nat) : Nat := if decide (1 ≤ x) && decide (x ≤ 1099511627776) && decide (nonce ≤ x) then addN s k else s
theorem nextS_lt {nonce x k : Int} {s : Nat} (h : s < 256) : nextS nonce x k s < 256 := by
  unfold nextS; split
  · exact addN_lt h k
  · exact h
theorem one_ans {N nonce index x k : Int} {s : Nat} (h1 : 1 ≤ nonce) (hk : 0 ≤ k) (hk2 : k < N) :
    ansR N x k [oneR nonce index s] = (if decide (1 ≤ x) && decide (x ≤ 1099511627776) then 0 else 2, [oneR nonce index (nextS nonce x k s)]) := by
  unfold ansR
  rw [decide_eq_false (by omega : ¬ k < 0), decide_eq_false (by omega : ¬ N ≤ k), Bool.or_false, Bool.or_false]
  unfold numB nextS
  cases h : decide (1 ≤ x) && decide (x ≤ 1099511627776)
  · simp
  · simp only [Bool.not_true, Bool.false_eq_true, if_false, if_true, Bool.true_and]
    refine Prod.ext rfl ?_
    show ansL x k [oneR nonce index s] = _
    unfold ansL ansW oneR
    simp only [List.map_cons, List.map_nil]
    by_cases hx : nonce ≤ x
    · rw [if_pos ⟨by omega, hx⟩, if_pos (by simpa using hx)]
    · rw [if_neg (fun h => hx h.2), if_neg (by simpa using hx)]
theorem one_ready {N nonce index ap : Int} {s : Nat} (h1 : 1 ≤ nonce) (h : (enoughB s N && decide (index ≤ ap)) = true) : took (readyB N ap) [oneR nonce index s] = [⟨2, 3, ⟨1, cA, em, em⟩⟩] ∧ left (readyB N ap) [oneR nonce index s] = [] := by
  have e : readyB N ap (oneR nonce index s) = true := by
    unfold readyB oneR
    rw [decide_eq_true (show 0 < nonce by omega), Bool.true_and]
    exact h
  unfold took left
  simp [List.filter, e]
  rfl
theorem one_waits {N nonce index ap : Int} {s : Nat} (h1 : 1 ≤ nonce) (h : (enoughB s N && decide (index ≤ ap)) = false) : took (readyB N ap) [oneR nonce index s] = [] ∧ left (readyB N ap) [oneR nonce index s] = [oneR nonce index s] := by
  have e : readyB N ap (oneR nonce index s) = false := by
    unfold readyB oneR
    rw [decide_eq_true (show 0 < nonce by omega), Bool.true_and]
    exact h
  unfold took left
  simp [List.filter, e]
theorem one_ok {nonce index : Int} {s : Nat} (h : s < 256) : QOk [oneR nonce index s] := ⟨by intro x hx; rw [List.mem_singleton.1 hx]; exact h, by simp⟩

set_option maxRecDepth 100000 in
set_option maxHeartbeats 8000000 in
theorem queueReads_is (n own nonce index : Int) (ns aps : List Int) (vN vA : Value) (w : World) (hN : Row w w.heap.size vN ns.length (ints ns)) (hA : Row w w.heap.size vA aps.length (ints aps)) :
    Calls Try.prog 7 #[.int .i64 n, .int .i64 own, .int .i64 nonce, .int .i64 index, vN, vA] w fun e w' => e = .returned (.bool true) ∧ Below w.heap.size w w' := by
  obtain ⟨AN, cN, rfl, _, _⟩ := hN.slice
  obtain ⟨AA, cA', rfl, _, _⟩ := hA.slice
  have hbN := hN.bound
  have hbA := hA.bound
  have AW := Lib.hid (awake_is w)
  have HRN := Lib.hid hN
  have HRA := Lib.hid hA
  clear hN hA
  obtain ⟨N, hNN, h357⟩ := odd_of n
  obtain ⟨q, hq, hq0, hq1⟩ := own_of own N h357
  have H3 := Lib.hid h357
  have hNu : IntKind.u64.wrap N = N := by rw [IntKind.wrap_u64]; omega
  have hN0 : (N == 0) = false := by simp; omega
  have hN3 : 3 ≤ N := by omega
  have hN7 : N ≤ 7 := by omega
  clear h357
  go_enter Try.func7, Try.ntmps7
  go_wp2_with fail
  refine AW.out.mono ?_
  rintro e u0 ⟨rfl, hx⟩
  have HB := Lib.hid hx
  clear hx AW
  by_cases c1 : (100 : Int) < (ns.length : Int)
  · go_wp2_with fail
    go_ret
    exact ⟨rfl, HB.out⟩
  by_cases c2 : nonce < 1
  · go_wp2_with fail
    go_ret
    exact ⟨rfl, HB.out⟩
  by_cases c3 : 1099511627776 < nonce
  · go_wp2_with fail
    go_ret
    exact ⟨rfl, HB.out⟩
  by_cases c4 : index < 0
  · go_wp2_with fail
    go_ret
    exact ⟨rfl, HB.out⟩
  by_cases c5 : 1099511627776 < index
  · go_wp2_with fail
    go_ret
    exact ⟨rfl, HB.out⟩
  have HNW := Lib.hid (new_sep N q (made_odd H3.out hq0 hq1) (Sep.start w HB.out))
  obtain ⟨g, hg⟩ : ∃ g, g = u0.heap.size := ⟨_, rfl⟩
  rw [← hg] at HNW
  have HG := Lib.hid hg; clear hg
  go_wp2_with fail
  rw [hNN, hq]
  clear hNN hq
  refine HNW.out.mono ?_
  rintro e u1 ⟨rfl, h⟩
  have HS1 := Lib.hid h; clear h HNW
  go_wp2_with fail
  refine (get_law 2 3 _).mono ?_
  rintro e u2 ⟨rfl, hx⟩
  have HS2 := Lib.hid (HS1.out.call hx); clear hx HS1
  go_wp2_with fail
  refine (read_sep HS2.out (by omega) QOk.nil 2 3 1 cA em em nonce index).mono ?_
  rintro e u3 h
  obtain ⟨rfl, _, v3, h⟩ := h _ (one_put (by omega) (by omega) (by omega) (by omega))
  have HS3 := Lib.hid h; clear h HS2
  go_wp2_with fail
  refine (of_any [q] _ (u3.heap.size + 1) _ (Row.blk (Whole.new u3 3 [.int .i64 q]) rfl (by omega) (by show 1 ≤ maxLen; decide))).mono ?_
  rintro e u4 ⟨rfl, rfl⟩
  have HS4 := Lib.hid (HS3.out.fresh (.cells #[.int .i64 q] 3))
  rw [show ofN [q] = addN 0 q from rfl]
  have hs0 : addN 0 q < 256 := addN_lt (by omega) q
  clear HS3
  generalize addN 0 q = s0 at *
  generalize u3.alloc (.cells #[.int .i64 q] 3) = u5 at *
  go_wp2_with fail
  go_loopw [17, 18] (fun bv iv wr => ∃ (k s : Nat) (v : Value), k ≤ ns.length ∧ iv = .int .i64 k ∧ bv = .int .u8 s ∧ s < 256 ∧ Sep w (qI g N q [oneR nonce index s] v ++ []) wr) (fun _ iv _ => ns.length - (intOf iv).toNat)
  case atStart => exact ⟨0, s0, v3, Nat.zero_le _, rfl, rfl, hs0, HS4.out⟩
  case round =>
    obtain ⟨k, s, v, hk, rfl, rfl, hs, hsep⟩ := hrel
    clear HS4
    have HS := Lib.hid hsep
    by_cases hlt : k < ns.length
    · have h2 := HRN.out
      obtain ⟨b2, o2, rfl, hb2, hx2⟩ := h2.at_ (j := k) (by simpa [ints] using hlt)
      have hxw := hx2 k _ (by unfold ints; rw [List.getElem?_map, List.getElem?_eq_getElem hlt]; rfl)
      have hx := (hsep.below.cell (p := ⟨b2, o2 + k, none⟩) hb2).trans hxw
      clear h2 hx2 hsep
      generalize ns[k] = x at hx hxw
      have HXW := Lib.hid hxw; clear hxw
      obtain ⟨κ, hκ, hκ0, hκ1⟩ : ∃ κ : Int, ((k : Int) * 3).tmod N = κ ∧ 0 ≤ κ ∧ κ < N := by
        refine ⟨_, rfl, ?_⟩
        rw [Int.tmod_eq_emod_of_nonneg (by omega)]
        exact ⟨Int.emod_nonneg _ (by omega), Int.emod_lt_of_pos _ (by omega)⟩
      have hk0 : (0 : Int) ≤ (k : Int) := by omega
      have hk1 : (k : Int) < (ns.length : Int) := by omega
      have hk2 : (k : Int) ≤ 100 := by omega
      have AN := Lib.hid (answer_sep HS.out (by omega) (one_ok hs) x κ)
      rw [one_ans (by omega) hκ0 hκ1] at AN
      have hs1 : nextS nonce x κ s < 256 := nextS_lt hs
      obtain ⟨r, hr⟩ : ∃ r : Int, (if decide (1 ≤ x) && decide (x ≤ 1099511627776) then (0 : Int) else 2) = r := ⟨_, rfl⟩
      rw [hr] at AN
      have HR := Lib.hid hr
      have HE1 : Hid (nextS nonce x κ s = if decide (1 ≤ x) && decide (x ≤ 1099511627776) && decide (nonce ≤ x) then addN s κ else s) := rfl
      generalize nextS nonce x κ s = s1 at *
      go_wp2_with fail
      refine AN.out.mono ?_
      rintro e u6 ⟨rfl, v6, h⟩
      have hx6 := (h.below.cell (p := ⟨b2, o2 + k, none⟩) hb2).trans HXW.out
      have HS1 := Lib.hid h
      clear h AN HS hr hx
      go_upto_region 19 with fail
      go_cut [113] from 82 to 178 (fun b wx => b = .bool false ∧ u6 = wx)
      case first =>
        have hr := HR.out
        by_cases q1 : 1 ≤ x
        · have q1' : decide (1 ≤ x) = true := by simp [q1]
          by_cases q2 : x ≤ 1099511627776
          · have q2' : decide (x ≤ 1099511627776) = true := by simp [q2]
            rw [q1', q2'] at hr
            subst hr
            go_wp2_with fail
            go_meet
            exact ⟨rfl, rfl⟩
          · have q2' : decide (x ≤ 1099511627776) = false := by simp [q2]
            rw [q1', q2'] at hr
            subst hr
            go_wp2_with fail
            go_meet
            exact ⟨rfl, rfl⟩
        · have q1' : decide (1 ≤ x) = false := by simp [q1]
          rw [q1'] at hr
          subst hr
          go_wp2_with fail
          go_meet
          exact ⟨rfl, rfl⟩
      case rest =>
        obtain ⟨rfl, rfl⟩ := hcut
        go_upto_region 21 with fail
        obtain ⟨U, hU⟩ : ∃ U : Bool, (decide (1 ≤ x) && decide (x ≤ 1099511627776) && decide (nonce ≤ x)) = U := ⟨_, rfl⟩
        have HU := Lib.hid hU
        rw [hU] at HE1
        clear hU
        go_cut [123] from 82 to 178 (fun b wx => b = .bool U ∧ u6 = wx)
        case first =>
          have hr := HR.out
          have hU := HU.out
          by_cases q1 : 1 ≤ x
          · have q1' : decide (1 ≤ x) = true := by simp [q1]
            by_cases q2 : x ≤ 1099511627776
            · have q2' : decide (x ≤ 1099511627776) = true := by simp [q2]
              rw [q1', q2'] at hr hU
              subst hr
              by_cases q3 : nonce ≤ x
              · have q3' : decide (nonce ≤ x) = true := by simp [q3]
                rw [q3'] at hU
                subst hU
                go_wp2_with fail
                go_meet
                exact ⟨rfl, rfl⟩
              · have q3' : decide (nonce ≤ x) = false := by simp [q3]
                rw [q3'] at hU
                subst hU
                go_wp2_with fail
                go_meet
                exact ⟨rfl, rfl⟩
            · have q2' : decide (x ≤ 1099511627776) = false := by simp [q2]
              rw [q1', q2'] at hr hU
              subst hr hU
              go_wp2_with fail
              go_meet
              exact ⟨rfl, rfl⟩
          · have q1' : decide (1 ≤ x) = false := by simp [q1]
            rw [q1'] at hr hU
            subst hr hU
            go_wp2_with fail
            go_meet
            exact ⟨rfl, rfl⟩
        case rest =>
          obtain ⟨rfl, rfl⟩ := hcut
          go_upto_if 123 with fail
          go_cut [17] from 82 to 178 (fun b wx => b = .int .u8 s1 ∧ u6 = wx)
          case first =>
            have e1 := HE1.out
            cases U
            · rw [if_neg (by decide)] at e1
              subst e1
              go_wp2_with fail
              go_meet
              exact ⟨rfl, rfl⟩
            · rw [if_pos rfl] at e1
              subst e1
              go_wp2_with fail
              refine (add_any s hs κ _).mono ?_
              rintro e u61 ⟨rfl, rfl⟩
              go_wp2_with fail
              go_meet
              exact ⟨rfl, rfl⟩
          case rest =>
            obtain ⟨rfl, rfl⟩ := hcut
            clear HE1 HU HR hx6
            go_upto_if 131 with fail
            go_cut [21] from 82 to 178 (fun b wx => (∃ tz : Int, b = .int .i64 tz) ∧ u6 = wx)
            case first =>
              by_cases hap : k < aps.length
              · have hap1 : (k : Int) < (aps.length : Int) := by omega
                have h3 := HRA.out
                obtain ⟨b3, o3, rfl, hb3, hx3⟩ := h3.at_ (j := k) (by simpa [ints] using hap)
                have hz := hx3 k _ (by unfold ints; rw [List.getElem?_map, List.getElem?_eq_getElem hap]; rfl)
                have hz6 := (HS1.out.below.cell (p := ⟨b3, o3 + k, none⟩) hb3).trans hz
                clear h3 hx3 hz
                go_wp2_with fail
                go_meet
                exact ⟨⟨_, rfl⟩, rfl⟩
              · have hap1 : (aps.length : Int) ≤ (k : Int) := by omega
                go_wp2_with fail
                go_meet
                exact ⟨⟨_, rfl⟩, rfl⟩
            case rest =>
              obtain ⟨⟨tz, rfl⟩, rfl⟩ := hcut
              go_wp2_with fail
              cases he : enoughB s1 N
              · have hrd := one_waits (N := N) (nonce := nonce) (index := index) (ap := tz) (s := s1) (by omega) (by rw [he]; rfl)
                refine (ready_sep HS1.out (by omega) (one_ok hs1) tz [] hrd.1 0 rfl).mono ?_
                rintro e u7 ⟨A7, c7, v7, rfl, h⟩
                rw [hrd.2] at h
                have HS7 := Lib.hid h; clear h hrd HS1
                go_wp2_with fail
                have EN := enough_any s1 hs1 N u7
                rw [he] at EN
                refine EN.mono ?_
                rintro e u8 ⟨rfl, rfl⟩
                clear EN
                go_wp2_with fail
                refine wp_region_held_drew (S := (fun u : World => True ∧ Hid (Sep w (qI g N q [oneR nonce index s1] v7 ++ []) u))) (by kernel_rfl) (⟨trivial, Lib.hid (HS7.out.drew.first)⟩) (fun HS => ?_)
                refine handTake 0 (some 147) ?_ rfl rfl (by kernel_rfl) (by kernel_rfl) (by kernel_rfl) (fun _ _ _ h => h) (by rfl) ?_ HS ?_
                rotate_left
                · (intro u hu; (try dsimp only at hu); go_simp; try with_reducible rfl)
                simp only [Act.put, List.setIfInBounds_toArray, List.set_cons_zero, List.set_cons_succ]
                refine handTake 1 (some 148) ?_ rfl rfl (by kernel_rfl) (by kernel_rfl) (by kernel_rfl) (fun _ _ _ h => h) (by rfl) ?_ HS ?_
                rotate_left
                · (intro u hu; (try dsimp only at hu); go_simp; try with_reducible rfl)
                simp only [Act.put, List.setIfInBounds_toArray, List.set_cons_zero, List.set_cons_succ]
                refine handTake 2 (some 149) ?_ rfl rfl (by kernel_rfl) (by kernel_rfl) (by kernel_rfl) (fun _ _ _ h => h) (by rfl) ?_ HS ?_
                rotate_left
                · (intro u hu; (try dsimp only at hu); go_simp; try with_reducible rfl)
                simp only [Act.put, List.setIfInBounds_toArray, List.set_cons_zero, List.set_cons_succ]
                refine handTake 3 (some 150) ?_ rfl rfl (by kernel_rfl) (by kernel_rfl) (by kernel_rfl) (fun _ _ _ h => h) (by rfl) ?_ HS ?_
                rotate_left
                · (intro u hu; (try dsimp only at hu); go_simp; try with_reducible rfl)
                simp only [Act.put, List.setIfInBounds_toArray, List.set_cons_zero, List.set_cons_succ]
                refine handTake 4 (some 151) ?_ rfl rfl (by kernel_rfl) (by kernel_rfl) (by kernel_rfl) (fun _ _ _ h => h) (by rfl) ?_ HS ?_
                rotate_left
                · (intro u hu; (try dsimp only at hu); go_simp; try with_reducible rfl)
                simp only [Act.put, List.setIfInBounds_toArray, List.set_cons_zero, List.set_cons_succ]
                refine handTake 5 (some 152) ?_ rfl rfl (by kernel_rfl) (by kernel_rfl) (by kernel_rfl) (fun _ _ _ h => h) (by rfl) ?_ HS ?_
                rotate_left
                · (intro u hu; (try dsimp only at hu); go_simp; try with_reducible rfl)
                simp only [Act.put, List.setIfInBounds_toArray, List.set_cons_zero, List.set_cons_succ]
                refine handTake 6 (some 153) ?_ rfl rfl (by kernel_rfl) (by kernel_rfl) (by kernel_rfl) (fun _ _ _ h => h) (by rfl) ?_ HS ?_
                rotate_left
                · (intro u hu; (try dsimp only at hu); go_simp; try with_reducible rfl)
                simp only [Act.put, List.setIfInBounds_toArray, List.set_cons_zero, List.set_cons_succ]
                refine handTake 7 (some 154) ?_ rfl rfl (by kernel_rfl) (by kernel_rfl) (by kernel_rfl) (fun _ _ _ h => h) (by rfl) ?_ HS ?_
                rotate_left
                · (intro u hu; (try dsimp only at hu); go_simp; try with_reducible rfl)
                simp only [Act.put, List.setIfInBounds_toArray, List.set_cons_zero, List.set_cons_succ]
                refine handTake 8 (some 155) ?_ rfl rfl (by kernel_rfl) (by kernel_rfl) (by kernel_rfl) (fun _ _ _ h => h) (by rfl) ?_ HS ?_
                rotate_left
                · (intro u hu; (try dsimp only at hu); go_simp; try with_reducible rfl)
                simp only [Act.put, List.setIfInBounds_toArray, List.set_cons_zero, List.set_cons_succ]
                refine handTake 9 (some 156) ?_ rfl rfl (by kernel_rfl) (by kernel_rfl) (by kernel_rfl) (fun _ _ _ h => h) (by rfl) ?_ HS ?_
                rotate_left
                · (intro u hu; (try dsimp only at hu); go_simp; try with_reducible rfl)
                simp only [Act.put, List.setIfInBounds_toArray, List.set_cons_zero, List.set_cons_succ]
                refine handTake 10 (some 157) ?_ rfl rfl (by kernel_rfl) (by kernel_rfl) (by kernel_rfl) (fun _ _ _ h => h) (by rfl) ?_ HS ?_
                rotate_left
                · (intro u hu; (try dsimp only at hu); go_simp; try with_reducible rfl)
                simp only [Act.put, List.setIfInBounds_toArray, List.set_cons_zero, List.set_cons_succ]
                refine handTake 11 (some 158) ?_ rfl rfl (by kernel_rfl) (by kernel_rfl) (by kernel_rfl) (fun _ _ _ h => h) (by rfl) ?_ HS ?_
                rotate_left
                · (intro u hu; (try dsimp only at hu); go_simp; try with_reducible rfl)
                simp only [Act.put, List.setIfInBounds_toArray, List.set_cons_zero, List.set_cons_succ]
                refine handTake 12 (some 159) ?_ rfl rfl (by kernel_rfl) (by kernel_rfl) (by kernel_rfl) (fun _ _ _ h => h) (by rfl) ?_ HS ?_
                rotate_left
                · (intro u hu; (try dsimp only at hu); go_simp; try with_reducible rfl)
                simp only [Act.put, List.setIfInBounds_toArray, List.set_cons_zero, List.set_cons_succ]
                refine handSkip 13 (some 160) rfl rfl (by kernel_rfl) (by kernel_rfl) (by kernel_rfl) (fun _ _ _ h => h) (by rfl) HS ?_
                simp only [Act.put, List.setIfInBounds_toArray, List.set_cons_zero, List.set_cons_succ]
                refine handSkip 14 (some 161) rfl rfl (by kernel_rfl) (by kernel_rfl) (by kernel_rfl) (fun _ _ _ h => h) (by rfl) HS ?_
                simp only [Act.put, List.setIfInBounds_toArray, List.set_cons_zero, List.set_cons_succ]
                refine handSkip 15 (some 162) rfl rfl (by kernel_rfl) (by kernel_rfl) (by kernel_rfl) (fun _ _ _ h => h) (by rfl) HS ?_
                simp only [Act.put, List.setIfInBounds_toArray, List.set_cons_zero, List.set_cons_succ]
                refine handSkip 16 (some 163) rfl rfl (by kernel_rfl) (by kernel_rfl) (by kernel_rfl) (fun _ _ _ h => h) (by rfl) HS ?_
                simp only [Act.put, List.setIfInBounds_toArray, List.set_cons_zero, List.set_cons_succ]
                refine handSkip 17 (some 164) rfl rfl (by kernel_rfl) (by kernel_rfl) (by kernel_rfl) (fun _ _ _ h => h) (by rfl) HS ?_
                simp only [Act.put, List.setIfInBounds_toArray, List.set_cons_zero, List.set_cons_succ]
                refine handTake 18 (some 165) ?_ rfl rfl (by kernel_rfl) (by kernel_rfl) (by kernel_rfl) (fun _ _ _ h => h) (by rfl) ?_ HS ?_
                rotate_left
                · (intro u hu; (try dsimp only at hu); go_simp; try with_reducible rfl)
                simp only [Act.put, List.setIfInBounds_toArray, List.set_cons_zero, List.set_cons_succ]
                refine handTake 19 (some 166) ?_ rfl rfl (by kernel_rfl) (by kernel_rfl) (by kernel_rfl) (fun _ _ _ h => h) (by rfl) ?_ HS ?_
                rotate_left
                · (intro u hu; (try dsimp only at hu); go_simp; try with_reducible rfl)
                simp only [Act.put, List.setIfInBounds_toArray, List.set_cons_zero, List.set_cons_succ]
                refine wpAnyH_done (by kernel_rfl) ?_ _
                clear HS
                go_wp2_with fail
                go_roundw
                case rel => exact ⟨k + 1, s1, v7, by omega, by go_num, rfl, hs1, HS7.out.drew.first⟩
                case measure => simp [intOf]; omega
              · by_cases hle : index ≤ tz
                · have hle' : decide (index ≤ tz) = true := by simp [hle]
                  have hrd := one_ready (N := N) (nonce := nonce) (index := index) (ap := tz) (s := s1) (by omega) (by rw [he, decide_eq_true hle]; rfl)
                  refine (ready_sep HS1.out (by omega) (one_ok hs1) tz [⟨2, 3, ⟨1, cA, em, em⟩⟩] hrd.1 1 rfl).mono ?_
                  rintro e u7 ⟨A7, c7, v7, rfl, h⟩
                  rw [hrd.2] at h
                  have HS7 := Lib.hid h; clear h hrd HS1
                  go_wp2_with fail
                  have EN := enough_any s1 hs1 N u7
                  rw [he] at EN
                  refine EN.mono ?_
                  rintro e u8 ⟨rfl, rfl⟩
                  clear EN
                  go_wp2_with fail
                  have hro : World.ownsRow u7 _ _ _ _ _ _ := HS7.out.holds (rI u6 (.slice A7 1 c7) [⟨2, 3, ⟨1, cA, em, em⟩⟩]) (by simp)
                  obtain ⟨gb, cap, hv, hgb⟩ := own_form hro (by decide)
                  obtain ⟨rfl, rfl⟩ : A7 = some ⟨gb, 0, none⟩ ∧ cap = c7 := by injection hv with h1 h2 h3; exact ⟨h1, h3.symm⟩
                  have SOF : Hid (∀ u : World, Hid (Sep w (qI g N q [] v7 ++ ([] ++ [rI u6 (.slice (some ⟨gb, 0, none⟩) 1 cap) [⟨2, 3, ⟨1, cA, em, em⟩⟩]])) u) → (fun u : World => (u.cell? ⟨gb, 0, none⟩ = some (.int .i64 2) ∧ u.cell? ⟨gb, 1, none⟩ = some (.int .i64 3) ∧ u.cell? ⟨gb, 2, none⟩ = some (.int .u8 1) ∧ u.cell? ⟨gb, 3, none⟩ = some (.string { data := #[97] }) ∧ u.cell? ⟨gb, 4, none⟩ = some (.string { data := #[] }) ∧ u.cell? ⟨gb, 5, none⟩ = some (.string { data := #[] })) ∧ Hid (Sep w (qI g N q [] v7 ++ ([] ++ [rI u6 (.slice (some ⟨gb, 0, none⟩) 1 cap) [⟨2, 3, ⟨1, cA, em, em⟩⟩]])) u)) u) := fun u h => by
                    have hr : World.ownsRow u _ _ _ _ _ _ := h.out.holds (rI u6 (.slice (some ⟨gb, 0, none⟩) 1 cap) [⟨2, 3, ⟨1, cA, em, em⟩⟩]) (by simp)
                    exact ⟨⟨hr.cellAt 0 (by decide), hr.cellAt 1 (by decide), hr.cellAt 2 (by decide), hr.cellAt 3 (by decide), hr.cellAt 4 (by decide), hr.cellAt 5 (by decide)⟩, h⟩
                  have hsame : sameRq 2 3 1 { data := #[97] } { data := #[] } { data := #[] } 2 3 1 { data := #[97] } { data := #[] } { data := #[] } = true := by kernel_rfl
                  clear hro hv
                  refine wp_region_held_drew (S := (fun u : World => (u.cell? ⟨gb, 0, none⟩ = some (.int .i64 2) ∧ u.cell? ⟨gb, 1, none⟩ = some (.int .i64 3) ∧ u.cell? ⟨gb, 2, none⟩ = some (.int .u8 1) ∧ u.cell? ⟨gb, 3, none⟩ = some (.string { data := #[97] }) ∧ u.cell? ⟨gb, 4, none⟩ = some (.string { data := #[] }) ∧ u.cell? ⟨gb, 5, none⟩ = some (.string { data := #[] })) ∧ Hid (Sep w (qI g N q [] v7 ++ ([] ++ [rI u6 (.slice (some ⟨gb, 0, none⟩) 1 cap) [⟨2, 3, ⟨1, cA, em, em⟩⟩]])) u))) (by kernel_rfl) (SOF.out _ (Lib.hid HS7.out.drew)) (fun HS => ?_)
                  refine handTake 0 (some 147) ?_ rfl rfl (by kernel_rfl) (by kernel_rfl) (by kernel_rfl) (fun _ _ _ h => h) (by rfl) ?_ HS ?_
                  rotate_left
                  · (intro u hu; (try dsimp only at hu); go_simp; try with_reducible rfl)
                  simp only [Act.put, List.setIfInBounds_toArray, List.set_cons_zero, List.set_cons_succ]
                  refine handTake 1 (some 148) ?_ rfl rfl (by kernel_rfl) (by kernel_rfl) (by kernel_rfl) (fun _ _ _ h => h) (by rfl) ?_ HS ?_
                  rotate_left
                  · (intro u hu; (try dsimp only at hu); go_simp; try with_reducible rfl)
                  simp only [Act.put, List.setIfInBounds_toArray, List.set_cons_zero, List.set_cons_succ]
                  refine handTake 2 (some 149) ?_ rfl rfl (by kernel_rfl) (by kernel_rfl) (by kernel_rfl) (fun _ _ _ h => h) (by rfl) ?_ HS ?_
                  rotate_left
                  · (intro u hu; (try dsimp only at hu); go_simp; try with_reducible rfl)
                  simp only [Act.put, List.setIfInBounds_toArray, List.set_cons_zero, List.set_cons_succ]
                  refine handTake 3 (some 150) ?_ rfl rfl (by kernel_rfl) (by kernel_rfl) (by kernel_rfl) (fun _ _ _ h => h) (by rfl) ?_ HS ?_
                  rotate_left
                  · (intro u hu; (try dsimp only at hu); go_simp; try with_reducible rfl)
                  simp only [Act.put, List.setIfInBounds_toArray, List.set_cons_zero, List.set_cons_succ]
                  refine handTake 4 (some 151) ?_ rfl rfl (by kernel_rfl) (by kernel_rfl) (by kernel_rfl) (fun _ _ _ h => h) (by rfl) ?_ HS ?_
                  rotate_left
                  · (intro u hu; (try dsimp only at hu); go_simp; try with_reducible rfl)
                  simp only [Act.put, List.setIfInBounds_toArray, List.set_cons_zero, List.set_cons_succ]
                  refine handTake 5 (some 152) ?_ rfl rfl (by kernel_rfl) (by kernel_rfl) (by kernel_rfl) (fun _ _ _ h => h) (by rfl) ?_ HS ?_
                  rotate_left
                  · (intro u hu; (try dsimp only at hu); go_simp; try with_reducible rfl)
                  simp only [Act.put, List.setIfInBounds_toArray, List.set_cons_zero, List.set_cons_succ]
                  refine handTake 6 (some 153) ?_ rfl rfl (by kernel_rfl) (by kernel_rfl) (by kernel_rfl) (fun _ _ _ h => h) (by rfl) ?_ HS ?_
                  rotate_left
                  · (intro u hu; (try dsimp only at hu); go_simp; try with_reducible rfl)
                  simp only [Act.put, List.setIfInBounds_toArray, List.set_cons_zero, List.set_cons_succ]
                  refine handTake 7 (some 154) ?_ rfl rfl (by kernel_rfl) (by kernel_rfl) (by kernel_rfl) (fun _ _ _ h => h) (by rfl) ?_ HS ?_
                  rotate_left
                  · (intro u hu; (try dsimp only at hu); go_simp; try with_reducible rfl)
                  simp only [Act.put, List.setIfInBounds_toArray, List.set_cons_zero, List.set_cons_succ]
                  refine handTake 8 (some 155) ?_ rfl rfl (by kernel_rfl) (by kernel_rfl) (by kernel_rfl) (fun _ _ _ h => h) (by rfl) ?_ HS ?_
                  rotate_left
                  · (intro u hu; (try dsimp only at hu); go_simp; try with_reducible rfl)
                  simp only [Act.put, List.setIfInBounds_toArray, List.set_cons_zero, List.set_cons_succ]
                  refine handTake 9 (some 156) ?_ rfl rfl (by kernel_rfl) (by kernel_rfl) (by kernel_rfl) (fun _ _ _ h => h) (by rfl) ?_ HS ?_
                  rotate_left
                  · (intro u hu; (try dsimp only at hu); go_simp; try with_reducible rfl)
                  simp only [Act.put, List.setIfInBounds_toArray, List.set_cons_zero, List.set_cons_succ]
                  refine handTake 10 (some 157) ?_ rfl rfl (by kernel_rfl) (by kernel_rfl) (by kernel_rfl) (fun _ _ _ h => h) (by rfl) ?_ HS ?_
                  rotate_left
                  · (intro u hu; (try dsimp only at hu); go_simp; try with_reducible rfl)
                  simp only [Act.put, List.setIfInBounds_toArray, List.set_cons_zero, List.set_cons_succ]
                  refine handTake 11 (some 158) ?_ rfl rfl (by kernel_rfl) (by kernel_rfl) (by kernel_rfl) (fun _ _ _ h => h) (by rfl) ?_ HS ?_
                  rotate_left
                  · (intro u hu; (try dsimp only at hu); go_simp; try with_reducible rfl)
                  simp only [Act.put, List.setIfInBounds_toArray, List.set_cons_zero, List.set_cons_succ]
                  refine handTake 12 (some 159) ?_ rfl rfl (by kernel_rfl) (by kernel_rfl) (by kernel_rfl) (fun _ _ _ h => h) (by rfl) ?_ HS ?_
                  rotate_left
                  · (intro u hu; (try dsimp only at hu); go_simp; try with_reducible rfl)
                  simp only [Act.put, List.setIfInBounds_toArray, List.set_cons_zero, List.set_cons_succ]
                  refine handTake 13 (some 160) ?_ rfl rfl (by kernel_rfl) (by kernel_rfl) (by kernel_rfl) (fun _ _ _ h => h) (by rfl) ?_ HS ?_
                  rotate_left
                  · (intro u hu; (try dsimp only at hu); go_simp; try with_reducible rfl)
                  simp only [Act.put, List.setIfInBounds_toArray, List.set_cons_zero, List.set_cons_succ]
                  refine handTake 14 (some 161) ?_ rfl rfl (by kernel_rfl) (by kernel_rfl) (by kernel_rfl) (fun _ _ _ h => h) (by rfl) ?_ HS ?_
                  rotate_left
                  · (intro u hu; (try dsimp only at hu); go_simp; try with_reducible rfl)
                  simp only [Act.put, List.setIfInBounds_toArray, List.set_cons_zero, List.set_cons_succ]
                  refine handTake 15 (some 162) ?_ rfl rfl (by kernel_rfl) (by kernel_rfl) (by kernel_rfl) (fun _ _ _ h => h) (by rfl) ?_ HS ?_
                  rotate_left
                  · (intro u hu; (try dsimp only at hu); go_simp; try with_reducible rfl)
                  simp only [Act.put, List.setIfInBounds_toArray, List.set_cons_zero, List.set_cons_succ]
                  refine wpAnyH_ready (rs := [16]) (by kernel_rfl) (by simp) ?_
                  refine AllReadyH.cons rfl (fun K hK => ?_) AllReadyH.nil
                  go_simp
                  clear HS
                  refine (get_law 2 3 _).mono ?_
                  rintro e9 u90 ⟨rfl, hx⟩
                  have HC1 := Lib.hid (HS7.out.drew.call hx)
                  clear hx
                  go_wp2_with fail
                  refine hK.out _ _ (SOF.out _ HC1) (fun HS => ?_)
                  clear hK
                  try simp only [Act.put, List.setIfInBounds_toArray, List.set_cons_zero, List.set_cons_succ]
                  refine handTake 17 (some 164) ?_ rfl rfl (by kernel_rfl) (by kernel_rfl) (by kernel_rfl) (fun _ _ _ h => h) (by rfl) ?_ HS ?_
                  rotate_left
                  · (intro u hu; (try dsimp only at hu); go_simp; try with_reducible rfl)
                  simp only [Act.put, List.setIfInBounds_toArray, List.set_cons_zero, List.set_cons_succ]
                  refine handTake 18 (some 165) ?_ rfl rfl (by kernel_rfl) (by kernel_rfl) (by kernel_rfl) (fun _ _ _ h => h) (by rfl) ?_ HS ?_
                  rotate_left
                  · (intro u hu; (try dsimp only at hu); go_simp; try with_reducible rfl)
                  simp only [Act.put, List.setIfInBounds_toArray, List.set_cons_zero, List.set_cons_succ]
                  refine handTake 19 (some 166) ?_ rfl rfl (by kernel_rfl) (by kernel_rfl) (by kernel_rfl) (fun _ _ _ h => h) (by rfl) ?_ HS ?_
                  rotate_left
                  · (intro u hu; (try dsimp only at hu); go_simp; try with_reducible rfl)
                  simp only [Act.put, List.setIfInBounds_toArray, List.set_cons_zero, List.set_cons_succ]
                  refine wpAnyH_done (by kernel_rfl) ?_ _
                  clear HS
                  go_wp2_with fail
                  refine (waits_sep HC1.out (by omega) QOk.nil [] rfl 0 rfl).mono ?_
                  rintro e u91 ⟨A91, c91, rfl, h⟩
                  have HC2 := Lib.hid h; clear h HC1
                  go_wp2_with fail
                  refine (ready_sep HC2.out (by omega) QOk.nil tz [] rfl 0 rfl).mono ?_
                  rintro e u92 ⟨A92, c92, v92, rfl, h⟩
                  have HC3 := Lib.hid h; clear h HC2
                  go_wp2_with fail
                  go_ret
                  exact ⟨rfl, HC3.out.below⟩
                · have hle' : decide (index ≤ tz) = false := by simp [hle]
                  have hrd := one_waits (N := N) (nonce := nonce) (index := index) (ap := tz) (s := s1) (by omega) (by rw [he, decide_eq_false hle]; rfl)
                  refine (ready_sep HS1.out (by omega) (one_ok hs1) tz [] hrd.1 0 rfl).mono ?_
                  rintro e u7 ⟨A7, c7, v7, rfl, h⟩
                  rw [hrd.2] at h
                  have HS7 := Lib.hid h; clear h hrd HS1
                  go_wp2_with fail
                  have EN := enough_any s1 hs1 N u7
                  rw [he] at EN
                  refine EN.mono ?_
                  rintro e u8 ⟨rfl, rfl⟩
                  clear EN
                  go_wp2_with fail
                  refine wp_region_held_drew (S := (fun u : World => True ∧ Hid (Sep w (qI g N q [oneR nonce index s1] v7 ++ []) u))) (by kernel_rfl) (⟨trivial, Lib.hid (HS7.out.drew.first)⟩) (fun HS => ?_)
                  refine handTake 0 (some 147) ?_ rfl rfl (by kernel_rfl) (by kernel_rfl) (by kernel_rfl) (fun _ _ _ h => h) (by rfl) ?_ HS ?_
                  rotate_left
                  · (intro u hu; (try dsimp only at hu); go_simp; try with_reducible rfl)
                  simp only [Act.put, List.setIfInBounds_toArray, List.set_cons_zero, List.set_cons_succ]
                  refine handTake 1 (some 148) ?_ rfl rfl (by kernel_rfl) (by kernel_rfl) (by kernel_rfl) (fun _ _ _ h => h) (by rfl) ?_ HS ?_
                  rotate_left
                  · (intro u hu; (try dsimp only at hu); go_simp; try with_reducible rfl)
                  simp only [Act.put, List.setIfInBounds_toArray, List.set_cons_zero, List.set_cons_succ]
                  refine handTake 2 (some 149) ?_ rfl rfl (by kernel_rfl) (by kernel_rfl) (by kernel_rfl) (fun _ _ _ h => h) (by rfl) ?_ HS ?_
                  rotate_left
                  · (intro u hu; (try dsimp only at hu); go_simp; try with_reducible rfl)
                  simp only [Act.put, List.setIfInBounds_toArray, List.set_cons_zero, List.set_cons_succ]
                  refine handTake 3 (some 150) ?_ rfl rfl (by kernel_rfl) (by kernel_rfl) (by kernel_rfl) (fun _ _ _ h => h) (by rfl) ?_ HS ?_
                  rotate_left
                  · (intro u hu; (try dsimp only at hu); go_simp; try with_reducible rfl)
                  simp only [Act.put, List.setIfInBounds_toArray, List.set_cons_zero, List.set_cons_succ]
                  refine handTake 4 (some 151) ?_ rfl rfl (by kernel_rfl) (by kernel_rfl) (by kernel_rfl) (fun _ _ _ h => h) (by rfl) ?_ HS ?_
                  rotate_left
                  · (intro u hu; (try dsimp only at hu); go_simp; try with_reducible rfl)
                  simp only [Act.put, List.setIfInBounds_toArray, List.set_cons_zero, List.set_cons_succ]
                  refine handTake 5 (some 152) ?_ rfl rfl (by kernel_rfl) (by kernel_rfl) (by kernel_rfl) (fun _ _ _ h => h) (by rfl) ?_ HS ?_
                  rotate_left
                  · (intro u hu; (try dsimp only at hu); go_simp; try with_reducible rfl)
                  simp only [Act.put, List.setIfInBounds_toArray, List.set_cons_zero, List.set_cons_succ]
                  refine handTake 6 (some 153) ?_ rfl rfl (by kernel_rfl) (by kernel_rfl) (by kernel_rfl) (fun _ _ _ h => h) (by rfl) ?_ HS ?_
                  rotate_left
                  · (intro u hu; (try dsimp only at hu); go_simp; try with_reducible rfl)
                  simp only [Act.put, List.setIfInBounds_toArray, List.set_cons_zero, List.set_cons_succ]
                  refine handTake 7 (some 154) ?_ rfl rfl (by kernel_rfl) (by kernel_rfl) (by kernel_rfl) (fun _ _ _ h => h) (by rfl) ?_ HS ?_
                  rotate_left
                  · (intro u hu; (try dsimp only at hu); go_simp; try with_reducible rfl)
                  simp only [Act.put, List.setIfInBounds_toArray, List.set_cons_zero, List.set_cons_succ]
                  refine handTake 8 (some 155) ?_ rfl rfl (by kernel_rfl) (by kernel_rfl) (by kernel_rfl) (fun _ _ _ h => h) (by rfl) ?_ HS ?_
                  rotate_left
                  · (intro u hu; (try dsimp only at hu); go_simp; try with_reducible rfl)
                  simp only [Act.put, List.setIfInBounds_toArray, List.set_cons_zero, List.set_cons_succ]
                  refine handTake 9 (some 156) ?_ rfl rfl (by kernel_rfl) (by kernel_rfl) (by kernel_rfl) (fun _ _ _ h => h) (by rfl) ?_ HS ?_
                  rotate_left
                  · (intro u hu; (try dsimp only at hu); go_simp; try with_reducible rfl)
                  simp only [Act.put, List.setIfInBounds_toArray, List.set_cons_zero, List.set_cons_succ]
                  refine handTake 10 (some 157) ?_ rfl rfl (by kernel_rfl) (by kernel_rfl) (by kernel_rfl) (fun _ _ _ h => h) (by rfl) ?_ HS ?_
                  rotate_left
                  · (intro u hu; (try dsimp only at hu); go_simp; try with_reducible rfl)
                  simp only [Act.put, List.setIfInBounds_toArray, List.set_cons_zero, List.set_cons_succ]
                  refine handTake 11 (some 158) ?_ rfl rfl (by kernel_rfl) (by kernel_rfl) (by kernel_rfl) (fun _ _ _ h => h) (by rfl) ?_ HS ?_
                  rotate_left
                  · (intro u hu; (try dsimp only at hu); go_simp; try with_reducible rfl)
                  simp only [Act.put, List.setIfInBounds_toArray, List.set_cons_zero, List.set_cons_succ]
                  refine handTake 12 (some 159) ?_ rfl rfl (by kernel_rfl) (by kernel_rfl) (by kernel_rfl) (fun _ _ _ h => h) (by rfl) ?_ HS ?_
                  rotate_left
                  · (intro u hu; (try dsimp only at hu); go_simp; try with_reducible rfl)
                  simp only [Act.put, List.setIfInBounds_toArray, List.set_cons_zero, List.set_cons_succ]
                  refine handSkip 13 (some 160) rfl rfl (by kernel_rfl) (by kernel_rfl) (by kernel_rfl) (fun _ _ _ h => h) (by rfl) HS ?_
                  simp only [Act.put, List.setIfInBounds_toArray, List.set_cons_zero, List.set_cons_succ]
                  refine handSkip 14 (some 161) rfl rfl (by kernel_rfl) (by kernel_rfl) (by kernel_rfl) (fun _ _ _ h => h) (by rfl) HS ?_
                  simp only [Act.put, List.setIfInBounds_toArray, List.set_cons_zero, List.set_cons_succ]
                  refine handSkip 15 (some 162) rfl rfl (by kernel_rfl) (by kernel_rfl) (by kernel_rfl) (fun _ _ _ h => h) (by rfl) HS ?_
                  simp only [Act.put, List.setIfInBounds_toArray, List.set_cons_zero, List.set_cons_succ]
                  refine handSkip 16 (some 163) rfl rfl (by kernel_rfl) (by kernel_rfl) (by kernel_rfl) (fun _ _ _ h => h) (by rfl) HS ?_
                  simp only [Act.put, List.setIfInBounds_toArray, List.set_cons_zero, List.set_cons_succ]
                  refine handSkip 17 (some 164) rfl rfl (by kernel_rfl) (by kernel_rfl) (by kernel_rfl) (fun _ _ _ h => h) (by rfl) HS ?_
                  simp only [Act.put, List.setIfInBounds_toArray, List.set_cons_zero, List.set_cons_succ]
                  refine handTake 18 (some 165) ?_ rfl rfl (by kernel_rfl) (by kernel_rfl) (by kernel_rfl) (fun _ _ _ h => h) (by rfl) ?_ HS ?_
                  rotate_left
                  · (intro u hu; (try dsimp only at hu); go_simp; try with_reducible rfl)
                  simp only [Act.put, List.setIfInBounds_toArray, List.set_cons_zero, List.set_cons_succ]
                  refine handTake 19 (some 166) ?_ rfl rfl (by kernel_rfl) (by kernel_rfl) (by kernel_rfl) (fun _ _ _ h => h) (by rfl) ?_ HS ?_
                  rotate_left
                  · (intro u hu; (try dsimp only at hu); go_simp; try with_reducible rfl)
                  simp only [Act.put, List.setIfInBounds_toArray, List.set_cons_zero, List.set_cons_succ]
                  refine wpAnyH_done (by kernel_rfl) ?_ _
                  clear HS
                  go_wp2_with fail
                  go_roundw
                  case rel => exact ⟨k + 1, s1, v7, by omega, by go_num, rfl, hs1, HS7.out.drew.first⟩
                  case measure => simp [intOf]; omega
    · have e : k = ns.length := by omega
      subst e
      clear hsep
      go_wp2_with fail
      refine (waits_sep HS.out (by omega) (one_ok hs) _ rfl 1 rfl).mono ?_
      rintro e u9 ⟨A9, c9, rfl, h⟩
      have HS9 := Lib.hid h; clear h
      go_wp2_with fail
      go_ret
      exact ⟨rfl, HS9.out.below⟩

theorem queueReads_row (n own nonce index : Int) (ns : List Int) {p1 : Prop} (_ : p1) (vN : Value) (aps : List Int) {p2 : Prop} (_ : p2) (vA : Value) (w : World) (hN : Row w w.heap.size vN ns.length (ints ns)) (hA : Row w w.heap.size vA aps.length (ints aps)) :
    Calls Try.prog 7 #[.int .i64 n, .int .i64 own, .int .i64 nonce, .int .i64 index, vN, vA] w fun e w' => e = .returned (.bool true) ∧ Below w.heap.size w w' := queueReads_is n own nonce index ns aps vN vA w hN hA

end Qu
end Go.Proofs.Ytinnpeonokdljaa
