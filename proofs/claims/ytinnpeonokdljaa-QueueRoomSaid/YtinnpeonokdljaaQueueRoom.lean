/- The law QueueRoom, walked. -/
import Derived.Test.YtinnpeonokdljaaQueueAwake
set_option linter.unusedSimpArgs false
set_option linter.unusedVariables false
namespace Go.Proofs.Ytinnpeonokdljaa
open Go.RowKit

namespace Qu
open Qm
def roomW (first : Int) (j : Nat) : Wt := ⟨⟨(j : Int) % 4, first + (j : Int), ⟨2, cA, em, c1⟩⟩, 0, 0, 16⟩
def roomL (first : Int) (k : Nat) : List Wt := (List.range k).map (roomW first)
theorem room_len (first : Int) (k : Nat) : (roomL first k).length = k := by unfold roomL; simp
theorem room_next (first : Int) (k : Nat) : roomL first (k + 1) = roomL first k ++ [roomW first k] := by unfold roomL; rw [List.range_succ, List.map_append]; rfl
theorem room_no {first : Int} {k : Nat} {m s : Int} (h : ∀ j : Nat, j < k → first + (j : Int) ≠ s) : hasB (roomL first k) m s = false := by
  unfold hasB
  rw [List.any_eq_false]
  intro x hx
  unfold roomL at hx
  obtain ⟨j, hj, rfl⟩ := List.mem_map.1 hx
  unfold isB roomW
  simp [h j (List.mem_range.1 hj)]
theorem room_yes {first : Int} {k c : Nat} (h : c < k) : hasB (roomL first k) ((c : Int) % 4) (first + (c : Int)) = true := by
  unfold hasB
  rw [List.any_eq_true]
  refine ⟨roomW first c, List.mem_map.2 ⟨c, List.mem_range.2 h, rfl⟩, ?_⟩
  unfold isB roomW
  simp
theorem room_done (first : Int) (j c : Nat) : doneB ((c : Int) % 4) (first + (c : Int)) (roomW first j) = decide (j = c) := by
  unfold doneB isB roomW
  by_cases h : j = c
  · subst h; simp
  · have : ¬ first + (j : Int) = first + (c : Int) := by omega
    simp [h]
    intro _
    omega
theorem room_left (first : Int) (c : Nat) (h : c < 8) : (left (doneB ((c : Int) % 4) (first + (c : Int))) (roomL first 8)).length = 7 := by
  unfold left roomL
  rw [List.filter_map, List.length_map]
  have : ((fun x => !doneB ((c : Int) % 4) (first + (c : Int)) x) ∘ roomW first) = fun j => !decide (j = c) := funext fun j => by
    show (!doneB ((c : Int) % 4) (first + (c : Int)) (roomW first j)) = _
    rw [room_done]
  rw [this]
  have : ∀ c : Fin 8, ((List.range 8).filter fun j => !decide (j = c.1)).length = 7 := by decide
  exact this ⟨c, h⟩
theorem room_any (first : Int) (c : Nat) (h : c < 8) : (roomL first 8).any (doneB ((c : Int) % 4) (first + (c : Int))) = true := by
  rw [List.any_eq_true]
  exact ⟨roomW first c, List.mem_map.2 ⟨c, List.mem_range.2 h, rfl⟩, by rw [room_done]; simp⟩
theorem good_num {s : Int} (h1 : 1 ≤ s) (h2 : s ≤ 1099511627776) : numB 1 s = true := by unfold numB; rw [decide_eq_true h1, decide_eq_true h2]; rfl
theorem put_good {own : Int} {L : List Wt} {m s nn ix : Int} {op : Po} (h0 : 0 ≤ m) (h1 : m < 4) (h2 : 1 ≤ s) (h3 : s ≤ 1099511627776) (h4 : mayOpB op = true) :
    putR own true L ⟨m, s, op⟩ nn ix = if hasB L m s then (false, 0, L) else if (8 : Int) ≤ (L.length : Int) then (false, 4, L) else (true, 0, L ++ [⟨⟨m, s, op⟩, nn, ix, addN 0 own⟩]) := by
  unfold putR badR
  dsimp only
  rw [good_num h2 h3, h4, decide_eq_false (by omega : ¬ m < 0), decide_eq_false (by omega : ¬ 4 ≤ m), if_neg (by decide)]

set_option maxRecDepth 100000 in
set_option maxHeartbeats 8000000 in
theorem queueRoom_is (first which : Int) (w : World) :
    Calls Try.prog 4 #[.int .i64 first, .int .i64 which] w fun e w' => e = .returned (.bool true) ∧ Below w.heap.size w w' := by
  have AW := Lib.hid (awake_is w)
  obtain ⟨c, hc, hc8⟩ : ∃ c : Nat, wrap64 ((IntKind.u64.wrap which).tmod 8) = (c : Int) ∧ c < 8 := by
    refine ⟨(wrap64 ((IntKind.u64.wrap which).tmod 8)).toNat, ?_, ?_⟩
    all_goals
      unfold wrap64
      rw [IntKind.wrap_u64, Int.tmod_eq_emod_of_nonneg (by omega)]
      omega
  obtain ⟨m, hm, hme⟩ : ∃ m : Int, (c : Int).tmod 4 = m ∧ m = (c : Int) % 4 := ⟨_, rfl, Int.tmod_eq_emod_of_nonneg (by omega)⟩
  go_enter Try.func4, Try.ntmps4
  go_wp2_with fail
  refine AW.out.mono ?_
  rintro e u0 ⟨rfl, hx⟩
  have HB := Lib.hid hx
  clear hx AW
  by_cases c1' : first < 1
  · go_wp2_with fail
    go_ret
    exact ⟨rfl, HB.out⟩
  by_cases c2' : 1073741824 < first
  · go_wp2_with fail
    go_ret
    exact ⟨rfl, HB.out⟩
  have HNW := Lib.hid (new_sep 5 4 (by kernel_rfl) (Sep.start w HB.out))
  obtain ⟨g, hg⟩ : ∃ g, g = u0.heap.size := ⟨_, rfl⟩
  rw [← hg] at HNW
  have HG := Lib.hid hg; clear hg
  go_wp2_with fail
  refine HNW.out.mono ?_
  rintro e u1 ⟨rfl, h⟩
  have HS1 := Lib.hid h; clear h HNW
  go_wp2_with fail
  go_loopw [7] (fun iv wr => ∃ (k : Nat) (v : Value), k ≤ 8 ∧ iv = .int .i64 k ∧ QOk (roomL first k) ∧ Sep w (qI g 5 4 (roomL first k) v ++ []) wr) (fun iv _ => 8 - (intOf iv).toNat)
  case atStart => exact ⟨0, _, by omega, rfl, QOk.nil, HS1.out⟩
  case round =>
    obtain ⟨k, v, hk, rfl, hok, hsep⟩ := hrel
    have HS := Lib.hid hsep
    have OK := Lib.hid hok
    clear hsep hok HS1
    by_cases hlt : k < 8
    · have hk1 : (k : Int) < 8 := by omega
      obtain ⟨m1, hm1, hm1e⟩ : ∃ m1 : Int, (k : Int).tmod 4 = m1 ∧ m1 = (k : Int) % 4 := ⟨_, rfl, Int.tmod_eq_emod_of_nonneg (by omega)⟩
      have HP : Hid ((true, (0 : Int), roomL first (k + 1)) = putR 4 (!readsB ⟨2, cA, em, c1⟩) (roomL first k) ⟨m1, first + (k : Int), ⟨2, cA, em, c1⟩⟩ 0 0) := by
        show _ = putR 4 true (roomL first k) ⟨m1, first + (k : Int), ⟨2, cA, em, c1⟩⟩ 0 0
        rw [put_good (by omega) (by omega) (by omega) (by omega) (by kernel_rfl), room_no (fun j hj => by omega), room_next, room_len]
        simp only [Bool.false_eq_true, if_false]
        rw [if_neg (by omega), hm1e]
        rfl
      clear hm1e
      go_wp2_with fail
      refine (put_law m1 (first + (k : Int)) _).mono ?_
      rintro e u2 ⟨rfl, hx⟩
      have HS2 := Lib.hid (HS.out.call hx); clear hx HS
      go_wp2_with fail
      refine (write_sep HS2.out (by decide) OK.out m1 (first + (k : Int)) 2 cA em c1).mono ?_
      rintro e u3 h
      obtain ⟨rfl, hok, v3, h⟩ := h _ HP.out
      have HS3 := Lib.hid h; have OK3 := Lib.hid hok; clear h hok HS2 OK HP
      go_wp2_with fail
      exact ⟨⟨k + 1, v3, by omega, by go_num, OK3.out, HS3.out⟩, by simp [intOf]; omega⟩
    · have e : k = 8 := by omega
      subst e
      have HP1 : Hid ((false, (4 : Int), roomL first 8) = putR 4 (!readsB ⟨2, cA, em, c1⟩) (roomL first 8) ⟨0, first + 8, ⟨2, cA, em, c1⟩⟩ 0 0) := by
        show _ = putR 4 true (roomL first 8) ⟨0, first + 8, ⟨2, cA, em, c1⟩⟩ 0 0
        rw [put_good (by omega) (by omega) (by omega) (by omega) (by kernel_rfl), room_no (fun j hj => by omega), room_len]
        rfl
      have HP2 : Hid ((false, (0 : Int), roomL first 8) = putR 4 (!readsB ⟨2, cA, em, c1⟩) (roomL first 8) ⟨m, first + (c : Int), ⟨2, cA, em, c1⟩⟩ 0 0) := by
        show _ = putR 4 true (roomL first 8) ⟨m, first + (c : Int), ⟨2, cA, em, c1⟩⟩ 0 0
        rw [put_good (by omega) (by omega) (by omega) (by omega) (by kernel_rfl), hme, room_yes hc8]
        rfl
      have HP3 : Hid ((false, (4 : Int), roomL first 8) = putR 4 (readsB ⟨1, cA, em, em⟩ && numB 1 1 && numB 0 0) (roomL first 8) ⟨0, first + 9, ⟨1, cA, em, em⟩⟩ 1 0) := by
        show _ = putR 4 true (roomL first 8) ⟨0, first + 9, ⟨1, cA, em, em⟩⟩ 1 0
        rw [put_good (by omega) (by omega) (by omega) (by omega) (by kernel_rfl), room_no (fun j hj => by omega), room_len]
        rfl
      have HD : Hid ((roomL first 8).any (doneB m (first + (c : Int))) = true) := by show _ = true; rw [hme]; exact room_any first c hc8
      have hl7 : (left (doneB m (first + (c : Int))) (roomL first 8)).length = 7 := by rw [hme]; exact room_left first c hc8
      obtain ⟨L7, hL7⟩ : ∃ L7, left (doneB m (first + (c : Int))) (roomL first 8) = L7 := ⟨_, rfl⟩
      have HP4 : Hid ((true, (0 : Int), L7 ++ [⟨⟨0, first + 9, ⟨1, cA, em, em⟩⟩, 1, 0, 16⟩]) = putR 4 (readsB ⟨1, cA, em, em⟩ && numB 1 1 && numB 0 0) L7 ⟨0, first + 9, ⟨1, cA, em, em⟩⟩ 1 0) := by
        show _ = putR 4 true L7 ⟨0, first + 9, ⟨1, cA, em, em⟩⟩ 1 0
        have hno : hasB L7 0 (first + 9) = false := by
          have h8 := room_no (first := first) (k := 8) (m := 0) (s := first + 9) (fun j hj => by omega)
          unfold hasB at h8 ⊢
          rw [List.any_eq_false] at h8 ⊢
          intro x hx
          rw [← hL7] at hx
          exact h8 x (List.mem_filter.1 hx).1
        rw [put_good (by omega) (by omega) (by omega) (by omega) (by kernel_rfl), hno, ← hL7, hl7]
        rfl
      have OK7 := Lib.hid (OK.out.left (doneB m (first + (c : Int))))
      rw [hL7] at hl7 OK7
      have HL7 := Lib.hid hL7
      have HLen := Lib.hid hl7
      clear hL7 hl7 hme
      go_wp2_with fail
      refine (put_law 0 (first + 8) _).mono ?_
      rintro e u2 ⟨rfl, hx⟩
      have HS2 := Lib.hid (HS.out.call hx); clear hx HS
      go_wp2_with fail
      refine (write_sep HS2.out (by decide) OK.out 0 (first + 8) 2 cA em c1).mono ?_
      rintro e u3 h
      obtain ⟨rfl, _, v3, h⟩ := h _ HP1.out
      have HS3 := Lib.hid h; clear h HS2 HP1
      go_wp2_with fail
      refine (put_law m (first + (c : Int)) _).mono ?_
      rintro e u4 ⟨rfl, hx⟩
      have HS4 := Lib.hid (HS3.out.call hx); clear hx HS3
      go_wp2_with fail
      refine (write_sep HS4.out (by decide) OK.out m (first + (c : Int)) 2 cA em c1).mono ?_
      rintro e u5 h
      obtain ⟨rfl, _, v5, h⟩ := h _ HP2.out
      have HS5 := Lib.hid h; clear h HS4 HP2
      go_wp2_with fail
      refine (get_law 0 (first + 9) _).mono ?_
      rintro e u6 ⟨rfl, hx⟩
      have HS6 := Lib.hid (HS5.out.call hx); clear hx HS5
      go_wp2_with fail
      refine (read_sep HS6.out (by decide) OK.out 0 (first + 9) 1 cA em em 1 0).mono ?_
      rintro e u7 h
      obtain ⟨rfl, _, v7, h⟩ := h _ HP3.out
      have HS7 := Lib.hid h; clear h HS6 HP3
      go_wp2_with fail
      refine (done_sep HS7.out (by decide) OK.out m (first + (c : Int)) true HD.out).mono ?_
      rintro e u8 ⟨rfl, v8, h⟩
      rw [HL7.out] at h
      have HS8 := Lib.hid h; clear h HS7 HD
      go_wp2_with fail
      refine (get_law 0 (first + 9) _).mono ?_
      rintro e u9 ⟨rfl, hx⟩
      have HS9 := Lib.hid (HS8.out.call hx); clear hx HS8
      go_wp2_with fail
      refine (read_sep HS9.out (by decide) OK7.out 0 (first + 9) 1 cA em em 1 0).mono ?_
      rintro e u10 h
      obtain ⟨rfl, hok, v10, h⟩ := h _ HP4.out
      have HS10 := Lib.hid h; have OK10 := Lib.hid hok; clear h hok HS9 HP4
      go_wp2_with fail
      refine (waits_sep HS10.out (by decide) OK10.out _ rfl 8 (by rw [List.length_map, List.length_append, HLen.out]; rfl)).mono ?_
      rintro e u11 ⟨A11, c11, rfl, h⟩
      have HS11 := Lib.hid h; clear h HS10
      go_wp2_with fail
      go_ret
      exact ⟨rfl, HS11.out.below⟩

end Qu
end Go.Proofs.Ytinnpeonokdljaa
