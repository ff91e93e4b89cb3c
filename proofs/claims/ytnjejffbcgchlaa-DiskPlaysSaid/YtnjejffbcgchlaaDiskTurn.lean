/- What turns a disk: New, Power, Start, Lose. -/
import Derived.Test.YtnjejffbcgchlaaDiskRead
set_option linter.unusedSimpArgs false
set_option linter.unusedVariables false
namespace Go.Proofs.Ytnjejffbcgchlaa
open Go.RowKit
namespace Di

set_option maxHeartbeats 1000000 in
theorem new_bad (n : Int) (h : n < 1 ∨ 1024 < n) (w : World) : Calls Try.prog 11 #[.int .i64 n] w fun e w' => e = .returned (.tuple #[.pointer none, .int .i64 2]) ∧ w = w' := by
  by_cases h1 : n < 1
  · clear h
    go_enter Try.func11, Try.ntmps11
    go_wp2_with fail
    go_ret2
    exact ⟨rfl, rfl⟩
  · have h2 : 1024 < n := by omega
    clear h
    go_enter Try.func11, Try.ntmps11
    go_wp2_with fail
    go_ret2
    exact ⟨rfl, rfl⟩
set_option maxHeartbeats 1000000 in
theorem new_is (n : Int) (h1 : 1 ≤ n) (h2 : n ≤ 1024) {w0 : World} {l : List It} (w : World) (hS : Sep w0 l w) : Calls Try.prog 11 #[.int .i64 n] w fun e w' =>
    ∃ b pv, e = .returned (.tuple #[.pointer (some ⟨b, 0, none⟩), .int .i64 0]) ∧ Sep w0 (dI w0.heap.size b pv (.slice none 0 0) (new n.toNat) ++ l) w' := by
  obtain ⟨i0, hi, hz0, hz1, hz2⟩ := info_parts info_place
  have HS := Lib.hid hS
  have hz := hS.size
  clear hS
  go_enter Try.func11, Try.ntmps11
  go_wp2_with (first
    | (refine wpList_make_full _ rfl (.tmp 10) (.tmp 10) _ rfl w0.heap.size 82 i0 _ 129 Try.underlying51 hi hz0 hz1 .i64 .i64 n n n.toNat rfl rfl (by omega) (by omega) (by rw [hz2]; omega) (by unfold maxLen; omega) hz ?_; intro w1 hown hg))
  go_ret2
  refine ⟨w1.heap.size, .slice (some ⟨w.heap.size, 0, none⟩) n.toNat n.toNat, rfl, ?_⟩
  have hb : Below w.heap.size w w1 := (Below.refl _ _).grown hg (Nat.le_refl _) (fun k hk => by cases hk)
  have hp : Sep w0 (.row w0.heap.size 82 129 (.slice (some ⟨w.heap.size, 0, none⟩) n.toNat n.toNat) n.toNat ((new n.toNat).places.flatMap plC) :: l) w1 :=
    HS.out.add hb _ (by rw [← made_places]; exact hown) (fun k hk => Nat.le_of_eq (Option.some.inj hk))
  have hq := (hp.empty w0.heap.size 76 65).exch
  have hr := hq.alloc 54 (dkC (.slice (some ⟨w.heap.size, 0, none⟩) n.toNat n.toNat) (.slice none 0 0) (new n.toNat))
  have he : (new n.toNat).places.length = n.toNat := by simp [new]
  unfold dI
  rw [he]
  exact hr

set_option maxHeartbeats 1000000 in
theorem power_is (d : Dk) (ho : Ok d) (n : Int) (b : Nat) (pv wv : Value) {w0 : World} {l : List It} (w : World) (hS : Sep w0 (dI w0.heap.size b pv wv d ++ l) w) :
    Calls Try.prog 19 #[.pointer (some ⟨b, 0, none⟩), .int .i64 n] w fun e w' => e = .returned (.int .i64 (powerE d n)) ∧ Sep w0 (dI w0.heap.size b pv wv (powerD d n) ++ l) w' := by
  have hW := dI_box hS
  have c4 := hW.cell 4; have f4 := hW.free 4
  simp only [dkC, List.getElem?_cons_zero, List.getElem?_cons_succ] at c4
  have T := Lib.hid (live_is [] d ho b w.heap.size pv wv _ w hS (Row.nil _ _))
  have HS := Lib.hid hS
  clear hS hW ho
  have hl : liveE d [] = if d.up then 0 else 5 := rfl
  rw [hl] at T
  clear hl
  cases hup : d.up
  · have hE : powerE d n = 5 := by unfold powerE; rw [hup]; rfl
    have hD : powerD d n = d := by unfold powerD; rw [hup]; rfl
    rw [hE, hD]
    rw [hup] at T
    simp only [Bool.false_eq_true, if_false] at T
    clear hE hD hup
    go_enter Try.func19, Try.ntmps19
    go_wp2_with fail
    refine T.out.mono ?_
    rintro e u ⟨rfl, rfl⟩
    go_wp2_with fail
    go_ret
    exact ⟨rfl, HS.out⟩
  · rw [hup] at T
    simp only [if_true] at T
    by_cases hn : n < 0
    · have hE : powerE d n = 2 := by unfold powerE; rw [hup]; simp [hn]
      have hD : powerD d n = d := by unfold powerD; rw [hup]; simp [hn]
      rw [hE, hD]
      clear hE hD hup
      go_enter Try.func19, Try.ntmps19
      go_wp2_with fail
      refine T.out.mono ?_
      rintro e u ⟨rfl, rfl⟩
      go_wp2_with fail
      go_ret
      exact ⟨rfl, HS.out⟩
    · have hE : powerE d n = 0 := by unfold powerE; rw [hup]; simp [hn]
      have hD : powerD d n = { d with left := n } := by unfold powerD; rw [hup]; simp [hn]
      rw [hE, hD]
      clear hE hD hup
      go_enter Try.func19, Try.ntmps19
      go_wp2_with fail
      refine T.out.mono ?_
      rintro e u ⟨rfl, rfl⟩
      go_wp2_with fail
      go_ret
      exact ⟨rfl, HS.out.set 4 _⟩

set_option maxHeartbeats 1000000 in
theorem start_is (d : Dk) (ho : Ok d) (b : Nat) (pv wv : Value) {w0 : World} {l : List It} (w : World) (hS : Sep w0 (dI w0.heap.size b pv wv d ++ l) w) :
    Calls Try.prog 17 #[.pointer (some ⟨b, 0, none⟩)] w fun e w' => e = .returned (.int .i64 (startE d)) ∧ Sep w0 (dI w0.heap.size b pv wv (startD d) ++ l) w' := by
  obtain ⟨gb, c, rfl⟩ := dI_pv hS ho.some
  have hW := dI_box hS
  have c0 := hW.cell 0; have c2 := hW.cell 2; have f2 := hW.free 2; have c3 := hW.cell 3; have f3 := hW.free 3; have c4 := hW.cell 4; have f4 := hW.free 4
  simp only [dkC, List.getElem?_cons_zero, List.getElem?_cons_succ] at c0 c2 c3 c4
  have T := Lib.hid (there_is [] d ho.some b w.heap.size _ _ _ w c0 (Row.nil _ _))
  have HS := Lib.hid hS
  clear hS hW ho
  have hl : thereE d [] = 0 := rfl
  rw [hl] at T
  clear hl
  cases hd : d.down
  · have hE : startE d = 2 := by unfold startE; rw [hd]; rfl
    have hD : startD d = d := by unfold startD; rw [hd]; rfl
    rw [hE, hD]
    rw [hd] at c2
    clear hE hD hd
    go_enter Try.func17, Try.ntmps17
    go_wp2_with fail
    refine T.out.mono ?_
    rintro e u ⟨rfl, rfl⟩
    go_wp2_with fail
    go_ret
    exact ⟨rfl, HS.out⟩
  · have hE : startE d = 0 := by unfold startE; rw [hd]; rfl
    have hD : startD d = { d with down := false, dead := false, left := -1 } := by unfold startD; rw [hd]; rfl
    rw [hE, hD]
    rw [hd] at c2
    clear hE hD hd
    go_enter Try.func17, Try.ntmps17
    go_wp2_with fail
    refine T.out.mono ?_
    rintro e u ⟨rfl, rfl⟩
    go_wp2_with fail
    go_ret
    exact ⟨rfl, ((HS.out.set 2 (.bool false)).set 3 (.bool false)).set 4 (.int .i64 (-1))⟩
end Di
end Go.Proofs.Ytnjejffbcgchlaa
