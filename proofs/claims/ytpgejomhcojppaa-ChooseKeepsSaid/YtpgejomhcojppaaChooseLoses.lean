/- Some lose what they accepted: loses, walked. -/
import Derived.Test.YtpgejomhcojppaaChooseAccepts
set_option linter.unusedSimpArgs false
set_option linter.unusedVariables false
namespace Go.Proofs.Ytpgejomhcojppaa
open Go.RowKit
namespace Ch
open Bl Qm
/-- Behind i replicas. -/
def losS (s : Sl) (so bl i : Nat) : Sl := ⟨s.n, loseN s.ch s.cb s.n so bl s.ps i, s.qs, s.ch, s.cb⟩
theorem losS_zero (s : Sl) (so bl : Nat) : losS s so bl 0 = s := rfl
theorem losS_no {s : Sl} {so bl i : Nat} (h : hasB so (i : Int) = false ∨ (((losS s so bl i).at_ i).st ≠ 2 ∧ ((losS s so bl i).at_ i).st ≠ 3)) : losS s so bl (i + 1) = losS s so bl i := by
  unfold losS
  rw [loseN]
  rw [if_pos]
  rcases h with h | h
  · rw [h]; rfl
  · have h1 : (((loseN s.ch s.cb s.n so bl s.ps i).getD i zeroPl).st == 2) = false := by rw [beq_eq_false_iff_ne]; exact h.1
    have h2 : (((loseN s.ch s.cb s.n so bl s.ps i).getD i zeroPl).st == 3) = false := by rw [beq_eq_false_iff_ne]; exact h.2
    rw [h1, h2]; simp
theorem losS_keep {s : Sl} {so bl i : Nat} (h : ((losS s so bl i).at_ i).st = 2) (ho : othersB s.ch s.cb (losS s so bl i).ps i s.n = false) : losS s so bl (i + 1) = losS s so bl i := by
  unfold losS
  rw [loseN]
  try dsimp only
  have h : ((loseN s.ch s.cb s.n so bl s.ps i).getD i zeroPl).st = 2 := h
  have ho : othersB s.ch s.cb (loseN s.ch s.cb s.n so bl s.ps i) i s.n = false := ho
  by_cases hh : hasB so (i : Int) = true
  · rw [if_neg (by rw [hh, h]; simp), if_pos (by rw [ho, h]; rfl)]
  · rw [if_pos (by simp [hh])]
theorem losS_lost {s : Sl} {so bl i : Nat} (hh : hasB so (i : Int) = true) (h : ((losS s so bl i).at_ i).st = 3 ∨ (((losS s so bl i).at_ i).st = 2 ∧ othersB s.ch s.cb (losS s so bl i).ps i s.n = true)) :
    losS s so bl (i + 1) = ⟨s.n, (losS s so bl i).ps.set i ⟨((losS s so bl i).at_ i).pr, ((losS s so bl i).at_ i).b, if hasB bl (i : Int) then 4 else 3, ((losS s so bl i).at_ i).sq⟩, s.qs, s.ch, s.cb⟩ := by
  unfold losS
  rw [loseN]
  try dsimp only
  have h : ((loseN s.ch s.cb s.n so bl s.ps i).getD i zeroPl).st = 3 ∨ (((loseN s.ch s.cb s.n so bl s.ps i).getD i zeroPl).st = 2 ∧ othersB s.ch s.cb (loseN s.ch s.cb s.n so bl s.ps i) i s.n = true) := h
  rcases h with h | ⟨h, ho⟩
  · rw [if_neg (by rw [hh, h]; simp), if_neg (by rw [h]; simp)]; rfl
  · rw [if_neg (by rw [hh, h]; simp), if_neg (by rw [ho]; simp)]; rfl
theorem losS_len {s : Sl} (hl : s.ps.length = 7) (hn : s.n ≤ 7) (so bl i : Nat) (hi : i ≤ s.n) : (losS s so bl i).ps.length = 7 := by
  have key : ∀ i, (loseN s.ch s.cb s.n so bl s.ps i).length = s.ps.length := by
    intro i
    induction i with
    | zero => rfl
    | succ i ih =>
      rw [loseN]
      try dsimp only
      split
      · exact ih
      · split
        · exact ih
        · rw [List.length_set]; exact ih
  exact (key i).trans hl
/-- Others behind k replicas. -/
def othK (ch : Int) (cb : Ba) (X : List Pl) (i k : Nat) : Bool := decide (ch = 0) || (List.range k).any fun k => decide (k ≠ i) && (X.getD k zeroPl).st == 2 && !lessB (X.getD k zeroPl).b cb
theorem othK_zero (ch : Int) (cb : Ba) (X : List Pl) (i : Nat) : othK ch cb X i 0 = decide (ch = 0) := by unfold othK; simp
theorem othK_next (ch : Int) (cb : Ba) (X : List Pl) (i k : Nat) : othK ch cb X i (k + 1) = (othK ch cb X i k || (decide (k ≠ i) && (X.getD k zeroPl).st == 2 && !lessB (X.getD k zeroPl).b cb)) := by
  unfold othK
  rw [List.range_succ, List.any_append, Bool.or_assoc]
  simp
set_option maxRecDepth 100000 in
set_option maxHeartbeats 16000000 in
theorem loses_is (s : Sl) (hn : s.n = 3 ∨ s.n = 5 ∨ s.n = 7) (hl : s.ps.length = 7) (so bl : Nat) (hso : so < 256) (hbl : bl < 256) (g : Nat) (pv : Value) {w0 : World} {l : List It} {w : World}
    (hS : Sep w0 (sI w0.heap.size g pv s ++ l) w) :
    Calls Try.prog 14 #[.pointer (some ⟨g, 0, none⟩), .int .u8 (so : Nat), .int .u8 (bl : Nat)] w fun e w' => e = .returned (.tuple #[]) ∧ Sep w0 (sI w0.heap.size g pv (loses s so bl) ++ l) w' := by
  have HLO : Hid (loses s so bl = losS s so bl s.n) := rfl
  obtain ⟨N, hN⟩ : ∃ N, s.n = N := ⟨_, rfl⟩
  have hN7 : N ≤ 7 := by omega
  have hN0 : 0 < N := by omega
  have HLP : Hid (∀ i, i ≤ N → (losS s so bl i).ps.length = 7) := fun i hi => losS_len hl (by omega) so bl i (by omega)
  have HCE : Hid (∀ i, i ≤ N → ∀ u : World, Sep w0 (sI w0.heap.size g pv (losS s so bl i) ++ l) u → SlAt g pv (losS s so bl i) u) := fun i hi u h => sl_at h (HLP.out i hi)
  have hS0 : Hid (Sep w0 (sI w0.heap.size g pv (losS s so bl 0) ++ l) w) := hS
  obtain ⟨ch, hch⟩ : ∃ ch, s.ch = ch := ⟨_, rfl⟩
  obtain ⟨⟨cr, cp⟩, hcb⟩ : ∃ cb, s.cb = cb := ⟨_, rfl⟩
  have HAN : Hid (∀ i, (losS s so bl i).n = N ∧ (losS s so bl i).ch = ch ∧ (losS s so bl i).cb = ⟨cr, cp⟩) := fun i => ⟨hN, hch, hcb⟩
  have HNN := Lib.hid hN
  have HCH := Lib.hid hch
  have HCB := Lib.hid hcb
  rw [hN] at HLO
  clear hS hl hn hN hch hcb
  go_enter Try.func14, Try.ntmps14
  go_wp2_with fail
  go_loopw [6] (fun iv wr => ∃ i : Nat, i ≤ N ∧ iv = .int .i64 i ∧ Sep w0 (sI w0.heap.size g pv (losS s so bl i) ++ l) wr) (fun iv _ => N - (intOf iv).toNat)
  case atStart => exact ⟨0, Nat.zero_le _, rfl, hS0.out⟩
  case round =>
    obtain ⟨i, hi, rfl, hs⟩ := hrel
    have z := HCE.out i hi _ hs
    have c0 := z.n
    rw [(HAN.out i).1] at c0
    have HS := Lib.hid hs
    have hi0 : (0 : Int) ≤ (i : Int) := by omega
    by_cases hlt : i < N
    · have hi7 : i < 7 := by omega
      have hi1 : (i : Int) < (N : Int) := by omega
      have hi71 : (i : Int) < 7 := by omega
      have HNO := Lib.hid (losS_no (s := s) (so := so) (bl := bl) (i := i))
      have HKP := Lib.hid (losS_keep (s := s) (so := so) (bl := bl) (i := i))
      have HLS := Lib.hid (losS_lost (s := s) (so := so) (bl := bl) (i := i))
      have x4c := z.pl i hi7 4 _ rfl
      have x4f := z.free (1 + i * 6 + 4)
      have c44 := z.ch
      rw [(HAN.out i).2.1] at c44
      have HST : Hid (∀ (u : World) (v : Nat), Sep w0 (sI w0.heap.size g pv (losS s so bl i) ++ l) u → Sep w0 (sI w0.heap.size g pv ⟨s.n, (losS s so bl i).ps.set i ⟨((losS s so bl i).at_ i).pr, ((losS s so bl i).at_ i).b, v, ((losS s so bl i).at_ i).sq⟩, s.qs, s.ch, s.cb⟩ ++ l) (u.setCell ⟨g, 1 + i * 6 + 4, none⟩ (.int .u8 (v : Nat)))) := fun u v h => sl_st h (HLP.out i hi) hi7 v
      have HS4 : Hid (∀ (u : World), Sep w0 (sI w0.heap.size g pv (losS s so bl i) ++ l) u → Sep w0 (sI w0.heap.size g pv ⟨s.n, (losS s so bl i).ps.set i ⟨((losS s so bl i).at_ i).pr, ((losS s so bl i).at_ i).b, 4, ((losS s so bl i).at_ i).sq⟩, s.qs, s.ch, s.cb⟩ ++ l) ((u.setCell ⟨g, 1 + i * 6 + 4, none⟩ (.int .u8 ((3 : Nat) : Int))).setCell ⟨g, 1 + i * 6 + 4, none⟩ (.int .u8 ((4 : Nat) : Int)))) := fun u h => by
        have h1 := HST.out u 3 h
        have h2 := sl_st h1 (by rw [List.length_set]; exact HLP.out i hi) hi7 4
        have e : (Sl.at_ ⟨s.n, (losS s so bl i).ps.set i ⟨((losS s so bl i).at_ i).pr, ((losS s so bl i).at_ i).b, 3, ((losS s so bl i).at_ i).sq⟩, s.qs, s.ch, s.cb⟩ i) = ⟨((losS s so bl i).at_ i).pr, ((losS s so bl i).at_ i).b, 3, ((losS s so bl i).at_ i).sq⟩ := by
          show List.getD (List.set _ i _) i zeroPl = _
          rw [getD_set _ _ _ _ _ (by rw [HLP.out i hi]; omega), if_pos rfl]
        rw [e] at h2
        dsimp only at h2
        rw [List.set_set] at h2
        exact h2
      obtain ⟨xst, hx⟩ : ∃ x, ((losS s so bl i).at_ i).st = x := ⟨_, rfl⟩
      have HXS := Lib.hid hx
      rw [hx] at HNO HKP HLS x4c
      clear hx hs
      have HHA := has_any so hso (i : Int)
      have HHB := has_any bl hbl (i : Int)
      cases hhas : hasB so (i : Int)
      · rw [hhas] at HHA HNO
        have HHA := Lib.hid HHA
        clear hhas
        go_wp2_with fail
        refine (HHA.out _).mono ?_
        rintro e u1 ⟨rfl, rfl⟩
        go_wp2_with fail
        go_roundw
        case rel => exact ⟨i + 1, by omega, by go_num, by rw [HNO.out (.inl (by trivial))]; exact HS.out⟩
        case measure => show N - ((i : Int) + 1).toNat < N - (i : Int).toNat; omega
      · rw [hhas] at HHA
        have HHAS := Lib.hid hhas
        have HHA := Lib.hid HHA
        clear hhas
        by_cases hst : xst ≠ 2 ∧ xst ≠ 3
        · have e2 : ((xst : Int) == 2) = false := by simp; omega
          have e3 : ((xst : Int) == 3) = false := by simp; omega
          have e2n : ((xst : Int) != 2) = true := by simp; omega
          have e3n : ((xst : Int) != 3) = true := by simp; omega
          have HN2 := Lib.hid (HNO.out (.inr hst))
          clear hst
          go_wp2_with fail
          refine (HHA.out _).mono ?_
          rintro e u1 ⟨rfl, rfl⟩
          go_wp2_with fail
          go_roundw
          case rel => exact ⟨i + 1, by omega, by go_num, by rw [HN2.out]; exact HS.out⟩
          case measure => show N - ((i : Int) + 1).toNat < N - (i : Int).toNat; omega
        · rcases (by omega : xst = 2 ∨ xst = 3) with hs2 | hs2
          · subst hs2
            go_wp2_with fail
            refine (HHA.out _).mono ?_
            rintro e u1 ⟨rfl, rfl⟩
            go_wp2_with fail
            go_loopw [7, 8] (fun ov kv wq => ∃ k : Nat, k ≤ N ∧ kv = .int .i64 k ∧ ov = .bool (othK ch ⟨cr, cp⟩ (losS s so bl i).ps i k) ∧ Sep w0 (sI w0.heap.size g pv (losS s so bl i) ++ l) wq) (fun _ kv _ => N - (intOf kv).toNat)
            case atStart => exact ⟨0, Nat.zero_le _, rfl, by rw [othK_zero, Bool.beq_eq_decide_eq], HS.out⟩
            case round =>
              obtain ⟨k, hk, rfl, rfl, hq⟩ := hrel
              have zq := HCE.out i hi _ hq
              have cq0 := zq.n
              rw [(HAN.out i).1] at cq0
              have HQ := Lib.hid hq
              have hk0 : (0 : Int) ≤ (k : Int) := by omega
              by_cases hkl : k < N
              · have hk7 : k < 7 := by omega
                have hk1 : (k : Int) < (N : Int) := by omega
                have hk71 : (k : Int) < 7 := by omega
                have HON := Lib.hid (othK_next ch ⟨cr, cp⟩ (losS s so bl i).ps i k)
                have y0 := zq.pl k hk7 0 _ rfl; have y1 := zq.pl k hk7 1 _ rfl; have y2 := zq.pl k hk7 2 _ rfl; have y3 := zq.pl k hk7 3 _ rfl; have y4 := zq.pl k hk7 4 _ rfl; have y5 := zq.pl k hk7 5 _ rfl
                simp only [Nat.add_zero] at y0
                obtain ⟨y, hy⟩ : ∃ y, (losS s so bl i).at_ k = y := ⟨_, rfl⟩
                have hy2 : (losS s so bl i).ps.getD k zeroPl = y := hy
                rw [hy] at y0 y1 y2 y3 y4 y5
                rw [hy2] at HON
                obtain ⟨⟨yr, yp⟩, ⟨zr, zp⟩, yst, ysq⟩ := y
                dsimp only at y0 y1 y2 y3 y4 y5 HON
                obtain ⟨ov, hov⟩ : ∃ ov, othK ch ⟨cr, cp⟩ (losS s so bl i).ps i k = ov := ⟨_, rfl⟩
                rw [hov] at HON ⊢
                clear hov hy hy2 hq zq
                obtain ⟨V, hV⟩ : ∃ V : World, V = wr.alloc (.cells #[.int .i64 yr, .int .i64 yp, .int .i64 zr, .int .i64 zp, .int .u8 (yst : Nat), .int .i64 ysq] 41) := ⟨_, rfl⟩
                have HV : Hid (Sep w0 (sI w0.heap.size g pv (losS s so bl i) ++ l) V) := by rw [hV]; exact HQ.out.fresh _
                have HBX : Hid (Whole V wr.heap.size 41 [.int .i64 yr, .int .i64 yp, .int .i64 zr, .int .i64 zp, .int .u8 (yst : Nat), .int .i64 ysq]) := by rw [hV]; exact Whole.new _ _ _
                have SOF : Hid (∀ u : World, Sep w0 (sI w0.heap.size g pv (losS s so bl i) ++ l) u → Whole u wr.heap.size 41 [.int .i64 yr, .int .i64 yp, .int .i64 zr, .int .i64 zp, .int .u8 (yst : Nat), .int .i64 ysq] → u.cell? ⟨wr.heap.size, 2, none⟩ = some (.int .i64 zr) ∧ u.cell? ⟨wr.heap.size, 3, none⟩ = some (.int .i64 zp) ∧ u.cell? ⟨wr.heap.size, 4, none⟩ = some (.int .u8 (yst : Nat)) ∧ u.cell? ⟨g, 45, none⟩ = some (.int .i64 cr) ∧ u.cell? ⟨g, 46, none⟩ = some (.int .i64 cp)) := fun u h hb => ⟨hb.cell 2, hb.cell 3, hb.cell 4, by have := (HCE.out i hi u h).cr; rw [(HAN.out i).2.2] at this; exact this, by have := (HCE.out i hi u h).cp; rw [(HAN.out i).2.2] at this; exact this⟩
                cases ov
                · by_cases hki : k = i
                  · have hne : ((k : Int) != (i : Int)) = false := by simp; omega
                    have HKI := Lib.hid hki
                    clear hki
                    go_wp2_with fail
                    rw [← hV]
                    clear hV
                    refine wp_region_held_drew (S := (fun u : World => u.cell? ⟨wr.heap.size, 2, none⟩ = some (.int .i64 zr) ∧ u.cell? ⟨wr.heap.size, 3, none⟩ = some (.int .i64 zp) ∧ u.cell? ⟨wr.heap.size, 4, none⟩ = some (.int .u8 (yst : Nat)) ∧ u.cell? ⟨g, 45, none⟩ = some (.int .i64 cr) ∧ u.cell? ⟨g, 46, none⟩ = some (.int .i64 cp))) (by kernel_rfl) (SOF.out _ HV.out.drew HBX.out.drew) (fun HS => ?_)
                    refine handTake 0 (some 61) ?_ rfl rfl (by kernel_rfl) (by kernel_rfl) (by kernel_rfl) (fun _ _ _ h => h) (by rfl) ?_ HS ?_
                    rotate_left
                    · (intro u hu; (try dsimp only at hu); go_simp; try with_reducible rfl)
                    simp only [Act.put, List.setIfInBounds_toArray, List.set_cons_zero, List.set_cons_succ]
                    refine handTake 1 (some 62) ?_ rfl rfl (by kernel_rfl) (by kernel_rfl) (by kernel_rfl) (fun _ _ _ h => h) (by rfl) ?_ HS ?_
                    rotate_left
                    · (intro u hu; (try dsimp only at hu); go_simp; try with_reducible rfl)
                    simp only [Act.put, List.setIfInBounds_toArray, List.set_cons_zero, List.set_cons_succ]
                    refine handTake 2 (some 63) ?_ rfl rfl (by kernel_rfl) (by kernel_rfl) (by kernel_rfl) (fun _ _ _ h => h) (by rfl) ?_ HS ?_
                    rotate_left
                    · (intro u hu; (try dsimp only at hu); go_simp; try with_reducible rfl)
                    simp only [Act.put, List.setIfInBounds_toArray, List.set_cons_zero, List.set_cons_succ]
                    refine handTake 3 (some 64) ?_ rfl rfl (by kernel_rfl) (by kernel_rfl) (by kernel_rfl) (fun _ _ _ h => h) (by rfl) ?_ HS ?_
                    rotate_left
                    · (intro u hu; (try dsimp only at hu); go_simp; try with_reducible rfl)
                    simp only [Act.put, List.setIfInBounds_toArray, List.set_cons_zero, List.set_cons_succ]
                    refine handTake 4 (some 65) ?_ rfl rfl (by kernel_rfl) (by kernel_rfl) (by kernel_rfl) (fun _ _ _ h => h) (by rfl) ?_ HS ?_
                    rotate_left
                    · (intro u hu; (try dsimp only at hu); go_simp; try with_reducible rfl)
                    simp only [Act.put, List.setIfInBounds_toArray, List.set_cons_zero, List.set_cons_succ]
                    refine handTake 5 (some 66) ?_ rfl rfl (by kernel_rfl) (by kernel_rfl) (by kernel_rfl) (fun _ _ _ h => h) (by rfl) ?_ HS ?_
                    rotate_left
                    · (intro u hu; (try dsimp only at hu); go_simp; try with_reducible rfl)
                    simp only [Act.put, List.setIfInBounds_toArray, List.set_cons_zero, List.set_cons_succ]
                    refine handSkip 6 (some 67) rfl rfl (by kernel_rfl) (by kernel_rfl) (by kernel_rfl) (fun _ _ _ h => h) (by rfl) HS ?_
                    simp only [Act.put, List.setIfInBounds_toArray, List.set_cons_zero, List.set_cons_succ]
                    refine handSkip 7 (some 68) rfl rfl (by kernel_rfl) (by kernel_rfl) (by kernel_rfl) (fun _ _ _ h => h) (by rfl) HS ?_
                    simp only [Act.put, List.setIfInBounds_toArray, List.set_cons_zero, List.set_cons_succ]
                    refine handSkip 8 (some 69) rfl rfl (by kernel_rfl) (by kernel_rfl) (by kernel_rfl) (fun _ _ _ h => h) (by rfl) HS ?_
                    simp only [Act.put, List.setIfInBounds_toArray, List.set_cons_zero, List.set_cons_succ]
                    refine handTake 9 (some 70) ?_ rfl rfl (by kernel_rfl) (by kernel_rfl) (by kernel_rfl) (fun _ _ _ h => h) (by rfl) ?_ HS ?_
                    rotate_left
                    · (intro u hu; (try dsimp only at hu); go_simp; try with_reducible rfl)
                    simp only [Act.put, List.setIfInBounds_toArray, List.set_cons_zero, List.set_cons_succ]
                    refine handTake 10 (some 71) ?_ rfl rfl (by kernel_rfl) (by kernel_rfl) (by kernel_rfl) (fun _ _ _ h => h) (by rfl) ?_ HS ?_
                    rotate_left
                    · (intro u hu; (try dsimp only at hu); go_simp; try with_reducible rfl)
                    simp only [Act.put, List.setIfInBounds_toArray, List.set_cons_zero, List.set_cons_succ]
                    refine handSkip 11 (some 72) rfl rfl (by kernel_rfl) (by kernel_rfl) (by kernel_rfl) (fun _ _ _ h => h) (by rfl) HS ?_
                    simp only [Act.put, List.setIfInBounds_toArray, List.set_cons_zero, List.set_cons_succ]
                    refine handSkip 12 (some 73) rfl rfl (by kernel_rfl) (by kernel_rfl) (by kernel_rfl) (fun _ _ _ h => h) (by rfl) HS ?_
                    simp only [Act.put, List.setIfInBounds_toArray, List.set_cons_zero, List.set_cons_succ]
                    refine handSkip 13 (some 74) rfl rfl (by kernel_rfl) (by kernel_rfl) (by kernel_rfl) (fun _ _ _ h => h) (by rfl) HS ?_
                    simp only [Act.put, List.setIfInBounds_toArray, List.set_cons_zero, List.set_cons_succ]
                    refine handSkip 14 (some 75) rfl rfl (by kernel_rfl) (by kernel_rfl) (by kernel_rfl) (fun _ _ _ h => h) (by rfl) HS ?_
                    simp only [Act.put, List.setIfInBounds_toArray, List.set_cons_zero, List.set_cons_succ]
                    refine handSkip 15 (some 76) rfl rfl (by kernel_rfl) (by kernel_rfl) (by kernel_rfl) (fun _ _ _ h => h) (by rfl) HS ?_
                    simp only [Act.put, List.setIfInBounds_toArray, List.set_cons_zero, List.set_cons_succ]
                    refine handSkip 16 (some 77) rfl rfl (by kernel_rfl) (by kernel_rfl) (by kernel_rfl) (fun _ _ _ h => h) (by rfl) HS ?_
                    simp only [Act.put, List.setIfInBounds_toArray, List.set_cons_zero, List.set_cons_succ]
                    refine handSkip 17 (some 78) rfl rfl (by kernel_rfl) (by kernel_rfl) (by kernel_rfl) (fun _ _ _ h => h) (by rfl) HS ?_
                    simp only [Act.put, List.setIfInBounds_toArray, List.set_cons_zero, List.set_cons_succ]
                    refine handSkip 18 (some 79) rfl rfl (by kernel_rfl) (by kernel_rfl) (by kernel_rfl) (fun _ _ _ h => h) (by rfl) HS ?_
                    simp only [Act.put, List.setIfInBounds_toArray, List.set_cons_zero, List.set_cons_succ]
                    refine handTake 19 (some 80) ?_ rfl rfl (by kernel_rfl) (by kernel_rfl) (by kernel_rfl) (fun _ _ _ h => h) (by rfl) ?_ HS ?_
                    rotate_left
                    · (intro u hu; (try dsimp only at hu); go_simp; try with_reducible rfl)
                    simp only [Act.put, List.setIfInBounds_toArray, List.set_cons_zero, List.set_cons_succ]
                    refine handTake 20 (some 81) ?_ rfl rfl (by kernel_rfl) (by kernel_rfl) (by kernel_rfl) (fun _ _ _ h => h) (by rfl) ?_ HS ?_
                    rotate_left
                    · (intro u hu; (try dsimp only at hu); go_simp; try with_reducible rfl)
                    simp only [Act.put, List.setIfInBounds_toArray, List.set_cons_zero, List.set_cons_succ]
                    refine handTake 21 (some 7) ?_ rfl rfl (by kernel_rfl) (by kernel_rfl) (by kernel_rfl) (fun _ _ _ h => h) (by rfl) ?_ HS ?_
                    rotate_left
                    · (intro u hu; (try dsimp only at hu); go_simp; try with_reducible rfl)
                    simp only [Act.put, List.setIfInBounds_toArray, List.set_cons_zero, List.set_cons_succ]
                    refine wpAnyH_done (by kernel_rfl) ?_ _
                    clear HS
                    go_wp2_with fail
                    go_roundw
                    case rel => exact ⟨k + 1, by omega, by go_num, by rw [HON.out]; simp [HKI.out], HV.out.drew⟩
                    case measure => show N - ((k : Int) + 1).toNat < N - (k : Int).toNat; omega
                  · have hne : ((k : Int) != (i : Int)) = true := by simp; omega
                    have HKI := Lib.hid hki
                    clear hki
                    by_cases hys : yst = 2
                    · have h2e : ((yst : Int) == 2) = true := by simp; omega
                      have HYS := Lib.hid hys
                      clear hys
                      have RL := less_any ⟨zr, zp⟩ ⟨cr, cp⟩
                      simp only [Ba.cells] at RL
                      cases hls : lessB ⟨zr, zp⟩ ⟨cr, cp⟩
                      · rw [hls] at RL HON
                        have RL := Lib.hid RL
                        clear hls
                        go_wp2_with fail
                        rw [← hV]
                        clear hV
                        refine wp_region_held_drew (S := (fun u : World => u.cell? ⟨wr.heap.size, 2, none⟩ = some (.int .i64 zr) ∧ u.cell? ⟨wr.heap.size, 3, none⟩ = some (.int .i64 zp) ∧ u.cell? ⟨wr.heap.size, 4, none⟩ = some (.int .u8 (yst : Nat)) ∧ u.cell? ⟨g, 45, none⟩ = some (.int .i64 cr) ∧ u.cell? ⟨g, 46, none⟩ = some (.int .i64 cp))) (by kernel_rfl) (SOF.out _ HV.out.drew HBX.out.drew) (fun HS => ?_)
                        refine handTake 0 (some 61) ?_ rfl rfl (by kernel_rfl) (by kernel_rfl) (by kernel_rfl) (fun _ _ _ h => h) (by rfl) ?_ HS ?_
                        rotate_left
                        · (intro u hu; (try dsimp only at hu); go_simp; try with_reducible rfl)
                        simp only [Act.put, List.setIfInBounds_toArray, List.set_cons_zero, List.set_cons_succ]
                        refine handTake 1 (some 62) ?_ rfl rfl (by kernel_rfl) (by kernel_rfl) (by kernel_rfl) (fun _ _ _ h => h) (by rfl) ?_ HS ?_
                        rotate_left
                        · (intro u hu; (try dsimp only at hu); go_simp; try with_reducible rfl)
                        simp only [Act.put, List.setIfInBounds_toArray, List.set_cons_zero, List.set_cons_succ]
                        refine handTake 2 (some 63) ?_ rfl rfl (by kernel_rfl) (by kernel_rfl) (by kernel_rfl) (fun _ _ _ h => h) (by rfl) ?_ HS ?_
                        rotate_left
                        · (intro u hu; (try dsimp only at hu); go_simp; try with_reducible rfl)
                        simp only [Act.put, List.setIfInBounds_toArray, List.set_cons_zero, List.set_cons_succ]
                        refine handTake 3 (some 64) ?_ rfl rfl (by kernel_rfl) (by kernel_rfl) (by kernel_rfl) (fun _ _ _ h => h) (by rfl) ?_ HS ?_
                        rotate_left
                        · (intro u hu; (try dsimp only at hu); go_simp; try with_reducible rfl)
                        simp only [Act.put, List.setIfInBounds_toArray, List.set_cons_zero, List.set_cons_succ]
                        refine handTake 4 (some 65) ?_ rfl rfl (by kernel_rfl) (by kernel_rfl) (by kernel_rfl) (fun _ _ _ h => h) (by rfl) ?_ HS ?_
                        rotate_left
                        · (intro u hu; (try dsimp only at hu); go_simp; try with_reducible rfl)
                        simp only [Act.put, List.setIfInBounds_toArray, List.set_cons_zero, List.set_cons_succ]
                        refine handTake 5 (some 66) ?_ rfl rfl (by kernel_rfl) (by kernel_rfl) (by kernel_rfl) (fun _ _ _ h => h) (by rfl) ?_ HS ?_
                        rotate_left
                        · (intro u hu; (try dsimp only at hu); go_simp; try with_reducible rfl)
                        simp only [Act.put, List.setIfInBounds_toArray, List.set_cons_zero, List.set_cons_succ]
                        refine handTake 6 (some 67) ?_ rfl rfl (by kernel_rfl) (by kernel_rfl) (by kernel_rfl) (fun _ _ _ h => h) (by rfl) ?_ HS ?_
                        rotate_left
                        · (intro u hu; (try dsimp only at hu); go_simp; try with_reducible rfl)
                        simp only [Act.put, List.setIfInBounds_toArray, List.set_cons_zero, List.set_cons_succ]
                        refine handTake 7 (some 68) ?_ rfl rfl (by kernel_rfl) (by kernel_rfl) (by kernel_rfl) (fun _ _ _ h => h) (by rfl) ?_ HS ?_
                        rotate_left
                        · (intro u hu; (try dsimp only at hu); go_simp; try with_reducible rfl)
                        simp only [Act.put, List.setIfInBounds_toArray, List.set_cons_zero, List.set_cons_succ]
                        refine handTake 8 (some 69) ?_ rfl rfl (by kernel_rfl) (by kernel_rfl) (by kernel_rfl) (fun _ _ _ h => h) (by rfl) ?_ HS ?_
                        rotate_left
                        · (intro u hu; (try dsimp only at hu); go_simp; try with_reducible rfl)
                        simp only [Act.put, List.setIfInBounds_toArray, List.set_cons_zero, List.set_cons_succ]
                        refine handTake 9 (some 70) ?_ rfl rfl (by kernel_rfl) (by kernel_rfl) (by kernel_rfl) (fun _ _ _ h => h) (by rfl) ?_ HS ?_
                        rotate_left
                        · (intro u hu; (try dsimp only at hu); go_simp; try with_reducible rfl)
                        simp only [Act.put, List.setIfInBounds_toArray, List.set_cons_zero, List.set_cons_succ]
                        refine handTake 10 (some 71) ?_ rfl rfl (by kernel_rfl) (by kernel_rfl) (by kernel_rfl) (fun _ _ _ h => h) (by rfl) ?_ HS ?_
                        rotate_left
                        · (intro u hu; (try dsimp only at hu); go_simp; try with_reducible rfl)
                        simp only [Act.put, List.setIfInBounds_toArray, List.set_cons_zero, List.set_cons_succ]
                        refine handTake 11 (some 72) ?_ rfl rfl (by kernel_rfl) (by kernel_rfl) (by kernel_rfl) (fun _ _ _ h => h) (by rfl) ?_ HS ?_
                        rotate_left
                        · (intro u hu; (try dsimp only at hu); go_simp; try with_reducible rfl)
                        simp only [Act.put, List.setIfInBounds_toArray, List.set_cons_zero, List.set_cons_succ]
                        refine handTake 12 (some 73) ?_ rfl rfl (by kernel_rfl) (by kernel_rfl) (by kernel_rfl) (fun _ _ _ h => h) (by rfl) ?_ HS ?_
                        rotate_left
                        · (intro u hu; (try dsimp only at hu); go_simp; try with_reducible rfl)
                        simp only [Act.put, List.setIfInBounds_toArray, List.set_cons_zero, List.set_cons_succ]
                        refine handTake 13 (some 74) ?_ rfl rfl (by kernel_rfl) (by kernel_rfl) (by kernel_rfl) (fun _ _ _ h => h) (by rfl) ?_ HS ?_
                        rotate_left
                        · (intro u hu; (try dsimp only at hu); go_simp; try with_reducible rfl)
                        simp only [Act.put, List.setIfInBounds_toArray, List.set_cons_zero, List.set_cons_succ]
                        refine handTake 14 (some 75) ?_ rfl rfl (by kernel_rfl) (by kernel_rfl) (by kernel_rfl) (fun _ _ _ h => h) (by rfl) ?_ HS ?_
                        rotate_left
                        · (intro u hu; (try dsimp only at hu); go_simp; try with_reducible rfl)
                        simp only [Act.put, List.setIfInBounds_toArray, List.set_cons_zero, List.set_cons_succ]
                        refine handTake 15 (some 76) ?_ rfl rfl (by kernel_rfl) (by kernel_rfl) (by kernel_rfl) (fun _ _ _ h => h) (by rfl) ?_ HS ?_
                        rotate_left
                        · (intro u hu; (try dsimp only at hu); go_simp; try with_reducible rfl)
                        simp only [Act.put, List.setIfInBounds_toArray, List.set_cons_zero, List.set_cons_succ]
                        refine handTake 16 (some 77) ?_ rfl rfl (by kernel_rfl) (by kernel_rfl) (by kernel_rfl) (fun _ _ _ h => h) (by rfl) ?_ HS ?_
                        rotate_left
                        · (intro u hu; (try dsimp only at hu); go_simp; try with_reducible rfl)
                        simp only [Act.put, List.setIfInBounds_toArray, List.set_cons_zero, List.set_cons_succ]
                        refine wpAnyH_ready (rs := [17]) (by kernel_rfl) (by simp) ?_
                        refine AllReadyH.cons rfl (fun K hK => ?_) AllReadyH.nil
                        go_simp
                        clear HS
                        refine (RL.out _).mono ?_
                        rintro e u2 ⟨rfl, hb⟩
                        have HV2 := Lib.hid (HV.out.drew.call hb)
                        have HBX2 := Lib.hid (HBX.out.drew.below hb HBX.out.lt)
                        clear hb
                        go_wp2_with fail
                        refine hK.out _ _ (SOF.out _ HV2.out HBX2.out) (fun HS => ?_)
                        clear hK
                        try simp only [Act.put, List.setIfInBounds_toArray, List.set_cons_zero, List.set_cons_succ]
                        refine handTake 18 (some 79) ?_ rfl rfl (by kernel_rfl) (by kernel_rfl) (by kernel_rfl) (fun _ _ _ h => h) (by rfl) ?_ HS ?_
                        rotate_left
                        · (intro u hu; (try dsimp only at hu); go_simp; try with_reducible rfl)
                        simp only [Act.put, List.setIfInBounds_toArray, List.set_cons_zero, List.set_cons_succ]
                        refine handTake 19 (some 80) ?_ rfl rfl (by kernel_rfl) (by kernel_rfl) (by kernel_rfl) (fun _ _ _ h => h) (by rfl) ?_ HS ?_
                        rotate_left
                        · (intro u hu; (try dsimp only at hu); go_simp; try with_reducible rfl)
                        simp only [Act.put, List.setIfInBounds_toArray, List.set_cons_zero, List.set_cons_succ]
                        refine handTake 20 (some 81) ?_ rfl rfl (by kernel_rfl) (by kernel_rfl) (by kernel_rfl) (fun _ _ _ h => h) (by rfl) ?_ HS ?_
                        rotate_left
                        · (intro u hu; (try dsimp only at hu); go_simp; try with_reducible rfl)
                        simp only [Act.put, List.setIfInBounds_toArray, List.set_cons_zero, List.set_cons_succ]
                        refine handTake 21 (some 7) ?_ rfl rfl (by kernel_rfl) (by kernel_rfl) (by kernel_rfl) (fun _ _ _ h => h) (by rfl) ?_ HS ?_
                        rotate_left
                        · (intro u hu; (try dsimp only at hu); go_simp; try with_reducible rfl)
                        simp only [Act.put, List.setIfInBounds_toArray, List.set_cons_zero, List.set_cons_succ]
                        refine wpAnyH_done (by kernel_rfl) ?_ _
                        clear HS
                        go_wp2_with fail
                        go_roundw
                        case rel => exact ⟨k + 1, by omega, by go_num, by rw [HON.out]; simp [HKI.out, HYS.out], HV2.out⟩
                        case measure => show N - ((k : Int) + 1).toNat < N - (k : Int).toNat; omega
                      · rw [hls] at RL HON
                        have RL := Lib.hid RL
                        clear hls
                        go_wp2_with fail
                        rw [← hV]
                        clear hV
                        refine wp_region_held_drew (S := (fun u : World => u.cell? ⟨wr.heap.size, 2, none⟩ = some (.int .i64 zr) ∧ u.cell? ⟨wr.heap.size, 3, none⟩ = some (.int .i64 zp) ∧ u.cell? ⟨wr.heap.size, 4, none⟩ = some (.int .u8 (yst : Nat)) ∧ u.cell? ⟨g, 45, none⟩ = some (.int .i64 cr) ∧ u.cell? ⟨g, 46, none⟩ = some (.int .i64 cp))) (by kernel_rfl) (SOF.out _ HV.out.drew HBX.out.drew) (fun HS => ?_)
                        refine handTake 0 (some 61) ?_ rfl rfl (by kernel_rfl) (by kernel_rfl) (by kernel_rfl) (fun _ _ _ h => h) (by rfl) ?_ HS ?_
                        rotate_left
                        · (intro u hu; (try dsimp only at hu); go_simp; try with_reducible rfl)
                        simp only [Act.put, List.setIfInBounds_toArray, List.set_cons_zero, List.set_cons_succ]
                        refine handTake 1 (some 62) ?_ rfl rfl (by kernel_rfl) (by kernel_rfl) (by kernel_rfl) (fun _ _ _ h => h) (by rfl) ?_ HS ?_
                        rotate_left
                        · (intro u hu; (try dsimp only at hu); go_simp; try with_reducible rfl)
                        simp only [Act.put, List.setIfInBounds_toArray, List.set_cons_zero, List.set_cons_succ]
                        refine handTake 2 (some 63) ?_ rfl rfl (by kernel_rfl) (by kernel_rfl) (by kernel_rfl) (fun _ _ _ h => h) (by rfl) ?_ HS ?_
                        rotate_left
                        · (intro u hu; (try dsimp only at hu); go_simp; try with_reducible rfl)
                        simp only [Act.put, List.setIfInBounds_toArray, List.set_cons_zero, List.set_cons_succ]
                        refine handTake 3 (some 64) ?_ rfl rfl (by kernel_rfl) (by kernel_rfl) (by kernel_rfl) (fun _ _ _ h => h) (by rfl) ?_ HS ?_
                        rotate_left
                        · (intro u hu; (try dsimp only at hu); go_simp; try with_reducible rfl)
                        simp only [Act.put, List.setIfInBounds_toArray, List.set_cons_zero, List.set_cons_succ]
                        refine handTake 4 (some 65) ?_ rfl rfl (by kernel_rfl) (by kernel_rfl) (by kernel_rfl) (fun _ _ _ h => h) (by rfl) ?_ HS ?_
                        rotate_left
                        · (intro u hu; (try dsimp only at hu); go_simp; try with_reducible rfl)
                        simp only [Act.put, List.setIfInBounds_toArray, List.set_cons_zero, List.set_cons_succ]
                        refine handTake 5 (some 66) ?_ rfl rfl (by kernel_rfl) (by kernel_rfl) (by kernel_rfl) (fun _ _ _ h => h) (by rfl) ?_ HS ?_
                        rotate_left
                        · (intro u hu; (try dsimp only at hu); go_simp; try with_reducible rfl)
                        simp only [Act.put, List.setIfInBounds_toArray, List.set_cons_zero, List.set_cons_succ]
                        refine handTake 6 (some 67) ?_ rfl rfl (by kernel_rfl) (by kernel_rfl) (by kernel_rfl) (fun _ _ _ h => h) (by rfl) ?_ HS ?_
                        rotate_left
                        · (intro u hu; (try dsimp only at hu); go_simp; try with_reducible rfl)
                        simp only [Act.put, List.setIfInBounds_toArray, List.set_cons_zero, List.set_cons_succ]
                        refine handTake 7 (some 68) ?_ rfl rfl (by kernel_rfl) (by kernel_rfl) (by kernel_rfl) (fun _ _ _ h => h) (by rfl) ?_ HS ?_
                        rotate_left
                        · (intro u hu; (try dsimp only at hu); go_simp; try with_reducible rfl)
                        simp only [Act.put, List.setIfInBounds_toArray, List.set_cons_zero, List.set_cons_succ]
                        refine handTake 8 (some 69) ?_ rfl rfl (by kernel_rfl) (by kernel_rfl) (by kernel_rfl) (fun _ _ _ h => h) (by rfl) ?_ HS ?_
                        rotate_left
                        · (intro u hu; (try dsimp only at hu); go_simp; try with_reducible rfl)
                        simp only [Act.put, List.setIfInBounds_toArray, List.set_cons_zero, List.set_cons_succ]
                        refine handTake 9 (some 70) ?_ rfl rfl (by kernel_rfl) (by kernel_rfl) (by kernel_rfl) (fun _ _ _ h => h) (by rfl) ?_ HS ?_
                        rotate_left
                        · (intro u hu; (try dsimp only at hu); go_simp; try with_reducible rfl)
                        simp only [Act.put, List.setIfInBounds_toArray, List.set_cons_zero, List.set_cons_succ]
                        refine handTake 10 (some 71) ?_ rfl rfl (by kernel_rfl) (by kernel_rfl) (by kernel_rfl) (fun _ _ _ h => h) (by rfl) ?_ HS ?_
                        rotate_left
                        · (intro u hu; (try dsimp only at hu); go_simp; try with_reducible rfl)
                        simp only [Act.put, List.setIfInBounds_toArray, List.set_cons_zero, List.set_cons_succ]
                        refine handTake 11 (some 72) ?_ rfl rfl (by kernel_rfl) (by kernel_rfl) (by kernel_rfl) (fun _ _ _ h => h) (by rfl) ?_ HS ?_
                        rotate_left
                        · (intro u hu; (try dsimp only at hu); go_simp; try with_reducible rfl)
                        simp only [Act.put, List.setIfInBounds_toArray, List.set_cons_zero, List.set_cons_succ]
                        refine handTake 12 (some 73) ?_ rfl rfl (by kernel_rfl) (by kernel_rfl) (by kernel_rfl) (fun _ _ _ h => h) (by rfl) ?_ HS ?_
                        rotate_left
                        · (intro u hu; (try dsimp only at hu); go_simp; try with_reducible rfl)
                        simp only [Act.put, List.setIfInBounds_toArray, List.set_cons_zero, List.set_cons_succ]
                        refine handTake 13 (some 74) ?_ rfl rfl (by kernel_rfl) (by kernel_rfl) (by kernel_rfl) (fun _ _ _ h => h) (by rfl) ?_ HS ?_
                        rotate_left
                        · (intro u hu; (try dsimp only at hu); go_simp; try with_reducible rfl)
                        simp only [Act.put, List.setIfInBounds_toArray, List.set_cons_zero, List.set_cons_succ]
                        refine handTake 14 (some 75) ?_ rfl rfl (by kernel_rfl) (by kernel_rfl) (by kernel_rfl) (fun _ _ _ h => h) (by rfl) ?_ HS ?_
                        rotate_left
                        · (intro u hu; (try dsimp only at hu); go_simp; try with_reducible rfl)
                        simp only [Act.put, List.setIfInBounds_toArray, List.set_cons_zero, List.set_cons_succ]
                        refine handTake 15 (some 76) ?_ rfl rfl (by kernel_rfl) (by kernel_rfl) (by kernel_rfl) (fun _ _ _ h => h) (by rfl) ?_ HS ?_
                        rotate_left
                        · (intro u hu; (try dsimp only at hu); go_simp; try with_reducible rfl)
                        simp only [Act.put, List.setIfInBounds_toArray, List.set_cons_zero, List.set_cons_succ]
                        refine handTake 16 (some 77) ?_ rfl rfl (by kernel_rfl) (by kernel_rfl) (by kernel_rfl) (fun _ _ _ h => h) (by rfl) ?_ HS ?_
                        rotate_left
                        · (intro u hu; (try dsimp only at hu); go_simp; try with_reducible rfl)
                        simp only [Act.put, List.setIfInBounds_toArray, List.set_cons_zero, List.set_cons_succ]
                        refine wpAnyH_ready (rs := [17]) (by kernel_rfl) (by simp) ?_
                        refine AllReadyH.cons rfl (fun K hK => ?_) AllReadyH.nil
                        go_simp
                        clear HS
                        refine (RL.out _).mono ?_
                        rintro e u2 ⟨rfl, hb⟩
                        have HV2 := Lib.hid (HV.out.drew.call hb)
                        have HBX2 := Lib.hid (HBX.out.drew.below hb HBX.out.lt)
                        clear hb
                        go_wp2_with fail
                        refine hK.out _ _ (SOF.out _ HV2.out HBX2.out) (fun HS => ?_)
                        clear hK
                        try simp only [Act.put, List.setIfInBounds_toArray, List.set_cons_zero, List.set_cons_succ]
                        refine handTake 18 (some 79) ?_ rfl rfl (by kernel_rfl) (by kernel_rfl) (by kernel_rfl) (fun _ _ _ h => h) (by rfl) ?_ HS ?_
                        rotate_left
                        · (intro u hu; (try dsimp only at hu); go_simp; try with_reducible rfl)
                        simp only [Act.put, List.setIfInBounds_toArray, List.set_cons_zero, List.set_cons_succ]
                        refine handTake 19 (some 80) ?_ rfl rfl (by kernel_rfl) (by kernel_rfl) (by kernel_rfl) (fun _ _ _ h => h) (by rfl) ?_ HS ?_
                        rotate_left
                        · (intro u hu; (try dsimp only at hu); go_simp; try with_reducible rfl)
                        simp only [Act.put, List.setIfInBounds_toArray, List.set_cons_zero, List.set_cons_succ]
                        refine handTake 20 (some 81) ?_ rfl rfl (by kernel_rfl) (by kernel_rfl) (by kernel_rfl) (fun _ _ _ h => h) (by rfl) ?_ HS ?_
                        rotate_left
                        · (intro u hu; (try dsimp only at hu); go_simp; try with_reducible rfl)
                        simp only [Act.put, List.setIfInBounds_toArray, List.set_cons_zero, List.set_cons_succ]
                        refine handTake 21 (some 7) ?_ rfl rfl (by kernel_rfl) (by kernel_rfl) (by kernel_rfl) (fun _ _ _ h => h) (by rfl) ?_ HS ?_
                        rotate_left
                        · (intro u hu; (try dsimp only at hu); go_simp; try with_reducible rfl)
                        simp only [Act.put, List.setIfInBounds_toArray, List.set_cons_zero, List.set_cons_succ]
                        refine wpAnyH_done (by kernel_rfl) ?_ _
                        clear HS
                        go_wp2_with fail
                        go_roundw
                        case rel => exact ⟨k + 1, by omega, by go_num, by rw [HON.out]; simp [HKI.out, HYS.out], HV2.out⟩
                        case measure => show N - ((k : Int) + 1).toNat < N - (k : Int).toNat; omega
                    · have hn2 : ((yst : Int) == 2) = false := by simp; omega
                      have HYS := Lib.hid hys
                      clear hys
                      go_wp2_with fail
                      rw [← hV]
                      clear hV
                      refine wp_region_held_drew (S := (fun u : World => u.cell? ⟨wr.heap.size, 2, none⟩ = some (.int .i64 zr) ∧ u.cell? ⟨wr.heap.size, 3, none⟩ = some (.int .i64 zp) ∧ u.cell? ⟨wr.heap.size, 4, none⟩ = some (.int .u8 (yst : Nat)) ∧ u.cell? ⟨g, 45, none⟩ = some (.int .i64 cr) ∧ u.cell? ⟨g, 46, none⟩ = some (.int .i64 cp))) (by kernel_rfl) (SOF.out _ HV.out.drew HBX.out.drew) (fun HS => ?_)
                      refine handTake 0 (some 61) ?_ rfl rfl (by kernel_rfl) (by kernel_rfl) (by kernel_rfl) (fun _ _ _ h => h) (by rfl) ?_ HS ?_
                      rotate_left
                      · (intro u hu; (try dsimp only at hu); go_simp; try with_reducible rfl)
                      simp only [Act.put, List.setIfInBounds_toArray, List.set_cons_zero, List.set_cons_succ]
                      refine handTake 1 (some 62) ?_ rfl rfl (by kernel_rfl) (by kernel_rfl) (by kernel_rfl) (fun _ _ _ h => h) (by rfl) ?_ HS ?_
                      rotate_left
                      · (intro u hu; (try dsimp only at hu); go_simp; try with_reducible rfl)
                      simp only [Act.put, List.setIfInBounds_toArray, List.set_cons_zero, List.set_cons_succ]
                      refine handTake 2 (some 63) ?_ rfl rfl (by kernel_rfl) (by kernel_rfl) (by kernel_rfl) (fun _ _ _ h => h) (by rfl) ?_ HS ?_
                      rotate_left
                      · (intro u hu; (try dsimp only at hu); go_simp; try with_reducible rfl)
                      simp only [Act.put, List.setIfInBounds_toArray, List.set_cons_zero, List.set_cons_succ]
                      refine handTake 3 (some 64) ?_ rfl rfl (by kernel_rfl) (by kernel_rfl) (by kernel_rfl) (fun _ _ _ h => h) (by rfl) ?_ HS ?_
                      rotate_left
                      · (intro u hu; (try dsimp only at hu); go_simp; try with_reducible rfl)
                      simp only [Act.put, List.setIfInBounds_toArray, List.set_cons_zero, List.set_cons_succ]
                      refine handTake 4 (some 65) ?_ rfl rfl (by kernel_rfl) (by kernel_rfl) (by kernel_rfl) (fun _ _ _ h => h) (by rfl) ?_ HS ?_
                      rotate_left
                      · (intro u hu; (try dsimp only at hu); go_simp; try with_reducible rfl)
                      simp only [Act.put, List.setIfInBounds_toArray, List.set_cons_zero, List.set_cons_succ]
                      refine handTake 5 (some 66) ?_ rfl rfl (by kernel_rfl) (by kernel_rfl) (by kernel_rfl) (fun _ _ _ h => h) (by rfl) ?_ HS ?_
                      rotate_left
                      · (intro u hu; (try dsimp only at hu); go_simp; try with_reducible rfl)
                      simp only [Act.put, List.setIfInBounds_toArray, List.set_cons_zero, List.set_cons_succ]
                      refine handTake 6 (some 67) ?_ rfl rfl (by kernel_rfl) (by kernel_rfl) (by kernel_rfl) (fun _ _ _ h => h) (by rfl) ?_ HS ?_
                      rotate_left
                      · (intro u hu; (try dsimp only at hu); go_simp; try with_reducible rfl)
                      simp only [Act.put, List.setIfInBounds_toArray, List.set_cons_zero, List.set_cons_succ]
                      refine handTake 7 (some 68) ?_ rfl rfl (by kernel_rfl) (by kernel_rfl) (by kernel_rfl) (fun _ _ _ h => h) (by rfl) ?_ HS ?_
                      rotate_left
                      · (intro u hu; (try dsimp only at hu); go_simp; try with_reducible rfl)
                      simp only [Act.put, List.setIfInBounds_toArray, List.set_cons_zero, List.set_cons_succ]
                      refine handTake 8 (some 69) ?_ rfl rfl (by kernel_rfl) (by kernel_rfl) (by kernel_rfl) (fun _ _ _ h => h) (by rfl) ?_ HS ?_
                      rotate_left
                      · (intro u hu; (try dsimp only at hu); go_simp; try with_reducible rfl)
                      simp only [Act.put, List.setIfInBounds_toArray, List.set_cons_zero, List.set_cons_succ]
                      refine handTake 9 (some 70) ?_ rfl rfl (by kernel_rfl) (by kernel_rfl) (by kernel_rfl) (fun _ _ _ h => h) (by rfl) ?_ HS ?_
                      rotate_left
                      · (intro u hu; (try dsimp only at hu); go_simp; try with_reducible rfl)
                      simp only [Act.put, List.setIfInBounds_toArray, List.set_cons_zero, List.set_cons_succ]
                      refine handTake 10 (some 71) ?_ rfl rfl (by kernel_rfl) (by kernel_rfl) (by kernel_rfl) (fun _ _ _ h => h) (by rfl) ?_ HS ?_
                      rotate_left
                      · (intro u hu; (try dsimp only at hu); go_simp; try with_reducible rfl)
                      simp only [Act.put, List.setIfInBounds_toArray, List.set_cons_zero, List.set_cons_succ]
                      refine handSkip 11 (some 72) rfl rfl (by kernel_rfl) (by kernel_rfl) (by kernel_rfl) (fun _ _ _ h => h) (by rfl) HS ?_
                      simp only [Act.put, List.setIfInBounds_toArray, List.set_cons_zero, List.set_cons_succ]
                      refine handSkip 12 (some 73) rfl rfl (by kernel_rfl) (by kernel_rfl) (by kernel_rfl) (fun _ _ _ h => h) (by rfl) HS ?_
                      simp only [Act.put, List.setIfInBounds_toArray, List.set_cons_zero, List.set_cons_succ]
                      refine handSkip 13 (some 74) rfl rfl (by kernel_rfl) (by kernel_rfl) (by kernel_rfl) (fun _ _ _ h => h) (by rfl) HS ?_
                      simp only [Act.put, List.setIfInBounds_toArray, List.set_cons_zero, List.set_cons_succ]
                      refine handSkip 14 (some 75) rfl rfl (by kernel_rfl) (by kernel_rfl) (by kernel_rfl) (fun _ _ _ h => h) (by rfl) HS ?_
                      simp only [Act.put, List.setIfInBounds_toArray, List.set_cons_zero, List.set_cons_succ]
                      refine handSkip 15 (some 76) rfl rfl (by kernel_rfl) (by kernel_rfl) (by kernel_rfl) (fun _ _ _ h => h) (by rfl) HS ?_
                      simp only [Act.put, List.setIfInBounds_toArray, List.set_cons_zero, List.set_cons_succ]
                      refine handSkip 16 (some 77) rfl rfl (by kernel_rfl) (by kernel_rfl) (by kernel_rfl) (fun _ _ _ h => h) (by rfl) HS ?_
                      simp only [Act.put, List.setIfInBounds_toArray, List.set_cons_zero, List.set_cons_succ]
                      refine handSkip 17 (some 78) rfl rfl (by kernel_rfl) (by kernel_rfl) (by kernel_rfl) (fun _ _ _ h => h) (by rfl) HS ?_
                      simp only [Act.put, List.setIfInBounds_toArray, List.set_cons_zero, List.set_cons_succ]
                      refine handSkip 18 (some 79) rfl rfl (by kernel_rfl) (by kernel_rfl) (by kernel_rfl) (fun _ _ _ h => h) (by rfl) HS ?_
                      simp only [Act.put, List.setIfInBounds_toArray, List.set_cons_zero, List.set_cons_succ]
                      refine handTake 19 (some 80) ?_ rfl rfl (by kernel_rfl) (by kernel_rfl) (by kernel_rfl) (fun _ _ _ h => h) (by rfl) ?_ HS ?_
                      rotate_left
                      · (intro u hu; (try dsimp only at hu); go_simp; try with_reducible rfl)
                      simp only [Act.put, List.setIfInBounds_toArray, List.set_cons_zero, List.set_cons_succ]
                      refine handTake 20 (some 81) ?_ rfl rfl (by kernel_rfl) (by kernel_rfl) (by kernel_rfl) (fun _ _ _ h => h) (by rfl) ?_ HS ?_
                      rotate_left
                      · (intro u hu; (try dsimp only at hu); go_simp; try with_reducible rfl)
                      simp only [Act.put, List.setIfInBounds_toArray, List.set_cons_zero, List.set_cons_succ]
                      refine handTake 21 (some 7) ?_ rfl rfl (by kernel_rfl) (by kernel_rfl) (by kernel_rfl) (fun _ _ _ h => h) (by rfl) ?_ HS ?_
                      rotate_left
                      · (intro u hu; (try dsimp only at hu); go_simp; try with_reducible rfl)
                      simp only [Act.put, List.setIfInBounds_toArray, List.set_cons_zero, List.set_cons_succ]
                      refine wpAnyH_done (by kernel_rfl) ?_ _
                      clear HS
                      go_wp2_with fail
                      go_roundw
                      case rel => exact ⟨k + 1, by omega, by go_num, by rw [HON.out]; simp [HYS.out], HV.out.drew⟩
                      case measure => show N - ((k : Int) + 1).toNat < N - (k : Int).toNat; omega
                · go_wp2_with fail
                  rw [← hV]
                  clear hV
                  refine wp_region_held_drew (S := (fun u : World => u.cell? ⟨wr.heap.size, 2, none⟩ = some (.int .i64 zr) ∧ u.cell? ⟨wr.heap.size, 3, none⟩ = some (.int .i64 zp) ∧ u.cell? ⟨wr.heap.size, 4, none⟩ = some (.int .u8 (yst : Nat)) ∧ u.cell? ⟨g, 45, none⟩ = some (.int .i64 cr) ∧ u.cell? ⟨g, 46, none⟩ = some (.int .i64 cp))) (by kernel_rfl) (SOF.out _ HV.out.drew HBX.out.drew) (fun HS => ?_)
                  refine handTake 0 (some 61) ?_ rfl rfl (by kernel_rfl) (by kernel_rfl) (by kernel_rfl) (fun _ _ _ h => h) (by rfl) ?_ HS ?_
                  rotate_left
                  · (intro u hu; (try dsimp only at hu); go_simp; try with_reducible rfl)
                  simp only [Act.put, List.setIfInBounds_toArray, List.set_cons_zero, List.set_cons_succ]
                  refine handTake 1 (some 62) ?_ rfl rfl (by kernel_rfl) (by kernel_rfl) (by kernel_rfl) (fun _ _ _ h => h) (by rfl) ?_ HS ?_
                  rotate_left
                  · (intro u hu; (try dsimp only at hu); go_simp; try with_reducible rfl)
                  simp only [Act.put, List.setIfInBounds_toArray, List.set_cons_zero, List.set_cons_succ]
                  refine handSkip 2 (some 63) rfl rfl (by kernel_rfl) (by kernel_rfl) (by kernel_rfl) (fun _ _ _ h => h) (by rfl) HS ?_
                  simp only [Act.put, List.setIfInBounds_toArray, List.set_cons_zero, List.set_cons_succ]
                  refine handSkip 3 (some 64) rfl rfl (by kernel_rfl) (by kernel_rfl) (by kernel_rfl) (fun _ _ _ h => h) (by rfl) HS ?_
                  simp only [Act.put, List.setIfInBounds_toArray, List.set_cons_zero, List.set_cons_succ]
                  refine handSkip 4 (some 65) rfl rfl (by kernel_rfl) (by kernel_rfl) (by kernel_rfl) (fun _ _ _ h => h) (by rfl) HS ?_
                  simp only [Act.put, List.setIfInBounds_toArray, List.set_cons_zero, List.set_cons_succ]
                  refine handSkip 5 (some 66) rfl rfl (by kernel_rfl) (by kernel_rfl) (by kernel_rfl) (fun _ _ _ h => h) (by rfl) HS ?_
                  simp only [Act.put, List.setIfInBounds_toArray, List.set_cons_zero, List.set_cons_succ]
                  refine handSkip 6 (some 67) rfl rfl (by kernel_rfl) (by kernel_rfl) (by kernel_rfl) (fun _ _ _ h => h) (by rfl) HS ?_
                  simp only [Act.put, List.setIfInBounds_toArray, List.set_cons_zero, List.set_cons_succ]
                  refine handSkip 7 (some 68) rfl rfl (by kernel_rfl) (by kernel_rfl) (by kernel_rfl) (fun _ _ _ h => h) (by rfl) HS ?_
                  simp only [Act.put, List.setIfInBounds_toArray, List.set_cons_zero, List.set_cons_succ]
                  refine handSkip 8 (some 69) rfl rfl (by kernel_rfl) (by kernel_rfl) (by kernel_rfl) (fun _ _ _ h => h) (by rfl) HS ?_
                  simp only [Act.put, List.setIfInBounds_toArray, List.set_cons_zero, List.set_cons_succ]
                  refine handSkip 9 (some 70) rfl rfl (by kernel_rfl) (by kernel_rfl) (by kernel_rfl) (fun _ _ _ h => h) (by rfl) HS ?_
                  simp only [Act.put, List.setIfInBounds_toArray, List.set_cons_zero, List.set_cons_succ]
                  refine handSkip 10 (some 71) rfl rfl (by kernel_rfl) (by kernel_rfl) (by kernel_rfl) (fun _ _ _ h => h) (by rfl) HS ?_
                  simp only [Act.put, List.setIfInBounds_toArray, List.set_cons_zero, List.set_cons_succ]
                  refine handSkip 11 (some 72) rfl rfl (by kernel_rfl) (by kernel_rfl) (by kernel_rfl) (fun _ _ _ h => h) (by rfl) HS ?_
                  simp only [Act.put, List.setIfInBounds_toArray, List.set_cons_zero, List.set_cons_succ]
                  refine handSkip 12 (some 73) rfl rfl (by kernel_rfl) (by kernel_rfl) (by kernel_rfl) (fun _ _ _ h => h) (by rfl) HS ?_
                  simp only [Act.put, List.setIfInBounds_toArray, List.set_cons_zero, List.set_cons_succ]
                  refine handSkip 13 (some 74) rfl rfl (by kernel_rfl) (by kernel_rfl) (by kernel_rfl) (fun _ _ _ h => h) (by rfl) HS ?_
                  simp only [Act.put, List.setIfInBounds_toArray, List.set_cons_zero, List.set_cons_succ]
                  refine handSkip 14 (some 75) rfl rfl (by kernel_rfl) (by kernel_rfl) (by kernel_rfl) (fun _ _ _ h => h) (by rfl) HS ?_
                  simp only [Act.put, List.setIfInBounds_toArray, List.set_cons_zero, List.set_cons_succ]
                  refine handSkip 15 (some 76) rfl rfl (by kernel_rfl) (by kernel_rfl) (by kernel_rfl) (fun _ _ _ h => h) (by rfl) HS ?_
                  simp only [Act.put, List.setIfInBounds_toArray, List.set_cons_zero, List.set_cons_succ]
                  refine handSkip 16 (some 77) rfl rfl (by kernel_rfl) (by kernel_rfl) (by kernel_rfl) (fun _ _ _ h => h) (by rfl) HS ?_
                  simp only [Act.put, List.setIfInBounds_toArray, List.set_cons_zero, List.set_cons_succ]
                  refine handSkip 17 (some 78) rfl rfl (by kernel_rfl) (by kernel_rfl) (by kernel_rfl) (fun _ _ _ h => h) (by rfl) HS ?_
                  simp only [Act.put, List.setIfInBounds_toArray, List.set_cons_zero, List.set_cons_succ]
                  refine handSkip 18 (some 79) rfl rfl (by kernel_rfl) (by kernel_rfl) (by kernel_rfl) (fun _ _ _ h => h) (by rfl) HS ?_
                  simp only [Act.put, List.setIfInBounds_toArray, List.set_cons_zero, List.set_cons_succ]
                  refine handSkip 19 (some 80) rfl rfl (by kernel_rfl) (by kernel_rfl) (by kernel_rfl) (fun _ _ _ h => h) (by rfl) HS ?_
                  simp only [Act.put, List.setIfInBounds_toArray, List.set_cons_zero, List.set_cons_succ]
                  refine handTake 20 (some 81) ?_ rfl rfl (by kernel_rfl) (by kernel_rfl) (by kernel_rfl) (fun _ _ _ h => h) (by rfl) ?_ HS ?_
                  rotate_left
                  · (intro u hu; (try dsimp only at hu); go_simp; try with_reducible rfl)
                  simp only [Act.put, List.setIfInBounds_toArray, List.set_cons_zero, List.set_cons_succ]
                  refine handTake 21 (some 7) ?_ rfl rfl (by kernel_rfl) (by kernel_rfl) (by kernel_rfl) (fun _ _ _ h => h) (by rfl) ?_ HS ?_
                  rotate_left
                  · (intro u hu; (try dsimp only at hu); go_simp; try with_reducible rfl)
                  simp only [Act.put, List.setIfInBounds_toArray, List.set_cons_zero, List.set_cons_succ]
                  refine wpAnyH_done (by kernel_rfl) ?_ _
                  clear HS
                  go_wp2_with fail
                  go_roundw
                  case rel => exact ⟨k + 1, by omega, by go_num, by rw [HON.out]; rfl, HV.out.drew⟩
                  case measure => show N - ((k : Int) + 1).toNat < N - (k : Int).toNat; omega
              · have e : k = N := by omega
                subst e
                have HOT : Hid (othersB s.ch s.cb (losS s so bl i).ps i s.n = othK ch ⟨cr, cp⟩ (losS s so bl i).ps i k) := by show othersB _ _ _ _ _ = _; rw [HNN.out, HCH.out, HCB.out]; rfl
                obtain ⟨ov, hov⟩ : ∃ ov, othK ch ⟨cr, cp⟩ (losS s so bl i).ps i k = ov := ⟨_, rfl⟩
                rw [hov] at HOT ⊢
                have d4c := zq.pl i hi7 4 _ rfl
                have d4f := zq.free (1 + i * 6 + 4)
                clear hov hq zq
                cases ov
                · have HK2 := Lib.hid (HKP.out (by trivial) HOT.out)
                  rw [show ((losS s so bl i).at_ i).st = 2 from HXS.out] at d4c
                  go_wp2_with fail
                  go_roundw
                  case rel => exact ⟨i + 1, by omega, by go_num, by rw [HK2.out]; exact HQ.out⟩
                  case measure => show k - ((i : Int) + 1).toNat < k - (i : Int).toNat; omega
                · rw [show ((losS s so bl i).at_ i).st = 2 from HXS.out] at d4c
                  cases hb2 : hasB bl (i : Int)
                  · rw [hb2] at HHB
                    have HHB := Lib.hid HHB
                    have HLS2 := Lib.hid (HLS.out HHAS.out (.inr ⟨by trivial, HOT.out⟩))
                    rw [hb2] at HLS2
                    clear hb2
                    go_wp2_with fail
                    refine (HHB.out _).mono ?_
                    rintro e u5 ⟨rfl, rfl⟩
                    go_wp2_with fail
                    go_roundw
                    case rel =>
                      refine ⟨i + 1, by omega, by go_num, ?_⟩
                      rw [HLS2.out]
                      exact HST.out _ 3 HQ.out
                    case measure => show k - ((i : Int) + 1).toNat < k - (i : Int).toNat; omega
                  · rw [hb2] at HHB
                    have HHB := Lib.hid HHB
                    have HLS2 := Lib.hid (HLS.out HHAS.out (.inr ⟨by trivial, HOT.out⟩))
                    rw [hb2] at HLS2
                    clear hb2
                    go_wp2_with fail
                    refine (HHB.out _).mono ?_
                    rintro e u5 ⟨rfl, rfl⟩
                    go_wp2_with fail
                    go_roundw
                    case rel =>
                      refine ⟨i + 1, by omega, by go_num, ?_⟩
                      rw [HLS2.out]
                      exact HS4.out _ HQ.out
                    case measure => show k - ((i : Int) + 1).toNat < k - (i : Int).toNat; omega
          · subst hs2
            go_wp2_with fail
            refine (HHA.out _).mono ?_
            rintro e u1 ⟨rfl, rfl⟩
            go_wp2_with fail
            go_loopw [7, 8] (fun ov kv wq => ∃ k : Nat, k ≤ N ∧ kv = .int .i64 k ∧ ov = .bool (othK ch ⟨cr, cp⟩ (losS s so bl i).ps i k) ∧ Sep w0 (sI w0.heap.size g pv (losS s so bl i) ++ l) wq) (fun _ kv _ => N - (intOf kv).toNat)
            case atStart => exact ⟨0, Nat.zero_le _, rfl, by rw [othK_zero, Bool.beq_eq_decide_eq], HS.out⟩
            case round =>
              obtain ⟨k, hk, rfl, rfl, hq⟩ := hrel
              have zq := HCE.out i hi _ hq
              have cq0 := zq.n
              rw [(HAN.out i).1] at cq0
              have HQ := Lib.hid hq
              have hk0 : (0 : Int) ≤ (k : Int) := by omega
              by_cases hkl : k < N
              · have hk7 : k < 7 := by omega
                have hk1 : (k : Int) < (N : Int) := by omega
                have hk71 : (k : Int) < 7 := by omega
                have HON := Lib.hid (othK_next ch ⟨cr, cp⟩ (losS s so bl i).ps i k)
                have y0 := zq.pl k hk7 0 _ rfl; have y1 := zq.pl k hk7 1 _ rfl; have y2 := zq.pl k hk7 2 _ rfl; have y3 := zq.pl k hk7 3 _ rfl; have y4 := zq.pl k hk7 4 _ rfl; have y5 := zq.pl k hk7 5 _ rfl
                simp only [Nat.add_zero] at y0
                obtain ⟨y, hy⟩ : ∃ y, (losS s so bl i).at_ k = y := ⟨_, rfl⟩
                have hy2 : (losS s so bl i).ps.getD k zeroPl = y := hy
                rw [hy] at y0 y1 y2 y3 y4 y5
                rw [hy2] at HON
                obtain ⟨⟨yr, yp⟩, ⟨zr, zp⟩, yst, ysq⟩ := y
                dsimp only at y0 y1 y2 y3 y4 y5 HON
                obtain ⟨ov, hov⟩ : ∃ ov, othK ch ⟨cr, cp⟩ (losS s so bl i).ps i k = ov := ⟨_, rfl⟩
                rw [hov] at HON ⊢
                clear hov hy hy2 hq zq
                obtain ⟨V, hV⟩ : ∃ V : World, V = wr.alloc (.cells #[.int .i64 yr, .int .i64 yp, .int .i64 zr, .int .i64 zp, .int .u8 (yst : Nat), .int .i64 ysq] 41) := ⟨_, rfl⟩
                have HV : Hid (Sep w0 (sI w0.heap.size g pv (losS s so bl i) ++ l) V) := by rw [hV]; exact HQ.out.fresh _
                have HBX : Hid (Whole V wr.heap.size 41 [.int .i64 yr, .int .i64 yp, .int .i64 zr, .int .i64 zp, .int .u8 (yst : Nat), .int .i64 ysq]) := by rw [hV]; exact Whole.new _ _ _
                have SOF : Hid (∀ u : World, Sep w0 (sI w0.heap.size g pv (losS s so bl i) ++ l) u → Whole u wr.heap.size 41 [.int .i64 yr, .int .i64 yp, .int .i64 zr, .int .i64 zp, .int .u8 (yst : Nat), .int .i64 ysq] → u.cell? ⟨wr.heap.size, 2, none⟩ = some (.int .i64 zr) ∧ u.cell? ⟨wr.heap.size, 3, none⟩ = some (.int .i64 zp) ∧ u.cell? ⟨wr.heap.size, 4, none⟩ = some (.int .u8 (yst : Nat)) ∧ u.cell? ⟨g, 45, none⟩ = some (.int .i64 cr) ∧ u.cell? ⟨g, 46, none⟩ = some (.int .i64 cp)) := fun u h hb => ⟨hb.cell 2, hb.cell 3, hb.cell 4, by have := (HCE.out i hi u h).cr; rw [(HAN.out i).2.2] at this; exact this, by have := (HCE.out i hi u h).cp; rw [(HAN.out i).2.2] at this; exact this⟩
                cases ov
                · by_cases hki : k = i
                  · have hne : ((k : Int) != (i : Int)) = false := by simp; omega
                    have HKI := Lib.hid hki
                    clear hki
                    go_wp2_with fail
                    rw [← hV]
                    clear hV
                    refine wp_region_held_drew (S := (fun u : World => u.cell? ⟨wr.heap.size, 2, none⟩ = some (.int .i64 zr) ∧ u.cell? ⟨wr.heap.size, 3, none⟩ = some (.int .i64 zp) ∧ u.cell? ⟨wr.heap.size, 4, none⟩ = some (.int .u8 (yst : Nat)) ∧ u.cell? ⟨g, 45, none⟩ = some (.int .i64 cr) ∧ u.cell? ⟨g, 46, none⟩ = some (.int .i64 cp))) (by kernel_rfl) (SOF.out _ HV.out.drew HBX.out.drew) (fun HS => ?_)
                    refine handTake 0 (some 61) ?_ rfl rfl (by kernel_rfl) (by kernel_rfl) (by kernel_rfl) (fun _ _ _ h => h) (by rfl) ?_ HS ?_
                    rotate_left
                    · (intro u hu; (try dsimp only at hu); go_simp; try with_reducible rfl)
                    simp only [Act.put, List.setIfInBounds_toArray, List.set_cons_zero, List.set_cons_succ]
                    refine handTake 1 (some 62) ?_ rfl rfl (by kernel_rfl) (by kernel_rfl) (by kernel_rfl) (fun _ _ _ h => h) (by rfl) ?_ HS ?_
                    rotate_left
                    · (intro u hu; (try dsimp only at hu); go_simp; try with_reducible rfl)
                    simp only [Act.put, List.setIfInBounds_toArray, List.set_cons_zero, List.set_cons_succ]
                    refine handTake 2 (some 63) ?_ rfl rfl (by kernel_rfl) (by kernel_rfl) (by kernel_rfl) (fun _ _ _ h => h) (by rfl) ?_ HS ?_
                    rotate_left
                    · (intro u hu; (try dsimp only at hu); go_simp; try with_reducible rfl)
                    simp only [Act.put, List.setIfInBounds_toArray, List.set_cons_zero, List.set_cons_succ]
                    refine handTake 3 (some 64) ?_ rfl rfl (by kernel_rfl) (by kernel_rfl) (by kernel_rfl) (fun _ _ _ h => h) (by rfl) ?_ HS ?_
                    rotate_left
                    · (intro u hu; (try dsimp only at hu); go_simp; try with_reducible rfl)
                    simp only [Act.put, List.setIfInBounds_toArray, List.set_cons_zero, List.set_cons_succ]
                    refine handTake 4 (some 65) ?_ rfl rfl (by kernel_rfl) (by kernel_rfl) (by kernel_rfl) (fun _ _ _ h => h) (by rfl) ?_ HS ?_
                    rotate_left
                    · (intro u hu; (try dsimp only at hu); go_simp; try with_reducible rfl)
                    simp only [Act.put, List.setIfInBounds_toArray, List.set_cons_zero, List.set_cons_succ]
                    refine handTake 5 (some 66) ?_ rfl rfl (by kernel_rfl) (by kernel_rfl) (by kernel_rfl) (fun _ _ _ h => h) (by rfl) ?_ HS ?_
                    rotate_left
                    · (intro u hu; (try dsimp only at hu); go_simp; try with_reducible rfl)
                    simp only [Act.put, List.setIfInBounds_toArray, List.set_cons_zero, List.set_cons_succ]
                    refine handSkip 6 (some 67) rfl rfl (by kernel_rfl) (by kernel_rfl) (by kernel_rfl) (fun _ _ _ h => h) (by rfl) HS ?_
                    simp only [Act.put, List.setIfInBounds_toArray, List.set_cons_zero, List.set_cons_succ]
                    refine handSkip 7 (some 68) rfl rfl (by kernel_rfl) (by kernel_rfl) (by kernel_rfl) (fun _ _ _ h => h) (by rfl) HS ?_
                    simp only [Act.put, List.setIfInBounds_toArray, List.set_cons_zero, List.set_cons_succ]
                    refine handSkip 8 (some 69) rfl rfl (by kernel_rfl) (by kernel_rfl) (by kernel_rfl) (fun _ _ _ h => h) (by rfl) HS ?_
                    simp only [Act.put, List.setIfInBounds_toArray, List.set_cons_zero, List.set_cons_succ]
                    refine handTake 9 (some 70) ?_ rfl rfl (by kernel_rfl) (by kernel_rfl) (by kernel_rfl) (fun _ _ _ h => h) (by rfl) ?_ HS ?_
                    rotate_left
                    · (intro u hu; (try dsimp only at hu); go_simp; try with_reducible rfl)
                    simp only [Act.put, List.setIfInBounds_toArray, List.set_cons_zero, List.set_cons_succ]
                    refine handTake 10 (some 71) ?_ rfl rfl (by kernel_rfl) (by kernel_rfl) (by kernel_rfl) (fun _ _ _ h => h) (by rfl) ?_ HS ?_
                    rotate_left
                    · (intro u hu; (try dsimp only at hu); go_simp; try with_reducible rfl)
                    simp only [Act.put, List.setIfInBounds_toArray, List.set_cons_zero, List.set_cons_succ]
                    refine handSkip 11 (some 72) rfl rfl (by kernel_rfl) (by kernel_rfl) (by kernel_rfl) (fun _ _ _ h => h) (by rfl) HS ?_
                    simp only [Act.put, List.setIfInBounds_toArray, List.set_cons_zero, List.set_cons_succ]
                    refine handSkip 12 (some 73) rfl rfl (by kernel_rfl) (by kernel_rfl) (by kernel_rfl) (fun _ _ _ h => h) (by rfl) HS ?_
                    simp only [Act.put, List.setIfInBounds_toArray, List.set_cons_zero, List.set_cons_succ]
                    refine handSkip 13 (some 74) rfl rfl (by kernel_rfl) (by kernel_rfl) (by kernel_rfl) (fun _ _ _ h => h) (by rfl) HS ?_
                    simp only [Act.put, List.setIfInBounds_toArray, List.set_cons_zero, List.set_cons_succ]
                    refine handSkip 14 (some 75) rfl rfl (by kernel_rfl) (by kernel_rfl) (by kernel_rfl) (fun _ _ _ h => h) (by rfl) HS ?_
                    simp only [Act.put, List.setIfInBounds_toArray, List.set_cons_zero, List.set_cons_succ]
                    refine handSkip 15 (some 76) rfl rfl (by kernel_rfl) (by kernel_rfl) (by kernel_rfl) (fun _ _ _ h => h) (by rfl) HS ?_
                    simp only [Act.put, List.setIfInBounds_toArray, List.set_cons_zero, List.set_cons_succ]
                    refine handSkip 16 (some 77) rfl rfl (by kernel_rfl) (by kernel_rfl) (by kernel_rfl) (fun _ _ _ h => h) (by rfl) HS ?_
                    simp only [Act.put, List.setIfInBounds_toArray, List.set_cons_zero, List.set_cons_succ]
                    refine handSkip 17 (some 78) rfl rfl (by kernel_rfl) (by kernel_rfl) (by kernel_rfl) (fun _ _ _ h => h) (by rfl) HS ?_
                    simp only [Act.put, List.setIfInBounds_toArray, List.set_cons_zero, List.set_cons_succ]
                    refine handSkip 18 (some 79) rfl rfl (by kernel_rfl) (by kernel_rfl) (by kernel_rfl) (fun _ _ _ h => h) (by rfl) HS ?_
                    simp only [Act.put, List.setIfInBounds_toArray, List.set_cons_zero, List.set_cons_succ]
                    refine handTake 19 (some 80) ?_ rfl rfl (by kernel_rfl) (by kernel_rfl) (by kernel_rfl) (fun _ _ _ h => h) (by rfl) ?_ HS ?_
                    rotate_left
                    · (intro u hu; (try dsimp only at hu); go_simp; try with_reducible rfl)
                    simp only [Act.put, List.setIfInBounds_toArray, List.set_cons_zero, List.set_cons_succ]
                    refine handTake 20 (some 81) ?_ rfl rfl (by kernel_rfl) (by kernel_rfl) (by kernel_rfl) (fun _ _ _ h => h) (by rfl) ?_ HS ?_
                    rotate_left
                    · (intro u hu; (try dsimp only at hu); go_simp; try with_reducible rfl)
                    simp only [Act.put, List.setIfInBounds_toArray, List.set_cons_zero, List.set_cons_succ]
                    refine handTake 21 (some 7) ?_ rfl rfl (by kernel_rfl) (by kernel_rfl) (by kernel_rfl) (fun _ _ _ h => h) (by rfl) ?_ HS ?_
                    rotate_left
                    · (intro u hu; (try dsimp only at hu); go_simp; try with_reducible rfl)
                    simp only [Act.put, List.setIfInBounds_toArray, List.set_cons_zero, List.set_cons_succ]
                    refine wpAnyH_done (by kernel_rfl) ?_ _
                    clear HS
                    go_wp2_with fail
                    go_roundw
                    case rel => exact ⟨k + 1, by omega, by go_num, by rw [HON.out]; simp [HKI.out], HV.out.drew⟩
                    case measure => show N - ((k : Int) + 1).toNat < N - (k : Int).toNat; omega
                  · have hne : ((k : Int) != (i : Int)) = true := by simp; omega
                    have HKI := Lib.hid hki
                    clear hki
                    by_cases hys : yst = 2
                    · have h2e : ((yst : Int) == 2) = true := by simp; omega
                      have HYS := Lib.hid hys
                      clear hys
                      have RL := less_any ⟨zr, zp⟩ ⟨cr, cp⟩
                      simp only [Ba.cells] at RL
                      cases hls : lessB ⟨zr, zp⟩ ⟨cr, cp⟩
                      · rw [hls] at RL HON
                        have RL := Lib.hid RL
                        clear hls
                        go_wp2_with fail
                        rw [← hV]
                        clear hV
                        refine wp_region_held_drew (S := (fun u : World => u.cell? ⟨wr.heap.size, 2, none⟩ = some (.int .i64 zr) ∧ u.cell? ⟨wr.heap.size, 3, none⟩ = some (.int .i64 zp) ∧ u.cell? ⟨wr.heap.size, 4, none⟩ = some (.int .u8 (yst : Nat)) ∧ u.cell? ⟨g, 45, none⟩ = some (.int .i64 cr) ∧ u.cell? ⟨g, 46, none⟩ = some (.int .i64 cp))) (by kernel_rfl) (SOF.out _ HV.out.drew HBX.out.drew) (fun HS => ?_)
                        refine handTake 0 (some 61) ?_ rfl rfl (by kernel_rfl) (by kernel_rfl) (by kernel_rfl) (fun _ _ _ h => h) (by rfl) ?_ HS ?_
                        rotate_left
                        · (intro u hu; (try dsimp only at hu); go_simp; try with_reducible rfl)
                        simp only [Act.put, List.setIfInBounds_toArray, List.set_cons_zero, List.set_cons_succ]
                        refine handTake 1 (some 62) ?_ rfl rfl (by kernel_rfl) (by kernel_rfl) (by kernel_rfl) (fun _ _ _ h => h) (by rfl) ?_ HS ?_
                        rotate_left
                        · (intro u hu; (try dsimp only at hu); go_simp; try with_reducible rfl)
                        simp only [Act.put, List.setIfInBounds_toArray, List.set_cons_zero, List.set_cons_succ]
                        refine handTake 2 (some 63) ?_ rfl rfl (by kernel_rfl) (by kernel_rfl) (by kernel_rfl) (fun _ _ _ h => h) (by rfl) ?_ HS ?_
                        rotate_left
                        · (intro u hu; (try dsimp only at hu); go_simp; try with_reducible rfl)
                        simp only [Act.put, List.setIfInBounds_toArray, List.set_cons_zero, List.set_cons_succ]
                        refine handTake 3 (some 64) ?_ rfl rfl (by kernel_rfl) (by kernel_rfl) (by kernel_rfl) (fun _ _ _ h => h) (by rfl) ?_ HS ?_
                        rotate_left
                        · (intro u hu; (try dsimp only at hu); go_simp; try with_reducible rfl)
                        simp only [Act.put, List.setIfInBounds_toArray, List.set_cons_zero, List.set_cons_succ]
                        refine handTake 4 (some 65) ?_ rfl rfl (by kernel_rfl) (by kernel_rfl) (by kernel_rfl) (fun _ _ _ h => h) (by rfl) ?_ HS ?_
                        rotate_left
                        · (intro u hu; (try dsimp only at hu); go_simp; try with_reducible rfl)
                        simp only [Act.put, List.setIfInBounds_toArray, List.set_cons_zero, List.set_cons_succ]
                        refine handTake 5 (some 66) ?_ rfl rfl (by kernel_rfl) (by kernel_rfl) (by kernel_rfl) (fun _ _ _ h => h) (by rfl) ?_ HS ?_
                        rotate_left
                        · (intro u hu; (try dsimp only at hu); go_simp; try with_reducible rfl)
                        simp only [Act.put, List.setIfInBounds_toArray, List.set_cons_zero, List.set_cons_succ]
                        refine handTake 6 (some 67) ?_ rfl rfl (by kernel_rfl) (by kernel_rfl) (by kernel_rfl) (fun _ _ _ h => h) (by rfl) ?_ HS ?_
                        rotate_left
                        · (intro u hu; (try dsimp only at hu); go_simp; try with_reducible rfl)
                        simp only [Act.put, List.setIfInBounds_toArray, List.set_cons_zero, List.set_cons_succ]
                        refine handTake 7 (some 68) ?_ rfl rfl (by kernel_rfl) (by kernel_rfl) (by kernel_rfl) (fun _ _ _ h => h) (by rfl) ?_ HS ?_
                        rotate_left
                        · (intro u hu; (try dsimp only at hu); go_simp; try with_reducible rfl)
                        simp only [Act.put, List.setIfInBounds_toArray, List.set_cons_zero, List.set_cons_succ]
                        refine handTake 8 (some 69) ?_ rfl rfl (by kernel_rfl) (by kernel_rfl) (by kernel_rfl) (fun _ _ _ h => h) (by rfl) ?_ HS ?_
                        rotate_left
                        · (intro u hu; (try dsimp only at hu); go_simp; try with_reducible rfl)
                        simp only [Act.put, List.setIfInBounds_toArray, List.set_cons_zero, List.set_cons_succ]
                        refine handTake 9 (some 70) ?_ rfl rfl (by kernel_rfl) (by kernel_rfl) (by kernel_rfl) (fun _ _ _ h => h) (by rfl) ?_ HS ?_
                        rotate_left
                        · (intro u hu; (try dsimp only at hu); go_simp; try with_reducible rfl)
                        simp only [Act.put, List.setIfInBounds_toArray, List.set_cons_zero, List.set_cons_succ]
                        refine handTake 10 (some 71) ?_ rfl rfl (by kernel_rfl) (by kernel_rfl) (by kernel_rfl) (fun _ _ _ h => h) (by rfl) ?_ HS ?_
                        rotate_left
                        · (intro u hu; (try dsimp only at hu); go_simp; try with_reducible rfl)
                        simp only [Act.put, List.setIfInBounds_toArray, List.set_cons_zero, List.set_cons_succ]
                        refine handTake 11 (some 72) ?_ rfl rfl (by kernel_rfl) (by kernel_rfl) (by kernel_rfl) (fun _ _ _ h => h) (by rfl) ?_ HS ?_
                        rotate_left
                        · (intro u hu; (try dsimp only at hu); go_simp; try with_reducible rfl)
                        simp only [Act.put, List.setIfInBounds_toArray, List.set_cons_zero, List.set_cons_succ]
                        refine handTake 12 (some 73) ?_ rfl rfl (by kernel_rfl) (by kernel_rfl) (by kernel_rfl) (fun _ _ _ h => h) (by rfl) ?_ HS ?_
                        rotate_left
                        · (intro u hu; (try dsimp only at hu); go_simp; try with_reducible rfl)
                        simp only [Act.put, List.setIfInBounds_toArray, List.set_cons_zero, List.set_cons_succ]
                        refine handTake 13 (some 74) ?_ rfl rfl (by kernel_rfl) (by kernel_rfl) (by kernel_rfl) (fun _ _ _ h => h) (by rfl) ?_ HS ?_
                        rotate_left
                        · (intro u hu; (try dsimp only at hu); go_simp; try with_reducible rfl)
                        simp only [Act.put, List.setIfInBounds_toArray, List.set_cons_zero, List.set_cons_succ]
                        refine handTake 14 (some 75) ?_ rfl rfl (by kernel_rfl) (by kernel_rfl) (by kernel_rfl) (fun _ _ _ h => h) (by rfl) ?_ HS ?_
                        rotate_left
                        · (intro u hu; (try dsimp only at hu); go_simp; try with_reducible rfl)
                        simp only [Act.put, List.setIfInBounds_toArray, List.set_cons_zero, List.set_cons_succ]
                        refine handTake 15 (some 76) ?_ rfl rfl (by kernel_rfl) (by kernel_rfl) (by kernel_rfl) (fun _ _ _ h => h) (by rfl) ?_ HS ?_
                        rotate_left
                        · (intro u hu; (try dsimp only at hu); go_simp; try with_reducible rfl)
                        simp only [Act.put, List.setIfInBounds_toArray, List.set_cons_zero, List.set_cons_succ]
                        refine handTake 16 (some 77) ?_ rfl rfl (by kernel_rfl) (by kernel_rfl) (by kernel_rfl) (fun _ _ _ h => h) (by rfl) ?_ HS ?_
                        rotate_left
                        · (intro u hu; (try dsimp only at hu); go_simp; try with_reducible rfl)
                        simp only [Act.put, List.setIfInBounds_toArray, List.set_cons_zero, List.set_cons_succ]
                        refine wpAnyH_ready (rs := [17]) (by kernel_rfl) (by simp) ?_
                        refine AllReadyH.cons rfl (fun K hK => ?_) AllReadyH.nil
                        go_simp
                        clear HS
                        refine (RL.out _).mono ?_
                        rintro e u2 ⟨rfl, hb⟩
                        have HV2 := Lib.hid (HV.out.drew.call hb)
                        have HBX2 := Lib.hid (HBX.out.drew.below hb HBX.out.lt)
                        clear hb
                        go_wp2_with fail
                        refine hK.out _ _ (SOF.out _ HV2.out HBX2.out) (fun HS => ?_)
                        clear hK
                        try simp only [Act.put, List.setIfInBounds_toArray, List.set_cons_zero, List.set_cons_succ]
                        refine handTake 18 (some 79) ?_ rfl rfl (by kernel_rfl) (by kernel_rfl) (by kernel_rfl) (fun _ _ _ h => h) (by rfl) ?_ HS ?_
                        rotate_left
                        · (intro u hu; (try dsimp only at hu); go_simp; try with_reducible rfl)
                        simp only [Act.put, List.setIfInBounds_toArray, List.set_cons_zero, List.set_cons_succ]
                        refine handTake 19 (some 80) ?_ rfl rfl (by kernel_rfl) (by kernel_rfl) (by kernel_rfl) (fun _ _ _ h => h) (by rfl) ?_ HS ?_
                        rotate_left
                        · (intro u hu; (try dsimp only at hu); go_simp; try with_reducible rfl)
                        simp only [Act.put, List.setIfInBounds_toArray, List.set_cons_zero, List.set_cons_succ]
                        refine handTake 20 (some 81) ?_ rfl rfl (by kernel_rfl) (by kernel_rfl) (by kernel_rfl) (fun _ _ _ h => h) (by rfl) ?_ HS ?_
                        rotate_left
                        · (intro u hu; (try dsimp only at hu); go_simp; try with_reducible rfl)
                        simp only [Act.put, List.setIfInBounds_toArray, List.set_cons_zero, List.set_cons_succ]
                        refine handTake 21 (some 7) ?_ rfl rfl (by kernel_rfl) (by kernel_rfl) (by kernel_rfl) (fun _ _ _ h => h) (by rfl) ?_ HS ?_
                        rotate_left
                        · (intro u hu; (try dsimp only at hu); go_simp; try with_reducible rfl)
                        simp only [Act.put, List.setIfInBounds_toArray, List.set_cons_zero, List.set_cons_succ]
                        refine wpAnyH_done (by kernel_rfl) ?_ _
                        clear HS
                        go_wp2_with fail
                        go_roundw
                        case rel => exact ⟨k + 1, by omega, by go_num, by rw [HON.out]; simp [HKI.out, HYS.out], HV2.out⟩
                        case measure => show N - ((k : Int) + 1).toNat < N - (k : Int).toNat; omega
                      · rw [hls] at RL HON
                        have RL := Lib.hid RL
                        clear hls
                        go_wp2_with fail
                        rw [← hV]
                        clear hV
                        refine wp_region_held_drew (S := (fun u : World => u.cell? ⟨wr.heap.size, 2, none⟩ = some (.int .i64 zr) ∧ u.cell? ⟨wr.heap.size, 3, none⟩ = some (.int .i64 zp) ∧ u.cell? ⟨wr.heap.size, 4, none⟩ = some (.int .u8 (yst : Nat)) ∧ u.cell? ⟨g, 45, none⟩ = some (.int .i64 cr) ∧ u.cell? ⟨g, 46, none⟩ = some (.int .i64 cp))) (by kernel_rfl) (SOF.out _ HV.out.drew HBX.out.drew) (fun HS => ?_)
                        refine handTake 0 (some 61) ?_ rfl rfl (by kernel_rfl) (by kernel_rfl) (by kernel_rfl) (fun _ _ _ h => h) (by rfl) ?_ HS ?_
                        rotate_left
                        · (intro u hu; (try dsimp only at hu); go_simp; try with_reducible rfl)
                        simp only [Act.put, List.setIfInBounds_toArray, List.set_cons_zero, List.set_cons_succ]
                        refine handTake 1 (some 62) ?_ rfl rfl (by kernel_rfl) (by kernel_rfl) (by kernel_rfl) (fun _ _ _ h => h) (by rfl) ?_ HS ?_
                        rotate_left
                        · (intro u hu; (try dsimp only at hu); go_simp; try with_reducible rfl)
                        simp only [Act.put, List.setIfInBounds_toArray, List.set_cons_zero, List.set_cons_succ]
                        refine handTake 2 (some 63) ?_ rfl rfl (by kernel_rfl) (by kernel_rfl) (by kernel_rfl) (fun _ _ _ h => h) (by rfl) ?_ HS ?_
                        rotate_left
                        · (intro u hu; (try dsimp only at hu); go_simp; try with_reducible rfl)
                        simp only [Act.put, List.setIfInBounds_toArray, List.set_cons_zero, List.set_cons_succ]
                        refine handTake 3 (some 64) ?_ rfl rfl (by kernel_rfl) (by kernel_rfl) (by kernel_rfl) (fun _ _ _ h => h) (by rfl) ?_ HS ?_
                        rotate_left
                        · (intro u hu; (try dsimp only at hu); go_simp; try with_reducible rfl)
                        simp only [Act.put, List.setIfInBounds_toArray, List.set_cons_zero, List.set_cons_succ]
                        refine handTake 4 (some 65) ?_ rfl rfl (by kernel_rfl) (by kernel_rfl) (by kernel_rfl) (fun _ _ _ h => h) (by rfl) ?_ HS ?_
                        rotate_left
                        · (intro u hu; (try dsimp only at hu); go_simp; try with_reducible rfl)
                        simp only [Act.put, List.setIfInBounds_toArray, List.set_cons_zero, List.set_cons_succ]
                        refine handTake 5 (some 66) ?_ rfl rfl (by kernel_rfl) (by kernel_rfl) (by kernel_rfl) (fun _ _ _ h => h) (by rfl) ?_ HS ?_
                        rotate_left
                        · (intro u hu; (try dsimp only at hu); go_simp; try with_reducible rfl)
                        simp only [Act.put, List.setIfInBounds_toArray, List.set_cons_zero, List.set_cons_succ]
                        refine handTake 6 (some 67) ?_ rfl rfl (by kernel_rfl) (by kernel_rfl) (by kernel_rfl) (fun _ _ _ h => h) (by rfl) ?_ HS ?_
                        rotate_left
                        · (intro u hu; (try dsimp only at hu); go_simp; try with_reducible rfl)
                        simp only [Act.put, List.setIfInBounds_toArray, List.set_cons_zero, List.set_cons_succ]
                        refine handTake 7 (some 68) ?_ rfl rfl (by kernel_rfl) (by kernel_rfl) (by kernel_rfl) (fun _ _ _ h => h) (by rfl) ?_ HS ?_
                        rotate_left
                        · (intro u hu; (try dsimp only at hu); go_simp; try with_reducible rfl)
                        simp only [Act.put, List.setIfInBounds_toArray, List.set_cons_zero, List.set_cons_succ]
                        refine handTake 8 (some 69) ?_ rfl rfl (by kernel_rfl) (by kernel_rfl) (by kernel_rfl) (fun _ _ _ h => h) (by rfl) ?_ HS ?_
                        rotate_left
                        · (intro u hu; (try dsimp only at hu); go_simp; try with_reducible rfl)
                        simp only [Act.put, List.setIfInBounds_toArray, List.set_cons_zero, List.set_cons_succ]
                        refine handTake 9 (some 70) ?_ rfl rfl (by kernel_rfl) (by kernel_rfl) (by kernel_rfl) (fun _ _ _ h => h) (by rfl) ?_ HS ?_
                        rotate_left
                        · (intro u hu; (try dsimp only at hu); go_simp; try with_reducible rfl)
                        simp only [Act.put, List.setIfInBounds_toArray, List.set_cons_zero, List.set_cons_succ]
                        refine handTake 10 (some 71) ?_ rfl rfl (by kernel_rfl) (by kernel_rfl) (by kernel_rfl) (fun _ _ _ h => h) (by rfl) ?_ HS ?_
                        rotate_left
                        · (intro u hu; (try dsimp only at hu); go_simp; try with_reducible rfl)
                        simp only [Act.put, List.setIfInBounds_toArray, List.set_cons_zero, List.set_cons_succ]
                        refine handTake 11 (some 72) ?_ rfl rfl (by kernel_rfl) (by kernel_rfl) (by kernel_rfl) (fun _ _ _ h => h) (by rfl) ?_ HS ?_
                        rotate_left
                        · (intro u hu; (try dsimp only at hu); go_simp; try with_reducible rfl)
                        simp only [Act.put, List.setIfInBounds_toArray, List.set_cons_zero, List.set_cons_succ]
                        refine handTake 12 (some 73) ?_ rfl rfl (by kernel_rfl) (by kernel_rfl) (by kernel_rfl) (fun _ _ _ h => h) (by rfl) ?_ HS ?_
                        rotate_left
                        · (intro u hu; (try dsimp only at hu); go_simp; try with_reducible rfl)
                        simp only [Act.put, List.setIfInBounds_toArray, List.set_cons_zero, List.set_cons_succ]
                        refine handTake 13 (some 74) ?_ rfl rfl (by kernel_rfl) (by kernel_rfl) (by kernel_rfl) (fun _ _ _ h => h) (by rfl) ?_ HS ?_
                        rotate_left
                        · (intro u hu; (try dsimp only at hu); go_simp; try with_reducible rfl)
                        simp only [Act.put, List.setIfInBounds_toArray, List.set_cons_zero, List.set_cons_succ]
                        refine handTake 14 (some 75) ?_ rfl rfl (by kernel_rfl) (by kernel_rfl) (by kernel_rfl) (fun _ _ _ h => h) (by rfl) ?_ HS ?_
                        rotate_left
                        · (intro u hu; (try dsimp only at hu); go_simp; try with_reducible rfl)
                        simp only [Act.put, List.setIfInBounds_toArray, List.set_cons_zero, List.set_cons_succ]
                        refine handTake 15 (some 76) ?_ rfl rfl (by kernel_rfl) (by kernel_rfl) (by kernel_rfl) (fun _ _ _ h => h) (by rfl) ?_ HS ?_
                        rotate_left
                        · (intro u hu; (try dsimp only at hu); go_simp; try with_reducible rfl)
                        simp only [Act.put, List.setIfInBounds_toArray, List.set_cons_zero, List.set_cons_succ]
                        refine handTake 16 (some 77) ?_ rfl rfl (by kernel_rfl) (by kernel_rfl) (by kernel_rfl) (fun _ _ _ h => h) (by rfl) ?_ HS ?_
                        rotate_left
                        · (intro u hu; (try dsimp only at hu); go_simp; try with_reducible rfl)
                        simp only [Act.put, List.setIfInBounds_toArray, List.set_cons_zero, List.set_cons_succ]
                        refine wpAnyH_ready (rs := [17]) (by kernel_rfl) (by simp) ?_
                        refine AllReadyH.cons rfl (fun K hK => ?_) AllReadyH.nil
                        go_simp
                        clear HS
                        refine (RL.out _).mono ?_
                        rintro e u2 ⟨rfl, hb⟩
                        have HV2 := Lib.hid (HV.out.drew.call hb)
                        have HBX2 := Lib.hid (HBX.out.drew.below hb HBX.out.lt)
                        clear hb
                        go_wp2_with fail
                        refine hK.out _ _ (SOF.out _ HV2.out HBX2.out) (fun HS => ?_)
                        clear hK
                        try simp only [Act.put, List.setIfInBounds_toArray, List.set_cons_zero, List.set_cons_succ]
                        refine handTake 18 (some 79) ?_ rfl rfl (by kernel_rfl) (by kernel_rfl) (by kernel_rfl) (fun _ _ _ h => h) (by rfl) ?_ HS ?_
                        rotate_left
                        · (intro u hu; (try dsimp only at hu); go_simp; try with_reducible rfl)
                        simp only [Act.put, List.setIfInBounds_toArray, List.set_cons_zero, List.set_cons_succ]
                        refine handTake 19 (some 80) ?_ rfl rfl (by kernel_rfl) (by kernel_rfl) (by kernel_rfl) (fun _ _ _ h => h) (by rfl) ?_ HS ?_
                        rotate_left
                        · (intro u hu; (try dsimp only at hu); go_simp; try with_reducible rfl)
                        simp only [Act.put, List.setIfInBounds_toArray, List.set_cons_zero, List.set_cons_succ]
                        refine handTake 20 (some 81) ?_ rfl rfl (by kernel_rfl) (by kernel_rfl) (by kernel_rfl) (fun _ _ _ h => h) (by rfl) ?_ HS ?_
                        rotate_left
                        · (intro u hu; (try dsimp only at hu); go_simp; try with_reducible rfl)
                        simp only [Act.put, List.setIfInBounds_toArray, List.set_cons_zero, List.set_cons_succ]
                        refine handTake 21 (some 7) ?_ rfl rfl (by kernel_rfl) (by kernel_rfl) (by kernel_rfl) (fun _ _ _ h => h) (by rfl) ?_ HS ?_
                        rotate_left
                        · (intro u hu; (try dsimp only at hu); go_simp; try with_reducible rfl)
                        simp only [Act.put, List.setIfInBounds_toArray, List.set_cons_zero, List.set_cons_succ]
                        refine wpAnyH_done (by kernel_rfl) ?_ _
                        clear HS
                        go_wp2_with fail
                        go_roundw
                        case rel => exact ⟨k + 1, by omega, by go_num, by rw [HON.out]; simp [HKI.out, HYS.out], HV2.out⟩
                        case measure => show N - ((k : Int) + 1).toNat < N - (k : Int).toNat; omega
                    · have hn2 : ((yst : Int) == 2) = false := by simp; omega
                      have HYS := Lib.hid hys
                      clear hys
                      go_wp2_with fail
                      rw [← hV]
                      clear hV
                      refine wp_region_held_drew (S := (fun u : World => u.cell? ⟨wr.heap.size, 2, none⟩ = some (.int .i64 zr) ∧ u.cell? ⟨wr.heap.size, 3, none⟩ = some (.int .i64 zp) ∧ u.cell? ⟨wr.heap.size, 4, none⟩ = some (.int .u8 (yst : Nat)) ∧ u.cell? ⟨g, 45, none⟩ = some (.int .i64 cr) ∧ u.cell? ⟨g, 46, none⟩ = some (.int .i64 cp))) (by kernel_rfl) (SOF.out _ HV.out.drew HBX.out.drew) (fun HS => ?_)
                      refine handTake 0 (some 61) ?_ rfl rfl (by kernel_rfl) (by kernel_rfl) (by kernel_rfl) (fun _ _ _ h => h) (by rfl) ?_ HS ?_
                      rotate_left
                      · (intro u hu; (try dsimp only at hu); go_simp; try with_reducible rfl)
                      simp only [Act.put, List.setIfInBounds_toArray, List.set_cons_zero, List.set_cons_succ]
                      refine handTake 1 (some 62) ?_ rfl rfl (by kernel_rfl) (by kernel_rfl) (by kernel_rfl) (fun _ _ _ h => h) (by rfl) ?_ HS ?_
                      rotate_left
                      · (intro u hu; (try dsimp only at hu); go_simp; try with_reducible rfl)
                      simp only [Act.put, List.setIfInBounds_toArray, List.set_cons_zero, List.set_cons_succ]
                      refine handTake 2 (some 63) ?_ rfl rfl (by kernel_rfl) (by kernel_rfl) (by kernel_rfl) (fun _ _ _ h => h) (by rfl) ?_ HS ?_
                      rotate_left
                      · (intro u hu; (try dsimp only at hu); go_simp; try with_reducible rfl)
                      simp only [Act.put, List.setIfInBounds_toArray, List.set_cons_zero, List.set_cons_succ]
                      refine handTake 3 (some 64) ?_ rfl rfl (by kernel_rfl) (by kernel_rfl) (by kernel_rfl) (fun _ _ _ h => h) (by rfl) ?_ HS ?_
                      rotate_left
                      · (intro u hu; (try dsimp only at hu); go_simp; try with_reducible rfl)
                      simp only [Act.put, List.setIfInBounds_toArray, List.set_cons_zero, List.set_cons_succ]
                      refine handTake 4 (some 65) ?_ rfl rfl (by kernel_rfl) (by kernel_rfl) (by kernel_rfl) (fun _ _ _ h => h) (by rfl) ?_ HS ?_
                      rotate_left
                      · (intro u hu; (try dsimp only at hu); go_simp; try with_reducible rfl)
                      simp only [Act.put, List.setIfInBounds_toArray, List.set_cons_zero, List.set_cons_succ]
                      refine handTake 5 (some 66) ?_ rfl rfl (by kernel_rfl) (by kernel_rfl) (by kernel_rfl) (fun _ _ _ h => h) (by rfl) ?_ HS ?_
                      rotate_left
                      · (intro u hu; (try dsimp only at hu); go_simp; try with_reducible rfl)
                      simp only [Act.put, List.setIfInBounds_toArray, List.set_cons_zero, List.set_cons_succ]
                      refine handTake 6 (some 67) ?_ rfl rfl (by kernel_rfl) (by kernel_rfl) (by kernel_rfl) (fun _ _ _ h => h) (by rfl) ?_ HS ?_
                      rotate_left
                      · (intro u hu; (try dsimp only at hu); go_simp; try with_reducible rfl)
                      simp only [Act.put, List.setIfInBounds_toArray, List.set_cons_zero, List.set_cons_succ]
                      refine handTake 7 (some 68) ?_ rfl rfl (by kernel_rfl) (by kernel_rfl) (by kernel_rfl) (fun _ _ _ h => h) (by rfl) ?_ HS ?_
                      rotate_left
                      · (intro u hu; (try dsimp only at hu); go_simp; try with_reducible rfl)
                      simp only [Act.put, List.setIfInBounds_toArray, List.set_cons_zero, List.set_cons_succ]
                      refine handTake 8 (some 69) ?_ rfl rfl (by kernel_rfl) (by kernel_rfl) (by kernel_rfl) (fun _ _ _ h => h) (by rfl) ?_ HS ?_
                      rotate_left
                      · (intro u hu; (try dsimp only at hu); go_simp; try with_reducible rfl)
                      simp only [Act.put, List.setIfInBounds_toArray, List.set_cons_zero, List.set_cons_succ]
                      refine handTake 9 (some 70) ?_ rfl rfl (by kernel_rfl) (by kernel_rfl) (by kernel_rfl) (fun _ _ _ h => h) (by rfl) ?_ HS ?_
                      rotate_left
                      · (intro u hu; (try dsimp only at hu); go_simp; try with_reducible rfl)
                      simp only [Act.put, List.setIfInBounds_toArray, List.set_cons_zero, List.set_cons_succ]
                      refine handTake 10 (some 71) ?_ rfl rfl (by kernel_rfl) (by kernel_rfl) (by kernel_rfl) (fun _ _ _ h => h) (by rfl) ?_ HS ?_
                      rotate_left
                      · (intro u hu; (try dsimp only at hu); go_simp; try with_reducible rfl)
                      simp only [Act.put, List.setIfInBounds_toArray, List.set_cons_zero, List.set_cons_succ]
                      refine handSkip 11 (some 72) rfl rfl (by kernel_rfl) (by kernel_rfl) (by kernel_rfl) (fun _ _ _ h => h) (by rfl) HS ?_
                      simp only [Act.put, List.setIfInBounds_toArray, List.set_cons_zero, List.set_cons_succ]
                      refine handSkip 12 (some 73) rfl rfl (by kernel_rfl) (by kernel_rfl) (by kernel_rfl) (fun _ _ _ h => h) (by rfl) HS ?_
                      simp only [Act.put, List.setIfInBounds_toArray, List.set_cons_zero, List.set_cons_succ]
                      refine handSkip 13 (some 74) rfl rfl (by kernel_rfl) (by kernel_rfl) (by kernel_rfl) (fun _ _ _ h => h) (by rfl) HS ?_
                      simp only [Act.put, List.setIfInBounds_toArray, List.set_cons_zero, List.set_cons_succ]
                      refine handSkip 14 (some 75) rfl rfl (by kernel_rfl) (by kernel_rfl) (by kernel_rfl) (fun _ _ _ h => h) (by rfl) HS ?_
                      simp only [Act.put, List.setIfInBounds_toArray, List.set_cons_zero, List.set_cons_succ]
                      refine handSkip 15 (some 76) rfl rfl (by kernel_rfl) (by kernel_rfl) (by kernel_rfl) (fun _ _ _ h => h) (by rfl) HS ?_
                      simp only [Act.put, List.setIfInBounds_toArray, List.set_cons_zero, List.set_cons_succ]
                      refine handSkip 16 (some 77) rfl rfl (by kernel_rfl) (by kernel_rfl) (by kernel_rfl) (fun _ _ _ h => h) (by rfl) HS ?_
                      simp only [Act.put, List.setIfInBounds_toArray, List.set_cons_zero, List.set_cons_succ]
                      refine handSkip 17 (some 78) rfl rfl (by kernel_rfl) (by kernel_rfl) (by kernel_rfl) (fun _ _ _ h => h) (by rfl) HS ?_
                      simp only [Act.put, List.setIfInBounds_toArray, List.set_cons_zero, List.set_cons_succ]
                      refine handSkip 18 (some 79) rfl rfl (by kernel_rfl) (by kernel_rfl) (by kernel_rfl) (fun _ _ _ h => h) (by rfl) HS ?_
                      simp only [Act.put, List.setIfInBounds_toArray, List.set_cons_zero, List.set_cons_succ]
                      refine handTake 19 (some 80) ?_ rfl rfl (by kernel_rfl) (by kernel_rfl) (by kernel_rfl) (fun _ _ _ h => h) (by rfl) ?_ HS ?_
                      rotate_left
                      · (intro u hu; (try dsimp only at hu); go_simp; try with_reducible rfl)
                      simp only [Act.put, List.setIfInBounds_toArray, List.set_cons_zero, List.set_cons_succ]
                      refine handTake 20 (some 81) ?_ rfl rfl (by kernel_rfl) (by kernel_rfl) (by kernel_rfl) (fun _ _ _ h => h) (by rfl) ?_ HS ?_
                      rotate_left
                      · (intro u hu; (try dsimp only at hu); go_simp; try with_reducible rfl)
                      simp only [Act.put, List.setIfInBounds_toArray, List.set_cons_zero, List.set_cons_succ]
                      refine handTake 21 (some 7) ?_ rfl rfl (by kernel_rfl) (by kernel_rfl) (by kernel_rfl) (fun _ _ _ h => h) (by rfl) ?_ HS ?_
                      rotate_left
                      · (intro u hu; (try dsimp only at hu); go_simp; try with_reducible rfl)
                      simp only [Act.put, List.setIfInBounds_toArray, List.set_cons_zero, List.set_cons_succ]
                      refine wpAnyH_done (by kernel_rfl) ?_ _
                      clear HS
                      go_wp2_with fail
                      go_roundw
                      case rel => exact ⟨k + 1, by omega, by go_num, by rw [HON.out]; simp [HYS.out], HV.out.drew⟩
                      case measure => show N - ((k : Int) + 1).toNat < N - (k : Int).toNat; omega
                · go_wp2_with fail
                  rw [← hV]
                  clear hV
                  refine wp_region_held_drew (S := (fun u : World => u.cell? ⟨wr.heap.size, 2, none⟩ = some (.int .i64 zr) ∧ u.cell? ⟨wr.heap.size, 3, none⟩ = some (.int .i64 zp) ∧ u.cell? ⟨wr.heap.size, 4, none⟩ = some (.int .u8 (yst : Nat)) ∧ u.cell? ⟨g, 45, none⟩ = some (.int .i64 cr) ∧ u.cell? ⟨g, 46, none⟩ = some (.int .i64 cp))) (by kernel_rfl) (SOF.out _ HV.out.drew HBX.out.drew) (fun HS => ?_)
                  refine handTake 0 (some 61) ?_ rfl rfl (by kernel_rfl) (by kernel_rfl) (by kernel_rfl) (fun _ _ _ h => h) (by rfl) ?_ HS ?_
                  rotate_left
                  · (intro u hu; (try dsimp only at hu); go_simp; try with_reducible rfl)
                  simp only [Act.put, List.setIfInBounds_toArray, List.set_cons_zero, List.set_cons_succ]
                  refine handTake 1 (some 62) ?_ rfl rfl (by kernel_rfl) (by kernel_rfl) (by kernel_rfl) (fun _ _ _ h => h) (by rfl) ?_ HS ?_
                  rotate_left
                  · (intro u hu; (try dsimp only at hu); go_simp; try with_reducible rfl)
                  simp only [Act.put, List.setIfInBounds_toArray, List.set_cons_zero, List.set_cons_succ]
                  refine handSkip 2 (some 63) rfl rfl (by kernel_rfl) (by kernel_rfl) (by kernel_rfl) (fun _ _ _ h => h) (by rfl) HS ?_
                  simp only [Act.put, List.setIfInBounds_toArray, List.set_cons_zero, List.set_cons_succ]
                  refine handSkip 3 (some 64) rfl rfl (by kernel_rfl) (by kernel_rfl) (by kernel_rfl) (fun _ _ _ h => h) (by rfl) HS ?_
                  simp only [Act.put, List.setIfInBounds_toArray, List.set_cons_zero, List.set_cons_succ]
                  refine handSkip 4 (some 65) rfl rfl (by kernel_rfl) (by kernel_rfl) (by kernel_rfl) (fun _ _ _ h => h) (by rfl) HS ?_
                  simp only [Act.put, List.setIfInBounds_toArray, List.set_cons_zero, List.set_cons_succ]
                  refine handSkip 5 (some 66) rfl rfl (by kernel_rfl) (by kernel_rfl) (by kernel_rfl) (fun _ _ _ h => h) (by rfl) HS ?_
                  simp only [Act.put, List.setIfInBounds_toArray, List.set_cons_zero, List.set_cons_succ]
                  refine handSkip 6 (some 67) rfl rfl (by kernel_rfl) (by kernel_rfl) (by kernel_rfl) (fun _ _ _ h => h) (by rfl) HS ?_
                  simp only [Act.put, List.setIfInBounds_toArray, List.set_cons_zero, List.set_cons_succ]
                  refine handSkip 7 (some 68) rfl rfl (by kernel_rfl) (by kernel_rfl) (by kernel_rfl) (fun _ _ _ h => h) (by rfl) HS ?_
                  simp only [Act.put, List.setIfInBounds_toArray, List.set_cons_zero, List.set_cons_succ]
                  refine handSkip 8 (some 69) rfl rfl (by kernel_rfl) (by kernel_rfl) (by kernel_rfl) (fun _ _ _ h => h) (by rfl) HS ?_
                  simp only [Act.put, List.setIfInBounds_toArray, List.set_cons_zero, List.set_cons_succ]
                  refine handSkip 9 (some 70) rfl rfl (by kernel_rfl) (by kernel_rfl) (by kernel_rfl) (fun _ _ _ h => h) (by rfl) HS ?_
                  simp only [Act.put, List.setIfInBounds_toArray, List.set_cons_zero, List.set_cons_succ]
                  refine handSkip 10 (some 71) rfl rfl (by kernel_rfl) (by kernel_rfl) (by kernel_rfl) (fun _ _ _ h => h) (by rfl) HS ?_
                  simp only [Act.put, List.setIfInBounds_toArray, List.set_cons_zero, List.set_cons_succ]
                  refine handSkip 11 (some 72) rfl rfl (by kernel_rfl) (by kernel_rfl) (by kernel_rfl) (fun _ _ _ h => h) (by rfl) HS ?_
                  simp only [Act.put, List.setIfInBounds_toArray, List.set_cons_zero, List.set_cons_succ]
                  refine handSkip 12 (some 73) rfl rfl (by kernel_rfl) (by kernel_rfl) (by kernel_rfl) (fun _ _ _ h => h) (by rfl) HS ?_
                  simp only [Act.put, List.setIfInBounds_toArray, List.set_cons_zero, List.set_cons_succ]
                  refine handSkip 13 (some 74) rfl rfl (by kernel_rfl) (by kernel_rfl) (by kernel_rfl) (fun _ _ _ h => h) (by rfl) HS ?_
                  simp only [Act.put, List.setIfInBounds_toArray, List.set_cons_zero, List.set_cons_succ]
                  refine handSkip 14 (some 75) rfl rfl (by kernel_rfl) (by kernel_rfl) (by kernel_rfl) (fun _ _ _ h => h) (by rfl) HS ?_
                  simp only [Act.put, List.setIfInBounds_toArray, List.set_cons_zero, List.set_cons_succ]
                  refine handSkip 15 (some 76) rfl rfl (by kernel_rfl) (by kernel_rfl) (by kernel_rfl) (fun _ _ _ h => h) (by rfl) HS ?_
                  simp only [Act.put, List.setIfInBounds_toArray, List.set_cons_zero, List.set_cons_succ]
                  refine handSkip 16 (some 77) rfl rfl (by kernel_rfl) (by kernel_rfl) (by kernel_rfl) (fun _ _ _ h => h) (by rfl) HS ?_
                  simp only [Act.put, List.setIfInBounds_toArray, List.set_cons_zero, List.set_cons_succ]
                  refine handSkip 17 (some 78) rfl rfl (by kernel_rfl) (by kernel_rfl) (by kernel_rfl) (fun _ _ _ h => h) (by rfl) HS ?_
                  simp only [Act.put, List.setIfInBounds_toArray, List.set_cons_zero, List.set_cons_succ]
                  refine handSkip 18 (some 79) rfl rfl (by kernel_rfl) (by kernel_rfl) (by kernel_rfl) (fun _ _ _ h => h) (by rfl) HS ?_
                  simp only [Act.put, List.setIfInBounds_toArray, List.set_cons_zero, List.set_cons_succ]
                  refine handSkip 19 (some 80) rfl rfl (by kernel_rfl) (by kernel_rfl) (by kernel_rfl) (fun _ _ _ h => h) (by rfl) HS ?_
                  simp only [Act.put, List.setIfInBounds_toArray, List.set_cons_zero, List.set_cons_succ]
                  refine handTake 20 (some 81) ?_ rfl rfl (by kernel_rfl) (by kernel_rfl) (by kernel_rfl) (fun _ _ _ h => h) (by rfl) ?_ HS ?_
                  rotate_left
                  · (intro u hu; (try dsimp only at hu); go_simp; try with_reducible rfl)
                  simp only [Act.put, List.setIfInBounds_toArray, List.set_cons_zero, List.set_cons_succ]
                  refine handTake 21 (some 7) ?_ rfl rfl (by kernel_rfl) (by kernel_rfl) (by kernel_rfl) (fun _ _ _ h => h) (by rfl) ?_ HS ?_
                  rotate_left
                  · (intro u hu; (try dsimp only at hu); go_simp; try with_reducible rfl)
                  simp only [Act.put, List.setIfInBounds_toArray, List.set_cons_zero, List.set_cons_succ]
                  refine wpAnyH_done (by kernel_rfl) ?_ _
                  clear HS
                  go_wp2_with fail
                  go_roundw
                  case rel => exact ⟨k + 1, by omega, by go_num, by rw [HON.out]; rfl, HV.out.drew⟩
                  case measure => show N - ((k : Int) + 1).toNat < N - (k : Int).toNat; omega
              · have e : k = N := by omega
                subst e
                have HOT : Hid (othersB s.ch s.cb (losS s so bl i).ps i s.n = othK ch ⟨cr, cp⟩ (losS s so bl i).ps i k) := by show othersB _ _ _ _ _ = _; rw [HNN.out, HCH.out, HCB.out]; rfl
                obtain ⟨ov, hov⟩ : ∃ ov, othK ch ⟨cr, cp⟩ (losS s so bl i).ps i k = ov := ⟨_, rfl⟩
                rw [hov] at HOT ⊢
                have d4c := zq.pl i hi7 4 _ rfl
                have d4f := zq.free (1 + i * 6 + 4)
                clear hov hq zq
                cases ov
                · rw [show ((losS s so bl i).at_ i).st = 3 from HXS.out] at d4c
                  cases hb2 : hasB bl (i : Int)
                  · rw [hb2] at HHB
                    have HHB := Lib.hid HHB
                    have HLS2 := Lib.hid (HLS.out HHAS.out (.inl (by trivial)))
                    rw [hb2] at HLS2
                    clear hb2
                    go_wp2_with fail
                    refine (HHB.out _).mono ?_
                    rintro e u5 ⟨rfl, rfl⟩
                    go_wp2_with fail
                    go_roundw
                    case rel =>
                      refine ⟨i + 1, by omega, by go_num, ?_⟩
                      rw [HLS2.out]
                      exact HST.out _ 3 HQ.out
                    case measure => show k - ((i : Int) + 1).toNat < k - (i : Int).toNat; omega
                  · rw [hb2] at HHB
                    have HHB := Lib.hid HHB
                    have HLS2 := Lib.hid (HLS.out HHAS.out (.inl (by trivial)))
                    rw [hb2] at HLS2
                    clear hb2
                    go_wp2_with fail
                    refine (HHB.out _).mono ?_
                    rintro e u5 ⟨rfl, rfl⟩
                    go_wp2_with fail
                    go_roundw
                    case rel =>
                      refine ⟨i + 1, by omega, by go_num, ?_⟩
                      rw [HLS2.out]
                      exact HS4.out _ HQ.out
                    case measure => show k - ((i : Int) + 1).toNat < k - (i : Int).toNat; omega
                · rw [show ((losS s so bl i).at_ i).st = 3 from HXS.out] at d4c
                  cases hb2 : hasB bl (i : Int)
                  · rw [hb2] at HHB
                    have HHB := Lib.hid HHB
                    have HLS2 := Lib.hid (HLS.out HHAS.out (.inl (by trivial)))
                    rw [hb2] at HLS2
                    clear hb2
                    go_wp2_with fail
                    refine (HHB.out _).mono ?_
                    rintro e u5 ⟨rfl, rfl⟩
                    go_wp2_with fail
                    go_roundw
                    case rel =>
                      refine ⟨i + 1, by omega, by go_num, ?_⟩
                      rw [HLS2.out]
                      exact HST.out _ 3 HQ.out
                    case measure => show k - ((i : Int) + 1).toNat < k - (i : Int).toNat; omega
                  · rw [hb2] at HHB
                    have HHB := Lib.hid HHB
                    have HLS2 := Lib.hid (HLS.out HHAS.out (.inl (by trivial)))
                    rw [hb2] at HLS2
                    clear hb2
                    go_wp2_with fail
                    refine (HHB.out _).mono ?_
                    rintro e u5 ⟨rfl, rfl⟩
                    go_wp2_with fail
                    go_roundw
                    case rel =>
                      refine ⟨i + 1, by omega, by go_num, ?_⟩
                      rw [HLS2.out]
                      exact HS4.out _ HQ.out
                    case measure => show k - ((i : Int) + 1).toNat < k - (i : Int).toNat; omega
    · have e : i = N := by omega
      subst e
      go_wp2_with fail
      go_end0
      rw [HLO.out]
      exact ⟨rfl, HS.out⟩
end Ch
end Go.Proofs.Ytpgejomhcojppaa
