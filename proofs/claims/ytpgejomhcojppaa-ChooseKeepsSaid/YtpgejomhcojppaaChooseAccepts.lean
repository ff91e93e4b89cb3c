/- Some accept a proposal: accepts, walked. -/
import Derived.Test.YtpgejomhcojppaaChooseMem
import Derived.StillTailTactics
import Derived.BigQuiet
set_option linter.unusedSimpArgs false
set_option linter.unusedVariables false
namespace Go.Proofs.Ytpgejomhcojppaa
open Go.RowKit
namespace Ch
open Bl Qm
theorem sc6 (w : World) (b o : Nat) (x0 x1 x2 x3 x4 x5 : Value) : w.setCells b o [x0, x1, x2, x3, x4, x5] = (((((w.setCell ⟨b, o, none⟩ x0).setCell ⟨b, o + 1, none⟩ x1).setCell ⟨b, o + 2, none⟩ x2).setCell ⟨b, o + 3, none⟩ x3).setCell ⟨b, o + 4, none⟩ x4).setCell ⟨b, o + 5, none⟩ x5 := rfl
theorem drewN_below {B : Nat} {a u : World} (h : Below B a u) (k : Nat) : Below B a (u.drewN k) := h.trans ⟨rfl, rfl, rfl, Nat.le_refl _, fun _ _ => rfl⟩
theorem sl_apart {w0 u : World} {base g : Nat} {pv : Value} {s : Sl} {l : List It} (h : Sep w0 (sI base g pv s ++ l) u) {gb n c : Nat} (hpv : pv = .slice (some ⟨gb, 0, none⟩) n c) : ¬ g = gb := by
  have h1 := List.pairwise_cons.1 h.apart
  have h2 := h1.1 (.row base 75 4 pv s.qs.length (s.qs.flatMap ppC)) (by simp)
  intro e
  exact h2 g rfl (by rw [hpv, e]; rfl)
/-- Behind i replicas. -/
def accS (s : Sl) (q : Pp) (k some i : Nat) : Sl := ⟨s.n, (accN q some s.ps i).1, s.qs.set k ⟨q.b, q.sq, (accN q some s.ps i).2⟩, s.ch, s.cb⟩
theorem accS_zero {s : Sl} {q : Pp} {k : Nat} (some : Nat) (hk : k < s.qs.length) (hq : s.qs[k] = q) : accS s q k some 0 = s := by
  subst hq
  unfold accS
  show (⟨s.n, s.ps, s.qs.set k s.qs[k], s.ch, s.cb⟩ : Sl) = s
  rw [List.set_getElem_self]
theorem accS_no {s : Sl} {q : Pp} {k some i : Nat} (h : takes q some ((accS s q k some i).at_ i) i = false) : accS s q k some (i + 1) = accS s q k some i := by
  have h : takes q some ((accN q some s.ps i).1.getD i zeroPl) i = false := h
  have e : accN q some s.ps (i + 1) = accN q some s.ps i := by rw [accN]; rw [h, if_neg (by simp)]
  unfold accS; rw [e]
theorem accS_yes {s : Sl} {q : Pp} {k some i : Nat} (h : takes q some ((accS s q k some i).at_ i) i = true) : accS s q k some (i + 1) = ⟨s.n, (accS s q k some i).ps.set i (accPl q), (accS s q k some i).qs.set k ⟨q.b, q.sq, addN (accN q some s.ps i).2 (i : Int)⟩, s.ch, s.cb⟩ := by
  have h : takes q some ((accN q some s.ps i).1.getD i zeroPl) i = true := h
  have e : accN q some s.ps (i + 1) = ((accN q some s.ps i).1.set i (accPl q), addN (accN q some s.ps i).2 (i : Int)) := by rw [accN]; rw [h, if_pos rfl]
  unfold accS; rw [e]
  dsimp only
  rw [List.set_set]
theorem accepts_eq {s : Sl} {q : Pp} {k : Nat} (some : Nat) (hk : k < s.qs.length) (hq : s.qs[k] = q) : accepts s k some = if enoughB (accN q some s.ps s.n).2 (s.n : Int) then if s.ch = 0 then (⟨s.n, (accS s q k some s.n).ps, (accS s q k some s.n).qs, q.sq, q.b⟩, true) else (accS s q k some s.n, decide (s.ch = q.sq)) else (accS s q k some s.n, true) := by
  have hqk : s.qs.getD k ⟨zeroBa, 0, 0⟩ = q := by rw [List.getD_eq_getElem?_getD, List.getElem?_eq_getElem hk]; exact hq
  unfold accepts
  rw [hqk]
  rfl
set_option maxRecDepth 100000 in
set_option maxHeartbeats 16000000 in
theorem accepts_is (s : Sl) (hn : s.n = 3 ∨ s.n = 5 ∨ s.n = 7) (hl : s.ps.length = 7) (k : Nat) (hk : k < s.qs.length) (hby : s.qs[k].by_ < 256) (hqs : s.qs.length ≤ 1000) (so : Nat) (hso : so < 256) (g : Nat) (pv : Value) {w0 : World} {l : List It} {w : World}
    (hS : Sep w0 (sI w0.heap.size g pv s ++ l) w) :
    Calls Try.prog 13 #[.pointer (some ⟨g, 0, none⟩), .int .i64 k, .int .u8 (so : Nat)] w fun e w' => e = .returned (.bool (accepts s k so).2) ∧ Sep w0 (sI w0.heap.size g pv (accepts s k so).1 ++ l) w' := by
  obtain ⟨gb, c, hpv⟩ := sl_form1 hS (by omega)
  obtain ⟨q, hq⟩ : ∃ q, s.qs[k] = q := ⟨_, rfl⟩
  rw [hq] at hby
  have HAE := Lib.hid (accepts_eq so hk hq)
  obtain ⟨N, hN⟩ : ∃ N, s.n = N := ⟨_, rfl⟩
  have hN7 : N ≤ 7 := by omega
  have hN0 : 0 < N := by omega
  have HSP := Lib.hid (accN_spec q so s.ps hl hby)
  have hgg := sl_apart hS hpv
  have hgg2 : ¬ gb = g := fun h => hgg h.symm
  have hlq : ∀ i, (accS s q k so i).qs.length = s.qs.length := fun i => List.length_set
  have HLP : Hid (∀ i, i ≤ 7 → (accS s q k so i).ps.length = 7) := fun i hi => (HSP.out i hi).1
  have HQK : Hid (∀ i, ∃ h : k < (accS s q k so i).qs.length, (accS s q k so i).qs[k] = ⟨q.b, q.sq, (accN q so s.ps i).2⟩) := fun i => ⟨by rw [hlq]; exact hk, List.getElem_set_self _⟩
  have HPV : Hid (∀ i, pv = .slice (some ⟨gb, 0, none⟩) (accS s q k so i).qs.length c) := fun i => by rw [hlq]; exact hpv
  -- the cells, wherever the things stand
  have HCE : Hid (∀ i, i ≤ 7 → ∀ u : World, Sep w0 (sI w0.heap.size g pv (accS s q k so i) ++ l) u → SlAt g pv (accS s q k so i) u ∧ ∀ j x, (ppC ⟨q.b, q.sq, (accN q so s.ps i).2⟩)[j]? = some x → u.cell? ⟨gb, k * 4 + j, none⟩ = some x ∧ u.frozen? ⟨gb, k * 4 + j, none⟩ = false) := fun i hi u h => by
    refine ⟨sl_at h (HLP.out i hi), fun j x hx => ?_⟩
    obtain ⟨hk', e⟩ := HQK.out i
    exact sl_prop h (HPV.out i) hk' j x (by rw [e]; exact hx)
  have hS0 : Hid (Sep w0 (sI w0.heap.size g pv (accS s q k so 0) ++ l) w) := by rw [accS_zero so hk hq]; exact hS
  have HLQ := Lib.hid hlq
  have HPV0 := Lib.hid hpv
  have hkq : (k : Int) < (s.qs.length : Int) := by omega
  have hk0 : (0 : Int) ≤ (k : Int) := by omega
  obtain ⟨M, hM⟩ : ∃ M, s.qs.length = M := ⟨_, rfl⟩
  obtain ⟨⟨br, bp⟩, qq, by0⟩ := q
  have HNN := Lib.hid hN
  have HAN : Hid (∀ i, (accS s ⟨⟨br, bp⟩, qq, by0⟩ k so i).n = N ∧ (accS s ⟨⟨br, bp⟩, qq, by0⟩ k so i).ch = s.ch ∧ (accS s ⟨⟨br, bp⟩, qq, by0⟩ k so i).cb = s.cb) := fun i => ⟨hN, rfl, rfl⟩
  obtain ⟨ch, hch⟩ : ∃ ch, s.ch = ch := ⟨_, rfl⟩
  have HCH := Lib.hid hch
  have z := HCE.out 0 (by omega) _ hS0.out
  have c43 := z.1.pv
  rw [hpv, hM] at c43
  rw [hM] at hkq
  rw [hN] at HAE
  rw [hch] at HAN HAE
  clear hq hpv hS hlq z hN hM hn hch
  go_enter Try.func13, Try.ntmps13
  go_wp2_with fail
  go_loopw [8] (fun iv wr => ∃ i : Nat, i ≤ N ∧ iv = .int .i64 i ∧ Sep w0 (sI w0.heap.size g pv (accS s ⟨⟨br, bp⟩, qq, by0⟩ k so i) ++ l) wr) (fun iv _ => N - (intOf iv).toNat)
  case atStart => exact ⟨0, Nat.zero_le _, rfl, hS0.out⟩
  case round =>
    obtain ⟨i, hi, rfl, hs⟩ := hrel
    obtain ⟨z, zp⟩ := HCE.out i (by omega) _ hs
    have c0 := z.n
    rw [(HAN.out i).1] at c0
    have HS := Lib.hid hs
    have hi0 : (0 : Int) ≤ (i : Int) := by omega
    by_cases hlt : i < N
    · have hi7 : i < 7 := by omega
      have hi1 : (i : Int) < (N : Int) := by omega
      have hi71 : (i : Int) < 7 := by omega
      have HNO := Lib.hid (accS_no (s := s) (q := ⟨⟨br, bp⟩, qq, by0⟩) (k := k) (some := so) (i := i))
      have HYES := Lib.hid (accS_yes (s := s) (q := ⟨⟨br, bp⟩, qq, by0⟩) (k := k) (some := so) (i := i))
      have HX : Hid (∀ u : World, Sep w0 (sI w0.heap.size g pv (accS s ⟨⟨br, bp⟩, qq, by0⟩ k so i) ++ l) u → ∀ j x, (plC ((accS s ⟨⟨br, bp⟩, qq, by0⟩ k so i).at_ i))[j]? = some x → u.cell? ⟨g, 1 + i * 6 + j, none⟩ = some x ∧ u.frozen? ⟨g, 1 + i * 6 + j, none⟩ = false) := fun u h j x hx => ⟨(HCE.out i (by omega) u h).1.pl i hi7 j x hx, (HCE.out i (by omega) u h).1.free _⟩
      have HPL : Hid (∀ x, Sep w0 (sI w0.heap.size g pv ⟨(accS s ⟨⟨br, bp⟩, qq, by0⟩ k so i).n, (accS s ⟨⟨br, bp⟩, qq, by0⟩ k so i).ps.set i x, (accS s ⟨⟨br, bp⟩, qq, by0⟩ k so i).qs, (accS s ⟨⟨br, bp⟩, qq, by0⟩ k so i).ch, (accS s ⟨⟨br, bp⟩, qq, by0⟩ k so i).cb⟩ ++ l) (wr.drewN 2 |>.setCells g (1 + i * 6) (plC x))) := fun x => sl_place (hs.drewN 2) (HLP.out i (by omega)) hi7 x
      clear hs z zp
      obtain ⟨x, hx⟩ : ∃ x, (accS s ⟨⟨br, bp⟩, qq, by0⟩ k so i).at_ i = x := ⟨_, rfl⟩
      rw [hx] at HNO HYES HX
      clear hx
      obtain ⟨⟨xr, xp⟩, ⟨yr, yp⟩, xst, xsq⟩ := x
      have HHA := has_any so hso (i : Int)
      cases hhas : hasB so (i : Int)
      · rw [hhas] at HHA
        have HHA := Lib.hid HHA
        have HTN : Hid (takes ⟨⟨br, bp⟩, qq, by0⟩ so ⟨⟨xr, xp⟩, ⟨yr, yp⟩, xst, xsq⟩ i = false) := by show takes _ _ _ _ = false; unfold takes; rw [hhas]; rfl
        have HSS := HS
        clear hhas HS
        go_wp2_with fail
        refine wp_region_held_drew (S := (fun _ : World => True)) (by kernel_rfl) (trivial) (fun HS => ?_)
        refine handTake 0 (some 23) ?_ rfl rfl (by kernel_rfl) (by kernel_rfl) (by kernel_rfl) (fun _ _ _ h => h) (by rfl) ?_ HS ?_
        rotate_left
        · (intro u hu; (try dsimp only at hu); go_simp; try with_reducible rfl)
        simp only [Act.put, List.setIfInBounds_toArray, List.set_cons_zero, List.set_cons_succ]
        refine handTake 1 (some 24) ?_ rfl rfl (by kernel_rfl) (by kernel_rfl) (by kernel_rfl) (fun _ _ _ h => h) (by rfl) ?_ HS ?_
        rotate_left
        · (intro u hu; (try dsimp only at hu); go_simp; try with_reducible rfl)
        simp only [Act.put, List.setIfInBounds_toArray, List.set_cons_zero, List.set_cons_succ]
        refine wpAnyH_ready (rs := [2]) (by kernel_rfl) (by simp) ?_
        refine AllReadyH.cons rfl (fun K hK => ?_) AllReadyH.nil
        go_simp
        clear HS
        refine (HHA.out _).mono ?_
        rintro e u1 ⟨rfl, rfl⟩
        go_wp2_with fail
        refine hK.out _ _ (trivial) (fun HS => ?_)
        clear hK
        try simp only [Act.put, List.setIfInBounds_toArray, List.set_cons_zero, List.set_cons_succ]
        refine handTake 3 (some 26) ?_ rfl rfl (by kernel_rfl) (by kernel_rfl) (by kernel_rfl) (fun _ _ _ h => h) (by rfl) ?_ HS ?_
        rotate_left
        · (intro u hu; (try dsimp only at hu); go_simp; try with_reducible rfl)
        simp only [Act.put, List.setIfInBounds_toArray, List.set_cons_zero, List.set_cons_succ]
        refine handTake 4 (some 27) ?_ rfl rfl (by kernel_rfl) (by kernel_rfl) (by kernel_rfl) (fun _ _ _ h => h) (by rfl) ?_ HS ?_
        rotate_left
        · (intro u hu; (try dsimp only at hu); go_simp; try with_reducible rfl)
        simp only [Act.put, List.setIfInBounds_toArray, List.set_cons_zero, List.set_cons_succ]
        refine handSkip 5 (some 28) rfl rfl (by kernel_rfl) (by kernel_rfl) (by kernel_rfl) (fun _ _ _ h => h) (by rfl) HS ?_
        simp only [Act.put, List.setIfInBounds_toArray, List.set_cons_zero, List.set_cons_succ]
        refine handSkip 6 (some 29) rfl rfl (by kernel_rfl) (by kernel_rfl) (by kernel_rfl) (fun _ _ _ h => h) (by rfl) HS ?_
        simp only [Act.put, List.setIfInBounds_toArray, List.set_cons_zero, List.set_cons_succ]
        refine handSkip 7 (some 30) rfl rfl (by kernel_rfl) (by kernel_rfl) (by kernel_rfl) (fun _ _ _ h => h) (by rfl) HS ?_
        simp only [Act.put, List.setIfInBounds_toArray, List.set_cons_zero, List.set_cons_succ]
        refine handSkip 8 (some 31) rfl rfl (by kernel_rfl) (by kernel_rfl) (by kernel_rfl) (fun _ _ _ h => h) (by rfl) HS ?_
        simp only [Act.put, List.setIfInBounds_toArray, List.set_cons_zero, List.set_cons_succ]
        refine handSkip 9 (some 32) rfl rfl (by kernel_rfl) (by kernel_rfl) (by kernel_rfl) (fun _ _ _ h => h) (by rfl) HS ?_
        simp only [Act.put, List.setIfInBounds_toArray, List.set_cons_zero, List.set_cons_succ]
        refine handSkip 10 (some 33) rfl rfl (by kernel_rfl) (by kernel_rfl) (by kernel_rfl) (fun _ _ _ h => h) (by rfl) HS ?_
        simp only [Act.put, List.setIfInBounds_toArray, List.set_cons_zero, List.set_cons_succ]
        refine handSkip 11 (some 34) rfl rfl (by kernel_rfl) (by kernel_rfl) (by kernel_rfl) (fun _ _ _ h => h) (by rfl) HS ?_
        simp only [Act.put, List.setIfInBounds_toArray, List.set_cons_zero, List.set_cons_succ]
        refine handSkip 12 (some 35) rfl rfl (by kernel_rfl) (by kernel_rfl) (by kernel_rfl) (fun _ _ _ h => h) (by rfl) HS ?_
        simp only [Act.put, List.setIfInBounds_toArray, List.set_cons_zero, List.set_cons_succ]
        refine handSkip 13 (some 36) rfl rfl (by kernel_rfl) (by kernel_rfl) (by kernel_rfl) (fun _ _ _ h => h) (by rfl) HS ?_
        simp only [Act.put, List.setIfInBounds_toArray, List.set_cons_zero, List.set_cons_succ]
        refine handSkip 14 (some 37) rfl rfl (by kernel_rfl) (by kernel_rfl) (by kernel_rfl) (fun _ _ _ h => h) (by rfl) HS ?_
        simp only [Act.put, List.setIfInBounds_toArray, List.set_cons_zero, List.set_cons_succ]
        refine handSkip 15 (some 38) rfl rfl (by kernel_rfl) (by kernel_rfl) (by kernel_rfl) (fun _ _ _ h => h) (by rfl) HS ?_
        simp only [Act.put, List.setIfInBounds_toArray, List.set_cons_zero, List.set_cons_succ]
        refine handSkip 16 (some 39) rfl rfl (by kernel_rfl) (by kernel_rfl) (by kernel_rfl) (fun _ _ _ h => h) (by rfl) HS ?_
        simp only [Act.put, List.setIfInBounds_toArray, List.set_cons_zero, List.set_cons_succ]
        refine handTake 17 (some 40) ?_ rfl rfl (by kernel_rfl) (by kernel_rfl) (by kernel_rfl) (fun _ _ _ h => h) (by rfl) ?_ HS ?_
        rotate_left
        · (intro u hu; (try dsimp only at hu); go_simp; try with_reducible rfl)
        simp only [Act.put, List.setIfInBounds_toArray, List.set_cons_zero, List.set_cons_succ]
        refine wpAnyH_done (by kernel_rfl) ?_ _
        clear HS
        go_wp2_with fail
        go_roundw
        case rel => exact ⟨i + 1, by omega, by go_num, by rw [HNO.out HTN.out]; exact HSS.out.drew⟩
        case measure => show N - ((i : Int) + 1).toNat < N - (i : Int).toNat; omega
      · rw [hhas] at HHA
        have HHA := Lib.hid HHA
        have RL := less_any ⟨br, bp⟩ ⟨xr, xp⟩
        simp only [Ba.cells] at RL
        have HSS := HS
        have SOF : Hid (∀ u : World, Sep w0 (sI w0.heap.size g pv (accS s ⟨⟨br, bp⟩, qq, by0⟩ k so i) ++ l) u → (u.cell? ⟨gb, k * 4, none⟩ = some (.int .i64 br) ∧ u.cell? ⟨gb, k * 4 + 1, none⟩ = some (.int .i64 bp) ∧ u.cell? ⟨g, 1 + i * 6, none⟩ = some (.int .i64 xr) ∧ u.cell? ⟨g, 1 + i * 6 + 1, none⟩ = some (.int .i64 xp))) := fun u h => ⟨((HCE.out i (by omega) u h).2 0 _ rfl).1, ((HCE.out i (by omega) u h).2 1 _ rfl).1, (HX.out u h 0 _ rfl).1, (HX.out u h 1 _ rfl).1⟩
        cases hls : lessB ⟨br, bp⟩ ⟨xr, xp⟩
        · rw [hls] at RL
          have RL := Lib.hid RL
          have HTN : Hid (takes ⟨⟨br, bp⟩, qq, by0⟩ so ⟨⟨xr, xp⟩, ⟨yr, yp⟩, xst, xsq⟩ i = true) := by show takes _ _ _ _ = true; unfold takes; rw [hhas]; dsimp only; rw [hls]; rfl
          clear hhas hls HS
          go_wp2_with fail
          refine wp_region_held_drew (S := (fun u : World => u.cell? ⟨gb, k * 4, none⟩ = some (.int .i64 br) ∧ u.cell? ⟨gb, k * 4 + 1, none⟩ = some (.int .i64 bp) ∧ u.cell? ⟨g, 1 + i * 6, none⟩ = some (.int .i64 xr) ∧ u.cell? ⟨g, 1 + i * 6 + 1, none⟩ = some (.int .i64 xp))) (by kernel_rfl) (SOF.out _ HSS.out.drew) (fun HS => ?_)
          refine handTake 0 (some 23) ?_ rfl rfl (by kernel_rfl) (by kernel_rfl) (by kernel_rfl) (fun _ _ _ h => h) (by rfl) ?_ HS ?_
          rotate_left
          · (intro u hu; (try dsimp only at hu); go_simp; try with_reducible rfl)
          simp only [Act.put, List.setIfInBounds_toArray, List.set_cons_zero, List.set_cons_succ]
          refine handTake 1 (some 24) ?_ rfl rfl (by kernel_rfl) (by kernel_rfl) (by kernel_rfl) (fun _ _ _ h => h) (by rfl) ?_ HS ?_
          rotate_left
          · (intro u hu; (try dsimp only at hu); go_simp; try with_reducible rfl)
          simp only [Act.put, List.setIfInBounds_toArray, List.set_cons_zero, List.set_cons_succ]
          refine wpAnyH_ready (rs := [2]) (by kernel_rfl) (by simp) ?_
          refine AllReadyH.cons rfl (fun K hK => ?_) AllReadyH.nil
          go_simp
          clear HS
          refine (HHA.out _).mono ?_
          rintro e u1 ⟨rfl, rfl⟩
          go_wp2_with fail
          refine hK.out _ _ (SOF.out _ HSS.out.drew) (fun HS => ?_)
          clear hK
          try simp only [Act.put, List.setIfInBounds_toArray, List.set_cons_zero, List.set_cons_succ]
          refine handTake 3 (some 26) ?_ rfl rfl (by kernel_rfl) (by kernel_rfl) (by kernel_rfl) (fun _ _ _ h => h) (by rfl) ?_ HS ?_
          rotate_left
          · (intro u hu; (try dsimp only at hu); go_simp; try with_reducible rfl)
          simp only [Act.put, List.setIfInBounds_toArray, List.set_cons_zero, List.set_cons_succ]
          refine handTake 4 (some 27) ?_ rfl rfl (by kernel_rfl) (by kernel_rfl) (by kernel_rfl) (fun _ _ _ h => h) (by rfl) ?_ HS ?_
          rotate_left
          · (intro u hu; (try dsimp only at hu); go_simp; try with_reducible rfl)
          simp only [Act.put, List.setIfInBounds_toArray, List.set_cons_zero, List.set_cons_succ]
          refine handTake 5 (some 28) ?_ rfl rfl (by kernel_rfl) (by kernel_rfl) (by kernel_rfl) (fun _ _ _ h => h) (by rfl) ?_ HS ?_
          rotate_left
          · (intro u hu; (try dsimp only at hu); go_simp; try with_reducible rfl)
          simp only [Act.put, List.setIfInBounds_toArray, List.set_cons_zero, List.set_cons_succ]
          refine handTake 6 (some 29) ?_ rfl rfl (by kernel_rfl) (by kernel_rfl) (by kernel_rfl) (fun _ _ _ h => h) (by rfl) ?_ HS ?_
          rotate_left
          · (intro u hu; (try dsimp only at hu); go_simp; try with_reducible rfl)
          simp only [Act.put, List.setIfInBounds_toArray, List.set_cons_zero, List.set_cons_succ]
          refine handTake 7 (some 30) ?_ rfl rfl (by kernel_rfl) (by kernel_rfl) (by kernel_rfl) (fun _ _ _ h => h) (by rfl) ?_ HS ?_
          rotate_left
          · (intro u hu; (try dsimp only at hu); go_simp; try with_reducible rfl)
          simp only [Act.put, List.setIfInBounds_toArray, List.set_cons_zero, List.set_cons_succ]
          refine handTake 8 (some 31) ?_ rfl rfl (by kernel_rfl) (by kernel_rfl) (by kernel_rfl) (fun _ _ _ h => h) (by rfl) ?_ HS ?_
          rotate_left
          · (intro u hu; (try dsimp only at hu); go_simp; try with_reducible rfl)
          simp only [Act.put, List.setIfInBounds_toArray, List.set_cons_zero, List.set_cons_succ]
          refine handTake 9 (some 32) ?_ rfl rfl (by kernel_rfl) (by kernel_rfl) (by kernel_rfl) (fun _ _ _ h => h) (by rfl) ?_ HS ?_
          rotate_left
          · (intro u hu; (try dsimp only at hu); go_simp; try with_reducible rfl)
          simp only [Act.put, List.setIfInBounds_toArray, List.set_cons_zero, List.set_cons_succ]
          refine handTake 10 (some 33) ?_ rfl rfl (by kernel_rfl) (by kernel_rfl) (by kernel_rfl) (fun _ _ _ h => h) (by rfl) ?_ HS ?_
          rotate_left
          · (intro u hu; (try dsimp only at hu); go_simp; try with_reducible rfl)
          simp only [Act.put, List.setIfInBounds_toArray, List.set_cons_zero, List.set_cons_succ]
          refine handTake 11 (some 34) ?_ rfl rfl (by kernel_rfl) (by kernel_rfl) (by kernel_rfl) (fun _ _ _ h => h) (by rfl) ?_ HS ?_
          rotate_left
          · (intro u hu; (try dsimp only at hu); go_simp; try with_reducible rfl)
          simp only [Act.put, List.setIfInBounds_toArray, List.set_cons_zero, List.set_cons_succ]
          refine handTake 12 (some 35) ?_ rfl rfl (by kernel_rfl) (by kernel_rfl) (by kernel_rfl) (fun _ _ _ h => h) (by rfl) ?_ HS ?_
          rotate_left
          · (intro u hu; (try dsimp only at hu); go_simp; try with_reducible rfl)
          simp only [Act.put, List.setIfInBounds_toArray, List.set_cons_zero, List.set_cons_succ]
          refine handTake 13 (some 36) ?_ rfl rfl (by kernel_rfl) (by kernel_rfl) (by kernel_rfl) (fun _ _ _ h => h) (by rfl) ?_ HS ?_
          rotate_left
          · (intro u hu; (try dsimp only at hu); go_simp; try with_reducible rfl)
          simp only [Act.put, List.setIfInBounds_toArray, List.set_cons_zero, List.set_cons_succ]
          refine handTake 14 (some 37) ?_ rfl rfl (by kernel_rfl) (by kernel_rfl) (by kernel_rfl) (fun _ _ _ h => h) (by rfl) ?_ HS ?_
          rotate_left
          · (intro u hu; (try dsimp only at hu); go_simp; try with_reducible rfl)
          simp only [Act.put, List.setIfInBounds_toArray, List.set_cons_zero, List.set_cons_succ]
          refine handTake 15 (some 38) ?_ rfl rfl (by kernel_rfl) (by kernel_rfl) (by kernel_rfl) (fun _ _ _ h => h) (by rfl) ?_ HS ?_
          rotate_left
          · (intro u hu; (try dsimp only at hu); go_simp; try with_reducible rfl)
          simp only [Act.put, List.setIfInBounds_toArray, List.set_cons_zero, List.set_cons_succ]
          refine wpAnyH_ready (rs := [16]) (by kernel_rfl) (by simp) ?_
          refine AllReadyH.cons rfl (fun K hK => ?_) AllReadyH.nil
          go_simp
          clear HS
          refine (RL.out _).mono ?_
          rintro e u2 ⟨rfl, hb⟩
          have HS2 := Lib.hid (HSS.out.drew.call hb)
          clear hb
          go_wp2_with fail
          refine hK.out _ _ (SOF.out _ HS2.out) (fun HS => ?_)
          clear hK
          try simp only [Act.put, List.setIfInBounds_toArray, List.set_cons_zero, List.set_cons_succ]
          refine handTake 17 (some 40) ?_ rfl rfl (by kernel_rfl) (by kernel_rfl) (by kernel_rfl) (fun _ _ _ h => h) (by rfl) ?_ HS ?_
          rotate_left
          · (intro u hu; (try dsimp only at hu); go_simp; try with_reducible rfl)
          simp only [Act.put, List.setIfInBounds_toArray, List.set_cons_zero, List.set_cons_succ]
          refine wpAnyH_done (by kernel_rfl) ?_ _
          clear HS
          have zz := HCE.out i (by omega) _ HS2.out
          have p0 := (zz.2 0 _ rfl).1; have p1 := (zz.2 1 _ rfl).1; have p2 := (zz.2 2 _ rfl).1; have p3 := (zz.2 3 _ rfl).1; have f3 := (zz.2 3 _ rfl).2
          have hxx := HX.out _ HS2.out
          have x0 := hxx 0 _ rfl; have x1 := hxx 1 _ rfl; have x2 := hxx 2 _ rfl; have x3 := hxx 3 _ rfl; have x4 := hxx 4 _ rfl; have x5 := hxx 5 _ rfl
          obtain ⟨x0c, x0f⟩ := x0; obtain ⟨x1c, x1f⟩ := x1; obtain ⟨x2c, x2f⟩ := x2; obtain ⟨x3c, x3f⟩ := x3; obtain ⟨x4c, x4f⟩ := x4; obtain ⟨x5c, x5f⟩ := x5
          simp only [Nat.add_zero] at p0 x0c x0f
          dsimp only at p2 p3
          have hb256 := (HSP.out i (by omega)).2.1
          have HAD := Lib.hid (add_any (accN ⟨⟨br, bp⟩, qq, by0⟩ so s.ps i).2 hb256 (i : Int))
          have HST : Hid (Sep w0 (sI w0.heap.size g pv ⟨N, (accS s ⟨⟨br, bp⟩, qq, by0⟩ k so i).ps.set i ⟨⟨br, bp⟩, ⟨br, bp⟩, 2, qq⟩, (accS s ⟨⟨br, bp⟩, qq, by0⟩ k so i).qs, ch, s.cb⟩ ++ l) (u2.setCells g (1 + i * 6) [.int .i64 br, .int .i64 bp, .int .i64 br, .int .i64 bp, .int .u8 2, .int .i64 qq]).drew) := by
            have h := (sl_place HS2.out (HLP.out i (by omega)) hi7 ⟨⟨br, bp⟩, ⟨br, bp⟩, 2, qq⟩).drew
            rw [(HAN.out i).1, (HAN.out i).2.1, (HAN.out i).2.2] at h
            exact h
          clear zz hxx
          go_wp2_with fail
          refine wp_region_still_tail 18 (by kernel_rfl) (by kernel_rfl) ?_
          simp only [List.take_succ_cons, List.take_zero, List.drop_succ_cons, List.drop_zero]
          refine wpStill_step (fun K hK => ?_)
          go_simp
          refine hK _ ?_
          clear hK K
          refine wpStill_step (fun K hK => ?_)
          go_simp
          refine hK _ ?_
          clear hK K
          refine wpStill_step (fun K hK => ?_)
          go_simp
          refine hK _ ?_
          clear hK K
          refine wpStill_step (fun K hK => ?_)
          go_simp
          refine hK _ ?_
          clear hK K
          refine wpStill_step (fun K hK => ?_)
          go_simp
          refine hK _ ?_
          clear hK K
          refine wpStill_step (fun K hK => ?_)
          go_simp
          refine hK _ ?_
          clear hK K
          refine wpStill_step (fun K hK => ?_)
          go_simp
          refine hK _ ?_
          clear hK K
          refine wpStill_step (fun K hK => ?_)
          go_simp
          refine hK _ ?_
          clear hK K
          refine wpStill_step (fun K hK => ?_)
          go_simp
          refine hK _ ?_
          clear hK K
          refine wpStill_step (fun K hK => ?_)
          go_simp
          refine hK _ ?_
          clear hK K
          refine wpStill_step (fun K hK => ?_)
          go_simp
          refine hK _ ?_
          clear hK K
          refine wpStill_step (fun K hK => ?_)
          go_simp
          refine hK _ ?_
          clear hK K
          refine wpStill_step (fun K hK => ?_)
          go_simp
          refine hK _ ?_
          clear hK K
          refine wpStill_step (fun K hK => ?_)
          go_simp
          refine hK _ ?_
          clear hK K
          refine wpStill_step (fun K hK => ?_)
          go_simp
          refine hK _ ?_
          clear hK K
          refine wpStill_step (fun K hK => ?_)
          go_simp
          refine hK _ ?_
          clear hK K
          refine wpStill_step (fun K hK => ?_)
          go_simp
          refine hK _ ?_
          clear hK K
          refine wpStill_step (fun K hK => ?_)
          go_simp
          refine hK _ ?_
          clear hK K
          refine wpStill_nil ?_
          go_wp2_with fail
          rw [← sc6]
          obtain ⟨V, hV⟩ : ∃ V : World, V = (u2.setCells g (1 + i * 6) [.int .i64 br, .int .i64 bp, .int .i64 br, .int .i64 bp, .int .u8 2, .int .i64 qq]).drew := ⟨_, rfl⟩
          rw [← hV]
          rw [← hV] at HST
          obtain ⟨hkk, hqk⟩ := HQK.out i
          have v3 := sl_prop HST.out (s := ⟨N, (accS s ⟨⟨br, bp⟩, qq, by0⟩ k so i).ps.set i ⟨⟨br, bp⟩, ⟨br, bp⟩, 2, qq⟩, (accS s ⟨⟨br, bp⟩, qq, by0⟩ k so i).qs, ch, s.cb⟩) (HPV.out i) hkk 3
          rw [hqk] at v3
          obtain ⟨v3c, v3f⟩ := v3 _ rfl
          dsimp only at v3c
          have HBY : Hid (∀ v, Sep w0 (sI w0.heap.size g pv ⟨N, (accS s ⟨⟨br, bp⟩, qq, by0⟩ k so i).ps.set i ⟨⟨br, bp⟩, ⟨br, bp⟩, 2, qq⟩, (accS s ⟨⟨br, bp⟩, qq, by0⟩ k so i).qs.set k ⟨⟨br, bp⟩, qq, v⟩, ch, s.cb⟩ ++ l) (V.setCell ⟨gb, k * 4 + 3, none⟩ (.int .u8 (v : Nat)))) := fun v => by
            have h := sl_by HST.out (s := ⟨N, (accS s ⟨⟨br, bp⟩, qq, by0⟩ k so i).ps.set i ⟨⟨br, bp⟩, ⟨br, bp⟩, 2, qq⟩, (accS s ⟨⟨br, bp⟩, qq, by0⟩ k so i).qs, ch, s.cb⟩) (HPV.out i) hkk v
            rw [hqk] at h
            exact h
          clear hV v3 p0 p1 p2 p3 f3 x0c x0f x1c x1f x2c x2f x3c x3f x4c x4f x5c x5f
          refine (HAD.out _).mono ?_
          rintro e u3 ⟨rfl, rfl⟩
          go_wp2_with fail
          go_roundw
          case rel =>
            refine ⟨i + 1, by omega, by go_num, ?_⟩
            rw [HYES.out HTN.out, HNN.out, HCH.out]
            exact HBY.out _
          case measure => show N - ((i : Int) + 1).toNat < N - (i : Int).toNat; omega
        · rw [hls] at RL
          have RL := Lib.hid RL
          have HTN : Hid (takes ⟨⟨br, bp⟩, qq, by0⟩ so ⟨⟨xr, xp⟩, ⟨yr, yp⟩, xst, xsq⟩ i = false) := by show takes _ _ _ _ = false; unfold takes; rw [hhas]; dsimp only; rw [hls]; rfl
          clear hhas hls HS
          go_wp2_with fail
          refine wp_region_held_drew (S := (fun u : World => u.cell? ⟨gb, k * 4, none⟩ = some (.int .i64 br) ∧ u.cell? ⟨gb, k * 4 + 1, none⟩ = some (.int .i64 bp) ∧ u.cell? ⟨g, 1 + i * 6, none⟩ = some (.int .i64 xr) ∧ u.cell? ⟨g, 1 + i * 6 + 1, none⟩ = some (.int .i64 xp))) (by kernel_rfl) (SOF.out _ HSS.out.drew) (fun HS => ?_)
          refine handTake 0 (some 23) ?_ rfl rfl (by kernel_rfl) (by kernel_rfl) (by kernel_rfl) (fun _ _ _ h => h) (by rfl) ?_ HS ?_
          rotate_left
          · (intro u hu; (try dsimp only at hu); go_simp; try with_reducible rfl)
          simp only [Act.put, List.setIfInBounds_toArray, List.set_cons_zero, List.set_cons_succ]
          refine handTake 1 (some 24) ?_ rfl rfl (by kernel_rfl) (by kernel_rfl) (by kernel_rfl) (fun _ _ _ h => h) (by rfl) ?_ HS ?_
          rotate_left
          · (intro u hu; (try dsimp only at hu); go_simp; try with_reducible rfl)
          simp only [Act.put, List.setIfInBounds_toArray, List.set_cons_zero, List.set_cons_succ]
          refine wpAnyH_ready (rs := [2]) (by kernel_rfl) (by simp) ?_
          refine AllReadyH.cons rfl (fun K hK => ?_) AllReadyH.nil
          go_simp
          clear HS
          refine (HHA.out _).mono ?_
          rintro e u1 ⟨rfl, rfl⟩
          go_wp2_with fail
          refine hK.out _ _ (SOF.out _ HSS.out.drew) (fun HS => ?_)
          clear hK
          try simp only [Act.put, List.setIfInBounds_toArray, List.set_cons_zero, List.set_cons_succ]
          refine handTake 3 (some 26) ?_ rfl rfl (by kernel_rfl) (by kernel_rfl) (by kernel_rfl) (fun _ _ _ h => h) (by rfl) ?_ HS ?_
          rotate_left
          · (intro u hu; (try dsimp only at hu); go_simp; try with_reducible rfl)
          simp only [Act.put, List.setIfInBounds_toArray, List.set_cons_zero, List.set_cons_succ]
          refine handTake 4 (some 27) ?_ rfl rfl (by kernel_rfl) (by kernel_rfl) (by kernel_rfl) (fun _ _ _ h => h) (by rfl) ?_ HS ?_
          rotate_left
          · (intro u hu; (try dsimp only at hu); go_simp; try with_reducible rfl)
          simp only [Act.put, List.setIfInBounds_toArray, List.set_cons_zero, List.set_cons_succ]
          refine handTake 5 (some 28) ?_ rfl rfl (by kernel_rfl) (by kernel_rfl) (by kernel_rfl) (fun _ _ _ h => h) (by rfl) ?_ HS ?_
          rotate_left
          · (intro u hu; (try dsimp only at hu); go_simp; try with_reducible rfl)
          simp only [Act.put, List.setIfInBounds_toArray, List.set_cons_zero, List.set_cons_succ]
          refine handTake 6 (some 29) ?_ rfl rfl (by kernel_rfl) (by kernel_rfl) (by kernel_rfl) (fun _ _ _ h => h) (by rfl) ?_ HS ?_
          rotate_left
          · (intro u hu; (try dsimp only at hu); go_simp; try with_reducible rfl)
          simp only [Act.put, List.setIfInBounds_toArray, List.set_cons_zero, List.set_cons_succ]
          refine handTake 7 (some 30) ?_ rfl rfl (by kernel_rfl) (by kernel_rfl) (by kernel_rfl) (fun _ _ _ h => h) (by rfl) ?_ HS ?_
          rotate_left
          · (intro u hu; (try dsimp only at hu); go_simp; try with_reducible rfl)
          simp only [Act.put, List.setIfInBounds_toArray, List.set_cons_zero, List.set_cons_succ]
          refine handTake 8 (some 31) ?_ rfl rfl (by kernel_rfl) (by kernel_rfl) (by kernel_rfl) (fun _ _ _ h => h) (by rfl) ?_ HS ?_
          rotate_left
          · (intro u hu; (try dsimp only at hu); go_simp; try with_reducible rfl)
          simp only [Act.put, List.setIfInBounds_toArray, List.set_cons_zero, List.set_cons_succ]
          refine handTake 9 (some 32) ?_ rfl rfl (by kernel_rfl) (by kernel_rfl) (by kernel_rfl) (fun _ _ _ h => h) (by rfl) ?_ HS ?_
          rotate_left
          · (intro u hu; (try dsimp only at hu); go_simp; try with_reducible rfl)
          simp only [Act.put, List.setIfInBounds_toArray, List.set_cons_zero, List.set_cons_succ]
          refine handTake 10 (some 33) ?_ rfl rfl (by kernel_rfl) (by kernel_rfl) (by kernel_rfl) (fun _ _ _ h => h) (by rfl) ?_ HS ?_
          rotate_left
          · (intro u hu; (try dsimp only at hu); go_simp; try with_reducible rfl)
          simp only [Act.put, List.setIfInBounds_toArray, List.set_cons_zero, List.set_cons_succ]
          refine handTake 11 (some 34) ?_ rfl rfl (by kernel_rfl) (by kernel_rfl) (by kernel_rfl) (fun _ _ _ h => h) (by rfl) ?_ HS ?_
          rotate_left
          · (intro u hu; (try dsimp only at hu); go_simp; try with_reducible rfl)
          simp only [Act.put, List.setIfInBounds_toArray, List.set_cons_zero, List.set_cons_succ]
          refine handTake 12 (some 35) ?_ rfl rfl (by kernel_rfl) (by kernel_rfl) (by kernel_rfl) (fun _ _ _ h => h) (by rfl) ?_ HS ?_
          rotate_left
          · (intro u hu; (try dsimp only at hu); go_simp; try with_reducible rfl)
          simp only [Act.put, List.setIfInBounds_toArray, List.set_cons_zero, List.set_cons_succ]
          refine handTake 13 (some 36) ?_ rfl rfl (by kernel_rfl) (by kernel_rfl) (by kernel_rfl) (fun _ _ _ h => h) (by rfl) ?_ HS ?_
          rotate_left
          · (intro u hu; (try dsimp only at hu); go_simp; try with_reducible rfl)
          simp only [Act.put, List.setIfInBounds_toArray, List.set_cons_zero, List.set_cons_succ]
          refine handTake 14 (some 37) ?_ rfl rfl (by kernel_rfl) (by kernel_rfl) (by kernel_rfl) (fun _ _ _ h => h) (by rfl) ?_ HS ?_
          rotate_left
          · (intro u hu; (try dsimp only at hu); go_simp; try with_reducible rfl)
          simp only [Act.put, List.setIfInBounds_toArray, List.set_cons_zero, List.set_cons_succ]
          refine handTake 15 (some 38) ?_ rfl rfl (by kernel_rfl) (by kernel_rfl) (by kernel_rfl) (fun _ _ _ h => h) (by rfl) ?_ HS ?_
          rotate_left
          · (intro u hu; (try dsimp only at hu); go_simp; try with_reducible rfl)
          simp only [Act.put, List.setIfInBounds_toArray, List.set_cons_zero, List.set_cons_succ]
          refine wpAnyH_ready (rs := [16]) (by kernel_rfl) (by simp) ?_
          refine AllReadyH.cons rfl (fun K hK => ?_) AllReadyH.nil
          go_simp
          clear HS
          refine (RL.out _).mono ?_
          rintro e u2 ⟨rfl, hb⟩
          have HS2 := Lib.hid (HSS.out.drew.call hb)
          clear hb
          go_wp2_with fail
          refine hK.out _ _ (SOF.out _ HS2.out) (fun HS => ?_)
          clear hK
          try simp only [Act.put, List.setIfInBounds_toArray, List.set_cons_zero, List.set_cons_succ]
          refine handTake 17 (some 40) ?_ rfl rfl (by kernel_rfl) (by kernel_rfl) (by kernel_rfl) (fun _ _ _ h => h) (by rfl) ?_ HS ?_
          rotate_left
          · (intro u hu; (try dsimp only at hu); go_simp; try with_reducible rfl)
          simp only [Act.put, List.setIfInBounds_toArray, List.set_cons_zero, List.set_cons_succ]
          refine wpAnyH_done (by kernel_rfl) ?_ _
          clear HS
          go_wp2_with fail
          go_roundw
          case rel => exact ⟨i + 1, by omega, by go_num, by rw [HNO.out HTN.out]; exact HS2.out⟩
          case measure => show N - ((i : Int) + 1).toNat < N - (i : Int).toNat; omega
    · have e : i = N := by omega
      subst e
      have p0 := (zp 0 _ rfl).1; have p1 := (zp 1 _ rfl).1; have p2 := (zp 2 _ rfl).1; have p3 := (zp 3 _ rfl).1
      have c44 := z.ch
      rw [(HAN.out i).2.1] at c44
      have f44 := z.free 44; have f45 := z.free 45; have f46 := z.free 46; have c45 := z.cr; have c46 := z.cp
      simp only [Nat.add_zero] at p0
      dsimp only at p0 p1 p2 p3
      have hb256 := (HSP.out i (by omega)).2.1
      have HEN := enough_any (accN ⟨⟨br, bp⟩, qq, by0⟩ so s.ps i).2 hb256 (i : Int)
      clear zp z
      cases hen : enoughB (accN ⟨⟨br, bp⟩, qq, by0⟩ so s.ps i).2 (i : Int)
      · rw [hen] at HEN HAE
        rw [if_neg (by simp)] at HAE
        have HEN := Lib.hid HEN
        clear hen
        go_wp2_with fail
        go_quiet (exact (HEN.out _).mono (fun e w' h => ⟨h.1, _, h.2.symm⟩))
        go_wp2_with fail
        go_ret
        rw [HAE.out]
        exact ⟨rfl, HS.out.drewN _⟩
      · rw [hen] at HEN HAE
        rw [if_pos rfl] at HAE
        have HEN := Lib.hid HEN
        clear hen
        by_cases hz : ch = 0
        · rw [if_pos hz] at HAE
          have hz1 : (ch == 0) = true := by simpa using hz
          have hz2 : (ch != 0) = false := by simpa using hz
          go_wp2_with fail
          go_quiet (exact (HEN.out _).mono (fun e w' h => ⟨h.1, _, h.2.symm⟩))
          go_wp2_with fail
          go_ret
          rw [HAE.out]
          refine ⟨rfl, ?_⟩
          have h1 := sl_ch (HS.out.drewN nq) (HLP.out i (by omega)) qq
          have h2 := sl_cb h1 (HLP.out i (by omega)) ⟨br, bp⟩
          rw [(HAN.out i).1] at h2
          exact h2
        · rw [if_neg hz] at HAE
          have hz1 : (ch == 0) = false := by simpa using hz
          have hz2 : (ch != 0) = true := by simpa using hz
          clear hz
          go_wp2_with fail
          go_quiet (exact (HEN.out _).mono (fun e w' h => ⟨h.1, _, h.2.symm⟩))
          go_wp2_with fail
          go_quiet (fail)
          go_wp2_with fail
          go_ret
          rw [HAE.out]
          exact ⟨rfl, (HS.out.drewN _).drewN _⟩
end Ch
end Go.Proofs.Ytpgejomhcojppaa
