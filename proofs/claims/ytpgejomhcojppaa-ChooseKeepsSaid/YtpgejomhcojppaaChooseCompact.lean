/- slices.Compact of ballots. -/
import Derived.Test.YtpgejomhcojppaaChooseSort
set_option linter.unusedSimpArgs false
set_option linter.unusedVariables false
namespace Go.Proofs.Ytpgejomhcojppaa
open Go.RowKit
namespace Ch
open Bl
attribute [local go_sem ↓] Bl.eql_ba Bl.neq_ba
/-- The first J ballots, of ballots that are the same side by side one. -/
def ddN (l : List Ba) : Nat → List Ba
  | 0 => []
  | j + 1 => if h : j < l.length then (if j ≠ 0 ∧ sameB l[j] l[j - 1] = true then ddN l j else ddN l j ++ [l[j]]) else ddN l j
theorem ddN_zero (l : List Ba) : ddN l 0 = [] := rfl
theorem ddN_one (l : List Ba) (h : 0 < l.length) : ddN l 1 = [l[0]] := by rw [ddN, dif_pos h, if_neg (by simp), ddN]; rfl
theorem ddN_same (l : List Ba) (q : Nat) (h : q + 1 < l.length) (hs : sameB l[q + 1] l[q] = true) : ddN l (q + 1 + 1) = ddN l (q + 1) := by
  rw [ddN, dif_pos h, if_pos ⟨by omega, hs⟩]
theorem ddN_other (l : List Ba) (q : Nat) (h : q + 1 < l.length) (hs : sameB l[q + 1] l[q] = false) : ddN l (q + 1 + 1) = ddN l (q + 1) ++ [l[q + 1]] := by
  rw [ddN, dif_pos h, if_neg (by simp only [Nat.add_sub_cancel, hs]; simp)]
theorem ddN_le (l : List Ba) : ∀ j, (ddN l j).length ≤ j
  | 0 => Nat.le_refl _
  | j + 1 => by
    have := ddN_le l j
    rw [ddN]
    split
    · split
      · omega
      · simp; omega
    · omega
/-- The row in the second loop. -/
structure DC (l : List Ba) (J : Nat) (X : List Ba) : Prop where
  le : J ≤ l.length
  len : X.length = l.length
  front : X.take (ddN l J).length = ddN l J
  back : X.drop (ddN l J).length = l.drop (ddN l J).length
  lt : (ddN l J).length < J
theorem DC.at_ {l : List Ba} {J : Nat} {X : List Ba} (h : DC l J X) {i : Nat} (hi : (ddN l J).length ≤ i) (hl : i < l.length) : ∃ hX : i < X.length, X[i] = l[i] := by
  have hx : i < X.length := by rw [h.len]; exact hl
  refine ⟨hx, ?_⟩
  have := congrArg (·[i - (ddN l J).length]?) h.back
  simp only [List.getElem?_drop] at this
  rw [show (ddN l J).length + (i - (ddN l J).length) = i by omega] at this
  simp only [List.getElem?_eq_getElem hx, List.getElem?_eq_getElem hl] at this
  exact Option.some.inj this
theorem DC.start {l : List Ba} {q : Nat} (hq : q + 1 < l.length) (h0 : ddN l (q + 1) = l.take (q + 1)) (h1 : sameB l[q + 1] l[q] = true) : DC l (q + 1 + 1) l ∧ (ddN l (q + 1 + 1)).length = q + 1 := by
  have e : ddN l (q + 1 + 1) = l.take (q + 1) := by rw [ddN_same l q hq h1, h0]
  have e2 : (l.take (q + 1)).length = q + 1 := by rw [List.length_take]; omega
  exact ⟨⟨hq, rfl, by rw [e, e2], rfl, by rw [e, e2]; omega⟩, by rw [e, e2]⟩
theorem DC.gone {l : List Ba} {q : Nat} {X : List Ba} (h : DC l (q + 1) X) (hq : q + 1 < l.length) (h1 : sameB l[q + 1] l[q] = true) : DC l (q + 1 + 1) X ∧ ddN l (q + 1 + 1) = ddN l (q + 1) := by
  have e := ddN_same l q hq h1
  exact ⟨⟨hq, h.len, by rw [e]; exact h.front, by rw [e]; exact h.back, by rw [e]; exact Nat.lt_succ_of_lt h.lt⟩, e⟩
theorem DC.stays {l : List Ba} {q : Nat} {X : List Ba} (h : DC l (q + 1) X) (hq : q + 1 < l.length) (h1 : sameB l[q + 1] l[q] = false) : DC l (q + 1 + 1) (X.set (ddN l (q + 1)).length l[q + 1]) ∧ (ddN l (q + 1 + 1)).length = (ddN l (q + 1)).length + 1 := by
  have e := ddN_other l q hq h1
  have hl := h.lt
  have hlen := h.len
  refine ⟨⟨hq, by rw [List.length_set, h.len], ?_, ?_, by rw [e, List.length_append, List.length_singleton]; omega⟩, by rw [e, List.length_append, List.length_singleton]⟩
  · rw [e, List.length_append, List.length_singleton]
    rw [List.take_succ_eq_append_getElem (by rw [List.length_set]; omega), List.getElem_set_self, List.take_set_of_le (Nat.le_refl _), h.front]
  · rw [e, List.length_append, List.length_singleton, List.drop_set_of_lt (by omega), ← List.drop_drop, ← List.drop_drop, h.back]
theorem below_foot {B : Nat} {a b : World} (h : Below B a b) : Foot (fun j => B ≤ j) a b := ⟨h.os, h.tape, h.output, h.size, fun i _ hn => h.block i (by omega)⟩
theorem sc2 (w : World) (b o : Nat) (x0 x1 : Value) : w.setCells b o [x0, x1] = (w.setCell ⟨b, o, none⟩ x0).setCell ⟨b, o + 1, none⟩ x1 := rfl
set_option maxRecDepth 100000 in
set_option maxHeartbeats 4000000 in
theorem compact_is (base : Nat) (l : List Ba) (v : Value) (w : World) (hown : w.ownsRow base 27 2 v l.length (l.flatMap baC)) (hbase : base ≤ w.heap.size) (hL : l.length ≤ 500) :
    Calls Try.prog 41 #[v] w fun e w' => ∃ v', e = .returned v' ∧ w'.ownsRow base 27 2 v' (ddN l l.length).length ((ddN l l.length).flatMap baC) ∧ Below base w w' := by
  have hr := Row.of_own hown
  obtain ⟨A, cp, rfl, hcn, hcm⟩ := hr.slice
  have HO := Lib.hid hown
  by_cases h2 : l.length < 2
  · have hE : ddN l l.length = l := by
      match l, h2 with
      | [], _ => rfl
      | [a], _ => rfl
    have HE := Lib.hid hE
    clear hr hown hE
    have h2' : (l.length : Int) < 2 := by omega
    generalize hN : l.length = N at *
    go_enter Try.func41, Try.ntmps41
    go_wp2_with fail
    go_ret
    exact ⟨_, rfl, by rw [HE.out, hN]; exact HO.out, Below.refl _ _⟩
  · have hA : ∃ rb, A = some ⟨rb, 0, none⟩ ∧ base ≤ rb := by
      rcases hown.2 with ⟨h', _⟩ | ⟨g', cap', cur, h', hg', _⟩
      · simp only [Value.slice.injEq] at h'; omega
      · simp only [Value.slice.injEq] at h'; exact ⟨g', h'.1, hg'⟩
    obtain ⟨rb, rfl, hrb⟩ := hA
    clear hr hown
    have h2' : ¬ (l.length : Int) < 2 := by omega
    obtain ⟨N, hN⟩ : ∃ N, l.length = N := ⟨_, rfl⟩
    have HN := Lib.hid hN
    rw [hN] at HO h2 h2' hL hcn ⊢
    clear hN
    go_enter Try.func41, Try.ntmps41
    go_wp2_with fail
    go_loopw [3] (fun iv wr => ∃ q : Nat, q + 1 ≤ N ∧ iv = .int .i64 ((q + 1 : Nat) : Int) ∧ ddN l (q + 1) = l.take (q + 1) ∧ wr.ownsRow base 27 2 (.slice (some ⟨rb, 0, none⟩) N cp) N (l.flatMap baC) ∧ Below base w wr) (fun iv _ => N - (intOf iv).toNat)
    case atStart =>
      refine ⟨0, by omega, rfl, ?_, HO.out, Below.refl _ _⟩
      have : 0 < l.length := by rw [HN.out]; omega
      rw [ddN_one l this]
      match l, this with
      | a :: r, _ => rfl
    case round =>
      obtain ⟨q, hq, rfl, hdd, hown, hx⟩ := hrel
      have HO1 := Lib.hid hown
      have HD1 := Lib.hid hdd
      have HX := Lib.hid hx
      have zs := hx.size
      clear hown hdd HO hx
      obtain ⟨k, hk⟩ : ∃ k, q + 1 = k := ⟨_, rfl⟩
      have hkq : (k : Int) - 1 = (q : Int) := by omega
      have hk0 : (0 : Int) ≤ (k : Int) := by omega
      have hq0 : (0 : Int) ≤ (q : Int) := by omega
      by_cases hlt : k < N
      · have hk1 : (k : Int) < (N : Int) := by omega
        have hq1 : (q : Int) < (N : Int) := by omega
        have hkl : k < l.length := by rw [HN.out]; exact hlt
        have hql : q < l.length := by rw [HN.out]; omega
        have hrow : Row wr wr.heap.size (.slice (some ⟨rb, 0, none⟩) l.length cp) l.length (l.flatMap baC) := by rw [HN.out]; exact Row.of_own HO1.out
        have hcell : ∀ i (hi : i < l.length), wr.cell? ⟨rb, i * 2, none⟩ = some (.int .i64 l[i].r) ∧ wr.cell? ⟨rb, i * 2 + 1, none⟩ = some (.int .i64 l[i].p) := by
          intro i hi
          obtain ⟨b2, o2, hA2, hb2, hx2⟩ := hrow.elem baC_len (by omega) hi
          obtain ⟨rfl, rfl⟩ : rb = b2 ∧ 0 = o2 := by injection hA2 with hA2; injection hA2 with e1 e2; exact ⟨e1, e2⟩
          have a0 := hx2 0 _ rfl
          have a1 := hx2 1 _ rfl
          simp only [Nat.zero_add, Nat.add_zero] at a0 a1
          exact ⟨a0, a1⟩
        obtain ⟨y0, y1⟩ := hcell k hkl
        obtain ⟨x0, x1⟩ := hcell q hql
        have HSA : Hid (sameB l[k] l[q] = true → DC l (k + 1) l ∧ (ddN l (k + 1)).length = k) := by
          subst hk; exact fun h => DC.start hkl HD1.out h
        have HOT : Hid (sameB l[k] l[q] = false → ddN l (k + 1) = l.take (k + 1)) := by
          subst hk
          intro h
          rw [ddN_other l q hkl h, HD1.out, ← List.take_succ_eq_append_getElem hkl]
        generalize l[k] = y at *
        generalize l[q] = x at *
        obtain ⟨yr, yp⟩ := y
        obtain ⟨xr, xp⟩ := x
        dsimp only at y0 y1 x0 x1
        clear hcell hrow
        rw [hk]
        cases hs : sameB ⟨yr, yp⟩ ⟨xr, xp⟩
        · have HT := Lib.hid (HOT.out hs)
          clear HOT HSA
          go_wp2_with fail
          go_quiet (fail)
          go_wp2_with fail
          go_round
          · exact ⟨k, by omega, by go_num, HT.out, own_below HO1.out (below_drewN' (Below.refl _ _) _), HX.out.trans (below_drewN' (Below.refl _ _) _)⟩
          · show N - ((k : Int) + 1).toNat < N - (k : Int).toNat; omega
        · have HT := Lib.hid (HSA.out hs)
          clear HOT HSA
          go_wp2_with fail
          go_quiet (fail)
          go_wp2_with fail
          clear y0 y1 x0 x1 hq0 hkq hq1 hs
          generalize hnq : wr.drewN nq = wq
          have HO2 : Hid (wq.ownsRow base 27 2 (.slice (some ⟨rb, 0, none⟩) N cp) N (l.flatMap baC)) := by rw [← hnq]; exact own_below HO1.out (below_drewN' (Below.refl _ _) _)
          have HX2 : Hid (Foot (fun j => base ≤ j) w wq) := by rw [← hnq]; exact below_foot (HX.out.trans (below_drewN' (Below.refl _ _) _))
          clear hnq HO1 HX HD1
          go_loopw [3, 5] (fun kv jv wr => ∃ (K t : Nat) (X : List Ba), k + t + 1 ≤ N ∧ DC l (k + t + 1) X ∧ (ddN l (k + t + 1)).length = K ∧ kv = .int .i64 K ∧ jv = .int .i64 ((t + 1 : Nat) : Int) ∧ wr.ownsRow base 27 2 (.slice (some ⟨rb, 0, none⟩) N cp) N (X.flatMap baC) ∧ Foot (fun j => base ≤ j) w wr) (fun _ jv _ => N - (intOf jv).toNat)
          case atStart => exact ⟨k, 0, l, by omega, HT.out.1, HT.out.2, rfl, rfl, HO2.out, HX2.out⟩
          case round =>
            obtain ⟨K, t, X, hkt, hdc, hK, rfl, rfl, hown, hf⟩ := hrel
            clear HO2 HX2 HT
            obtain ⟨j, hj⟩ : ∃ j, t + 1 = j := ⟨_, rfl⟩
            rw [hj]
            have HDC := Lib.hid hdc; have HO3 := Lib.hid hown; have HF3 := Lib.hid hf; have HK := Lib.hid hK
            have hKJ : K < k + t + 1 := hK ▸ hdc.lt
            have zs := hf.size
            have hjt : (j : Int) - 1 = (t : Int) := by omega
            have hj0 : (0 : Int) ≤ (j : Int) := by omega
            have ht0 : (0 : Int) ≤ (t : Int) := by omega
            have hK0 : (0 : Int) ≤ (K : Int) := by omega
            have hK1 : (K : Int) < (N : Int) := by omega
            clear hdc hown hf hK
            by_cases hlt' : k + j < N
            · have hj1 : (j : Int) < ((N - k : Nat) : Int) := by omega
              have ht1 : (t : Int) < ((N - k : Nat) : Int) := by omega
              have hjl : k + j < l.length := by rw [HN.out]; exact hlt'
              have htl : k + t < l.length := by rw [HN.out]; omega
              have hrow : Row wr wr.heap.size (.slice (some ⟨rb, 0, none⟩) X.length cp) X.length (X.flatMap baC) := by rw [HDC.out.len, HN.out]; exact Row.of_own HO3.out
              have hcell : ∀ i (hi : i < l.length), K ≤ k + i → ∀ (hi : k + i < l.length), wr.cell? ⟨rb, k * 2 + i * 2, none⟩ = some (.int .i64 l[k + i].r) ∧ wr.cell? ⟨rb, k * 2 + i * 2 + 1, none⟩ = some (.int .i64 l[k + i].p) := by
                intro i _ hKi hi
                obtain ⟨hX, hXe⟩ := HDC.out.at_ (i := k + i) (by rw [HK.out]; exact hKi) hi
                obtain ⟨b2, o2, hA2, hb2, hx2⟩ := hrow.elem baC_len (by omega) hX
                obtain ⟨rfl, rfl⟩ : rb = b2 ∧ 0 = o2 := by injection hA2 with hA2; injection hA2 with e1 e2; exact ⟨e1, e2⟩
                rw [hXe] at hx2
                have a0 := hx2 0 _ rfl
                have a1 := hx2 1 _ rfl
                simp only [Nat.zero_add, Nat.add_zero, Nat.add_mul] at a0 a1
                exact ⟨a0, a1⟩
              obtain ⟨y0, y1⟩ := hcell j (by omega) (by omega) hjl
              obtain ⟨x0, x1⟩ := hcell t (by omega) (by omega) htl
              have HG : Hid (sameB l[k + j] l[k + t] = true → DC l (k + j + 1) X ∧ ddN l (k + j + 1) = ddN l (k + j)) := by
                subst hj; exact fun h => DC.gone (q := k + t) HDC.out hjl h
              have HST : Hid (sameB l[k + j] l[k + t] = false → DC l (k + j + 1) (X.set K l[k + j]) ∧ (ddN l (k + j + 1)).length = K + 1) := by
                subst hj; rw [← HK.out]; exact fun h => DC.stays (q := k + t) HDC.out hjl h
              have HKJ : Hid ((ddN l (k + j)).length = K) := by subst hj; exact HK.out
              generalize l[k + j] = y at *
              generalize l[k + t] = x at *
              obtain ⟨yr, yp⟩ := y
              obtain ⟨xr, xp⟩ := x
              dsimp only at y0 y1 x0 x1
              clear hcell hrow
              cases hs : sameB ⟨yr, yp⟩ ⟨xr, xp⟩
              · have HT := Lib.hid (HST.out hs)
                clear HG HST
                have hth := own_there HO3.out (K * 2) 2 (by omega)
                obtain ⟨e0, t0c⟩ := Option.isSome_iff_exists.1 (hth 0 (by omega)).1; have t0f := (hth 0 (by omega)).2
                obtain ⟨e1, t1c⟩ := Option.isSome_iff_exists.1 (hth 1 (by omega)).1; have t1f := (hth 1 (by omega)).2
                simp only [Nat.add_zero] at t0c t0f
                clear hth
                go_wp2_with fail
                go_quiet (fail)
                go_wp2_with fail
                rw [← sc2]
                refine ⟨⟨K + 1, j, X.set K ⟨yr, yp⟩, by omega, HT.out.1, HT.out.2, by go_num, by go_num, ?_, ?_⟩, by simp [intOf]; omega⟩
                · have h5 := own_mids (baC ⟨yr, yp⟩) (K * 2) (own_below HO3.out (below_drewN' (Below.refl _ _) nq))
                  rw [flat_mids baC_len X _ _ (by rw [HDC.out.len, HN.out]; omega)] at h5
                  exact h5
                · exact foot_mids hrb _ _ (foot_then_below HF3.out (below_drewN' (Below.refl _ _) nq))
              · have HT := Lib.hid (HG.out hs)
                clear HG HST
                go_wp2_with fail
                go_quiet (fail)
                go_wp2_with fail
                exact ⟨⟨K, j, X, by omega, HT.out.1, by rw [HT.out.2]; exact HKJ.out, rfl, by go_num, own_below HO3.out (below_drewN' (Below.refl _ _) nq), foot_then_below HF3.out (below_drewN' (Below.refl _ _) nq)⟩, by simp [intOf]; omega⟩
            · have e : k + j = N := by omega
              have hjn : j = N - k := by omega
              subst hjn
              have hcp : (N : Int) ≤ (cp : Int) := by omega
              have HZ : ∀ w, (zeroValue 27).run Try.prog w = .ok (.agg #[.int .i64 0, .int .i64 0]) w := fun w => by kernel_rfl
              obtain ⟨vs, hvl, hcl⟩ := run_clear_rows wr 63 27 0 _ 2 Try.underlying63 HZ rfl (by intro x hx; simp at hx; rcases hx with rfl | rfl <;> rfl) (by omega) rb (K * 2) (N - K) (cp - K) (by omega)
                (own_there HO3.out _ _ (by omega))
              go_wp2_with fail
              go_ret
              have h6 := own_mids vs (K * 2) HO3.out
              have h7 := own_cut h6 (m := K) (by omega)
              have hJ : k + t + 1 = l.length := by rw [HN.out]; omega
              have hfr := HDC.out.front
              rw [HK.out] at hfr
              have e2 : (midSets (X.flatMap baC) (K * 2) vs).take (K * 2) = (ddN l l.length).flatMap baC := by
                rw [midSets_take _ _ _ _ (Nat.le_refl _), flat_take baC_len, hfr, ← hJ]
              have e3 : (ddN l l.length).length = K := by rw [← hJ]; exact HK.out
              rw [e2] at h7
              rw [← HN.out]
              refine ⟨_, rfl, by rw [e3]; exact h7, ?_⟩
              exact (foot_mids (F := fun j => base ≤ j) hrb _ _ HF3.out).below (fun _ h => h) hbase
      · have e : k = N := by omega
        subst e
        rw [hk]
        go_wp2_with fail
        go_ret
        have hE : ddN l l.length = l := by
          have h := HD1.out
          rw [hk, ← HN.out, List.take_length] at h
          exact h
        refine ⟨_, rfl, ?_, HX.out⟩
        rw [HN.out] at hE
        rw [hE, HN.out]
        exact HO1.out
end Ch
end Go.Proofs.Ytpgejomhcojppaa
