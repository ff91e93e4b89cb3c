/- The document's disk: Crash. -/
import Derived.Test.YtnjejffbcgchlaaDiskRef5
set_option linter.unusedSimpArgs false
set_option linter.unusedVariables false
namespace Go.Proofs.Ytnjejffbcgchlaa
open Go.RowKit
namespace Di
set_option maxRecDepth 100000 in
set_option maxHeartbeats 4000000 in
theorem rcrash_is (m : Md) (d : Dk) (hr : Rel m d) (ho : Ok d) (hfew : d.waits.length ≤ 1000000000) (keep : List Bool) (kv : Value) (g : Nat) (sv mv lv wv : Value) {w0 : World} {l : List It} (w : World) (hS : Sep w0 (mI w0.heap.size g sv mv lv wv m ++ l) w) (hK : Stays w0 l kv keep.length (bools keep)) :
    Calls Try.prog 43 #[.pointer (some ⟨g, 0, none⟩), kv] w fun e w' => e = .returned (.int .i64 (crashE d)) ∧ ∃ wv' m', Rel m' (crashD d keep) ∧ Sep w0 (mI w0.heap.size g sv mv lv wv' m' ++ l) w' := by
  obtain ⟨ka, kc, rfl, hz1, hz2⟩ := (hK.now hS).slice
  have hkb := (hK.now hS).bound
  clear hz1 hz2
  have HS := Lib.hid hS
  have HR := Lib.hid hr
  have HO := Lib.hid ho
  have HK := Lib.hid hK
  have hW := mI_box hS
  have c4 := hW.cell 4
  simp only [mdC, List.getElem?_cons_zero, List.getElem?_cons_succ] at c4
  rw [hr.down] at c4
  cases hd : d.down
  rotate_left
  · have hE : crashE d = 5 := by unfold crashE; rw [hd]; rfl
    have hD : Hid (crashD d keep = d) := by show crashD d keep = d; unfold crashD; rw [hd]; rfl
    rw [hE]
    rw [hd] at c4
    clear hE hd hS hr hW ho hK hfew
    generalize keep.length = KL at *
    go_enter Try.func43, Try.ntmps43
    go_wp2_with fail
    go_ret
    exact ⟨rfl, wv, m, by rw [hD.out]; exact HR.out, HS.out⟩
  · have hE : crashE d = 0 := by unfold crashE; rw [hd]; rfl
    have hD : Hid (crashD d keep = { d with places := thr (kept keep) 0 d.waits d.places, waits := [], down := true }) := by
      show crashD d keep = _
      unfold crashD through
      rw [hd]
      rfl
    rw [hE]
    rw [hd] at c4
    obtain ⟨M, hMl⟩ : ∃ M, d.waits.length = M := ⟨_, rfl⟩
    have HLW := Lib.hid (hr.lw.trans hMl)
    have HM := Lib.hid hMl
    have HWW := Lib.hid (fun (k : Nat) (h1 : k < m.waits.length) (h2 : k < d.waits.length) => hr.wait h1 h2)
    rw [hMl] at hfew
    obtain ⟨KL, hKL⟩ : ∃ KL, keep.length = KL := ⟨_, rfl⟩
    have HKL := Lib.hid hKL
    rw [hKL] at HK hkb ⊢
    clear hE hd hS hr hW ho hMl hK hKL
    go_enter Try.func43, Try.ntmps43
    go_wp2_with fail
    clear c4
    go_loopw [5] (fun i wr => ∃ (k : Nat) (m' : Md), k ≤ M ∧ k ≤ KL ∧ i = .int .i64 k ∧ m'.waits = m.waits ∧ Rel m' { d with places := thr (kept keep) 0 (d.waits.take k) d.places } ∧ Sep w0 (mI w0.heap.size g sv mv lv wv m' ++ l) wr) (fun i _ => M - (intOf i).toNat)
    case atStart =>
      refine ⟨0, m, Nat.zero_le _, Nat.zero_le _, rfl, rfl, ?_, HS.out⟩
      rw [List.take_zero]
      exact HR.out
    case round =>
      obtain ⟨k, m', hk', hkl', rfl, hmw, hrel', hs⟩ := hrel
      have HMW := Lib.hid hmw
      have HRL := Lib.hid hrel'
      have HS3 := Lib.hid hs
      have hW := mI_box hs
      have c3 := hW.cell 3; have f3 := hW.free 3
      simp only [mdC, List.getElem?_cons_zero, List.getElem?_cons_succ] at c3
      have hbw := mI_waits hs
      obtain ⟨wa, wc, hwv, _, _⟩ := (Row.of_own hbw).slice
      have hml : m'.waits.length = M := by rw [hmw]; exact HLW.out
      rw [hml] at hwv
      have hk0 : (0 : Int) ≤ (k : Int) := by omega
      by_cases hlt : k < M
      · have hkm : k < m'.waits.length := by rw [hml]; exact hlt
        have hkm0 : k < m.waits.length := by rw [← hmw]; exact hkm
        have hkd : k < d.waits.length := by rw [HM.out]; exact hlt
        obtain ⟨rb, c2', hv, _⟩ := own_form hbw (by omega)
        rw [hml] at hv
        rw [hv] at c3
        have hk1 : (k : Int) < (M : Int) := by omega
        have hk1' : decide ((k : Int) < (M : Int)) = true := by rw [decide_eq_true_eq]; exact hk1
        by_cases hlk : k < KL
        · have hk2 : (k : Int) < (KL : Int) := by omega
          have hk2' : decide ((k : Int) < (KL : Int)) = true := by rw [decide_eq_true_eq]; exact hk2
          have hkk : k < keep.length := by rw [HKL.out]; exact hlk
          obtain ⟨b2, o2, hka, hb2, hx2⟩ := (HK.out.now hs).at_ (j := k) (by simp [bools]; omega)
          subst hka
          have hy := hx2 k (.bool keep[k]) (by simp [bools, hkk])
          have hKE : kept keep k = keep[k] := by unfold kept; rw [List.getElem?_eq_getElem hkk]; rfl
          have HKE := Lib.hid hKE
          clear hx2 hKE hb2
          cases hkeep : keep[k]
          · rw [hkeep] at hy HKE
            have HNX : Hid (thr (kept keep) 0 (d.waits.take (k + 1)) d.places = thr (kept keep) 0 (d.waits.take k) d.places) := by
              show thr _ 0 _ _ = _
              rw [thr_next hkd, HKE.out]; rfl
            clear hkeep hkk hkd hkm hkm0 hv hbw hwv hs hW hmw hrel' hml
            go_wp2_with fail
            go_roundw
            case rel => exact ⟨k + 1, m', by omega, by omega, by go_num, HMW.out, by rw [HNX.out]; exact HRL.out, HS3.out⟩
            case measure => show M - ((k : Int) + 1).toNat < M - (k : Int).toNat; omega
          · rw [hkeep] at hy HKE
            have hv' : wv = .slice (some ⟨rb, 0, none⟩) m'.waits.length c2' := by rw [hml]; exact hv
            have hbw' := hbw
            rw [hv'] at hbw'
            have ys := mw_sector hbw' hkm
            have yb := mw_bytes hbw' hkm
            have e1 : m'.waits[k].sector = d.waits[k].sector := by
              have : m'.waits[k] = m.waits[k] := by congr 1
              rw [this]; exact (HWW.out k hkm0 hkd).1
            have e2 : m'.waits[k].b.l = d.waits[k].bytes.l := by
              have : m'.waits[k] = m.waits[k] := by congr 1
              rw [this]; exact (HWW.out k hkm0 hkd).2
            have hto := HO.out.to _ (List.getElem_mem hkd)
            have hrm := HO.out.room
            have hpl : (thr (kept keep) 0 (d.waits.take k) d.places).length = d.places.length := thr_len _ _ _ _
            have CC := Lib.hid (rcome_is m' { d with places := thr (kept keep) 0 (d.waits.take k) d.places } hrel' d.waits[k].sector d.waits[k].bytes m'.waits[k].b.v (by show _ < (thr _ 0 _ _).length; rw [hpl]; exact hto) (by show (thr _ 0 _ _).length ≤ _; rw [hpl]; exact hrm) g sv mv lv wv wr hs (by
              intro m2 l2 u2 h2 h3
              have hk2 : k < m2.waits.length := by rw [h2]; exact hkm
              have h4 := mI_wait h3 hk2
              have : m2.waits[k] = m'.waits[k] := by congr 1
              rw [this, e2] at h4
              exact h4))
            have hbr := mI_wait hs hkm
            obtain ⟨ba, bc, hbv, hz1, hz2⟩ := hbr.slice
            clear hz1 hz2
            rw [e2, Sec.h] at hbv
            rw [hbv] at CC yb
            rw [e1] at ys
            have HNX : Hid ({ d with places := come (thr (kept keep) 0 (d.waits.take k) d.places) ⟨d.waits[k].bytes, d.waits[k].sector⟩ } = { d with places := thr (kept keep) 0 (d.waits.take (k + 1)) d.places }) := by
              refine Lib.hid ?_
              rw [thr_next hkd, HKE.out]; rfl
            clear hv hv' hbw' hbw hwv e1 e2 hto hrm hpl hbr hbv hs hW hmw hrel' hml hkm hkm0 hkeep hkk
            generalize d.waits[k] = x at *
            obtain ⟨xb, xs⟩ := x
            dsimp only at *
            clear hkd
            go_wp2_with fail
            refine CC.out.mono ?_
            rintro e u2 ⟨rfl, m2, h2, hr2, hs2⟩
            have HS4 := Lib.hid hs2
            have HR4 := Lib.hid hr2
            have HW4 := Lib.hid (h2.trans HMW.out)
            clear hs2 hr2 h2
            go_wp2_with fail
            go_roundw
            case rel => exact ⟨k + 1, m2, by omega, by omega, by go_num, HW4.out, by rw [← HNX.out]; exact HR4.out, HS4.out⟩
            case measure => show M - ((k : Int) + 1).toNat < M - (k : Int).toNat; omega
        · have hk2' : decide ((k : Int) < (KL : Int)) = false := by rw [decide_eq_false_iff_not]; omega
          have hk2n : decide (k < KL) = false := by rw [decide_eq_false_iff_not]; omega
          have HF := Lib.hid (mI_set (m' := { m' with waits := [], down := true }) (mI_nowaits HS3.out) 4 (.bool true) rfl rfl rfl rfl rfl)
          have hW2 := mI_box (mI_nowaits HS3.out)
          have c4 := hW2.cell 4; have f4 := hW2.free 4
          simp only [mdC, List.getElem?_cons_zero, List.getElem?_cons_succ] at c4
          have HNX : Hid (thr (kept keep) 0 (d.waits.take k) d.places = thr (kept keep) 0 d.waits d.places) := thr_take (fun j hj => by unfold kept; rw [List.getElem?_eq_none (by rw [HKL.out]; omega)]; rfl)
          clear hkd hkm hkm0 hv hbw hwv hs hW hW2 hmw hrel' hml hlk hlt
          go_wp2_with fail
          go_ret
          refine ⟨rfl, .slice none 0 0, _, ?_, HF.out⟩
          rw [hD.out]
          have h := HRL.out.dry
          obtain ⟨a1, a2, a3, a4, a5, a6, a7⟩ := h
          rw [HNX.out] at a1 a2 a3
          exact ⟨a1, a2, a3, a4, rfl, a6, a7⟩
      · have hkM : k = M := by omega
        subst hkM
        rw [hwv] at c3
        have hk1' : decide ((k : Int) < (k : Int)) = false := by rw [decide_eq_false_iff_not]; omega
        have HF := Lib.hid (mI_set (m' := { m' with waits := [], down := true }) (mI_nowaits HS3.out) 4 (.bool true) rfl rfl rfl rfl rfl)
        have hW2 := mI_box (mI_nowaits HS3.out)
        have c4 := hW2.cell 4; have f4 := hW2.free 4
        simp only [mdC, List.getElem?_cons_zero, List.getElem?_cons_succ] at c4
        clear hbw hwv hs hW hW2 hmw hrel' hml hlt
        go_wp2_with fail
        go_ret
        refine ⟨rfl, .slice none 0 0, _, ?_, HF.out⟩
        rw [hD.out]
        have h := HRL.out.dry
        rw [← HM.out, List.take_length] at h
        obtain ⟨a1, a2, a3, a4, a5, a6, a7⟩ := h
        exact ⟨a1, a2, a3, a4, rfl, a6, a7⟩
end Di
end Go.Proofs.Ytnjejffbcgchlaa
