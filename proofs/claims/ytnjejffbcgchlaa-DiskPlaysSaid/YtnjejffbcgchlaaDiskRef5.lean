/- The document's disk: Lose, Flush, Crash. -/
import Derived.Test.YtnjejffbcgchlaaDiskRef4
set_option linter.unusedSimpArgs false
set_option linter.unusedVariables false
namespace Go.Proofs.Ytnjejffbcgchlaa
open Go.RowKit
namespace Di
theorem set_self {α : Type} {L : List α} {k : Nat} {v : α} (h : L[k]? = some v) : L.set k v = L := by
  apply List.ext_getElem?
  intro i
  rw [List.getElem?_set]
  by_cases e : k = i
  · subst e
    rw [if_pos rfl, h]
    obtain ⟨hk, _⟩ := List.getElem?_eq_some_iff.1 h
    rw [if_pos hk]
  · rw [if_neg e]
theorem rlose_rel {m : Md} {d : Dk} (h : Rel m d) {s : Int} (hin : inn d s = true) : Rel (rsetL m s.toNat true) (loseD d s) := by
  obtain ⟨hk, ha⟩ := at_get hin
  obtain ⟨h1, h2, h3, h4, h5, h6, h7⟩ := h
  have hD : loseD d s = { d with places := d.places.set s.toNat { d.at_ s with lost := true } } := by unfold loseD; rw [if_pos hin]
  rw [hD, ha]
  refine ⟨?_, ?_, ?_, h4, h5, h6, h7⟩
  · show m.rests.map _ = (d.places.set _ _).map _
    rw [List.map_set, h1]
    exact (set_self (by simp [hk])).symm
  · show m.meants.map _ = (d.places.set _ _).map _
    rw [List.map_set, h2]
    exact (set_self (by simp [hk])).symm
  · show m.losts.set _ true = (d.places.set _ _).map _
    rw [List.map_set, h3]
set_option maxHeartbeats 2000000 in
theorem rlose_is (m : Md) (d : Dk) (hr : Rel m d) (s : Int) (g : Nat) (sv mv lv wv : Value) {w0 : World} {l : List It} (w : World) (hS : Sep w0 (mI w0.heap.size g sv mv lv wv m ++ l) w) :
    Calls Try.prog 46 #[.pointer (some ⟨g, 0, none⟩), .int .i64 s] w fun e w' => e = .returned (.int .i64 (thereE d [s])) ∧ ∃ m', Rel m' (loseD d s) ∧ Sep w0 (mI w0.heap.size g sv mv lv wv m' ++ l) w' := by
  have T := Lib.hid (has_is m d hr s g sv mv lv wv w hS)
  have HS := Lib.hid hS
  have HR := Lib.hid hr
  rw [there_one]
  cases hin : inn d s
  · have hD : Hid (loseD d s = d) := by show loseD d s = d; unfold loseD; rw [hin]; rfl
    rw [hin] at T
    clear hS hr hin
    simp only [Bool.false_eq_true, if_false]
    go_enter Try.func46, Try.ntmps46
    go_wp2_with fail
    refine T.out.mono ?_
    rintro e u ⟨rfl, rfl⟩
    go_wp2_with fail
    go_ret
    exact ⟨rfl, m, by rw [hD.out]; exact HR.out, HS.out⟩
  · have HREL := Lib.hid (rlose_rel hr hin)
    obtain ⟨hk, ha⟩ := at_get hin
    obtain ⟨h1, h2⟩ := inn_at hin
    have hkl : s.toNat < m.losts.length := by rw [hr.ll]; exact hk
    have hbl := mI_losts hS
    obtain ⟨gl, cl, hv, _⟩ := own_form hbl (by omega)
    subst hv
    have hW := mI_box hS
    have c2 := hW.cell 2
    simp only [mdC, List.getElem?_cons_zero, List.getElem?_cons_succ] at c2
    have y1 : w.cell? ⟨gl, s.toNat, none⟩ = some (.bool m.losts[s.toNat]) := by
      rw [hbl.cellAt _ (by omega), bools, List.getElem?_map, List.getElem?_eq_getElem hkl]; rfl
    have f1 := hbl.frozenAt s.toNat
    have hLL := hr.ll
    rw [hLL] at c2
    rw [hin] at T
    clear hbl hW hS hr ha hin
    simp only [if_true]
    generalize hN : d.places.length = N at *
    clear hN
    have hN0 : (s.toNat : Int) = s := by omega
    go_enter Try.func46, Try.ntmps46
    go_wp2_with fail
    refine T.out.mono ?_
    rintro e u ⟨rfl, rfl⟩
    go_wp2_with fail
    go_ret
    exact ⟨rfl, _, HREL.out, mI_setL HS.out s.toNat true⟩
/-- None waits any more. -/
theorem mI_nowaits {w0 u : World} {g : Nat} {sv mv lv wv : Value} {m : Md} {l : List It} (h : Sep w0 (mI w0.heap.size g sv mv lv wv m ++ l) u) : Sep w0 (mI w0.heap.size g sv mv lv (.slice none 0 0) { m with waits := [] } ++ l) (u.setCell ⟨g, 3, none⟩ (.slice none 0 0)) := by
  have h1 := Sep.set h 3 (.slice none 0 0)
  have h2 : Sep w0 ([.box g 67 (mdC sv mv lv (.slice none 0 0) m), .row w0.heap.size 22 1 sv m.rests.length (m.rests.map Br.v), .row w0.heap.size 22 1 mv m.meants.length (m.meants.map Br.v), .row w0.heap.size 4 1 lv m.losts.length (bools m.losts)] ++ (m.rests.map (brI w0.heap.size) ++ (m.meants.map (brI w0.heap.size) ++ l))) (u.setCell ⟨g, 3, none⟩ (.slice none 0 0)) := by
    refine h1.sub ?_
    show List.Sublist (_ :: _ :: _ :: _ :: _) (_ :: _ :: _ :: _ :: (_ :: (mTail w0.heap.size m ++ l)))
    refine ((((List.Sublist.cons _ ?_).cons_cons _).cons_cons _).cons_cons _).cons_cons _
    unfold mTail
    simp only [List.append_assoc, List.nil_append]
    show List.Sublist (m.rests.map (brI w0.heap.size) ++ (m.meants.map (brI w0.heap.size) ++ l)) _
    exact ((List.sublist_append_right _ _).append_left _).append_left _
  have h3 := (h2.empty w0.heap.size 93 2).perm List.perm_middle.symm
  unfold mI mTail mHead
  simpa [List.append_assoc, mdC] using h3
theorem thr_append (is : Nat → Bool) : ∀ (a b : List Wr) (k : Nat) (ps : List Pl), thr is k (a ++ b) ps = thr is (k + a.length) b (thr is k a ps)
  | [], _, _, _ => rfl
  | x :: a, b, k, ps => by rw [List.cons_append, thr, thr_append is a, thr, List.length_cons]; congr 1; omega
theorem thr_none (is : Nat → Bool) : ∀ (a : List Wr) (k : Nat) (ps : List Pl), (∀ j, k ≤ j → is j = false) → thr is k a ps = ps
  | [], _, _, _ => rfl
  | x :: a, k, ps, h => by rw [thr, thr_none is a _ _ (fun j hj => h j (by omega)), h k (Nat.le_refl _)]; rfl
theorem thr_take {is : Nat → Bool} {L : List Wr} {k : Nat} {ps : List Pl} (h : ∀ j, k ≤ j → is j = false) : thr is 0 (L.take k) ps = thr is 0 L ps := by
  rcases Nat.lt_or_ge k L.length with hk | hk
  · conv => rhs; rw [← List.take_append_drop k L]
    rw [thr_append]
    refine (thr_none is (L.drop k) _ _ ?_).symm
    intro j hj
    refine h j ?_
    rw [List.length_take] at hj
    omega
  · rw [List.take_of_length_le hk]
theorem thr_next {is : Nat → Bool} {L : List Wr} {k : Nat} {ps : List Pl} (hk : k < L.length) : thr is 0 (L.take (k + 1)) ps = if is k then come (thr is 0 (L.take k) ps) L[k] else thr is 0 (L.take k) ps := by
  rw [List.take_succ_eq_append_getElem hk, thr_snoc, List.length_take, Nat.zero_add, Nat.min_eq_left (by omega)]
theorem Rel.dry {m : Md} {d : Dk} (h : Rel m d) : Rel { m with waits := [] } { d with waits := [] } := ⟨h.rests, h.meants, h.losts, rfl, h.down, h.dead, h.power⟩
set_option maxRecDepth 100000 in
set_option maxHeartbeats 4000000 in
theorem rflush_is (m : Md) (d : Dk) (hr : Rel m d) (ho : Ok d) (hfew : d.waits.length ≤ 1000000000) (g : Nat) (sv mv lv wv : Value) {w0 : World} {l : List It} (w : World) (hS : Sep w0 (mI w0.heap.size g sv mv lv wv m ++ l) w) :
    Calls Try.prog 42 #[.pointer (some ⟨g, 0, none⟩)] w fun e w' => e = .returned (.int .i64 (flushE d)) ∧ ∃ wv' m', Rel m' (flushD d) ∧ Sep w0 (mI w0.heap.size g sv mv lv wv' m' ++ l) w' := by
  have P := Lib.hid (rspend_is m (by rw [hr.power]; exact ho.left) (by rw [hr.power]; exact ho.few) g sv mv lv wv w hS)
  have HS := Lib.hid hS
  have HR := Lib.hid hr
  have HO := Lib.hid ho
  have HRS := Lib.hid (rspend_rel hr)
  have hW := mI_box hS
  have c4 := hW.cell 4; have c5 := hW.cell 5
  simp only [mdC, List.getElem?_cons_zero, List.getElem?_cons_succ] at c4 c5
  have HU := Lib.hid hr.up
  have hpw := hr.power
  rw [hpw] at P
  obtain ⟨dn, hdn⟩ : ∃ x, m.down = x := ⟨_, rfl⟩
  obtain ⟨dd, hdd⟩ : ∃ x, m.dead = x := ⟨_, rfl⟩
  rw [hdn, hdd] at HU
  rw [hdn] at c4
  rw [hdd] at c5
  clear hdn hdd hpw
  cases hup : d.up
  · have hE : flushE d = 5 := by unfold flushE; rw [hup]; rfl
    have hD : Hid (flushD d = d) := by show flushD d = d; unfold flushD; rw [hup]; rfl
    rw [hE]
    have hu := HU.out
    rw [hup] at hu
    clear hE hup HU hS hr hW ho
    cases dn <;> cases dd
    · cases hu
    all_goals
      clear hu
      go_enter Try.func42, Try.ntmps42
      go_wp2_with fail
      go_ret
      exact ⟨rfl, wv, m, by rw [hD.out]; exact HR.out, HS.out⟩
  have hu := HU.out
  rw [hup] at hu
  cases dn <;> cases dd
  rotate_left
  · cases hu
  · cases hu
  · cases hu
  clear hu HU
  by_cases h0 : d.left = 0
  · have hE : flushE d = 5 := by unfold flushE spendE; rw [hup]; simp [h0]
    have hD : Hid (flushD d = spendD d) := by show flushD d = _; unfold flushD; rw [hup]; simp [h0]
    have hp0 : decide (d.left = 0) = true := by simp [h0]
    rw [hE]
    rw [hp0] at P
    clear hE hup h0 hS hr hW ho hp0
    go_enter Try.func42, Try.ntmps42
    go_wp2_with fail
    refine P.out.mono ?_
    rintro e u ⟨rfl, hs⟩
    have HS2 := Lib.hid hs
    clear hs
    go_wp2_with fail
    go_ret
    exact ⟨rfl, _, _, by rw [hD.out]; exact HRS.out, HS2.out⟩
  · have hE : flushE d = 0 := by unfold flushE spendE; rw [hup]; simp [h0]
    have hD : Hid (flushD d = { spendD d with places := thr (fun _ => true) 0 d.waits d.places, waits := [] }) := by
      show flushD d = _
      unfold flushD through
      rw [hup, spend_waits, spend_places]
      simp [h0]
    have hp0 : decide (d.left = 0) = false := by simp [h0]
    rw [hE]
    rw [hp0] at P
    have hwl : (rspend m).waits = m.waits := by unfold rspend; split; rfl; split <;> rfl
    have HWL := Lib.hid hwl
    obtain ⟨M, hMl⟩ : ∃ M, d.waits.length = M := ⟨_, rfl⟩
    have HLW := Lib.hid (hr.lw.trans hMl)
    have HM := Lib.hid hMl
    have HWW := Lib.hid (fun (k : Nat) (h1 : k < m.waits.length) (h2 : k < d.waits.length) => hr.wait h1 h2)
    rw [hMl] at hfew
    have HPL := Lib.hid (spend_places d)
    have HWT := Lib.hid (spend_waits d)
    clear hE hup h0 hS hr hW ho hp0 hwl hMl
    go_enter Try.func42, Try.ntmps42
    go_wp2_with fail
    refine P.out.mono ?_
    rintro e u ⟨rfl, hs⟩
    have HS2 := Lib.hid hs
    clear hs
    clear P c4 c5
    go_wp2_with fail
    go_loopw [3] (fun i wr => ∃ (k : Nat) (m' : Md), k ≤ M ∧ i = .int .i64 k ∧ m'.waits = m.waits ∧ Rel m' { spendD d with places := thr (fun _ => true) 0 (d.waits.take k) d.places } ∧ Sep w0 (mI w0.heap.size g sv mv lv wv m' ++ l) wr) (fun i _ => M - (intOf i).toNat)
    case atStart =>
      refine ⟨0, rspend m, Nat.zero_le _, rfl, HWL.out, ?_, HS2.out⟩
      have := HRS.out
      rw [List.take_zero]
      show Rel _ { spendD d with places := d.places }
      rw [← HPL.out]
      exact this
    case round =>
      obtain ⟨k, m', hk', rfl, hmw, hrel', hs⟩ := hrel
      have HMW := Lib.hid hmw
      have HRL := Lib.hid hrel'
      have HS3 := Lib.hid hs
      have hW := mI_box hs
      have c3 := hW.cell 3; have f3 := hW.free 3
      simp only [mdC, List.getElem?_cons_zero, List.getElem?_cons_succ] at c3
      have hbw := mI_waits hs
      obtain ⟨wa, wc, hwv, _, _⟩ := (Row.of_own hbw).slice
      have hml : m'.waits.length = M := by rw [hmw]; exact HLW.out
      rw [hml] at hwv
      by_cases hlt : k < M
      · have hkm : k < m'.waits.length := by rw [hml]; exact hlt
        have hkm0 : k < m.waits.length := by rw [← hmw]; exact hkm
        have hkd : k < d.waits.length := by rw [HM.out]; exact hlt
        obtain ⟨rb, c2', hv, _⟩ := own_form hbw (by omega)
        rw [hml] at hv
        rw [hv] at c3
        have hv' : wv = .slice (some ⟨rb, 0, none⟩) m'.waits.length c2' := by rw [hml]; exact hv
        have hbw' := hbw
        rw [hv'] at hbw'
        have ys := mw_sector hbw' hkm
        have yb := mw_bytes hbw' hkm
        have e1 : m'.waits[k].sector = d.waits[k].sector := by
          have : m'.waits[k] = m.waits[k] := by congr 1
          rw [this]; exact (HWW.out k hkm0 hkd).1
        have e2 : m'.waits[k].b.l = d.waits[k].bytes.l := by
          have : m'.waits[k] = m.waits[k] := by congr 1
          rw [this]; exact (HWW.out k hkm0 hkd).2
        have hto := HO.out.to _ (List.getElem_mem hkd)
        have hrm := HO.out.room
        have hpl : (thr (fun _ => true) 0 (d.waits.take k) d.places).length = d.places.length := thr_len _ _ _ _
        have CC := Lib.hid (rcome_is m' { spendD d with places := thr (fun _ => true) 0 (d.waits.take k) d.places } hrel' d.waits[k].sector d.waits[k].bytes m'.waits[k].b.v (by show _ < (thr _ 0 _ _).length; rw [hpl]; exact hto) (by show (thr _ 0 _ _).length ≤ _; rw [hpl]; exact hrm) g sv mv lv wv wr hs (by
          intro m2 l2 u2 h2 h3
          have hk2 : k < m2.waits.length := by rw [h2]; exact hkm
          have h4 := mI_wait h3 hk2
          have : m2.waits[k] = m'.waits[k] := by congr 1
          rw [this, e2] at h4
          exact h4))
        have hbr := mI_wait hs hkm
        obtain ⟨ba, bc, hbv, hz1, hz2⟩ := hbr.slice
        clear hz1 hz2
        rw [e2, Sec.h] at hbv
        rw [hbv] at CC yb
        rw [e1] at ys
        have HNX : Hid ({ spendD d with places := come (thr (fun _ => true) 0 (d.waits.take k) d.places) ⟨d.waits[k].bytes, d.waits[k].sector⟩ } = { spendD d with places := thr (fun _ => true) 0 (d.waits.take (k + 1)) d.places }) := by
          refine Lib.hid ?_
          rw [thr_next hkd]; rfl
        have hk0 : (0 : Int) ≤ (k : Int) := by omega
        have hk1 : (k : Int) < (M : Int) := by omega
        clear hv hv' hbw' hbw hwv e1 e2 hto hrm hpl hbr hbv hs hW hmw hrel' hml hkm hkm0
        generalize d.waits[k] = x at *
        obtain ⟨xb, xs⟩ := x
        dsimp only at *
        clear hkd
        go_wp2_with fail
        refine CC.out.mono ?_
        rintro e u2 ⟨rfl, m2, h2, hr2, hs2⟩
        have HS4 := Lib.hid hs2
        have HR4 := Lib.hid hr2
        have HW4 := Lib.hid (h2.trans HMW.out)
        clear hs2 hr2 h2
        go_wp2_with fail
        go_roundw
        case rel => exact ⟨k + 1, m2, by omega, by go_num, HW4.out, by rw [← HNX.out]; exact HR4.out, HS4.out⟩
        case measure => show M - ((k : Int) + 1).toNat < M - (k : Int).toNat; omega
      · have hkM : k = M := by omega
        subst hkM
        rw [hwv] at c3
        clear hbw hwv hs hW hmw hrel' hml hlt
        go_wp2_with fail
        go_ret
        refine ⟨rfl, .slice none 0 0, _, ?_, mI_nowaits HS3.out⟩
        rw [hD.out]
        have h := HRL.out.dry
        rw [← HM.out, List.take_length] at h
        exact h
end Di
end Go.Proofs.Ytnjejffbcgchlaa
