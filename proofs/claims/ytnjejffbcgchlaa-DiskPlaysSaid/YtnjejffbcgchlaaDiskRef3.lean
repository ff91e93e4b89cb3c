/- The document's disk: Read. -/
import Derived.Test.YtnjejffbcgchlaaDiskRef2
set_option linter.unusedSimpArgs false
set_option linter.unusedVariables false
namespace Go.Proofs.Ytnjejffbcgchlaa
open Go.RowKit
namespace Di
theorem mw_sector {w : World} {base g cap : Nat} {l : List Mw} (h : w.ownsRow base 93 2 (.slice (some ⟨g, 0, none⟩) l.length cap) l.length (l.flatMap mwC)) {k : Nat} (hk : k < l.length) : w.cell? ⟨g, k * 2, none⟩ = some (.int .i64 (l[k].sector : Int)) := by
  have := own_elem mwC_len h hk (j := 0) (by omega)
  rw [Nat.add_zero] at this
  rw [this]; rfl
theorem mw_bytes {w : World} {base g cap : Nat} {l : List Mw} (h : w.ownsRow base 93 2 (.slice (some ⟨g, 0, none⟩) l.length cap) l.length (l.flatMap mwC)) {k : Nat} (hk : k < l.length) : w.cell? ⟨g, k * 2 + 1, none⟩ = some l[k].b.v := by
  rw [own_elem mwC_len h hk (j := 1) (by omega)]; rfl
set_option maxRecDepth 100000 in
set_option maxHeartbeats 4000000 in
theorem rread_is (m : Md) (d : Dk) (hr : Rel m d) (hfew : d.waits.length ≤ 1000000000) (s : Int) (g : Nat) (sv mv lv wv : Value) {w0 : World} {l : List It} (w : World) (hS : Sep w0 (mI w0.heap.size g sv mv lv wv m ++ l) w) :
    Calls Try.prog 50 #[.pointer (some ⟨g, 0, none⟩), .int .i64 s] w fun e w' => ∃ v, e = .returned (.tuple #[v, .int .i64 (readE d s)]) ∧ Sep w0 (mI w0.heap.size g sv mv lv wv m ++ (l ++ [rowB w0.heap.size v (readV d s)])) w' := by
  have T := Lib.hid (has_is m d hr s g sv mv lv wv w hS)
  have HS := Lib.hid hS
  have HR := Lib.hid hr
  have hW := mI_box hS
  have c4 := hW.cell 4; have c5 := hW.cell 5
  simp only [mdC, List.getElem?_cons_zero, List.getElem?_cons_succ] at c4 c5
  have HU := Lib.hid hr.up
  obtain ⟨dn, hdn⟩ : ∃ x, m.down = x := ⟨_, rfl⟩
  obtain ⟨dd, hdd⟩ : ∃ x, m.dead = x := ⟨_, rfl⟩
  rw [hdn, hdd] at HU
  rw [hdn] at c4
  rw [hdd] at c5
  clear hdn hdd
  cases hup : d.up
  · have hE : Hid (readV d s = []) := by show readV d s = []; unfold readV; rw [hup]; rfl
    have hL : readE d s = 5 := by unfold readE; rw [hup]; rfl
    rw [hL]
    have hu := HU.out
    rw [hup] at hu
    clear hL hup HU hS hr hW
    cases dn <;> cases dd
    · cases hu
    all_goals
      clear hu
      go_enter Try.func50, Try.ntmps50
      go_wp2_with fail
      go_ret2
      refine ⟨_, rfl, ?_⟩
      rw [hE.out]
      exact HS.out.lastNilA _ _
  have hu := HU.out
  rw [hup] at hu
  cases dn <;> cases dd
  rotate_left
  · cases hu
  · cases hu
  · cases hu
  clear hu HU
  cases hin : inn d s
  · have hE : Hid (readV d s = []) := by show readV d s = []; unfold readV; rw [hup, hin]; rfl
    have hL : readE d s = 2 := by unfold readE; rw [hup, hin]; rfl
    rw [hin] at T
    rw [hL]
    clear hL hup hin hS hr hW
    go_enter Try.func50, Try.ntmps50
    go_wp2_with fail
    refine T.out.mono ?_
    rintro e u ⟨rfl, rfl⟩
    go_wp2_with fail
    go_ret2
    refine ⟨_, rfl, ?_⟩
    rw [hE.out]
    exact HS.out.lastNilA _ _
  obtain ⟨hk, ha⟩ := at_get hin
  obtain ⟨h1, h2⟩ := inn_at hin
  have hkr : s.toNat < m.rests.length := by rw [hr.lr]; exact hk
  have hkl : s.toNat < m.losts.length := by rw [hr.ll]; exact hk
  have hbl := mI_losts hS
  have hbr := mI_rests hS
  have hbw := mI_waits hS
  obtain ⟨gl, cl, hv, _⟩ := own_form hbl (by omega)
  subst hv
  obtain ⟨gr, cr, hv, _⟩ := own_form hbr (by omega)
  subst hv
  obtain ⟨wa, wc, hwv, _, _⟩ := (Row.of_own hbw).slice
  subst hwv
  have c0 := hW.cell 0; have c2 := hW.cell 2; have c3 := hW.cell 3
  simp only [mdC, List.getElem?_cons_zero, List.getElem?_cons_succ] at c0 c2 c3
  have y1 : w.cell? ⟨gl, s.toNat, none⟩ = some (.bool d.places[s.toNat].lost) := by
    rw [hbl.cellAt _ (by omega), bools, List.getElem?_map, List.getElem?_eq_getElem hkl, hr.lost hkl hk]; rfl
  have y2 : w.cell? ⟨gr, s.toNat, none⟩ = some m.rests[s.toNat].v := by rw [hbr.cellAt _ (by omega), slices_get _ hkr]
  have hrow := mI_rest hS hkr
  rw [hr.rest hkr hk] at hrow
  have hE : Hid (readV d s = match lastW d.waits s.toNat with | some b => b.l | none => if d.places[s.toNat].lost then [] else d.places[s.toNat].rest.l) := by show readV d s = _; unfold readV; rw [hup, hin, ha]; rfl
  have hF : Hid (readE d s = match lastW d.waits s.toNat with | some _ => 0 | none => if d.places[s.toNat].lost then 50 else 0) := by show readE d s = _; unfold readE; rw [hup, hin, ha]; rfl
  rw [hin] at T
  rw [hr.lr] at c0
  rw [hr.ll] at c2
  obtain ⟨va, vc, hvv, _, _⟩ := hrow.slice
  rw [hvv] at y2 hrow
  have CP := Lib.hid (copy_is d.places[s.toNat].rest.l _ w hS hrow (by rw [Sec.h]; omega))
  have hLW := hr.lw
  have HW := Lib.hid (fun (k : Nat) (h1 : k < m.waits.length) (h2 : k < d.waits.length) => hr.wait h1 h2)
  obtain ⟨M, hMl⟩ : ∃ M, d.waits.length = M := ⟨_, rfl⟩
  rw [hLW, hMl] at c3
  have HLW := Lib.hid (hLW.trans hMl)
  have HM := Lib.hid hMl
  rw [hMl] at hfew
  have HBW := Lib.hid hbw
  clear hbl hbr hbw hrow hvv hLW hMl ha hin hup hr hW hS
  generalize d.places[s.toNat] = p at *
  generalize d.places.length = N at *
  obtain ⟨pr, pm, plo⟩ := p
  dsimp only at *
  go_enter Try.func50, Try.ntmps50
  go_wp2_with fail
  refine T.out.mono ?_
  rintro e u ⟨rfl, rfl⟩
  go_wp2_with fail
  go_loopw [6, 7] (fun fv i wr => ∃ (k : Nat) (f : Int), k ≤ M ∧ i = .int .i64 k ∧ fv = .int .i64 f ∧ ((f = -1 ∧ ∀ j, (hj : j < d.waits.length) → j < k → d.waits[j].sector ≠ s.toNat) ∨ (∃ t : Nat, f = t ∧ t < k ∧ (∃ ht : t < d.waits.length, d.waits[t].sector = s.toNat) ∧ ∀ j, (hj : j < d.waits.length) → t + 1 ≤ j → j < k → d.waits[j].sector ≠ s.toNat)) ∧ wr = w) (fun _ i _ => M - (intOf i).toNat)
  case atStart => exact ⟨0, -1, Nat.zero_le _, rfl, rfl, .inl ⟨rfl, fun j hj h => by omega⟩, rfl⟩
  case round =>
    obtain ⟨k, f, hk', rfl, rfl, hfd, rfl⟩ := hrel
    have HFD := Lib.hid hfd
    clear hfd
    by_cases hlt : k < M
    · have hkm : k < m.waits.length := by rw [HLW.out]; exact hlt
      have hkd : k < d.waits.length := by rw [HM.out]; exact hlt
      obtain ⟨rb, c2', hv, _⟩ := own_form HBW.out (by omega)
      injection hv with hv1 _ hv2
      subst hv1 hv2
      have ys := mw_sector HBW.out hkm
      rw [(HW.out k hkm hkd).1] at ys
      have hk0 : (0 : Int) ≤ (k : Int) := by omega
      have hk1 : (k : Int) < (M : Int) := by omega
      by_cases he : d.waits[k].sector = s.toNat
      · have hse : (d.waits[k].sector : Int) = s := by omega
        rw [hse] at ys
        have HNX := Lib.hid (show ∃ ht : k < d.waits.length, d.waits[k].sector = s.toNat from ⟨hkd, he⟩)
        clear he hse hkd hkm
        go_wp2_with fail
        go_roundw
        case rel => exact ⟨k + 1, k, by omega, by go_num, rfl, .inr ⟨k, rfl, by omega, HNX.out, fun j hj h h' => by omega⟩, by trivial⟩
        case measure => show M - ((k : Int) + 1).toNat < M - (k : Int).toNat; omega
      · have hse : ((d.waits[k].sector : Int) == s) = false := by rw [beq_eq_false_iff_ne]; omega
        have HNX : Hid ((f = -1 ∧ ∀ j, (hj : j < d.waits.length) → j < k + 1 → d.waits[j].sector ≠ s.toNat) ∨ (∃ t : Nat, f = t ∧ t < k + 1 ∧ (∃ ht : t < d.waits.length, d.waits[t].sector = s.toNat) ∧ ∀ j, (hj : j < d.waits.length) → t + 1 ≤ j → j < k + 1 → d.waits[j].sector ≠ s.toNat)) := by
          rcases HFD.out with ⟨a1, a2⟩ | ⟨t, a1, a2, a3, a4⟩
          · refine .inl ⟨a1, fun j hj h => ?_⟩
            rcases Nat.lt_or_ge j k with h' | h'
            · exact a2 j hj h'
            · have : j = k := by omega
              subst this; exact he
          · refine .inr ⟨t, a1, by omega, a3, fun j hj h h' => ?_⟩
            rcases Nat.lt_or_ge j k with h'' | h''
            · exact a4 j hj h h''
            · have : j = k := by omega
              subst this; exact he
        clear he hkm
        generalize d.waits[k].sector = sx at ys hse
        clear hkd
        go_wp2_with fail
        go_roundw
        case rel => exact ⟨k + 1, f, by omega, by go_num, rfl, HNX.out, by trivial⟩
        case measure => show M - ((k : Int) + 1).toNat < M - (k : Int).toNat; omega
    · have hkM : k = M := by omega
      subst hkM
      rcases HFD.out with ⟨hf, hno⟩ | ⟨t, hf, htk, ⟨ht, hts⟩, hno⟩
      · subst hf
        have hE2 := hE.out
        have hF2 := hF.out
        rw [last_none (k := 0) (fun j hj _ => hno j hj (by rw [← HM.out]; exact hj)) rfl] at hE2 hF2
        have HE2 := Lib.hid hE2; have HF2 := Lib.hid hF2
        clear hE2 hF2 hE hF hno HFD
        cases plo
        · go_wp2_with fail
          refine CP.out.mono ?_
          rintro e u ⟨v, rfl, hs⟩
          have HS2 := Lib.hid hs
          clear hs
          go_wp2_with fail
          go_ret2
          refine ⟨_, by rw [HF2.out]; rfl, ?_⟩
          rw [HE2.out, ← List.append_assoc]
          exact HS2.out
        · go_wp2_with fail
          go_ret2
          refine ⟨_, by rw [HF2.out]; rfl, ?_⟩
          rw [HE2.out]
          exact HS.out.lastNilA _ _
      · subst hf
        have hE2 := hE.out
        have hF2 := hF.out
        rw [last_at ht (fun j hj h => hno j hj h (by rw [← HM.out]; exact hj)) hts] at hE2 hF2
        have HE2 := Lib.hid hE2; have HF2 := Lib.hid hF2
        have htm : t < m.waits.length := by rw [HLW.out]; exact htk
        obtain ⟨rb, c2', hv, _⟩ := own_form HBW.out (by omega)
        injection hv with hv1 _ hv2
        subst hv1 hv2
        have yb := mw_bytes HBW.out htm
        have hrow := mI_wait HS.out htm
        rw [(HW.out t htm ht).2] at hrow
        obtain ⟨ba, bc, hbv, _, _⟩ := hrow.slice
        rw [hbv] at yb hrow
        have CB := Lib.hid (copy_is d.waits[t].bytes.l _ wr HS.out hrow (by rw [Sec.h]; omega))
        have ht0 : (0 : Int) ≤ (t : Int) := by omega
        have ht1 : (t : Int) < (k : Int) := by omega
        clear hE2 hF2 hE hF hno HFD hrow hbv htm hts
        generalize d.waits[t].bytes = bb at *
        clear ht
        go_wp2_with fail
        refine CB.out.mono ?_
        rintro e u ⟨v, rfl, hs⟩
        have HS2 := Lib.hid hs
        clear hs
        go_wp2_with fail
        go_ret2
        refine ⟨_, by rw [HF2.out]; rfl, ?_⟩
        rw [HE2.out, ← List.append_assoc]
        exact HS2.out
end Di
end Go.Proofs.Ytnjejffbcgchlaa
