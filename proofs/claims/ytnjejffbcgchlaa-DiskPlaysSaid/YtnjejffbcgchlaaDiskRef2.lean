/- The document's disk: SetPower, Start, Lose, At, Read. -/
import Derived.Test.YtnjejffbcgchlaaDiskRef
set_option linter.unusedSimpArgs false
set_option linter.unusedVariables false
namespace Go.Proofs.Ytnjejffbcgchlaa
open Go.RowKit
namespace Di
theorem Rel.up {m : Md} {d : Dk} (h : Rel m d) : d.up = (!m.down && !m.dead) := by unfold Dk.up; rw [h.down, h.dead]
set_option maxHeartbeats 1000000 in
theorem rpower_is (m : Md) (d : Dk) (hr : Rel m d) (n : Int) (g : Nat) (sv mv lv wv : Value) {w0 : World} {base : Nat} {l : List It} (w : World) (hS : Sep w0 (mI base g sv mv lv wv m ++ l) w) :
    Calls Try.prog 48 #[.pointer (some ⟨g, 0, none⟩), .int .i64 n] w fun e w' => e = .returned (.int .i64 (powerE d n)) ∧ ∃ m', Rel m' (powerD d n) ∧ Sep w0 (mI base g sv mv lv wv m' ++ l) w' := by
  have hW := mI_box hS
  have c4 := hW.cell 4; have c5 := hW.cell 5; have c6 := hW.cell 6; have f6 := hW.free 6
  simp only [mdC, List.getElem?_cons_zero, List.getElem?_cons_succ] at c4 c5 c6
  have HS := Lib.hid hS
  have HR := Lib.hid hr
  have HU := Lib.hid hr.up
  clear hS hW hr
  obtain ⟨dn, hdn⟩ : ∃ x, m.down = x := ⟨_, rfl⟩
  obtain ⟨dd, hdd⟩ : ∃ x, m.dead = x := ⟨_, rfl⟩
  rw [hdn, hdd] at HU
  rw [hdn] at c4
  rw [hdd] at c5
  clear hdn hdd
  cases hup : d.up
  · have hE : powerE d n = 5 := by unfold powerE; rw [hup]; rfl
    have hD : Hid (powerD d n = d) := by show powerD d n = d; unfold powerD; rw [hup]; rfl
    rw [hE]
    have hu := HU.out
    rw [hup] at hu
    clear hE hup HU
    cases dn <;> cases dd
    · cases hu
    all_goals
      clear hu
      go_enter Try.func48, Try.ntmps48
      go_wp2_with fail
      go_ret
      exact ⟨rfl, m, by rw [hD.out]; exact HR.out, HS.out⟩
  · have hu := HU.out
    rw [hup] at hu
    cases dn <;> cases dd
    rotate_left
    · cases hu
    · cases hu
    · cases hu
    clear hu HU
    by_cases hn : n < 0
    · have hE : powerE d n = 2 := by unfold powerE; rw [hup]; simp [hn]
      have hD : Hid (powerD d n = d) := by show powerD d n = d; unfold powerD; rw [hup]; simp [hn]
      rw [hE]
      clear hE hup
      go_enter Try.func48, Try.ntmps48
      go_wp2_with fail
      go_ret
      exact ⟨rfl, m, by rw [hD.out]; exact HR.out, HS.out⟩
    · have hE : powerE d n = 0 := by unfold powerE; rw [hup]; simp [hn]
      have hD : Hid (powerD d n = { d with left := n }) := by show powerD d n = _; unfold powerD; rw [hup]; simp [hn]
      rw [hE]
      clear hE hup
      go_enter Try.func48, Try.ntmps48
      go_wp2_with fail
      go_ret
      refine ⟨rfl, { m with power := n }, ?_, mI_set HS.out 6 (.int .i64 n) rfl rfl rfl rfl rfl⟩
      rw [hD.out]
      obtain ⟨h1, h2, h3, h4, h5, h6, h7⟩ := HR.out
      exact ⟨h1, h2, h3, h4, h5, h6, rfl⟩
set_option maxHeartbeats 1000000 in
theorem rstart_is (m : Md) (d : Dk) (hr : Rel m d) (g : Nat) (sv mv lv wv : Value) {w0 : World} {base : Nat} {l : List It} (w : World) (hS : Sep w0 (mI base g sv mv lv wv m ++ l) w) :
    Calls Try.prog 44 #[.pointer (some ⟨g, 0, none⟩)] w fun e w' => e = .returned (.int .i64 (startE d)) ∧ ∃ m', Rel m' (startD d) ∧ Sep w0 (mI base g sv mv lv wv m' ++ l) w' := by
  have hW := mI_box hS
  have c4 := hW.cell 4; have f4 := hW.free 4; have c5 := hW.cell 5; have f5 := hW.free 5; have c6 := hW.cell 6; have f6 := hW.free 6
  simp only [mdC, List.getElem?_cons_zero, List.getElem?_cons_succ] at c4 c5 c6
  have HS := Lib.hid hS
  have HR := Lib.hid hr
  rw [hr.down] at c4
  clear hS hW hr
  cases hd : d.down
  · have hE : startE d = 2 := by unfold startE; rw [hd]; rfl
    have hD : Hid (startD d = d) := by show startD d = d; unfold startD; rw [hd]; rfl
    rw [hE]
    rw [hd] at c4
    clear hE hd
    go_enter Try.func44, Try.ntmps44
    go_wp2_with fail
    go_ret
    exact ⟨rfl, m, by rw [hD.out]; exact HR.out, HS.out⟩
  · have hE : startE d = 0 := by unfold startE; rw [hd]; rfl
    have hD : Hid (startD d = { d with down := false, dead := false, left := -1 }) := by show startD d = _; unfold startD; rw [hd]; rfl
    rw [hE]
    rw [hd] at c4
    clear hE hd
    go_enter Try.func44, Try.ntmps44
    go_wp2_with fail
    go_ret
    have s1 := mI_set (m' := { m with down := false }) HS.out 4 (.bool false) rfl rfl rfl rfl rfl
    have s2 := mI_set (m' := { m with down := false, dead := false }) s1 5 (.bool false) rfl rfl rfl rfl rfl
    have s3 := mI_set (m' := { m with down := false, dead := false, power := -1 }) s2 6 (.int .i64 (-1)) rfl rfl rfl rfl rfl
    refine ⟨rfl, { m with down := false, dead := false, power := -1 }, ?_, s3⟩
    rw [hD.out]
    obtain ⟨h1, h2, h3, h4, h5, h6, h7⟩ := HR.out
    exact ⟨h1, h2, h3, h4, rfl, rfl, rfl⟩
theorem slices_get (L : List Br) {k : Nat} (hk : k < L.length) : (L.map Br.v)[k]? = some L[k].v := by simp [hk]
set_option maxHeartbeats 2000000 in
theorem at_is (m : Md) (d : Dk) (hr : Rel m d) (s : Int) (g : Nat) (sv mv lv wv : Value) {w0 : World} {l : List It} (w : World) (hS : Sep w0 (mI w0.heap.size g sv mv lv wv m ++ l) w) :
    Calls Try.prog 51 #[.pointer (some ⟨g, 0, none⟩), .int .i64 s] w fun e w' => ∃ v, e = .returned (.tuple #[v, .bool (restL d s), .int .i64 (thereE d [s])]) ∧ Sep w0 (mI w0.heap.size g sv mv lv wv m ++ (l ++ [rowB w0.heap.size v (restV d s)])) w' := by
  have T := Lib.hid (has_is m d hr s g sv mv lv wv w hS)
  have HS := Lib.hid hS
  rw [there_one]
  cases hin : inn d s
  · have hE : Hid (restV d s = []) := by show restV d s = []; unfold restV; rw [hin]; rfl
    have hL : restL d s = false := by unfold restL; rw [hin]; rfl
    rw [hin] at T
    rw [hL]
    clear hL hS hr
    simp only [Bool.false_eq_true, if_false]
    go_enter Try.func51, Try.ntmps51
    go_wp2_with fail
    refine T.out.mono ?_
    rintro e u ⟨rfl, rfl⟩
    go_wp2_with fail
    go_ret3
    refine ⟨_, rfl, ?_⟩
    rw [hE.out]
    exact HS.out.lastNilA _ _
  · obtain ⟨hk, ha⟩ := at_get hin
    obtain ⟨h1, h2⟩ := inn_at hin
    have hkr : s.toNat < m.rests.length := by rw [hr.lr]; exact hk
    have hkl : s.toNat < m.losts.length := by rw [hr.ll]; exact hk
    have hbl := mI_losts hS
    have hbr := mI_rests hS
    obtain ⟨gl, cl, hv, _⟩ := own_form hbl (by omega)
    subst hv
    obtain ⟨gr, cr, hv, _⟩ := own_form hbr (by omega)
    subst hv
    have hW := mI_box hS
    have c0 := hW.cell 0; have c2 := hW.cell 2
    simp only [mdC, List.getElem?_cons_zero, List.getElem?_cons_succ] at c0 c2
    have y1 : w.cell? ⟨gl, s.toNat, none⟩ = some (.bool d.places[s.toNat].lost) := by
      rw [hbl.cellAt _ (by omega), bools, List.getElem?_map, List.getElem?_eq_getElem hkl, hr.lost hkl hk]; rfl
    have y2 : w.cell? ⟨gr, s.toNat, none⟩ = some m.rests[s.toNat].v := by rw [hbr.cellAt _ (by omega), slices_get _ hkr]
    have hrow := mI_rest hS hkr
    rw [hr.rest hkr hk] at hrow
    have hE : Hid (restV d s = if d.places[s.toNat].lost then [] else d.places[s.toNat].rest.l) := by show restV d s = _; unfold restV; rw [hin, ha]; rfl
    have hL : restL d s = d.places[s.toNat].lost := by unfold restL; rw [hin, ha]; rfl
    have hLR := hr.lr
    have hLL := hr.ll
    rw [hLR] at c0
    rw [hLL] at c2
    have CP := fun (u : World) (hs : Sep w0 (mI w0.heap.size g (.slice (some ⟨gr, 0, none⟩) m.rests.length cr) mv (.slice (some ⟨gl, 0, none⟩) m.losts.length cl) wv m ++ l) u) (hr : Row u u.heap.size m.rests[s.toNat].v d.places[s.toNat].rest.l.length (u8s d.places[s.toNat].rest.l)) => copy_is d.places[s.toNat].rest.l m.rests[s.toNat].v u hs hr (by rw [Sec.h]; omega)
    have CPW := Lib.hid (CP w hS hrow)
    clear CP
    rw [hin] at T
    rw [hL]
    obtain ⟨va, vc, hvv, _, _⟩ := hrow.slice
    rw [hvv] at y2 CPW
    clear hL hrow hbl hbr hW hS hr hvv ha hin
    simp only [if_true]
    generalize d.places[s.toNat] = p at *
    generalize d.places.length = N at *
    obtain ⟨pr, pm, plo⟩ := p
    dsimp only at *
    have hN0 : (s.toNat : Int) = s := by omega
    cases plo
    · go_enter Try.func51, Try.ntmps51
      go_wp2_with fail
      refine T.out.mono ?_
      rintro e u ⟨rfl, rfl⟩
      go_wp2_with fail
      refine CPW.out.mono ?_
      rintro e u ⟨v, rfl, hs⟩
      have HS2 := Lib.hid hs
      clear hs
      go_wp2_with fail
      go_ret3
      refine ⟨_, rfl, ?_⟩
      rw [hE.out, ← List.append_assoc]
      exact HS2.out
    · go_enter Try.func51, Try.ntmps51
      go_wp2_with fail
      refine T.out.mono ?_
      rintro e u ⟨rfl, rfl⟩
      go_wp2_with fail
      go_ret3
      refine ⟨_, rfl, ?_⟩
      rw [hE.out]
      exact HS.out.lastNilA _ _
end Di
end Go.Proofs.Ytnjejffbcgchlaa
