/- The document's disk: Flip, Stray. -/
import Derived.Test.YtnjejffbcgchlaaDiskRef7
import Derived.Deep.RegionHeld3
set_option linter.unusedSimpArgs false
set_option linter.unusedVariables false
namespace Go.Proofs.Ytnjejffbcgchlaa
open Go.RowKit
/-- One thing of a list is turned. -/
theorem Sep.turnAt {w0 u u' : World} {H L Y : List It} {x : It} (h : Sep w0 (H ++ (L ++ Y)) u) {k : Nat} (hk : k < L.length) (f : ∀ r, Sep w0 (L[k] :: r) u → Sep w0 (x :: r) u') : Sep w0 (H ++ (L.set k x ++ Y)) u' := by
  have p1 : (H ++ (L ++ Y)).Perm (L[k] :: (H ++ (L.eraseIdx k ++ Y))) := by
    have a1 : (L ++ Y).Perm (L[k] :: (L.eraseIdx k ++ Y)) := List.Perm.append_right Y (get_erase_perm L k hk).symm
    exact (List.Perm.append_left H a1).trans List.perm_middle
  have h2 := f _ (h.perm p1)
  refine h2.perm ?_
  refine List.perm_middle.symm.trans (List.Perm.append_left H ?_)
  exact ((set_erase_perm x L k hk).symm.append_right Y)
namespace Di
theorem rowB_set {w0 u : World} {r : List It} {g c n : Nat} {ys : List Int} (h : Sep w0 (rowB w0.heap.size (.slice (some ⟨g, 0, none⟩) n c) ys :: r) u) (hn : ys.length = n) (j : Nat) (z : Int) :
    Sep w0 (rowB w0.heap.size (.slice (some ⟨g, 0, none⟩) n c) (ys.set j z) :: r) (u.setCell ⟨g, j, none⟩ (.int .u8 z)) := by
  subst hn
  unfold rowB at h ⊢
  have h2 := h.rowTurn (n' := ys.length) (xs' := u8s (ys.set j z)) ((Foot.refl (fun k => (Value.slice (some ⟨g, 0, none⟩) ys.length c).ownBlock = some k) u).set (p := ⟨g, j, none⟩) (.inl rfl) (.int .u8 z)) (by
    have := (World.ownsRow.stored h.head j (.int .u8 z)).1
    unfold u8s at this ⊢
    rw [List.map_set]
    exact this)
  rw [List.length_set]
  exact h2
/-- A byte of what a sector holds is written. -/
theorem mI_setB {w0 u : World} {g gb c : Nat} {sv mv lv wv : Value} {m : Md} {l : List It} (h : Sep w0 (mI w0.heap.size g sv mv lv wv m ++ l) u) {k : Nat} (hk : k < m.rests.length) (hv : m.rests[k].v = .slice (some ⟨gb, 0, none⟩) m.rests[k].l.length c) (j : Nat) (z : Int) :
    Sep w0 (mI w0.heap.size g sv mv lv wv (rsetR m k ⟨.slice (some ⟨gb, 0, none⟩) m.rests[k].l.length c, m.rests[k].l.set j z⟩) ++ l) (u.setCell ⟨gb, j, none⟩ (.int .u8 z)) := by
  have h1 : Sep w0 (mHead w0.heap.size g sv mv lv wv m ++ (m.rests.map (brI w0.heap.size) ++ ((m.meants.map (brI w0.heap.size) ++ m.waits.map (fun x => brI w0.heap.size x.b)) ++ l))) u := by
    have := h
    unfold mI mTail at this
    simp only [List.append_assoc] at this ⊢
    exact this
  have h2 := Sep.turnAt (x := brI w0.heap.size ⟨.slice (some ⟨gb, 0, none⟩) m.rests[k].l.length c, m.rests[k].l.set j z⟩) h1 (k := k) (by simpa using hk) (u' := u.setCell ⟨gb, j, none⟩ (.int .u8 z)) (fun r hr => by
    have hr' : Sep w0 (rowB w0.heap.size (.slice (some ⟨gb, 0, none⟩) m.rests[k].l.length c) m.rests[k].l :: r) u := by
      have e : (m.rests.map (brI w0.heap.size))[k]'(by simpa using hk) = rowB w0.heap.size (.slice (some ⟨gb, 0, none⟩) m.rests[k].l.length c) m.rests[k].l := by
        rw [List.getElem_map]; unfold brI; rw [hv]
      rw [e] at hr
      exact hr
    exact rowB_set hr' rfl j z)
  have e2 : (m.rests.map (brI w0.heap.size)).set k (brI w0.heap.size ⟨.slice (some ⟨gb, 0, none⟩) m.rests[k].l.length c, m.rests[k].l.set j z⟩) = (m.rests.set k ⟨.slice (some ⟨gb, 0, none⟩) m.rests[k].l.length c, m.rests[k].l.set j z⟩).map (brI w0.heap.size) := by rw [List.map_set]
  rw [e2] at h2
  have e3 : (m.rests.set k ⟨.slice (some ⟨gb, 0, none⟩) m.rests[k].l.length c, m.rests[k].l.set j z⟩).map Br.v = m.rests.map Br.v := by
    rw [List.map_set]
    exact set_self (by rw [List.getElem?_map, List.getElem?_eq_getElem hk, Option.map_some, hv])
  unfold mI mTail mHead rsetR
  dsimp only
  rw [List.length_set, e3]
  unfold mHead at h2
  simp only [List.append_assoc] at h2 ⊢
  exact h2
theorem rflip_rel {m : Md} {d : Dk} (h : Rel m d) {k : Nat} (hk : k < d.places.length) (S : Sec) (x : Br) (hx : x.l = S.l) : Rel (rsetR m k x) { d with places := d.places.set k { d.places[k] with rest := S } } := by
  obtain ⟨h1, h2, h3, h4, h5, h6, h7⟩ := h
  refine ⟨?_, ?_, ?_, h4, h5, h6, h7⟩
  · show (m.rests.set k x).map _ = (d.places.set _ _).map _
    rw [List.map_set, List.map_set, h1, hx]
  · show m.meants.map _ = (d.places.set _ _).map _
    rw [List.map_set, h2]
    exact (set_self (by simp [hk])).symm
  · show m.losts = (d.places.set _ _).map _
    rw [List.map_set, h3]
    exact (set_self (by simp [hk])).symm
set_option maxRecDepth 100000 in
set_option maxHeartbeats 4000000 in
theorem rflip_is (m : Md) (d : Dk) (hr : Rel m d) (s bit : Int) (g : Nat) (sv mv lv wv : Value) {w0 : World} {l : List It} (w : World) (hS : Sep w0 (mI w0.heap.size g sv mv lv wv m ++ l) w) :
    Calls Try.prog 45 #[.pointer (some ⟨g, 0, none⟩), .int .i64 s, .int .i64 bit] w fun e w' => e = .returned (.int .i64 (faultE d s bit)) ∧ ∃ m', Rel m' (flipD d s bit) ∧ Sep w0 (mI w0.heap.size g sv mv lv wv m' ++ l) w' := by
  have T := Lib.hid (has_is m d hr s g sv mv lv wv w hS)
  have HS := Lib.hid hS
  have HR := Lib.hid hr
  cases hin : inn d s
  · have hE : Hid (flipD d s bit = d) := by show flipD d s bit = d; unfold flipD; rw [hin]; rfl
    have hF : faultE d s bit = 2 := by unfold faultE; rw [hin]; rfl
    rw [hin] at T
    rw [hF]
    clear hF hS hr hin
    go_enter Try.func45, Try.ntmps45
    go_wp2_with fail
    refine T.out.mono ?_
    rintro e u ⟨rfl, rfl⟩
    go_wp2_with fail
    go_ret
    exact ⟨rfl, m, by rw [hE.out]; exact HR.out, HS.out⟩
  rw [hin] at T
  by_cases hb0 : bit < 0
  · have hE : Hid (flipD d s bit = d) := by show flipD d s bit = d; unfold flipD; rw [hin]; simp [hb0]
    have hF : faultE d s bit = 2 := by unfold faultE; rw [hin]; simp [hb0]
    rw [hF]
    clear hF hin hS hr
    go_enter Try.func45, Try.ntmps45
    go_wp2_with fail
    refine T.out.mono ?_
    rintro e u ⟨rfl, rfl⟩
    go_wp2_with fail
    go_ret
    exact ⟨rfl, m, by rw [hE.out]; exact HR.out, HS.out⟩
  have hF : faultE d s bit = 0 := by unfold faultE; rw [hin]; simp [hb0]
  rw [hF]
  clear hF
  obtain ⟨hk, ha⟩ := at_get hin
  obtain ⟨h1, h2⟩ := inn_at hin
  obtain ⟨q, r, hq, hr8, he, e1, e2, e3⟩ := flip_bits bit (by omega)
  have hkr : s.toNat < m.rests.length := by rw [hr.lr]; exact hk
  have hbr := mI_rests hS
  obtain ⟨gr, cr, hv, _⟩ := own_form hbr (by omega)
  subst hv
  have c0 := (mI_box hS).cell 0
  simp only [mdC, List.getElem?_cons_zero, List.getElem?_cons_succ] at c0
  have y2 : w.cell? ⟨gr, s.toNat, none⟩ = some m.rests[s.toNat].v := by rw [hbr.cellAt _ (by omega), slices_get _ hkr]
  have hown : w.ownsRow w0.heap.size 5 1 m.rests[s.toNat].v m.rests[s.toNat].l.length (u8s m.rests[s.toNat].l) := hS.holds (brI w0.heap.size m.rests[s.toNat]) (List.mem_append_left _ (List.mem_append_right _ (List.mem_append_left _ (List.mem_map.2 ⟨_, List.getElem_mem hkr, rfl⟩))))
  have hml := hr.rest hkr hk
  have hm64 : m.rests[s.toNat].l.length = 64 := by rw [hml]; exact Sec.h _
  obtain ⟨gb, c, hvv, _⟩ := own_form hown (by omega)
  have hSB := mI_setB hS hkr hvv q (flipB (d.places[s.toNat].rest.l[q]?.getD 0) r)
  have hRB := rflip_rel hr hk ⟨d.places[s.toNat].rest.l.set q (flipB (d.places[s.toNat].rest.l[q]?.getD 0) r), by rw [List.length_set]; exact Sec.h _⟩ ⟨.slice (some ⟨gb, 0, none⟩) m.rests[s.toNat].l.length c, m.rests[s.toNat].l.set q (flipB (d.places[s.toNat].rest.l[q]?.getD 0) r)⟩ (by show List.set _ _ _ = List.set _ _ _; rw [hml])
  have hE := Lib.hid (flip_eq hin (by omega) ha hr8 he ⟨d.places[s.toNat].rest.l.set q (flipB (d.places[s.toNat].rest.l[q]?.getD 0) r), by rw [List.length_set]; exact Sec.h _⟩ rfl)
  have HSB := Lib.hid hSB; have HRB := Lib.hid hRB
  rw [hvv] at y2
  rw [hvv] at hown
  have y3 : w.cell? ⟨gb, q, none⟩ = some (.int .u8 (d.places[s.toNat].rest.l[q]?.getD 0)) := by
    rw [hown.cellAt q (by omega), hml, u8s_get, List.getElem?_eq_getElem (by rw [Sec.h]; exact hq)]; rfl
  have f3 := hown.frozenAt q
  rw [hm64] at y2
  rw [hr.lr] at c0
  have q0 : (0 : Int) ≤ (q : Int) := by omega
  have q1 : (q : Int) < 64 := by omega
  have r0 : (0 : Int) ≤ (r : Int) := by omega
  have r1 : (r : Int) < 8 := by omega
  have wq : IntKind.i64.wrap (q : Int) = (q : Int) := by rw [IntKind.wrap_i64]; omega
  have wr : IntKind.i64.wrap (r : Int) = (r : Int) := by rw [IntKind.wrap_i64]; omega
  clear hSB hRB hown hvv hbr hml hm64
  generalize hp : d.places[s.toNat].rest.l[q]?.getD 0 = x0 at *
  generalize hm : q * 8 + r = mm at *
  have hb0' : decide (bit < 0) = false := by simpa using hb0
  have HM := Lib.hid hm
  obtain ⟨N, hN⟩ : ∃ N, d.places.length = N := ⟨_, rfl⟩
  rw [hN] at c0
  have h2' : s < (N : Int) := by omega
  have hN0 : (s.toNat : Int) = s := by omega
  clear ha hin hp hm he hS hr hN
  go_enter Try.func45, Try.ntmps45
  go_wp2_with fail
  refine T.out.mono ?_
  rintro e u ⟨rfl, rfl⟩
  go_wp2_with fail
  clear T
  refine wp_region_still_tail 26 (by kernel_rfl) (by kernel_rfl) ?_
  simp only [List.take_succ_cons, List.take_zero, List.drop_succ_cons, List.drop_zero]
  refine wpStill_step (fun K hK => ?_)
  go_simp
  refine hK _ ?_
  clear hK K
  refine wpStill_step (fun K hK => ?_)
  go_simp
  refine hK _ ?_
  clear hK K
  refine wpStill_step (fun K hK => ?_)
  go_simp
  refine hK _ ?_
  clear hK K
  refine wpStill_step (fun K hK => ?_)
  go_simp
  refine hK _ ?_
  clear hK K
  refine wpStill_step (fun K hK => ?_)
  go_simp
  refine hK _ ?_
  clear hK K
  refine wpStill_step (fun K hK => ?_)
  go_simp
  refine hK _ ?_
  clear hK K
  refine wpStill_step (fun K hK => ?_)
  go_simp
  refine hK _ ?_
  clear hK K
  refine wpStill_step (fun K hK => ?_)
  go_simp
  refine hK _ ?_
  clear hK K
  refine wpStill_step (fun K hK => ?_)
  go_simp
  refine hK _ ?_
  clear hK K
  refine wpStill_step (fun K hK => ?_)
  go_simp
  refine hK _ ?_
  clear hK K
  refine wpStill_step (fun K hK => ?_)
  go_simp
  refine hK _ ?_
  clear hK K
  refine wpStill_step (fun K hK => ?_)
  go_simp
  refine hK _ ?_
  clear hK K
  refine wpStill_step (fun K hK => ?_)
  go_simp
  refine hK _ ?_
  clear hK K
  refine wpStill_step (fun K hK => ?_)
  go_simp
  refine hK _ ?_
  clear hK K
  refine wpStill_step (fun K hK => ?_)
  go_simp
  refine hK _ ?_
  clear hK K
  refine wpStill_step (fun K hK => ?_)
  go_simp
  refine hK _ ?_
  clear hK K
  refine wpStill_step (fun K hK => ?_)
  go_simp
  refine hK _ ?_
  clear hK K
  refine wpStill_step (fun K hK => ?_)
  go_simp
  refine hK _ ?_
  clear hK K
  refine wpStill_step (fun K hK => ?_)
  go_simp
  refine hK _ ?_
  clear hK K
  refine wpStill_step (fun K hK => ?_)
  go_simp
  refine hK _ ?_
  clear hK K
  refine wpStill_step (fun K hK => ?_)
  go_simp
  refine hK _ ?_
  clear hK K
  refine wpStill_step (fun K hK => ?_)
  go_simp
  refine hK _ ?_
  clear hK K
  refine wpStill_step (fun K hK => ?_)
  go_simp
  refine hK _ ?_
  clear hK K
  refine wpStill_step (fun K hK => ?_)
  go_simp
  refine hK _ ?_
  clear hK K
  refine wpStill_step (fun K hK => ?_)
  go_simp
  refine hK _ ?_
  clear hK K
  refine wpStill_step (fun K hK => ?_)
  go_simp
  refine hK _ ?_
  clear hK K
  refine wpStill_nil ?_
  go_wp2_with fail
  go_ret
  rw [show min r 8 = r from by omega]
  refine ⟨rfl, _, ?_, Sep.drew HSB.out⟩
  rw [hE.out]
  exact HRB.out
theorem there_two {d : Dk} {s t : Int} : thereE d [s, t] = if inn d s && inn d t then 0 else 2 := by simp [thereE]
theorem rstray_rel {m : Md} {d : Dk} (h : Rel m d) {k j : Nat} (hk : k < d.places.length) (x : Br) (hj : j < d.places.length) (hx : x.l = d.places[j].rest.l) : Rel (rsetL (rsetR m k x) k d.places[j].lost) { d with places := d.places.set k { d.places[k] with rest := d.places[j].rest, lost := d.places[j].lost } } := by
  obtain ⟨h1, h2, h3, h4, h5, h6, h7⟩ := h
  refine ⟨?_, ?_, ?_, h4, h5, h6, h7⟩
  · show (m.rests.set k x).map _ = (d.places.set _ _).map _
    rw [List.map_set, List.map_set, h1, hx]
  · show m.meants.map _ = (d.places.set _ _).map _
    rw [List.map_set, h2]
    exact (set_self (by simp [hk])).symm
  · show m.losts.set _ _ = (d.places.set _ _).map _
    rw [List.map_set, h3]
set_option maxRecDepth 100000 in
set_option maxHeartbeats 4000000 in
theorem rstray_is (m : Md) (d : Dk) (hr : Rel m d) (s t : Int) (g : Nat) (sv mv lv wv : Value) {w0 : World} {l : List It} (w : World) (hS : Sep w0 (mI w0.heap.size g sv mv lv wv m ++ l) w) :
    Calls Try.prog 47 #[.pointer (some ⟨g, 0, none⟩), .int .i64 s, .int .i64 t] w fun e w' => e = .returned (.int .i64 (thereE d [s, t])) ∧ ∃ m', Rel m' (strayD d s t) ∧ Sep w0 (mI w0.heap.size g sv mv lv wv m' ++ l) w' := by
  have T := Lib.hid (has_is m d hr s g sv mv lv wv w hS)
  have T2 := Lib.hid (has_is m d hr t g sv mv lv wv w hS)
  have HS := Lib.hid hS
  have HR := Lib.hid hr
  rw [there_two]
  cases hin : inn d s
  · have hE : Hid (strayD d s t = d) := by show strayD d s t = d; unfold strayD; rw [hin]; rfl
    rw [hin] at T
    clear hS hr hin T2
    simp only [Bool.false_and, Bool.false_eq_true, if_false]
    go_enter Try.func47, Try.ntmps47
    go_wp2_with fail
    refine T.out.mono ?_
    rintro e u ⟨rfl, rfl⟩
    go_wp2_with fail
    go_ret
    exact ⟨rfl, m, by rw [hE.out]; exact HR.out, HS.out⟩
  rw [hin] at T
  cases hint : inn d t
  · have hE : Hid (strayD d s t = d) := by show strayD d s t = d; unfold strayD; rw [hin, hint]; rfl
    rw [hint] at T2
    clear hS hr hin hint
    simp only [Bool.and_false, Bool.false_eq_true, if_false]
    go_enter Try.func47, Try.ntmps47
    go_wp2_with fail
    refine T.out.mono ?_
    rintro e u ⟨rfl, rfl⟩
    go_wp2_with fail
    refine T2.out.mono ?_
    rintro e u ⟨rfl, rfl⟩
    go_wp2_with fail
    go_ret
    exact ⟨rfl, m, by rw [hE.out]; exact HR.out, HS.out⟩
  rw [hint] at T2
  obtain ⟨hk, ha⟩ := at_get hin
  obtain ⟨h1, h2⟩ := inn_at hin
  obtain ⟨hkt, hat⟩ := at_get hint
  obtain ⟨h1t, h2t⟩ := inn_at hint
  have hE : Hid (strayD d s t = { d with places := d.places.set t.toNat { d.places[t.toNat] with rest := d.places[s.toNat].rest, lost := d.places[s.toNat].lost } }) := by
    show strayD d s t = _; unfold strayD; rw [hin, hint, ha, hat]; rfl
  have hkr : s.toNat < m.rests.length := by rw [hr.lr]; exact hk
  have hkl : s.toNat < m.losts.length := by rw [hr.ll]; exact hk
  have hktr : t.toNat < m.rests.length := by rw [hr.lr]; exact hkt
  obtain ⟨gr, cr, hv, _⟩ := own_form (mI_rests hS) (by omega)
  subst hv
  obtain ⟨gl, cl, hv, _⟩ := own_form (mI_losts hS) (by omega)
  subst hv
  have hml := hr.rest hkr hk
  have hrow := mI_rest hS hkr
  obtain ⟨va, vc, hvv, hz1, hz2⟩ := hrow.slice
  clear hz1 hz2
  rw [hml, Sec.h] at hvv
  have HRB := fun x hx => rstray_rel hr hkt x hk hx
  have hL := hr.lost hkl hk
  have hR1 := hr.lr; have hR3 := hr.ll
  have HRB := Lib.hid HRB
  have HD := Lib.hid hS.drew
  have HC := Lib.hid (copy_is d.places[s.toNat].rest.l m.rests[s.toNat].v _ HD.out (by have := mI_rest HD.out hkr; rw [hml] at this; exact this) (by rw [Sec.h]; omega))
  have c0 := (mI_box HD.out).cell 0
  simp only [mdC, List.getElem?_cons_zero, List.getElem?_cons_succ] at c0
  have y2 : w.drew.cell? ⟨gr, s.toNat, none⟩ = some m.rests[s.toNat].v := by rw [(mI_rests HD.out).cellAt _ (by omega), slices_get _ hkr]
  rw [hvv] at y2 HC
  obtain ⟨N, hN⟩ : ∃ N, d.places.length = N := ⟨_, rfl⟩
  rw [hR1, hN] at c0
  have h2' : s < (N : Int) := by omega
  have h2t' : t < (N : Int) := by omega
  have hN0 : (s.toNat : Int) = s := by omega
  have hN0t : (t.toNat : Int) = t := by omega
  rw [hN] at hR1 hR3
  have HKL := Lib.hid hkl
  have HKTR := Lib.hid hktr
  have HNK := Lib.hid hk
  have HL := Lib.hid hL
  clear ha hat hin hint hS hr hN hml hrow hvv hkr hktr hL h2 h2t
  generalize d.places[s.toNat] = p at *
  obtain ⟨pr, pm, plo⟩ := p
  dsimp only at *
  have h64 := pr.h
  clear HNK
  simp only [Bool.and_true, if_true]
  go_enter Try.func47, Try.ntmps47
  go_wp2_with fail
  refine T.out.mono ?_
  rintro e u ⟨rfl, rfl⟩
  go_wp2_with fail
  refine T2.out.mono ?_
  rintro e u ⟨rfl, rfl⟩
  clear T T2
  go_wp2_with fail
  refine wp_region_held_drew (S := (fun u : World => u.cell? ⟨g, 0, none⟩ = some (.slice (some ⟨gr, 0, none⟩) N cr))) (by kernel_rfl) (c0) (fun HS => ?_)
  refine handTake 0 (some 17) ?_ rfl rfl (by kernel_rfl) (by kernel_rfl) (by kernel_rfl) (fun _ _ _ h => h) (by rfl) ?_ HS ?_
  rotate_left
  · (intro u hu; (try dsimp only at hu); go_simp; try with_reducible rfl)
  simp only [Act.put, List.setIfInBounds_toArray, List.set_cons_zero, List.set_cons_succ]
  refine handTake 1 (some 18) ?_ rfl rfl (by kernel_rfl) (by kernel_rfl) (by kernel_rfl) (fun _ _ _ h => h) (by rfl) ?_ HS ?_
  rotate_left
  · (intro u hu; (try dsimp only at hu); go_simp; try with_reducible rfl)
  simp only [Act.put, List.setIfInBounds_toArray, List.set_cons_zero, List.set_cons_succ]
  refine handTake 2 (some 19) ?_ rfl rfl (by kernel_rfl) (by kernel_rfl) (by kernel_rfl) (fun _ _ _ h => h) (by rfl) ?_ HS ?_
  rotate_left
  · (intro u hu; (try dsimp only at hu); go_simp; try with_reducible rfl)
  simp only [Act.put, List.setIfInBounds_toArray, List.set_cons_zero, List.set_cons_succ]
  refine handTake 3 (some 20) ?_ rfl rfl (by kernel_rfl) (by kernel_rfl) (by kernel_rfl) (fun _ _ _ h => h) (by rfl) ?_ HS ?_
  rotate_left
  · (intro u hu; (try dsimp only at hu); go_simp; try with_reducible rfl)
  simp only [Act.put, List.setIfInBounds_toArray, List.set_cons_zero, List.set_cons_succ]
  refine handTake 4 (some 21) ?_ rfl rfl (by kernel_rfl) (by kernel_rfl) (by kernel_rfl) (fun _ _ _ h => h) (by rfl) ?_ HS ?_
  rotate_left
  · (intro u hu; (try dsimp only at hu); go_simp; try with_reducible rfl)
  simp only [Act.put, List.setIfInBounds_toArray, List.set_cons_zero, List.set_cons_succ]
  refine handTake 5 (some 22) ?_ rfl rfl (by kernel_rfl) (by kernel_rfl) (by kernel_rfl) (fun _ _ _ h => h) (by rfl) ?_ HS ?_
  rotate_left
  · (intro u hu; (try dsimp only at hu); go_simp; try with_reducible rfl)
  simp only [Act.put, List.setIfInBounds_toArray, List.set_cons_zero, List.set_cons_succ]
  refine handTake 6 (some 23) ?_ rfl rfl (by kernel_rfl) (by kernel_rfl) (by kernel_rfl) (fun _ _ _ h => h) (by rfl) ?_ HS ?_
  rotate_left
  · (intro u hu; (try dsimp only at hu); go_simp; try with_reducible rfl)
  simp only [Act.put, List.setIfInBounds_toArray, List.set_cons_zero, List.set_cons_succ]
  refine handTake 7 (some 24) ?_ rfl rfl (by kernel_rfl) (by kernel_rfl) (by kernel_rfl) (fun _ _ _ h => h) (by rfl) ?_ HS ?_
  rotate_left
  · (intro u hu; (try dsimp only at hu); go_simp; try with_reducible rfl)
  simp only [Act.put, List.setIfInBounds_toArray, List.set_cons_zero, List.set_cons_succ]
  refine handTake 8 (some 25) ?_ rfl rfl (by kernel_rfl) (by kernel_rfl) (by kernel_rfl) (fun _ _ _ h => h) (by rfl) ?_ HS ?_
  rotate_left
  · (intro u hu; (try dsimp only at hu); go_simp; try with_reducible rfl)
  simp only [Act.put, List.setIfInBounds_toArray, List.set_cons_zero, List.set_cons_succ]
  refine handTake 9 (some 26) ?_ rfl rfl (by kernel_rfl) (by kernel_rfl) (by kernel_rfl) (fun _ _ _ h => h) (by rfl) ?_ HS ?_
  rotate_left
  · (intro u hu; (try dsimp only at hu); go_simp; try with_reducible rfl)
  simp only [Act.put, List.setIfInBounds_toArray, List.set_cons_zero, List.set_cons_succ]
  refine handTake 10 (some 27) ?_ rfl rfl (by kernel_rfl) (by kernel_rfl) (by kernel_rfl) (fun _ _ _ h => h) (by rfl) ?_ HS ?_
  rotate_left
  · (intro u hu; (try dsimp only at hu); go_simp; try with_reducible rfl)
  simp only [Act.put, List.setIfInBounds_toArray, List.set_cons_zero, List.set_cons_succ]
  refine wpAnyH_ready (rs := [11]) (by kernel_rfl) (by simp) ?_
  refine AllReadyH.cons rfl (fun K hK => ?_) AllReadyH.nil
  clear HS
  go_simp
  refine hK.out _ _ (c0) (fun HS => ?_)
  clear hK
  try simp only [Act.put, List.setIfInBounds_toArray, List.set_cons_zero, List.set_cons_succ]
  refine wpAnyH_ready (rs := [12]) (by kernel_rfl) (by simp) ?_
  refine AllReadyH.cons rfl (fun K hK => ?_) AllReadyH.nil
  clear HS
  go_simp
  refine HC.out.mono ?_
  rintro e v1 ⟨x1, rfl, hs⟩
  obtain ⟨xa, xc, hxv, hz1, hz2⟩ := (rowB_row (base := w0.heap.size) (v := x1) (xs := pr.l) hs (by simp)).slice
  clear hz1 hz2
  rw [h64] at hxv
  subst hxv
  rw [List.append_assoc] at hs
  have HE : Hid (Sep w0 (mI w0.heap.size g (.slice (some ⟨gr, 0, none⟩) m.rests.length cr) mv (.slice (some ⟨gl, 0, none⟩) m.losts.length cl) wv m ++ (l ++ [brI w0.heap.size ⟨.slice xa 64 xc, pr.l⟩])) v1) := hs
  have hown := mI_rests HE.out
  have hcc : v1.cell? ⟨gr, t.toNat, none⟩ = some (m.rests[t.toNat]'HKTR.out).v := by rw [hown.cellAt _ (by have := HKTR.out; omega), slices_get]
  have hcf := hown.frozenAt t.toNat
  have HG : Hid (Sep w0 (mI w0.heap.size g (.slice (some ⟨gr, 0, none⟩) m.rests.length cr) mv (.slice (some ⟨gl, 0, none⟩) m.losts.length cl) wv (rsetR m t.toNat ⟨.slice xa 64 xc, pr.l⟩) ++ l) (v1.setCell ⟨gr, t.toNat, none⟩ (.slice xa 64 xc))) := mI_setR (m := m) (x := ⟨.slice xa 64 xc, pr.l⟩) HE.out (k := t.toNat) HKTR.out
  have cE := (mI_box HE.out).cell 0
  have cG := (mI_box HG.out).cell 0
  simp only [mdC, List.getElem?_cons_zero, List.getElem?_cons_succ] at cE cG
  rw [hR1] at cE cG
  clear hs hown HD c0 y2
  go_wp2_with fail
  refine hK.out _ _ (cE) (fun HS => ?_)
  clear hK
  try simp only [Act.put, List.setIfInBounds_toArray, List.set_cons_zero, List.set_cons_succ]
  refine handTake 13 (some 30) ?_ rfl rfl (by kernel_rfl) (by kernel_rfl) (by kernel_rfl) (fun _ _ _ h => h) (by rfl) ?_ HS ?_
  rotate_left
  · (intro u hu; (try dsimp only at hu); go_simp; try with_reducible rfl)
  simp only [Act.put, List.setIfInBounds_toArray, List.set_cons_zero, List.set_cons_succ]
  refine wpAnyH_ready (rs := [14]) (by kernel_rfl) (by simp) ?_
  refine AllReadyH.cons rfl (fun K hK => ?_) AllReadyH.nil
  clear HS
  go_simp
  refine hK.out _ _ (cG) (fun HS => ?_)
  clear hK
  try simp only [Act.put, List.setIfInBounds_toArray, List.set_cons_zero, List.set_cons_succ]
  refine wpAnyH_done (by kernel_rfl) ?_ _
  clear HS
  clear hcc hcf cE cG HC HE
  have HD2 := Lib.hid HG.out.drew
  clear HG
  have c2 := (mI_box HD2.out).cell 2
  simp only [mdC, List.getElem?_cons_zero, List.getElem?_cons_succ] at c2
  rw [hR3] at c2
  have hownl := mI_losts HD2.out
  obtain ⟨V, hV⟩ : ∃ V : World, V = (v1.setCell ⟨gr, t.toNat, none⟩ (.slice xa 64 xc)).drew := ⟨_, rfl⟩
  rw [← hV] at c2 hownl HD2
  have yl : V.cell? ⟨gl, s.toNat, none⟩ = some (.bool plo) := by
    have h5 : s.toNat < m.losts.length := HKL.out
    rw [hownl.cellAt _ (by omega), bools, List.getElem?_map]
    show ((m.losts[s.toNat]?).map _) = _
    rw [List.getElem?_eq_getElem h5, HL.out]; rfl
  have yf := hownl.frozenAt t.toNat
  have HF : Hid (Sep w0 (mI w0.heap.size g (.slice (some ⟨gr, 0, none⟩) m.rests.length cr) mv (.slice (some ⟨gl, 0, none⟩) m.losts.length cl) wv (rsetL (rsetR m t.toNat ⟨.slice xa 64 xc, pr.l⟩) t.toNat plo) ++ l) (V.setCell ⟨gl, t.toNat, none⟩ (.bool plo))) :=
    mI_setL (m := rsetR m t.toNat ⟨.slice xa 64 xc, pr.l⟩) HD2.out t.toNat plo
  have cF := (mI_box HF.out).cell 2
  simp only [mdC, List.getElem?_cons_zero, List.getElem?_cons_succ] at cF
  rw [hR3] at cF
  have yt : V.cell? ⟨gl, t.toNat, none⟩ = some (.bool (m.losts[t.toNat]'(by have := HKTR.out; omega))) := by
    rw [hownl.cellAt _ (by have := HKTR.out; omega), bools, List.getElem?_map]
    show ((m.losts[t.toNat]?).map _) = _
    rw [List.getElem?_eq_getElem (by have := HKTR.out; omega)]; rfl
  clear hownl HD2
  go_wp2_with fail
  refine wp_region_held_drew (S := (fun u : World => u.cell? ⟨g, 2, none⟩ = some (.slice (some ⟨gl, 0, none⟩) N cl))) (by kernel_rfl) (hV ▸ c2) (fun HS => ?_)
  rw [← hV] at HS ⊢
  clear hV
  refine handTake 0 (some 31) ?_ rfl rfl (by kernel_rfl) (by kernel_rfl) (by kernel_rfl) (fun _ _ _ h => h) (by rfl) ?_ HS ?_
  rotate_left
  · (intro u hu; (try dsimp only at hu); go_simp; try with_reducible rfl)
  simp only [Act.put, List.setIfInBounds_toArray, List.set_cons_zero, List.set_cons_succ]
  refine handTake 1 (some 32) ?_ rfl rfl (by kernel_rfl) (by kernel_rfl) (by kernel_rfl) (fun _ _ _ h => h) (by rfl) ?_ HS ?_
  rotate_left
  · (intro u hu; (try dsimp only at hu); go_simp; try with_reducible rfl)
  simp only [Act.put, List.setIfInBounds_toArray, List.set_cons_zero, List.set_cons_succ]
  refine handTake 2 (some 33) ?_ rfl rfl (by kernel_rfl) (by kernel_rfl) (by kernel_rfl) (fun _ _ _ h => h) (by rfl) ?_ HS ?_
  rotate_left
  · (intro u hu; (try dsimp only at hu); go_simp; try with_reducible rfl)
  simp only [Act.put, List.setIfInBounds_toArray, List.set_cons_zero, List.set_cons_succ]
  refine handTake 3 (some 34) ?_ rfl rfl (by kernel_rfl) (by kernel_rfl) (by kernel_rfl) (fun _ _ _ h => h) (by rfl) ?_ HS ?_
  rotate_left
  · (intro u hu; (try dsimp only at hu); go_simp; try with_reducible rfl)
  simp only [Act.put, List.setIfInBounds_toArray, List.set_cons_zero, List.set_cons_succ]
  refine handTake 4 (some 35) ?_ rfl rfl (by kernel_rfl) (by kernel_rfl) (by kernel_rfl) (fun _ _ _ h => h) (by rfl) ?_ HS ?_
  rotate_left
  · (intro u hu; (try dsimp only at hu); go_simp; try with_reducible rfl)
  simp only [Act.put, List.setIfInBounds_toArray, List.set_cons_zero, List.set_cons_succ]
  refine handTake 5 (some 36) ?_ rfl rfl (by kernel_rfl) (by kernel_rfl) (by kernel_rfl) (fun _ _ _ h => h) (by rfl) ?_ HS ?_
  rotate_left
  · (intro u hu; (try dsimp only at hu); go_simp; try with_reducible rfl)
  simp only [Act.put, List.setIfInBounds_toArray, List.set_cons_zero, List.set_cons_succ]
  refine handTake 6 (some 37) ?_ rfl rfl (by kernel_rfl) (by kernel_rfl) (by kernel_rfl) (fun _ _ _ h => h) (by rfl) ?_ HS ?_
  rotate_left
  · (intro u hu; (try dsimp only at hu); go_simp; try with_reducible rfl)
  simp only [Act.put, List.setIfInBounds_toArray, List.set_cons_zero, List.set_cons_succ]
  refine handTake 7 (some 38) ?_ rfl rfl (by kernel_rfl) (by kernel_rfl) (by kernel_rfl) (fun _ _ _ h => h) (by rfl) ?_ HS ?_
  rotate_left
  · (intro u hu; (try dsimp only at hu); go_simp; try with_reducible rfl)
  simp only [Act.put, List.setIfInBounds_toArray, List.set_cons_zero, List.set_cons_succ]
  refine handTake 8 (some 39) ?_ rfl rfl (by kernel_rfl) (by kernel_rfl) (by kernel_rfl) (fun _ _ _ h => h) (by rfl) ?_ HS ?_
  rotate_left
  · (intro u hu; (try dsimp only at hu); go_simp; try with_reducible rfl)
  simp only [Act.put, List.setIfInBounds_toArray, List.set_cons_zero, List.set_cons_succ]
  refine handTake 9 (some 40) ?_ rfl rfl (by kernel_rfl) (by kernel_rfl) (by kernel_rfl) (fun _ _ _ h => h) (by rfl) ?_ HS ?_
  rotate_left
  · (intro u hu; (try dsimp only at hu); go_simp; try with_reducible rfl)
  simp only [Act.put, List.setIfInBounds_toArray, List.set_cons_zero, List.set_cons_succ]
  refine handTake 10 (some 41) ?_ rfl rfl (by kernel_rfl) (by kernel_rfl) (by kernel_rfl) (fun _ _ _ h => h) (by rfl) ?_ HS ?_
  rotate_left
  · (intro u hu; (try dsimp only at hu); go_simp; try with_reducible rfl)
  simp only [Act.put, List.setIfInBounds_toArray, List.set_cons_zero, List.set_cons_succ]
  refine wpAnyH_ready (rs := [11]) (by kernel_rfl) (by simp) ?_
  refine AllReadyH.cons rfl (fun K hK => ?_) AllReadyH.nil
  clear HS
  go_simp
  refine hK.out _ _ (c2) (fun HS => ?_)
  clear hK
  try simp only [Act.put, List.setIfInBounds_toArray, List.set_cons_zero, List.set_cons_succ]
  refine handTake 12 (some 43) ?_ rfl rfl (by kernel_rfl) (by kernel_rfl) (by kernel_rfl) (fun _ _ _ h => h) (by rfl) ?_ HS ?_
  rotate_left
  · (intro u hu; (try dsimp only at hu); go_simp; try with_reducible rfl)
  simp only [Act.put, List.setIfInBounds_toArray, List.set_cons_zero, List.set_cons_succ]
  refine wpAnyH_ready (rs := [13]) (by kernel_rfl) (by simp) ?_
  refine AllReadyH.cons rfl (fun K hK => ?_) AllReadyH.nil
  clear HS
  go_simp
  refine hK.out _ _ (cF) (fun HS => ?_)
  clear hK
  try simp only [Act.put, List.setIfInBounds_toArray, List.set_cons_zero, List.set_cons_succ]
  refine wpAnyH_done (by kernel_rfl) ?_ _
  clear HS
  clear c2 cF yl yf yt
  go_wp2_with fail
  go_ret
  refine ⟨rfl, _, ?_, HF.out⟩
  rw [hE.out]
  exact HRB.out _ rfl
end Di
end Go.Proofs.Ytnjejffbcgchlaa
