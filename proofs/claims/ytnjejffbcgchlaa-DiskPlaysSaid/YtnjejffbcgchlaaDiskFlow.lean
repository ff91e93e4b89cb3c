/- Writes come through: through, Flush, Crash. -/
import Derived.Test.YtnjejffbcgchlaaDiskStray
set_option linter.unusedSimpArgs false
set_option linter.unusedVariables false
namespace Go.Proofs.Ytnjejffbcgchlaa
open Go.RowKit
namespace Di
theorem wpList_loadWr {ops : Array Oper} {rest : List Oper} {op : Oper} {a : Act} {w : World} {Q : Exit → Act → World → Prop} (hgd : op.guard = none) (x : Operand) (ho : op.op = .load 76 x)
    (g o : Nat) (hx : a.eval x = .pointer (some ⟨g, o, none⟩)) (p : Wr) (h : w.rangeAt g o (wrC p)) (hk : wpList Try.prog ops Q rest (a.put op.dst (.agg (wrC p).toArray)) w) : wpList Try.prog ops Q (op :: rest) a w :=
  wpList_load_mid hgd 76 x ho g o hx (wrC p) _ h Try.underlying76 rfl (by rw [wrC_len]; exact info_wsize) hk
theorem wpList_storeWr {ops : Array Oper} {rest : List Oper} {op : Oper} {a : Act} {w : World} {Q : Exit → Act → World → Prop} (hgd : op.guard = none) (x y : Operand) (ho : op.op = .store 76 x y)
    (g o : Nat) (p : Wr) (hx : a.eval x = .pointer (some ⟨g, o, none⟩)) (hy : a.eval y = .agg (wrC p).toArray) (ht : w.there g o 65)
    (h : wpList Try.prog ops Q rest (a.put op.dst undef) (w.setCells g o (wrC p))) : wpList Try.prog ops Q (op :: rest) a w :=
  wpList_store_mid hgd 76 x y ho g o (wrC p).toArray hx hy (by rw [List.size_toArray, wrC_len]; exact ht) (by rw [List.size_toArray, wrC_len]; exact info_wsize) (all_oneCell_toArray (wrC_one p)) (by simpa using h)
theorem wr_all {w : World} {base g cap : Nat} {l : List Wr} (h : w.ownsRow base 76 65 (.slice (some ⟨g, 0, none⟩) l.length cap) l.length (l.flatMap wrC)) {k : Nat} (hk : k < l.length) : w.rangeAt g (k * 65) (wrC l[k]) := fun j v hv => by
  have hj : j < 65 := by obtain ⟨h', _⟩ := List.getElem?_eq_some_iff.1 hv; rwa [wrC_len] at h'
  rw [own_elem wrC_len h hk hj]
  exact hv
theorem wr_setAll (p q : Wr) : midSets (wrC p) 0 (wrC q) = wrC q := by
  have := midSets_whole (wrC q) (wrC p) [] (by rw [wrC_len, wrC_len])
  simpa using this
/-- A new block holds a write. -/
theorem wr_new (wr : World) (x : Wr) : Whole ((wr.alloc (.cells (wrC wr0).toArray 76)).setCells wr.heap.size 0 (wrC x)) wr.heap.size 76 (wrC x) := by
  have := (Whole.new wr 76 (wrC wr0)).mids (wrC x) 0
  rw [wr_setAll] at this
  exact this
theorem new_below (wr : World) (o : Obj) (vs : List Value) : Below wr.heap.size wr ((wr.alloc o).setCells wr.heap.size 0 vs) :=
  (foot_mids (F := fun k => k = wr.heap.size) rfl _ _ ((Foot.refl _ wr).alloc _)).below (fun k hk => by omega) (Nat.le_refl _)
/-- No write waits any more. -/
theorem dI_clear {w0 u : World} {b : Nat} {pv wv : Value} {d : Dk} {l : List It} (h : Sep w0 (dI w0.heap.size b pv wv d ++ l) u) : Sep w0 (dI w0.heap.size b pv (.slice none 0 0) { d with waits := [] } ++ l) (u.setCell ⟨b, 1, none⟩ (.slice none 0 0)) := by
  have h1 : Sep w0 (.box b 54 (dkC pv (.slice none 0 0) d) :: .row w0.heap.size 82 129 pv d.places.length (d.places.flatMap plC) :: .row w0.heap.size 76 65 wv d.waits.length (d.waits.flatMap wrC) :: l) (u.setCell ⟨b, 1, none⟩ (.slice none 0 0)) :=
    Sep.set h 1 (.slice none 0 0)
  have h2 := ((h1.perm ((List.Perm.swap _ _ _).trans (List.Perm.cons _ (List.Perm.swap _ _ _)) |>.trans (List.Perm.swap _ _ _))).tail)
  exact ((h2.empty w0.heap.size 76 65).perm ((List.Perm.swap _ _ _).trans (List.Perm.cons _ (List.Perm.swap _ _ _)) |>.trans (List.Perm.swap _ _ _)))

set_option maxRecDepth 100000 in
set_option maxHeartbeats 4000000 in
theorem through_keep {is : Nat → Bool} (d : Dk) (ho : Ok d) (b : Nat) (pv wv : Value) (kb : Nat) {w0 : World} {l : List It} (w : World) (hS : Sep w0 (dI w0.heap.size b pv wv d ++ l) w)
    (hF : ∀ (a : List It) (u : World) (k : Nat), k ≤ 9223372036854775807 → Sep w0 (a ++ l) u → Calls Try.prog 38 #[.int .i64 k, .pointer (some ⟨kb, 0, none⟩)] u fun e w' => e = .returned (.bool (is k)) ∧ u = w') :
    Calls Try.prog 37 #[.pointer (some ⟨b, 0, none⟩), .func (.func 38) #[] #[.pointer (some ⟨kb, 0, none⟩)]] w fun e w' => e = .returned (.tuple #[]) ∧ Sep w0 (dI w0.heap.size b pv (.slice none 0 0) (through d is) ++ l) w' := by
  obtain ⟨gb, c, rfl⟩ := dI_pv hS ho.some
  obtain ⟨A, c', rfl, hc1, hc2⟩ := (Row.of_own (dI_waits hS)).slice
  have hbd : d.waits.length ≤ 9223372036854775807 := by unfold maxLen at hc2; omega
  have hW := dI_box hS
  have c1 := hW.cell 1
  simp only [dkC, List.getElem?_cons_zero, List.getElem?_cons_succ] at c1
  have HS := Lib.hid hS
  have HF := Lib.hid hF
  have HTO := Lib.hid ho.to
  obtain ⟨M, hMl⟩ : ∃ M, d.waits.length = M := ⟨_, rfl⟩
  rw [hMl] at c1 hbd
  obtain ⟨N, hNl⟩ : ∃ N, d.places.length = N := ⟨_, rfl⟩
  have HM := Lib.hid hMl
  have HN := Lib.hid hNl
  clear hS hF hW ho hMl hNl hc1 hc2
  go_enter Try.func37, Try.ntmps37
  go_wp2_with fail
  go_loopw [11] (fun i wr => ∃ k : Nat, k ≤ M ∧ i = .int .i64 k ∧ Sep w0 (dI w0.heap.size b (.slice (some ⟨gb, 0, none⟩) d.places.length c) (.slice A d.waits.length c') { d with places := thr is 0 (d.waits.take k) d.places } ++ l) wr) (fun i _ => M - (intOf i).toNat)
  case atStart => exact ⟨0, Nat.zero_le _, rfl, by rw [List.take_zero]; exact HS.out⟩
  case round =>
    obtain ⟨k, hk, rfl, hs⟩ := hrel
    have HS1 := Lib.hid hs
    clear hs c1
    by_cases hlt : k < M
    · have hlt' : k < d.waits.length := by rw [HM.out]; exact hlt
      have hw1 := dI_waits HS1.out
      obtain ⟨rb, c2, hv, _⟩ := own_form hw1 (by show 0 < d.waits.length; omega)
      injection hv with hv1 _ hv2
      subst hv1 hv2
      have hA := Lib.hid (wr_all hw1 hlt')
      have hsec : (d.waits[k]).sector < N := by rw [← HN.out]; exact HTO.out _ (List.getElem_mem hlt')
      have hthr : Hid (thr is 0 (d.waits.take (k + 1)) d.places = if is k then come (thr is 0 (d.waits.take k) d.places) d.waits[k] else thr is 0 (d.waits.take k) d.places) := by
        show thr is 0 (d.waits.take (k + 1)) d.places = _
        rw [List.take_succ_eq_append_getElem hlt', thr_snoc, List.length_take, Nat.zero_add, Nat.min_eq_left (by omega)]
      have hlen : Hid ((thr is 0 (d.waits.take k) d.places).length = N) := by rw [← HN.out]; exact thr_len _ _ _ _
      generalize thr is 0 (d.waits.take k) d.places = ps at *
      generalize d.waits[k] = x at *
      have HV : Hid (Whole (wr.alloc (.cells (wrC wr0).toArray 76)) wr.heap.size 76 (wrC wr0)) := Whole.new _ _ _
      clear hw1 hlt'
      go_wp2_with (first
        | (with_reducible refine wpList_loadWr rfl (.tmp 14) rfl rb _ rfl x hA.out ?_)
        | (with_reducible refine wpList_go rfl _ _ (exec_alloc_wr rfl) ?_)
        | (with_reducible refine wpList_storeWr rfl (.tmp 5) (.tmp 15) rfl wr.heap.size 0 x rfl rfl (HV.out.there 0 65 (by rw [wrC_len]; omega)) ?_))
      obtain ⟨V, hV⟩ : ∃ V : World, V = (wr.alloc (.cells (wrC wr0).toArray 76)).setCells wr.heap.size 0 (wrC x) := ⟨_, rfl⟩
      have HVV := Lib.hid (wr_new wr x)
      have HS2 := Lib.hid (HS1.out.call (new_below wr (.cells (wrC wr0).toArray 76) (wrC x)))
      rw [← hV] at HVV HS2 ⊢
      clear hV HV hA HS1
      have hk9 : k ≤ 9223372036854775807 := by omega
      refine (HF.out _ V k hk9 HS2.out).mono ?_
      rintro e u ⟨rfl, rfl⟩
      cases hk' : is k
      · rw [hk'] at hthr
        have HTH := Lib.hid hthr.out
        clear hthr HVV
        go_wp2_with fail
        go_round
        · exact ⟨k + 1, by omega, by go_num, by rw [HTH.out]; exact HS2.out⟩
        · show M - ((k : Int) + 1).toNat < M - (k : Int).toNat; omega
      · rw [hk'] at hthr
        have HTH := Lib.hid hthr.out
        clear hthr
        have HW2 := dI_box HS2.out
        have d0 := HW2.cell 0
        simp only [dkC, List.getElem?_cons_zero] at d0
        have hr2 : Hid (V.rangeAt wr.heap.size 0 (secC x.bytes)) := fun j v hv => by
          have hj : j < 64 := by obtain ⟨h', _⟩ := List.getElem?_eq_some_iff.1 hv; rwa [secC_len] at h'
          rw [Nat.zero_add, HVV.out.cell, wrC, List.getElem?_append_left (by rw [secC_len]; exact hj)]
          exact hv
        have hs2 : V.cell? ⟨wr.heap.size, 64, none⟩ = some (.int .i64 (x.sector : Int)) := by
          rw [HVV.out.cell, wrC, List.getElem?_append_right (by rw [secC_len]; omega), secC_len]
          rfl
        have HP2 : Hid (V.ownsRow w0.heap.size 82 129 (.slice (some ⟨gb, 0, none⟩) ps.length c) ps.length (ps.flatMap plC)) := by
          have := dI_places HS2.out
          have e1 : d.places.length = ps.length := by rw [hlen.out, HN.out]
          rw [e1] at this
          exact this
        have hkl : Hid (x.sector < ps.length) := by show x.sector < ps.length; rw [hlen.out]; exact hsec
        have hth : Hid (V.drew.there gb (x.sector * 129) 129) := place_there HP2.out x.sector hkl.out 0 129 (by omega)
        have HR := Lib.hid (place_set (w := V.drew) HP2.out x.sector hkl.out 0 (plC ⟨x.bytes, x.bytes, false⟩) (by rw [plC_len]; omega) _ (pl_setAll _ _))
        rw [HN.out] at d0
        have hs0 : (0 : Int) ≤ (x.sector : Int) := by omega
        have hs1 : (x.sector : Int) < (N : Int) := by omega
        clear HVV HW2
        obtain ⟨sb, sn⟩ := x
        dsimp only at *
        go_wp2_with fail
        refine wp_region_still_tail 12 (by kernel_rfl) (by kernel_rfl) ?_
        simp only [List.take_succ_cons, List.take_zero, List.drop_succ_cons, List.drop_zero]
        refine wpStill_step (fun K hK => ?_)
        go_simp
        refine hK _ ?_
        clear hK K
        refine wpStill_step (fun K hK => ?_)
        go_simp
        refine hK _ ?_
        clear hK K
        refine wpStill_step (fun K hK => ?_)
        go_simp
        refine hK _ ?_
        clear hK K
        refine wpStill_step (fun K hK => ?_)
        go_simp
        refine hK _ ?_
        clear hK K
        refine wpStill_step (fun K hK => ?_)
        go_simp
        refine hK _ ?_
        clear hK K
        refine wpStill_step (fun K hK => ?_)
        go_simp
        refine hK _ ?_
        clear hK K
        refine wpStill_step (fun K hK => ?_)
        go_simp
        refine hK _ ?_
        clear hK K
        refine still_value rfl _ (exec_loadSec _ rfl wr.heap.size 0 rfl sb (show V.drew.rangeAt _ _ _ from hr2.out)) ?_
        refine wpStill_step (fun K hK => ?_)
        go_simp
        refine hK _ ?_
        clear hK K
        refine still_value rfl _ (exec_loadSec _ rfl wr.heap.size 0 rfl sb (show V.drew.rangeAt _ _ _ from hr2.out)) ?_
        refine still_value rfl _ (exec_build_pl _ _ rfl sb sb rfl rfl) ?_
        refine wpStill_step (fun K hK => ?_)
        go_simp
        refine hK _ ?_
        clear hK K
        refine wpStill_nil ?_
        refine wpList_storePl rfl (.tmp 30) (.tmp 29) rfl gb (sn * 129) ⟨sb, sb, false⟩ rfl rfl hth.out ?_
        go_wp2_with fail
        go_round
        · refine ⟨k + 1, by omega, by go_num, ?_⟩
          rw [HTH.out]
          simp only [if_true]
          have h2 : d.places.length = ps.length := by rw [hlen.out, HN.out]
          have h3 := HS2.out.drew
          rw [h2] at h3
          have h4 := dI_turn (d := { d with places := ps }) h3 (foot_mids (F := fun k => k = gb) rfl (plC ⟨sb, sb, false⟩) (sn * 129) (Foot.refl _ V.drew)) sn ⟨sb, sb, false⟩ HR.out
          rw [← h2] at h4
          exact h4
        · show M - ((k : Int) + 1).toNat < M - (k : Int).toNat; omega
    · have hkM : k = M := by omega
      subst hkM
      have HW2 := dI_box HS1.out
      have d1 := HW2.cell 1; have f1 := HW2.free 1
      simp only [dkC, List.getElem?_cons_zero, List.getElem?_cons_succ] at d1
      clear HW2
      rw [HM.out] at d1
      go_wp2_with fail
      go_end0
      refine ⟨rfl, ?_⟩
      have h2 := HS1.out
      rw [← HM.out, List.take_length] at h2
      exact dI_clear h2

set_option maxRecDepth 100000 in
set_option maxHeartbeats 4000000 in
theorem through_all {is : Nat → Bool} (d : Dk) (ho : Ok d) (b : Nat) (pv wv : Value) {w0 : World} {l : List It} (w : World) (hS : Sep w0 (dI w0.heap.size b pv wv d ++ l) w)
    (hF : ∀ (a : List It) (u : World) (k : Nat), k ≤ 9223372036854775807 → Sep w0 (a ++ l) u → Calls Try.prog 39 #[.int .i64 k] u fun e w' => e = .returned (.bool (is k)) ∧ u = w') :
    Calls Try.prog 37 #[.pointer (some ⟨b, 0, none⟩), .func (.func 39) #[] #[]] w fun e w' => e = .returned (.tuple #[]) ∧ Sep w0 (dI w0.heap.size b pv (.slice none 0 0) (through d is) ++ l) w' := by
  obtain ⟨gb, c, rfl⟩ := dI_pv hS ho.some
  obtain ⟨A, c', rfl, hc1, hc2⟩ := (Row.of_own (dI_waits hS)).slice
  have hbd : d.waits.length ≤ 9223372036854775807 := by unfold maxLen at hc2; omega
  have hW := dI_box hS
  have c1 := hW.cell 1
  simp only [dkC, List.getElem?_cons_zero, List.getElem?_cons_succ] at c1
  have HS := Lib.hid hS
  have HF := Lib.hid hF
  have HTO := Lib.hid ho.to
  obtain ⟨M, hMl⟩ : ∃ M, d.waits.length = M := ⟨_, rfl⟩
  rw [hMl] at c1 hbd
  obtain ⟨N, hNl⟩ : ∃ N, d.places.length = N := ⟨_, rfl⟩
  have HM := Lib.hid hMl
  have HN := Lib.hid hNl
  clear hS hF hW ho hMl hNl hc1 hc2
  go_enter Try.func37, Try.ntmps37
  go_wp2_with fail
  go_loopw [11] (fun i wr => ∃ k : Nat, k ≤ M ∧ i = .int .i64 k ∧ Sep w0 (dI w0.heap.size b (.slice (some ⟨gb, 0, none⟩) d.places.length c) (.slice A d.waits.length c') { d with places := thr is 0 (d.waits.take k) d.places } ++ l) wr) (fun i _ => M - (intOf i).toNat)
  case atStart => exact ⟨0, Nat.zero_le _, rfl, by rw [List.take_zero]; exact HS.out⟩
  case round =>
    obtain ⟨k, hk, rfl, hs⟩ := hrel
    have HS1 := Lib.hid hs
    clear hs c1
    by_cases hlt : k < M
    · have hlt' : k < d.waits.length := by rw [HM.out]; exact hlt
      have hw1 := dI_waits HS1.out
      obtain ⟨rb, c2, hv, _⟩ := own_form hw1 (by show 0 < d.waits.length; omega)
      injection hv with hv1 _ hv2
      subst hv1 hv2
      have hA := Lib.hid (wr_all hw1 hlt')
      have hsec : (d.waits[k]).sector < N := by rw [← HN.out]; exact HTO.out _ (List.getElem_mem hlt')
      have hthr : Hid (thr is 0 (d.waits.take (k + 1)) d.places = if is k then come (thr is 0 (d.waits.take k) d.places) d.waits[k] else thr is 0 (d.waits.take k) d.places) := by
        show thr is 0 (d.waits.take (k + 1)) d.places = _
        rw [List.take_succ_eq_append_getElem hlt', thr_snoc, List.length_take, Nat.zero_add, Nat.min_eq_left (by omega)]
      have hlen : Hid ((thr is 0 (d.waits.take k) d.places).length = N) := by rw [← HN.out]; exact thr_len _ _ _ _
      generalize thr is 0 (d.waits.take k) d.places = ps at *
      generalize d.waits[k] = x at *
      have HV : Hid (Whole (wr.alloc (.cells (wrC wr0).toArray 76)) wr.heap.size 76 (wrC wr0)) := Whole.new _ _ _
      clear hw1 hlt'
      go_wp2_with (first
        | (with_reducible refine wpList_loadWr rfl (.tmp 14) rfl rb _ rfl x hA.out ?_)
        | (with_reducible refine wpList_go rfl _ _ (exec_alloc_wr rfl) ?_)
        | (with_reducible refine wpList_storeWr rfl (.tmp 5) (.tmp 15) rfl wr.heap.size 0 x rfl rfl (HV.out.there 0 65 (by rw [wrC_len]; omega)) ?_))
      obtain ⟨V, hV⟩ : ∃ V : World, V = (wr.alloc (.cells (wrC wr0).toArray 76)).setCells wr.heap.size 0 (wrC x) := ⟨_, rfl⟩
      have HVV := Lib.hid (wr_new wr x)
      have HS2 := Lib.hid (HS1.out.call (new_below wr (.cells (wrC wr0).toArray 76) (wrC x)))
      rw [← hV] at HVV HS2 ⊢
      clear hV HV hA HS1
      have hk9 : k ≤ 9223372036854775807 := by omega
      refine (HF.out _ V k hk9 HS2.out).mono ?_
      rintro e u ⟨rfl, rfl⟩
      cases hk' : is k
      · rw [hk'] at hthr
        have HTH := Lib.hid hthr.out
        clear hthr HVV
        go_wp2_with fail
        go_round
        · exact ⟨k + 1, by omega, by go_num, by rw [HTH.out]; exact HS2.out⟩
        · show M - ((k : Int) + 1).toNat < M - (k : Int).toNat; omega
      · rw [hk'] at hthr
        have HTH := Lib.hid hthr.out
        clear hthr
        have HW2 := dI_box HS2.out
        have d0 := HW2.cell 0
        simp only [dkC, List.getElem?_cons_zero] at d0
        have hr2 : Hid (V.rangeAt wr.heap.size 0 (secC x.bytes)) := fun j v hv => by
          have hj : j < 64 := by obtain ⟨h', _⟩ := List.getElem?_eq_some_iff.1 hv; rwa [secC_len] at h'
          rw [Nat.zero_add, HVV.out.cell, wrC, List.getElem?_append_left (by rw [secC_len]; exact hj)]
          exact hv
        have hs2 : V.cell? ⟨wr.heap.size, 64, none⟩ = some (.int .i64 (x.sector : Int)) := by
          rw [HVV.out.cell, wrC, List.getElem?_append_right (by rw [secC_len]; omega), secC_len]
          rfl
        have HP2 : Hid (V.ownsRow w0.heap.size 82 129 (.slice (some ⟨gb, 0, none⟩) ps.length c) ps.length (ps.flatMap plC)) := by
          have := dI_places HS2.out
          have e1 : d.places.length = ps.length := by rw [hlen.out, HN.out]
          rw [e1] at this
          exact this
        have hkl : Hid (x.sector < ps.length) := by show x.sector < ps.length; rw [hlen.out]; exact hsec
        have hth : Hid (V.drew.there gb (x.sector * 129) 129) := place_there HP2.out x.sector hkl.out 0 129 (by omega)
        have HR := Lib.hid (place_set (w := V.drew) HP2.out x.sector hkl.out 0 (plC ⟨x.bytes, x.bytes, false⟩) (by rw [plC_len]; omega) _ (pl_setAll _ _))
        rw [HN.out] at d0
        have hs0 : (0 : Int) ≤ (x.sector : Int) := by omega
        have hs1 : (x.sector : Int) < (N : Int) := by omega
        clear HVV HW2
        obtain ⟨sb, sn⟩ := x
        dsimp only at *
        go_wp2_with fail
        refine wp_region_still_tail 12 (by kernel_rfl) (by kernel_rfl) ?_
        simp only [List.take_succ_cons, List.take_zero, List.drop_succ_cons, List.drop_zero]
        refine wpStill_step (fun K hK => ?_)
        go_simp
        refine hK _ ?_
        clear hK K
        refine wpStill_step (fun K hK => ?_)
        go_simp
        refine hK _ ?_
        clear hK K
        refine wpStill_step (fun K hK => ?_)
        go_simp
        refine hK _ ?_
        clear hK K
        refine wpStill_step (fun K hK => ?_)
        go_simp
        refine hK _ ?_
        clear hK K
        refine wpStill_step (fun K hK => ?_)
        go_simp
        refine hK _ ?_
        clear hK K
        refine wpStill_step (fun K hK => ?_)
        go_simp
        refine hK _ ?_
        clear hK K
        refine wpStill_step (fun K hK => ?_)
        go_simp
        refine hK _ ?_
        clear hK K
        refine still_value rfl _ (exec_loadSec _ rfl wr.heap.size 0 rfl sb (show V.drew.rangeAt _ _ _ from hr2.out)) ?_
        refine wpStill_step (fun K hK => ?_)
        go_simp
        refine hK _ ?_
        clear hK K
        refine still_value rfl _ (exec_loadSec _ rfl wr.heap.size 0 rfl sb (show V.drew.rangeAt _ _ _ from hr2.out)) ?_
        refine still_value rfl _ (exec_build_pl _ _ rfl sb sb rfl rfl) ?_
        refine wpStill_step (fun K hK => ?_)
        go_simp
        refine hK _ ?_
        clear hK K
        refine wpStill_nil ?_
        refine wpList_storePl rfl (.tmp 30) (.tmp 29) rfl gb (sn * 129) ⟨sb, sb, false⟩ rfl rfl hth.out ?_
        go_wp2_with fail
        go_round
        · refine ⟨k + 1, by omega, by go_num, ?_⟩
          rw [HTH.out]
          simp only [if_true]
          have h2 : d.places.length = ps.length := by rw [hlen.out, HN.out]
          have h3 := HS2.out.drew
          rw [h2] at h3
          have h4 := dI_turn (d := { d with places := ps }) h3 (foot_mids (F := fun k => k = gb) rfl (plC ⟨sb, sb, false⟩) (sn * 129) (Foot.refl _ V.drew)) sn ⟨sb, sb, false⟩ HR.out
          rw [← h2] at h4
          exact h4
        · show M - ((k : Int) + 1).toNat < M - (k : Int).toNat; omega
    · have hkM : k = M := by omega
      subst hkM
      have HW2 := dI_box HS1.out
      have d1 := HW2.cell 1; have f1 := HW2.free 1
      simp only [dkC, List.getElem?_cons_zero, List.getElem?_cons_succ] at d1
      clear HW2
      rw [HM.out] at d1
      go_wp2_with fail
      go_end0
      refine ⟨rfl, ?_⟩
      have h2 := HS1.out
      rw [← HM.out, List.take_length] at h2
      exact dI_clear h2
end Di
end Go.Proofs.Ytnjejffbcgchlaa
