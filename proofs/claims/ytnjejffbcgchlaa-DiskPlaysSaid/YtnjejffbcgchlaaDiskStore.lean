/- Faults: Lose, Flip, Stray. -/
import Derived.Test.YtnjejffbcgchlaaDiskTurn
set_option linter.unusedSimpArgs false
set_option linter.unusedVariables false
namespace Go.Proofs.Ytnjejffbcgchlaa
open Go.RowKit

/-- The first thing, a row, has other cells. -/
theorem Sep.rowTurn {w0 u u' : World} {l : List It} {base : Nat} {e : TypeId} {K : Nat} {v : Value} {n n' : Nat} {xs xs' : List Value} (h : Sep w0 (.row base e K v n xs :: l) u) (hf : Foot (fun k => v.ownBlock = some k) u u') (hr : u'.ownsRow base e K v n' xs') : Sep w0 (.row base e K v n' xs' :: l) u' :=
  Sep.turn (a := [.row base e K v n xs]) (a' := [.row base e K v n' xs']) h hf (fun k hk => .inl ⟨_, List.mem_singleton.2 rfl, hk⟩)
    (by intro x hx; rw [List.mem_singleton.1 hx]; exact hr) (by intro x hx k hk; rw [List.mem_singleton.1 hx] at hk; exact .inl ⟨_, List.mem_singleton.2 rfl, hk⟩) (by simp)
theorem midSets_drop : ∀ (vs cs ds : List Value) (o : Nat), cs.length = o → midSets (cs ++ ds) o vs = cs ++ midSets ds 0 vs := by
  intro vs cs ds o h
  have := midSets_append_right vs cs ds 0
  rw [h, Nat.add_zero] at this
  exact this
theorem midSets_app : ∀ (vs cs ds : List Value) (o : Nat), o + vs.length ≤ cs.length → midSets (cs ++ ds) o vs = midSets cs o vs ++ ds
  | [], _, _, _, _ => rfl
  | v :: r, cs, ds, o, h => by
    simp only [List.length_cons] at h
    rw [midSets, midSets, List.set_append_left _ _ (by omega), midSets_app r _ _ _ (by simp; omega)]
/-- A part of the k-th element is written. -/
theorem flat_part {α : Type} {f : α → List Value} {K : Nat} (hf : ∀ a, (f a).length = K) (o : Nat) (vs : List Value) (ho : o + vs.length ≤ K) (a : α) : ∀ (l : List α) (k : Nat) (h : k < l.length), midSets (f l[k]) o vs = f a → midSets (l.flatMap f) (k * K + o) vs = (l.set k a).flatMap f
  | [], k, h, _ => by simp at h
  | b :: l, 0, _, he => by
    rw [List.flatMap_cons, Nat.zero_mul, Nat.zero_add, midSets_app _ _ _ _ (by rw [hf]; exact ho), List.set_cons_zero, List.flatMap_cons]
    congr 1
  | b :: l, k + 1, h, he => by
    have := midSets_append_right vs (f b) (l.flatMap f) (k * K + o)
    rw [hf] at this
    rw [List.flatMap_cons, show (k + 1) * K + o = K + (k * K + o) by rw [Nat.succ_mul]; omega, this, flat_part hf o vs ho a l k (by simpa using h) he, List.set_cons_succ, List.flatMap_cons]

namespace Di
theorem pl_setLost (p : Pl) (x : Bool) : midSets (plC p) 128 [.bool x] = plC { p with lost := x } := by
  unfold plC
  rw [← List.append_assoc, midSets_drop [.bool x] (secC p.rest ++ secC p.meant) [.bool p.lost] 128 (by simp [secC_len]), List.append_assoc]
  rfl
theorem pl_setRest (p : Pl) (s : Sec) : midSets (plC p) 0 (secC s) = plC { p with rest := s } := by
  unfold plC
  rw [midSets_whole _ _ _ (by rw [secC_len, secC_len])]
theorem pl_setAll (p q : Pl) : midSets (plC p) 0 (plC q) = plC q := by
  have := midSets_whole (plC q) (plC p) [] (by rw [plC_len, plC_len])
  simpa using this
theorem pl_setBit (p : Pl) (k : Nat) (hk : k < 64) (x : Int) (s : Sec) (hs : s.l = p.rest.l.set k x) : midSets (plC p) k [.int .u8 x] = plC { p with rest := s } := by
  unfold plC
  rw [midSets_app _ _ _ _ (by rw [secC_len, List.length_singleton]; omega)]
  congr 1
  show (secC p.rest).set k (.int .u8 x) = secC s
  unfold secC u8s
  rw [hs, List.map_set]

/-- A place was turned. -/
theorem dI_turn {w0 u u' : World} {base b g c : Nat} {wv : Value} {d : Dk} {l : List It} (h : Sep w0 (dI base b (.slice (some ⟨g, 0, none⟩) d.places.length c) wv d ++ l) u) (hf : Foot (fun j => j = g) u u') (k : Nat) (p : Pl)
    (hr : u'.ownsRow base 82 129 (.slice (some ⟨g, 0, none⟩) d.places.length c) d.places.length ((d.places.set k p).flatMap plC)) : Sep w0 (dI base b (.slice (some ⟨g, 0, none⟩) d.places.length c) wv { d with places := d.places.set k p } ++ l) u' := by
  have h1 : Sep w0 (.row base 82 129 (.slice (some ⟨g, 0, none⟩) d.places.length c) d.places.length (d.places.flatMap plC) :: .box b 54 (dkC (.slice (some ⟨g, 0, none⟩) d.places.length c) wv d) :: .row base 76 65 wv d.waits.length (d.waits.flatMap wrC) :: l) u := Sep.exch h
  have h2 := h1.rowTurn (hf.mono (fun k hk => by subst hk; rfl)) hr
  have h3 := h2.exch
  unfold dI
  rw [List.length_set]
  exact h3
theorem place_set {w : World} {base g c : Nat} {l : List Pl} (h : w.ownsRow base 82 129 (.slice (some ⟨g, 0, none⟩) l.length c) l.length (l.flatMap plC)) (k : Nat) (hk : k < l.length) (o : Nat) (vs : List Value) (ho : o + vs.length ≤ 129) (p : Pl) (he : midSets (plC l[k]) o vs = plC p) :
    (w.setCells g (k * 129 + o) vs).ownsRow base 82 129 (.slice (some ⟨g, 0, none⟩) l.length c) l.length ((l.set k p).flatMap plC) := by
  rw [← flat_part plC_len o vs ho p l k hk he]
  exact own_mids vs _ h

set_option maxHeartbeats 1000000 in
theorem lose_is (d : Dk) (ho : Ok d) (s : Int) (b : Nat) (pv wv : Value) {w0 : World} {l : List It} (w : World) (hS : Sep w0 (dI w0.heap.size b pv wv d ++ l) w) :
    Calls Try.prog 32 #[.pointer (some ⟨b, 0, none⟩), .int .i64 s] w fun e w' => e = .returned (.int .i64 (thereE d [s])) ∧ Sep w0 (dI w0.heap.size b pv wv (loseD d s) ++ l) w' := by
  obtain ⟨gb, c, rfl⟩ := dI_pv hS ho.some
  have hS1 := hS.fresh (.cells #[.int .i64 s] 3)
  have hW := dI_box hS1
  have c0 := hW.cell 0
  simp only [dkC, List.getElem?_cons_zero] at c0
  have T := Lib.hid (there_is [s] d ho.some b (w.heap.size + 1) _ _ _ _ c0 (Row.blk (Whole.new w 3 [.int .i64 s]) rfl (by omega) (by simp [maxLen])))
  have HS := Lib.hid hS1
  have HP := Lib.hid (dI_places hS1)
  clear hS hS1 hW ho
  rw [there_one] at T ⊢
  cases hin : inn d s
  · have hE : Hid (loseD d s = d) := by show loseD d s = d; unfold loseD; rw [hin]; rfl
    rw [hin] at T
    simp only [Bool.false_eq_true, if_false] at T ⊢
    go_enter Try.func32, Try.ntmps32
    go_wp2_with fail
    refine T.out.mono ?_
    rintro e u ⟨rfl, rfl⟩
    go_wp2_with fail
    go_ret
    refine ⟨rfl, ?_⟩
    rw [hE.out]
    exact HS.out
  · obtain ⟨hk, ha⟩ := at_get hin
    obtain ⟨h1, h2⟩ := inn_at hin
    have hZ := pl_lost HP.out hk
    have hf := HP.out.frozenAt (s.toNat * 129 + 128)
    have hE : Hid (loseD d s = { d with places := d.places.set s.toNat { d.places[s.toNat] with lost := true } }) := by show loseD d s = _; unfold loseD; rw [hin, ha]; rfl
    have HK := Lib.hid hk
    rw [hin] at T
    simp only [if_true] at T ⊢
    generalize d.places[s.toNat].lost = wasl at hZ
    clear ha hin
    go_enter Try.func32, Try.ntmps32
    go_wp2_with fail
    refine T.out.mono ?_
    rintro e u ⟨rfl, rfl⟩
    go_wp2_with fail
    go_ret
    refine ⟨rfl, ?_⟩
    rw [hE.out]
    exact dI_turn HS.out ((Foot.refl (fun j => j = gb) _).set (p := ⟨gb, s.toNat * 129 + 128, none⟩) (.inl rfl) _) _ _ (place_set HP.out _ HK.out 128 [.bool true] (by simp) _ (pl_setLost _ true))

theorem still_value {P : Program} {ops : Array Oper} {w : World} {Q : Act → Prop} {a : Act} {o : Oper} {rest : List Oper} (hgd : o.guard = none) (v : Value) (hx : (execOp a.eval o).run P w = .ok (.value v) w) (h : wpStill P ops w Q rest (a.put o.dst v)) : wpStill P ops w Q (o :: rest) a := by
  unfold wpStill
  rw [if_pos (by simp [Region.wanted, hgd])]
  unfold Oper.still
  rw [hx, Oper.stillUpon_value]
  exact h
theorem wpList_value {P : Program} {ops : Array Oper} {rest : List Oper} {o : Oper} {a : Act} {w : World} {Q : Exit → Act → World → Prop} (hgd : o.guard = none) (v : Value) (hx : (execOp a.eval o).run P w = .ok (.value v) w) (h : wpList P ops Q rest (a.put o.dst v) w) : wpList P ops Q (o :: rest) a w :=
  wpList_plain hgd fun K hK => by
    unfold Oper.wp
    rw [hx]
    exact hK _ _ h
theorem exec_loadSec {op : Oper} {a : Act} {w : World} (x : Operand) (ho : op.op = .load 74 x) (g o : Nat) (hx : a.eval x = .pointer (some ⟨g, o, none⟩)) (s : Sec) (h : w.rangeAt g o (secC s)) :
    (execOp a.eval op).run Try.prog w = .ok (.value (.agg (secC s).toArray)) w := by
  unfold execOp
  simp only [ho, hx, Instr.loadAt, Instr.sureAddr, Sem.run_bind, Sem.run_pure, Result.andThen_ok, run_loadVar_mid (P := Try.prog) w g o 74 (secC s) _ h Try.underlying74 rfl (by rw [secC_len]; exact info_bsize)]
theorem info_psize : (Try.prog.info? 82).map (·.size) = some 129 := by kernel_rfl
theorem info_wsize : (Try.prog.info? 76).map (·.size) = some 65 := by kernel_rfl
theorem wpList_loadPl {ops : Array Oper} {rest : List Oper} {op : Oper} {a : Act} {w : World} {Q : Exit → Act → World → Prop} (hgd : op.guard = none) (x : Operand) (ho : op.op = .load 82 x)
    (g o : Nat) (hx : a.eval x = .pointer (some ⟨g, o, none⟩)) (p : Pl) (h : w.rangeAt g o (plC p)) (hk : wpList Try.prog ops Q rest (a.put op.dst (.agg (plC p).toArray)) w) : wpList Try.prog ops Q (op :: rest) a w :=
  wpList_load_mid hgd 82 x ho g o hx (plC p) _ h Try.underlying82 rfl (by rw [plC_len]; exact info_psize) hk
theorem wpList_storePl {ops : Array Oper} {rest : List Oper} {op : Oper} {a : Act} {w : World} {Q : Exit → Act → World → Prop} (hgd : op.guard = none) (x y : Operand) (ho : op.op = .store 82 x y)
    (g o : Nat) (p : Pl) (hx : a.eval x = .pointer (some ⟨g, o, none⟩)) (hy : a.eval y = .agg (plC p).toArray) (ht : w.there g o 129)
    (h : wpList Try.prog ops Q rest (a.put op.dst undef) (w.setCells g o (plC p))) : wpList Try.prog ops Q (op :: rest) a w :=
  wpList_store_mid hgd 82 x y ho g o (plC p).toArray hx hy (by rw [List.size_toArray, plC_len]; exact ht) (by rw [List.size_toArray, plC_len]; exact info_psize) (all_oneCell_toArray (plC_one p)) (by simpa using h)
theorem wpList_storeSec {ops : Array Oper} {rest : List Oper} {op : Oper} {a : Act} {w : World} {Q : Exit → Act → World → Prop} (hgd : op.guard = none) (x y : Operand) (ho : op.op = .store 74 x y)
    (g o : Nat) (s : Sec) (hx : a.eval x = .pointer (some ⟨g, o, none⟩)) (hy : a.eval y = .agg (secC s).toArray) (ht : w.there g o 64)
    (h : wpList Try.prog ops Q rest (a.put op.dst undef) (w.setCells g o (secC s))) : wpList Try.prog ops Q (op :: rest) a w :=
  wpList_store_mid hgd 74 x y ho g o (secC s).toArray hx hy (by rw [List.size_toArray, secC_len]; exact ht) (by rw [List.size_toArray, secC_len]; exact info_bsize) (all_oneCell_toArray (secC_one s)) (by simpa using h)

theorem pl_all {w : World} {base g cap : Nat} {l : List Pl} (h : w.ownsRow base 82 129 (.slice (some ⟨g, 0, none⟩) l.length cap) l.length (l.flatMap plC)) {k : Nat} (hk : k < l.length) : w.rangeAt g (k * 129) (plC l[k]) := fun j v hv => by
  have hj : j < 129 := by obtain ⟨h', _⟩ := List.getElem?_eq_some_iff.1 hv; rwa [plC_len] at h'
  rw [own_elem plC_len h hk hj]
  exact hv
theorem pl_bit {w : World} {base g cap : Nat} {l : List Pl} (h : w.ownsRow base 82 129 (.slice (some ⟨g, 0, none⟩) l.length cap) l.length (l.flatMap plC)) {k : Nat} (hk : k < l.length) {j : Nat} (hj : j < 64) : w.cell? ⟨g, k * 129 + j, none⟩ = some (.int .u8 (l[k].rest.l[j]?.getD 0)) := by
  rw [own_elem plC_len h hk (by omega), plC, List.getElem?_append_left (by rw [secC_len]; exact hj)]
  unfold secC
  rw [u8s_get, List.getElem?_eq_getElem (by rw [l[k].rest.h]; exact hj)]
  rfl
theorem flip_bits (bit : Int) (h : 0 ≤ bit) : ∃ q r : Nat, q < 64 ∧ r < 8 ∧ bit.toNat % 512 = q * 8 + r ∧ bit.tmod 512 = ((q * 8 + r : Nat) : Int) ∧ ((q * 8 + r : Nat) : Int).tdiv 8 = (q : Int) ∧ ((q * 8 + r : Nat) : Int).tmod 8 = (r : Int) := by
  obtain ⟨n, rfl⟩ : ∃ n : Nat, bit = n := ⟨bit.toNat, by omega⟩
  refine ⟨n % 512 / 8, n % 512 % 8, by omega, by omega, by show n % 512 = _; omega, ?_, ?_, ?_⟩
  · rw [Int.tmod_eq_emod_of_nonneg (by omega)]; omega
  · rw [Int.tdiv_eq_ediv_of_nonneg (by omega)]; omega
  · rw [Int.tmod_eq_emod_of_nonneg (by omega)]; omega
theorem flip_eq {d : Dk} {s bit : Int} (hin : inn d s = true) (hb : 0 ≤ bit) {hk : s.toNat < d.places.length} (ha : d.at_ s = d.places[s.toNat]) {q r : Nat} (hr : r < 8) (he : bit.toNat % 512 = q * 8 + r) (S : Sec) (hS : S.l = d.places[s.toNat].rest.l.set q (flipB (d.places[s.toNat].rest.l[q]?.getD 0) r)) :
    flipD d s bit = { d with places := d.places.set s.toNat { d.places[s.toNat] with rest := S } } := by
  have h0 : ¬ bit < 0 := by omega
  unfold flipD
  rw [hin, if_pos rfl, if_neg h0, ha]
  have : flipS d.places[s.toNat].rest (bit.toNat % 512) = S := by
    apply Sec.eq
    rw [hS, he]
    unfold flipS
    dsimp only
    rw [show (q * 8 + r) / 8 = q by omega, show (q * 8 + r) % 8 = r by omega]
  rw [this]

set_option maxHeartbeats 4000000 in
theorem flip_is (d : Dk) (ho : Ok d) (s bit : Int) (b : Nat) (pv wv : Value) {w0 : World} {l : List It} (w : World) (hS : Sep w0 (dI w0.heap.size b pv wv d ++ l) w) :
    Calls Try.prog 31 #[.pointer (some ⟨b, 0, none⟩), .int .i64 s, .int .i64 bit] w fun e w' => e = .returned (.int .i64 (faultE d s bit)) ∧ Sep w0 (dI w0.heap.size b pv wv (flipD d s bit) ++ l) w' := by
  obtain ⟨gb, c, rfl⟩ := dI_pv hS ho.some
  have hS1 := hS.fresh (.cells #[.int .i64 s] 3)
  have hW := dI_box hS1
  have c0 := hW.cell 0
  simp only [dkC, List.getElem?_cons_zero] at c0
  have T := Lib.hid (there_is [s] d ho.some b (w.heap.size + 1) _ _ _ _ c0 (Row.blk (Whole.new w 3 [.int .i64 s]) rfl (by omega) (by simp [maxLen])))
  have HS := Lib.hid hS1
  have HP := Lib.hid (dI_places hS1)
  clear hS hS1 hW ho
  rw [there_one] at T
  cases hin : inn d s
  · have hE : Hid (flipD d s bit = d) := by show flipD d s bit = d; unfold flipD; rw [hin]; rfl
    have hF : faultE d s bit = 2 := by unfold faultE; rw [hin]; rfl
    rw [hin] at T
    rw [hF]
    clear hF
    simp only [Bool.false_eq_true, if_false] at T
    go_enter Try.func31, Try.ntmps31
    go_wp2_with fail
    refine T.out.mono ?_
    rintro e u ⟨rfl, rfl⟩
    go_wp2_with fail
    go_ret
    refine ⟨rfl, ?_⟩
    rw [hE.out]
    exact HS.out
  rw [hin] at T
  simp only [if_true] at T
  by_cases hb0 : bit < 0
  · have hE : Hid (flipD d s bit = d) := by show flipD d s bit = d; unfold flipD; rw [hin]; simp [hb0]
    have hF : faultE d s bit = 2 := by unfold faultE; rw [hin]; simp [hb0]
    rw [hF]
    clear hF hin
    go_enter Try.func31, Try.ntmps31
    go_wp2_with fail
    refine T.out.mono ?_
    rintro e u ⟨rfl, rfl⟩
    go_wp2_with fail
    go_ret
    refine ⟨rfl, ?_⟩
    rw [hE.out]
    exact HS.out
  have hF : faultE d s bit = 0 := by unfold faultE; rw [hin]; simp [hb0]
  rw [hF]
  clear hF
  obtain ⟨hk, ha⟩ := at_get hin
  obtain ⟨h1, h2⟩ := inn_at hin
  obtain ⟨q, r, hq, hr, he, e1, e2, e3⟩ := flip_bits bit (by omega)
  have hZ := pl_bit HP.out hk hq
  have hf := HP.out.frozenAt (s.toNat * 129 + q)
  have hE := Lib.hid (flip_eq hin (by omega) ha hr he ⟨d.places[s.toNat].rest.l.set q (flipB (d.places[s.toNat].rest.l[q]?.getD 0) r), by rw [List.length_set]; exact Sec.h _⟩ rfl)
  have HPS := Lib.hid (place_set HP.out _ hk q [.int .u8 (flipB (d.places[s.toNat].rest.l[q]?.getD 0) r)] (by simp; omega) _ (pl_setBit d.places[s.toNat] q hq (flipB (d.places[s.toNat].rest.l[q]?.getD 0) r) ⟨d.places[s.toNat].rest.l.set q (flipB (d.places[s.toNat].rest.l[q]?.getD 0) r), by rw [List.length_set]; exact Sec.h _⟩ rfl))
  have q0 : (0 : Int) ≤ (q : Int) := by omega
  have q1 : (q : Int) < 64 := by omega
  have r0 : (0 : Int) ≤ (r : Int) := by omega
  have r1 : (r : Int) < 8 := by omega
  have wq : IntKind.i64.wrap (q : Int) = (q : Int) := by rw [IntKind.wrap_i64]; omega
  have wr : IntKind.i64.wrap (r : Int) = (r : Int) := by rw [IntKind.wrap_i64]; omega
  generalize hp : d.places[s.toNat].rest.l[q]?.getD 0 = x0 at *
  generalize hm : q * 8 + r = m at *
  have hb0' : decide (bit < 0) = false := by simpa using hb0
  have HM := Lib.hid hm
  clear ha hin hp hm he
  go_enter Try.func31, Try.ntmps31
  go_wp2_with fail
  refine T.out.mono ?_
  rintro e u ⟨rfl, rfl⟩
  go_wp2_with fail
  obtain ⟨U, hU⟩ : ∃ U : World, U = w.alloc (.cells #[.int .i64 s] 3) := ⟨_, rfl⟩
  rw [← hU] at c0 hZ hf HS HP HPS ⊢
  clear hU T
  refine wp_region_still_tail 18 (by kernel_rfl) (by kernel_rfl) ?_
  simp only [List.take_succ_cons, List.take_zero, List.drop_succ_cons, List.drop_zero]
  refine wpStill_step (fun K hK => ?_)
  go_simp
  refine hK _ ?_
  clear hK K
  refine wpStill_step (fun K hK => ?_)
  go_simp
  refine hK _ ?_
  clear hK K
  refine wpStill_step (fun K hK => ?_)
  go_simp
  refine hK _ ?_
  clear hK K
  refine wpStill_step (fun K hK => ?_)
  go_simp
  refine hK _ ?_
  clear hK K
  refine wpStill_step (fun K hK => ?_)
  go_simp
  refine hK _ ?_
  clear hK K
  refine wpStill_step (fun K hK => ?_)
  go_simp
  refine hK _ ?_
  clear hK K
  refine wpStill_step (fun K hK => ?_)
  go_simp
  refine hK _ ?_
  clear hK K
  refine wpStill_step (fun K hK => ?_)
  go_simp
  refine hK _ ?_
  clear hK K
  refine wpStill_step (fun K hK => ?_)
  go_simp
  refine hK _ ?_
  clear hK K
  refine wpStill_step (fun K hK => ?_)
  go_simp
  refine hK _ ?_
  clear hK K
  refine wpStill_step (fun K hK => ?_)
  go_simp
  refine hK _ ?_
  clear hK K
  refine wpStill_step (fun K hK => ?_)
  go_simp
  refine hK _ ?_
  clear hK K
  refine wpStill_step (fun K hK => ?_)
  go_simp
  refine hK _ ?_
  clear hK K
  refine wpStill_step (fun K hK => ?_)
  go_simp
  refine hK _ ?_
  clear hK K
  refine wpStill_step (fun K hK => ?_)
  go_simp
  refine hK _ ?_
  clear hK K
  refine wpStill_step (fun K hK => ?_)
  go_simp
  refine hK _ ?_
  clear hK K
  refine wpStill_step (fun K hK => ?_)
  go_simp
  refine hK _ ?_
  clear hK K
  refine wpStill_step (fun K hK => ?_)
  go_simp
  refine hK _ ?_
  clear hK K
  refine wpStill_nil ?_
  go_wp2_with fail
  go_ret
  refine ⟨rfl, ?_⟩
  rw [hE.out]
  exact Sep.drew (dI_turn HS.out ((Foot.refl (fun j => j = gb) _).set (p := ⟨gb, s.toNat * 129 + q, none⟩) (.inl rfl) _) _ _ HPS.out)

end Di
end Go.Proofs.Ytnjejffbcgchlaa
