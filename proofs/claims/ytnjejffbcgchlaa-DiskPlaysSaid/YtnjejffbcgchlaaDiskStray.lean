/- Faults: Stray. Writes come through; Flush, Crash, Write. -/
import Derived.Test.YtnjejffbcgchlaaDiskMem
import Derived.Deep.RegionHeld3
set_option linter.unusedSimpArgs false
set_option linter.unusedVariables false
namespace Go.Proofs.Ytnjejffbcgchlaa
open Go.RowKit
theorem Foot.cell {F : Nat → Prop} {w w' : World} (h : Foot F w w') {g o : Nat} (hlt : g < w.heap.size) (hn : ¬ F g) : w'.cell? ⟨g, o, none⟩ = w.cell? ⟨g, o, none⟩ := by
  have := h.block g hlt hn
  unfold World.cell?
  simp only [this]
theorem Foot.range {F : Nat → Prop} {w w' : World} (h : Foot F w w') {g o : Nat} {vs : List Value} (hr : w.rangeAt g o vs) (hn : ¬ F g) : w'.rangeAt g o vs := fun j v hv => by
  have := hr j v hv
  rw [h.cell (World.block_lt_of_cell? w ⟨g, o + j, none⟩ this) hn]
  exact this
theorem Foot.one {F : Nat → Prop} {w w' : World} (h : Foot F w w') {g o : Nat} {v : Value} (hr : w.cell? ⟨g, o, none⟩ = some v) (hn : ¬ F g) : w'.cell? ⟨g, o, none⟩ = some v := by
  rw [h.cell (World.block_lt_of_cell? w ⟨g, o, none⟩ hr) hn]
  exact hr
namespace Di

theorem place_there {w : World} {base g c : Nat} {l : List Pl} (h : w.ownsRow base 82 129 (.slice (some ⟨g, 0, none⟩) l.length c) l.length (l.flatMap plC)) (k : Nat) (hk : k < l.length) (o n : Nat) (hn : o + n ≤ 129) : w.there g (k * 129 + o) n := by
  have : (k + 1) * 129 ≤ l.length * 129 := Nat.mul_le_mul_right _ hk
  exact own_there h _ _ (by omega)
/-- What a sector holds at rest, and whether it is lost, are written. -/
theorem place_two {w : World} {base g c : Nat} {l : List Pl} (h : w.ownsRow base 82 129 (.slice (some ⟨g, 0, none⟩) l.length c) l.length (l.flatMap plC)) (k : Nat) (hk : k < l.length) (r : Sec) (x : Bool) :
    ((w.setCells g (k * 129) (secC r)).setCell ⟨g, k * 129 + 128, none⟩ (.bool x)).ownsRow base 82 129 (.slice (some ⟨g, 0, none⟩) l.length c) l.length ((l.set k { l[k] with rest := r, lost := x }).flatMap plC) := by
  have hr := place_set h k hk 0 (secC r) (by simp [secC_len]) _ (pl_setRest l[k] r)
  rw [Nat.add_zero] at hr
  have hl : (l.set k { l[k] with rest := r }).length = l.length := List.length_set
  rw [← hl] at hr
  have := place_set hr k (by rw [hl]; exact hk) 128 [.bool x] (by simp) { l[k] with rest := r, lost := x } (by rw [List.getElem_set_self]; exact pl_setLost _ _)
  rw [hl, List.set_set] at this
  exact this

theorem dI_ne {w0 u : World} {base b g c n : Nat} {wv : Value} {d : Dk} {l : List It} (h : Sep w0 (dI base b (.slice (some ⟨g, 0, none⟩) n c) wv d ++ l) u) : b ≠ g := fun e =>
  (List.pairwise_cons.1 h.apart).1 (.row base 82 129 (.slice (some ⟨g, 0, none⟩) n c) d.places.length (d.places.flatMap plC)) (by simp [dI]) b rfl (by rw [e]; rfl)
theorem step_storeSec {ops : Array Oper} {o : Oper} {a : Act} {w : World} {K : Act → World → Prop} {Q : Exit → Act → World → Prop} {E : Prop} (hgd : o.guard = none) (x y : Operand) (ho : o.op = .store 74 x y) (g off : Nat) (s : Sec)
    (hx : a.eval x = .pointer (some ⟨g, off, none⟩)) (hy : a.eval y = .agg (secC s).toArray) (ht : w.there g off 64) (h : K (a.put o.dst undef) (w.setCells g off (secC s))) : if Region.wanted o (yielded ops a.tmps) = true then Oper.wp Try.prog o a w K Q else E := by
  rw [if_pos (by simp [Region.wanted, hgd])]
  exact wp_store_mid 74 x y ho g off (secC s).toArray hx hy (by rw [List.size_toArray, secC_len]; exact ht) (by rw [List.size_toArray, secC_len]; exact info_bsize) (all_oneCell_toArray (secC_one s)) (by simpa using h)

set_option maxHeartbeats 4000000 in
theorem stray_is (d : Dk) (ho : Ok d) (s t : Int) (b : Nat) (pv wv : Value) {w0 : World} {l : List It} (w : World) (hS : Sep w0 (dI w0.heap.size b pv wv d ++ l) w) :
    Calls Try.prog 40 #[.pointer (some ⟨b, 0, none⟩), .int .i64 s, .int .i64 t] w fun e w' => e = .returned (.int .i64 (thereE d [s, t])) ∧ Sep w0 (dI w0.heap.size b pv wv (strayD d s t) ++ l) w' := by
  obtain ⟨gb, c, rfl⟩ := dI_pv hS ho.some
  have hS1 := hS.fresh (.cells #[.int .i64 s, .int .i64 t] 3)
  have hW := dI_box hS1
  have c0 := hW.cell 0
  simp only [dkC, List.getElem?_cons_zero] at c0
  have T := Lib.hid (there_is [s, t] d ho.some b (w.heap.size + 1) _ _ _ _ c0 (Row.blk (Whole.new w 3 [.int .i64 s, .int .i64 t]) rfl (by omega) (by simp [maxLen])))
  have HS := Lib.hid hS1
  have HP := Lib.hid (dI_places hS1)
  clear hS hS1 hW ho
  have hE0 : thereE d [s, t] = if inn d s && inn d t then 0 else 2 := by simp [thereE]
  cases hin : inn d s && inn d t
  · have hE : Hid (strayD d s t = d) := by show strayD d s t = d; unfold strayD; rw [hin]; rfl
    rw [hin] at hE0
    simp only [Bool.false_eq_true, if_false] at hE0
    rw [hE0] at T ⊢
    clear hE0
    go_enter Try.func40, Try.ntmps40
    go_wp2_with fail
    refine T.out.mono ?_
    rintro e u ⟨rfl, rfl⟩
    go_wp2_with fail
    go_ret
    refine ⟨rfl, ?_⟩
    rw [hE.out]
    exact HS.out
  rw [hin] at hE0
  simp only [if_true] at hE0
  rw [hE0] at T ⊢
  clear hE0
  obtain ⟨his, hit⟩ : inn d s = true ∧ inn d t = true := by simpa using hin
  obtain ⟨hk, ha⟩ := at_get his
  obtain ⟨hk2, ha2⟩ := at_get hit
  obtain ⟨h1, h2⟩ := inn_at his
  obtain ⟨h3, h4⟩ := inn_at hit
  have hA := Lib.hid (pl_all HP.out hk)
  have hE : Hid (strayD d s t = { d with places := d.places.set t.toNat { d.places[t.toNat] with rest := d.places[s.toNat].rest, lost := d.places[s.toNat].lost } }) := by show strayD d s t = _; unfold strayD; rw [hin, ha, ha2]; rfl
  have HK2 := Lib.hid hk2
  have hE2 := Lib.hid (place_two HP.out t.toNat hk2)
  generalize hps : d.places[s.toNat] = p at *
  clear ha ha2 hin his hit hk hps hE2
  go_enter Try.func40, Try.ntmps40
  go_wp2_with fail
  refine T.out.mono ?_
  rintro e u ⟨rfl, rfl⟩
  obtain ⟨U, hU⟩ : ∃ U : World, U = w.alloc (.cells #[.int .i64 s, .int .i64 t] 3) := ⟨_, rfl⟩
  rw [← hU] at c0 hA HS HP ⊢
  clear hU T
  have HV : Hid (Whole (U.alloc (.cells (plC pl0).toArray 82)) U.heap.size 82 (plC pl0)) := Whole.new _ _ _
  go_wp2_with (first
    | (with_reducible refine wpList_loadPl rfl (.tmp 22) rfl gb _ rfl p hA.out ?_)
    | (with_reducible refine wpList_go rfl _ _ (exec_alloc_pl rfl) ?_)
    | (with_reducible refine wpList_storePl rfl (.tmp 8) (.tmp 23) rfl U.heap.size 0 p rfl rfl (HV.out.there 0 129 (by rw [plC_len]; omega)) ?_))
  obtain ⟨V, hV⟩ : ∃ V : World, V = (U.alloc (.cells (plC pl0).toArray 82)).setCells U.heap.size 0 (plC p) := ⟨_, rfl⟩
  have HVV : Hid (Whole V U.heap.size 82 (plC p)) := by
    have := HV.out.mids (plC p) 0
    rw [pl_setAll, ← hV] at this
    exact this
  have HB : Below U.heap.size U V := by
    rw [hV]
    exact (foot_mids (F := fun k => k = U.heap.size) rfl _ _ ((Foot.refl _ U).alloc _)).below (fun k hk => by omega) (Nat.le_refl _)
  have HS2 := Lib.hid (HS.out.call HB)
  have d0 := (dI_box HS2.out).cell 0
  simp only [dkC, List.getElem?_cons_zero] at d0
  have HP2 := Lib.hid (dI_places HS2.out)
  have hr2 : Hid (V.rangeAt U.heap.size 0 (secC p.rest)) := fun j v hv => by
    have hj : j < 64 := by obtain ⟨h', _⟩ := List.getElem?_eq_some_iff.1 hv; rwa [secC_len] at h'
    rw [Nat.zero_add, HVV.out.cell, plC, List.getElem?_append_left (by rw [secC_len]; exact hj)]
    exact hv
  have hl2 : V.cell? ⟨U.heap.size, 128, none⟩ = some (.bool p.lost) := by
    rw [HVV.out.cell, plC, List.getElem?_append_right (by rw [secC_len]; omega), secC_len, List.getElem?_append_right (by rw [secC_len]; omega), secC_len]
    rfl
  have hth := Lib.hid (place_there HP2.out t.toNat HK2.out 0 64 (by omega))
  have hz := World.frozen?_setCells
  have HR := Lib.hid (place_two (w := V.drew) HP2.out t.toNat HK2.out p.rest p.lost)
  have hc3 : (V.drew.setCells gb (t.toNat * 129) (secC p.rest)).cell? ⟨gb, t.toNat * 129 + 128, none⟩ = some (.bool (d.places[t.toNat]'HK2.out).lost) := by
    rw [World.cell?_setCells_out _ _ _ _ _ (fun _ _ => by right; show t.toNat * 129 + (secC p.rest).length ≤ t.toNat * 129 + 128; rw [secC_len]; omega)]
    exact pl_lost HP2.out HK2.out
  have hf3 : (V.drew.setCells gb (t.toNat * 129) (secC p.rest)).frozen? ⟨gb, t.toNat * 129 + 128, none⟩ = false := by
    rw [World.frozen?_setCells]; exact HP2.out.frozenAt _
  clear hz
  rw [← hV]
  clear hV HB HV c0
  have hbg := dI_ne HS2.out
  have hgu : gb < U.heap.size := (own_lt HP.out rfl).2
  have FB : ∀ u : World, Foot (fun k => k = gb) V u → (fun u : World => u.cell? ⟨b, 0, none⟩ = some (.slice (some ⟨gb, 0, none⟩) d.places.length c) ∧ u.rangeAt U.heap.size 0 (secC p.rest) ∧ u.cell? ⟨U.heap.size, 128, none⟩ = some (.bool p.lost)) u := fun u hf => ⟨hf.one d0 hbg, hf.range hr2.out (by omega), hf.one hl2 (by omega)⟩
  have S0 := Lib.hid (FB V.drew (Foot.refl _ V).drew)
  have S1 := Lib.hid (FB (V.drew.setCells gb (t.toNat * 129) (secC p.rest)) (foot_mids (F := fun k => k = gb) rfl _ _ (Foot.refl _ V).drew))
  have S2 := Lib.hid (FB ((V.drew.setCells gb (t.toNat * 129) (secC p.rest)).setCell ⟨gb, t.toNat * 129 + 128, none⟩ (.bool p.lost)) ((foot_mids (F := fun k => k = gb) rfl _ _ (Foot.refl _ V).drew).set (p := ⟨gb, t.toNat * 129 + 128, none⟩) (.inl rfl) _))
  clear FB hbg hgu d0 hl2
  refine wp_region_held_drew (S := (fun u : World => u.cell? ⟨b, 0, none⟩ = some (.slice (some ⟨gb, 0, none⟩) d.places.length c) ∧ u.rangeAt U.heap.size 0 (secC p.rest) ∧ u.cell? ⟨U.heap.size, 128, none⟩ = some (.bool p.lost))) (by kernel_rfl) (S0.out) (fun HS => ?_)
  refine handTake 0 (some 24) ?_ rfl rfl (by kernel_rfl) (by kernel_rfl) (by kernel_rfl) (fun _ _ _ h => h) (by rfl) ?_ HS ?_
  rotate_left
  · (intro u hu; (try dsimp only at hu); go_simp; try with_reducible rfl)
  simp only [Act.put, List.setIfInBounds_toArray, List.set_cons_zero, List.set_cons_succ]
  refine handTake 1 (some 25) ?_ rfl rfl (by kernel_rfl) (by kernel_rfl) (by kernel_rfl) (fun _ _ _ h => h) (by rfl) ?_ HS ?_
  rotate_left
  · (intro u hu; (try dsimp only at hu); go_simp; try with_reducible rfl)
  simp only [Act.put, List.setIfInBounds_toArray, List.set_cons_zero, List.set_cons_succ]
  refine handTake 2 (some 26) ?_ rfl rfl (by kernel_rfl) (by kernel_rfl) (by kernel_rfl) (fun _ _ _ h => h) (by rfl) ?_ HS ?_
  rotate_left
  · (intro u hu; (try dsimp only at hu); go_simp; try with_reducible rfl)
  simp only [Act.put, List.setIfInBounds_toArray, List.set_cons_zero, List.set_cons_succ]
  refine handTake 3 (some 27) ?_ rfl rfl (by kernel_rfl) (by kernel_rfl) (by kernel_rfl) (fun _ _ _ h => h) (by rfl) ?_ HS ?_
  rotate_left
  · (intro u hu; (try dsimp only at hu); go_simp; try with_reducible rfl)
  simp only [Act.put, List.setIfInBounds_toArray, List.set_cons_zero, List.set_cons_succ]
  refine handTake 4 (some 28) ?_ rfl rfl (by kernel_rfl) (by kernel_rfl) (by kernel_rfl) (fun _ _ _ h => h) (by rfl) ?_ HS ?_
  rotate_left
  · (intro u hu; (try dsimp only at hu); go_simp; try with_reducible rfl)
  simp only [Act.put, List.setIfInBounds_toArray, List.set_cons_zero, List.set_cons_succ]
  refine handTake 5 (some 29) ?_ rfl rfl (by kernel_rfl) (by kernel_rfl) (by kernel_rfl) (fun _ _ _ h => h) (by rfl) ?_ HS ?_
  rotate_left
  · (intro u hu; (try dsimp only at hu); go_simp; try with_reducible rfl)
  simp only [Act.put, List.setIfInBounds_toArray, List.set_cons_zero, List.set_cons_succ]
  refine handTake 6 (some 30) ?_ rfl rfl (by kernel_rfl) (by kernel_rfl) (by kernel_rfl) (fun _ _ _ h => h) (by rfl) ?_ HS ?_
  rotate_left
  · (intro u hu; (try dsimp only at hu); go_simp; try with_reducible rfl)
  simp only [Act.put, List.setIfInBounds_toArray, List.set_cons_zero, List.set_cons_succ]
  refine handTake 7 (some 31) ?_ rfl rfl (by kernel_rfl) (by kernel_rfl) (by kernel_rfl) (fun _ _ _ h => h) (by rfl) ?_ HS ?_
  rotate_left
  · (intro u hu; (try dsimp only at hu); go_simp; try with_reducible rfl)
  simp only [Act.put, List.setIfInBounds_toArray, List.set_cons_zero, List.set_cons_succ]
  refine handTake 8 (some 32) ?_ rfl rfl (by kernel_rfl) (by kernel_rfl) (by kernel_rfl) (fun _ _ _ h => h) (by rfl) ?_ HS ?_
  rotate_left
  · (intro u hu; (try dsimp only at hu); go_simp; try with_reducible rfl)
  simp only [Act.put, List.setIfInBounds_toArray, List.set_cons_zero, List.set_cons_succ]
  refine handTake 9 (some 33) ?_ rfl rfl (by kernel_rfl) (by kernel_rfl) (by kernel_rfl) (fun _ _ _ h => h) (by rfl) ?_ HS ?_
  rotate_left
  · (intro u hu; (try dsimp only at hu); go_simp; try with_reducible rfl)
  simp only [Act.put, List.setIfInBounds_toArray, List.set_cons_zero, List.set_cons_succ]
  refine handTake 10 (some 34) ?_ rfl rfl (by kernel_rfl) (by kernel_rfl) (by kernel_rfl) (fun _ _ _ h => h) (by rfl) ?_ HS ?_
  rotate_left
  · (intro u hu; (try dsimp only at hu); go_simp; try with_reducible rfl)
  simp only [Act.put, List.setIfInBounds_toArray, List.set_cons_zero, List.set_cons_succ]
  refine handTake 11 (some 35) (.agg (secC p.rest).toArray) rfl rfl (by kernel_rfl) (by kernel_rfl) (by kernel_rfl) (fun _ _ _ h => h) (by rfl) (fun u hu => exec_loadSec _ rfl U.heap.size 0 rfl p.rest hu.2.1) HS ?_
  simp only [Act.put, List.setIfInBounds_toArray, List.set_cons_zero, List.set_cons_succ]
  refine handTake 12 (some 36) ?_ rfl rfl (by kernel_rfl) (by kernel_rfl) (by kernel_rfl) (fun _ _ _ h => h) (by rfl) ?_ HS ?_
  rotate_left
  · (intro u hu; (try dsimp only at hu); go_simp; try with_reducible rfl)
  simp only [Act.put, List.setIfInBounds_toArray, List.set_cons_zero, List.set_cons_succ]
  refine handTake 13 (some 37) ?_ rfl rfl (by kernel_rfl) (by kernel_rfl) (by kernel_rfl) (fun _ _ _ h => h) (by rfl) ?_ HS ?_
  rotate_left
  · (intro u hu; (try dsimp only at hu); go_simp; try with_reducible rfl)
  simp only [Act.put, List.setIfInBounds_toArray, List.set_cons_zero, List.set_cons_succ]
  refine handTake 14 (some 38) ?_ rfl rfl (by kernel_rfl) (by kernel_rfl) (by kernel_rfl) (fun _ _ _ h => h) (by rfl) ?_ HS ?_
  rotate_left
  · (intro u hu; (try dsimp only at hu); go_simp; try with_reducible rfl)
  simp only [Act.put, List.setIfInBounds_toArray, List.set_cons_zero, List.set_cons_succ]
  refine handTake 15 (some 39) ?_ rfl rfl (by kernel_rfl) (by kernel_rfl) (by kernel_rfl) (fun _ _ _ h => h) (by rfl) ?_ HS ?_
  rotate_left
  · (intro u hu; (try dsimp only at hu); go_simp; try with_reducible rfl)
  simp only [Act.put, List.setIfInBounds_toArray, List.set_cons_zero, List.set_cons_succ]
  refine wpAnyH_ready (rs := [16]) (by kernel_rfl) (by simp) ?_
  refine AllReadyH.cons rfl (fun K hK => ?_) AllReadyH.nil
  clear HS
  refine step_storeSec rfl (.tmp 39) (.tmp 35) rfl gb (t.toNat * 129) p.rest rfl rfl hth.out ?_
  refine hK.out _ _ (S1.out) (fun HS => ?_)
  clear hK
  try simp only [Act.put, List.setIfInBounds_toArray, List.set_cons_zero, List.set_cons_succ]
  refine handTake 17 (some 40) ?_ rfl rfl (by kernel_rfl) (by kernel_rfl) (by kernel_rfl) (fun _ _ _ h => h) (by rfl) ?_ HS ?_
  rotate_left
  · (intro u hu; (try dsimp only at hu); go_simp; try with_reducible rfl)
  simp only [Act.put, List.setIfInBounds_toArray, List.set_cons_zero, List.set_cons_succ]
  refine handTake 18 (some 41) ?_ rfl rfl (by kernel_rfl) (by kernel_rfl) (by kernel_rfl) (fun _ _ _ h => h) (by rfl) ?_ HS ?_
  rotate_left
  · (intro u hu; (try dsimp only at hu); go_simp; try with_reducible rfl)
  simp only [Act.put, List.setIfInBounds_toArray, List.set_cons_zero, List.set_cons_succ]
  refine wpAnyH_ready (rs := [19]) (by kernel_rfl) (by simp) ?_
  refine AllReadyH.cons rfl (fun K hK => ?_) AllReadyH.nil
  clear HS
  go_simp
  refine hK.out _ _ (S2.out) (fun HS => ?_)
  clear hK
  try simp only [Act.put, List.setIfInBounds_toArray, List.set_cons_zero, List.set_cons_succ]
  refine wpAnyH_done (by kernel_rfl) ?_ _
  clear HS
  go_wp2_with fail
  go_ret
  refine ⟨rfl, ?_⟩
  rw [hE.out]
  exact dI_turn (HS2.out) ((foot_mids (F := fun k => k = gb) rfl _ _ (Foot.refl _ V).drew).set (p := ⟨gb, t.toNat * 129 + 128, none⟩) (.inl rfl) _) _ _ HR.out
end Di
end Go.Proofs.Ytnjejffbcgchlaa
