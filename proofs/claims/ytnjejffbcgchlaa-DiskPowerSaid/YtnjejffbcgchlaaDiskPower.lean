/- With power for so many writes and flushes just so many are OK (DiskPower). -/
import Derived.Test.YtnjejffbcgchlaaDiskPowerPlain
import Derived.Deep.RegionHeld3
set_option linter.unusedSimpArgs false
set_option linter.unusedVariables false
namespace Go.Proofs.Ytnjejffbcgchlaa
open Go.RowKit
namespace Di
theorem info_int : (Try.prog.info? 3).map (fun i => (i.zero, i.size, i.bytes)) = some (some (.int .i64 0), 1, 8) := by kernel_rfl
def rowI (base : Nat) (v : Value) (l : List Int) : It := .row base 3 1 v l.length (ints l)
theorem ints_len (l : List Int) : (ints l).length = l.length := by simp [ints]
theorem ints_get (l : List Int) (j : Nat) : (ints l)[j]? = l[j]?.map (Value.int .i64) := by simp [ints]
theorem ints_one (l : List Int) : ∀ v ∈ ints l, v.oneCell' = true := by
  intro v hv
  obtain ⟨n, _, rfl⟩ := List.mem_map.1 hv
  rfl
theorem ints_app (a b : List Int) : ints (a ++ b) = ints a ++ ints b := by simp [ints]
theorem ints_set (l : List Int) (k : Nat) (x : Int) : (ints l).set k (.int .i64 x) = ints (l.set k x) := by rw [ints, ints, List.map_set]
set_option maxRecDepth 100000 in
set_option maxHeartbeats 32000000 in
theorem diskPower_is (n : Int) (fs : List Bool) (fv : Value) (keep : List Bool) (kv : Value) (W : World) (hfr : Row W W.heap.size fv fs.length (fs.map fun a => Value.bool a)) (hkr : Row W W.heap.size kv keep.length (keep.map fun a => Value.bool a)) :
    Calls Try.prog 4 #[.int .i64 n, fv, kv] W fun e w' => e = .returned (.bool true) ∧ Below W.heap.size W w' := by
  obtain ⟨A, c, rfl, _, _⟩ := hfr.slice
  obtain ⟨KA, kc, rfl, _, _⟩ := hkr.slice
  have HFR : Hid (Row W W.heap.size (.slice A fs.length c) fs.length (bools fs)) := hfr
  have HKR : Hid (Row W W.heap.size (.slice KA keep.length kc) keep.length (bools keep)) := hkr
  clear hfr hkr
  obtain ⟨p, hp, hp60⟩ := mod61 n
  obtain ⟨i0, hi, hz0, hz1, hz2⟩ := info_parts info_int
  obtain ⟨M, hM⟩ : ∃ M, fs.length = M := ⟨_, rfl⟩
  obtain ⟨KN, hKN⟩ : ∃ KN, keep.length = KN := ⟨_, rfl⟩
  have HM := Lib.hid hM
  have HKN := Lib.hid hKN
  rw [hM] at HFR ⊢
  rw [hKN] at HKR ⊢
  clear hM hKN
  go_enter Try.func4, Try.ntmps4
  go_wp2_with fail
  refine (awake_is W).mono ?_
  rintro e u0 ⟨rfl, hb⟩
  have S0 := Lib.hid (Sep.start W hb)
  clear hb
  by_cases h40 : 60 < M
  · have h40' : decide (60 < (M : Int)) = true := by rw [decide_eq_true_eq]; omega
    clear h40
    go_wp2_with fail
    go_ret
    exact ⟨rfl, S0.out.below⟩
  have h40' : decide (60 < (M : Int)) = false := by rw [decide_eq_false_iff_not]; omega
  by_cases h100 : 100 < KN
  · have h100' : decide (100 < (KN : Int)) = true := by rw [decide_eq_true_eq]; omega
    clear h40 h100
    go_wp2_with fail
    go_ret
    exact ⟨rfl, S0.out.below⟩
  have h100' : decide (100 < (KN : Int)) = false := by rw [decide_eq_false_iff_not]; omega
  have hM60 : M ≤ 60 := by omega
  clear h40 h100
  have P0 := Lib.hid (Pw.start p hp60)
  have OK0 := Lib.hid (new_ok (n := 4) (by decide) (by decide))
  have hE0 : powerE (new 4) p = 0 := by unfold powerE; rw [show (new 4).up = true from rfl, if_pos rfl, if_neg (by omega)]
  have HE0 := Lib.hid hE0
  have HPP := Lib.hid P0.out.power
  clear hE0
  have N := Lib.hid (new_is 4 (by omega) (by omega) u0 S0.out)
  go_wp2_with fail
  refine N.out.mono ?_
  rintro e u1 ⟨b, pv, rfl, hs⟩
  have H2 : Hid (Sep W (dI W.heap.size b pv (.slice none 0 0) (new 4) ++ []) u1) := hs
  clear hs N S0
  have C := power_is (new 4) OK0.out (p : Nat) b pv _ u1 H2.out
  rw [HE0.out] at C
  have C := Lib.hid C
  go_wp2_with fail
  refine C.out.mono ?_
  rintro e u3 ⟨rfl, hs⟩
  have H4 : Hid (Sep W (dI W.heap.size b pv (.slice none 0 0) (powerD (new 4) (p : Nat)) ++ []) u3) := hs
  clear hs H2 C
  obtain ⟨d0, hd0⟩ : ∃ d0, d0 = powerD (new 4) (p : Nat) := ⟨_, rfl⟩
  rw [← hd0] at P0 HPP H4
  clear hd0 OK0 HE0
  have C := power_is (d0) P0.out.ok (-1) b pv _ u3 H4.out
  rw [HPP.out.1] at C
  have C := Lib.hid C
  go_wp2_with fail
  refine C.out.mono ?_
  rintro e u5 ⟨rfl, hs⟩
  rw [HPP.out.2] at hs
  have H6 : Hid (Sep W (dI W.heap.size b pv (.slice none 0 0) (d0) ++ []) u5) := hs
  clear hs H4 C
  go_wp2_with fail
  obtain ⟨ub, hub⟩ : ∃ ub, ub = u5.heap.size := ⟨_, rfl⟩
  obtain ⟨lb, hlb⟩ : ∃ lb, lb = ub + 1 := ⟨_, rfl⟩
  have HU : Hid (Sep W (dI W.heap.size b pv (.slice none 0 0) d0 ++ [.box lb 29 (ints [0, 0, 0, 0]), rowI W.heap.size (.slice (some ⟨ub, 0, none⟩) 0 0) []]) ((u5.alloc (.cells #[] 3)).alloc (.cells #[.int .i64 0, .int .i64 0, .int .i64 0, .int .i64 0] 29))) := by
    have h1 := H6.out.add (be1 u5 (.cells #[] 3)) (.row W.heap.size 3 1 (.slice (some ⟨u5.heap.size, 0, none⟩) 0 0) 0 []) (World.ownsRow_lit _ #[] 0 H6.out.size (by simp [maxLen]) rfl) (fun k hk => Nat.le_of_eq (Option.some.inj hk))
    have h2 := h1.alloc 29 [.int .i64 0, .int .i64 0, .int .i64 0, .int .i64 0]
    rw [sz1, ← hub, ← hlb] at h2
    rw [← hub] at *
    have h3 : Sep W ([.box lb 29 (ints [0, 0, 0, 0]), rowI W.heap.size (.slice (some ⟨ub, 0, none⟩) 0 0) []] ++ (dI W.heap.size b pv (.slice none 0 0) d0 ++ [])) _ := h2
    rw [List.append_nil] at h3
    exact h3.swap
  rw [← hub, ← hlb]
  clear hlb hub H6
  go_loopw [10, 11] (fun vw i wr => ∃ (k : Nat) (wv : Value) (last ws : List Int) (d : Dk), k ≤ M ∧ i = .int .i64 k ∧ Pw p k last ws d ∧ Sep W (dI W.heap.size b pv wv d ++ [.box lb 29 (ints last), rowI W.heap.size vw ws]) wr) (fun _ i _ => M - (intOf i).toNat)
  case atStart => exact ⟨0, _, [0, 0, 0, 0], [], d0, Nat.zero_le _, rfl, P0.out, HU.out⟩
  case round =>
    obtain ⟨k, wv, last, ws, d, hk, rfl, hpw, hs⟩ := hrel
    have HS := Lib.hid hs
    have HPW := Lib.hid hpw
    have OKD := Lib.hid hpw.ok
    have hown := hs.holds _ (List.mem_append_right _ (List.mem_cons_of_mem _ (List.mem_singleton.2 rfl)))
    obtain ⟨Wn, hWn⟩ : ∃ Wn, ws.length = Wn := ⟨_, rfl⟩
    have HWN := Lib.hid hWn
    obtain ⟨wa, wc, hvw, _, _⟩ := (Row.of_own hown).slice
    rw [hWn] at hvw
    subst hvw
    have hw60 : Wn ≤ 60 := by have := hpw.few; omega
    have LOW := Lib.hid hpw.low
    have LLEN := Lib.hid hpw.holds.ll
    have HLB := Lib.hid hpw.lastb
    clear hs hpw hown hWn HU P0 HPP
    by_cases hlt : k < M
    · have hl : k < fs.length := by rw [HM.out]; exact hlt
      obtain ⟨b2, o2, hA2, hb2, hx2⟩ := (HFR.out).at_ (j := k) (by simpa [bools] using hl)
      subst hA2
      have hcell : ∀ u : World, Below W.heap.size W u → u.cell? ⟨b2, o2 + k, none⟩ = some (.bool fs[k]) := fun u hb => (hb.cell (p := ⟨b2, o2 + k, none⟩) hb2).trans (hx2 k _ (by simp [bools, hl]))
      have HCELL := Lib.hid hcell
      clear hx2 hcell
      generalize fs[k] = fb at *
      have hk0 : (0 : Int) ≤ (k : Int) := by omega
      have hk1 : (k : Int) < (M : Int) := by omega
      have hcw := HCELL.out _ HS.out.below
      obtain ⟨kr, hkr⟩ : ∃ kr, k % 4 = kr := ⟨_, rfl⟩
      have hkm : (k : Int) % 4 = (kr : Int) := by omega
      have hkmt : (k : Int).tmod 4 = (kr : Int) := by rw [Int.tmod_eq_emod_of_nonneg (by omega)]; omega
      have HKR4 := Lib.hid hkr
      clear hkr
      by_cases hkp : k < p
      · have hip : decide ((k : Int) < (p : Int)) = true := by rw [decide_eq_true_eq]; omega
        cases fb
        · obtain ⟨t1, t2⟩ := HPW.out.write_yes hkp
          rw [HKR4.out] at t1 t2
          have T1 := Lib.hid t1; have T2 := Lib.hid t2
          clear t1 t2
          have FEW : Hid (d.waits.length ≤ 1000000000) := by show d.waits.length ≤ _; rw [HPW.out.waits, List.length_map, HWN.out]; omega
          have C := sector_is 0 0 ((k : Int) + 1) [] (.slice none 0 0) (.slice none 0 0) wr HS.out (Stays.nil _ _) (by simp)
          have C := Lib.hid C
          go_wp2_with fail
          refine C.out.mono ?_
          rintro e u22 ⟨v21, rfl, hs⟩
          have H23 : Hid (Sep W (dI W.heap.size b pv wv (d) ++ [.box lb 29 (ints last), rowI W.heap.size (.slice wa Wn wc) ws, rowB W.heap.size v21 (sectorL ((k : Int) + 1) [])]) u22) := hs
          clear hs HS C
          have C := write_is (d) OKD.out (kr : Int) (sectorL ((k : Int) + 1) []) b pv _ v21 u22 H23.out (Stays.of_own (base := W.heap.size) (e := 5) (K := 1) (by simp [rowB])) FEW.out
          rw [T1.out] at C
          have C := Lib.hid C
          go_wp2_with fail
          refine C.out.mono ?_
          rintro e u24 ⟨rfl, wv24, hs⟩
          have H25 : Hid (Sep W (dI W.heap.size b pv wv24 (writeD d (kr : Int) (sectorL ((k : Int) + 1) [])) ++ [.box lb 29 (ints last), rowI W.heap.size (.slice wa Wn wc) ws, rowB W.heap.size v21 (sectorL ((k : Int) + 1) [])]) u24) := hs
          clear hs H23 C
          have H26 : Hid (Sep W (dI W.heap.size b pv wv24 (writeD d (kr : Int) (sectorL ((k : Int) + 1) [])) ++ [.box lb 29 (ints last), rowI W.heap.size (.slice wa Wn wc) ws]) u24) := (show Sep W (dI W.heap.size b pv wv24 (writeD d (kr : Int) (sectorL ((k : Int) + 1) [])) ++ ([.box lb 29 (ints last), rowI W.heap.size (.slice wa Wn wc) ws] ++ [rowB W.heap.size v21 (sectorL ((k : Int) + 1) [])])) u24 from H25.out).sub ((List.sublist_append_left [.box lb 29 (ints last), rowI W.heap.size (.slice wa Wn wc) ws] [rowB W.heap.size v21 (sectorL ((k : Int) + 1) [])]).append_left _)
          clear H25
          have hcw2 := HCELL.out _ H26.out.below
          clear hcw
          have hown := H26.out.holds (rowI W.heap.size (.slice wa Wn wc) ws) (by simp)
          unfold rowI at hown
          rw [HWN.out] at hown
          have HO : Hid (u24.ownsRow W.heap.size 3 1 (.slice wa Wn wc) Wn (ints ws)) := hown
          have HR1 : Hid (Row (u24.alloc (.cells #[.int .i64 ((k : Int) + 1)] 3)) (u24.heap.size + 1) (.slice (some ⟨u24.heap.size, 0, none⟩) 1 1) 1 [.int .i64 ((k : Int) + 1)]) := Row.blk (Whole.new u24 3 [.int .i64 ((k : Int) + 1)]) rfl (by omega) (by simp [maxLen])
          have hz7 := H26.out.size
          clear hown
          go_wp2_with (at_builtin; refine wpList_append_foot _ rfl (.tmp 106) (.tmp 109) _ rfl W.heap.size 3 i0 _ 1 8 Try.underlying41 hi hz0 hz1 hz2 rfl (by decide) _ Wn (ints ws) rfl (own_below HO.out (be1 _ _)) (u24.heap.size + 1) _ 1 [.int .i64 ((k : Int) + 1)] rfl HR1.out rfl (ints_one [(k : Int) + 1]) (by unfold maxLen; omega) (by omega) (by rw [sz1]; omega) ?_; intro v7 w7 h1 h2 h3)
          have HS7 : Hid (Sep W (dI W.heap.size b pv wv24 (writeD d (kr : Int) (sectorL ((k : Int) + 1) [])) ++ [.box lb 29 (ints last), rowI W.heap.size v7 (ws ++ [(k : Int) + 1])]) w7) := by
            have e0 := (Sep.perm (show Sep W ((dI W.heap.size b pv wv24 (writeD d (kr : Int) (sectorL ((k : Int) + 1) [])) ++ [.box lb 29 (ints last)]) ++ [rowI W.heap.size (.slice wa Wn wc) ws]) _ from H26.out) (List.perm_append_singleton _ _)).fresh (.cells #[.int .i64 ((k : Int) + 1)] 3)
            unfold rowI at e0
            rw [HWN.out] at e0
            have e1 := e0.grown h1 h2 h3
            have e2 := e1.perm (List.perm_append_singleton _ _).symm
            unfold rowI
            rw [List.length_append, ints_app, HWN.out]
            exact e2
          clear h1 h2 h3 HO HR1
          go_wp2_with fail
          go_roundw
          case rel => exact ⟨k + 1, _, last, (ws ++ [(k : Int) + 1]), _, by omega, by go_num, T2.out, HS7.out⟩
          case measure => show M - ((k : Int) + 1).toNat < M - (k : Int).toNat; omega
        · obtain ⟨t1, t2⟩ := HPW.out.flush_yes hkp
          have T1 := Lib.hid t1; have T2 := Lib.hid t2
          clear t1 t2
          have C := flush_is (d) OKD.out b pv _ wr HS.out
          rw [T1.out] at C
          have C := Lib.hid C
          go_wp2_with fail
          refine C.out.mono ?_
          rintro e u27 ⟨rfl, wv27, hs⟩
          have H28 : Hid (Sep W (dI W.heap.size b pv wv27 (flushD d) ++ [.box lb 29 (ints last), rowI W.heap.size (.slice wa Wn wc) ws]) u27) := hs
          clear hs HS C
          have hcw2 := HCELL.out _ H28.out.below
          clear hcw
          go_wp2_with fail
          go_loopw [13] (fun i wr => ∃ j : Nat, j ≤ Wn ∧ i = .int .i64 j ∧ Sep W (dI W.heap.size b pv wv27 (flushD d) ++ [.box lb 29 (ints (comeL (fun _ => true) 0 (ws.take j) last)), rowI W.heap.size (.slice wa Wn wc) ws]) wr) (fun i _ => Wn - (intOf i).toNat)
          case atStart => exact ⟨0, Nat.zero_le _, rfl, by rw [List.take_zero]; exact H28.out⟩
          case round =>
            obtain ⟨j, hj, rfl, hs⟩ := hrel
            have HJ := Lib.hid hs
            clear hs hcw2 H28
            by_cases hjw : j < Wn
            · have hjl : j < ws.length := by rw [HWN.out]; exact hjw
              have hown := HJ.out.holds (rowI W.heap.size (.slice wa Wn wc) ws) (by simp)
              unfold rowI at hown
              rw [HWN.out] at hown
              obtain ⟨gb, gc, hgv, _⟩ := own_form hown (by omega)
              injection hgv with hg1 _ hg2
              subst hg1 hg2
              have hcj : wr.cell? ⟨gb, j, none⟩ = some (.int .i64 ws[j]) := by rw [World.ownsRow.cellAt hown j (by omega), ints_get, List.getElem?_eq_getElem hjl]; rfl
              have hxl := LOW.out _ (List.getElem_mem hjl)
              have hnx := comeL_next (fun _ => true) ws j hjl last
              have hL4 : (comeL (fun _ => true) 0 (ws.take j) last).length = 4 := by rw [comeL_len]; exact LLEN.out
              have hlb : Whole wr lb 29 (ints (comeL (fun _ => true) 0 (ws.take j) last)) := HJ.out.holds (.box lb 29 (ints (comeL (fun _ => true) 0 (ws.take j) last))) (by simp)
              rw [if_pos rfl] at hnx
              generalize hxj : ws[j] = x at *
              have hsl := slot_lt x
              have hxm : (x - 1).tmod 4 = ((slot x : Nat) : Int) := by unfold slot; rw [Int.tmod_eq_emod_of_nonneg (by omega)]; omega
              have hxw : IntKind.i64.wrap (x - 1) = x - 1 := by rw [IntKind.wrap_i64]; omega
              have hcl : wr.cell? ⟨lb, slot x, none⟩ = some (.int .i64 ((comeL (fun _ => true) 0 (ws.take j) last)[slot x]'(by rw [hL4]; exact hsl))) := by rw [hlb.cell, ints_get, List.getElem?_eq_getElem (by rw [hL4]; exact hsl)]; rfl
              have hfl := hlb.free (slot x)
              generalize (comeL (fun _ => true) 0 (ws.take j) last)[slot x]'(by rw [hL4]; exact hsl) = oldx at hcl
              have HNX := Lib.hid hnx
              have hj0 : (0 : Int) ≤ (j : Int) := by omega
              have hj1 : (j : Int) < (Wn : Int) := by omega
              have hs0 : (0 : Int) ≤ ((slot x : Nat) : Int) := by omega
              have hs1 : ((slot x : Nat) : Int) < 4 := by omega
              have SD : Hid (wr.drew.cell? ⟨gb, j, none⟩ = some (.int .i64 x)) := hcj
              have HJ2 : Hid (Sep W (dI W.heap.size b pv wv27 (flushD d) ++ [.box lb 29 (ints (put (comeL (fun _ => true) 0 (ws.take j) last) x)), rowI W.heap.size (.slice (some ⟨gb, 0, none⟩) Wn wc) ws]) (wr.drew.setCell ⟨lb, slot x, none⟩ (.int .i64 x))) := by
                have h := Sep.setAt (a := dI W.heap.size b pv wv27 (flushD d)) (c := [rowI W.heap.size (.slice (some ⟨gb, 0, none⟩) Wn wc) ws]) (show Sep W _ wr.drew from HJ.out.drew) (slot x) (.int .i64 x)
                rw [ints_set] at h
                exact h
              have S2 : Hid ((wr.drew.setCell ⟨lb, slot x, none⟩ (.int .i64 x)).cell? ⟨gb, j, none⟩ = some (.int .i64 x)) := by
                have hown2 := HJ2.out.holds (rowI W.heap.size (.slice (some ⟨gb, 0, none⟩) Wn wc) ws) (by simp)
                unfold rowI at hown2
                rw [HWN.out] at hown2
                show (wr.drew.setCell ⟨lb, slot x, none⟩ (.int .i64 x)).cell? ⟨gb, j, none⟩ = _
                rw [World.ownsRow.cellAt hown2 j (by omega), ints_get, List.getElem?_eq_getElem hjl, hxj]; rfl
              clear hown hnx hlb hL4 hxl hxj
              generalize slot x = rr at *
              go_wp2_with fail
              refine wp_region_held_drew (S := (fun u : World => u.cell? ⟨gb, j, none⟩ = some (.int .i64 x))) (by kernel_rfl) (SD.out) (fun HS => ?_)
              refine handTake 0 (some 95) ?_ rfl rfl (by kernel_rfl) (by kernel_rfl) (by kernel_rfl) (fun _ _ _ h => h) (by rfl) ?_ HS ?_
              rotate_left
              · (intro u hu; (try dsimp only at hu); go_simp; try with_reducible rfl)
              simp only [Act.put, List.setIfInBounds_toArray, List.set_cons_zero, List.set_cons_succ]
              refine handTake 1 (some 96) ?_ rfl rfl (by kernel_rfl) (by kernel_rfl) (by kernel_rfl) (fun _ _ _ h => h) (by rfl) ?_ HS ?_
              rotate_left
              · (intro u hu; (try dsimp only at hu); go_simp; try with_reducible rfl)
              simp only [Act.put, List.setIfInBounds_toArray, List.set_cons_zero, List.set_cons_succ]
              refine handTake 2 (some 97) ?_ rfl rfl (by kernel_rfl) (by kernel_rfl) (by kernel_rfl) (fun _ _ _ h => h) (by rfl) ?_ HS ?_
              rotate_left
              · (intro u hu; (try dsimp only at hu); go_simp; try with_reducible rfl)
              simp only [Act.put, List.setIfInBounds_toArray, List.set_cons_zero, List.set_cons_succ]
              refine handTake 3 (some 98) ?_ rfl rfl (by kernel_rfl) (by kernel_rfl) (by kernel_rfl) (fun _ _ _ h => h) (by rfl) ?_ HS ?_
              rotate_left
              · (intro u hu; (try dsimp only at hu); go_simp; try with_reducible rfl)
              simp only [Act.put, List.setIfInBounds_toArray, List.set_cons_zero, List.set_cons_succ]
              refine handTake 4 (some 99) ?_ rfl rfl (by kernel_rfl) (by kernel_rfl) (by kernel_rfl) (fun _ _ _ h => h) (by rfl) ?_ HS ?_
              rotate_left
              · (intro u hu; (try dsimp only at hu); go_simp; try with_reducible rfl)
              simp only [Act.put, List.setIfInBounds_toArray, List.set_cons_zero, List.set_cons_succ]
              refine handTake 5 (some 100) ?_ rfl rfl (by kernel_rfl) (by kernel_rfl) (by kernel_rfl) (fun _ _ _ h => h) (by rfl) ?_ HS ?_
              rotate_left
              · (intro u hu; (try dsimp only at hu); go_simp; try with_reducible rfl)
              simp only [Act.put, List.setIfInBounds_toArray, List.set_cons_zero, List.set_cons_succ]
              refine handTake 6 (some 101) ?_ rfl rfl (by kernel_rfl) (by kernel_rfl) (by kernel_rfl) (fun _ _ _ h => h) (by rfl) ?_ HS ?_
              rotate_left
              · (intro u hu; (try dsimp only at hu); go_simp; try with_reducible rfl)
              simp only [Act.put, List.setIfInBounds_toArray, List.set_cons_zero, List.set_cons_succ]
              refine handTake 7 (some 102) ?_ rfl rfl (by kernel_rfl) (by kernel_rfl) (by kernel_rfl) (fun _ _ _ h => h) (by rfl) ?_ HS ?_
              rotate_left
              · (intro u hu; (try dsimp only at hu); go_simp; try with_reducible rfl)
              simp only [Act.put, List.setIfInBounds_toArray, List.set_cons_zero, List.set_cons_succ]
              refine handTake 8 (some 103) ?_ rfl rfl (by kernel_rfl) (by kernel_rfl) (by kernel_rfl) (fun _ _ _ h => h) (by rfl) ?_ HS ?_
              rotate_left
              · (intro u hu; (try dsimp only at hu); go_simp; try with_reducible rfl)
              simp only [Act.put, List.setIfInBounds_toArray, List.set_cons_zero, List.set_cons_succ]
              refine handTake 9 (some 104) ?_ rfl rfl (by kernel_rfl) (by kernel_rfl) (by kernel_rfl) (fun _ _ _ h => h) (by rfl) ?_ HS ?_
              rotate_left
              · (intro u hu; (try dsimp only at hu); go_simp; try with_reducible rfl)
              simp only [Act.put, List.setIfInBounds_toArray, List.set_cons_zero, List.set_cons_succ]
              refine handTake 10 (some 105) ?_ rfl rfl (by kernel_rfl) (by kernel_rfl) (by kernel_rfl) (fun _ _ _ h => h) (by rfl) ?_ HS ?_
              rotate_left
              · (intro u hu; (try dsimp only at hu); go_simp; try with_reducible rfl)
              simp only [Act.put, List.setIfInBounds_toArray, List.set_cons_zero, List.set_cons_succ]
              refine wpAnyH_ready (rs := [11]) (by kernel_rfl) (by simp) ?_
              refine AllReadyH.cons rfl (fun K hK => ?_) AllReadyH.nil
              clear HS
              go_simp
              refine hK.out _ _ (S2.out) (fun HS => ?_)
              clear hK
              try simp only [Act.put, List.setIfInBounds_toArray, List.set_cons_zero, List.set_cons_succ]
              refine wpAnyH_done (by kernel_rfl) ?_ _
              clear HS
              go_wp2_with fail
              go_roundw
              case rel => exact ⟨j + 1, by omega, by go_num, by rw [HNX.out]; exact HJ2.out⟩
              case measure => show Wn - ((j : Int) + 1).toNat < Wn - (j : Int).toNat; omega
            · have hjw' : j = Wn := by omega
              subst hjw'
              have HTK : Hid (ws.take j = ws) := by show ws.take j = ws; rw [← HWN.out, List.take_length]
              rw [HTK.out] at HJ
              have hcw3 := HCELL.out _ HJ.out.below
              have HFIN : Hid (Sep W (dI W.heap.size b pv wv27 (flushD d) ++ [.box lb 29 (ints (comeL (fun _ => true) 0 ws last)), rowI W.heap.size (.slice none 0 0) []]) wr) := by
                have h := (show Sep W (dI W.heap.size b pv wv27 (flushD d) ++ ([.box lb 29 (ints (comeL (fun _ => true) 0 ws last))] ++ [rowI W.heap.size (.slice wa j wc) ws])) wr from HJ.out).sub ((List.sublist_append_left _ _).append_left _)
                exact h.lastNilA 3 1
              go_wp2_with fail
              go_roundw
              case rel => exact ⟨k + 1, _, (comeL (fun _ => true) 0 ws last), [], _, by omega, by go_num, T2.out, HFIN.out⟩
              case measure => show M - ((k : Int) + 1).toNat < M - (k : Int).toNat; omega
      · have hip : decide ((k : Int) < (p : Int)) = false := by rw [decide_eq_false_iff_not]; omega
        have hkp2 : p ≤ k := by omega
        cases fb
        · obtain ⟨t1, t2⟩ := HPW.out.write_no hkp2
          rw [HKR4.out] at t1 t2
          have T1 := Lib.hid t1; have T2 := Lib.hid t2
          clear t1 t2
          have FEW : Hid (d.waits.length ≤ 1000000000) := by show d.waits.length ≤ _; rw [HPW.out.waits, List.length_map, HWN.out]; omega
          have C := sector_is 0 0 ((k : Int) + 1) [] (.slice none 0 0) (.slice none 0 0) wr HS.out (Stays.nil _ _) (by simp)
          have C := Lib.hid C
          go_wp2_with fail
          refine C.out.mono ?_
          rintro e u30 ⟨v29, rfl, hs⟩
          have H31 : Hid (Sep W (dI W.heap.size b pv wv (d) ++ [.box lb 29 (ints last), rowI W.heap.size (.slice wa Wn wc) ws, rowB W.heap.size v29 (sectorL ((k : Int) + 1) [])]) u30) := hs
          clear hs HS C
          have C := write_is (d) OKD.out (kr : Int) (sectorL ((k : Int) + 1) []) b pv _ v29 u30 H31.out (Stays.of_own (base := W.heap.size) (e := 5) (K := 1) (by simp [rowB])) FEW.out
          rw [T1.out] at C
          have C := Lib.hid C
          go_wp2_with fail
          refine C.out.mono ?_
          rintro e u32 ⟨rfl, wv32, hs⟩
          have H33 : Hid (Sep W (dI W.heap.size b pv wv32 (writeD d (kr : Int) (sectorL ((k : Int) + 1) [])) ++ [.box lb 29 (ints last), rowI W.heap.size (.slice wa Wn wc) ws, rowB W.heap.size v29 (sectorL ((k : Int) + 1) [])]) u32) := hs
          clear hs H31 C
          have H34 : Hid (Sep W (dI W.heap.size b pv wv32 (writeD d (kr : Int) (sectorL ((k : Int) + 1) [])) ++ [.box lb 29 (ints last), rowI W.heap.size (.slice wa Wn wc) ws]) u32) := (show Sep W (dI W.heap.size b pv wv32 (writeD d (kr : Int) (sectorL ((k : Int) + 1) [])) ++ ([.box lb 29 (ints last), rowI W.heap.size (.slice wa Wn wc) ws] ++ [rowB W.heap.size v29 (sectorL ((k : Int) + 1) [])])) u32 from H33.out).sub ((List.sublist_append_left [.box lb 29 (ints last), rowI W.heap.size (.slice wa Wn wc) ws] [rowB W.heap.size v29 (sectorL ((k : Int) + 1) [])]).append_left _)
          clear H33
          have hcw2 := HCELL.out _ H34.out.below
          clear hcw
          go_wp2_with fail
          go_roundw
          case rel => exact ⟨k + 1, _, last, ws, _, by omega, by go_num, T2.out, H34.out⟩
          case measure => show M - ((k : Int) + 1).toNat < M - (k : Int).toNat; omega
        · obtain ⟨t1, t2⟩ := HPW.out.flush_no hkp2
          have T1 := Lib.hid t1; have T2 := Lib.hid t2
          clear t1 t2
          have C := flush_is (d) OKD.out b pv _ wr HS.out
          rw [T1.out] at C
          have C := Lib.hid C
          go_wp2_with fail
          refine C.out.mono ?_
          rintro e u35 ⟨rfl, wv35, hs⟩
          have H36 : Hid (Sep W (dI W.heap.size b pv wv35 (flushD d) ++ [.box lb 29 (ints last), rowI W.heap.size (.slice wa Wn wc) ws]) u35) := hs
          clear hs HS C
          have hcw2 := HCELL.out _ H36.out.below
          clear hcw
          go_wp2_with fail
          go_roundw
          case rel => exact ⟨k + 1, _, last, ws, _, by omega, by go_num, T2.out, H36.out⟩
          case measure => show M - ((k : Int) + 1).toNat < M - (k : Int).toNat; omega
    · have hkM : k = M := by omega
      subst hkM
      obtain ⟨a1, a2, a3, a4, a5, a6, a7⟩ := HPW.out.after keep
      have A1 := Lib.hid a1; have A2 := Lib.hid a2; have A3 := Lib.hid a3; have A4 := Lib.hid a4; have A5 := Lib.hid a5; have A6 := Lib.hid a6; have A7 := Lib.hid a7
      have OKC := Lib.hid (crash_ok OKD.out keep)
      have OKS := Lib.hid (start_ok OKC.out)
      have OKF := Lib.hid (flush_ok OKS.out)
      have HWL : Hid (((d.waits.length : Nat) : Int) = (Wn : Int)) := by show ((d.waits.length : Nat) : Int) = _; rw [HPW.out.waits, List.length_map, HWN.out]
      have KST : Hid (Stays W [.box lb 29 (ints (comeL (kept keep) 0 ws last)), rowI W.heap.size (.slice wa Wn wc) ws] (.slice KA keep.length kc) keep.length (bools keep)) := Stays.of_row (by rw [HKN.out]; exact HKR.out) (Nat.le_refl _)
      clear a1 a2 a3 a4 a5 a6 a7
      by_cases hMp : k ≤ p
      · have hup : d.up = true := by rw [HPW.out.up, decide_eq_true hMp]
        have hMp2 : decide ((k : Int) ≤ (p : Int)) = true := by rw [decide_eq_true_eq]; omega
        have HUP := Lib.hid hup
        clear hup
        have C := up_is d OKD.out b pv _ wr HS.out
        rw [HUP.out] at C
        have C := Lib.hid C
        go_wp2_with fail
        refine C.out.mono ?_
        rintro e u9 ⟨rfl, rfl⟩
        clear C
        have C := waits_is d OKD.out b pv _ wr HS.out
        rw [HWL.out] at C
        have C := Lib.hid C
        go_wp2_with fail
        refine C.out.mono ?_
        rintro e u9 ⟨rfl, rfl⟩
        clear C
        have C := up_is d OKD.out b pv _ wr HS.out
        rw [HUP.out] at C
        have C := Lib.hid C
        go_wp2_with fail
        refine C.out.mono ?_
        rintro e u9 ⟨rfl, rfl⟩
        clear C
        go_wp2_with fail
        go_loopw [14] (fun i wr => ∃ j : Nat, j ≤ Wn ∧ i = .int .i64 j ∧ Sep W (dI W.heap.size b pv wv d ++ [.box lb 29 (ints (comeL (kept keep) 0 (ws.take j) last)), rowI W.heap.size (.slice wa Wn wc) ws]) wr) (fun i _ => Wn - (intOf i).toNat)
        case atStart => exact ⟨0, Nat.zero_le _, rfl, by rw [List.take_zero]; exact HS.out⟩
        case round =>
          obtain ⟨j, hj, rfl, hs⟩ := hrel
          have HJ := Lib.hid hs
          clear hs HS
          by_cases hjw : j < Wn
          · have hjw1 : decide ((j : Int) < (Wn : Int)) = true := by rw [decide_eq_true_eq]; omega
            by_cases hjk : j < KN
            · have hkl2 : j < keep.length := by rw [HKN.out]; exact hjk
              obtain ⟨b3, o3, hA3, hb3, hx3⟩ := (HKR.out).at_ (j := j) (by simpa [bools] using hkl2)
              subst hA3
              have kc3 : wr.cell? ⟨b3, o3 + j, none⟩ = some (.bool keep[j]) := (HJ.out.below.cell (p := ⟨b3, o3 + j, none⟩) hb3).trans (hx3 j _ (by simp [bools, hkl2]))
              have hkv : kept keep j = keep[j] := by unfold kept; rw [List.getElem?_eq_getElem hkl2]; rfl
              have HKV := Lib.hid hkv
              have hki : (j : Int) < (KN : Int) := by omega
              have hj00 : (0 : Int) ≤ (j : Int) := by omega
              clear hx3 hkv
              generalize keep[j] = kb at *
              cases kb
              · have hjl : j < ws.length := by rw [HWN.out]; exact hjw
                have hnx := comeL_next (kept keep) ws j hjl last
                rw [HKV.out] at hnx
                simp only [Bool.false_eq_true, if_false] at hnx
                have HNX := Lib.hid hnx
                clear hnx hjl
                go_wp2_with fail
                go_roundw
                case rel => exact ⟨j + 1, by omega, by go_num, by rw [HNX.out]; exact HJ.out⟩
                case measure => show Wn - ((j : Int) + 1).toNat < Wn - (j : Int).toNat; omega
              · have hjl : j < ws.length := by rw [HWN.out]; exact hjw
                have hown := HJ.out.holds (rowI W.heap.size (.slice wa Wn wc) ws) (by simp)
                unfold rowI at hown
                rw [HWN.out] at hown
                obtain ⟨gb, gc, hgv, _⟩ := own_form hown (by omega)
                injection hgv with hg1 _ hg2
                subst hg1 hg2
                have hcj : wr.cell? ⟨gb, j, none⟩ = some (.int .i64 ws[j]) := by rw [World.ownsRow.cellAt hown j (by omega), ints_get, List.getElem?_eq_getElem hjl]; rfl
                have hxl := LOW.out _ (List.getElem_mem hjl)
                have hnx := comeL_next (kept keep) ws j hjl last
                have hL4 : (comeL (kept keep) 0 (ws.take j) last).length = 4 := by rw [comeL_len]; exact LLEN.out
                have hlb : Whole wr lb 29 (ints (comeL (kept keep) 0 (ws.take j) last)) := HJ.out.holds (.box lb 29 (ints (comeL (kept keep) 0 (ws.take j) last))) (by simp)
                generalize hxj : ws[j] = x at *
                have hsl := slot_lt x
                have hxm : (x - 1).tmod 4 = ((slot x : Nat) : Int) := by unfold slot; rw [Int.tmod_eq_emod_of_nonneg (by omega)]; omega
                have hxw : IntKind.i64.wrap (x - 1) = x - 1 := by rw [IntKind.wrap_i64]; omega
                have hcl : wr.cell? ⟨lb, slot x, none⟩ = some (.int .i64 ((comeL (kept keep) 0 (ws.take j) last)[slot x]'(by rw [hL4]; exact hsl))) := by rw [hlb.cell, ints_get, List.getElem?_eq_getElem (by rw [hL4]; exact hsl)]; rfl
                have hfl := hlb.free (slot x)
                generalize (comeL (kept keep) 0 (ws.take j) last)[slot x]'(by rw [hL4]; exact hsl) = oldx at hcl
                have HNX := Lib.hid hnx
                have hj0 : (0 : Int) ≤ (j : Int) := by omega
                have hj1 : (j : Int) < (Wn : Int) := by omega
                have hs0 : (0 : Int) ≤ ((slot x : Nat) : Int) := by omega
                have hs1 : ((slot x : Nat) : Int) < 4 := by omega
                have SD : Hid (wr.drew.cell? ⟨gb, j, none⟩ = some (.int .i64 x)) := hcj
                have HJ2 : Hid (Sep W (dI W.heap.size b pv wv d ++ [.box lb 29 (ints (put (comeL (kept keep) 0 (ws.take j) last) x)), rowI W.heap.size (.slice (some ⟨gb, 0, none⟩) Wn wc) ws]) (wr.drew.setCell ⟨lb, slot x, none⟩ (.int .i64 x))) := by
                  have h := Sep.setAt (a := dI W.heap.size b pv wv d) (c := [rowI W.heap.size (.slice (some ⟨gb, 0, none⟩) Wn wc) ws]) (show Sep W _ wr.drew from HJ.out.drew) (slot x) (.int .i64 x)
                  rw [ints_set] at h
                  exact h
                have S2 : Hid ((wr.drew.setCell ⟨lb, slot x, none⟩ (.int .i64 x)).cell? ⟨gb, j, none⟩ = some (.int .i64 x)) := by
                  have hown2 := HJ2.out.holds (rowI W.heap.size (.slice (some ⟨gb, 0, none⟩) Wn wc) ws) (by simp)
                  unfold rowI at hown2
                  rw [HWN.out] at hown2
                  show (wr.drew.setCell ⟨lb, slot x, none⟩ (.int .i64 x)).cell? ⟨gb, j, none⟩ = _
                  rw [World.ownsRow.cellAt hown2 j (by omega), ints_get, List.getElem?_eq_getElem hjl, hxj]; rfl
                clear hown hnx hlb hL4 hxl hxj
                generalize slot x = rr at *
                go_wp2_with fail
                refine wp_region_held_drew (S := (fun u : World => u.cell? ⟨gb, j, none⟩ = some (.int .i64 x))) (by kernel_rfl) (SD.out) (fun HS => ?_)
                refine handTake 0 (some 156) ?_ rfl rfl (by kernel_rfl) (by kernel_rfl) (by kernel_rfl) (fun _ _ _ h => h) (by rfl) ?_ HS ?_
                rotate_left
                · (intro u hu; (try dsimp only at hu); go_simp; try with_reducible rfl)
                simp only [Act.put, List.setIfInBounds_toArray, List.set_cons_zero, List.set_cons_succ]
                refine handTake 1 (some 157) ?_ rfl rfl (by kernel_rfl) (by kernel_rfl) (by kernel_rfl) (fun _ _ _ h => h) (by rfl) ?_ HS ?_
                rotate_left
                · (intro u hu; (try dsimp only at hu); go_simp; try with_reducible rfl)
                simp only [Act.put, List.setIfInBounds_toArray, List.set_cons_zero, List.set_cons_succ]
                refine handTake 2 (some 158) ?_ rfl rfl (by kernel_rfl) (by kernel_rfl) (by kernel_rfl) (fun _ _ _ h => h) (by rfl) ?_ HS ?_
                rotate_left
                · (intro u hu; (try dsimp only at hu); go_simp; try with_reducible rfl)
                simp only [Act.put, List.setIfInBounds_toArray, List.set_cons_zero, List.set_cons_succ]
                refine handTake 3 (some 159) ?_ rfl rfl (by kernel_rfl) (by kernel_rfl) (by kernel_rfl) (fun _ _ _ h => h) (by rfl) ?_ HS ?_
                rotate_left
                · (intro u hu; (try dsimp only at hu); go_simp; try with_reducible rfl)
                simp only [Act.put, List.setIfInBounds_toArray, List.set_cons_zero, List.set_cons_succ]
                refine handTake 4 (some 160) ?_ rfl rfl (by kernel_rfl) (by kernel_rfl) (by kernel_rfl) (fun _ _ _ h => h) (by rfl) ?_ HS ?_
                rotate_left
                · (intro u hu; (try dsimp only at hu); go_simp; try with_reducible rfl)
                simp only [Act.put, List.setIfInBounds_toArray, List.set_cons_zero, List.set_cons_succ]
                refine handTake 5 (some 161) ?_ rfl rfl (by kernel_rfl) (by kernel_rfl) (by kernel_rfl) (fun _ _ _ h => h) (by rfl) ?_ HS ?_
                rotate_left
                · (intro u hu; (try dsimp only at hu); go_simp; try with_reducible rfl)
                simp only [Act.put, List.setIfInBounds_toArray, List.set_cons_zero, List.set_cons_succ]
                refine handTake 6 (some 162) ?_ rfl rfl (by kernel_rfl) (by kernel_rfl) (by kernel_rfl) (fun _ _ _ h => h) (by rfl) ?_ HS ?_
                rotate_left
                · (intro u hu; (try dsimp only at hu); go_simp; try with_reducible rfl)
                simp only [Act.put, List.setIfInBounds_toArray, List.set_cons_zero, List.set_cons_succ]
                refine handTake 7 (some 163) ?_ rfl rfl (by kernel_rfl) (by kernel_rfl) (by kernel_rfl) (fun _ _ _ h => h) (by rfl) ?_ HS ?_
                rotate_left
                · (intro u hu; (try dsimp only at hu); go_simp; try with_reducible rfl)
                simp only [Act.put, List.setIfInBounds_toArray, List.set_cons_zero, List.set_cons_succ]
                refine handTake 8 (some 164) ?_ rfl rfl (by kernel_rfl) (by kernel_rfl) (by kernel_rfl) (fun _ _ _ h => h) (by rfl) ?_ HS ?_
                rotate_left
                · (intro u hu; (try dsimp only at hu); go_simp; try with_reducible rfl)
                simp only [Act.put, List.setIfInBounds_toArray, List.set_cons_zero, List.set_cons_succ]
                refine handTake 9 (some 165) ?_ rfl rfl (by kernel_rfl) (by kernel_rfl) (by kernel_rfl) (fun _ _ _ h => h) (by rfl) ?_ HS ?_
                rotate_left
                · (intro u hu; (try dsimp only at hu); go_simp; try with_reducible rfl)
                simp only [Act.put, List.setIfInBounds_toArray, List.set_cons_zero, List.set_cons_succ]
                refine handTake 10 (some 166) ?_ rfl rfl (by kernel_rfl) (by kernel_rfl) (by kernel_rfl) (fun _ _ _ h => h) (by rfl) ?_ HS ?_
                rotate_left
                · (intro u hu; (try dsimp only at hu); go_simp; try with_reducible rfl)
                simp only [Act.put, List.setIfInBounds_toArray, List.set_cons_zero, List.set_cons_succ]
                refine wpAnyH_ready (rs := [11]) (by kernel_rfl) (by simp) ?_
                refine AllReadyH.cons rfl (fun K hK => ?_) AllReadyH.nil
                clear HS
                go_simp
                refine hK.out _ _ (S2.out) (fun HS => ?_)
                clear hK
                try simp only [Act.put, List.setIfInBounds_toArray, List.set_cons_zero, List.set_cons_succ]
                refine wpAnyH_done (by kernel_rfl) ?_ _
                clear HS
                go_wp2_with fail
                go_roundw
                case rel => exact ⟨j + 1, by omega, by go_num, by rw [HNX.out, HKV.out, if_pos rfl]; exact HJ2.out⟩
                case measure => show Wn - ((j : Int) + 1).toNat < Wn - (j : Int).toNat; omega
            · have hjk1 : decide ((j : Int) < (KN : Int)) = false := by rw [decide_eq_false_iff_not]; omega
              have HEND : Hid (Sep W (dI W.heap.size b pv wv d ++ [.box lb 29 (ints (comeL (kept keep) 0 ws last)), rowI W.heap.size (.slice wa Wn wc) ws]) wr) := by rw [← comeL_end keep ws j (.inr (by rw [HKN.out]; omega)) last]; exact HJ.out
              clear HJ
              have C := crash_is d OKD.out keep b pv wv (.slice KA KN kc) wr HEND.out (by have := KST.out; rw [HKN.out] at this ⊢; exact this)
              rw [A4.out] at C
              have C := Lib.hid C
              go_wp2_with fail
              refine C.out.mono ?_
              rintro e u61 ⟨rfl, wv61, hs⟩
              have H62 : Hid (Sep W (dI W.heap.size b pv wv61 (crashD d keep) ++ [.box lb 29 (ints (comeL (kept keep) 0 ws last)), rowI W.heap.size (.slice wa Wn wc) ws]) u61) := hs
              clear hs HEND C
              have C := start_is (crashD d keep) OKC.out b pv _ u61 H62.out
              rw [A5.out] at C
              have C := Lib.hid C
              go_wp2_with fail
              refine C.out.mono ?_
              rintro e u63 ⟨rfl, hs⟩
              have H64 : Hid (Sep W (dI W.heap.size b pv wv61 (startD (crashD d keep)) ++ [.box lb 29 (ints (comeL (kept keep) 0 ws last)), rowI W.heap.size (.slice wa Wn wc) ws]) u63) := hs
              clear hs H62 C
              have C := flush_is (startD (crashD d keep)) OKS.out b pv _ u63 H64.out
              rw [A6.out] at C
              have C := Lib.hid C
              go_wp2_with fail
              refine C.out.mono ?_
              rintro e u65 ⟨rfl, wv65, hs⟩
              have H66 : Hid (Sep W (dI W.heap.size b pv wv65 (flushD (startD (crashD d keep))) ++ [.box lb 29 (ints (comeL (kept keep) 0 ws last)), rowI W.heap.size (.slice wa Wn wc) ws]) u65) := hs
              clear hs H64 C
              go_wp2_with fail
              go_loopw [15] (fun i wr => ∃ s : Nat, s ≤ 4 ∧ i = .int .i64 s ∧ Sep W (dI W.heap.size b pv wv65 (flushD (startD (crashD d keep))) ++ [.box lb 29 (ints (comeL (kept keep) 0 ws last)), rowI W.heap.size (.slice wa Wn wc) ws]) wr) (fun i _ => 4 - (intOf i).toNat)
              case atStart => exact ⟨0, by omega, rfl, H66.out⟩
              case round =>
                obtain ⟨s, hs4, rfl, hs⟩ := hrel
                have HS7 := Lib.hid hs
                clear hs H66
                by_cases hs4' : s < 4
                · obtain ⟨x, hxs⟩ : ∃ x, (comeL (kept keep) 0 ws last)[s]? = some x := ⟨_, List.getElem?_eq_getElem (by rw [comeL_len, LLEN.out]; exact hs4')⟩
                  have hxb : 0 ≤ x ∧ x ≤ 60 := by
                    rcases comeL_mem _ _ _ _ x (List.mem_of_getElem? hxs) with h | h
                    · have := HLB.out x h; omega
                    · have := LOW.out x h; omega
                  have hrd := A7.out s x hs4' hxs
                  have hcb : Whole wr lb 29 (ints (comeL (kept keep) 0 ws last)) := HS7.out.holds (.box lb 29 (ints (comeL (kept keep) 0 ws last))) (by simp)
                  have ccx : wr.cell? ⟨lb, s, none⟩ = some (.int .i64 x) := by rw [hcb.cell, ints_get, hxs]; rfl
                  have HRD := Lib.hid hrd
                  have hx0 : 0 ≤ x := hxb.1
                  have hx1 : x < 256 := by have := hxb.2; omega
                  have hxw : IntKind.u8.wrap x = x := by rw [IntKind.wrap_u8]; omega
                  have hs0 : (0 : Int) ≤ (s : Int) := by omega
                  have hs1 : (s : Int) < 4 := by omega
                  clear hxs hxb hrd hcb
                  have C := reads_is (flushD (startD (crashD d keep))) OKF.out (s : Nat) x hx0 hx1 b pv _ wr HS7.out
                  rw [HRD.out] at C
                  have C := Lib.hid C
                  go_wp2_with fail
                  refine C.out.mono ?_
                  rintro e u67 ⟨rfl, hs⟩
                  have H68 : Hid (Sep W (dI W.heap.size b pv wv65 (flushD (startD (crashD d keep))) ++ [.box lb 29 (ints (comeL (kept keep) 0 ws last)), rowI W.heap.size (.slice wa Wn wc) ws]) u67) := hs
                  clear hs HS7 C
                  go_wp2_with fail
                  go_roundw
                  case rel => exact ⟨s + 1, by omega, by go_num, H68.out⟩
                  case measure => show 4 - ((s : Int) + 1).toNat < 4 - (s : Int).toNat; omega
                · have hs44 : s = 4 := by omega
                  subst hs44
                  go_wp2_with fail
                  go_ret
                  exact ⟨rfl, HS7.out.below⟩
          · have hjw1 : decide ((j : Int) < (Wn : Int)) = false := by rw [decide_eq_false_iff_not]; omega
            have HEND : Hid (Sep W (dI W.heap.size b pv wv d ++ [.box lb 29 (ints (comeL (kept keep) 0 ws last)), rowI W.heap.size (.slice wa Wn wc) ws]) wr) := by rw [← comeL_end keep ws j (.inl (by rw [HWN.out]; omega)) last]; exact HJ.out
            clear HJ
            have C := crash_is d OKD.out keep b pv wv (.slice KA KN kc) wr HEND.out (by have := KST.out; rw [HKN.out] at this ⊢; exact this)
            rw [A4.out] at C
            have C := Lib.hid C
            go_wp2_with fail
            refine C.out.mono ?_
            rintro e u69 ⟨rfl, wv69, hs⟩
            have H70 : Hid (Sep W (dI W.heap.size b pv wv69 (crashD d keep) ++ [.box lb 29 (ints (comeL (kept keep) 0 ws last)), rowI W.heap.size (.slice wa Wn wc) ws]) u69) := hs
            clear hs HEND C
            have C := start_is (crashD d keep) OKC.out b pv _ u69 H70.out
            rw [A5.out] at C
            have C := Lib.hid C
            go_wp2_with fail
            refine C.out.mono ?_
            rintro e u71 ⟨rfl, hs⟩
            have H72 : Hid (Sep W (dI W.heap.size b pv wv69 (startD (crashD d keep)) ++ [.box lb 29 (ints (comeL (kept keep) 0 ws last)), rowI W.heap.size (.slice wa Wn wc) ws]) u71) := hs
            clear hs H70 C
            have C := flush_is (startD (crashD d keep)) OKS.out b pv _ u71 H72.out
            rw [A6.out] at C
            have C := Lib.hid C
            go_wp2_with fail
            refine C.out.mono ?_
            rintro e u73 ⟨rfl, wv73, hs⟩
            have H74 : Hid (Sep W (dI W.heap.size b pv wv73 (flushD (startD (crashD d keep))) ++ [.box lb 29 (ints (comeL (kept keep) 0 ws last)), rowI W.heap.size (.slice wa Wn wc) ws]) u73) := hs
            clear hs H72 C
            go_wp2_with fail
            go_loopw [15] (fun i wr => ∃ s : Nat, s ≤ 4 ∧ i = .int .i64 s ∧ Sep W (dI W.heap.size b pv wv73 (flushD (startD (crashD d keep))) ++ [.box lb 29 (ints (comeL (kept keep) 0 ws last)), rowI W.heap.size (.slice wa Wn wc) ws]) wr) (fun i _ => 4 - (intOf i).toNat)
            case atStart => exact ⟨0, by omega, rfl, H74.out⟩
            case round =>
              obtain ⟨s, hs4, rfl, hs⟩ := hrel
              have HS7 := Lib.hid hs
              clear hs H74
              by_cases hs4' : s < 4
              · obtain ⟨x, hxs⟩ : ∃ x, (comeL (kept keep) 0 ws last)[s]? = some x := ⟨_, List.getElem?_eq_getElem (by rw [comeL_len, LLEN.out]; exact hs4')⟩
                have hxb : 0 ≤ x ∧ x ≤ 60 := by
                  rcases comeL_mem _ _ _ _ x (List.mem_of_getElem? hxs) with h | h
                  · have := HLB.out x h; omega
                  · have := LOW.out x h; omega
                have hrd := A7.out s x hs4' hxs
                have hcb : Whole wr lb 29 (ints (comeL (kept keep) 0 ws last)) := HS7.out.holds (.box lb 29 (ints (comeL (kept keep) 0 ws last))) (by simp)
                have ccx : wr.cell? ⟨lb, s, none⟩ = some (.int .i64 x) := by rw [hcb.cell, ints_get, hxs]; rfl
                have HRD := Lib.hid hrd
                have hx0 : 0 ≤ x := hxb.1
                have hx1 : x < 256 := by have := hxb.2; omega
                have hxw : IntKind.u8.wrap x = x := by rw [IntKind.wrap_u8]; omega
                have hs0 : (0 : Int) ≤ (s : Int) := by omega
                have hs1 : (s : Int) < 4 := by omega
                clear hxs hxb hrd hcb
                have C := reads_is (flushD (startD (crashD d keep))) OKF.out (s : Nat) x hx0 hx1 b pv _ wr HS7.out
                rw [HRD.out] at C
                have C := Lib.hid C
                go_wp2_with fail
                refine C.out.mono ?_
                rintro e u75 ⟨rfl, hs⟩
                have H76 : Hid (Sep W (dI W.heap.size b pv wv73 (flushD (startD (crashD d keep))) ++ [.box lb 29 (ints (comeL (kept keep) 0 ws last)), rowI W.heap.size (.slice wa Wn wc) ws]) u75) := hs
                clear hs HS7 C
                go_wp2_with fail
                go_roundw
                case rel => exact ⟨s + 1, by omega, by go_num, H76.out⟩
                case measure => show 4 - ((s : Int) + 1).toNat < 4 - (s : Int).toNat; omega
              · have hs44 : s = 4 := by omega
                subst hs44
                go_wp2_with fail
                go_ret
                exact ⟨rfl, HS7.out.below⟩
      · have hup : d.up = false := by rw [HPW.out.up, decide_eq_false hMp]
        have hMp2 : decide ((k : Int) ≤ (p : Int)) = false := by rw [decide_eq_false_iff_not]; omega
        have A8 := Lib.hid (A3.out hup)
        have HUP := Lib.hid hup
        clear hup
        have C := up_is d OKD.out b pv _ wr HS.out
        rw [HUP.out] at C
        have C := Lib.hid C
        go_wp2_with fail
        refine C.out.mono ?_
        rintro e u9 ⟨rfl, rfl⟩
        clear C
        have C := waits_is d OKD.out b pv _ wr HS.out
        rw [HWL.out] at C
        have C := Lib.hid C
        go_wp2_with fail
        refine C.out.mono ?_
        rintro e u9 ⟨rfl, rfl⟩
        clear C
        have C := up_is d OKD.out b pv _ wr HS.out
        rw [HUP.out] at C
        have C := Lib.hid C
        go_wp2_with fail
        refine C.out.mono ?_
        rintro e u9 ⟨rfl, rfl⟩
        clear C
        have C := start_is (d) OKD.out b pv _ wr HS.out
        rw [A1.out] at C
        have C := Lib.hid C
        go_wp2_with fail
        refine C.out.mono ?_
        rintro e u77 ⟨rfl, hs⟩
        rw [A2.out] at hs
        have H78 : Hid (Sep W (dI W.heap.size b pv wv (d) ++ [.box lb 29 (ints last), rowI W.heap.size (.slice wa Wn wc) ws]) u77) := hs
        clear hs HS C
        have C := power_is (d) OKD.out 1 b pv _ u77 H78.out
        rw [A8.out.1] at C
        have C := Lib.hid C
        go_wp2_with fail
        refine C.out.mono ?_
        rintro e u79 ⟨rfl, hs⟩
        rw [A8.out.2] at hs
        have H80 : Hid (Sep W (dI W.heap.size b pv wv (d) ++ [.box lb 29 (ints last), rowI W.heap.size (.slice wa Wn wc) ws]) u79) := hs
        clear hs H78 C
        go_wp2_with fail
        go_loopw [14] (fun i wr => ∃ j : Nat, j ≤ Wn ∧ i = .int .i64 j ∧ Sep W (dI W.heap.size b pv wv d ++ [.box lb 29 (ints (comeL (kept keep) 0 (ws.take j) last)), rowI W.heap.size (.slice wa Wn wc) ws]) wr) (fun i _ => Wn - (intOf i).toNat)
        case atStart => exact ⟨0, Nat.zero_le _, rfl, by rw [List.take_zero]; exact H80.out⟩
        case round =>
          obtain ⟨j, hj, rfl, hs⟩ := hrel
          have HJ := Lib.hid hs
          clear hs H80
          by_cases hjw : j < Wn
          · have hjw1 : decide ((j : Int) < (Wn : Int)) = true := by rw [decide_eq_true_eq]; omega
            by_cases hjk : j < KN
            · have hkl2 : j < keep.length := by rw [HKN.out]; exact hjk
              obtain ⟨b3, o3, hA3, hb3, hx3⟩ := (HKR.out).at_ (j := j) (by simpa [bools] using hkl2)
              subst hA3
              have kc3 : wr.cell? ⟨b3, o3 + j, none⟩ = some (.bool keep[j]) := (HJ.out.below.cell (p := ⟨b3, o3 + j, none⟩) hb3).trans (hx3 j _ (by simp [bools, hkl2]))
              have hkv : kept keep j = keep[j] := by unfold kept; rw [List.getElem?_eq_getElem hkl2]; rfl
              have HKV := Lib.hid hkv
              have hki : (j : Int) < (KN : Int) := by omega
              have hj00 : (0 : Int) ≤ (j : Int) := by omega
              clear hx3 hkv
              generalize keep[j] = kb at *
              cases kb
              · have hjl : j < ws.length := by rw [HWN.out]; exact hjw
                have hnx := comeL_next (kept keep) ws j hjl last
                rw [HKV.out] at hnx
                simp only [Bool.false_eq_true, if_false] at hnx
                have HNX := Lib.hid hnx
                clear hnx hjl
                go_wp2_with fail
                go_roundw
                case rel => exact ⟨j + 1, by omega, by go_num, by rw [HNX.out]; exact HJ.out⟩
                case measure => show Wn - ((j : Int) + 1).toNat < Wn - (j : Int).toNat; omega
              · have hjl : j < ws.length := by rw [HWN.out]; exact hjw
                have hown := HJ.out.holds (rowI W.heap.size (.slice wa Wn wc) ws) (by simp)
                unfold rowI at hown
                rw [HWN.out] at hown
                obtain ⟨gb, gc, hgv, _⟩ := own_form hown (by omega)
                injection hgv with hg1 _ hg2
                subst hg1 hg2
                have hcj : wr.cell? ⟨gb, j, none⟩ = some (.int .i64 ws[j]) := by rw [World.ownsRow.cellAt hown j (by omega), ints_get, List.getElem?_eq_getElem hjl]; rfl
                have hxl := LOW.out _ (List.getElem_mem hjl)
                have hnx := comeL_next (kept keep) ws j hjl last
                have hL4 : (comeL (kept keep) 0 (ws.take j) last).length = 4 := by rw [comeL_len]; exact LLEN.out
                have hlb : Whole wr lb 29 (ints (comeL (kept keep) 0 (ws.take j) last)) := HJ.out.holds (.box lb 29 (ints (comeL (kept keep) 0 (ws.take j) last))) (by simp)
                generalize hxj : ws[j] = x at *
                have hsl := slot_lt x
                have hxm : (x - 1).tmod 4 = ((slot x : Nat) : Int) := by unfold slot; rw [Int.tmod_eq_emod_of_nonneg (by omega)]; omega
                have hxw : IntKind.i64.wrap (x - 1) = x - 1 := by rw [IntKind.wrap_i64]; omega
                have hcl : wr.cell? ⟨lb, slot x, none⟩ = some (.int .i64 ((comeL (kept keep) 0 (ws.take j) last)[slot x]'(by rw [hL4]; exact hsl))) := by rw [hlb.cell, ints_get, List.getElem?_eq_getElem (by rw [hL4]; exact hsl)]; rfl
                have hfl := hlb.free (slot x)
                generalize (comeL (kept keep) 0 (ws.take j) last)[slot x]'(by rw [hL4]; exact hsl) = oldx at hcl
                have HNX := Lib.hid hnx
                have hj0 : (0 : Int) ≤ (j : Int) := by omega
                have hj1 : (j : Int) < (Wn : Int) := by omega
                have hs0 : (0 : Int) ≤ ((slot x : Nat) : Int) := by omega
                have hs1 : ((slot x : Nat) : Int) < 4 := by omega
                have SD : Hid (wr.drew.cell? ⟨gb, j, none⟩ = some (.int .i64 x)) := hcj
                have HJ2 : Hid (Sep W (dI W.heap.size b pv wv d ++ [.box lb 29 (ints (put (comeL (kept keep) 0 (ws.take j) last) x)), rowI W.heap.size (.slice (some ⟨gb, 0, none⟩) Wn wc) ws]) (wr.drew.setCell ⟨lb, slot x, none⟩ (.int .i64 x))) := by
                  have h := Sep.setAt (a := dI W.heap.size b pv wv d) (c := [rowI W.heap.size (.slice (some ⟨gb, 0, none⟩) Wn wc) ws]) (show Sep W _ wr.drew from HJ.out.drew) (slot x) (.int .i64 x)
                  rw [ints_set] at h
                  exact h
                have S2 : Hid ((wr.drew.setCell ⟨lb, slot x, none⟩ (.int .i64 x)).cell? ⟨gb, j, none⟩ = some (.int .i64 x)) := by
                  have hown2 := HJ2.out.holds (rowI W.heap.size (.slice (some ⟨gb, 0, none⟩) Wn wc) ws) (by simp)
                  unfold rowI at hown2
                  rw [HWN.out] at hown2
                  show (wr.drew.setCell ⟨lb, slot x, none⟩ (.int .i64 x)).cell? ⟨gb, j, none⟩ = _
                  rw [World.ownsRow.cellAt hown2 j (by omega), ints_get, List.getElem?_eq_getElem hjl, hxj]; rfl
                clear hown hnx hlb hL4 hxl hxj
                generalize slot x = rr at *
                go_wp2_with fail
                refine wp_region_held_drew (S := (fun u : World => u.cell? ⟨gb, j, none⟩ = some (.int .i64 x))) (by kernel_rfl) (SD.out) (fun HS => ?_)
                refine handTake 0 (some 156) ?_ rfl rfl (by kernel_rfl) (by kernel_rfl) (by kernel_rfl) (fun _ _ _ h => h) (by rfl) ?_ HS ?_
                rotate_left
                · (intro u hu; (try dsimp only at hu); go_simp; try with_reducible rfl)
                simp only [Act.put, List.setIfInBounds_toArray, List.set_cons_zero, List.set_cons_succ]
                refine handTake 1 (some 157) ?_ rfl rfl (by kernel_rfl) (by kernel_rfl) (by kernel_rfl) (fun _ _ _ h => h) (by rfl) ?_ HS ?_
                rotate_left
                · (intro u hu; (try dsimp only at hu); go_simp; try with_reducible rfl)
                simp only [Act.put, List.setIfInBounds_toArray, List.set_cons_zero, List.set_cons_succ]
                refine handTake 2 (some 158) ?_ rfl rfl (by kernel_rfl) (by kernel_rfl) (by kernel_rfl) (fun _ _ _ h => h) (by rfl) ?_ HS ?_
                rotate_left
                · (intro u hu; (try dsimp only at hu); go_simp; try with_reducible rfl)
                simp only [Act.put, List.setIfInBounds_toArray, List.set_cons_zero, List.set_cons_succ]
                refine handTake 3 (some 159) ?_ rfl rfl (by kernel_rfl) (by kernel_rfl) (by kernel_rfl) (fun _ _ _ h => h) (by rfl) ?_ HS ?_
                rotate_left
                · (intro u hu; (try dsimp only at hu); go_simp; try with_reducible rfl)
                simp only [Act.put, List.setIfInBounds_toArray, List.set_cons_zero, List.set_cons_succ]
                refine handTake 4 (some 160) ?_ rfl rfl (by kernel_rfl) (by kernel_rfl) (by kernel_rfl) (fun _ _ _ h => h) (by rfl) ?_ HS ?_
                rotate_left
                · (intro u hu; (try dsimp only at hu); go_simp; try with_reducible rfl)
                simp only [Act.put, List.setIfInBounds_toArray, List.set_cons_zero, List.set_cons_succ]
                refine handTake 5 (some 161) ?_ rfl rfl (by kernel_rfl) (by kernel_rfl) (by kernel_rfl) (fun _ _ _ h => h) (by rfl) ?_ HS ?_
                rotate_left
                · (intro u hu; (try dsimp only at hu); go_simp; try with_reducible rfl)
                simp only [Act.put, List.setIfInBounds_toArray, List.set_cons_zero, List.set_cons_succ]
                refine handTake 6 (some 162) ?_ rfl rfl (by kernel_rfl) (by kernel_rfl) (by kernel_rfl) (fun _ _ _ h => h) (by rfl) ?_ HS ?_
                rotate_left
                · (intro u hu; (try dsimp only at hu); go_simp; try with_reducible rfl)
                simp only [Act.put, List.setIfInBounds_toArray, List.set_cons_zero, List.set_cons_succ]
                refine handTake 7 (some 163) ?_ rfl rfl (by kernel_rfl) (by kernel_rfl) (by kernel_rfl) (fun _ _ _ h => h) (by rfl) ?_ HS ?_
                rotate_left
                · (intro u hu; (try dsimp only at hu); go_simp; try with_reducible rfl)
                simp only [Act.put, List.setIfInBounds_toArray, List.set_cons_zero, List.set_cons_succ]
                refine handTake 8 (some 164) ?_ rfl rfl (by kernel_rfl) (by kernel_rfl) (by kernel_rfl) (fun _ _ _ h => h) (by rfl) ?_ HS ?_
                rotate_left
                · (intro u hu; (try dsimp only at hu); go_simp; try with_reducible rfl)
                simp only [Act.put, List.setIfInBounds_toArray, List.set_cons_zero, List.set_cons_succ]
                refine handTake 9 (some 165) ?_ rfl rfl (by kernel_rfl) (by kernel_rfl) (by kernel_rfl) (fun _ _ _ h => h) (by rfl) ?_ HS ?_
                rotate_left
                · (intro u hu; (try dsimp only at hu); go_simp; try with_reducible rfl)
                simp only [Act.put, List.setIfInBounds_toArray, List.set_cons_zero, List.set_cons_succ]
                refine handTake 10 (some 166) ?_ rfl rfl (by kernel_rfl) (by kernel_rfl) (by kernel_rfl) (fun _ _ _ h => h) (by rfl) ?_ HS ?_
                rotate_left
                · (intro u hu; (try dsimp only at hu); go_simp; try with_reducible rfl)
                simp only [Act.put, List.setIfInBounds_toArray, List.set_cons_zero, List.set_cons_succ]
                refine wpAnyH_ready (rs := [11]) (by kernel_rfl) (by simp) ?_
                refine AllReadyH.cons rfl (fun K hK => ?_) AllReadyH.nil
                clear HS
                go_simp
                refine hK.out _ _ (S2.out) (fun HS => ?_)
                clear hK
                try simp only [Act.put, List.setIfInBounds_toArray, List.set_cons_zero, List.set_cons_succ]
                refine wpAnyH_done (by kernel_rfl) ?_ _
                clear HS
                go_wp2_with fail
                go_roundw
                case rel => exact ⟨j + 1, by omega, by go_num, by rw [HNX.out, HKV.out, if_pos rfl]; exact HJ2.out⟩
                case measure => show Wn - ((j : Int) + 1).toNat < Wn - (j : Int).toNat; omega
            · have hjk1 : decide ((j : Int) < (KN : Int)) = false := by rw [decide_eq_false_iff_not]; omega
              have HEND : Hid (Sep W (dI W.heap.size b pv wv d ++ [.box lb 29 (ints (comeL (kept keep) 0 ws last)), rowI W.heap.size (.slice wa Wn wc) ws]) wr) := by rw [← comeL_end keep ws j (.inr (by rw [HKN.out]; omega)) last]; exact HJ.out
              clear HJ
              have C := crash_is d OKD.out keep b pv wv (.slice KA KN kc) wr HEND.out (by have := KST.out; rw [HKN.out] at this ⊢; exact this)
              rw [A4.out] at C
              have C := Lib.hid C
              go_wp2_with fail
              refine C.out.mono ?_
              rintro e u81 ⟨rfl, wv81, hs⟩
              have H82 : Hid (Sep W (dI W.heap.size b pv wv81 (crashD d keep) ++ [.box lb 29 (ints (comeL (kept keep) 0 ws last)), rowI W.heap.size (.slice wa Wn wc) ws]) u81) := hs
              clear hs HEND C
              have C := start_is (crashD d keep) OKC.out b pv _ u81 H82.out
              rw [A5.out] at C
              have C := Lib.hid C
              go_wp2_with fail
              refine C.out.mono ?_
              rintro e u83 ⟨rfl, hs⟩
              have H84 : Hid (Sep W (dI W.heap.size b pv wv81 (startD (crashD d keep)) ++ [.box lb 29 (ints (comeL (kept keep) 0 ws last)), rowI W.heap.size (.slice wa Wn wc) ws]) u83) := hs
              clear hs H82 C
              have C := flush_is (startD (crashD d keep)) OKS.out b pv _ u83 H84.out
              rw [A6.out] at C
              have C := Lib.hid C
              go_wp2_with fail
              refine C.out.mono ?_
              rintro e u85 ⟨rfl, wv85, hs⟩
              have H86 : Hid (Sep W (dI W.heap.size b pv wv85 (flushD (startD (crashD d keep))) ++ [.box lb 29 (ints (comeL (kept keep) 0 ws last)), rowI W.heap.size (.slice wa Wn wc) ws]) u85) := hs
              clear hs H84 C
              go_wp2_with fail
              go_loopw [15] (fun i wr => ∃ s : Nat, s ≤ 4 ∧ i = .int .i64 s ∧ Sep W (dI W.heap.size b pv wv85 (flushD (startD (crashD d keep))) ++ [.box lb 29 (ints (comeL (kept keep) 0 ws last)), rowI W.heap.size (.slice wa Wn wc) ws]) wr) (fun i _ => 4 - (intOf i).toNat)
              case atStart => exact ⟨0, by omega, rfl, H86.out⟩
              case round =>
                obtain ⟨s, hs4, rfl, hs⟩ := hrel
                have HS7 := Lib.hid hs
                clear hs H86
                by_cases hs4' : s < 4
                · obtain ⟨x, hxs⟩ : ∃ x, (comeL (kept keep) 0 ws last)[s]? = some x := ⟨_, List.getElem?_eq_getElem (by rw [comeL_len, LLEN.out]; exact hs4')⟩
                  have hxb : 0 ≤ x ∧ x ≤ 60 := by
                    rcases comeL_mem _ _ _ _ x (List.mem_of_getElem? hxs) with h | h
                    · have := HLB.out x h; omega
                    · have := LOW.out x h; omega
                  have hrd := A7.out s x hs4' hxs
                  have hcb : Whole wr lb 29 (ints (comeL (kept keep) 0 ws last)) := HS7.out.holds (.box lb 29 (ints (comeL (kept keep) 0 ws last))) (by simp)
                  have ccx : wr.cell? ⟨lb, s, none⟩ = some (.int .i64 x) := by rw [hcb.cell, ints_get, hxs]; rfl
                  have HRD := Lib.hid hrd
                  have hx0 : 0 ≤ x := hxb.1
                  have hx1 : x < 256 := by have := hxb.2; omega
                  have hxw : IntKind.u8.wrap x = x := by rw [IntKind.wrap_u8]; omega
                  have hs0 : (0 : Int) ≤ (s : Int) := by omega
                  have hs1 : (s : Int) < 4 := by omega
                  clear hxs hxb hrd hcb
                  have C := reads_is (flushD (startD (crashD d keep))) OKF.out (s : Nat) x hx0 hx1 b pv _ wr HS7.out
                  rw [HRD.out] at C
                  have C := Lib.hid C
                  go_wp2_with fail
                  refine C.out.mono ?_
                  rintro e u87 ⟨rfl, hs⟩
                  have H88 : Hid (Sep W (dI W.heap.size b pv wv85 (flushD (startD (crashD d keep))) ++ [.box lb 29 (ints (comeL (kept keep) 0 ws last)), rowI W.heap.size (.slice wa Wn wc) ws]) u87) := hs
                  clear hs HS7 C
                  go_wp2_with fail
                  go_roundw
                  case rel => exact ⟨s + 1, by omega, by go_num, H88.out⟩
                  case measure => show 4 - ((s : Int) + 1).toNat < 4 - (s : Int).toNat; omega
                · have hs44 : s = 4 := by omega
                  subst hs44
                  go_wp2_with fail
                  go_ret
                  exact ⟨rfl, HS7.out.below⟩
          · have hjw1 : decide ((j : Int) < (Wn : Int)) = false := by rw [decide_eq_false_iff_not]; omega
            have HEND : Hid (Sep W (dI W.heap.size b pv wv d ++ [.box lb 29 (ints (comeL (kept keep) 0 ws last)), rowI W.heap.size (.slice wa Wn wc) ws]) wr) := by rw [← comeL_end keep ws j (.inl (by rw [HWN.out]; omega)) last]; exact HJ.out
            clear HJ
            have C := crash_is d OKD.out keep b pv wv (.slice KA KN kc) wr HEND.out (by have := KST.out; rw [HKN.out] at this ⊢; exact this)
            rw [A4.out] at C
            have C := Lib.hid C
            go_wp2_with fail
            refine C.out.mono ?_
            rintro e u89 ⟨rfl, wv89, hs⟩
            have H90 : Hid (Sep W (dI W.heap.size b pv wv89 (crashD d keep) ++ [.box lb 29 (ints (comeL (kept keep) 0 ws last)), rowI W.heap.size (.slice wa Wn wc) ws]) u89) := hs
            clear hs HEND C
            have C := start_is (crashD d keep) OKC.out b pv _ u89 H90.out
            rw [A5.out] at C
            have C := Lib.hid C
            go_wp2_with fail
            refine C.out.mono ?_
            rintro e u91 ⟨rfl, hs⟩
            have H92 : Hid (Sep W (dI W.heap.size b pv wv89 (startD (crashD d keep)) ++ [.box lb 29 (ints (comeL (kept keep) 0 ws last)), rowI W.heap.size (.slice wa Wn wc) ws]) u91) := hs
            clear hs H90 C
            have C := flush_is (startD (crashD d keep)) OKS.out b pv _ u91 H92.out
            rw [A6.out] at C
            have C := Lib.hid C
            go_wp2_with fail
            refine C.out.mono ?_
            rintro e u93 ⟨rfl, wv93, hs⟩
            have H94 : Hid (Sep W (dI W.heap.size b pv wv93 (flushD (startD (crashD d keep))) ++ [.box lb 29 (ints (comeL (kept keep) 0 ws last)), rowI W.heap.size (.slice wa Wn wc) ws]) u93) := hs
            clear hs H92 C
            go_wp2_with fail
            go_loopw [15] (fun i wr => ∃ s : Nat, s ≤ 4 ∧ i = .int .i64 s ∧ Sep W (dI W.heap.size b pv wv93 (flushD (startD (crashD d keep))) ++ [.box lb 29 (ints (comeL (kept keep) 0 ws last)), rowI W.heap.size (.slice wa Wn wc) ws]) wr) (fun i _ => 4 - (intOf i).toNat)
            case atStart => exact ⟨0, by omega, rfl, H94.out⟩
            case round =>
              obtain ⟨s, hs4, rfl, hs⟩ := hrel
              have HS7 := Lib.hid hs
              clear hs H94
              by_cases hs4' : s < 4
              · obtain ⟨x, hxs⟩ : ∃ x, (comeL (kept keep) 0 ws last)[s]? = some x := ⟨_, List.getElem?_eq_getElem (by rw [comeL_len, LLEN.out]; exact hs4')⟩
                have hxb : 0 ≤ x ∧ x ≤ 60 := by
                  rcases comeL_mem _ _ _ _ x (List.mem_of_getElem? hxs) with h | h
                  · have := HLB.out x h; omega
                  · have := LOW.out x h; omega
                have hrd := A7.out s x hs4' hxs
                have hcb : Whole wr lb 29 (ints (comeL (kept keep) 0 ws last)) := HS7.out.holds (.box lb 29 (ints (comeL (kept keep) 0 ws last))) (by simp)
                have ccx : wr.cell? ⟨lb, s, none⟩ = some (.int .i64 x) := by rw [hcb.cell, ints_get, hxs]; rfl
                have HRD := Lib.hid hrd
                have hx0 : 0 ≤ x := hxb.1
                have hx1 : x < 256 := by have := hxb.2; omega
                have hxw : IntKind.u8.wrap x = x := by rw [IntKind.wrap_u8]; omega
                have hs0 : (0 : Int) ≤ (s : Int) := by omega
                have hs1 : (s : Int) < 4 := by omega
                clear hxs hxb hrd hcb
                have C := reads_is (flushD (startD (crashD d keep))) OKF.out (s : Nat) x hx0 hx1 b pv _ wr HS7.out
                rw [HRD.out] at C
                have C := Lib.hid C
                go_wp2_with fail
                refine C.out.mono ?_
                rintro e u95 ⟨rfl, hs⟩
                have H96 : Hid (Sep W (dI W.heap.size b pv wv93 (flushD (startD (crashD d keep))) ++ [.box lb 29 (ints (comeL (kept keep) 0 ws last)), rowI W.heap.size (.slice wa Wn wc) ws]) u95) := hs
                clear hs HS7 C
                go_wp2_with fail
                go_roundw
                case rel => exact ⟨s + 1, by omega, by go_num, H96.out⟩
                case measure => show 4 - ((s : Int) + 1).toNat < 4 - (s : Int).toNat; omega
              · have hs44 : s = 4 := by omega
                subst hs44
                go_wp2_with fail
                go_ret
                exact ⟨rfl, HS7.out.below⟩
end Di
end Go.Proofs.Ytnjejffbcgchlaa
