/- What the laws do with a disk: reads, Do. -/
import Derived.Test.YtnjejffbcgchlaaDiskLaw
set_option linter.unusedSimpArgs false
set_option linter.unusedVariables false
namespace Go.Proofs.Ytnjejffbcgchlaa
open Go.RowKit
theorem Sep.lastSet {w0 u : World} {L : List It} {g c n : Nat} {ys : List Int} (h : Sep w0 (L ++ [Di.rowB w0.heap.size (.slice (some ⟨g, 0, none⟩) n c) ys]) u) (hn : ys.length = n) (j : Nat) (z : Int) :
    Sep w0 (L ++ [Di.rowB w0.heap.size (.slice (some ⟨g, 0, none⟩) n c) (ys.set j z)]) (u.setCell ⟨g, j, none⟩ (.int .u8 z)) := by
  subst hn
  have h1 := h.perm (List.perm_append_singleton _ _)
  unfold Di.rowB at h1 ⊢
  have h2 := h1.rowTurn (n' := ys.length) (xs' := Di.u8s (ys.set j z)) ((Foot.refl (fun k => (Value.slice (some ⟨g, 0, none⟩) ys.length c).ownBlock = some k) u).set (p := ⟨g, j, none⟩) (.inl rfl) (.int .u8 z)) (by
    have := (World.ownsRow.stored h1.head j (.int .u8 z)).1
    unfold Di.u8s at this ⊢
    rw [List.map_set]
    exact this)
  rw [List.length_set]
  exact h2.perm (List.perm_append_singleton _ _).symm
namespace Di
theorem rowB_row {w0 u : World} {L : List It} (h : Sep w0 L u) {base : Nat} {v : Value} {xs : List Int} (hm : rowB base v xs ∈ L) : Row u u.heap.size v xs.length (u8s xs) := Row.of_own (h.holds _ hm)
def readsB (d : Dk) (s x : Int) : Bool := decide (readE d s = 0) && decide (readV d s = sectorL x [])
set_option maxHeartbeats 2000000 in
theorem reads_is (d : Dk) (ho : Ok d) (s x : Int) (h0 : 0 ≤ x) (h1 : x < 256) (b : Nat) (pv wv : Value) {w0 : World} {l : List It} (w : World) (hS : Sep w0 (dI w0.heap.size b pv wv d ++ l) w) :
    Calls Try.prog 18 #[.pointer (some ⟨b, 0, none⟩), .int .i64 s, .int .u8 x] w fun e w' => e = .returned (.bool (readsB d s x)) ∧ Sep w0 (dI w0.heap.size b pv wv d ++ l) w' := by
  have R := Lib.hid (read_is d ho s b pv wv w hS)
  have hw : IntKind.i64.wrap x = x := by rw [IntKind.wrap_i64]; omega
  clear hS
  by_cases he : readE d s = 0
  · have hE : Hid (readsB d s x = decide (readV d s = sectorL x [])) := by show readsB d s x = _; unfold readsB; rw [decide_eq_true he]; rfl
    rw [he] at R
    clear he
    go_enter Try.func18, Try.ntmps18
    go_wp2_with fail
    refine R.out.mono ?_
    rintro e u ⟨v, rfl, hs⟩
    have S2 := Lib.hid (sector_is 0 0 x [] (.slice none 0 0) (.slice none 0 0) u hs (Stays.nil _ _) (by simp))
    clear hs
    go_wp2_with fail
    refine S2.out.mono ?_
    rintro e u2 ⟨v2, rfl, hs⟩
    have M := Lib.hid (same_is (readV d s) (sectorL x []) v v2 _ _ u2 (rowB_row (base := w0.heap.size) hs (by simp)) (rowB_row (base := w0.heap.size) hs (by simp)))
    have HS := Lib.hid hs
    clear hs
    go_wp2_with fail
    refine M.out.mono ?_
    rintro e u3 ⟨rfl, hb⟩
    have HS3 := Lib.hid (HS.out.call hb)
    clear hb
    go_wp2_with fail
    go_ret
    refine ⟨by rw [hE.out]; rfl, ?_⟩
    have := HS3.out
    rw [← List.append_assoc] at this
    exact this.left.left
  · have hE : Hid (readsB d s x = false) := by show readsB d s x = _; unfold readsB; rw [decide_eq_false he]; rfl
    have hne : (readE d s == 0) = false := by rw [beq_eq_false_iff_ne]; exact he
    generalize readE d s = E at *
    clear he
    go_enter Try.func18, Try.ntmps18
    go_wp2_with fail
    refine R.out.mono ?_
    rintro e u ⟨v, rfl, hs⟩
    have HS := Lib.hid hs
    clear hs
    go_wp2_with fail
    go_ret
    refine ⟨by rw [hE.out]; rfl, ?_⟩
    have := HS.out
    rw [← List.append_assoc] at this
    exact this.left

/-- An act. -/
structure Ac where
  kind : Nat
  sector : Int
  n : Int
  bytes : List Int
  keep : List Bool
def doE (d : Dk) (a : Ac) : Int := match a.kind % 9 with
  | 0 => flushE d | 1 => crashE d | 2 => startE d | 3 => faultE d a.sector a.n | 4 => thereE d [a.sector] | 5 => thereE d [a.sector, a.n] | 8 => powerE d a.n
  | _ => writeE d a.sector (sectorL a.n a.bytes)
def doD (d : Dk) (a : Ac) : Dk := match a.kind % 9 with
  | 0 => flushD d | 1 => crashD d a.keep | 2 => startD d | 3 => flipD d a.sector a.n | 4 => loseD d a.sector | 5 => strayD d a.sector a.n | 8 => powerD d a.n
  | _ => writeD d a.sector (sectorL a.n a.bytes)
theorem do_ok {d : Dk} (h : Ok d) (a : Ac) (hn : a.n ≤ 9223372036854775807) : Ok (doD d a) := by
  unfold doD
  split
  · exact flush_ok h
  · exact crash_ok h _
  · exact start_ok h
  · exact flip_ok h _ _
  · exact lose_ok h _
  · exact stray_ok h _ _
  · exact power_ok h hn
  · exact write_ok h _ _
theorem do_cases (k : Nat) (h : k < 256) : ∃ q : Nat, q < 9 ∧ k % 9 = q ∧ (k : Int).tmod 9 = (q : Int) := ⟨k % 9, by omega, rfl, by rw [Int.tmod_eq_emod_of_nonneg (by omega)]; omega⟩
theorem sectorL_pos (n : Int) (bs : List Int) : 0 < (sectorL n bs).length := by
  unfold sectorL
  split
  · simp
  · omega
theorem sectorL_few (n : Int) (bs : List Int) (h : bs.length ≤ 1000000000) : (sectorL n bs).length ≤ 1000000000 := by
  unfold sectorL
  split
  · simp
  · exact h
set_option maxHeartbeats 4000000 in
theorem do_is (d : Dk) (ho : Ok d) (a : Ac) (hkd : a.kind < 256) (b : Nat) (pv wv bv kv : Value) {w0 : World} {l : List It} (w : World) (hS : Sep w0 (dI w0.heap.size b pv wv d ++ l) w) (hB : Stays w0 l bv a.bytes.length (u8s a.bytes)) (hK : Stays w0 l kv a.keep.length (bools a.keep))
    (hbl : a.bytes.length ≤ 1000000000) (hfew : d.waits.length ≤ 1000000000) :
    Calls Try.prog 22 #[.pointer (some ⟨b, 0, none⟩), .agg #[.int .u8 (a.kind : Nat), .int .i64 a.sector, .int .i64 a.n, bv, kv]] w fun e w' => e = .returned (.int .i64 (doE d a)) ∧ ∃ wv', Sep w0 (dI w0.heap.size b pv wv' (doD d a) ++ l) w' := by
  obtain ⟨k, s, n, bs, keep⟩ := a
  dsimp only at *
  obtain ⟨Ab, cb, rfl, _, _⟩ := (hB.now hS).slice
  obtain ⟨Ak, ck, rfl, _, _⟩ := (hK.now hS).slice
  have HS : Hid (Sep w0 (dI w0.heap.size b pv wv d ++ (.box w.heap.size 33 [.int .u8 (k : Nat), .int .i64 s, .int .i64 n, .slice Ab bs.length cb, .slice Ak keep.length ck] :: l)) (w.alloc (.cells #[.int .u8 (k : Nat), .int .i64 s, .int .i64 n, .slice Ab bs.length cb, .slice Ak keep.length ck] 33))) :=
    (hS.alloc 33 _).perm (List.perm_middle (l₁ := dI w0.heap.size b pv wv d)).symm
  have HB := Lib.hid (hB.cons (.box w.heap.size 33 [.int .u8 (k : Nat), .int .i64 s, .int .i64 n, .slice Ab bs.length cb, .slice Ak keep.length ck]))
  have HK := Lib.hid (hK.cons (.box w.heap.size 33 [.int .u8 (k : Nat), .int .i64 s, .int .i64 n, .slice Ab bs.length cb, .slice Ak keep.length ck]))
  have HW : Whole (w.alloc (.cells #[.int .u8 (k : Nat), .int .i64 s, .int .i64 n, .slice Ab bs.length cb, .slice Ak keep.length ck] 33)) w.heap.size 33 [.int .u8 (k : Nat), .int .i64 s, .int .i64 n, .slice Ab bs.length cb, .slice Ak keep.length ck] := Whole.new _ _ _
  have HEND : Hid (∀ (d' : Dk) (u : World), (∃ wv', Sep w0 (dI w0.heap.size b pv wv' d' ++ (.box w.heap.size 33 [.int .u8 (k : Nat), .int .i64 s, .int .i64 n, .slice Ab bs.length cb, .slice Ak keep.length ck] :: l)) u) → ∃ wv', Sep w0 (dI w0.heap.size b pv wv' d' ++ l) u) :=
    fun d' u ⟨wv', h⟩ => ⟨wv', h.sub ((List.sublist_cons_self _ _).append_left _)⟩
  obtain ⟨q, hq, hqm, hqi⟩ := do_cases k hkd
  have HO := Lib.hid ho
  have HFEW := Lib.hid hfew
  have HBL := Lib.hid hbl
  clear ho hfew hbl hS hB hK
  have hw0 := HW.cell 0; have hw1 := HW.cell 1; have hw2 := HW.cell 2; have hw3 := HW.cell 3; have hw4 := HW.cell 4
  simp only [List.getElem?_cons_zero, List.getElem?_cons_succ] at hw0 hw1 hw2 hw3 hw4
  clear HW
  have hq' : q = 0 ∨ q = 1 ∨ q = 2 ∨ q = 3 ∨ q = 4 ∨ q = 5 ∨ q = 8 ∨ q = 6 ∨ q = 7 := by omega
  rcases hq' with rfl | rfl | rfl | rfl | rfl | rfl | rfl | rfl | rfl
  · have hE : Hid (doE d ⟨k, s, n, bs, keep⟩ = flushE d) := by show doE d ⟨k, s, n, bs, keep⟩ = _; unfold doE; simp only [hqm]
    have hD : Hid (doD d ⟨k, s, n, bs, keep⟩ = flushD d) := by show doD d ⟨k, s, n, bs, keep⟩ = _; unfold doD; simp only [hqm]
    have C := Lib.hid (flush_is d HO.out b pv wv _ HS.out)
    clear hqm
    go_enter Try.func22, Try.ntmps22
    go_wp2_with fail
    refine C.out.mono ?_
    rintro e u ⟨rfl, hs⟩
    have HR := Lib.hid (HEND.out _ _ hs)
    clear hs
    go_wp2_with fail
    go_ret
    exact ⟨by rw [hE.out]; rfl, by rw [hD.out]; exact HR.out⟩
  · have hE : Hid (doE d ⟨k, s, n, bs, keep⟩ = crashE d) := by show doE d ⟨k, s, n, bs, keep⟩ = _; unfold doE; simp only [hqm]
    have hD : Hid (doD d ⟨k, s, n, bs, keep⟩ = crashD d keep) := by show doD d ⟨k, s, n, bs, keep⟩ = _; unfold doD; simp only [hqm]
    have C := Lib.hid (crash_is d HO.out keep b pv wv _ _ HS.out HK.out)
    clear hqm
    go_enter Try.func22, Try.ntmps22
    go_wp2_with fail
    refine C.out.mono ?_
    rintro e u ⟨rfl, hs⟩
    have HR := Lib.hid (HEND.out _ _ hs)
    clear hs
    go_wp2_with fail
    go_ret
    exact ⟨by rw [hE.out]; rfl, by rw [hD.out]; exact HR.out⟩
  · have hE : Hid (doE d ⟨k, s, n, bs, keep⟩ = startE d) := by show doE d ⟨k, s, n, bs, keep⟩ = _; unfold doE; simp only [hqm]
    have hD : Hid (doD d ⟨k, s, n, bs, keep⟩ = startD d) := by show doD d ⟨k, s, n, bs, keep⟩ = _; unfold doD; simp only [hqm]
    have C := Lib.hid (start_is d HO.out b pv wv _ HS.out)
    clear hqm
    go_enter Try.func22, Try.ntmps22
    go_wp2_with fail
    refine C.out.mono ?_
    rintro e u ⟨rfl, hs⟩
    have HR := Lib.hid (HEND.out _ _ ⟨_, hs⟩)
    clear hs
    go_wp2_with fail
    go_ret
    exact ⟨by rw [hE.out]; rfl, by rw [hD.out]; exact HR.out⟩
  · have hE : Hid (doE d ⟨k, s, n, bs, keep⟩ = faultE d s n) := by show doE d ⟨k, s, n, bs, keep⟩ = _; unfold doE; simp only [hqm]
    have hD : Hid (doD d ⟨k, s, n, bs, keep⟩ = flipD d s n) := by show doD d ⟨k, s, n, bs, keep⟩ = _; unfold doD; simp only [hqm]
    have C := Lib.hid (flip_is d HO.out s n b pv wv _ HS.out)
    clear hqm
    go_enter Try.func22, Try.ntmps22
    go_wp2_with fail
    refine C.out.mono ?_
    rintro e u ⟨rfl, hs⟩
    have HR := Lib.hid (HEND.out _ _ ⟨_, hs⟩)
    clear hs
    go_wp2_with fail
    go_ret
    exact ⟨by rw [hE.out]; rfl, by rw [hD.out]; exact HR.out⟩
  · have hE : Hid (doE d ⟨k, s, n, bs, keep⟩ = thereE d [s]) := by show doE d ⟨k, s, n, bs, keep⟩ = _; unfold doE; simp only [hqm]
    have hD : Hid (doD d ⟨k, s, n, bs, keep⟩ = loseD d s) := by show doD d ⟨k, s, n, bs, keep⟩ = _; unfold doD; simp only [hqm]
    have C := Lib.hid (lose_is d HO.out s b pv wv _ HS.out)
    clear hqm
    go_enter Try.func22, Try.ntmps22
    go_wp2_with fail
    refine C.out.mono ?_
    rintro e u ⟨rfl, hs⟩
    have HR := Lib.hid (HEND.out _ _ ⟨_, hs⟩)
    clear hs
    go_wp2_with fail
    go_ret
    exact ⟨by rw [hE.out]; rfl, by rw [hD.out]; exact HR.out⟩
  · have hE : Hid (doE d ⟨k, s, n, bs, keep⟩ = thereE d [s, n]) := by show doE d ⟨k, s, n, bs, keep⟩ = _; unfold doE; simp only [hqm]
    have hD : Hid (doD d ⟨k, s, n, bs, keep⟩ = strayD d s n) := by show doD d ⟨k, s, n, bs, keep⟩ = _; unfold doD; simp only [hqm]
    have C := Lib.hid (stray_is d HO.out s n b pv wv _ HS.out)
    clear hqm
    go_enter Try.func22, Try.ntmps22
    go_wp2_with fail
    refine C.out.mono ?_
    rintro e u ⟨rfl, hs⟩
    have HR := Lib.hid (HEND.out _ _ ⟨_, hs⟩)
    clear hs
    go_wp2_with fail
    go_ret
    exact ⟨by rw [hE.out]; rfl, by rw [hD.out]; exact HR.out⟩
  · have hE : Hid (doE d ⟨k, s, n, bs, keep⟩ = powerE d n) := by show doE d ⟨k, s, n, bs, keep⟩ = _; unfold doE; simp only [hqm]
    have hD : Hid (doD d ⟨k, s, n, bs, keep⟩ = powerD d n) := by show doD d ⟨k, s, n, bs, keep⟩ = _; unfold doD; simp only [hqm]
    have C := Lib.hid (power_is d HO.out n b pv wv _ HS.out)
    clear hqm
    go_enter Try.func22, Try.ntmps22
    go_wp2_with fail
    refine C.out.mono ?_
    rintro e u ⟨rfl, hs⟩
    have HR := Lib.hid (HEND.out _ _ ⟨_, hs⟩)
    clear hs
    go_wp2_with fail
    go_ret
    exact ⟨by rw [hE.out]; rfl, by rw [hD.out]; exact HR.out⟩
  · have hE : Hid (doE d ⟨k, s, n, bs, keep⟩ = writeE d s (sectorL n bs)) := by show doE d ⟨k, s, n, bs, keep⟩ = _; unfold doE; simp only [hqm]
    have hD : Hid (doD d ⟨k, s, n, bs, keep⟩ = writeD d s (sectorL n bs)) := by show doD d ⟨k, s, n, bs, keep⟩ = _; unfold doD; simp only [hqm]
    have C := Lib.hid (sector_is (k : Nat) s n bs (.slice Ab bs.length cb) (.slice Ak keep.length ck) _ HS.out (HB.out.appL _) HBL.out)
    have HPOS := Lib.hid (sectorL_pos n bs)
    have HFL := Lib.hid (sectorL_few n bs HBL.out)
    clear hqm
    go_enter Try.func22, Try.ntmps22
    go_wp2_with fail
    refine C.out.mono ?_
    rintro e u ⟨v, rfl, hs⟩
    rw [List.append_assoc] at hs
    have hwu : Whole u w.heap.size 33 [.int .u8 (k : Nat), .int .i64 s, .int .i64 n, .slice Ab bs.length cb, .slice Ak keep.length ck] := hs.holds (.box w.heap.size 33 [.int .u8 (k : Nat), .int .i64 s, .int .i64 n, .slice Ab bs.length cb, .slice Ak keep.length ck]) (by simp)
    have cu1 := hwu.cell 1
    simp only [List.getElem?_cons_zero, List.getElem?_cons_succ] at cu1
    have W := Lib.hid (write_is d HO.out s (sectorL n bs) b pv wv v u hs (Stays.of_own (base := w0.heap.size) (e := 5) (K := 1) (by simp [rowB])) HFEW.out)
    have HOWN := rowB_row (base := w0.heap.size) (v := v) (xs := sectorL n bs) hs (by simp)
    obtain ⟨g, c, hv, _⟩ := own_form (hs.holds (rowB w0.heap.size v (sectorL n bs)) (by simp)) HPOS.out
    subst hv
    generalize sectorL n bs = L at *
    obtain ⟨N, hN⟩ : ∃ N, L.length = N := ⟨_, rfl⟩
    have HN := Lib.hid hN
    have hN9 : N ≤ 1000000000 := by rw [← hN]; exact HFL.out
    rw [hN] at W ⊢
    clear hs hwu HOWN hN
    go_wp2_with fail
    refine W.out.mono ?_
    rintro e u2 ⟨rfl, wv', hs⟩
    have HS2 := Lib.hid hs
    clear hs
    go_wp2_with fail
    go_loopw [7] (fun i wr => ∃ (j : Nat) (ys : List Int), ys.length = N ∧ j ≤ N ∧ i = .int .i64 j ∧ Sep w0 (dI w0.heap.size b pv wv' (writeD d s L) ++ (.box w.heap.size 33 [.int .u8 (k : Nat), .int .i64 s, .int .i64 n, .slice Ab bs.length cb, .slice Ak keep.length ck] :: (l ++ [rowB w0.heap.size (.slice (some ⟨g, 0, none⟩) N c) ys]))) wr) (fun i _ => N - (intOf i).toNat)
    case atStart => exact ⟨0, L, HN.out, Nat.zero_le _, rfl, HS2.out⟩
    case round =>
      obtain ⟨j, ys, hy, hj, rfl, hs⟩ := hrel
      have HS3 := Lib.hid hs
      have HY := Lib.hid hy
      have ho := hs.holds (rowB w0.heap.size (.slice (some ⟨g, 0, none⟩) N c) ys) (by simp)
      clear hs hy
      by_cases hlt : j < N
      · have hly : j < ys.length := by rw [HY.out]; exact hlt
        have hc : wr.cell? ⟨g, j, none⟩ = some (.int .u8 ys[j]) := by
          have ho' : wr.ownsRow w0.heap.size 5 1 (.slice (some ⟨g, 0, none⟩) N c) N (u8s ys) := by have := ho; unfold rowB at this; rw [HY.out] at this; exact this
          rw [ho'.cellAt j (by omega), u8s_get, List.getElem?_eq_getElem hly]
          rfl
        have hf : wr.frozen? ⟨g, j, none⟩ = false := by
          have ho' : wr.ownsRow w0.heap.size 5 1 (.slice (some ⟨g, 0, none⟩) N c) N (u8s ys) := by have := ho; unfold rowB at this; rw [HY.out] at this; exact this
          exact ho'.frozenAt j
        generalize ys[j] = y at *
        have hj0 : (0 : Int) ≤ (j : Int) := by omega
        have hj1 : (j : Int) < (N : Int) := by omega
        clear ho
        go_wp2_with fail
        go_round
        · refine ⟨j + 1, ys.set j (IntKind.u8.wrap (y + 1)), by rw [List.length_set]; exact HY.out, by omega, by go_num, ?_⟩
          have e1 := HS3.out
          rw [show dI w0.heap.size b pv wv' (writeD d s L) ++ (.box w.heap.size 33 [.int .u8 (k : Nat), .int .i64 s, .int .i64 n, .slice Ab bs.length cb, .slice Ak keep.length ck] :: (l ++ [rowB w0.heap.size (.slice (some ⟨g, 0, none⟩) N c) ys])) = (dI w0.heap.size b pv wv' (writeD d s L) ++ (.box w.heap.size 33 [.int .u8 (k : Nat), .int .i64 s, .int .i64 n, .slice Ab bs.length cb, .slice Ak keep.length ck] :: l)) ++ [rowB w0.heap.size (.slice (some ⟨g, 0, none⟩) N c) ys] from by simp] at e1
          have e2 := e1.lastSet HY.out j (IntKind.u8.wrap (y + 1))
          simp only [List.append_assoc, List.cons_append] at e2
          exact e2
        · show N - ((j : Int) + 1).toNat < N - (j : Int).toNat; omega
      · have hjN : j = N := by omega
        subst hjN
        clear ho
        go_wp2_with fail
        go_ret
        refine ⟨by rw [hE.out]; rfl, ?_⟩
        rw [hD.out]
        refine HEND.out _ _ ⟨wv', ?_⟩
        have e1 := HS3.out
        exact e1.sub (((List.sublist_append_left _ _).cons_cons _).append_left _)
  · have hE : Hid (doE d ⟨k, s, n, bs, keep⟩ = writeE d s (sectorL n bs)) := by show doE d ⟨k, s, n, bs, keep⟩ = _; unfold doE; simp only [hqm]
    have hD : Hid (doD d ⟨k, s, n, bs, keep⟩ = writeD d s (sectorL n bs)) := by show doD d ⟨k, s, n, bs, keep⟩ = _; unfold doD; simp only [hqm]
    have C := Lib.hid (sector_is (k : Nat) s n bs (.slice Ab bs.length cb) (.slice Ak keep.length ck) _ HS.out (HB.out.appL _) HBL.out)
    have HPOS := Lib.hid (sectorL_pos n bs)
    have HFL := Lib.hid (sectorL_few n bs HBL.out)
    clear hqm
    go_enter Try.func22, Try.ntmps22
    go_wp2_with fail
    refine C.out.mono ?_
    rintro e u ⟨v, rfl, hs⟩
    rw [List.append_assoc] at hs
    have hwu : Whole u w.heap.size 33 [.int .u8 (k : Nat), .int .i64 s, .int .i64 n, .slice Ab bs.length cb, .slice Ak keep.length ck] := hs.holds (.box w.heap.size 33 [.int .u8 (k : Nat), .int .i64 s, .int .i64 n, .slice Ab bs.length cb, .slice Ak keep.length ck]) (by simp)
    have cu1 := hwu.cell 1
    simp only [List.getElem?_cons_zero, List.getElem?_cons_succ] at cu1
    have W := Lib.hid (write_is d HO.out s (sectorL n bs) b pv wv v u hs (Stays.of_own (base := w0.heap.size) (e := 5) (K := 1) (by simp [rowB])) HFEW.out)
    have HOWN := rowB_row (base := w0.heap.size) (v := v) (xs := sectorL n bs) hs (by simp)
    obtain ⟨g, c, hv, _⟩ := own_form (hs.holds (rowB w0.heap.size v (sectorL n bs)) (by simp)) HPOS.out
    subst hv
    generalize sectorL n bs = L at *
    obtain ⟨N, hN⟩ : ∃ N, L.length = N := ⟨_, rfl⟩
    have HN := Lib.hid hN
    have hN9 : N ≤ 1000000000 := by rw [← hN]; exact HFL.out
    rw [hN] at W ⊢
    clear hs hwu HOWN hN
    go_wp2_with fail
    refine W.out.mono ?_
    rintro e u2 ⟨rfl, wv', hs⟩
    have HS2 := Lib.hid hs
    clear hs
    go_wp2_with fail
    go_loopw [7] (fun i wr => ∃ (j : Nat) (ys : List Int), ys.length = N ∧ j ≤ N ∧ i = .int .i64 j ∧ Sep w0 (dI w0.heap.size b pv wv' (writeD d s L) ++ (.box w.heap.size 33 [.int .u8 (k : Nat), .int .i64 s, .int .i64 n, .slice Ab bs.length cb, .slice Ak keep.length ck] :: (l ++ [rowB w0.heap.size (.slice (some ⟨g, 0, none⟩) N c) ys]))) wr) (fun i _ => N - (intOf i).toNat)
    case atStart => exact ⟨0, L, HN.out, Nat.zero_le _, rfl, HS2.out⟩
    case round =>
      obtain ⟨j, ys, hy, hj, rfl, hs⟩ := hrel
      have HS3 := Lib.hid hs
      have HY := Lib.hid hy
      have ho := hs.holds (rowB w0.heap.size (.slice (some ⟨g, 0, none⟩) N c) ys) (by simp)
      clear hs hy
      by_cases hlt : j < N
      · have hly : j < ys.length := by rw [HY.out]; exact hlt
        have hc : wr.cell? ⟨g, j, none⟩ = some (.int .u8 ys[j]) := by
          have ho' : wr.ownsRow w0.heap.size 5 1 (.slice (some ⟨g, 0, none⟩) N c) N (u8s ys) := by have := ho; unfold rowB at this; rw [HY.out] at this; exact this
          rw [ho'.cellAt j (by omega), u8s_get, List.getElem?_eq_getElem hly]
          rfl
        have hf : wr.frozen? ⟨g, j, none⟩ = false := by
          have ho' : wr.ownsRow w0.heap.size 5 1 (.slice (some ⟨g, 0, none⟩) N c) N (u8s ys) := by have := ho; unfold rowB at this; rw [HY.out] at this; exact this
          exact ho'.frozenAt j
        generalize ys[j] = y at *
        have hj0 : (0 : Int) ≤ (j : Int) := by omega
        have hj1 : (j : Int) < (N : Int) := by omega
        clear ho
        go_wp2_with fail
        go_round
        · refine ⟨j + 1, ys.set j (IntKind.u8.wrap (y + 1)), by rw [List.length_set]; exact HY.out, by omega, by go_num, ?_⟩
          have e1 := HS3.out
          rw [show dI w0.heap.size b pv wv' (writeD d s L) ++ (.box w.heap.size 33 [.int .u8 (k : Nat), .int .i64 s, .int .i64 n, .slice Ab bs.length cb, .slice Ak keep.length ck] :: (l ++ [rowB w0.heap.size (.slice (some ⟨g, 0, none⟩) N c) ys])) = (dI w0.heap.size b pv wv' (writeD d s L) ++ (.box w.heap.size 33 [.int .u8 (k : Nat), .int .i64 s, .int .i64 n, .slice Ab bs.length cb, .slice Ak keep.length ck] :: l)) ++ [rowB w0.heap.size (.slice (some ⟨g, 0, none⟩) N c) ys] from by simp] at e1
          have e2 := e1.lastSet HY.out j (IntKind.u8.wrap (y + 1))
          simp only [List.append_assoc, List.cons_append] at e2
          exact e2
        · show N - ((j : Int) + 1).toNat < N - (j : Int).toNat; omega
      · have hjN : j = N := by omega
        subst hjN
        clear ho
        go_wp2_with fail
        go_ret
        refine ⟨by rw [hE.out]; rfl, ?_⟩
        rw [hD.out]
        refine HEND.out _ _ ⟨wv', ?_⟩
        have e1 := HS3.out
        exact e1.sub (((List.sublist_append_left _ _).cons_cons _).append_left _)
end Di
end Go.Proofs.Ytnjejffbcgchlaa
