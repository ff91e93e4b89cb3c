/- What the laws' small functions return: Copy, Same, Sector, reads. -/
import Derived.Test.YtnjejffbcgchlaaDiskWrite
set_option linter.unusedSimpArgs false
set_option linter.unusedVariables false
namespace Go.Proofs.Ytnjejffbcgchlaa
open Go.RowKit
namespace Di

set_option maxHeartbeats 1000000 in
theorem copy_is (bs : List Int) (bv : Value) {w0 : World} {l : List It} (w : World) (hS : Sep w0 l w) (hr : Row w w.heap.size bv bs.length (u8s bs)) (hb : bs.length ≤ 1000000000) :
    Calls Try.prog 35 #[bv] w fun e w' => ∃ v, e = .returned v ∧ Sep w0 (l ++ [rowB w0.heap.size v bs]) w' := by
  obtain ⟨i0, hi, hz0, hz1, hz2⟩ := info_parts info_u8
  obtain ⟨A, c, rfl, _, _⟩ := hr.slice
  have HR := Lib.hid hr
  have HS := Lib.hid hS
  clear hr hS
  go_enter Try.func35, Try.ntmps35
  go_wp2_with (at_builtin; refine wpList_append_foot _ rfl (.tmp 4) (.tmp 5) _ rfl w.heap.size 5 i0 _ 1 1 Try.underlying22 hi hz0 hz1 hz2 rfl (by decide) (.slice none 0 0) 0 [] rfl ⟨rfl, .inl ⟨rfl, rfl⟩⟩ w.heap.size _ bs.length (u8s bs) rfl HR.out (by rw [u8s_len]; omega) (u8s_one _) (by unfold maxLen; omega) (by omega) (by omega) ?_; intro v1 w1 h1 h2 h3)
  go_ret
  refine ⟨v1, rfl, ?_⟩
  have hb : Below w.heap.size w w1 := (Below.refl _ _).grown h2 (Nat.le_refl _) (fun k hk => by cases hk)
  exact HS.out.last hb (by simpa using h1)

set_option maxHeartbeats 2000000 in
theorem same_is (xs bs : List Int) (av bv : Value) (B C : Nat) (w : World) (ha : Row w B av xs.length (u8s xs)) (hb' : Row w C bv bs.length (u8s bs)) :
    Calls Try.prog 25 #[av, bv] w fun e w' => e = .returned (.bool (decide (xs = bs))) ∧ Below w.heap.size w w' := by
  obtain ⟨A, c, rfl, _, _⟩ := ha.slice
  obtain ⟨A', c', rfl, _, _⟩ := hb'.slice
  have hba := ha.bound
  have hbb := hb'.bound
  have HA := Lib.hid ha
  have HB' := Lib.hid hb'
  clear ha hb'
  by_cases hl : xs.length = bs.length
  · have hl0 : ((xs.length : Int) == (bs.length : Int)) = true := by simp [hl]
    have hl1 : ((xs.length : Int) != (bs.length : Int)) = false := by simp [hl]
    obtain ⟨M, hM⟩ : ∃ M, xs.length = M := ⟨_, rfl⟩
    rw [← hl] at hbb HB'
    rw [← hl] at hl0 hl1
    have HM := Lib.hid hM
    have HL := Lib.hid (hl.symm.trans hM)
    rw [hM] at HA HB' hl0 hl1 hba
    rw [← hl, hM]
    clear hM hl hbb
    go_enter Try.func25, Try.ntmps25
    go_wp2_with fail
    go_loopw [5] (fun i wr => ∃ k : Nat, k ≤ M ∧ i = .int .i64 k ∧ xs.take k = bs.take k ∧ Below w.heap.size w wr) (fun i _ => M - (intOf i).toNat)
    case atStart => exact ⟨0, Nat.zero_le _, rfl, rfl, Below.refl _ _⟩
    case round =>
      obtain ⟨k, hk, rfl, heq, hx⟩ := hrel
      have HX := Lib.hid hx
      have HEQ := Lib.hid heq
      clear hx heq
      by_cases hlt : k < M
      · have hla : k < xs.length := by rw [HM.out]; exact hlt
        have hlb : k < bs.length := by rw [HL.out]; exact hlt
        obtain ⟨b1, o1, rfl, hb1, hx1⟩ := HA.out.at_ (j := k) (by rw [u8s_len]; exact hla)
        obtain ⟨b2, o2, rfl, hb2, hx2⟩ := HB'.out.at_ (j := k) (by rw [u8s_len]; exact hlb)
        have y1' := hx1 k (.int .u8 xs[k]) (by rw [u8s_get, List.getElem?_eq_getElem hla]; rfl)
        have y2' := hx2 k (.int .u8 bs[k]) (by rw [u8s_get, List.getElem?_eq_getElem hlb]; rfl)
        have y1 := (HX.out.cell (p := ⟨b1, o1 + k, none⟩) (World.block_lt_of_cell? w ⟨b1, o1 + k, none⟩ y1')).trans y1'
        have y2 := (HX.out.cell (p := ⟨b2, o2 + k, none⟩) (World.block_lt_of_cell? w ⟨b2, o2 + k, none⟩ y2')).trans y2'
        clear hx1 hx2 y1' y2'
        have hz := HX.out.size
        have hnext : Hid (xs[k] = bs[k] → xs.take (k + 1) = bs.take (k + 1)) := fun h => by
          rw [List.take_succ_eq_append_getElem hla, List.take_succ_eq_append_getElem hlb, HEQ.out, h]
        have hno : Hid (¬ xs[k] = bs[k] → decide (xs = bs) = false) := fun h => by
          rw [decide_eq_false_iff_not]
          intro e
          subst e
          exact h rfl
        generalize xs[k] = x at *
        generalize bs[k] = y at *
        have hk0 : (0 : Int) ≤ (k : Int) := by omega
        have hk1 : (k : Int) < (M : Int) := by omega
        by_cases hxy : x = y
        · have HN := Lib.hid (hnext.out hxy)
          subst hxy
          go_wp2_with fail
          go_quiet (fail)
          go_wp2_with fail
          go_round
          · exact ⟨k + 1, by omega, by go_num, HN.out, below_drewN' HX.out _⟩
          · show M - ((k : Int) + 1).toNat < M - (k : Int).toNat; omega
        · have HN := Lib.hid (hno.out hxy)
          have hne : (x == y) = false := by simp [hxy]
          have hne2 : (x != y) = true := by simp [hxy]
          have hxy' := Lib.hid hxy
          clear hxy
          go_wp2_with fail
          go_quiet (fail)
          go_wp2_with fail
          go_ret
          exact ⟨by rw [HN.out]; rfl, below_drewN' HX.out _⟩
      · have hkM : k = M := by omega
        subst hkM
        have HE : Hid (decide (xs = bs) = true) := by
          have h1 := HEQ.out
          rw [List.take_of_length_le (by rw [HM.out]; omega), List.take_of_length_le (by rw [HL.out]; omega)] at h1
          show decide (xs = bs) = true
          rw [decide_eq_true_eq]; exact h1
        go_wp2_with fail
        go_ret
        exact ⟨by rw [HE.out]; rfl, HX.out⟩
  · have hl0 : ((xs.length : Int) == (bs.length : Int)) = false := by rw [beq_eq_false_iff_ne]; omega
    have hl1 : ((xs.length : Int) != (bs.length : Int)) = true := by simp [hl0, bne]
    have HE : Hid (decide (xs = bs) = false) := by
      show decide (xs = bs) = false
      rw [decide_eq_false_iff_not]
      intro e
      exact hl (by rw [e])
    clear hl
    generalize xs.length = M at *
    generalize bs.length = N at *
    go_enter Try.func25, Try.ntmps25
    go_wp2_with fail
    go_ret
    exact ⟨by rw [HE.out]; rfl, Below.refl _ _⟩

/-- What an act writes. -/
def sectorL (n : Int) (bs : List Int) : List Int := if bs.length = 0 then List.replicate 64 (IntKind.u8.wrap n) else bs
def actC (k : Int) (s n : Int) (bv kv : Value) : List Value := [.int .u8 k, .int .i64 s, .int .i64 n, bv, kv]
set_option maxHeartbeats 2000000 in
theorem sector_is (k s n : Int) (bs : List Int) (bv kv : Value) {w0 : World} {l : List It} (w : World) (hS : Sep w0 l w) (hK : Stays w0 l bv bs.length (u8s bs)) (hb : bs.length ≤ 1000000000) :
    Calls Try.prog 13 #[.agg #[.int .u8 k, .int .i64 s, .int .i64 n, bv, kv]] w fun e w' => ∃ v, e = .returned v ∧ Sep w0 (l ++ [rowB w0.heap.size v (sectorL n bs)]) w' := by
  obtain ⟨A, c, rfl, _, _⟩ := (hK.now (a := []) hS).slice
  obtain ⟨i0, hi, hz0, hz1, hz2⟩ := info_parts info_u8
  have HS0 := Lib.hid (hS.alloc 33 [.int .u8 k, .int .i64 s, .int .i64 n, .slice A bs.length c, kv])
  have HS1 := Lib.hid (hS.fresh (.cells #[.int .u8 k, .int .i64 s, .int .i64 n, .slice A bs.length c, kv] 33))
  have HK := Lib.hid hK
  have HW0 : Hid (Whole (w.alloc (.cells #[.int .u8 k, .int .i64 s, .int .i64 n, .slice A bs.length c, kv] 33)) w.heap.size 33 [.int .u8 k, .int .i64 s, .int .i64 n, .slice A bs.length c, kv]) := Whole.new _ _ _
  have hzz := hS.size
  clear hS hK
  by_cases h0 : bs.length = 0
  · have hE : Hid (sectorL n bs = List.replicate 64 (IntKind.u8.wrap n)) := by show sectorL n bs = _; unfold sectorL; rw [if_pos h0]
    rw [h0] at HS0 HW0 ⊢
    clear HK HS1
    generalize hm : IntKind.u8.wrap n = m at hE
    go_enter Try.func13, Try.ntmps13
    go_wp2_with fail
    go_loopw [3, 4] (fun v i wr => ∃ j : Nat, j ≤ 64 ∧ i = .int .i64 j ∧ Sep w0 (.box w.heap.size 33 [.int .u8 k, .int .i64 s, .int .i64 n, .slice A 0 c, kv] :: (l ++ [rowB w0.heap.size v (List.replicate j m)])) wr) (fun _ i _ => 64 - (intOf i).toNat)
    case atStart => exact ⟨0, by omega, rfl, HS0.out.lastNil _ _⟩
    case round =>
      obtain ⟨j, hj, rfl, hs⟩ := hrel
      have hw := hs.head
      have c2 := Whole.cell hw 2
      simp only [List.getElem?_cons_zero, List.getElem?_cons_succ] at c2
      have HS := Lib.hid hs
      have HO : Hid (wr.ownsRow w0.heap.size 5 1 _ (List.replicate j m).length (u8s (List.replicate j m))) := hs.holds _ (List.mem_cons_of_mem _ (List.mem_append_right _ (List.mem_singleton.2 rfl)))
      have hz := hs.size
      obtain ⟨A2, c2', hv, _, _⟩ := (Row.of_own HO.out).slice
      rw [List.length_replicate] at HO hv
      subst hv
      clear hs hw HS0 HW0
      by_cases hlt : j < 64
      · have HR : Hid (Row (wr.alloc (.cells #[.int .u8 m] 5)) (wr.heap.size + 1) (.slice (some ⟨wr.heap.size, 0, none⟩) 1 1) 1 [.int .u8 m]) := Row.blk (Whole.new wr 5 [.int .u8 m]) rfl (by omega) (by simp [maxLen])
        go_wp2_with (at_builtin; refine wpList_append_foot _ rfl (.tmp 16) (.tmp 20) _ rfl w0.heap.size 5 i0 _ 1 1 Try.underlying22 hi hz0 hz1 hz2 rfl (by decide) _ j (u8s (List.replicate j m)) rfl (own_below HO.out (be1 _ _)) (wr.heap.size + 1) _ 1 [.int .u8 m] rfl HR.out rfl (u8s_one [m]) (by unfold maxLen; omega) (by omega) (by rw [sz1]; omega) ?_; intro v1 w1 h1 h2 h3)
        have HS2 : Hid (Sep w0 (.box w.heap.size 33 [.int .u8 k, .int .i64 s, .int .i64 n, .slice A 0 c, kv] :: (l ++ [rowB w0.heap.size v1 (List.replicate (j + 1) m)])) w1) := by
          have e0 := (Sep.perm HS.out (List.perm_append_singleton (rowB w0.heap.size (.slice A2 j c2') (List.replicate j m)) (.box w.heap.size 33 [.int .u8 k, .int .i64 s, .int .i64 n, .slice A 0 c, kv] :: l))).fresh (.cells #[.int .u8 m] 5)
          unfold rowB at e0
          rw [List.length_replicate] at e0
          have e1 := e0.grown h1 h2 h3
          have e2 := e1.perm (List.perm_append_singleton _ _).symm
          unfold rowB
          rw [List.length_replicate, List.replicate_succ', u8s_app]
          exact e2
        clear h1 h2 h3
        go_wp2_with fail
        go_round
        · exact ⟨j + 1, by omega, by go_num, HS2.out⟩
        · show 64 - ((j : Int) + 1).toNat < 64 - (j : Int).toNat; omega
      · have hj64 : j = 64 := by omega
        subst hj64
        go_wp2_with fail
        go_ret
        refine ⟨_, rfl, ?_⟩
        rw [hE.out]
        exact HS.out.tail
  · clear HS0
    have hE : Hid (sectorL n bs = bs) := by show sectorL n bs = _; unfold sectorL; rw [if_neg h0]
    have hl0 : decide (0 < (bs.length : Int)) = true := by rw [decide_eq_true_eq]; omega
    have C := Lib.hid (copy_is bs (.slice A bs.length c) _ HS1.out (HK.out.now (a := []) HS1.out) hb)
    generalize bs.length = N at *
    have hN0 : 0 < N := by omega
    go_enter Try.func13, Try.ntmps13
    go_wp2_with fail
    refine C.out.mono ?_
    rintro e u ⟨v, rfl, hs⟩
    have HS2 := Lib.hid hs
    clear hs
    go_wp2_with fail
    go_ret
    refine ⟨_, rfl, ?_⟩
    rw [hE.out]
    exact HS2.out
end Di
end Go.Proofs.Ytnjejffbcgchlaa
