/- What was flushed is there behind any crash, till it is written anew (DiskFlushed). -/
import Derived.Test.YtnjejffbcgchlaaDiskFlushedPlain
set_option linter.unusedSimpArgs false
set_option linter.unusedVariables false
namespace Go.Proofs.Ytnjejffbcgchlaa
open Go.RowKit
namespace Di
set_option maxRecDepth 100000 in
set_option maxHeartbeats 16000000 in
theorem diskFlushed_is (L : List Av) {W : World} (hok : ∀ x ∈ L, avOk W x) (v : Value) (n : Int) (xk : Nat) (hxk : xk < 256) (keep : List Bool) (kv : Value) (_ : World) (hr : Row W W.heap.size v L.length (L.flatMap avC)) (hkr : Row W W.heap.size kv keep.length (bools keep)) :
    Calls Try.prog 7 #[v, .int .i64 n, .int .u8 (xk : Nat), kv] W fun e w' => e = .returned (.bool true) ∧ Below W.heap.size W w' := by
  obtain ⟨A, c, rfl, _, _⟩ := hr.slice
  obtain ⟨KA, kc, rfl, _, _⟩ := hkr.slice
  have hbd := hr.bound
  have HR := Lib.hid hr
  have HOK := Lib.hid hok
  obtain ⟨q', hq, hq0, hq1⟩ := mod4 n
  obtain ⟨q, rfl⟩ := Int.eq_ofNat_of_zero_le hq0
  have hq4 : q < 4 := by omega
  have hxw : IntKind.i64.wrap (xk : Int) = (xk : Int) := by rw [IntKind.wrap_i64]; omega
  have hx0 : (0 : Int) ≤ (xk : Int) := by omega
  have hx1 : (xk : Int) < 256 := by omega
  clear hr hok hkr
  generalize keep.length = KN at *
  go_enter Try.func7, Try.ntmps7
  go_wp2_with fail
  refine (awake_is W).mono ?_
  rintro e u0 ⟨rfl, hb⟩
  have S0 := Lib.hid (Sep.start W hb)
  have GR := great_is L (.slice A L.length c) _ u0 (HR.out.below hb) (fun x hx => (HOK.out x hx).below hb)
  clear hb
  cases hg : greatB L
  · rw [hg] at GR
    have GR := Lib.hid GR
    have hg2 := great_not hg
    have HL := Lib.hid hg2.2
    obtain ⟨M, hM⟩ : ∃ M, L.length = M := ⟨_, rfl⟩
    have hM1 : M ≤ 120 := by rw [← hM]; exact hg2.1
    have HM := Lib.hid hM
    rw [hM] at GR ⊢
    clear hg hg2 hM hbd
    go_wp2_with fail
    refine GR.out.mono ?_
    rintro e u9 ⟨rfl, rfl⟩
    clear GR
    by_cases hkn : 100 < KN
    · have hkn' : decide (100 < (KN : Int)) = true := by rw [decide_eq_true_eq]; omega
      clear hkn
      go_wp2_with fail
      go_ret
      exact ⟨rfl, S0.out.below⟩
    have hkn' : decide (100 < (KN : Int)) = false := by rw [decide_eq_false_iff_not]; omega
    obtain ⟨s1, s2, s3, s4⟩ := fl_start xk q hq4
    have T1 := Lib.hid s1; have T2 := Lib.hid s2; have T3 := Lib.hid s3; have T4 := Lib.hid s4
    clear hkn s1 s2 s3 s4
    have OK0 := Lib.hid (new_ok (n := 4) (by decide) (by decide))
    have FEW0 : Hid ((new 4).waits.length ≤ 1000000000) := by show (new 4).waits.length ≤ _; simp [new]
    have N := Lib.hid (new_is 4 (by omega) (by omega) u0 S0.out)
    go_wp2_with fail
    refine N.out.mono ?_
    rintro e u1 ⟨b, pv, rfl, hs⟩
    have H2 : Hid (Sep W (dI W.heap.size b pv (.slice none 0 0) (new 4) ++ []) u1) := hs
    clear hs N S0
    have C := sector_is 0 0 (xk : Nat) [] (.slice none 0 0) (.slice none 0 0) u1 H2.out (Stays.nil _ _) (by simp)
    have C := Lib.hid C
    go_wp2_with fail
    refine C.out.mono ?_
    rintro e u4 ⟨v3, rfl, hs⟩
    have H5 : Hid (Sep W (dI W.heap.size b pv (.slice none 0 0) (new 4) ++ [rowB W.heap.size v3 (sectorL (xk : Nat) [])]) u4) := hs
    clear hs H2 C
    have C := write_is (new 4) OK0.out (q : Nat) (sectorL xk []) b pv _ v3 u4 H5.out (Stays.of_own (base := W.heap.size) (e := 5) (K := 1) (by simp [rowB])) FEW0.out
    have C := Lib.hid C
    go_wp2_with fail
    refine C.out.mono ?_
    rintro e u6 ⟨rfl, wv6, hs⟩
    have H7 : Hid (Sep W (dI W.heap.size b pv wv6 (writeD (new 4) q (sectorL xk [])) ++ [rowB W.heap.size v3 (sectorL (xk : Nat) [])]) u6) := hs
    clear hs H5 C
    have H8 : Hid (Sep W (dI W.heap.size b pv wv6 (writeD (new 4) q (sectorL xk [])) ++ []) u6) := (show Sep W (dI W.heap.size b pv wv6 (writeD (new 4) q (sectorL xk [])) ++ ([] ++ [rowB W.heap.size v3 (sectorL (xk : Nat) [])])) u6 from H7.out).sub ((List.sublist_append_left [] [rowB W.heap.size v3 (sectorL (xk : Nat) [])]).append_left _)
    clear H7
    have OK1 := Lib.hid (write_ok OK0.out (q : Int) (sectorL xk []))
    have C := flush_is (writeD (new 4) q (sectorL xk [])) OK1.out b pv _ u6 H8.out
    rw [T1.out] at C
    have C := Lib.hid C
    go_wp2_with fail
    refine C.out.mono ?_
    rintro e u9 ⟨rfl, wv9, hs⟩
    have H10 : Hid (Sep W (dI W.heap.size b pv wv9 (flushD (writeD (new 4) q (sectorL xk []))) ++ []) u9) := hs
    clear hs H8 C
    obtain ⟨d0, hd0⟩ : ∃ d0, d0 = flushD (writeD (new 4) q (sectorL xk [])) := ⟨_, rfl⟩
    rw [← hd0] at H10 T2 T3
    clear hd0 T1 T4 OK0 OK1 FEW0
    go_wp2_with fail
    go_loopw [11] (fun i wr => ∃ (k : Nat) (wv : Value) (d : Dk), k ≤ M ∧ i = .int .i64 k ∧ Run d k ∧ Fl (sectorL xk []) q d ∧ Sep W (dI W.heap.size b pv wv d ++ []) wr) (fun i _ => M - (intOf i).toNat)
    case atStart => exact ⟨0, _, d0, Nat.zero_le _, rfl, T3.out, T2.out, H10.out⟩
    case round =>
      obtain ⟨k, wv, d, hk, rfl, hrun, hfl, hs⟩ := hrel
      have HS := Lib.hid hs
      have HRUN := Lib.hid hrun
      have HFL := Lib.hid hfl
      clear hs hrun hfl H10 T2 T3
      by_cases hlt : k < M
      · have hl : k < L.length := by rw [HM.out]; exact hlt
        obtain ⟨b2, o2, hA2, hb2, hx2⟩ := (HR.out.below HS.out.below).elem avC_len (by omega) hl
        subst hA2
        have y0 := hx2 0 _ rfl
        have y1 := hx2 1 _ rfl
        have y2 := hx2 2 _ rfl
        have y3 := hx2 3 _ rfl
        have y4 := hx2 4 _ rfl
        simp only [← Nat.add_assoc, Nat.add_zero] at y0 y1 y2 y3 y4
        have hx := HOK.out _ (List.getElem_mem hl)
        have hxl := HL.out _ (List.getElem_mem hl)
        clear hx2
        generalize L[k] = x at *
        have HRN := Lib.hid (HRUN.out.next hx)
        have HFN := Lib.hid (HFL.out.next x.a)
        have C := Lib.hid (do_is _ HRUN.out.ok x.a hx.1 b pv wv x.bv x.kv wr HS.out (avOk.bytes (u := wr) hx) (avOk.keeps (u := wr) hx) (by omega) (by have := HRUN.out.few; omega))
        obtain ⟨⟨kd, sc, nn, bs, ks⟩, bv, kv⟩ := x
        dsimp only at *
        have hk0 : (0 : Int) ≤ (k : Int) := by omega
        have hk1 : (k : Int) < (M : Int) := by omega
        obtain ⟨z, hz, hzm, hzi⟩ := do_cases kd hx.1
        rw [hzm] at HFN
        clear hx hxl hzm
        rcases (by omega : z < 3 ∨ (3 ≤ z ∧ z ≤ 5) ∨ z = 6 ∨ z = 7 ∨ z = 8) with hz1 | ⟨hz1, hz2⟩ | rfl | rfl | rfl
        · have t1 : decide (3 ≤ (z : Int)) = false := by rw [decide_eq_false_iff_not]; omega
          have t2 : ((z : Int) == 6) = false := by rw [beq_eq_false_iff_ne]; omega
          have t3 : ((z : Int) == 7) = false := by rw [beq_eq_false_iff_ne]; omega
          have HF1 := Lib.hid (HFN.out (by omega) (by omega))
          clear HFN HFL HRUN
          go_wp2_with fail
          refine C.out.mono ?_
          rintro e u5 ⟨rfl, wv5, hs⟩
          obtain ⟨d1, hd1⟩ : ∃ d1, d1 = doD d ⟨kd, sc, nn, bs, ks⟩ := ⟨_, rfl⟩
          rw [← hd1] at hs HF1 HRN
          have HS5 := Lib.hid hs
          have OK1 := Lib.hid HRN.out.ok
          obtain ⟨r1, r2, r3⟩ := HF1.out.rest (by rw [HRN.out.len]; exact hq4)
          have R1 := Lib.hid r1; have R2 := Lib.hid r2; have R3 := Lib.hid r3
          clear hs C hd1 r1 r2 r3 HS y0 y1 y2 y3 y4
          have C := rest_is (d1) OK1.out (q : Nat) b pv _ u5 HS5.out
          rw [R1.out] at C
          rw [R2.out] at C
          have C := Lib.hid C
          go_wp2_with fail
          refine C.out.mono ?_
          rintro e u31 ⟨vr, rfl, hs⟩
          have H32 : Hid (Sep W (dI W.heap.size b pv wv5 (d1) ++ [rowB W.heap.size vr (restV (d1) (q : Nat))]) u31) := hs
          clear hs HS5 C
          have C := sector_is 0 0 (xk : Nat) [] (.slice none 0 0) (.slice none 0 0) u31 H32.out (Stays.nil _ _) (by simp)
          have C := Lib.hid C
          go_wp2_with fail
          refine C.out.mono ?_
          rintro e u34 ⟨v33, rfl, hs⟩
          have H35 : Hid (Sep W (dI W.heap.size b pv wv5 (d1) ++ [rowB W.heap.size vr (restV (d1) (q : Nat)), rowB W.heap.size v33 (sectorL (xk : Nat) [])]) u34) := hs
          clear hs H32 C
          have C := same_is (restV d1 q) (sectorL xk []) vr v33 _ _ u34 (rowB_row (base := W.heap.size) H35.out (by simp)) (rowB_row (base := W.heap.size) H35.out (by simp))
          rw [R3.out] at C
          rw [decide_eq_true rfl] at C
          have C := Lib.hid C
          go_wp2_with fail
          refine C.out.mono ?_
          rintro e u36 ⟨rfl, hb⟩
          have hs := H35.out.call hb
          clear hb
          have H37 : Hid (Sep W (dI W.heap.size b pv wv5 (d1) ++ [rowB W.heap.size vr (restV (d1) (q : Nat)), rowB W.heap.size v33 (sectorL (xk : Nat) [])]) u36) := hs
          clear hs H35 C
          have H38 : Hid (Sep W (dI W.heap.size b pv wv5 (d1) ++ []) u36) := (show Sep W (dI W.heap.size b pv wv5 (d1) ++ ([] ++ [rowB W.heap.size vr (restV (d1) (q : Nat)), rowB W.heap.size v33 (sectorL (xk : Nat) [])])) u36 from H37.out).sub ((List.sublist_append_left [] [rowB W.heap.size vr (restV (d1) (q : Nat)), rowB W.heap.size v33 (sectorL (xk : Nat) [])]).append_left _)
          clear H37
          cases hup : d1.up
          · have C := up_is d1 OK1.out b pv _ u36 H38.out
            rw [hup] at C
            have C := Lib.hid C
            go_wp2_with fail
            refine C.out.mono ?_
            rintro e u9 ⟨rfl, rfl⟩
            clear C
            clear hup
            go_wp2_with fail
            go_loopw [16] (fun i wr => ∃ j : Nat, j ≤ 4 ∧ i = .int .i64 j ∧ Sep W (dI W.heap.size b pv wv5 (d1) ++ []) wr) (fun i _ => 4 - (intOf i).toNat)
            case atStart => exact ⟨0, by omega, rfl, H38.out⟩
            case round =>
              obtain ⟨j, hj, rfl, hs⟩ := hrel
              have HS6 := Lib.hid hs
              clear hs H38
              by_cases hj4 : j < 4
              · obtain ⟨r1, r2, r3⟩ := HF1.out.same (j := j) (by rw [HRN.out.len]; exact hj4)
                have R1 := Lib.hid r1; have R2 := Lib.hid r2; have R3 := Lib.hid r3
                clear r1 r2 r3
                have C := rest_is (d1) OK1.out (j : Nat) b pv _ wr HS6.out
                rw [R1.out] at C
                rw [R2.out] at C
                have C := Lib.hid C
                go_wp2_with fail
                refine C.out.mono ?_
                rintro e u39 ⟨vc, rfl, hs⟩
                have H40 : Hid (Sep W (dI W.heap.size b pv wv5 (d1) ++ [rowB W.heap.size vc (restV (d1) (j : Nat))]) u39) := hs
                clear hs HS6 C
                have C := meant_is (d1) OK1.out (j : Nat) b pv _ u39 H40.out
                rw [R1.out] at C
                have C := Lib.hid C
                go_wp2_with fail
                refine C.out.mono ?_
                rintro e u41 ⟨vm, rfl, hs⟩
                have H42 : Hid (Sep W (dI W.heap.size b pv wv5 (d1) ++ [rowB W.heap.size vc (restV (d1) (j : Nat)), rowB W.heap.size vm (meantV (d1) (j : Nat))]) u41) := hs
                clear hs H40 C
                have C := same_is (restV d1 j) (meantV d1 j) vc vm _ _ u41 (rowB_row (base := W.heap.size) H42.out (by simp)) (rowB_row (base := W.heap.size) H42.out (by simp))
                rw [R3.out] at C
                rw [decide_eq_true rfl] at C
                have C := Lib.hid C
                go_wp2_with fail
                refine C.out.mono ?_
                rintro e u43 ⟨rfl, hb⟩
                have hs := H42.out.call hb
                clear hb
                have H44 : Hid (Sep W (dI W.heap.size b pv wv5 (d1) ++ [rowB W.heap.size vc (restV (d1) (j : Nat)), rowB W.heap.size vm (meantV (d1) (j : Nat))]) u43) := hs
                clear hs H42 C
                have H45 : Hid (Sep W (dI W.heap.size b pv wv5 (d1) ++ []) u43) := (show Sep W (dI W.heap.size b pv wv5 (d1) ++ ([] ++ [rowB W.heap.size vc (restV (d1) (j : Nat)), rowB W.heap.size vm (meantV (d1) (j : Nat))])) u43 from H44.out).sub ((List.sublist_append_left [] [rowB W.heap.size vc (restV (d1) (j : Nat)), rowB W.heap.size vm (meantV (d1) (j : Nat))]).append_left _)
                clear H44
                go_wp2_with fail
                go_round
                · exact ⟨j + 1, by omega, by go_num, H45.out⟩
                · show 4 - ((j : Int) + 1).toNat < 4 - (j : Int).toNat; omega
              · have hj4' : j = 4 := by omega
                subst hj4'
                go_wp2_with fail
                go_round
                · exact ⟨k + 1, _, d1, by omega, by go_num, HRN.out, HF1.out, HS6.out⟩
                · show M - ((k : Int) + 1).toNat < M - (k : Int).toNat; omega
          · have hrd := HF1.out.reads (by rw [HRN.out.len]; exact hq4) hup
            have HRD := Lib.hid hrd
            clear hrd
            have C := up_is d1 OK1.out b pv _ u36 H38.out
            rw [hup] at C
            have C := Lib.hid C
            go_wp2_with fail
            refine C.out.mono ?_
            rintro e u9 ⟨rfl, rfl⟩
            clear C
            clear hup
            have C := reads_is (d1) OK1.out (q : Nat) (xk : Nat) hx0 hx1 b pv _ u36 H38.out
            rw [HRD.out] at C
            have C := Lib.hid C
            go_wp2_with fail
            refine C.out.mono ?_
            rintro e u46 ⟨rfl, hs⟩
            have H47 : Hid (Sep W (dI W.heap.size b pv wv5 (d1) ++ []) u46) := hs
            clear hs H38 C
            go_wp2_with fail
            go_loopw [16] (fun i wr => ∃ j : Nat, j ≤ 4 ∧ i = .int .i64 j ∧ Sep W (dI W.heap.size b pv wv5 (d1) ++ []) wr) (fun i _ => 4 - (intOf i).toNat)
            case atStart => exact ⟨0, by omega, rfl, H47.out⟩
            case round =>
              obtain ⟨j, hj, rfl, hs⟩ := hrel
              have HS6 := Lib.hid hs
              clear hs H47
              by_cases hj4 : j < 4
              · obtain ⟨r1, r2, r3⟩ := HF1.out.same (j := j) (by rw [HRN.out.len]; exact hj4)
                have R1 := Lib.hid r1; have R2 := Lib.hid r2; have R3 := Lib.hid r3
                clear r1 r2 r3
                have C := rest_is (d1) OK1.out (j : Nat) b pv _ wr HS6.out
                rw [R1.out] at C
                rw [R2.out] at C
                have C := Lib.hid C
                go_wp2_with fail
                refine C.out.mono ?_
                rintro e u48 ⟨vc, rfl, hs⟩
                have H49 : Hid (Sep W (dI W.heap.size b pv wv5 (d1) ++ [rowB W.heap.size vc (restV (d1) (j : Nat))]) u48) := hs
                clear hs HS6 C
                have C := meant_is (d1) OK1.out (j : Nat) b pv _ u48 H49.out
                rw [R1.out] at C
                have C := Lib.hid C
                go_wp2_with fail
                refine C.out.mono ?_
                rintro e u50 ⟨vm, rfl, hs⟩
                have H51 : Hid (Sep W (dI W.heap.size b pv wv5 (d1) ++ [rowB W.heap.size vc (restV (d1) (j : Nat)), rowB W.heap.size vm (meantV (d1) (j : Nat))]) u50) := hs
                clear hs H49 C
                have C := same_is (restV d1 j) (meantV d1 j) vc vm _ _ u50 (rowB_row (base := W.heap.size) H51.out (by simp)) (rowB_row (base := W.heap.size) H51.out (by simp))
                rw [R3.out] at C
                rw [decide_eq_true rfl] at C
                have C := Lib.hid C
                go_wp2_with fail
                refine C.out.mono ?_
                rintro e u52 ⟨rfl, hb⟩
                have hs := H51.out.call hb
                clear hb
                have H53 : Hid (Sep W (dI W.heap.size b pv wv5 (d1) ++ [rowB W.heap.size vc (restV (d1) (j : Nat)), rowB W.heap.size vm (meantV (d1) (j : Nat))]) u52) := hs
                clear hs H51 C
                have H54 : Hid (Sep W (dI W.heap.size b pv wv5 (d1) ++ []) u52) := (show Sep W (dI W.heap.size b pv wv5 (d1) ++ ([] ++ [rowB W.heap.size vc (restV (d1) (j : Nat)), rowB W.heap.size vm (meantV (d1) (j : Nat))])) u52 from H53.out).sub ((List.sublist_append_left [] [rowB W.heap.size vc (restV (d1) (j : Nat)), rowB W.heap.size vm (meantV (d1) (j : Nat))]).append_left _)
                clear H53
                go_wp2_with fail
                go_round
                · exact ⟨j + 1, by omega, by go_num, H54.out⟩
                · show 4 - ((j : Int) + 1).toNat < 4 - (j : Int).toNat; omega
              · have hj4' : j = 4 := by omega
                subst hj4'
                go_wp2_with fail
                go_round
                · exact ⟨k + 1, _, d1, by omega, by go_num, HRN.out, HF1.out, HS6.out⟩
                · show M - ((k : Int) + 1).toNat < M - (k : Int).toNat; omega
        · have t1 : decide (3 ≤ (z : Int)) = true := by rw [decide_eq_true_eq]; omega
          have t2 : decide ((z : Int) ≤ 5) = true := by rw [decide_eq_true_eq]; omega
          clear hz1 hz2
          clear C HRN HFN
          go_wp2_with fail
          go_round
          · exact ⟨k + 1, wv, d, by omega, by go_num, HRUN.out.more (by omega), HFL.out, HS.out⟩
          · show M - ((k : Int) + 1).toNat < M - (k : Int).toNat; omega
        · by_cases hsc : sc = (q : Int)
          · have hsc' : (sc == (q : Int)) = true := by rw [beq_iff_eq]; exact hsc
            clear hsc
            clear C HRN HFN
            go_wp2_with fail
            go_round
            · exact ⟨k + 1, wv, d, by omega, by go_num, HRUN.out.more (by omega), HFL.out, HS.out⟩
            · show M - ((k : Int) + 1).toNat < M - (k : Int).toNat; omega
          · have HSC := Lib.hid hsc
            have hsc' : (sc == (q : Int)) = false := by rw [beq_eq_false_iff_ne]; exact hsc
            clear hsc
            have HF1 := Lib.hid (HFN.out (by omega) (fun _ => HSC.out))
            clear HFN HFL HRUN
            go_wp2_with fail
            refine C.out.mono ?_
            rintro e u5 ⟨rfl, wv5, hs⟩
            obtain ⟨d1, hd1⟩ : ∃ d1, d1 = doD d ⟨kd, sc, nn, bs, ks⟩ := ⟨_, rfl⟩
            rw [← hd1] at hs HF1 HRN
            have HS5 := Lib.hid hs
            have OK1 := Lib.hid HRN.out.ok
            obtain ⟨r1, r2, r3⟩ := HF1.out.rest (by rw [HRN.out.len]; exact hq4)
            have R1 := Lib.hid r1; have R2 := Lib.hid r2; have R3 := Lib.hid r3
            clear hs C hd1 r1 r2 r3 HS y0 y1 y2 y3 y4
            have C := rest_is (d1) OK1.out (q : Nat) b pv _ u5 HS5.out
            rw [R1.out] at C
            rw [R2.out] at C
            have C := Lib.hid C
            go_wp2_with fail
            refine C.out.mono ?_
            rintro e u75 ⟨vr, rfl, hs⟩
            have H76 : Hid (Sep W (dI W.heap.size b pv wv5 (d1) ++ [rowB W.heap.size vr (restV (d1) (q : Nat))]) u75) := hs
            clear hs HS5 C
            have C := sector_is 0 0 (xk : Nat) [] (.slice none 0 0) (.slice none 0 0) u75 H76.out (Stays.nil _ _) (by simp)
            have C := Lib.hid C
            go_wp2_with fail
            refine C.out.mono ?_
            rintro e u78 ⟨v77, rfl, hs⟩
            have H79 : Hid (Sep W (dI W.heap.size b pv wv5 (d1) ++ [rowB W.heap.size vr (restV (d1) (q : Nat)), rowB W.heap.size v77 (sectorL (xk : Nat) [])]) u78) := hs
            clear hs H76 C
            have C := same_is (restV d1 q) (sectorL xk []) vr v77 _ _ u78 (rowB_row (base := W.heap.size) H79.out (by simp)) (rowB_row (base := W.heap.size) H79.out (by simp))
            rw [R3.out] at C
            rw [decide_eq_true rfl] at C
            have C := Lib.hid C
            go_wp2_with fail
            refine C.out.mono ?_
            rintro e u80 ⟨rfl, hb⟩
            have hs := H79.out.call hb
            clear hb
            have H81 : Hid (Sep W (dI W.heap.size b pv wv5 (d1) ++ [rowB W.heap.size vr (restV (d1) (q : Nat)), rowB W.heap.size v77 (sectorL (xk : Nat) [])]) u80) := hs
            clear hs H79 C
            have H82 : Hid (Sep W (dI W.heap.size b pv wv5 (d1) ++ []) u80) := (show Sep W (dI W.heap.size b pv wv5 (d1) ++ ([] ++ [rowB W.heap.size vr (restV (d1) (q : Nat)), rowB W.heap.size v77 (sectorL (xk : Nat) [])])) u80 from H81.out).sub ((List.sublist_append_left [] [rowB W.heap.size vr (restV (d1) (q : Nat)), rowB W.heap.size v77 (sectorL (xk : Nat) [])]).append_left _)
            clear H81
            cases hup : d1.up
            · have C := up_is d1 OK1.out b pv _ u80 H82.out
              rw [hup] at C
              have C := Lib.hid C
              go_wp2_with fail
              refine C.out.mono ?_
              rintro e u9 ⟨rfl, rfl⟩
              clear C
              clear hup
              go_wp2_with fail
              go_loopw [16] (fun i wr => ∃ j : Nat, j ≤ 4 ∧ i = .int .i64 j ∧ Sep W (dI W.heap.size b pv wv5 (d1) ++ []) wr) (fun i _ => 4 - (intOf i).toNat)
              case atStart => exact ⟨0, by omega, rfl, H82.out⟩
              case round =>
                obtain ⟨j, hj, rfl, hs⟩ := hrel
                have HS6 := Lib.hid hs
                clear hs H82
                by_cases hj4 : j < 4
                · obtain ⟨r1, r2, r3⟩ := HF1.out.same (j := j) (by rw [HRN.out.len]; exact hj4)
                  have R1 := Lib.hid r1; have R2 := Lib.hid r2; have R3 := Lib.hid r3
                  clear r1 r2 r3
                  have C := rest_is (d1) OK1.out (j : Nat) b pv _ wr HS6.out
                  rw [R1.out] at C
                  rw [R2.out] at C
                  have C := Lib.hid C
                  go_wp2_with fail
                  refine C.out.mono ?_
                  rintro e u83 ⟨vc, rfl, hs⟩
                  have H84 : Hid (Sep W (dI W.heap.size b pv wv5 (d1) ++ [rowB W.heap.size vc (restV (d1) (j : Nat))]) u83) := hs
                  clear hs HS6 C
                  have C := meant_is (d1) OK1.out (j : Nat) b pv _ u83 H84.out
                  rw [R1.out] at C
                  have C := Lib.hid C
                  go_wp2_with fail
                  refine C.out.mono ?_
                  rintro e u85 ⟨vm, rfl, hs⟩
                  have H86 : Hid (Sep W (dI W.heap.size b pv wv5 (d1) ++ [rowB W.heap.size vc (restV (d1) (j : Nat)), rowB W.heap.size vm (meantV (d1) (j : Nat))]) u85) := hs
                  clear hs H84 C
                  have C := same_is (restV d1 j) (meantV d1 j) vc vm _ _ u85 (rowB_row (base := W.heap.size) H86.out (by simp)) (rowB_row (base := W.heap.size) H86.out (by simp))
                  rw [R3.out] at C
                  rw [decide_eq_true rfl] at C
                  have C := Lib.hid C
                  go_wp2_with fail
                  refine C.out.mono ?_
                  rintro e u87 ⟨rfl, hb⟩
                  have hs := H86.out.call hb
                  clear hb
                  have H88 : Hid (Sep W (dI W.heap.size b pv wv5 (d1) ++ [rowB W.heap.size vc (restV (d1) (j : Nat)), rowB W.heap.size vm (meantV (d1) (j : Nat))]) u87) := hs
                  clear hs H86 C
                  have H89 : Hid (Sep W (dI W.heap.size b pv wv5 (d1) ++ []) u87) := (show Sep W (dI W.heap.size b pv wv5 (d1) ++ ([] ++ [rowB W.heap.size vc (restV (d1) (j : Nat)), rowB W.heap.size vm (meantV (d1) (j : Nat))])) u87 from H88.out).sub ((List.sublist_append_left [] [rowB W.heap.size vc (restV (d1) (j : Nat)), rowB W.heap.size vm (meantV (d1) (j : Nat))]).append_left _)
                  clear H88
                  go_wp2_with fail
                  go_round
                  · exact ⟨j + 1, by omega, by go_num, H89.out⟩
                  · show 4 - ((j : Int) + 1).toNat < 4 - (j : Int).toNat; omega
                · have hj4' : j = 4 := by omega
                  subst hj4'
                  go_wp2_with fail
                  go_round
                  · exact ⟨k + 1, _, d1, by omega, by go_num, HRN.out, HF1.out, HS6.out⟩
                  · show M - ((k : Int) + 1).toNat < M - (k : Int).toNat; omega
            · have hrd := HF1.out.reads (by rw [HRN.out.len]; exact hq4) hup
              have HRD := Lib.hid hrd
              clear hrd
              have C := up_is d1 OK1.out b pv _ u80 H82.out
              rw [hup] at C
              have C := Lib.hid C
              go_wp2_with fail
              refine C.out.mono ?_
              rintro e u9 ⟨rfl, rfl⟩
              clear C
              clear hup
              have C := reads_is (d1) OK1.out (q : Nat) (xk : Nat) hx0 hx1 b pv _ u80 H82.out
              rw [HRD.out] at C
              have C := Lib.hid C
              go_wp2_with fail
              refine C.out.mono ?_
              rintro e u90 ⟨rfl, hs⟩
              have H91 : Hid (Sep W (dI W.heap.size b pv wv5 (d1) ++ []) u90) := hs
              clear hs H82 C
              go_wp2_with fail
              go_loopw [16] (fun i wr => ∃ j : Nat, j ≤ 4 ∧ i = .int .i64 j ∧ Sep W (dI W.heap.size b pv wv5 (d1) ++ []) wr) (fun i _ => 4 - (intOf i).toNat)
              case atStart => exact ⟨0, by omega, rfl, H91.out⟩
              case round =>
                obtain ⟨j, hj, rfl, hs⟩ := hrel
                have HS6 := Lib.hid hs
                clear hs H91
                by_cases hj4 : j < 4
                · obtain ⟨r1, r2, r3⟩ := HF1.out.same (j := j) (by rw [HRN.out.len]; exact hj4)
                  have R1 := Lib.hid r1; have R2 := Lib.hid r2; have R3 := Lib.hid r3
                  clear r1 r2 r3
                  have C := rest_is (d1) OK1.out (j : Nat) b pv _ wr HS6.out
                  rw [R1.out] at C
                  rw [R2.out] at C
                  have C := Lib.hid C
                  go_wp2_with fail
                  refine C.out.mono ?_
                  rintro e u92 ⟨vc, rfl, hs⟩
                  have H93 : Hid (Sep W (dI W.heap.size b pv wv5 (d1) ++ [rowB W.heap.size vc (restV (d1) (j : Nat))]) u92) := hs
                  clear hs HS6 C
                  have C := meant_is (d1) OK1.out (j : Nat) b pv _ u92 H93.out
                  rw [R1.out] at C
                  have C := Lib.hid C
                  go_wp2_with fail
                  refine C.out.mono ?_
                  rintro e u94 ⟨vm, rfl, hs⟩
                  have H95 : Hid (Sep W (dI W.heap.size b pv wv5 (d1) ++ [rowB W.heap.size vc (restV (d1) (j : Nat)), rowB W.heap.size vm (meantV (d1) (j : Nat))]) u94) := hs
                  clear hs H93 C
                  have C := same_is (restV d1 j) (meantV d1 j) vc vm _ _ u94 (rowB_row (base := W.heap.size) H95.out (by simp)) (rowB_row (base := W.heap.size) H95.out (by simp))
                  rw [R3.out] at C
                  rw [decide_eq_true rfl] at C
                  have C := Lib.hid C
                  go_wp2_with fail
                  refine C.out.mono ?_
                  rintro e u96 ⟨rfl, hb⟩
                  have hs := H95.out.call hb
                  clear hb
                  have H97 : Hid (Sep W (dI W.heap.size b pv wv5 (d1) ++ [rowB W.heap.size vc (restV (d1) (j : Nat)), rowB W.heap.size vm (meantV (d1) (j : Nat))]) u96) := hs
                  clear hs H95 C
                  have H98 : Hid (Sep W (dI W.heap.size b pv wv5 (d1) ++ []) u96) := (show Sep W (dI W.heap.size b pv wv5 (d1) ++ ([] ++ [rowB W.heap.size vc (restV (d1) (j : Nat)), rowB W.heap.size vm (meantV (d1) (j : Nat))])) u96 from H97.out).sub ((List.sublist_append_left [] [rowB W.heap.size vc (restV (d1) (j : Nat)), rowB W.heap.size vm (meantV (d1) (j : Nat))]).append_left _)
                  clear H97
                  go_wp2_with fail
                  go_round
                  · exact ⟨j + 1, by omega, by go_num, H98.out⟩
                  · show 4 - ((j : Int) + 1).toNat < 4 - (j : Int).toNat; omega
                · have hj4' : j = 4 := by omega
                  subst hj4'
                  go_wp2_with fail
                  go_round
                  · exact ⟨k + 1, _, d1, by omega, by go_num, HRN.out, HF1.out, HS6.out⟩
                  · show M - ((k : Int) + 1).toNat < M - (k : Int).toNat; omega
        · by_cases hsc : sc = (q : Int)
          · have hsc' : (sc == (q : Int)) = true := by rw [beq_iff_eq]; exact hsc
            clear hsc
            clear C HRN HFN
            go_wp2_with fail
            go_round
            · exact ⟨k + 1, wv, d, by omega, by go_num, HRUN.out.more (by omega), HFL.out, HS.out⟩
            · show M - ((k : Int) + 1).toNat < M - (k : Int).toNat; omega
          · have HSC := Lib.hid hsc
            have hsc' : (sc == (q : Int)) = false := by rw [beq_eq_false_iff_ne]; exact hsc
            clear hsc
            have HF1 := Lib.hid (HFN.out (by omega) (fun _ => HSC.out))
            clear HFN HFL HRUN
            go_wp2_with fail
            refine C.out.mono ?_
            rintro e u5 ⟨rfl, wv5, hs⟩
            obtain ⟨d1, hd1⟩ : ∃ d1, d1 = doD d ⟨kd, sc, nn, bs, ks⟩ := ⟨_, rfl⟩
            rw [← hd1] at hs HF1 HRN
            have HS5 := Lib.hid hs
            have OK1 := Lib.hid HRN.out.ok
            obtain ⟨r1, r2, r3⟩ := HF1.out.rest (by rw [HRN.out.len]; exact hq4)
            have R1 := Lib.hid r1; have R2 := Lib.hid r2; have R3 := Lib.hid r3
            clear hs C hd1 r1 r2 r3 HS y0 y1 y2 y3 y4
            have C := rest_is (d1) OK1.out (q : Nat) b pv _ u5 HS5.out
            rw [R1.out] at C
            rw [R2.out] at C
            have C := Lib.hid C
            go_wp2_with fail
            refine C.out.mono ?_
            rintro e u119 ⟨vr, rfl, hs⟩
            have H120 : Hid (Sep W (dI W.heap.size b pv wv5 (d1) ++ [rowB W.heap.size vr (restV (d1) (q : Nat))]) u119) := hs
            clear hs HS5 C
            have C := sector_is 0 0 (xk : Nat) [] (.slice none 0 0) (.slice none 0 0) u119 H120.out (Stays.nil _ _) (by simp)
            have C := Lib.hid C
            go_wp2_with fail
            refine C.out.mono ?_
            rintro e u122 ⟨v121, rfl, hs⟩
            have H123 : Hid (Sep W (dI W.heap.size b pv wv5 (d1) ++ [rowB W.heap.size vr (restV (d1) (q : Nat)), rowB W.heap.size v121 (sectorL (xk : Nat) [])]) u122) := hs
            clear hs H120 C
            have C := same_is (restV d1 q) (sectorL xk []) vr v121 _ _ u122 (rowB_row (base := W.heap.size) H123.out (by simp)) (rowB_row (base := W.heap.size) H123.out (by simp))
            rw [R3.out] at C
            rw [decide_eq_true rfl] at C
            have C := Lib.hid C
            go_wp2_with fail
            refine C.out.mono ?_
            rintro e u124 ⟨rfl, hb⟩
            have hs := H123.out.call hb
            clear hb
            have H125 : Hid (Sep W (dI W.heap.size b pv wv5 (d1) ++ [rowB W.heap.size vr (restV (d1) (q : Nat)), rowB W.heap.size v121 (sectorL (xk : Nat) [])]) u124) := hs
            clear hs H123 C
            have H126 : Hid (Sep W (dI W.heap.size b pv wv5 (d1) ++ []) u124) := (show Sep W (dI W.heap.size b pv wv5 (d1) ++ ([] ++ [rowB W.heap.size vr (restV (d1) (q : Nat)), rowB W.heap.size v121 (sectorL (xk : Nat) [])])) u124 from H125.out).sub ((List.sublist_append_left [] [rowB W.heap.size vr (restV (d1) (q : Nat)), rowB W.heap.size v121 (sectorL (xk : Nat) [])]).append_left _)
            clear H125
            cases hup : d1.up
            · have C := up_is d1 OK1.out b pv _ u124 H126.out
              rw [hup] at C
              have C := Lib.hid C
              go_wp2_with fail
              refine C.out.mono ?_
              rintro e u9 ⟨rfl, rfl⟩
              clear C
              clear hup
              go_wp2_with fail
              go_loopw [16] (fun i wr => ∃ j : Nat, j ≤ 4 ∧ i = .int .i64 j ∧ Sep W (dI W.heap.size b pv wv5 (d1) ++ []) wr) (fun i _ => 4 - (intOf i).toNat)
              case atStart => exact ⟨0, by omega, rfl, H126.out⟩
              case round =>
                obtain ⟨j, hj, rfl, hs⟩ := hrel
                have HS6 := Lib.hid hs
                clear hs H126
                by_cases hj4 : j < 4
                · obtain ⟨r1, r2, r3⟩ := HF1.out.same (j := j) (by rw [HRN.out.len]; exact hj4)
                  have R1 := Lib.hid r1; have R2 := Lib.hid r2; have R3 := Lib.hid r3
                  clear r1 r2 r3
                  have C := rest_is (d1) OK1.out (j : Nat) b pv _ wr HS6.out
                  rw [R1.out] at C
                  rw [R2.out] at C
                  have C := Lib.hid C
                  go_wp2_with fail
                  refine C.out.mono ?_
                  rintro e u127 ⟨vc, rfl, hs⟩
                  have H128 : Hid (Sep W (dI W.heap.size b pv wv5 (d1) ++ [rowB W.heap.size vc (restV (d1) (j : Nat))]) u127) := hs
                  clear hs HS6 C
                  have C := meant_is (d1) OK1.out (j : Nat) b pv _ u127 H128.out
                  rw [R1.out] at C
                  have C := Lib.hid C
                  go_wp2_with fail
                  refine C.out.mono ?_
                  rintro e u129 ⟨vm, rfl, hs⟩
                  have H130 : Hid (Sep W (dI W.heap.size b pv wv5 (d1) ++ [rowB W.heap.size vc (restV (d1) (j : Nat)), rowB W.heap.size vm (meantV (d1) (j : Nat))]) u129) := hs
                  clear hs H128 C
                  have C := same_is (restV d1 j) (meantV d1 j) vc vm _ _ u129 (rowB_row (base := W.heap.size) H130.out (by simp)) (rowB_row (base := W.heap.size) H130.out (by simp))
                  rw [R3.out] at C
                  rw [decide_eq_true rfl] at C
                  have C := Lib.hid C
                  go_wp2_with fail
                  refine C.out.mono ?_
                  rintro e u131 ⟨rfl, hb⟩
                  have hs := H130.out.call hb
                  clear hb
                  have H132 : Hid (Sep W (dI W.heap.size b pv wv5 (d1) ++ [rowB W.heap.size vc (restV (d1) (j : Nat)), rowB W.heap.size vm (meantV (d1) (j : Nat))]) u131) := hs
                  clear hs H130 C
                  have H133 : Hid (Sep W (dI W.heap.size b pv wv5 (d1) ++ []) u131) := (show Sep W (dI W.heap.size b pv wv5 (d1) ++ ([] ++ [rowB W.heap.size vc (restV (d1) (j : Nat)), rowB W.heap.size vm (meantV (d1) (j : Nat))])) u131 from H132.out).sub ((List.sublist_append_left [] [rowB W.heap.size vc (restV (d1) (j : Nat)), rowB W.heap.size vm (meantV (d1) (j : Nat))]).append_left _)
                  clear H132
                  go_wp2_with fail
                  go_round
                  · exact ⟨j + 1, by omega, by go_num, H133.out⟩
                  · show 4 - ((j : Int) + 1).toNat < 4 - (j : Int).toNat; omega
                · have hj4' : j = 4 := by omega
                  subst hj4'
                  go_wp2_with fail
                  go_round
                  · exact ⟨k + 1, _, d1, by omega, by go_num, HRN.out, HF1.out, HS6.out⟩
                  · show M - ((k : Int) + 1).toNat < M - (k : Int).toNat; omega
            · have hrd := HF1.out.reads (by rw [HRN.out.len]; exact hq4) hup
              have HRD := Lib.hid hrd
              clear hrd
              have C := up_is d1 OK1.out b pv _ u124 H126.out
              rw [hup] at C
              have C := Lib.hid C
              go_wp2_with fail
              refine C.out.mono ?_
              rintro e u9 ⟨rfl, rfl⟩
              clear C
              clear hup
              have C := reads_is (d1) OK1.out (q : Nat) (xk : Nat) hx0 hx1 b pv _ u124 H126.out
              rw [HRD.out] at C
              have C := Lib.hid C
              go_wp2_with fail
              refine C.out.mono ?_
              rintro e u134 ⟨rfl, hs⟩
              have H135 : Hid (Sep W (dI W.heap.size b pv wv5 (d1) ++ []) u134) := hs
              clear hs H126 C
              go_wp2_with fail
              go_loopw [16] (fun i wr => ∃ j : Nat, j ≤ 4 ∧ i = .int .i64 j ∧ Sep W (dI W.heap.size b pv wv5 (d1) ++ []) wr) (fun i _ => 4 - (intOf i).toNat)
              case atStart => exact ⟨0, by omega, rfl, H135.out⟩
              case round =>
                obtain ⟨j, hj, rfl, hs⟩ := hrel
                have HS6 := Lib.hid hs
                clear hs H135
                by_cases hj4 : j < 4
                · obtain ⟨r1, r2, r3⟩ := HF1.out.same (j := j) (by rw [HRN.out.len]; exact hj4)
                  have R1 := Lib.hid r1; have R2 := Lib.hid r2; have R3 := Lib.hid r3
                  clear r1 r2 r3
                  have C := rest_is (d1) OK1.out (j : Nat) b pv _ wr HS6.out
                  rw [R1.out] at C
                  rw [R2.out] at C
                  have C := Lib.hid C
                  go_wp2_with fail
                  refine C.out.mono ?_
                  rintro e u136 ⟨vc, rfl, hs⟩
                  have H137 : Hid (Sep W (dI W.heap.size b pv wv5 (d1) ++ [rowB W.heap.size vc (restV (d1) (j : Nat))]) u136) := hs
                  clear hs HS6 C
                  have C := meant_is (d1) OK1.out (j : Nat) b pv _ u136 H137.out
                  rw [R1.out] at C
                  have C := Lib.hid C
                  go_wp2_with fail
                  refine C.out.mono ?_
                  rintro e u138 ⟨vm, rfl, hs⟩
                  have H139 : Hid (Sep W (dI W.heap.size b pv wv5 (d1) ++ [rowB W.heap.size vc (restV (d1) (j : Nat)), rowB W.heap.size vm (meantV (d1) (j : Nat))]) u138) := hs
                  clear hs H137 C
                  have C := same_is (restV d1 j) (meantV d1 j) vc vm _ _ u138 (rowB_row (base := W.heap.size) H139.out (by simp)) (rowB_row (base := W.heap.size) H139.out (by simp))
                  rw [R3.out] at C
                  rw [decide_eq_true rfl] at C
                  have C := Lib.hid C
                  go_wp2_with fail
                  refine C.out.mono ?_
                  rintro e u140 ⟨rfl, hb⟩
                  have hs := H139.out.call hb
                  clear hb
                  have H141 : Hid (Sep W (dI W.heap.size b pv wv5 (d1) ++ [rowB W.heap.size vc (restV (d1) (j : Nat)), rowB W.heap.size vm (meantV (d1) (j : Nat))]) u140) := hs
                  clear hs H139 C
                  have H142 : Hid (Sep W (dI W.heap.size b pv wv5 (d1) ++ []) u140) := (show Sep W (dI W.heap.size b pv wv5 (d1) ++ ([] ++ [rowB W.heap.size vc (restV (d1) (j : Nat)), rowB W.heap.size vm (meantV (d1) (j : Nat))])) u140 from H141.out).sub ((List.sublist_append_left [] [rowB W.heap.size vc (restV (d1) (j : Nat)), rowB W.heap.size vm (meantV (d1) (j : Nat))]).append_left _)
                  clear H141
                  go_wp2_with fail
                  go_round
                  · exact ⟨j + 1, by omega, by go_num, H142.out⟩
                  · show 4 - ((j : Int) + 1).toNat < 4 - (j : Int).toNat; omega
                · have hj4' : j = 4 := by omega
                  subst hj4'
                  go_wp2_with fail
                  go_round
                  · exact ⟨k + 1, _, d1, by omega, by go_num, HRN.out, HF1.out, HS6.out⟩
                  · show M - ((k : Int) + 1).toNat < M - (k : Int).toNat; omega
        · have t1 : True := trivial
          have HF1 := Lib.hid (HFN.out (by omega) (by omega))
          clear HFN HFL HRUN
          go_wp2_with fail
          refine C.out.mono ?_
          rintro e u5 ⟨rfl, wv5, hs⟩
          obtain ⟨d1, hd1⟩ : ∃ d1, d1 = doD d ⟨kd, sc, nn, bs, ks⟩ := ⟨_, rfl⟩
          rw [← hd1] at hs HF1 HRN
          have HS5 := Lib.hid hs
          have OK1 := Lib.hid HRN.out.ok
          obtain ⟨r1, r2, r3⟩ := HF1.out.rest (by rw [HRN.out.len]; exact hq4)
          have R1 := Lib.hid r1; have R2 := Lib.hid r2; have R3 := Lib.hid r3
          clear hs C hd1 r1 r2 r3 HS y0 y1 y2 y3 y4
          have C := rest_is (d1) OK1.out (q : Nat) b pv _ u5 HS5.out
          rw [R1.out] at C
          rw [R2.out] at C
          have C := Lib.hid C
          go_wp2_with fail
          refine C.out.mono ?_
          rintro e u163 ⟨vr, rfl, hs⟩
          have H164 : Hid (Sep W (dI W.heap.size b pv wv5 (d1) ++ [rowB W.heap.size vr (restV (d1) (q : Nat))]) u163) := hs
          clear hs HS5 C
          have C := sector_is 0 0 (xk : Nat) [] (.slice none 0 0) (.slice none 0 0) u163 H164.out (Stays.nil _ _) (by simp)
          have C := Lib.hid C
          go_wp2_with fail
          refine C.out.mono ?_
          rintro e u166 ⟨v165, rfl, hs⟩
          have H167 : Hid (Sep W (dI W.heap.size b pv wv5 (d1) ++ [rowB W.heap.size vr (restV (d1) (q : Nat)), rowB W.heap.size v165 (sectorL (xk : Nat) [])]) u166) := hs
          clear hs H164 C
          have C := same_is (restV d1 q) (sectorL xk []) vr v165 _ _ u166 (rowB_row (base := W.heap.size) H167.out (by simp)) (rowB_row (base := W.heap.size) H167.out (by simp))
          rw [R3.out] at C
          rw [decide_eq_true rfl] at C
          have C := Lib.hid C
          go_wp2_with fail
          refine C.out.mono ?_
          rintro e u168 ⟨rfl, hb⟩
          have hs := H167.out.call hb
          clear hb
          have H169 : Hid (Sep W (dI W.heap.size b pv wv5 (d1) ++ [rowB W.heap.size vr (restV (d1) (q : Nat)), rowB W.heap.size v165 (sectorL (xk : Nat) [])]) u168) := hs
          clear hs H167 C
          have H170 : Hid (Sep W (dI W.heap.size b pv wv5 (d1) ++ []) u168) := (show Sep W (dI W.heap.size b pv wv5 (d1) ++ ([] ++ [rowB W.heap.size vr (restV (d1) (q : Nat)), rowB W.heap.size v165 (sectorL (xk : Nat) [])])) u168 from H169.out).sub ((List.sublist_append_left [] [rowB W.heap.size vr (restV (d1) (q : Nat)), rowB W.heap.size v165 (sectorL (xk : Nat) [])]).append_left _)
          clear H169
          cases hup : d1.up
          · have C := up_is d1 OK1.out b pv _ u168 H170.out
            rw [hup] at C
            have C := Lib.hid C
            go_wp2_with fail
            refine C.out.mono ?_
            rintro e u9 ⟨rfl, rfl⟩
            clear C
            clear hup
            go_wp2_with fail
            go_loopw [16] (fun i wr => ∃ j : Nat, j ≤ 4 ∧ i = .int .i64 j ∧ Sep W (dI W.heap.size b pv wv5 (d1) ++ []) wr) (fun i _ => 4 - (intOf i).toNat)
            case atStart => exact ⟨0, by omega, rfl, H170.out⟩
            case round =>
              obtain ⟨j, hj, rfl, hs⟩ := hrel
              have HS6 := Lib.hid hs
              clear hs H170
              by_cases hj4 : j < 4
              · obtain ⟨r1, r2, r3⟩ := HF1.out.same (j := j) (by rw [HRN.out.len]; exact hj4)
                have R1 := Lib.hid r1; have R2 := Lib.hid r2; have R3 := Lib.hid r3
                clear r1 r2 r3
                have C := rest_is (d1) OK1.out (j : Nat) b pv _ wr HS6.out
                rw [R1.out] at C
                rw [R2.out] at C
                have C := Lib.hid C
                go_wp2_with fail
                refine C.out.mono ?_
                rintro e u171 ⟨vc, rfl, hs⟩
                have H172 : Hid (Sep W (dI W.heap.size b pv wv5 (d1) ++ [rowB W.heap.size vc (restV (d1) (j : Nat))]) u171) := hs
                clear hs HS6 C
                have C := meant_is (d1) OK1.out (j : Nat) b pv _ u171 H172.out
                rw [R1.out] at C
                have C := Lib.hid C
                go_wp2_with fail
                refine C.out.mono ?_
                rintro e u173 ⟨vm, rfl, hs⟩
                have H174 : Hid (Sep W (dI W.heap.size b pv wv5 (d1) ++ [rowB W.heap.size vc (restV (d1) (j : Nat)), rowB W.heap.size vm (meantV (d1) (j : Nat))]) u173) := hs
                clear hs H172 C
                have C := same_is (restV d1 j) (meantV d1 j) vc vm _ _ u173 (rowB_row (base := W.heap.size) H174.out (by simp)) (rowB_row (base := W.heap.size) H174.out (by simp))
                rw [R3.out] at C
                rw [decide_eq_true rfl] at C
                have C := Lib.hid C
                go_wp2_with fail
                refine C.out.mono ?_
                rintro e u175 ⟨rfl, hb⟩
                have hs := H174.out.call hb
                clear hb
                have H176 : Hid (Sep W (dI W.heap.size b pv wv5 (d1) ++ [rowB W.heap.size vc (restV (d1) (j : Nat)), rowB W.heap.size vm (meantV (d1) (j : Nat))]) u175) := hs
                clear hs H174 C
                have H177 : Hid (Sep W (dI W.heap.size b pv wv5 (d1) ++ []) u175) := (show Sep W (dI W.heap.size b pv wv5 (d1) ++ ([] ++ [rowB W.heap.size vc (restV (d1) (j : Nat)), rowB W.heap.size vm (meantV (d1) (j : Nat))])) u175 from H176.out).sub ((List.sublist_append_left [] [rowB W.heap.size vc (restV (d1) (j : Nat)), rowB W.heap.size vm (meantV (d1) (j : Nat))]).append_left _)
                clear H176
                go_wp2_with fail
                go_round
                · exact ⟨j + 1, by omega, by go_num, H177.out⟩
                · show 4 - ((j : Int) + 1).toNat < 4 - (j : Int).toNat; omega
              · have hj4' : j = 4 := by omega
                subst hj4'
                go_wp2_with fail
                go_round
                · exact ⟨k + 1, _, d1, by omega, by go_num, HRN.out, HF1.out, HS6.out⟩
                · show M - ((k : Int) + 1).toNat < M - (k : Int).toNat; omega
          · have hrd := HF1.out.reads (by rw [HRN.out.len]; exact hq4) hup
            have HRD := Lib.hid hrd
            clear hrd
            have C := up_is d1 OK1.out b pv _ u168 H170.out
            rw [hup] at C
            have C := Lib.hid C
            go_wp2_with fail
            refine C.out.mono ?_
            rintro e u9 ⟨rfl, rfl⟩
            clear C
            clear hup
            have C := reads_is (d1) OK1.out (q : Nat) (xk : Nat) hx0 hx1 b pv _ u168 H170.out
            rw [HRD.out] at C
            have C := Lib.hid C
            go_wp2_with fail
            refine C.out.mono ?_
            rintro e u178 ⟨rfl, hs⟩
            have H179 : Hid (Sep W (dI W.heap.size b pv wv5 (d1) ++ []) u178) := hs
            clear hs H170 C
            go_wp2_with fail
            go_loopw [16] (fun i wr => ∃ j : Nat, j ≤ 4 ∧ i = .int .i64 j ∧ Sep W (dI W.heap.size b pv wv5 (d1) ++ []) wr) (fun i _ => 4 - (intOf i).toNat)
            case atStart => exact ⟨0, by omega, rfl, H179.out⟩
            case round =>
              obtain ⟨j, hj, rfl, hs⟩ := hrel
              have HS6 := Lib.hid hs
              clear hs H179
              by_cases hj4 : j < 4
              · obtain ⟨r1, r2, r3⟩ := HF1.out.same (j := j) (by rw [HRN.out.len]; exact hj4)
                have R1 := Lib.hid r1; have R2 := Lib.hid r2; have R3 := Lib.hid r3
                clear r1 r2 r3
                have C := rest_is (d1) OK1.out (j : Nat) b pv _ wr HS6.out
                rw [R1.out] at C
                rw [R2.out] at C
                have C := Lib.hid C
                go_wp2_with fail
                refine C.out.mono ?_
                rintro e u180 ⟨vc, rfl, hs⟩
                have H181 : Hid (Sep W (dI W.heap.size b pv wv5 (d1) ++ [rowB W.heap.size vc (restV (d1) (j : Nat))]) u180) := hs
                clear hs HS6 C
                have C := meant_is (d1) OK1.out (j : Nat) b pv _ u180 H181.out
                rw [R1.out] at C
                have C := Lib.hid C
                go_wp2_with fail
                refine C.out.mono ?_
                rintro e u182 ⟨vm, rfl, hs⟩
                have H183 : Hid (Sep W (dI W.heap.size b pv wv5 (d1) ++ [rowB W.heap.size vc (restV (d1) (j : Nat)), rowB W.heap.size vm (meantV (d1) (j : Nat))]) u182) := hs
                clear hs H181 C
                have C := same_is (restV d1 j) (meantV d1 j) vc vm _ _ u182 (rowB_row (base := W.heap.size) H183.out (by simp)) (rowB_row (base := W.heap.size) H183.out (by simp))
                rw [R3.out] at C
                rw [decide_eq_true rfl] at C
                have C := Lib.hid C
                go_wp2_with fail
                refine C.out.mono ?_
                rintro e u184 ⟨rfl, hb⟩
                have hs := H183.out.call hb
                clear hb
                have H185 : Hid (Sep W (dI W.heap.size b pv wv5 (d1) ++ [rowB W.heap.size vc (restV (d1) (j : Nat)), rowB W.heap.size vm (meantV (d1) (j : Nat))]) u184) := hs
                clear hs H183 C
                have H186 : Hid (Sep W (dI W.heap.size b pv wv5 (d1) ++ []) u184) := (show Sep W (dI W.heap.size b pv wv5 (d1) ++ ([] ++ [rowB W.heap.size vc (restV (d1) (j : Nat)), rowB W.heap.size vm (meantV (d1) (j : Nat))])) u184 from H185.out).sub ((List.sublist_append_left [] [rowB W.heap.size vc (restV (d1) (j : Nat)), rowB W.heap.size vm (meantV (d1) (j : Nat))]).append_left _)
                clear H185
                go_wp2_with fail
                go_round
                · exact ⟨j + 1, by omega, by go_num, H186.out⟩
                · show 4 - ((j : Int) + 1).toNat < 4 - (j : Int).toNat; omega
              · have hj4' : j = 4 := by omega
                subst hj4'
                go_wp2_with fail
                go_round
                · exact ⟨k + 1, _, d1, by omega, by go_num, HRN.out, HF1.out, HS6.out⟩
                · show M - ((k : Int) + 1).toNat < M - (k : Int).toNat; omega
      · have hkM : k = M := by omega
        subst hkM
        go_wp2_with fail
        go_ret
        exact ⟨rfl, HS.out.below⟩
  · rw [hg] at GR
    have GR := Lib.hid GR
    clear hg
    generalize L.length = M at *
    go_wp2_with fail
    refine GR.out.mono ?_
    rintro e u9 ⟨rfl, rfl⟩
    go_wp2_with fail
    go_ret
    exact ⟨rfl, S0.out.below⟩
end Di
end Go.Proofs.Ytnjejffbcgchlaa
