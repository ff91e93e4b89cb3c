/- A fault at a sector changes what is read of no other one (DiskApart). -/
import Derived.Test.YtnjejffbcgchlaaDiskApartPlain
set_option linter.unusedSimpArgs false
set_option linter.unusedVariables false
namespace Go.Proofs.Ytnjejffbcgchlaa
open Go.RowKit
namespace Di
set_option maxRecDepth 100000 in
set_option maxHeartbeats 16000000 in
theorem diskApart_is (L : List Av) {W : World} (hok : ∀ x ∈ L, avOk W x) (v : Value) (kk : Nat) (hkk : kk < 256) (n1 n2 : Int) (_ : World) (hr : Row W W.heap.size v L.length (L.flatMap avC)) :
    Calls Try.prog 5 #[v, .int .u8 (kk : Nat), .int .i64 n1, .int .i64 n2] W fun e w' => e = .returned (.bool true) ∧ Below W.heap.size W w' := by
  obtain ⟨A, c, rfl, _, _⟩ := hr.slice
  have hbd := hr.bound
  have HR := Lib.hid hr
  have HOK := Lib.hid hok
  obtain ⟨q1, hq1, ha0, ha1⟩ := mod4 n1
  obtain ⟨q2, hq2, hb0, hb1⟩ := mod4 n2
  obtain ⟨z, hz, hzw⟩ := mod3 kk hkk
  have HZ := Lib.hid hz
  have hz0 : (0 : Int) ≤ (z : Int) := by omega
  clear hr hok hz
  go_enter Try.func5, Try.ntmps5
  go_wp2_with fail
  refine (awake_is W).mono ?_
  rintro e u0 ⟨rfl, hb⟩
  have S0 := Lib.hid (Sep.start W hb)
  have GR := great_is L (.slice A L.length c) _ u0 (HR.out.below hb) (fun x hx => (HOK.out x hx).below hb)
  clear hb
  cases hg : greatB L
  · rw [hg] at GR
    have GR := Lib.hid GR
    have hg2 := great_not hg
    have HL := Lib.hid hg2.2
    obtain ⟨M, hM⟩ : ∃ M, L.length = M := ⟨_, rfl⟩
    have hM1 : M ≤ 120 := by rw [← hM]; exact hg2.1
    have HM := Lib.hid hM
    rw [hM] at GR ⊢
    clear hg hg2 hM hbd
    go_wp2_with fail
    refine GR.out.mono ?_
    rintro e u9 ⟨rfl, rfl⟩
    clear GR
    have N := Lib.hid (new_is 4 (by omega) (by omega) u0 S0.out)
    go_wp2_with fail
    refine N.out.mono ?_
    rintro e u1 ⟨b, pv, rfl, hs⟩
    have H2 : Hid (Sep W (dI W.heap.size b pv (.slice none 0 0) (new 4) ++ []) u1) := hs
    clear hs N S0
    go_wp2_with fail
    go_loopw [11] (fun i wr => ∃ (k : Nat) (wv : Value), k ≤ M ∧ i = .int .i64 k ∧ Run (run (new 4) (L.take k)) k ∧ Sep W (dI W.heap.size b pv wv (run (new 4) (L.take k)) ++ []) wr) (fun i _ => M - (intOf i).toNat)
    case atStart => exact ⟨0, _, Nat.zero_le _, rfl, Run.start, H2.out⟩
    case round =>
      obtain ⟨k, wv, hk, rfl, hrun, hs⟩ := hrel
      have HS := Lib.hid hs
      have HRUN := Lib.hid hrun
      clear hs hrun H2
      by_cases hlt : k < M
      · have hl : k < L.length := by rw [HM.out]; exact hlt
        have hrw := (HR.out.below HS.out.below)
        rw [HM.out] at hrw
        obtain ⟨b2, o2, hA2, hb2, hx2⟩ := (HR.out.below HS.out.below).elem avC_len (by omega) hl
        subst hA2
        have y0 := hx2 0 _ rfl
        have y1 := hx2 1 _ rfl
        have y2 := hx2 2 _ rfl
        have y3 := hx2 3 _ rfl
        have y4 := hx2 4 _ rfl
        simp only [← Nat.add_assoc, Nat.add_zero] at y0 y1 y2 y3 y4
        have hx := HOK.out _ (List.getElem_mem hl)
        have hxl := HL.out _ (List.getElem_mem hl)
        have HSN := Lib.hid (run_snoc (new 4) L k hl)
        clear hrw hx2
        generalize L[k] = x at *
        have HRN := Lib.hid (HRUN.out.next hx)
        have C := Lib.hid (do_is _ HRUN.out.ok x.a hx.1 b pv wv x.bv x.kv wr HS.out (avOk.bytes (u := wr) hx) (avOk.keeps (u := wr) hx) (by omega) (by have := HRUN.out.few; omega))
        obtain ⟨⟨kd, sc, nn, bs, ks⟩, bv, kv⟩ := x
        dsimp only at *
        have hk0 : (0 : Int) ≤ (k : Int) := by omega
        have hk1 : (k : Int) < (M : Int) := by omega
        clear hx hxl
        go_wp2_with fail
        refine C.out.mono ?_
        rintro e u5 ⟨rfl, wv5, hs⟩
        have HS5 := Lib.hid hs
        clear hs C
        go_wp2_with fail
        go_round
        · exact ⟨k + 1, wv5, by omega, by go_num, by rw [HSN.out]; exact HRN.out, by rw [HSN.out]; exact HS5.out⟩
        · show M - ((k : Int) + 1).toNat < M - (k : Int).toNat; omega
      · have hkM : k = M := by omega
        subst hkM
        have HRE : Hid (L.take k = L) := by show L.take k = L; rw [← HM.out, List.take_length]
        rw [HRE.out] at HS HRUN
        obtain ⟨d, hd⟩ : ∃ d, d = run (new 4) L := ⟨_, rfl⟩
        rw [← hd] at HS HRUN
        clear hd HRE
        cases hup : d.up
        · have C := up_is d HRUN.out.ok b pv _ wr HS.out
          rw [hup] at C
          have C := Lib.hid C
          go_wp2_with fail
          refine C.out.mono ?_
          rintro e u9 ⟨rfl, rfl⟩
          clear C
          have C := crash_is (d) HRUN.out.ok [] b pv _ (.slice none 0 0) wr HS.out (Stays.nil _ _)
          have C := Lib.hid C
          go_wp2_with fail
          refine C.out.mono ?_
          rintro e u13 ⟨rfl, wv13, hs⟩
          have H14 : Hid (Sep W (dI W.heap.size b pv wv13 (crashD d []) ++ []) u13) := hs
          clear hs HS C
          have hUP := started_up.2 hup HRUN.out.dry
          have OK1 := Lib.hid (crash_ok HRUN.out.ok [])
          have C := start_is (crashD d []) OK1.out b pv _ u13 H14.out
          have C := Lib.hid C
          go_wp2_with fail
          refine C.out.mono ?_
          rintro e u15 ⟨rfl, hs⟩
          have H16 : Hid (Sep W (dI W.heap.size b pv wv13 (startD (crashD d [])) ++ []) u15) := hs
          clear hs H14 C
          have OKS := Lib.hid (start_ok OK1.out)
          have UPS := Lib.hid hUP
          have LENS : Hid ((startD (crashD d [])).places.length = 4) := by
            show (startD (crashD d [])).places.length = 4
            have h1 := (crash_len d []).trans HRUN.out.len
            have h2 := (crash_to HRUN.out.dry []).1
            unfold startD; rw [h2]; exact h1
          have FEWS : Hid ((startD (crashD d [])).waits.length ≤ 1000000000) := by
            show (startD (crashD d [])).waits.length ≤ _
            have h3 := (crash_to HRUN.out.dry [])
            unfold startD; rw [h3.1]; show (crashD d []).waits.length ≤ _; rw [h3.2]; simp
          obtain ⟨dS, hdS⟩ : ∃ dS, dS = startD (crashD d []) := ⟨_, rfl⟩
          rw [← hdS] at OKS UPS LENS FEWS H16
          clear hdS hUP hup HRUN OK1
          go_wp2_with fail
          obtain ⟨ab, hab⟩ : ∃ ab, ab = u15.heap.size := ⟨_, rfl⟩
          obtain ⟨wb, hwb⟩ : ∃ wb, wb = ab + 1 := ⟨_, rfl⟩
          obtain ⟨mb, hmb⟩ : ∃ mb, mb = ab + 1 + 1 := ⟨_, rfl⟩
          have HA : Hid (∃ U : World, U = (((u15.alloc (.cells #[.int .u8 (z : Nat), .int .i64 q1, .int .i64 q2, .slice none 0 0, .slice none 0 0] 33)).alloc (.cells #[.slice none 0 0, .slice none 0 0, .slice none 0 0, .slice none 0 0] 46)).alloc (.cells #[.slice none 0 0, .slice none 0 0, .slice none 0 0, .slice none 0 0] 46)) ∧ Sep W (dI W.heap.size b pv wv13 dS ++ (.box ab 33 [.int .u8 (z : Nat), .int .i64 q1, .int .i64 q2, .slice none 0 0, .slice none 0 0] :: .box wb 46 (arr []) :: .box mb 46 (arr []) :: [])) U) := by
            refine ⟨_, rfl, ?_⟩
            have h1 := (H16.out.alloc 33 [.int .u8 (z : Nat), .int .i64 q1, .int .i64 q2, .slice none 0 0, .slice none 0 0])
            have h2 := h1.alloc 46 [.slice none 0 0, .slice none 0 0, .slice none 0 0, .slice none 0 0]
            have h3 := h2.alloc 46 [.slice none 0 0, .slice none 0 0, .slice none 0 0, .slice none 0 0]
            simp only [sz1] at h3
            rw [← hab, ← hmb, ← hwb] at h3
            have h4 : Sep W ([.box mb 46 (arr []), .box wb 46 (arr []), .box ab 33 [.int .u8 (z : Nat), .int .i64 q1, .int .i64 q2, .slice none 0 0, .slice none 0 0]] ++ (dI W.heap.size b pv wv13 dS ++ [])) _ := h3
            refine h4.perm ?_
            rw [List.append_nil]
            refine List.perm_append_comm.trans ?_
            refine List.Perm.append_left _ ?_
            exact ((List.Perm.swap _ _ _).trans (List.Perm.cons _ (List.Perm.swap _ _ _))).trans (List.Perm.swap _ _ _)
          obtain ⟨U, hU, hs⟩ := HA.out
          have HU := Lib.hid hs
          clear hs HA
          rw [← hab]
          rw [← hmb, ← hwb, ← hU]
          simp only [hq1, hq2]
          clear hab hwb hmb hU H16
          go_loopw [15] (fun i wr => ∃ (k : Nat) (ws ms : List Value) (R : List It), k ≤ 4 ∧ i = .int .i64 k ∧ Told W.heap.size dS ws ms k R ∧ Sep W (dI W.heap.size b pv wv13 dS ++ (.box ab 33 [.int .u8 (z : Nat), .int .i64 q1, .int .i64 q2, .slice none 0 0, .slice none 0 0] :: .box wb 46 (arr ws) :: .box mb 46 (arr ms) :: R))  wr) (fun i _ => 4 - (intOf i).toNat)
          case atStart => exact ⟨0, [], [], [], by omega, rfl, ⟨rfl, rfl, fun i v h => (by cases h), fun i v h => (by cases h)⟩, HU.out⟩
          case round =>
            obtain ⟨k, ws, ms, R, hk, rfl, htold, hs⟩ := hrel
            have HT := Lib.hid htold
            have HS := Lib.hid hs
            clear htold hs HU
            by_cases hlt : k < 4
            · have C := Lib.hid (read_is dS OKS.out k b pv _ wr HS.out)
              have hk0 : (0 : Int) ≤ (k : Int) := by omega
              have hk1 : (k : Int) < 4 := by omega
              go_wp2_with fail
              refine C.out.mono ?_
              rintro e u1 ⟨v, rfl, hs⟩
              obtain ⟨va, vc, rfl, _, _⟩ := (rowB_row (base := W.heap.size) (v := v) (xs := readV dS k) hs (by simp)).slice
              have HS1 : Hid (Sep W (dI W.heap.size b pv wv13 dS ++ (.box ab 33 [.int .u8 (z : Nat), .int .i64 q1, .int .i64 q2, .slice none 0 0, .slice none 0 0] :: .box wb 46 (arr ws) :: .box mb 46 (arr ms) :: (R ++ [rowB W.heap.size (.slice va (readV dS k).length vc) (readV dS k)]))) u1) := hs
              have hbx : Whole u1 wb 46 (arr ws) := hs.holds (.box wb 46 (arr ws)) (by simp)
              have cW : u1.cell? ⟨wb, k, none⟩ = some (.slice none 0 0) := by
                rw [hbx.cell, arr, List.getElem?_append_right (by rw [HT.out.lw]; omega), HT.out.lw, Nat.sub_self]
                obtain ⟨m, hm⟩ : ∃ m, 4 - k = m + 1 := ⟨4 - k - 1, by omega⟩
                rw [hm]; rfl
              have fW := hbx.free k
              have HS2 : Hid (Sep W (dI W.heap.size b pv wv13 dS ++ (.box ab 33 [.int .u8 (z : Nat), .int .i64 q1, .int .i64 q2, .slice none 0 0, .slice none 0 0] :: .box wb 46 (arr (ws ++ [.slice va (readV dS k).length vc])) :: .box mb 46 (arr ms) :: (R ++ [rowB W.heap.size (.slice va (readV dS k).length vc) (readV dS k)]))) (u1.setCell ⟨wb, k, none⟩ (.slice va (readV dS k).length vc))) := by
                have h := Sep.setAt (a := dI W.heap.size b pv wv13 dS ++ [.box ab 33 [.int .u8 (z : Nat), .int .i64 q1, .int .i64 q2, .slice none 0 0, .slice none 0 0]]) HS1.out k (.slice va (readV dS k).length vc)
                rw [← HT.out.lw, arr_set ws _ (by rw [HT.out.lw]; exact hlt)] at h
                rw [HT.out.lw] at h
                exact h
              have C := Lib.hid (meant_is dS OKS.out k b pv _ _ HS2.out)
              clear hs hbx HS HS1
              generalize (readV dS k).length = rl at *
              go_wp2_with fail
              refine C.out.mono ?_
              rintro e u2 ⟨m, rfl, hs⟩
              obtain ⟨ma, mc, rfl, _, _⟩ := (rowB_row (base := W.heap.size) (v := m) (xs := meantV dS k) hs (by simp)).slice
              have HS3 : Hid (Sep W (dI W.heap.size b pv wv13 dS ++ (.box ab 33 [.int .u8 (z : Nat), .int .i64 q1, .int .i64 q2, .slice none 0 0, .slice none 0 0] :: .box wb 46 (arr (ws ++ [.slice va rl vc])) :: .box mb 46 (arr ms) :: (R ++ [rowB W.heap.size (.slice va rl vc) (readV dS k), rowB W.heap.size (.slice ma (meantV dS k).length mc) (meantV dS k)]))) u2) := by
                have h := hs
                simp only [List.cons_append, List.append_assoc] at h
                exact h
              have hbm : Whole u2 mb 46 (arr ms) := hs.holds (.box mb 46 (arr ms)) (by simp)
              have cM : u2.cell? ⟨mb, k, none⟩ = some (.slice none 0 0) := by
                rw [hbm.cell, arr, List.getElem?_append_right (by rw [HT.out.lm]; omega), HT.out.lm, Nat.sub_self]
                obtain ⟨m, hm⟩ : ∃ m, 4 - k = m + 1 := ⟨4 - k - 1, by omega⟩
                rw [hm]; rfl
              have fM := hbm.free k
              have HS4 : Hid (Sep W (dI W.heap.size b pv wv13 dS ++ (.box ab 33 [.int .u8 (z : Nat), .int .i64 q1, .int .i64 q2, .slice none 0 0, .slice none 0 0] :: .box wb 46 (arr (ws ++ [.slice va rl vc])) :: .box mb 46 (arr (ms ++ [.slice ma (meantV dS k).length mc])) :: (R ++ [rowB W.heap.size (.slice va rl vc) (readV dS k), rowB W.heap.size (.slice ma (meantV dS k).length mc) (meantV dS k)]))) (u2.setCell ⟨mb, k, none⟩ (.slice ma (meantV dS k).length mc))) := by
                have h := Sep.setAt (a := dI W.heap.size b pv wv13 dS ++ [.box ab 33 [.int .u8 (z : Nat), .int .i64 q1, .int .i64 q2, .slice none 0 0, .slice none 0 0], .box wb 46 (arr (ws ++ [.slice va rl vc]))]) HS3.out k (.slice ma (meantV dS k).length mc)
                rw [← HT.out.lm, arr_set ms _ (by rw [HT.out.lm]; exact hlt)] at h
                rw [HT.out.lm] at h
                exact h
              clear hs hbm HS2 HS3 C
              generalize (meantV dS k).length = ml at *
              go_wp2_with fail
              go_roundw
              case rel => exact ⟨k + 1, _, _, _, by omega, by go_num, HT.out.next _ _, HS4.out⟩
              case measure => show 4 - ((k : Int) + 1).toNat < 4 - (k : Int).toNat; omega
            · have hk4 : k = 4 := by omega
              subst hk4
              have i1 := inn4 LENS.out ha0 ha1
              have i2 := inn4 LENS.out hb0 hb1
              obtain ⟨f1, f2⟩ := fault_apart (d := dS) z HZ.out q1 q2 i1 i2
              have F1 := Lib.hid f1
              have F2 := Lib.hid f2
              have hz9 : z < 256 := by have := HZ.out; omega
              clear f1 f2 i1 i2
              have hqq : q2 ≤ 9223372036854775807 := by omega
              have OK1 := Lib.hid (do_ok OKS.out ⟨z, q1, q2, [], []⟩ hqq)
              have LEN1 := Lib.hid ((do_len dS ⟨z, q1, q2, [], []⟩).trans LENS.out)
              have hbab : Whole wr ab 33 [.int .u8 (z : Nat), .int .i64 q1, .int .i64 q2, .slice none 0 0, .slice none 0 0] := HS.out.holds (.box ab 33 [.int .u8 (z : Nat), .int .i64 q1, .int .i64 q2, .slice none 0 0, .slice none 0 0]) (by simp)
              have cb0 := hbab.cell 0; have cb1 := hbab.cell 1; have cb2 := hbab.cell 2; have cb3 := hbab.cell 3; have cb4 := hbab.cell 4
              simp only [List.getElem?_cons_zero, List.getElem?_cons_succ] at cb0 cb1 cb2 cb3 cb4
              clear hbab
              have C := waits_is dS OKS.out b pv _ wr HS.out
              have C := Lib.hid C
              go_wp2_with fail
              refine C.out.mono ?_
              rintro e u9 ⟨rfl, rfl⟩
              clear C
              have C := do_is dS OKS.out ⟨z, q1, q2, [], []⟩ hz9 b pv _ (.slice none 0 0) (.slice none 0 0) wr HS.out (Stays.nil _ _) (Stays.nil _ _) (by simp) FEWS.out
              rw [F1.out] at C
              have C := Lib.hid C
              go_wp2_with fail
              refine C.out.mono ?_
              rintro e u17 ⟨rfl, wv17, hs⟩
              have H18 : Hid (Sep W (dI W.heap.size b pv wv17 (doD dS ⟨z, q1, q2, [], []⟩) ++ (.box ab 33 [.int .u8 (z : Nat), .int .i64 q1, .int .i64 q2, .slice none 0 0, .slice none 0 0] :: .box wb 46 (arr ws) :: .box mb 46 (arr ms) :: R)) u17) := hs
              clear hs HS C
              obtain ⟨d1, hd1⟩ : ∃ d1, d1 = doD dS ⟨z, q1, q2, [], []⟩ := ⟨_, rfl⟩
              rw [← hd1] at H18 OK1 LEN1 F2
              clear hd1 F1 cb0 cb1 cb2 cb3 cb4
              have C := waits_is d1 OK1.out b pv _ u17 H18.out
              rw [F2.out.waits] at C
              have C := Lib.hid C
              go_wp2_with fail
              refine C.out.mono ?_
              rintro e u9 ⟨rfl, rfl⟩
              clear C
              have hbab : Whole u17 ab 33 [.int .u8 (z : Nat), .int .i64 q1, .int .i64 q2, .slice none 0 0, .slice none 0 0] := H18.out.holds (.box ab 33 [.int .u8 (z : Nat), .int .i64 q1, .int .i64 q2, .slice none 0 0, .slice none 0 0]) (by simp)
              have cb0 := hbab.cell 0; have cb1 := hbab.cell 1; have cb2 := hbab.cell 2
              simp only [List.getElem?_cons_zero, List.getElem?_cons_succ] at cb0 cb1 cb2
              clear hbab
              by_cases hz5 : z = 5
              · have hz5' : ((z : Int) == 5) = true := by rw [beq_iff_eq]; omega
                have HU2 : Hid (Hurt dS d1 q2) := by have := F2.out; rw [if_pos hz5] at this; exact this
                clear F2 hz5
                go_wp2_with fail
                go_loopw [18] (fun i wr => ∃ j : Nat, j ≤ 4 ∧ i = .int .i64 j ∧ Sep W (dI W.heap.size b pv wv17 (d1) ++ (.box ab 33 [.int .u8 (z : Nat), .int .i64 q1, .int .i64 q2, .slice none 0 0, .slice none 0 0] :: .box wb 46 (arr ws) :: .box mb 46 (arr ms) :: R)) wr) (fun i _ => 4 - (intOf i).toNat)
                case atStart => exact ⟨0, by omega, rfl, H18.out⟩
                case round =>
                  obtain ⟨j, hj, rfl, hs⟩ := hrel
                  have HS6 := Lib.hid hs
                  clear hs H18 cb0 cb1 cb2
                  by_cases hj4 : j < 4
                  · have hj0 : (0 : Int) ≤ (j : Int) := by omega
                    have hj1 : (j : Int) < 4 := by omega
                    have hin := inn4 LEN1.out hj0 hj1
                    have ht : thereE d1 [(j : Int)] = 0 := by rw [there_one, hin]; rfl
                    have HTH := Lib.hid ht
                    clear ht hin
                    obtain ⟨wv6, hwv⟩ : ∃ x, ws[j]? = some x := ⟨_, List.getElem?_eq_getElem (by rw [HT.out.lw]; exact hj4)⟩
                    obtain ⟨mv6, hmv⟩ : ∃ x, ms[j]? = some x := ⟨_, List.getElem?_eq_getElem (by rw [HT.out.lm]; exact hj4)⟩
                    have MW := Lib.hid (HT.out.was j wv6 hwv)
                    have MM := Lib.hid (HT.out.mnt j mv6 hmv)
                    have AW : Hid ((arr ws)[j]? = some wv6) := by show (arr ws)[j]? = _; rw [arr, List.getElem?_append_left (by rw [HT.out.lw]; exact hj4)]; exact hwv
                    have AM : Hid ((arr ms)[j]? = some mv6) := by show (arr ms)[j]? = _; rw [arr, List.getElem?_append_left (by rw [HT.out.lm]; exact hj4)]; exact hmv
                    clear hwv hmv
                    have C := read_is (d1) OK1.out (j : Nat) b pv _ wr HS6.out
                    have C := Lib.hid C
                    go_wp2_with fail
                    refine C.out.mono ?_
                    rintro e u19 ⟨vc, rfl, hs⟩
                    have H20 : Hid (Sep W (dI W.heap.size b pv wv17 (d1) ++ (.box ab 33 [.int .u8 (z : Nat), .int .i64 q1, .int .i64 q2, .slice none 0 0, .slice none 0 0] :: .box wb 46 (arr ws) :: .box mb 46 (arr ms) :: (R ++ [rowB W.heap.size vc (readV (d1) (j : Nat))]))) u19) := hs
                    clear hs HS6 C
                    have C := meant_is (d1) OK1.out (j : Nat) b pv _ u19 H20.out
                    rw [HTH.out] at C
                    have C := Lib.hid C
                    go_wp2_with fail
                    refine C.out.mono ?_
                    rintro e u21 ⟨vm, rfl, hs⟩
                    have H22 : Hid (Sep W (dI W.heap.size b pv wv17 (d1) ++ (.box ab 33 [.int .u8 (z : Nat), .int .i64 q1, .int .i64 q2, .slice none 0 0, .slice none 0 0] :: .box wb 46 (arr ws) :: .box mb 46 (arr ms) :: ((R ++ [rowB W.heap.size vc (readV (d1) (j : Nat))]) ++ [rowB W.heap.size vm (meantV (d1) (j : Nat))]))) u21) := hs
                    clear hs H20 C
                    have hbm : Whole u21 mb 46 (arr ms) := H22.out.holds (.box mb 46 (arr ms)) (by simp)
                    have hbw : Whole u21 wb 46 (arr ws) := H22.out.holds (.box wb 46 (arr ws)) (by simp)
                    have cm := (hbm.cell j).trans AM.out
                    have cw := (hbw.cell j).trans AW.out
                    clear hbm hbw
                    have C := same_is (meantV d1 j) (meantV dS j) vm mv6 _ _ u21 (rowB_row (base := W.heap.size) H22.out (by simp)) (rowB_row (base := W.heap.size) H22.out (by have := MM.out; simp [this]))
                    rw [HU2.out.meant j, decide_eq_true rfl] at C
                    have C := Lib.hid C
                    go_wp2_with fail
                    refine C.out.mono ?_
                    rintro e u50 ⟨rfl, hb⟩
                    have hs := H22.out.call hb
                    have cw2 := (hb.cell (p := ⟨wb, j, none⟩) (World.block_lt_of_cell? u21 ⟨wb, j, none⟩ cw)).trans cw
                    clear hb cm cw
                    have H23 : Hid (Sep W (dI W.heap.size b pv wv17 (d1) ++ (.box ab 33 [.int .u8 (z : Nat), .int .i64 q1, .int .i64 q2, .slice none 0 0, .slice none 0 0] :: .box wb 46 (arr ws) :: .box mb 46 (arr ms) :: ((R ++ [rowB W.heap.size vc (readV (d1) (j : Nat))]) ++ [rowB W.heap.size vm (meantV (d1) (j : Nat))]))) u50) := hs
                    clear hs H22 C
                    by_cases hjh : (j : Int) = q2
                    · subst hjh
                      have HEND : Hid (Sep W (dI W.heap.size b pv wv17 (d1) ++ (.box ab 33 [.int .u8 (z : Nat), .int .i64 q1, .int .i64 (j : Int), .slice none 0 0, .slice none 0 0] :: .box wb 46 (arr ws) :: .box mb 46 (arr ms) :: R)) u50) := (show Sep W (dI W.heap.size b pv wv17 d1 ++ (((.box ab 33 [.int .u8 (z : Nat), .int .i64 q1, .int .i64 (j : Int), .slice none 0 0, .slice none 0 0] :: .box wb 46 (arr ws) :: .box mb 46 (arr ms) :: R) ++ [rowB W.heap.size vc (readV (d1) (j : Nat))]) ++ [rowB W.heap.size vm (meantV (d1) (j : Nat))])) u50 from H23.out).sub (((List.sublist_append_left _ _).trans (List.sublist_append_left _ _)).append_left _)
                      clear H23
                      go_wp2_with fail
                      go_roundw
                      case rel => exact ⟨j + 1, by omega, by go_num, HEND.out⟩
                      case measure => show 4 - ((j : Int) + 1).toNat < 4 - (j : Int).toNat; omega
                    · have HRD := Lib.hid (HU2.out.read j hj0 hjh)
                      have hjh' : ((j : Int) == q2) = false := by rw [beq_eq_false_iff_ne]; exact hjh
                      have hjh2 : ((j : Int) != q2) = true := by rw [bne, hjh']; rfl
                      clear hjh
                      have C := same_is (readV d1 j) (readV dS j) vc wv6 _ _ u50 (rowB_row (base := W.heap.size) H23.out (by simp)) (rowB_row (base := W.heap.size) H23.out (by have := MW.out; simp [this]))
                      rw [HRD.out, decide_eq_true rfl] at C
                      have C := Lib.hid C
                      go_wp2_with fail
                      refine C.out.mono ?_
                      rintro e u51 ⟨rfl, hb⟩
                      have hs := H23.out.call hb
                      clear hb
                      have H24 : Hid (Sep W (dI W.heap.size b pv wv17 (d1) ++ (.box ab 33 [.int .u8 (z : Nat), .int .i64 q1, .int .i64 q2, .slice none 0 0, .slice none 0 0] :: .box wb 46 (arr ws) :: .box mb 46 (arr ms) :: ((R ++ [rowB W.heap.size vc (readV (d1) (j : Nat))]) ++ [rowB W.heap.size vm (meantV (d1) (j : Nat))]))) u51) := hs
                      clear hs H23 C
                      have HEND : Hid (Sep W (dI W.heap.size b pv wv17 (d1) ++ (.box ab 33 [.int .u8 (z : Nat), .int .i64 q1, .int .i64 q2, .slice none 0 0, .slice none 0 0] :: .box wb 46 (arr ws) :: .box mb 46 (arr ms) :: R)) u51) := (show Sep W (dI W.heap.size b pv wv17 d1 ++ (((.box ab 33 [.int .u8 (z : Nat), .int .i64 q1, .int .i64 q2, .slice none 0 0, .slice none 0 0] :: .box wb 46 (arr ws) :: .box mb 46 (arr ms) :: R) ++ [rowB W.heap.size vc (readV (d1) (j : Nat))]) ++ [rowB W.heap.size vm (meantV (d1) (j : Nat))])) u51 from H24.out).sub (((List.sublist_append_left _ _).trans (List.sublist_append_left _ _)).append_left _)
                      clear H24
                      go_wp2_with fail
                      go_roundw
                      case rel => exact ⟨j + 1, by omega, by go_num, HEND.out⟩
                      case measure => show 4 - ((j : Int) + 1).toNat < 4 - (j : Int).toNat; omega
                  · have hj4' : j = 4 := by omega
                    subst hj4'
                    go_wp2_with fail
                    go_ret
                    exact ⟨rfl, HS6.out.below⟩
              · have hz5' : ((z : Int) == 5) = false := by rw [beq_eq_false_iff_ne]; omega
                have HU2 : Hid (Hurt dS d1 q1) := by have := F2.out; rw [if_neg hz5] at this; exact this
                clear F2 hz5
                go_wp2_with fail
                go_loopw [18] (fun i wr => ∃ j : Nat, j ≤ 4 ∧ i = .int .i64 j ∧ Sep W (dI W.heap.size b pv wv17 (d1) ++ (.box ab 33 [.int .u8 (z : Nat), .int .i64 q1, .int .i64 q2, .slice none 0 0, .slice none 0 0] :: .box wb 46 (arr ws) :: .box mb 46 (arr ms) :: R)) wr) (fun i _ => 4 - (intOf i).toNat)
                case atStart => exact ⟨0, by omega, rfl, H18.out⟩
                case round =>
                  obtain ⟨j, hj, rfl, hs⟩ := hrel
                  have HS6 := Lib.hid hs
                  clear hs H18 cb0 cb1 cb2
                  by_cases hj4 : j < 4
                  · have hj0 : (0 : Int) ≤ (j : Int) := by omega
                    have hj1 : (j : Int) < 4 := by omega
                    have hin := inn4 LEN1.out hj0 hj1
                    have ht : thereE d1 [(j : Int)] = 0 := by rw [there_one, hin]; rfl
                    have HTH := Lib.hid ht
                    clear ht hin
                    obtain ⟨wv6, hwv⟩ : ∃ x, ws[j]? = some x := ⟨_, List.getElem?_eq_getElem (by rw [HT.out.lw]; exact hj4)⟩
                    obtain ⟨mv6, hmv⟩ : ∃ x, ms[j]? = some x := ⟨_, List.getElem?_eq_getElem (by rw [HT.out.lm]; exact hj4)⟩
                    have MW := Lib.hid (HT.out.was j wv6 hwv)
                    have MM := Lib.hid (HT.out.mnt j mv6 hmv)
                    have AW : Hid ((arr ws)[j]? = some wv6) := by show (arr ws)[j]? = _; rw [arr, List.getElem?_append_left (by rw [HT.out.lw]; exact hj4)]; exact hwv
                    have AM : Hid ((arr ms)[j]? = some mv6) := by show (arr ms)[j]? = _; rw [arr, List.getElem?_append_left (by rw [HT.out.lm]; exact hj4)]; exact hmv
                    clear hwv hmv
                    have C := read_is (d1) OK1.out (j : Nat) b pv _ wr HS6.out
                    have C := Lib.hid C
                    go_wp2_with fail
                    refine C.out.mono ?_
                    rintro e u25 ⟨vc, rfl, hs⟩
                    have H26 : Hid (Sep W (dI W.heap.size b pv wv17 (d1) ++ (.box ab 33 [.int .u8 (z : Nat), .int .i64 q1, .int .i64 q2, .slice none 0 0, .slice none 0 0] :: .box wb 46 (arr ws) :: .box mb 46 (arr ms) :: (R ++ [rowB W.heap.size vc (readV (d1) (j : Nat))]))) u25) := hs
                    clear hs HS6 C
                    have C := meant_is (d1) OK1.out (j : Nat) b pv _ u25 H26.out
                    rw [HTH.out] at C
                    have C := Lib.hid C
                    go_wp2_with fail
                    refine C.out.mono ?_
                    rintro e u27 ⟨vm, rfl, hs⟩
                    have H28 : Hid (Sep W (dI W.heap.size b pv wv17 (d1) ++ (.box ab 33 [.int .u8 (z : Nat), .int .i64 q1, .int .i64 q2, .slice none 0 0, .slice none 0 0] :: .box wb 46 (arr ws) :: .box mb 46 (arr ms) :: ((R ++ [rowB W.heap.size vc (readV (d1) (j : Nat))]) ++ [rowB W.heap.size vm (meantV (d1) (j : Nat))]))) u27) := hs
                    clear hs H26 C
                    have hbm : Whole u27 mb 46 (arr ms) := H28.out.holds (.box mb 46 (arr ms)) (by simp)
                    have hbw : Whole u27 wb 46 (arr ws) := H28.out.holds (.box wb 46 (arr ws)) (by simp)
                    have cm := (hbm.cell j).trans AM.out
                    have cw := (hbw.cell j).trans AW.out
                    clear hbm hbw
                    have C := same_is (meantV d1 j) (meantV dS j) vm mv6 _ _ u27 (rowB_row (base := W.heap.size) H28.out (by simp)) (rowB_row (base := W.heap.size) H28.out (by have := MM.out; simp [this]))
                    rw [HU2.out.meant j, decide_eq_true rfl] at C
                    have C := Lib.hid C
                    go_wp2_with fail
                    refine C.out.mono ?_
                    rintro e u50 ⟨rfl, hb⟩
                    have hs := H28.out.call hb
                    have cw2 := (hb.cell (p := ⟨wb, j, none⟩) (World.block_lt_of_cell? u27 ⟨wb, j, none⟩ cw)).trans cw
                    clear hb cm cw
                    have H29 : Hid (Sep W (dI W.heap.size b pv wv17 (d1) ++ (.box ab 33 [.int .u8 (z : Nat), .int .i64 q1, .int .i64 q2, .slice none 0 0, .slice none 0 0] :: .box wb 46 (arr ws) :: .box mb 46 (arr ms) :: ((R ++ [rowB W.heap.size vc (readV (d1) (j : Nat))]) ++ [rowB W.heap.size vm (meantV (d1) (j : Nat))]))) u50) := hs
                    clear hs H28 C
                    by_cases hjh : (j : Int) = q1
                    · subst hjh
                      have HEND : Hid (Sep W (dI W.heap.size b pv wv17 (d1) ++ (.box ab 33 [.int .u8 (z : Nat), .int .i64 (j : Int), .int .i64 q2, .slice none 0 0, .slice none 0 0] :: .box wb 46 (arr ws) :: .box mb 46 (arr ms) :: R)) u50) := (show Sep W (dI W.heap.size b pv wv17 d1 ++ (((.box ab 33 [.int .u8 (z : Nat), .int .i64 (j : Int), .int .i64 q2, .slice none 0 0, .slice none 0 0] :: .box wb 46 (arr ws) :: .box mb 46 (arr ms) :: R) ++ [rowB W.heap.size vc (readV (d1) (j : Nat))]) ++ [rowB W.heap.size vm (meantV (d1) (j : Nat))])) u50 from H29.out).sub (((List.sublist_append_left _ _).trans (List.sublist_append_left _ _)).append_left _)
                      clear H29
                      go_wp2_with fail
                      go_roundw
                      case rel => exact ⟨j + 1, by omega, by go_num, HEND.out⟩
                      case measure => show 4 - ((j : Int) + 1).toNat < 4 - (j : Int).toNat; omega
                    · have HRD := Lib.hid (HU2.out.read j hj0 hjh)
                      have hjh' : ((j : Int) == q1) = false := by rw [beq_eq_false_iff_ne]; exact hjh
                      have hjh2 : ((j : Int) != q1) = true := by rw [bne, hjh']; rfl
                      clear hjh
                      have C := same_is (readV d1 j) (readV dS j) vc wv6 _ _ u50 (rowB_row (base := W.heap.size) H29.out (by simp)) (rowB_row (base := W.heap.size) H29.out (by have := MW.out; simp [this]))
                      rw [HRD.out, decide_eq_true rfl] at C
                      have C := Lib.hid C
                      go_wp2_with fail
                      refine C.out.mono ?_
                      rintro e u51 ⟨rfl, hb⟩
                      have hs := H29.out.call hb
                      clear hb
                      have H30 : Hid (Sep W (dI W.heap.size b pv wv17 (d1) ++ (.box ab 33 [.int .u8 (z : Nat), .int .i64 q1, .int .i64 q2, .slice none 0 0, .slice none 0 0] :: .box wb 46 (arr ws) :: .box mb 46 (arr ms) :: ((R ++ [rowB W.heap.size vc (readV (d1) (j : Nat))]) ++ [rowB W.heap.size vm (meantV (d1) (j : Nat))]))) u51) := hs
                      clear hs H29 C
                      have HEND : Hid (Sep W (dI W.heap.size b pv wv17 (d1) ++ (.box ab 33 [.int .u8 (z : Nat), .int .i64 q1, .int .i64 q2, .slice none 0 0, .slice none 0 0] :: .box wb 46 (arr ws) :: .box mb 46 (arr ms) :: R)) u51) := (show Sep W (dI W.heap.size b pv wv17 d1 ++ (((.box ab 33 [.int .u8 (z : Nat), .int .i64 q1, .int .i64 q2, .slice none 0 0, .slice none 0 0] :: .box wb 46 (arr ws) :: .box mb 46 (arr ms) :: R) ++ [rowB W.heap.size vc (readV (d1) (j : Nat))]) ++ [rowB W.heap.size vm (meantV (d1) (j : Nat))])) u51 from H30.out).sub (((List.sublist_append_left _ _).trans (List.sublist_append_left _ _)).append_left _)
                      clear H30
                      go_wp2_with fail
                      go_roundw
                      case rel => exact ⟨j + 1, by omega, by go_num, HEND.out⟩
                      case measure => show 4 - ((j : Int) + 1).toNat < 4 - (j : Int).toNat; omega
                  · have hj4' : j = 4 := by omega
                    subst hj4'
                    go_wp2_with fail
                    go_ret
                    exact ⟨rfl, HS6.out.below⟩
        · have C := up_is d HRUN.out.ok b pv _ wr HS.out
          rw [hup] at C
          have C := Lib.hid C
          go_wp2_with fail
          refine C.out.mono ?_
          rintro e u9 ⟨rfl, rfl⟩
          clear C
          have hse : startE d = 2 := by unfold startE; rw [up_down hup]; rfl
          have hsd := started_up.1 hup
          have C := start_is (d) HRUN.out.ok b pv _ wr HS.out
          rw [hse] at C
          have C := Lib.hid C
          go_wp2_with fail
          refine C.out.mono ?_
          rintro e u31 ⟨rfl, hs⟩
          rw [hsd] at hs
          have H32 : Hid (Sep W (dI W.heap.size b pv wv (d) ++ []) u31) := hs
          clear hs HS C
          have OKS := Lib.hid HRUN.out.ok
          have UPS := Lib.hid hup
          have LENS := Lib.hid HRUN.out.len
          have FEWS : Hid (d.waits.length ≤ 1000000000) := by show d.waits.length ≤ _; have := HRUN.out.few; omega
          obtain ⟨dS, hdS⟩ : ∃ dS, dS = d := ⟨_, rfl⟩
          rw [← hdS] at OKS UPS LENS FEWS H32
          clear hdS hse hsd hup HRUN
          go_wp2_with fail
          obtain ⟨ab, hab⟩ : ∃ ab, ab = u31.heap.size := ⟨_, rfl⟩
          obtain ⟨wb, hwb⟩ : ∃ wb, wb = ab + 1 := ⟨_, rfl⟩
          obtain ⟨mb, hmb⟩ : ∃ mb, mb = ab + 1 + 1 := ⟨_, rfl⟩
          have HA : Hid (∃ U : World, U = (((u31.alloc (.cells #[.int .u8 (z : Nat), .int .i64 q1, .int .i64 q2, .slice none 0 0, .slice none 0 0] 33)).alloc (.cells #[.slice none 0 0, .slice none 0 0, .slice none 0 0, .slice none 0 0] 46)).alloc (.cells #[.slice none 0 0, .slice none 0 0, .slice none 0 0, .slice none 0 0] 46)) ∧ Sep W (dI W.heap.size b pv wv dS ++ (.box ab 33 [.int .u8 (z : Nat), .int .i64 q1, .int .i64 q2, .slice none 0 0, .slice none 0 0] :: .box wb 46 (arr []) :: .box mb 46 (arr []) :: [])) U) := by
            refine ⟨_, rfl, ?_⟩
            have h1 := (H32.out.alloc 33 [.int .u8 (z : Nat), .int .i64 q1, .int .i64 q2, .slice none 0 0, .slice none 0 0])
            have h2 := h1.alloc 46 [.slice none 0 0, .slice none 0 0, .slice none 0 0, .slice none 0 0]
            have h3 := h2.alloc 46 [.slice none 0 0, .slice none 0 0, .slice none 0 0, .slice none 0 0]
            simp only [sz1] at h3
            rw [← hab, ← hmb, ← hwb] at h3
            have h4 : Sep W ([.box mb 46 (arr []), .box wb 46 (arr []), .box ab 33 [.int .u8 (z : Nat), .int .i64 q1, .int .i64 q2, .slice none 0 0, .slice none 0 0]] ++ (dI W.heap.size b pv wv dS ++ [])) _ := h3
            refine h4.perm ?_
            rw [List.append_nil]
            refine List.perm_append_comm.trans ?_
            refine List.Perm.append_left _ ?_
            exact ((List.Perm.swap _ _ _).trans (List.Perm.cons _ (List.Perm.swap _ _ _))).trans (List.Perm.swap _ _ _)
          obtain ⟨U, hU, hs⟩ := HA.out
          have HU := Lib.hid hs
          clear hs HA
          rw [← hab]
          rw [← hmb, ← hwb, ← hU]
          simp only [hq1, hq2]
          clear hab hwb hmb hU H32
          go_loopw [15] (fun i wr => ∃ (k : Nat) (ws ms : List Value) (R : List It), k ≤ 4 ∧ i = .int .i64 k ∧ Told W.heap.size dS ws ms k R ∧ Sep W (dI W.heap.size b pv wv dS ++ (.box ab 33 [.int .u8 (z : Nat), .int .i64 q1, .int .i64 q2, .slice none 0 0, .slice none 0 0] :: .box wb 46 (arr ws) :: .box mb 46 (arr ms) :: R))  wr) (fun i _ => 4 - (intOf i).toNat)
          case atStart => exact ⟨0, [], [], [], by omega, rfl, ⟨rfl, rfl, fun i v h => (by cases h), fun i v h => (by cases h)⟩, HU.out⟩
          case round =>
            obtain ⟨k, ws, ms, R, hk, rfl, htold, hs⟩ := hrel
            have HT := Lib.hid htold
            have HS := Lib.hid hs
            clear htold hs HU
            by_cases hlt : k < 4
            · have C := Lib.hid (read_is dS OKS.out k b pv _ wr HS.out)
              have hk0 : (0 : Int) ≤ (k : Int) := by omega
              have hk1 : (k : Int) < 4 := by omega
              go_wp2_with fail
              refine C.out.mono ?_
              rintro e u1 ⟨v, rfl, hs⟩
              obtain ⟨va, vc, rfl, _, _⟩ := (rowB_row (base := W.heap.size) (v := v) (xs := readV dS k) hs (by simp)).slice
              have HS1 : Hid (Sep W (dI W.heap.size b pv wv dS ++ (.box ab 33 [.int .u8 (z : Nat), .int .i64 q1, .int .i64 q2, .slice none 0 0, .slice none 0 0] :: .box wb 46 (arr ws) :: .box mb 46 (arr ms) :: (R ++ [rowB W.heap.size (.slice va (readV dS k).length vc) (readV dS k)]))) u1) := hs
              have hbx : Whole u1 wb 46 (arr ws) := hs.holds (.box wb 46 (arr ws)) (by simp)
              have cW : u1.cell? ⟨wb, k, none⟩ = some (.slice none 0 0) := by
                rw [hbx.cell, arr, List.getElem?_append_right (by rw [HT.out.lw]; omega), HT.out.lw, Nat.sub_self]
                obtain ⟨m, hm⟩ : ∃ m, 4 - k = m + 1 := ⟨4 - k - 1, by omega⟩
                rw [hm]; rfl
              have fW := hbx.free k
              have HS2 : Hid (Sep W (dI W.heap.size b pv wv dS ++ (.box ab 33 [.int .u8 (z : Nat), .int .i64 q1, .int .i64 q2, .slice none 0 0, .slice none 0 0] :: .box wb 46 (arr (ws ++ [.slice va (readV dS k).length vc])) :: .box mb 46 (arr ms) :: (R ++ [rowB W.heap.size (.slice va (readV dS k).length vc) (readV dS k)]))) (u1.setCell ⟨wb, k, none⟩ (.slice va (readV dS k).length vc))) := by
                have h := Sep.setAt (a := dI W.heap.size b pv wv dS ++ [.box ab 33 [.int .u8 (z : Nat), .int .i64 q1, .int .i64 q2, .slice none 0 0, .slice none 0 0]]) HS1.out k (.slice va (readV dS k).length vc)
                rw [← HT.out.lw, arr_set ws _ (by rw [HT.out.lw]; exact hlt)] at h
                rw [HT.out.lw] at h
                exact h
              have C := Lib.hid (meant_is dS OKS.out k b pv _ _ HS2.out)
              clear hs hbx HS HS1
              generalize (readV dS k).length = rl at *
              go_wp2_with fail
              refine C.out.mono ?_
              rintro e u2 ⟨m, rfl, hs⟩
              obtain ⟨ma, mc, rfl, _, _⟩ := (rowB_row (base := W.heap.size) (v := m) (xs := meantV dS k) hs (by simp)).slice
              have HS3 : Hid (Sep W (dI W.heap.size b pv wv dS ++ (.box ab 33 [.int .u8 (z : Nat), .int .i64 q1, .int .i64 q2, .slice none 0 0, .slice none 0 0] :: .box wb 46 (arr (ws ++ [.slice va rl vc])) :: .box mb 46 (arr ms) :: (R ++ [rowB W.heap.size (.slice va rl vc) (readV dS k), rowB W.heap.size (.slice ma (meantV dS k).length mc) (meantV dS k)]))) u2) := by
                have h := hs
                simp only [List.cons_append, List.append_assoc] at h
                exact h
              have hbm : Whole u2 mb 46 (arr ms) := hs.holds (.box mb 46 (arr ms)) (by simp)
              have cM : u2.cell? ⟨mb, k, none⟩ = some (.slice none 0 0) := by
                rw [hbm.cell, arr, List.getElem?_append_right (by rw [HT.out.lm]; omega), HT.out.lm, Nat.sub_self]
                obtain ⟨m, hm⟩ : ∃ m, 4 - k = m + 1 := ⟨4 - k - 1, by omega⟩
                rw [hm]; rfl
              have fM := hbm.free k
              have HS4 : Hid (Sep W (dI W.heap.size b pv wv dS ++ (.box ab 33 [.int .u8 (z : Nat), .int .i64 q1, .int .i64 q2, .slice none 0 0, .slice none 0 0] :: .box wb 46 (arr (ws ++ [.slice va rl vc])) :: .box mb 46 (arr (ms ++ [.slice ma (meantV dS k).length mc])) :: (R ++ [rowB W.heap.size (.slice va rl vc) (readV dS k), rowB W.heap.size (.slice ma (meantV dS k).length mc) (meantV dS k)]))) (u2.setCell ⟨mb, k, none⟩ (.slice ma (meantV dS k).length mc))) := by
                have h := Sep.setAt (a := dI W.heap.size b pv wv dS ++ [.box ab 33 [.int .u8 (z : Nat), .int .i64 q1, .int .i64 q2, .slice none 0 0, .slice none 0 0], .box wb 46 (arr (ws ++ [.slice va rl vc]))]) HS3.out k (.slice ma (meantV dS k).length mc)
                rw [← HT.out.lm, arr_set ms _ (by rw [HT.out.lm]; exact hlt)] at h
                rw [HT.out.lm] at h
                exact h
              clear hs hbm HS2 HS3 C
              generalize (meantV dS k).length = ml at *
              go_wp2_with fail
              go_roundw
              case rel => exact ⟨k + 1, _, _, _, by omega, by go_num, HT.out.next _ _, HS4.out⟩
              case measure => show 4 - ((k : Int) + 1).toNat < 4 - (k : Int).toNat; omega
            · have hk4 : k = 4 := by omega
              subst hk4
              have i1 := inn4 LENS.out ha0 ha1
              have i2 := inn4 LENS.out hb0 hb1
              obtain ⟨f1, f2⟩ := fault_apart (d := dS) z HZ.out q1 q2 i1 i2
              have F1 := Lib.hid f1
              have F2 := Lib.hid f2
              have hz9 : z < 256 := by have := HZ.out; omega
              clear f1 f2 i1 i2
              have hqq : q2 ≤ 9223372036854775807 := by omega
              have OK1 := Lib.hid (do_ok OKS.out ⟨z, q1, q2, [], []⟩ hqq)
              have LEN1 := Lib.hid ((do_len dS ⟨z, q1, q2, [], []⟩).trans LENS.out)
              have hbab : Whole wr ab 33 [.int .u8 (z : Nat), .int .i64 q1, .int .i64 q2, .slice none 0 0, .slice none 0 0] := HS.out.holds (.box ab 33 [.int .u8 (z : Nat), .int .i64 q1, .int .i64 q2, .slice none 0 0, .slice none 0 0]) (by simp)
              have cb0 := hbab.cell 0; have cb1 := hbab.cell 1; have cb2 := hbab.cell 2; have cb3 := hbab.cell 3; have cb4 := hbab.cell 4
              simp only [List.getElem?_cons_zero, List.getElem?_cons_succ] at cb0 cb1 cb2 cb3 cb4
              clear hbab
              have C := waits_is dS OKS.out b pv _ wr HS.out
              have C := Lib.hid C
              go_wp2_with fail
              refine C.out.mono ?_
              rintro e u9 ⟨rfl, rfl⟩
              clear C
              have C := do_is dS OKS.out ⟨z, q1, q2, [], []⟩ hz9 b pv _ (.slice none 0 0) (.slice none 0 0) wr HS.out (Stays.nil _ _) (Stays.nil _ _) (by simp) FEWS.out
              rw [F1.out] at C
              have C := Lib.hid C
              go_wp2_with fail
              refine C.out.mono ?_
              rintro e u33 ⟨rfl, wv33, hs⟩
              have H34 : Hid (Sep W (dI W.heap.size b pv wv33 (doD dS ⟨z, q1, q2, [], []⟩) ++ (.box ab 33 [.int .u8 (z : Nat), .int .i64 q1, .int .i64 q2, .slice none 0 0, .slice none 0 0] :: .box wb 46 (arr ws) :: .box mb 46 (arr ms) :: R)) u33) := hs
              clear hs HS C
              obtain ⟨d1, hd1⟩ : ∃ d1, d1 = doD dS ⟨z, q1, q2, [], []⟩ := ⟨_, rfl⟩
              rw [← hd1] at H34 OK1 LEN1 F2
              clear hd1 F1 cb0 cb1 cb2 cb3 cb4
              have C := waits_is d1 OK1.out b pv _ u33 H34.out
              rw [F2.out.waits] at C
              have C := Lib.hid C
              go_wp2_with fail
              refine C.out.mono ?_
              rintro e u9 ⟨rfl, rfl⟩
              clear C
              have hbab : Whole u33 ab 33 [.int .u8 (z : Nat), .int .i64 q1, .int .i64 q2, .slice none 0 0, .slice none 0 0] := H34.out.holds (.box ab 33 [.int .u8 (z : Nat), .int .i64 q1, .int .i64 q2, .slice none 0 0, .slice none 0 0]) (by simp)
              have cb0 := hbab.cell 0; have cb1 := hbab.cell 1; have cb2 := hbab.cell 2
              simp only [List.getElem?_cons_zero, List.getElem?_cons_succ] at cb0 cb1 cb2
              clear hbab
              by_cases hz5 : z = 5
              · have hz5' : ((z : Int) == 5) = true := by rw [beq_iff_eq]; omega
                have HU2 : Hid (Hurt dS d1 q2) := by have := F2.out; rw [if_pos hz5] at this; exact this
                clear F2 hz5
                go_wp2_with fail
                go_loopw [18] (fun i wr => ∃ j : Nat, j ≤ 4 ∧ i = .int .i64 j ∧ Sep W (dI W.heap.size b pv wv33 (d1) ++ (.box ab 33 [.int .u8 (z : Nat), .int .i64 q1, .int .i64 q2, .slice none 0 0, .slice none 0 0] :: .box wb 46 (arr ws) :: .box mb 46 (arr ms) :: R)) wr) (fun i _ => 4 - (intOf i).toNat)
                case atStart => exact ⟨0, by omega, rfl, H34.out⟩
                case round =>
                  obtain ⟨j, hj, rfl, hs⟩ := hrel
                  have HS6 := Lib.hid hs
                  clear hs H34 cb0 cb1 cb2
                  by_cases hj4 : j < 4
                  · have hj0 : (0 : Int) ≤ (j : Int) := by omega
                    have hj1 : (j : Int) < 4 := by omega
                    have hin := inn4 LEN1.out hj0 hj1
                    have ht : thereE d1 [(j : Int)] = 0 := by rw [there_one, hin]; rfl
                    have HTH := Lib.hid ht
                    clear ht hin
                    obtain ⟨wv6, hwv⟩ : ∃ x, ws[j]? = some x := ⟨_, List.getElem?_eq_getElem (by rw [HT.out.lw]; exact hj4)⟩
                    obtain ⟨mv6, hmv⟩ : ∃ x, ms[j]? = some x := ⟨_, List.getElem?_eq_getElem (by rw [HT.out.lm]; exact hj4)⟩
                    have MW := Lib.hid (HT.out.was j wv6 hwv)
                    have MM := Lib.hid (HT.out.mnt j mv6 hmv)
                    have AW : Hid ((arr ws)[j]? = some wv6) := by show (arr ws)[j]? = _; rw [arr, List.getElem?_append_left (by rw [HT.out.lw]; exact hj4)]; exact hwv
                    have AM : Hid ((arr ms)[j]? = some mv6) := by show (arr ms)[j]? = _; rw [arr, List.getElem?_append_left (by rw [HT.out.lm]; exact hj4)]; exact hmv
                    clear hwv hmv
                    have C := read_is (d1) OK1.out (j : Nat) b pv _ wr HS6.out
                    have C := Lib.hid C
                    go_wp2_with fail
                    refine C.out.mono ?_
                    rintro e u35 ⟨vc, rfl, hs⟩
                    have H36 : Hid (Sep W (dI W.heap.size b pv wv33 (d1) ++ (.box ab 33 [.int .u8 (z : Nat), .int .i64 q1, .int .i64 q2, .slice none 0 0, .slice none 0 0] :: .box wb 46 (arr ws) :: .box mb 46 (arr ms) :: (R ++ [rowB W.heap.size vc (readV (d1) (j : Nat))]))) u35) := hs
                    clear hs HS6 C
                    have C := meant_is (d1) OK1.out (j : Nat) b pv _ u35 H36.out
                    rw [HTH.out] at C
                    have C := Lib.hid C
                    go_wp2_with fail
                    refine C.out.mono ?_
                    rintro e u37 ⟨vm, rfl, hs⟩
                    have H38 : Hid (Sep W (dI W.heap.size b pv wv33 (d1) ++ (.box ab 33 [.int .u8 (z : Nat), .int .i64 q1, .int .i64 q2, .slice none 0 0, .slice none 0 0] :: .box wb 46 (arr ws) :: .box mb 46 (arr ms) :: ((R ++ [rowB W.heap.size vc (readV (d1) (j : Nat))]) ++ [rowB W.heap.size vm (meantV (d1) (j : Nat))]))) u37) := hs
                    clear hs H36 C
                    have hbm : Whole u37 mb 46 (arr ms) := H38.out.holds (.box mb 46 (arr ms)) (by simp)
                    have hbw : Whole u37 wb 46 (arr ws) := H38.out.holds (.box wb 46 (arr ws)) (by simp)
                    have cm := (hbm.cell j).trans AM.out
                    have cw := (hbw.cell j).trans AW.out
                    clear hbm hbw
                    have C := same_is (meantV d1 j) (meantV dS j) vm mv6 _ _ u37 (rowB_row (base := W.heap.size) H38.out (by simp)) (rowB_row (base := W.heap.size) H38.out (by have := MM.out; simp [this]))
                    rw [HU2.out.meant j, decide_eq_true rfl] at C
                    have C := Lib.hid C
                    go_wp2_with fail
                    refine C.out.mono ?_
                    rintro e u50 ⟨rfl, hb⟩
                    have hs := H38.out.call hb
                    have cw2 := (hb.cell (p := ⟨wb, j, none⟩) (World.block_lt_of_cell? u37 ⟨wb, j, none⟩ cw)).trans cw
                    clear hb cm cw
                    have H39 : Hid (Sep W (dI W.heap.size b pv wv33 (d1) ++ (.box ab 33 [.int .u8 (z : Nat), .int .i64 q1, .int .i64 q2, .slice none 0 0, .slice none 0 0] :: .box wb 46 (arr ws) :: .box mb 46 (arr ms) :: ((R ++ [rowB W.heap.size vc (readV (d1) (j : Nat))]) ++ [rowB W.heap.size vm (meantV (d1) (j : Nat))]))) u50) := hs
                    clear hs H38 C
                    by_cases hjh : (j : Int) = q2
                    · subst hjh
                      have HEND : Hid (Sep W (dI W.heap.size b pv wv33 (d1) ++ (.box ab 33 [.int .u8 (z : Nat), .int .i64 q1, .int .i64 (j : Int), .slice none 0 0, .slice none 0 0] :: .box wb 46 (arr ws) :: .box mb 46 (arr ms) :: R)) u50) := (show Sep W (dI W.heap.size b pv wv33 d1 ++ (((.box ab 33 [.int .u8 (z : Nat), .int .i64 q1, .int .i64 (j : Int), .slice none 0 0, .slice none 0 0] :: .box wb 46 (arr ws) :: .box mb 46 (arr ms) :: R) ++ [rowB W.heap.size vc (readV (d1) (j : Nat))]) ++ [rowB W.heap.size vm (meantV (d1) (j : Nat))])) u50 from H39.out).sub (((List.sublist_append_left _ _).trans (List.sublist_append_left _ _)).append_left _)
                      clear H39
                      go_wp2_with fail
                      go_roundw
                      case rel => exact ⟨j + 1, by omega, by go_num, HEND.out⟩
                      case measure => show 4 - ((j : Int) + 1).toNat < 4 - (j : Int).toNat; omega
                    · have HRD := Lib.hid (HU2.out.read j hj0 hjh)
                      have hjh' : ((j : Int) == q2) = false := by rw [beq_eq_false_iff_ne]; exact hjh
                      have hjh2 : ((j : Int) != q2) = true := by rw [bne, hjh']; rfl
                      clear hjh
                      have C := same_is (readV d1 j) (readV dS j) vc wv6 _ _ u50 (rowB_row (base := W.heap.size) H39.out (by simp)) (rowB_row (base := W.heap.size) H39.out (by have := MW.out; simp [this]))
                      rw [HRD.out, decide_eq_true rfl] at C
                      have C := Lib.hid C
                      go_wp2_with fail
                      refine C.out.mono ?_
                      rintro e u51 ⟨rfl, hb⟩
                      have hs := H39.out.call hb
                      clear hb
                      have H40 : Hid (Sep W (dI W.heap.size b pv wv33 (d1) ++ (.box ab 33 [.int .u8 (z : Nat), .int .i64 q1, .int .i64 q2, .slice none 0 0, .slice none 0 0] :: .box wb 46 (arr ws) :: .box mb 46 (arr ms) :: ((R ++ [rowB W.heap.size vc (readV (d1) (j : Nat))]) ++ [rowB W.heap.size vm (meantV (d1) (j : Nat))]))) u51) := hs
                      clear hs H39 C
                      have HEND : Hid (Sep W (dI W.heap.size b pv wv33 (d1) ++ (.box ab 33 [.int .u8 (z : Nat), .int .i64 q1, .int .i64 q2, .slice none 0 0, .slice none 0 0] :: .box wb 46 (arr ws) :: .box mb 46 (arr ms) :: R)) u51) := (show Sep W (dI W.heap.size b pv wv33 d1 ++ (((.box ab 33 [.int .u8 (z : Nat), .int .i64 q1, .int .i64 q2, .slice none 0 0, .slice none 0 0] :: .box wb 46 (arr ws) :: .box mb 46 (arr ms) :: R) ++ [rowB W.heap.size vc (readV (d1) (j : Nat))]) ++ [rowB W.heap.size vm (meantV (d1) (j : Nat))])) u51 from H40.out).sub (((List.sublist_append_left _ _).trans (List.sublist_append_left _ _)).append_left _)
                      clear H40
                      go_wp2_with fail
                      go_roundw
                      case rel => exact ⟨j + 1, by omega, by go_num, HEND.out⟩
                      case measure => show 4 - ((j : Int) + 1).toNat < 4 - (j : Int).toNat; omega
                  · have hj4' : j = 4 := by omega
                    subst hj4'
                    go_wp2_with fail
                    go_ret
                    exact ⟨rfl, HS6.out.below⟩
              · have hz5' : ((z : Int) == 5) = false := by rw [beq_eq_false_iff_ne]; omega
                have HU2 : Hid (Hurt dS d1 q1) := by have := F2.out; rw [if_neg hz5] at this; exact this
                clear F2 hz5
                go_wp2_with fail
                go_loopw [18] (fun i wr => ∃ j : Nat, j ≤ 4 ∧ i = .int .i64 j ∧ Sep W (dI W.heap.size b pv wv33 (d1) ++ (.box ab 33 [.int .u8 (z : Nat), .int .i64 q1, .int .i64 q2, .slice none 0 0, .slice none 0 0] :: .box wb 46 (arr ws) :: .box mb 46 (arr ms) :: R)) wr) (fun i _ => 4 - (intOf i).toNat)
                case atStart => exact ⟨0, by omega, rfl, H34.out⟩
                case round =>
                  obtain ⟨j, hj, rfl, hs⟩ := hrel
                  have HS6 := Lib.hid hs
                  clear hs H34 cb0 cb1 cb2
                  by_cases hj4 : j < 4
                  · have hj0 : (0 : Int) ≤ (j : Int) := by omega
                    have hj1 : (j : Int) < 4 := by omega
                    have hin := inn4 LEN1.out hj0 hj1
                    have ht : thereE d1 [(j : Int)] = 0 := by rw [there_one, hin]; rfl
                    have HTH := Lib.hid ht
                    clear ht hin
                    obtain ⟨wv6, hwv⟩ : ∃ x, ws[j]? = some x := ⟨_, List.getElem?_eq_getElem (by rw [HT.out.lw]; exact hj4)⟩
                    obtain ⟨mv6, hmv⟩ : ∃ x, ms[j]? = some x := ⟨_, List.getElem?_eq_getElem (by rw [HT.out.lm]; exact hj4)⟩
                    have MW := Lib.hid (HT.out.was j wv6 hwv)
                    have MM := Lib.hid (HT.out.mnt j mv6 hmv)
                    have AW : Hid ((arr ws)[j]? = some wv6) := by show (arr ws)[j]? = _; rw [arr, List.getElem?_append_left (by rw [HT.out.lw]; exact hj4)]; exact hwv
                    have AM : Hid ((arr ms)[j]? = some mv6) := by show (arr ms)[j]? = _; rw [arr, List.getElem?_append_left (by rw [HT.out.lm]; exact hj4)]; exact hmv
                    clear hwv hmv
                    have C := read_is (d1) OK1.out (j : Nat) b pv _ wr HS6.out
                    have C := Lib.hid C
                    go_wp2_with fail
                    refine C.out.mono ?_
                    rintro e u41 ⟨vc, rfl, hs⟩
                    have H42 : Hid (Sep W (dI W.heap.size b pv wv33 (d1) ++ (.box ab 33 [.int .u8 (z : Nat), .int .i64 q1, .int .i64 q2, .slice none 0 0, .slice none 0 0] :: .box wb 46 (arr ws) :: .box mb 46 (arr ms) :: (R ++ [rowB W.heap.size vc (readV (d1) (j : Nat))]))) u41) := hs
                    clear hs HS6 C
                    have C := meant_is (d1) OK1.out (j : Nat) b pv _ u41 H42.out
                    rw [HTH.out] at C
                    have C := Lib.hid C
                    go_wp2_with fail
                    refine C.out.mono ?_
                    rintro e u43 ⟨vm, rfl, hs⟩
                    have H44 : Hid (Sep W (dI W.heap.size b pv wv33 (d1) ++ (.box ab 33 [.int .u8 (z : Nat), .int .i64 q1, .int .i64 q2, .slice none 0 0, .slice none 0 0] :: .box wb 46 (arr ws) :: .box mb 46 (arr ms) :: ((R ++ [rowB W.heap.size vc (readV (d1) (j : Nat))]) ++ [rowB W.heap.size vm (meantV (d1) (j : Nat))]))) u43) := hs
                    clear hs H42 C
                    have hbm : Whole u43 mb 46 (arr ms) := H44.out.holds (.box mb 46 (arr ms)) (by simp)
                    have hbw : Whole u43 wb 46 (arr ws) := H44.out.holds (.box wb 46 (arr ws)) (by simp)
                    have cm := (hbm.cell j).trans AM.out
                    have cw := (hbw.cell j).trans AW.out
                    clear hbm hbw
                    have C := same_is (meantV d1 j) (meantV dS j) vm mv6 _ _ u43 (rowB_row (base := W.heap.size) H44.out (by simp)) (rowB_row (base := W.heap.size) H44.out (by have := MM.out; simp [this]))
                    rw [HU2.out.meant j, decide_eq_true rfl] at C
                    have C := Lib.hid C
                    go_wp2_with fail
                    refine C.out.mono ?_
                    rintro e u50 ⟨rfl, hb⟩
                    have hs := H44.out.call hb
                    have cw2 := (hb.cell (p := ⟨wb, j, none⟩) (World.block_lt_of_cell? u43 ⟨wb, j, none⟩ cw)).trans cw
                    clear hb cm cw
                    have H45 : Hid (Sep W (dI W.heap.size b pv wv33 (d1) ++ (.box ab 33 [.int .u8 (z : Nat), .int .i64 q1, .int .i64 q2, .slice none 0 0, .slice none 0 0] :: .box wb 46 (arr ws) :: .box mb 46 (arr ms) :: ((R ++ [rowB W.heap.size vc (readV (d1) (j : Nat))]) ++ [rowB W.heap.size vm (meantV (d1) (j : Nat))]))) u50) := hs
                    clear hs H44 C
                    by_cases hjh : (j : Int) = q1
                    · subst hjh
                      have HEND : Hid (Sep W (dI W.heap.size b pv wv33 (d1) ++ (.box ab 33 [.int .u8 (z : Nat), .int .i64 (j : Int), .int .i64 q2, .slice none 0 0, .slice none 0 0] :: .box wb 46 (arr ws) :: .box mb 46 (arr ms) :: R)) u50) := (show Sep W (dI W.heap.size b pv wv33 d1 ++ (((.box ab 33 [.int .u8 (z : Nat), .int .i64 (j : Int), .int .i64 q2, .slice none 0 0, .slice none 0 0] :: .box wb 46 (arr ws) :: .box mb 46 (arr ms) :: R) ++ [rowB W.heap.size vc (readV (d1) (j : Nat))]) ++ [rowB W.heap.size vm (meantV (d1) (j : Nat))])) u50 from H45.out).sub (((List.sublist_append_left _ _).trans (List.sublist_append_left _ _)).append_left _)
                      clear H45
                      go_wp2_with fail
                      go_roundw
                      case rel => exact ⟨j + 1, by omega, by go_num, HEND.out⟩
                      case measure => show 4 - ((j : Int) + 1).toNat < 4 - (j : Int).toNat; omega
                    · have HRD := Lib.hid (HU2.out.read j hj0 hjh)
                      have hjh' : ((j : Int) == q1) = false := by rw [beq_eq_false_iff_ne]; exact hjh
                      have hjh2 : ((j : Int) != q1) = true := by rw [bne, hjh']; rfl
                      clear hjh
                      have C := same_is (readV d1 j) (readV dS j) vc wv6 _ _ u50 (rowB_row (base := W.heap.size) H45.out (by simp)) (rowB_row (base := W.heap.size) H45.out (by have := MW.out; simp [this]))
                      rw [HRD.out, decide_eq_true rfl] at C
                      have C := Lib.hid C
                      go_wp2_with fail
                      refine C.out.mono ?_
                      rintro e u51 ⟨rfl, hb⟩
                      have hs := H45.out.call hb
                      clear hb
                      have H46 : Hid (Sep W (dI W.heap.size b pv wv33 (d1) ++ (.box ab 33 [.int .u8 (z : Nat), .int .i64 q1, .int .i64 q2, .slice none 0 0, .slice none 0 0] :: .box wb 46 (arr ws) :: .box mb 46 (arr ms) :: ((R ++ [rowB W.heap.size vc (readV (d1) (j : Nat))]) ++ [rowB W.heap.size vm (meantV (d1) (j : Nat))]))) u51) := hs
                      clear hs H45 C
                      have HEND : Hid (Sep W (dI W.heap.size b pv wv33 (d1) ++ (.box ab 33 [.int .u8 (z : Nat), .int .i64 q1, .int .i64 q2, .slice none 0 0, .slice none 0 0] :: .box wb 46 (arr ws) :: .box mb 46 (arr ms) :: R)) u51) := (show Sep W (dI W.heap.size b pv wv33 d1 ++ (((.box ab 33 [.int .u8 (z : Nat), .int .i64 q1, .int .i64 q2, .slice none 0 0, .slice none 0 0] :: .box wb 46 (arr ws) :: .box mb 46 (arr ms) :: R) ++ [rowB W.heap.size vc (readV (d1) (j : Nat))]) ++ [rowB W.heap.size vm (meantV (d1) (j : Nat))])) u51 from H46.out).sub (((List.sublist_append_left _ _).trans (List.sublist_append_left _ _)).append_left _)
                      clear H46
                      go_wp2_with fail
                      go_roundw
                      case rel => exact ⟨j + 1, by omega, by go_num, HEND.out⟩
                      case measure => show 4 - ((j : Int) + 1).toNat < 4 - (j : Int).toNat; omega
                  · have hj4' : j = 4 := by omega
                    subst hj4'
                    go_wp2_with fail
                    go_ret
                    exact ⟨rfl, HS6.out.below⟩
  · rw [hg] at GR
    have GR := Lib.hid GR
    clear hg
    generalize L.length = M at *
    go_wp2_with fail
    refine GR.out.mono ?_
    rintro e u9 ⟨rfl, rfl⟩
    go_wp2_with fail
    go_ret
    exact ⟨rfl, S0.out.below⟩
end Di
end Go.Proofs.Ytnjejffbcgchlaa
