/- While a disk is down nothing is read, written, flushed (DiskDown). -/
import Derived.Test.YtnjejffbcgchlaaDiskActs
set_option linter.unusedSimpArgs false
set_option linter.unusedVariables false
namespace Go.Proofs.Ytnjejffbcgchlaa
open Go.RowKit
namespace Di
theorem avOk.below {w u : World} {x : Av} (h : avOk w x) (hb : Below w.heap.size w u) : avOk u x :=
  ⟨h.1, h.2.1, (h.2.2.1.below hb).more hb.size, (h.2.2.2.below hb).more hb.size⟩
theorem avOk.bytes {w u : World} {l : List It} {x : Av} (h : avOk w x) : Stays w l x.bv x.a.bytes.length (u8s x.a.bytes) := Stays.of_row h.2.2.1 (Nat.le_refl _)
theorem avOk.keeps {w u : World} {l : List It} {x : Av} (h : avOk w x) : Stays w l x.kv x.a.keep.length (bools x.a.keep) := Stays.of_row h.2.2.2 (Nat.le_refl _)
theorem great_not {L : List Av} (h : greatB L = false) : L.length ≤ 120 ∧ ∀ x ∈ L, x.a.bytes.length ≤ 200 := by
  unfold greatB at h
  rw [Bool.or_eq_false_iff] at h
  refine ⟨by have := h.1; simp at this; omega, fun x hx => ?_⟩
  have := List.any_eq_false.1 h.2 x hx
  unfold big at this
  simp at this
  omega
theorem crash_to {d : Dk} (h : Dry d) (keep : List Bool) : (crashD d keep).down = true ∧ (crashD d keep).waits = [] := by
  unfold crashD
  split
  · rename_i hd; exact ⟨hd, h hd⟩
  · exact ⟨rfl, rfl⟩
theorem down_up {d : Dk} (h : d.down = true) : d.up = false := by unfold Dk.up; rw [h]; rfl
theorem up_down {d : Dk} (h : d.up = true) : d.down = false := by unfold Dk.up at h; cases hd : d.down <;> simp_all
theorem crash_len (d : Dk) (keep : List Bool) : (crashD d keep).places.length = d.places.length := by
  unfold crashD
  split
  · rfl
  · exact thr_len _ _ _ _
theorem crash_dry {d : Dk} (h : Dry d) (keep : List Bool) : Dry (crashD d keep) := fun _ => (crash_to h keep).2
/-- What is there of a disk that is down. -/
theorem down_all {d : Dk} (h : d.down = true) (hw : d.waits = []) (q : Int) (hq : inn d q = true) :
    thereE d [q] = 0 ∧ readE d q = 5 ∧ (∀ bs, writeE d q bs = 5) ∧ (∀ bs, writeD d q bs = d) ∧ flushE d = 5 ∧ flushD d = d ∧ crashE d = 5 ∧ (∀ k, crashD d k = d) ∧ ((d.waits.length : Nat) : Int) = 0 ∧ startE d = 0 ∧ startE (startD d) = 2 ∧ startD (startD d) = startD d ∧ (startD d).up = true ∧
    readE (startD d) q = (if (d.at_ q).lost then 50 else 0) ∧ readV (startD d) q = restV d q ∧ restL d q = (d.at_ q).lost := by
  have hu := down_up h
  have hs : startD d = { d with down := false, dead := false, left := -1 } := by unfold startD; rw [h]; rfl
  refine ⟨by rw [there_one, hq]; rfl, by unfold readE; rw [hu]; rfl, fun bs => by unfold writeE; rw [hu]; rfl, fun bs => by unfold writeD; rw [hu]; rfl, by unfold flushE; rw [hu]; rfl, by unfold flushD; rw [hu]; rfl, by unfold crashE; rw [h]; rfl, fun k => by unfold crashD; rw [h]; rfl, by rw [hw]; rfl, by unfold startE; rw [h]; rfl, by rw [hs]; rfl, by rw [hs]; rfl, by rw [hs]; rfl, ?_, ?_, by unfold restL; rw [hq]; rfl⟩
  · rw [hs]
    show (if inn d q then (match lastW d.waits q.toNat with | some _ => (0 : Int) | none => if (d.at_ q).lost then 50 else 0) else 2) = _
    rw [hq, hw]; rfl
  · rw [hs]
    show (if inn d q then (match lastW d.waits q.toNat with | some b => b.l | none => if (d.at_ q).lost then [] else (d.at_ q).rest.l) else []) = _
    unfold restV
    rw [hq, hw]; rfl

set_option maxRecDepth 100000 in
set_option maxHeartbeats 8000000 in
theorem diskDown_is (L : List Av) {W : World} (hok : ∀ x ∈ L, avOk W x) (v : Value) (n : Int) (_ : World) (hr : Row W W.heap.size v L.length (L.flatMap avC)) :
    Calls Try.prog 9 #[v, .int .i64 n] W fun e w' => e = .returned (.bool true) ∧ Below W.heap.size W w' := by
  obtain ⟨A, c, rfl, _, _⟩ := hr.slice
  have hbd := hr.bound
  have HR := Lib.hid hr
  have HOK := Lib.hid hok
  obtain ⟨q, hq, hq0, hq1⟩ := mod4 n
  clear hr hok
  go_enter Try.func9, Try.ntmps9
  go_wp2_with fail
  refine (awake_is W).mono ?_
  rintro e u0 ⟨rfl, hb⟩
  have S0 := Lib.hid (Sep.start W hb)
  have GR := great_is L (.slice A L.length c) _ u0 (HR.out.below hb) (fun x hx => (HOK.out x hx).below hb)
  clear hb
  cases hg : greatB L
  · rw [hg] at GR
    have GR := Lib.hid GR
    have hg2 := great_not hg
    have HL := Lib.hid hg2.2
    obtain ⟨M, hM⟩ : ∃ M, L.length = M := ⟨_, rfl⟩
    have hM1 : M ≤ 120 := by rw [← hM]; exact hg2.1
    have HM := Lib.hid hM
    rw [hM] at GR ⊢
    clear hg hg2 hM hbd
    go_wp2_with fail
    refine GR.out.mono ?_
    rintro e u9 ⟨rfl, rfl⟩
    clear GR
    have N := Lib.hid (new_is 4 (by omega) (by omega) u0 S0.out)
    go_wp2_with fail
    refine N.out.mono ?_
    rintro e u1 ⟨b, pv, rfl, hs⟩
    have H2 : Hid (Sep W (dI W.heap.size b pv (.slice none 0 0) (new 4) ++ []) u1) := hs
    clear hs N S0
    go_wp2_with fail
    go_loopw [7] (fun i wr => ∃ (k : Nat) (wv : Value), k ≤ M ∧ i = .int .i64 k ∧ Run (run (new 4) (L.take k)) k ∧ Sep W (dI W.heap.size b pv wv (run (new 4) (L.take k)) ++ []) wr) (fun i _ => M - (intOf i).toNat)
    case atStart => exact ⟨0, _, Nat.zero_le _, rfl, Run.start, H2.out⟩
    case round =>
      obtain ⟨k, wv, hk, rfl, hrun, hs⟩ := hrel
      have HS := Lib.hid hs
      have HRUN := Lib.hid hrun
      clear hs hrun H2
      by_cases hlt : k < M
      · have hl : k < L.length := by rw [HM.out]; exact hlt
        have hrw := (HR.out.below HS.out.below)
        rw [HM.out] at hrw
        obtain ⟨b2, o2, hA2, hb2, hx2⟩ := (HR.out.below HS.out.below).elem avC_len (by omega) hl
        subst hA2
        have y0 := hx2 0 _ rfl
        have y1 := hx2 1 _ rfl
        have y2 := hx2 2 _ rfl
        have y3 := hx2 3 _ rfl
        have y4 := hx2 4 _ rfl
        simp only [← Nat.add_assoc, Nat.add_zero] at y0 y1 y2 y3 y4
        have hx := HOK.out _ (List.getElem_mem hl)
        have hxl := HL.out _ (List.getElem_mem hl)
        have HSN := Lib.hid (run_snoc (new 4) L k hl)
        clear hrw hx2
        generalize L[k] = x at *
        have HRN := Lib.hid (HRUN.out.next hx)
        have C := Lib.hid (do_is _ HRUN.out.ok x.a hx.1 b pv wv x.bv x.kv wr HS.out (avOk.bytes (u := wr) hx) (avOk.keeps (u := wr) hx) (by omega) (by have := HRUN.out.few; omega))
        obtain ⟨⟨kd, sc, nn, bs, ks⟩, bv, kv⟩ := x
        dsimp only at *
        have hk0 : (0 : Int) ≤ (k : Int) := by omega
        have hk1 : (k : Int) < (M : Int) := by omega
        clear hx hxl
        go_wp2_with fail
        refine C.out.mono ?_
        rintro e u5 ⟨rfl, wv5, hs⟩
        have HS5 := Lib.hid hs
        clear hs C
        go_wp2_with fail
        go_round
        · exact ⟨k + 1, wv5, by omega, by go_num, by rw [HSN.out]; exact HRN.out, by rw [HSN.out]; exact HS5.out⟩
        · show M - ((k : Int) + 1).toNat < M - (k : Int).toNat; omega
      · have hkM : k = M := by omega
        subst hkM
        have HRE : Hid (L.take k = L) := by show L.take k = L; rw [← HM.out, List.take_length]
        rw [HRE.out] at HS HRUN
        obtain ⟨d, hd⟩ : ∃ d, d = run (new 4) L := ⟨_, rfl⟩
        rw [← hd] at HS HRUN
        clear hd HRE
        cases hup : d.up
        · have C := up_is d HRUN.out.ok b pv _ wr HS.out
          rw [hup] at C
          have C := Lib.hid C
          go_wp2_with fail
          refine C.out.mono ?_
          rintro e u9 ⟨rfl, rfl⟩
          clear C
          have OK1 := Lib.hid HRUN.out.ok
          have DRY1 := Lib.hid HRUN.out.dry
          have LEN1 := Lib.hid HRUN.out.len
          obtain ⟨d1, hd1⟩ : ∃ d1, d1 = d := ⟨_, rfl⟩
          rw [← hd1] at OK1 DRY1 LEN1 HS
          clear hd1
          clear hup
          have C := crash_is (d1) OK1.out [] b pv _ (.slice none 0 0) wr HS.out (Stays.nil _ _)
          have C := Lib.hid C
          go_wp2_with fail
          refine C.out.mono ?_
          rintro e u13 ⟨rfl, wv13, hs⟩
          have H14 : Hid (Sep W (dI W.heap.size b pv wv13 (crashD d1 []) ++ []) u13) := hs
          clear hs HS C
          have OK2 := Lib.hid (crash_ok OK1.out [])
          have TO2 := crash_to DRY1.out []
          have IN2 := inn4 ((crash_len d1 []).trans LEN1.out) hq0 hq1
          obtain ⟨f1, f2, f3, f4, f5, f6, f7, f8, f9, f10, f11, f12, f13, f14, f15, f16⟩ := down_all TO2.1 TO2.2 q IN2
          have FEW2 : Hid ((crashD d1 []).waits.length ≤ 1000000000) := by show (crashD d1 []).waits.length ≤ _; rw [TO2.2]; simp
          have OK3 := Lib.hid (start_ok OK2.out)
          obtain ⟨d2, hd2⟩ : ∃ d2, d2 = crashD d1 [] := ⟨_, rfl⟩
          rw [← hd2] at f1 f2 f3 f4 f5 f6 f7 f8 f9 f10 f11 f12 f13 f14 f15 f16 OK2 OK3 FEW2 H14
          clear hd2 TO2 IN2
          have F1 := Lib.hid f1; clear f1
          have F2 := Lib.hid f2; clear f2
          have F3 := Lib.hid f3; clear f3
          have F4 := Lib.hid f4; clear f4
          have F5 := Lib.hid f5; clear f5
          have F6 := Lib.hid f6; clear f6
          have F7 := Lib.hid f7; clear f7
          have F8 := Lib.hid f8; clear f8
          have F9 := Lib.hid f9; clear f9
          have F10 := Lib.hid f10; clear f10
          have F11 := Lib.hid f11; clear f11
          have F12 := Lib.hid f12; clear f12
          have F13 := Lib.hid f13; clear f13
          have F14 := Lib.hid f14; clear f14
          have F15 := Lib.hid f15; clear f15
          have F16 := Lib.hid f16; clear f16
          have C := rest_is (d2) OK2.out q b pv _ u13 H14.out
          rw [F1.out] at C
          rw [F16.out] at C
          have C := Lib.hid C
          go_wp2_with fail
          refine C.out.mono ?_
          rintro e u15 ⟨vr, rfl, hs⟩
          have H16 : Hid (Sep W (dI W.heap.size b pv wv13 (d2) ++ [rowB W.heap.size vr (restV (d2) q)]) u15) := hs
          clear hs H14 C
          have C := read_is (d2) OK2.out q b pv _ u15 H16.out
          rw [F2.out] at C
          have C := Lib.hid C
          go_wp2_with fail
          refine C.out.mono ?_
          rintro e u17 ⟨vz, rfl, hs⟩
          have H18 : Hid (Sep W (dI W.heap.size b pv wv13 (d2) ++ [rowB W.heap.size vr (restV (d2) q), rowB W.heap.size vz (readV (d2) q)]) u17) := hs
          clear hs H16 C
          have H19 : Hid (Sep W (dI W.heap.size b pv wv13 (d2) ++ [rowB W.heap.size vr (restV (d2) q)]) u17) := (show Sep W (dI W.heap.size b pv wv13 (d2) ++ ([rowB W.heap.size vr (restV (d2) q)] ++ [rowB W.heap.size vz (readV (d2) q)])) u17 from H18.out).sub ((List.sublist_append_left [rowB W.heap.size vr (restV (d2) q)] [rowB W.heap.size vz (readV (d2) q)]).append_left _)
          clear H18
          have C := sector_is 0 0 0 [] (.slice none 0 0) (.slice none 0 0) u17 H19.out (Stays.nil _ _) (by simp)
          have C := Lib.hid C
          go_wp2_with fail
          refine C.out.mono ?_
          rintro e u21 ⟨v20, rfl, hs⟩
          have H22 : Hid (Sep W (dI W.heap.size b pv wv13 (d2) ++ [rowB W.heap.size vr (restV (d2) q), rowB W.heap.size v20 (sectorL 0 [])]) u21) := hs
          clear hs H19 C
          have C := write_is (d2) OK2.out q (sectorL 0 []) b pv _ v20 u21 H22.out (Stays.of_own (base := W.heap.size) (e := 5) (K := 1) (by simp [rowB])) FEW2.out
          rw [F3.out] at C
          have C := Lib.hid C
          go_wp2_with fail
          refine C.out.mono ?_
          rintro e u23 ⟨rfl, wv23, hs⟩
          rw [F4.out] at hs
          have H24 : Hid (Sep W (dI W.heap.size b pv wv23 (d2) ++ [rowB W.heap.size vr (restV (d2) q), rowB W.heap.size v20 (sectorL 0 [])]) u23) := hs
          clear hs H22 C
          have H25 : Hid (Sep W (dI W.heap.size b pv wv23 (d2) ++ [rowB W.heap.size vr (restV (d2) q)]) u23) := (show Sep W (dI W.heap.size b pv wv23 (d2) ++ ([rowB W.heap.size vr (restV (d2) q)] ++ [rowB W.heap.size v20 (sectorL 0 [])])) u23 from H24.out).sub ((List.sublist_append_left [rowB W.heap.size vr (restV (d2) q)] [rowB W.heap.size v20 (sectorL 0 [])]).append_left _)
          clear H24
          have C := flush_is (d2) OK2.out b pv _ u23 H25.out
          rw [F5.out] at C
          have C := Lib.hid C
          go_wp2_with fail
          refine C.out.mono ?_
          rintro e u26 ⟨rfl, wv26, hs⟩
          rw [F6.out] at hs
          have H27 : Hid (Sep W (dI W.heap.size b pv wv26 (d2) ++ [rowB W.heap.size vr (restV (d2) q)]) u26) := hs
          clear hs H25 C
          have C := crash_is (d2) OK2.out [] b pv _ (.slice none 0 0) u26 H27.out (Stays.nil _ _)
          rw [F7.out] at C
          have C := Lib.hid C
          go_wp2_with fail
          refine C.out.mono ?_
          rintro e u28 ⟨rfl, wv28, hs⟩
          rw [F8.out] at hs
          have H29 : Hid (Sep W (dI W.heap.size b pv wv28 (d2) ++ [rowB W.heap.size vr (restV (d2) q)]) u28) := hs
          clear hs H27 C
          have C := waits_is d2 OK2.out b pv _ u28 H29.out
          rw [F9.out] at C
          have C := Lib.hid C
          go_wp2_with fail
          refine C.out.mono ?_
          rintro e u9 ⟨rfl, rfl⟩
          clear C
          have C := start_is (d2) OK2.out b pv _ u28 H29.out
          rw [F10.out] at C
          have C := Lib.hid C
          go_wp2_with fail
          refine C.out.mono ?_
          rintro e u30 ⟨rfl, hs⟩
          have H31 : Hid (Sep W (dI W.heap.size b pv wv28 (startD d2) ++ [rowB W.heap.size vr (restV (d2) q)]) u30) := hs
          clear hs H29 C
          have C := start_is (startD d2) OK3.out b pv _ u30 H31.out
          rw [F11.out] at C
          have C := Lib.hid C
          go_wp2_with fail
          refine C.out.mono ?_
          rintro e u32 ⟨rfl, hs⟩
          rw [F12.out] at hs
          have H33 : Hid (Sep W (dI W.heap.size b pv wv28 (startD d2) ++ [rowB W.heap.size vr (restV (d2) q)]) u32) := hs
          clear hs H31 C
          have C := up_is (startD d2) OK3.out b pv _ u32 H33.out
          rw [F13.out] at C
          have C := Lib.hid C
          go_wp2_with fail
          refine C.out.mono ?_
          rintro e u9 ⟨rfl, rfl⟩
          clear C
          cases hlo : (d2.at_ q).lost
          · have R14 := F14.out
            rw [hlo] at R14
            simp only [Bool.false_eq_true, if_true, if_false] at R14
            have R14 := Lib.hid R14
            clear hlo
            have C := read_is (startD d2) OK3.out q b pv _ u32 H33.out
            rw [R14.out] at C
            have C := Lib.hid C
            go_wp2_with fail
            refine C.out.mono ?_
            rintro e u34 ⟨vb, rfl, hs⟩
            have H35 : Hid (Sep W (dI W.heap.size b pv wv28 (startD d2) ++ [rowB W.heap.size vr (restV (d2) q), rowB W.heap.size vb (readV (startD d2) q)]) u34) := hs
            clear hs H33 C
            have C := same_is (readV (startD d2) q) (restV d2 q) vb vr _ _ u34 (rowB_row (base := W.heap.size) H35.out (by simp)) (rowB_row (base := W.heap.size) H35.out (by simp))
            rw [F15.out] at C
            rw [decide_eq_true rfl] at C
            have C := Lib.hid C
            go_wp2_with fail
            refine C.out.mono ?_
            rintro e u36 ⟨rfl, hb⟩
            have hs := H35.out.call hb
            clear hb
            have H37 : Hid (Sep W (dI W.heap.size b pv wv28 (startD d2) ++ [rowB W.heap.size vr (restV (d2) q), rowB W.heap.size vb (readV (startD d2) q)]) u36) := hs
            clear hs H35 C
            go_wp2_with fail
            go_ret
            exact ⟨rfl, H37.out.below⟩
          · have R14 := F14.out
            rw [hlo] at R14
            simp only [if_true, if_false] at R14
            have R14 := Lib.hid R14
            clear hlo
            have C := read_is (startD d2) OK3.out q b pv _ u32 H33.out
            rw [R14.out] at C
            have C := Lib.hid C
            go_wp2_with fail
            refine C.out.mono ?_
            rintro e u38 ⟨vb, rfl, hs⟩
            have H39 : Hid (Sep W (dI W.heap.size b pv wv28 (startD d2) ++ [rowB W.heap.size vr (restV (d2) q), rowB W.heap.size vb (readV (startD d2) q)]) u38) := hs
            clear hs H33 C
            go_wp2_with fail
            go_ret
            exact ⟨rfl, H39.out.below⟩
        · have C := up_is d HRUN.out.ok b pv _ wr HS.out
          rw [hup] at C
          have C := Lib.hid C
          go_wp2_with fail
          refine C.out.mono ?_
          rintro e u9 ⟨rfl, rfl⟩
          clear C
          have hce : crashE d = 0 := by unfold crashE; rw [up_down hup]; rfl
          have C := crash_is (d) HRUN.out.ok [] b pv _ (.slice none 0 0) wr HS.out (Stays.nil _ _)
          rw [hce] at C
          have C := Lib.hid C
          go_wp2_with fail
          refine C.out.mono ?_
          rintro e u40 ⟨rfl, wv40, hs⟩
          have H41 : Hid (Sep W (dI W.heap.size b pv wv40 (crashD d []) ++ []) u40) := hs
          clear hs HS C
          have OK1 := Lib.hid (crash_ok HRUN.out.ok [])
          have DRY1 := Lib.hid (crash_dry HRUN.out.dry [])
          have LEN1 : Hid ((crashD d []).places.length = 4) := (crash_len _ _).trans HRUN.out.len
          obtain ⟨d1, hd1⟩ : ∃ d1, d1 = crashD d [] := ⟨_, rfl⟩
          rw [← hd1] at OK1 DRY1 LEN1 H41
          clear hce hd1
          clear hup
          have C := crash_is (d1) OK1.out [] b pv _ (.slice none 0 0) u40 H41.out (Stays.nil _ _)
          have C := Lib.hid C
          go_wp2_with fail
          refine C.out.mono ?_
          rintro e u42 ⟨rfl, wv42, hs⟩
          have H43 : Hid (Sep W (dI W.heap.size b pv wv42 (crashD d1 []) ++ []) u42) := hs
          clear hs H41 C
          have OK2 := Lib.hid (crash_ok OK1.out [])
          have TO2 := crash_to DRY1.out []
          have IN2 := inn4 ((crash_len d1 []).trans LEN1.out) hq0 hq1
          obtain ⟨f1, f2, f3, f4, f5, f6, f7, f8, f9, f10, f11, f12, f13, f14, f15, f16⟩ := down_all TO2.1 TO2.2 q IN2
          have FEW2 : Hid ((crashD d1 []).waits.length ≤ 1000000000) := by show (crashD d1 []).waits.length ≤ _; rw [TO2.2]; simp
          have OK3 := Lib.hid (start_ok OK2.out)
          obtain ⟨d2, hd2⟩ : ∃ d2, d2 = crashD d1 [] := ⟨_, rfl⟩
          rw [← hd2] at f1 f2 f3 f4 f5 f6 f7 f8 f9 f10 f11 f12 f13 f14 f15 f16 OK2 OK3 FEW2 H43
          clear hd2 TO2 IN2
          have F1 := Lib.hid f1; clear f1
          have F2 := Lib.hid f2; clear f2
          have F3 := Lib.hid f3; clear f3
          have F4 := Lib.hid f4; clear f4
          have F5 := Lib.hid f5; clear f5
          have F6 := Lib.hid f6; clear f6
          have F7 := Lib.hid f7; clear f7
          have F8 := Lib.hid f8; clear f8
          have F9 := Lib.hid f9; clear f9
          have F10 := Lib.hid f10; clear f10
          have F11 := Lib.hid f11; clear f11
          have F12 := Lib.hid f12; clear f12
          have F13 := Lib.hid f13; clear f13
          have F14 := Lib.hid f14; clear f14
          have F15 := Lib.hid f15; clear f15
          have F16 := Lib.hid f16; clear f16
          have C := rest_is (d2) OK2.out q b pv _ u42 H43.out
          rw [F1.out] at C
          rw [F16.out] at C
          have C := Lib.hid C
          go_wp2_with fail
          refine C.out.mono ?_
          rintro e u44 ⟨vr, rfl, hs⟩
          have H45 : Hid (Sep W (dI W.heap.size b pv wv42 (d2) ++ [rowB W.heap.size vr (restV (d2) q)]) u44) := hs
          clear hs H43 C
          have C := read_is (d2) OK2.out q b pv _ u44 H45.out
          rw [F2.out] at C
          have C := Lib.hid C
          go_wp2_with fail
          refine C.out.mono ?_
          rintro e u46 ⟨vz, rfl, hs⟩
          have H47 : Hid (Sep W (dI W.heap.size b pv wv42 (d2) ++ [rowB W.heap.size vr (restV (d2) q), rowB W.heap.size vz (readV (d2) q)]) u46) := hs
          clear hs H45 C
          have H48 : Hid (Sep W (dI W.heap.size b pv wv42 (d2) ++ [rowB W.heap.size vr (restV (d2) q)]) u46) := (show Sep W (dI W.heap.size b pv wv42 (d2) ++ ([rowB W.heap.size vr (restV (d2) q)] ++ [rowB W.heap.size vz (readV (d2) q)])) u46 from H47.out).sub ((List.sublist_append_left [rowB W.heap.size vr (restV (d2) q)] [rowB W.heap.size vz (readV (d2) q)]).append_left _)
          clear H47
          have C := sector_is 0 0 0 [] (.slice none 0 0) (.slice none 0 0) u46 H48.out (Stays.nil _ _) (by simp)
          have C := Lib.hid C
          go_wp2_with fail
          refine C.out.mono ?_
          rintro e u50 ⟨v49, rfl, hs⟩
          have H51 : Hid (Sep W (dI W.heap.size b pv wv42 (d2) ++ [rowB W.heap.size vr (restV (d2) q), rowB W.heap.size v49 (sectorL 0 [])]) u50) := hs
          clear hs H48 C
          have C := write_is (d2) OK2.out q (sectorL 0 []) b pv _ v49 u50 H51.out (Stays.of_own (base := W.heap.size) (e := 5) (K := 1) (by simp [rowB])) FEW2.out
          rw [F3.out] at C
          have C := Lib.hid C
          go_wp2_with fail
          refine C.out.mono ?_
          rintro e u52 ⟨rfl, wv52, hs⟩
          rw [F4.out] at hs
          have H53 : Hid (Sep W (dI W.heap.size b pv wv52 (d2) ++ [rowB W.heap.size vr (restV (d2) q), rowB W.heap.size v49 (sectorL 0 [])]) u52) := hs
          clear hs H51 C
          have H54 : Hid (Sep W (dI W.heap.size b pv wv52 (d2) ++ [rowB W.heap.size vr (restV (d2) q)]) u52) := (show Sep W (dI W.heap.size b pv wv52 (d2) ++ ([rowB W.heap.size vr (restV (d2) q)] ++ [rowB W.heap.size v49 (sectorL 0 [])])) u52 from H53.out).sub ((List.sublist_append_left [rowB W.heap.size vr (restV (d2) q)] [rowB W.heap.size v49 (sectorL 0 [])]).append_left _)
          clear H53
          have C := flush_is (d2) OK2.out b pv _ u52 H54.out
          rw [F5.out] at C
          have C := Lib.hid C
          go_wp2_with fail
          refine C.out.mono ?_
          rintro e u55 ⟨rfl, wv55, hs⟩
          rw [F6.out] at hs
          have H56 : Hid (Sep W (dI W.heap.size b pv wv55 (d2) ++ [rowB W.heap.size vr (restV (d2) q)]) u55) := hs
          clear hs H54 C
          have C := crash_is (d2) OK2.out [] b pv _ (.slice none 0 0) u55 H56.out (Stays.nil _ _)
          rw [F7.out] at C
          have C := Lib.hid C
          go_wp2_with fail
          refine C.out.mono ?_
          rintro e u57 ⟨rfl, wv57, hs⟩
          rw [F8.out] at hs
          have H58 : Hid (Sep W (dI W.heap.size b pv wv57 (d2) ++ [rowB W.heap.size vr (restV (d2) q)]) u57) := hs
          clear hs H56 C
          have C := waits_is d2 OK2.out b pv _ u57 H58.out
          rw [F9.out] at C
          have C := Lib.hid C
          go_wp2_with fail
          refine C.out.mono ?_
          rintro e u9 ⟨rfl, rfl⟩
          clear C
          have C := start_is (d2) OK2.out b pv _ u57 H58.out
          rw [F10.out] at C
          have C := Lib.hid C
          go_wp2_with fail
          refine C.out.mono ?_
          rintro e u59 ⟨rfl, hs⟩
          have H60 : Hid (Sep W (dI W.heap.size b pv wv57 (startD d2) ++ [rowB W.heap.size vr (restV (d2) q)]) u59) := hs
          clear hs H58 C
          have C := start_is (startD d2) OK3.out b pv _ u59 H60.out
          rw [F11.out] at C
          have C := Lib.hid C
          go_wp2_with fail
          refine C.out.mono ?_
          rintro e u61 ⟨rfl, hs⟩
          rw [F12.out] at hs
          have H62 : Hid (Sep W (dI W.heap.size b pv wv57 (startD d2) ++ [rowB W.heap.size vr (restV (d2) q)]) u61) := hs
          clear hs H60 C
          have C := up_is (startD d2) OK3.out b pv _ u61 H62.out
          rw [F13.out] at C
          have C := Lib.hid C
          go_wp2_with fail
          refine C.out.mono ?_
          rintro e u9 ⟨rfl, rfl⟩
          clear C
          cases hlo : (d2.at_ q).lost
          · have R14 := F14.out
            rw [hlo] at R14
            simp only [Bool.false_eq_true, if_true, if_false] at R14
            have R14 := Lib.hid R14
            clear hlo
            have C := read_is (startD d2) OK3.out q b pv _ u61 H62.out
            rw [R14.out] at C
            have C := Lib.hid C
            go_wp2_with fail
            refine C.out.mono ?_
            rintro e u63 ⟨vb, rfl, hs⟩
            have H64 : Hid (Sep W (dI W.heap.size b pv wv57 (startD d2) ++ [rowB W.heap.size vr (restV (d2) q), rowB W.heap.size vb (readV (startD d2) q)]) u63) := hs
            clear hs H62 C
            have C := same_is (readV (startD d2) q) (restV d2 q) vb vr _ _ u63 (rowB_row (base := W.heap.size) H64.out (by simp)) (rowB_row (base := W.heap.size) H64.out (by simp))
            rw [F15.out] at C
            rw [decide_eq_true rfl] at C
            have C := Lib.hid C
            go_wp2_with fail
            refine C.out.mono ?_
            rintro e u65 ⟨rfl, hb⟩
            have hs := H64.out.call hb
            clear hb
            have H66 : Hid (Sep W (dI W.heap.size b pv wv57 (startD d2) ++ [rowB W.heap.size vr (restV (d2) q), rowB W.heap.size vb (readV (startD d2) q)]) u65) := hs
            clear hs H64 C
            go_wp2_with fail
            go_ret
            exact ⟨rfl, H66.out.below⟩
          · have R14 := F14.out
            rw [hlo] at R14
            simp only [if_true, if_false] at R14
            have R14 := Lib.hid R14
            clear hlo
            have C := read_is (startD d2) OK3.out q b pv _ u61 H62.out
            rw [R14.out] at C
            have C := Lib.hid C
            go_wp2_with fail
            refine C.out.mono ?_
            rintro e u67 ⟨vb, rfl, hs⟩
            have H68 : Hid (Sep W (dI W.heap.size b pv wv57 (startD d2) ++ [rowB W.heap.size vr (restV (d2) q), rowB W.heap.size vb (readV (startD d2) q)]) u67) := hs
            clear hs H62 C
            go_wp2_with fail
            go_ret
            exact ⟨rfl, H68.out.below⟩
  · rw [hg] at GR
    have GR := Lib.hid GR
    clear hg
    generalize L.length = M at *
    go_wp2_with fail
    refine GR.out.mono ?_
    rintro e u9 ⟨rfl, rfl⟩
    go_wp2_with fail
    go_ret
    exact ⟨rfl, S0.out.below⟩
end Di
end Go.Proofs.Ytnjejffbcgchlaa
