/- The law QueuePlays, walked. -/
import Derived.Test.YtinnpeonokdljaaQueuePlaysPlain
import Derived.Test.YtinnpeonokdljaaQueueAwake
import Derived.Deep.Cut
import Derived.Deep.CutRange
import Derived.Deep.CutBlock
set_option linter.unusedSimpArgs false
set_option linter.unusedVariables false
namespace Go.Proofs.Ytinnpeonokdljaa
open Go.RowKit

theorem Sep.assoc {w0 u : World} {a b c d : List It} (h : Sep w0 (a ++ ((b ++ c) ++ d)) u) : Sep w0 (a ++ (b ++ (c ++ d))) u := by rwa [List.append_assoc b c d] at h
theorem Sep.mrow {w0 u : World} {a b c d : List It} (h : Sep w0 (b ++ ((c ++ a) ++ d)) u) : Sep w0 (a ++ (b ++ (c ++ d))) u := by
  refine h.perm ?_
  have e1 : b ++ ((c ++ a) ++ d) = ((b ++ c) ++ a) ++ d := by simp
  have e2 : a ++ (b ++ (c ++ d)) = (a ++ (b ++ c)) ++ d := by simp
  rw [e1, e2]
  exact List.Perm.append_right d List.perm_append_comm
theorem Sep.cut2 {w0 u : World} {a b c : List It} (h : Sep w0 (a ++ (b ++ c)) u) : Sep w0 (a ++ (b ++ [])) u := h.sub (List.Sublist.append (List.Sublist.refl _) (List.Sublist.append (List.Sublist.refl _) (List.nil_sublist _)))

namespace Qu
open Qm

set_option maxRecDepth 100000 in
set_option maxHeartbeats 16000000 in
theorem queuePlays_is (n own : Int) (l : List Ac) (v : Value) (w : World) (hr : Row w w.heap.size v l.length (l.flatMap acC)) :
    Calls Try.prog 5 #[.int .i64 n, .int .i64 own, v] w fun e w' => e = .returned (.bool true) ∧ Below w.heap.size w w' := by
  obtain ⟨A, c, rfl, _, _⟩ := hr.slice
  have hbd := hr.bound
  have GR := great_any l _ _ w hr (Nat.le_refl _)
  have HR := Lib.hid hr
  clear hr
  cases hg : greatB l
  · rw [hg] at GR
    have GR := Lib.hid GR
    clear hg
    cases hm : madeB n own
    · have NB := Lib.hid (new_bad n own hm)
      have RB := Lib.hid (rnew_bad n own hm)
      clear hm
      go_enter Try.func5, Try.ntmps5
      go_wp2_with fail
      refine GR.out.mono ?_
      rintro e u0 ⟨rfl, hx⟩
      have HB := Lib.hid hx; clear hx
      go_wp2_with fail
      refine (NB.out _).mono ?_
      rintro e u1 ⟨rfl, rfl⟩
      go_wp2_with fail
      refine (RB.out _).mono ?_
      rintro e u1 ⟨rfl, rfl⟩
      go_wp2_with fail
      go_ret
      exact ⟨rfl, HB.out⟩
    · have hn7 : 3 ≤ n ∧ n ≤ 7 ∧ 0 ≤ own ∧ own < n := by
        unfold madeB at hm
        simp only [Bool.and_eq_true, decide_eq_true_eq] at hm
        rcases most_cases n with h | h | h | ⟨_, _, _, h⟩
        · omega
        · omega
        · omega
        · omega
      obtain ⟨hn3, hn7, ho0, hon⟩ := hn7
      have hn : n ≠ 0 := by omega
      have HMd := Lib.hid hm
      clear hm
      go_enter Try.func5, Try.ntmps5
      go_wp2_with fail
      refine GR.out.mono ?_
      rintro e u0 ⟨rfl, hx⟩
      have HB := Lib.hid hx; clear hx
      obtain ⟨g, hg⟩ : ∃ g, g = u0.heap.size := ⟨_, rfl⟩
      have HN := Lib.hid (new_sep n own HMd.out (Sep.start w HB.out))
      rw [← hg] at HN
      clear hg
      go_wp2_with fail
      refine HN.out.mono ?_
      rintro e u1 ⟨rfl, h⟩
      have HS1 := Lib.hid h; clear h HN
      go_wp2_with fail
      obtain ⟨gm, hgm⟩ : ∃ gm, gm = u1.heap.size := ⟨_, rfl⟩
      have HN := Lib.hid (rnew_sep n own HMd.out u1 HS1.out)
      rw [← hgm] at HN
      clear hgm
      refine HN.out.mono ?_
      rintro e u2 ⟨rfl, h⟩
      have HS2 := Lib.hid (Sep.rot (a := mI gm n own [] (.slice none 0 0)) (b := qI g n own [] (.slice none 0 0)) (c := []) h); clear h HN HS1
      go_wp2_with fail
      go_loopw [10] (fun iv wr => ∃ (k : Nat) (L : List Wt) (v y : Value), k ≤ l.length ∧ iv = .int .i64 k ∧ Good L ∧ Sep w (qI g n own L v ++ (mI gm n own (L.map toEn) y ++ [])) wr) (fun iv _ => l.length - (intOf iv).toNat)
      case atStart => exact ⟨0, [], _, _, Nat.zero_le _, rfl, Good.nil, HS2.out⟩
      case round =>
        obtain ⟨k, L, v, y, hk, rfl, hG, hsep⟩ := hrel
        by_cases hlt : k < l.length
        · have h2 := HR.out
          obtain ⟨b2, o2, rfl, hb2, hx2⟩ := h2.elem acC_len (by omega) hlt
          have hy : ∀ j x, (acC l[k])[j]? = some x → wr.cell? ⟨b2, o2 + k * 9 + j, none⟩ = some x := fun j x h => by
            rw [Nat.add_assoc]; exact (hsep.below.cell (p := ⟨b2, o2 + (k * 9 + j), none⟩) hb2).trans (hx2 j x h)
          have y0 := hy 0 _ rfl
          have y1 := hy 1 _ rfl
          have y2 := hy 2 _ rfl
          have y3 := hy 3 _ rfl
          have y4 := hy 4 _ rfl
          have y5 := hy 5 _ rfl
          have y6 := hy 6 _ rfl
          have y7 := hy 7 _ rfl
          have y8 := hy 8 _ rfl
          simp only [Nat.add_zero] at y0
          clear hx2 h2 hy HS2
          generalize l[k] = x at *
          obtain ⟨ak, ⟨am, aq, ⟨ok, oa, ob, oc⟩⟩, an, ai⟩ := x
          dsimp only at y0 y1 y2 y3 y4 y5 y6 y7 y8
          have hk0 : (0 : Int) ≤ (k : Int) := by omega
          have hk1 : (k : Int) < (l.length : Int) := by omega
          obtain ⟨q, hq, hq8⟩ : ∃ q : Nat, (ak : Int).tmod 8 = (q : Int) ∧ q < 8 := ⟨ak % 8, by rw [Int.tmod_eq_emod_of_nonneg (by omega)]; omega, by omega⟩
          have HG := Lib.hid hG
          obtain ⟨W, hW⟩ : ∃ W : World, W = wr.alloc (.cells #[.int .u8 (ak : Nat), .int .i64 am, .int .i64 aq, .int .u8 (ok : Nat), .string oa, .string ob, .string oc, .int .i64 an, .int .i64 ai] 28) := ⟨_, rfl⟩
          have HS : Hid (Sep w (qI g n own L v ++ (mI gm n own (L.map toEn) y ++ [.box wr.heap.size 28 [.int .u8 (ak : Nat), .int .i64 am, .int .i64 aq, .int .u8 (ok : Nat), .string oa, .string ob, .string oc, .int .i64 an, .int .i64 ai]])) W) := by rw [hW]; exact (hsep.alloc 28 [.int .u8 (ak : Nat), .int .i64 am, .int .i64 aq, .int .u8 (ok : Nat), .string oa, .string ob, .string oc, .int .i64 an, .int .i64 ai]).perm (to_end _ (qI g n own L v) (mI gm n own (L.map toEn) y ++ []))
          have hlm : (L.map toEn).length ≤ 8 := by rw [List.length_map]; exact hG.ok.len
          clear hsep hG
          go_upto_block 2 with fail
          rw [← hW]
          clear hW y0 y1 y2 y3 y4 y5 y6 y7 y8
          clear hq
          go_cut [12, 13, 14, 15, 16, 17, 18, 19] from 47 to 199 (fun _ _ _ _ _ _ _ _ wx => ∃ (L' : List Wt) (v' y' : Value), Good L' ∧ Sep w (qI g n own L' v' ++ (mI gm n own (L'.map toEn) y' ++ [])) wx)
          case first =>
            have hbx : Whole W wr.heap.size 28 [.int .u8 (ak : Nat), .int .i64 am, .int .i64 aq, .int .u8 (ok : Nat), .string oa, .string ob, .string oc, .int .i64 an, .int .i64 ai] := HS.out.right.right.head
            have b0 := hbx.cell 0; have b1 := hbx.cell 1; have b2 := hbx.cell 2; have b3 := hbx.cell 3; have b4 := hbx.cell 4; have b5 := hbx.cell 5; have b6 := hbx.cell 6; have b7 := hbx.cell 7; have b8 := hbx.cell 8
            simp only [List.getElem?_cons_zero, List.getElem?_cons_succ] at b0 b1 b2 b3 b4 b5 b6 b7 b8
            have hbl := hbx.lt
            clear hbx
            have hqs : q = 0 ∨ q = 1 ∨ q = 2 ∨ q = 3 ∨ q = 4 ∨ q = 5 ∨ q = 6 ∨ q = 7 := by omega
            clear hq8
            rcases hqs with rfl | rfl | rfl | rfl | rfl | rfl | rfl | rfl
            · go_wp2_with fail
              refine (write_sep HS.out hn HG.out.ok am aq ok oa ob oc).mono ?_
              rintro e u1 h
              obtain ⟨⟨f, z, L1⟩, hP⟩ : ∃ P : Bool × Int × List Wt, P = putR own (!readsB ⟨ok, oa, ob, oc⟩) L ⟨am, aq, ⟨ok, oa, ob, oc⟩⟩ 0 0 := ⟨_, rfl⟩
              obtain ⟨he, _, v1, h1⟩ := h _ hP
              have hG1 : Good L1 := by have := HG.out.push (own := own) (right := !readsB ⟨ok, oa, ob, oc⟩) (r := ⟨am, aq, ⟨ok, oa, ob, oc⟩⟩) (nn := 0) (ix := 0) (fun h => write_kind h); rw [← hP] at this; exact this
              have hE := write_eq (own := own) HG.out.ok.len ⟨am, aq, ⟨ok, oa, ob, oc⟩⟩
              dsimp only at hE he h1
              rw [← hP] at hE
              subst he
              have HS1 := Lib.hid h1.rot
              have HG1 := Lib.hid hG1
              have HE := Lib.hid hE
              clear h h1 hP hG1 hE HS b0 b1 b2 b3 b4 b5 b6 b7 b8 hbl
              have hbx : Whole u1 wr.heap.size 28 [.int .u8 (ak : Nat), .int .i64 am, .int .i64 aq, .int .u8 (ok : Nat), .string oa, .string ob, .string oc, .int .i64 an, .int .i64 ai] := HS1.out.right.left.head
              have b0 := hbx.cell 0; have b1 := hbx.cell 1; have b2 := hbx.cell 2; have b3 := hbx.cell 3; have b4 := hbx.cell 4; have b5 := hbx.cell 5; have b6 := hbx.cell 6; have b7 := hbx.cell 7; have b8 := hbx.cell 8
              simp only [List.getElem?_cons_zero, List.getElem?_cons_succ] at b0 b1 b2 b3 b4 b5 b6 b7 b8
              have hbl := hbx.lt
              clear hbx
              go_wp2_with fail
              refine (rwrite_sep HS1.out hlm am aq ok oa ob oc).mono ?_
              rintro e u2 h
              obtain ⟨he, y2, h2⟩ := h _ HE.out
              dsimp only at he h2
              subst he
              have HS2 := Lib.hid h2.rot.rot.cut2
              clear h h2 HS1 HE b0 b1 b2 b3 b4 b5 b6 b7 b8 hbl
              go_wp2_with fail
              go_meet
              exact ⟨_, _, _, HG1.out, HS2.out⟩
            · go_wp2_with fail
              refine (write_sep HS.out hn HG.out.ok am aq ok oa ob oc).mono ?_
              rintro e u1 h
              obtain ⟨⟨f, z, L1⟩, hP⟩ : ∃ P : Bool × Int × List Wt, P = putR own (!readsB ⟨ok, oa, ob, oc⟩) L ⟨am, aq, ⟨ok, oa, ob, oc⟩⟩ 0 0 := ⟨_, rfl⟩
              obtain ⟨he, _, v1, h1⟩ := h _ hP
              have hG1 : Good L1 := by have := HG.out.push (own := own) (right := !readsB ⟨ok, oa, ob, oc⟩) (r := ⟨am, aq, ⟨ok, oa, ob, oc⟩⟩) (nn := 0) (ix := 0) (fun h => write_kind h); rw [← hP] at this; exact this
              have hE := write_eq (own := own) HG.out.ok.len ⟨am, aq, ⟨ok, oa, ob, oc⟩⟩
              dsimp only at hE he h1
              rw [← hP] at hE
              subst he
              have HS1 := Lib.hid h1.rot
              have HG1 := Lib.hid hG1
              have HE := Lib.hid hE
              clear h h1 hP hG1 hE HS b0 b1 b2 b3 b4 b5 b6 b7 b8 hbl
              have hbx : Whole u1 wr.heap.size 28 [.int .u8 (ak : Nat), .int .i64 am, .int .i64 aq, .int .u8 (ok : Nat), .string oa, .string ob, .string oc, .int .i64 an, .int .i64 ai] := HS1.out.right.left.head
              have b0 := hbx.cell 0; have b1 := hbx.cell 1; have b2 := hbx.cell 2; have b3 := hbx.cell 3; have b4 := hbx.cell 4; have b5 := hbx.cell 5; have b6 := hbx.cell 6; have b7 := hbx.cell 7; have b8 := hbx.cell 8
              simp only [List.getElem?_cons_zero, List.getElem?_cons_succ] at b0 b1 b2 b3 b4 b5 b6 b7 b8
              have hbl := hbx.lt
              clear hbx
              go_wp2_with fail
              refine (rwrite_sep HS1.out hlm am aq ok oa ob oc).mono ?_
              rintro e u2 h
              obtain ⟨he, y2, h2⟩ := h _ HE.out
              dsimp only at he h2
              subst he
              have HS2 := Lib.hid h2.rot.rot.cut2
              clear h h2 HS1 HE b0 b1 b2 b3 b4 b5 b6 b7 b8 hbl
              go_wp2_with fail
              go_meet
              exact ⟨_, _, _, HG1.out, HS2.out⟩
            · go_wp2_with fail
              refine (read_sep HS.out hn HG.out.ok am aq ok oa ob oc an ai).mono ?_
              rintro e u1 h
              obtain ⟨⟨f, z, L1⟩, hP⟩ : ∃ P : Bool × Int × List Wt, P = putR own (readsB ⟨ok, oa, ob, oc⟩ && numB 1 an && numB 0 ai) L ⟨am, aq, ⟨ok, oa, ob, oc⟩⟩ an ai := ⟨_, rfl⟩
              obtain ⟨he, _, v1, h1⟩ := h _ hP
              have hG1 : Good L1 := by have := HG.out.push (own := own) (right := readsB ⟨ok, oa, ob, oc⟩ && numB 1 an && numB 0 ai) (r := ⟨am, aq, ⟨ok, oa, ob, oc⟩⟩) (nn := an) (ix := ai) (fun h => read_kind h); rw [← hP] at this; exact this
              have hE := read_eq (own := own) HG.out.ok.len ⟨am, aq, ⟨ok, oa, ob, oc⟩⟩ an ai
              dsimp only at hE he h1
              rw [← hP] at hE
              subst he
              have HS1 := Lib.hid h1.rot
              have HG1 := Lib.hid hG1
              have HE := Lib.hid hE
              clear h h1 hP hG1 hE HS b0 b1 b2 b3 b4 b5 b6 b7 b8 hbl
              have hbx : Whole u1 wr.heap.size 28 [.int .u8 (ak : Nat), .int .i64 am, .int .i64 aq, .int .u8 (ok : Nat), .string oa, .string ob, .string oc, .int .i64 an, .int .i64 ai] := HS1.out.right.left.head
              have b0 := hbx.cell 0; have b1 := hbx.cell 1; have b2 := hbx.cell 2; have b3 := hbx.cell 3; have b4 := hbx.cell 4; have b5 := hbx.cell 5; have b6 := hbx.cell 6; have b7 := hbx.cell 7; have b8 := hbx.cell 8
              simp only [List.getElem?_cons_zero, List.getElem?_cons_succ] at b0 b1 b2 b3 b4 b5 b6 b7 b8
              have hbl := hbx.lt
              clear hbx
              go_wp2_with fail
              refine (rread_sep HS1.out hlm am aq ok oa ob oc an ai ho0 (by omega)).mono ?_
              rintro e u2 h
              obtain ⟨he, y2, h2⟩ := h _ HE.out
              dsimp only at he h2
              subst he
              have HS2 := Lib.hid h2.rot.rot.cut2
              clear h h2 HS1 HE b0 b1 b2 b3 b4 b5 b6 b7 b8 hbl
              go_wp2_with fail
              go_meet
              exact ⟨_, _, _, HG1.out, HS2.out⟩
            · go_wp2_with fail
              refine (read_sep HS.out hn HG.out.ok am aq ok oa ob oc an ai).mono ?_
              rintro e u1 h
              obtain ⟨⟨f, z, L1⟩, hP⟩ : ∃ P : Bool × Int × List Wt, P = putR own (readsB ⟨ok, oa, ob, oc⟩ && numB 1 an && numB 0 ai) L ⟨am, aq, ⟨ok, oa, ob, oc⟩⟩ an ai := ⟨_, rfl⟩
              obtain ⟨he, _, v1, h1⟩ := h _ hP
              have hG1 : Good L1 := by have := HG.out.push (own := own) (right := readsB ⟨ok, oa, ob, oc⟩ && numB 1 an && numB 0 ai) (r := ⟨am, aq, ⟨ok, oa, ob, oc⟩⟩) (nn := an) (ix := ai) (fun h => read_kind h); rw [← hP] at this; exact this
              have hE := read_eq (own := own) HG.out.ok.len ⟨am, aq, ⟨ok, oa, ob, oc⟩⟩ an ai
              dsimp only at hE he h1
              rw [← hP] at hE
              subst he
              have HS1 := Lib.hid h1.rot
              have HG1 := Lib.hid hG1
              have HE := Lib.hid hE
              clear h h1 hP hG1 hE HS b0 b1 b2 b3 b4 b5 b6 b7 b8 hbl
              have hbx : Whole u1 wr.heap.size 28 [.int .u8 (ak : Nat), .int .i64 am, .int .i64 aq, .int .u8 (ok : Nat), .string oa, .string ob, .string oc, .int .i64 an, .int .i64 ai] := HS1.out.right.left.head
              have b0 := hbx.cell 0; have b1 := hbx.cell 1; have b2 := hbx.cell 2; have b3 := hbx.cell 3; have b4 := hbx.cell 4; have b5 := hbx.cell 5; have b6 := hbx.cell 6; have b7 := hbx.cell 7; have b8 := hbx.cell 8
              simp only [List.getElem?_cons_zero, List.getElem?_cons_succ] at b0 b1 b2 b3 b4 b5 b6 b7 b8
              have hbl := hbx.lt
              clear hbx
              go_wp2_with fail
              refine (rread_sep HS1.out hlm am aq ok oa ob oc an ai ho0 (by omega)).mono ?_
              rintro e u2 h
              obtain ⟨he, y2, h2⟩ := h _ HE.out
              dsimp only at he h2
              subst he
              have HS2 := Lib.hid h2.rot.rot.cut2
              clear h h2 HS1 HE b0 b1 b2 b3 b4 b5 b6 b7 b8 hbl
              go_wp2_with fail
              go_meet
              exact ⟨_, _, _, HG1.out, HS2.out⟩
            · go_upto_region 30 with fail
              have SOF : Hid (∀ u : World, Hid (∃ (L1 : List Wt) (M1 : List En) (v1 y1 : Value) (X : List It), Sep w (qI g n own L1 v1 ++ (mI gm n own M1 y1 ++ (.box wr.heap.size 28 [.int .u8 (ak : Nat), .int .i64 am, .int .i64 aq, .int .u8 (ok : Nat), .string oa, .string ob, .string oc, .int .i64 an, .int .i64 ai] :: X))) u) → (fun u : World => (u.cell? ⟨wr.heap.size, 0, none⟩ = some (.int .u8 (ak : Nat)) ∧ u.cell? ⟨wr.heap.size, 1, none⟩ = some (.int .i64 am) ∧ u.cell? ⟨wr.heap.size, 2, none⟩ = some (.int .i64 aq) ∧ u.cell? ⟨wr.heap.size, 3, none⟩ = some (.int .u8 (ok : Nat)) ∧ u.cell? ⟨wr.heap.size, 4, none⟩ = some (.string oa) ∧ u.cell? ⟨wr.heap.size, 5, none⟩ = some (.string ob) ∧ u.cell? ⟨wr.heap.size, 6, none⟩ = some (.string oc) ∧ u.cell? ⟨wr.heap.size, 7, none⟩ = some (.int .i64 an) ∧ u.cell? ⟨wr.heap.size, 8, none⟩ = some (.int .i64 ai)) ∧ Hid (∃ (L1 : List Wt) (M1 : List En) (v1 y1 : Value) (X : List It), Sep w (qI g n own L1 v1 ++ (mI gm n own M1 y1 ++ (.box wr.heap.size 28 [.int .u8 (ak : Nat), .int .i64 am, .int .i64 aq, .int .u8 (ok : Nat), .string oa, .string ob, .string oc, .int .i64 an, .int .i64 ai] :: X))) u)) u) := fun u h => by
                obtain ⟨L1, M1, v1, y1, X, hs⟩ := h.out
                have hbx : Whole u wr.heap.size 28 [.int .u8 (ak : Nat), .int .i64 am, .int .i64 aq, .int .u8 (ok : Nat), .string oa, .string ob, .string oc, .int .i64 an, .int .i64 ai] := hs.right.right.head
                exact ⟨⟨hbx.cell 0, hbx.cell 1, hbx.cell 2, hbx.cell 3, hbx.cell 4, hbx.cell 5, hbx.cell 6, hbx.cell 7, hbx.cell 8⟩, h⟩
              have HSD := Lib.hid HS.out.drew
              clear HS b0 b1 b2 b3 b4 b5 b6 b7 b8 hbl
              refine wp_region_held_drew (S := (fun u : World => (u.cell? ⟨wr.heap.size, 0, none⟩ = some (.int .u8 (ak : Nat)) ∧ u.cell? ⟨wr.heap.size, 1, none⟩ = some (.int .i64 am) ∧ u.cell? ⟨wr.heap.size, 2, none⟩ = some (.int .i64 aq) ∧ u.cell? ⟨wr.heap.size, 3, none⟩ = some (.int .u8 (ok : Nat)) ∧ u.cell? ⟨wr.heap.size, 4, none⟩ = some (.string oa) ∧ u.cell? ⟨wr.heap.size, 5, none⟩ = some (.string ob) ∧ u.cell? ⟨wr.heap.size, 6, none⟩ = some (.string oc) ∧ u.cell? ⟨wr.heap.size, 7, none⟩ = some (.int .i64 an) ∧ u.cell? ⟨wr.heap.size, 8, none⟩ = some (.int .i64 ai)) ∧ Hid (∃ (L1 : List Wt) (M1 : List En) (v1 y1 : Value) (X : List It), Sep w (qI g n own L1 v1 ++ (mI gm n own M1 y1 ++ (.box wr.heap.size 28 [.int .u8 (ak : Nat), .int .i64 am, .int .i64 aq, .int .u8 (ok : Nat), .string oa, .string ob, .string oc, .int .i64 an, .int .i64 ai] :: X))) u))) (by kernel_rfl) (SOF.out _ (Lib.hid ⟨_, _, _, _, [], HSD.out⟩)) (fun HS => ?_)
              refine handTake 0 (some 131) ?_ rfl rfl (by kernel_rfl) (by kernel_rfl) (by kernel_rfl) (fun _ _ _ h => h) (by rfl) ?_ HS ?_
              rotate_left
              · (intro u hu; (try dsimp only at hu); go_simp; try with_reducible rfl)
              simp only [Act.put, List.setIfInBounds_toArray, List.set_cons_zero, List.set_cons_succ]
              refine handTake 1 (some 132) ?_ rfl rfl (by kernel_rfl) (by kernel_rfl) (by kernel_rfl) (fun _ _ _ h => h) (by rfl) ?_ HS ?_
              rotate_left
              · (intro u hu; (try dsimp only at hu); go_simp; try with_reducible rfl)
              simp only [Act.put, List.setIfInBounds_toArray, List.set_cons_zero, List.set_cons_succ]
              refine handTake 2 (some 133) ?_ rfl rfl (by kernel_rfl) (by kernel_rfl) (by kernel_rfl) (fun _ _ _ h => h) (by rfl) ?_ HS ?_
              rotate_left
              · (intro u hu; (try dsimp only at hu); go_simp; try with_reducible rfl)
              simp only [Act.put, List.setIfInBounds_toArray, List.set_cons_zero, List.set_cons_succ]
              refine handTake 3 (some 134) ?_ rfl rfl (by kernel_rfl) (by kernel_rfl) (by kernel_rfl) (fun _ _ _ h => h) (by rfl) ?_ HS ?_
              rotate_left
              · (intro u hu; (try dsimp only at hu); go_simp; try with_reducible rfl)
              simp only [Act.put, List.setIfInBounds_toArray, List.set_cons_zero, List.set_cons_succ]
              refine handTake 4 (some 135) ?_ rfl rfl (by kernel_rfl) (by kernel_rfl) (by kernel_rfl) (fun _ _ _ h => h) (by rfl) ?_ HS ?_
              rotate_left
              · (intro u hu; (try dsimp only at hu); go_simp; try with_reducible rfl)
              simp only [Act.put, List.setIfInBounds_toArray, List.set_cons_zero, List.set_cons_succ]
              refine handTake 5 (some 136) ?_ rfl rfl (by kernel_rfl) (by kernel_rfl) (by kernel_rfl) (fun _ _ _ h => h) (by rfl) ?_ HS ?_
              rotate_left
              · (intro u hu; (try dsimp only at hu); go_simp; try with_reducible rfl)
              simp only [Act.put, List.setIfInBounds_toArray, List.set_cons_zero, List.set_cons_succ]
              refine handTake 7 (some 138) ?_ rfl rfl (by kernel_rfl) (by kernel_rfl) (by kernel_rfl) (fun _ _ _ h => h) (by rfl) ?_ HS ?_
              rotate_left
              · (intro u hu; (try dsimp only at hu); go_simp; try with_reducible rfl)
              simp only [Act.put, List.setIfInBounds_toArray, List.set_cons_zero, List.set_cons_succ]
              refine handTake 8 (some 139) ?_ rfl rfl (by kernel_rfl) (by kernel_rfl) (by kernel_rfl) (fun _ _ _ h => h) (by rfl) ?_ HS ?_
              rotate_left
              · (intro u hu; (try dsimp only at hu); go_simp; try with_reducible rfl)
              simp only [Act.put, List.setIfInBounds_toArray, List.set_cons_zero, List.set_cons_succ]
              refine handTake 9 (some 140) ?_ rfl rfl (by kernel_rfl) (by kernel_rfl) (by kernel_rfl) (fun _ _ _ h => h) (by rfl) ?_ HS ?_
              rotate_left
              · (intro u hu; (try dsimp only at hu); go_simp; try with_reducible rfl)
              simp only [Act.put, List.setIfInBounds_toArray, List.set_cons_zero, List.set_cons_succ]
              refine handTake 10 (some 141) ?_ rfl rfl (by kernel_rfl) (by kernel_rfl) (by kernel_rfl) (fun _ _ _ h => h) (by rfl) ?_ HS ?_
              rotate_left
              · (intro u hu; (try dsimp only at hu); go_simp; try with_reducible rfl)
              simp only [Act.put, List.setIfInBounds_toArray, List.set_cons_zero, List.set_cons_succ]
              refine handTake 11 (some 142) ?_ rfl rfl (by kernel_rfl) (by kernel_rfl) (by kernel_rfl) (fun _ _ _ h => h) (by rfl) ?_ HS ?_
              rotate_left
              · (intro u hu; (try dsimp only at hu); go_simp; try with_reducible rfl)
              simp only [Act.put, List.setIfInBounds_toArray, List.set_cons_zero, List.set_cons_succ]
              refine handTake 12 (some 143) ?_ rfl rfl (by kernel_rfl) (by kernel_rfl) (by kernel_rfl) (fun _ _ _ h => h) (by rfl) ?_ HS ?_
              rotate_left
              · (intro u hu; (try dsimp only at hu); go_simp; try with_reducible rfl)
              simp only [Act.put, List.setIfInBounds_toArray, List.set_cons_zero, List.set_cons_succ]
              refine wpAnyH_ready (rs := [6]) (by kernel_rfl) (by simp) ?_
              refine AllReadyH.cons rfl (fun K hK => ?_) AllReadyH.nil
              go_simp
              clear HS
              refine (answer_sep HSD.out hn HG.out.ok an aq).mono ?_
              rintro e u1 ⟨rfl, v1, h⟩
              have HC1 := Lib.hid h
              clear h HSD
              go_wp2_with fail
              refine hK.out _ _ (SOF.out _ (Lib.hid ⟨_, _, _, _, _, HC1.out⟩)) (fun HS => ?_)
              clear hK
              try simp only [Act.put, List.setIfInBounds_toArray, List.set_cons_zero, List.set_cons_succ]
              refine wpAnyH_ready (rs := [13]) (by kernel_rfl) (by simp) ?_
              refine AllReadyH.cons rfl (fun K hK => ?_) AllReadyH.nil
              go_simp
              clear HS
              refine (ranswer_sep gm n own (L.map toEn) _ an aq _ HC1.out.rot (by omega) hn7 (en_sets HG.out.ok.sets)).mono ?_
              rintro e u2 ⟨rfl, y2, h⟩
              rw [ans_eq] at h ⊢
              have HC2 := Lib.hid h.rot.rot
              clear h HC1
              go_wp2_with fail
              refine hK.out _ _ (SOF.out _ (Lib.hid ⟨_, _, _, _, _, HC2.out⟩)) (fun HS => ?_)
              clear hK
              try simp only [Act.put, List.setIfInBounds_toArray, List.set_cons_zero, List.set_cons_succ]
              refine handTake 14 (some 145) ?_ rfl rfl (by kernel_rfl) (by kernel_rfl) (by kernel_rfl) (fun _ _ _ h => h) (by rfl) ?_ HS ?_
              rotate_left
              · (intro u hu; (try dsimp only at hu); go_simp; try with_reducible rfl)
              simp only [Act.put, List.setIfInBounds_toArray, List.set_cons_zero, List.set_cons_succ]
              refine wpAnyH_done (by kernel_rfl) ?_ _
              clear HS SOF
              have HFin := Lib.hid (HC2.out.cut2)
              go_wp2_with fail
              go_meet
              exact ⟨_, _, _, HG.out.ans n an aq, HFin.out⟩
            · go_upto_region 30 with fail
              have SOF : Hid (∀ u : World, Hid (∃ (L1 : List Wt) (M1 : List En) (v1 y1 : Value) (X : List It), Sep w (qI g n own L1 v1 ++ (mI gm n own M1 y1 ++ (.box wr.heap.size 28 [.int .u8 (ak : Nat), .int .i64 am, .int .i64 aq, .int .u8 (ok : Nat), .string oa, .string ob, .string oc, .int .i64 an, .int .i64 ai] :: X))) u) → (fun u : World => (u.cell? ⟨wr.heap.size, 0, none⟩ = some (.int .u8 (ak : Nat)) ∧ u.cell? ⟨wr.heap.size, 1, none⟩ = some (.int .i64 am) ∧ u.cell? ⟨wr.heap.size, 2, none⟩ = some (.int .i64 aq) ∧ u.cell? ⟨wr.heap.size, 3, none⟩ = some (.int .u8 (ok : Nat)) ∧ u.cell? ⟨wr.heap.size, 4, none⟩ = some (.string oa) ∧ u.cell? ⟨wr.heap.size, 5, none⟩ = some (.string ob) ∧ u.cell? ⟨wr.heap.size, 6, none⟩ = some (.string oc) ∧ u.cell? ⟨wr.heap.size, 7, none⟩ = some (.int .i64 an) ∧ u.cell? ⟨wr.heap.size, 8, none⟩ = some (.int .i64 ai)) ∧ Hid (∃ (L1 : List Wt) (M1 : List En) (v1 y1 : Value) (X : List It), Sep w (qI g n own L1 v1 ++ (mI gm n own M1 y1 ++ (.box wr.heap.size 28 [.int .u8 (ak : Nat), .int .i64 am, .int .i64 aq, .int .u8 (ok : Nat), .string oa, .string ob, .string oc, .int .i64 an, .int .i64 ai] :: X))) u)) u) := fun u h => by
                obtain ⟨L1, M1, v1, y1, X, hs⟩ := h.out
                have hbx : Whole u wr.heap.size 28 [.int .u8 (ak : Nat), .int .i64 am, .int .i64 aq, .int .u8 (ok : Nat), .string oa, .string ob, .string oc, .int .i64 an, .int .i64 ai] := hs.right.right.head
                exact ⟨⟨hbx.cell 0, hbx.cell 1, hbx.cell 2, hbx.cell 3, hbx.cell 4, hbx.cell 5, hbx.cell 6, hbx.cell 7, hbx.cell 8⟩, h⟩
              have HSD := Lib.hid HS.out.drew
              clear HS b0 b1 b2 b3 b4 b5 b6 b7 b8 hbl
              refine wp_region_held_drew (S := (fun u : World => (u.cell? ⟨wr.heap.size, 0, none⟩ = some (.int .u8 (ak : Nat)) ∧ u.cell? ⟨wr.heap.size, 1, none⟩ = some (.int .i64 am) ∧ u.cell? ⟨wr.heap.size, 2, none⟩ = some (.int .i64 aq) ∧ u.cell? ⟨wr.heap.size, 3, none⟩ = some (.int .u8 (ok : Nat)) ∧ u.cell? ⟨wr.heap.size, 4, none⟩ = some (.string oa) ∧ u.cell? ⟨wr.heap.size, 5, none⟩ = some (.string ob) ∧ u.cell? ⟨wr.heap.size, 6, none⟩ = some (.string oc) ∧ u.cell? ⟨wr.heap.size, 7, none⟩ = some (.int .i64 an) ∧ u.cell? ⟨wr.heap.size, 8, none⟩ = some (.int .i64 ai)) ∧ Hid (∃ (L1 : List Wt) (M1 : List En) (v1 y1 : Value) (X : List It), Sep w (qI g n own L1 v1 ++ (mI gm n own M1 y1 ++ (.box wr.heap.size 28 [.int .u8 (ak : Nat), .int .i64 am, .int .i64 aq, .int .u8 (ok : Nat), .string oa, .string ob, .string oc, .int .i64 an, .int .i64 ai] :: X))) u))) (by kernel_rfl) (SOF.out _ (Lib.hid ⟨_, _, _, _, [], HSD.out⟩)) (fun HS => ?_)
              refine handTake 0 (some 131) ?_ rfl rfl (by kernel_rfl) (by kernel_rfl) (by kernel_rfl) (fun _ _ _ h => h) (by rfl) ?_ HS ?_
              rotate_left
              · (intro u hu; (try dsimp only at hu); go_simp; try with_reducible rfl)
              simp only [Act.put, List.setIfInBounds_toArray, List.set_cons_zero, List.set_cons_succ]
              refine handTake 1 (some 132) ?_ rfl rfl (by kernel_rfl) (by kernel_rfl) (by kernel_rfl) (fun _ _ _ h => h) (by rfl) ?_ HS ?_
              rotate_left
              · (intro u hu; (try dsimp only at hu); go_simp; try with_reducible rfl)
              simp only [Act.put, List.setIfInBounds_toArray, List.set_cons_zero, List.set_cons_succ]
              refine handTake 2 (some 133) ?_ rfl rfl (by kernel_rfl) (by kernel_rfl) (by kernel_rfl) (fun _ _ _ h => h) (by rfl) ?_ HS ?_
              rotate_left
              · (intro u hu; (try dsimp only at hu); go_simp; try with_reducible rfl)
              simp only [Act.put, List.setIfInBounds_toArray, List.set_cons_zero, List.set_cons_succ]
              refine handTake 3 (some 134) ?_ rfl rfl (by kernel_rfl) (by kernel_rfl) (by kernel_rfl) (fun _ _ _ h => h) (by rfl) ?_ HS ?_
              rotate_left
              · (intro u hu; (try dsimp only at hu); go_simp; try with_reducible rfl)
              simp only [Act.put, List.setIfInBounds_toArray, List.set_cons_zero, List.set_cons_succ]
              refine handTake 4 (some 135) ?_ rfl rfl (by kernel_rfl) (by kernel_rfl) (by kernel_rfl) (fun _ _ _ h => h) (by rfl) ?_ HS ?_
              rotate_left
              · (intro u hu; (try dsimp only at hu); go_simp; try with_reducible rfl)
              simp only [Act.put, List.setIfInBounds_toArray, List.set_cons_zero, List.set_cons_succ]
              refine handTake 5 (some 136) ?_ rfl rfl (by kernel_rfl) (by kernel_rfl) (by kernel_rfl) (fun _ _ _ h => h) (by rfl) ?_ HS ?_
              rotate_left
              · (intro u hu; (try dsimp only at hu); go_simp; try with_reducible rfl)
              simp only [Act.put, List.setIfInBounds_toArray, List.set_cons_zero, List.set_cons_succ]
              refine handTake 7 (some 138) ?_ rfl rfl (by kernel_rfl) (by kernel_rfl) (by kernel_rfl) (fun _ _ _ h => h) (by rfl) ?_ HS ?_
              rotate_left
              · (intro u hu; (try dsimp only at hu); go_simp; try with_reducible rfl)
              simp only [Act.put, List.setIfInBounds_toArray, List.set_cons_zero, List.set_cons_succ]
              refine handTake 8 (some 139) ?_ rfl rfl (by kernel_rfl) (by kernel_rfl) (by kernel_rfl) (fun _ _ _ h => h) (by rfl) ?_ HS ?_
              rotate_left
              · (intro u hu; (try dsimp only at hu); go_simp; try with_reducible rfl)
              simp only [Act.put, List.setIfInBounds_toArray, List.set_cons_zero, List.set_cons_succ]
              refine handTake 9 (some 140) ?_ rfl rfl (by kernel_rfl) (by kernel_rfl) (by kernel_rfl) (fun _ _ _ h => h) (by rfl) ?_ HS ?_
              rotate_left
              · (intro u hu; (try dsimp only at hu); go_simp; try with_reducible rfl)
              simp only [Act.put, List.setIfInBounds_toArray, List.set_cons_zero, List.set_cons_succ]
              refine handTake 10 (some 141) ?_ rfl rfl (by kernel_rfl) (by kernel_rfl) (by kernel_rfl) (fun _ _ _ h => h) (by rfl) ?_ HS ?_
              rotate_left
              · (intro u hu; (try dsimp only at hu); go_simp; try with_reducible rfl)
              simp only [Act.put, List.setIfInBounds_toArray, List.set_cons_zero, List.set_cons_succ]
              refine handTake 11 (some 142) ?_ rfl rfl (by kernel_rfl) (by kernel_rfl) (by kernel_rfl) (fun _ _ _ h => h) (by rfl) ?_ HS ?_
              rotate_left
              · (intro u hu; (try dsimp only at hu); go_simp; try with_reducible rfl)
              simp only [Act.put, List.setIfInBounds_toArray, List.set_cons_zero, List.set_cons_succ]
              refine handTake 12 (some 143) ?_ rfl rfl (by kernel_rfl) (by kernel_rfl) (by kernel_rfl) (fun _ _ _ h => h) (by rfl) ?_ HS ?_
              rotate_left
              · (intro u hu; (try dsimp only at hu); go_simp; try with_reducible rfl)
              simp only [Act.put, List.setIfInBounds_toArray, List.set_cons_zero, List.set_cons_succ]
              refine wpAnyH_ready (rs := [6]) (by kernel_rfl) (by simp) ?_
              refine AllReadyH.cons rfl (fun K hK => ?_) AllReadyH.nil
              go_simp
              clear HS
              refine (answer_sep HSD.out hn HG.out.ok an aq).mono ?_
              rintro e u1 ⟨rfl, v1, h⟩
              have HC1 := Lib.hid h
              clear h HSD
              go_wp2_with fail
              refine hK.out _ _ (SOF.out _ (Lib.hid ⟨_, _, _, _, _, HC1.out⟩)) (fun HS => ?_)
              clear hK
              try simp only [Act.put, List.setIfInBounds_toArray, List.set_cons_zero, List.set_cons_succ]
              refine wpAnyH_ready (rs := [13]) (by kernel_rfl) (by simp) ?_
              refine AllReadyH.cons rfl (fun K hK => ?_) AllReadyH.nil
              go_simp
              clear HS
              refine (ranswer_sep gm n own (L.map toEn) _ an aq _ HC1.out.rot (by omega) hn7 (en_sets HG.out.ok.sets)).mono ?_
              rintro e u2 ⟨rfl, y2, h⟩
              rw [ans_eq] at h ⊢
              have HC2 := Lib.hid h.rot.rot
              clear h HC1
              go_wp2_with fail
              refine hK.out _ _ (SOF.out _ (Lib.hid ⟨_, _, _, _, _, HC2.out⟩)) (fun HS => ?_)
              clear hK
              try simp only [Act.put, List.setIfInBounds_toArray, List.set_cons_zero, List.set_cons_succ]
              refine handTake 14 (some 145) ?_ rfl rfl (by kernel_rfl) (by kernel_rfl) (by kernel_rfl) (fun _ _ _ h => h) (by rfl) ?_ HS ?_
              rotate_left
              · (intro u hu; (try dsimp only at hu); go_simp; try with_reducible rfl)
              simp only [Act.put, List.setIfInBounds_toArray, List.set_cons_zero, List.set_cons_succ]
              refine wpAnyH_done (by kernel_rfl) ?_ _
              clear HS SOF
              have HFin := Lib.hid (HC2.out.cut2)
              go_wp2_with fail
              go_meet
              exact ⟨_, _, _, HG.out.ans n an aq, HFin.out⟩
            · go_upto_region 33 with fail
              by_cases h77 : an = 77
              · subst h77
                have SOF : Hid (∀ u : World, Hid (∃ (L1 : List Wt) (M1 : List En) (v1 y1 : Value) (X : List It), Sep w (qI g n own L1 v1 ++ (mI gm n own M1 y1 ++ (.box wr.heap.size 28 [.int .u8 (ak : Nat), .int .i64 am, .int .i64 aq, .int .u8 (ok : Nat), .string oa, .string ob, .string oc, .int .i64 77, .int .i64 ai] :: X))) u) → (fun u : World => (u.cell? ⟨wr.heap.size, 0, none⟩ = some (.int .u8 (ak : Nat)) ∧ u.cell? ⟨wr.heap.size, 1, none⟩ = some (.int .i64 am) ∧ u.cell? ⟨wr.heap.size, 2, none⟩ = some (.int .i64 aq) ∧ u.cell? ⟨wr.heap.size, 3, none⟩ = some (.int .u8 (ok : Nat)) ∧ u.cell? ⟨wr.heap.size, 4, none⟩ = some (.string oa) ∧ u.cell? ⟨wr.heap.size, 5, none⟩ = some (.string ob) ∧ u.cell? ⟨wr.heap.size, 6, none⟩ = some (.string oc) ∧ u.cell? ⟨wr.heap.size, 7, none⟩ = some (.int .i64 77) ∧ u.cell? ⟨wr.heap.size, 8, none⟩ = some (.int .i64 ai)) ∧ Hid (∃ (L1 : List Wt) (M1 : List En) (v1 y1 : Value) (X : List It), Sep w (qI g n own L1 v1 ++ (mI gm n own M1 y1 ++ (.box wr.heap.size 28 [.int .u8 (ak : Nat), .int .i64 am, .int .i64 aq, .int .u8 (ok : Nat), .string oa, .string ob, .string oc, .int .i64 77, .int .i64 ai] :: X))) u)) u) := fun u h => by
                  obtain ⟨L1, M1, v1, y1, X, hs⟩ := h.out
                  have hbx : Whole u wr.heap.size 28 [.int .u8 (ak : Nat), .int .i64 am, .int .i64 aq, .int .u8 (ok : Nat), .string oa, .string ob, .string oc, .int .i64 77, .int .i64 ai] := hs.right.right.head
                  exact ⟨⟨hbx.cell 0, hbx.cell 1, hbx.cell 2, hbx.cell 3, hbx.cell 4, hbx.cell 5, hbx.cell 6, hbx.cell 7, hbx.cell 8⟩, h⟩
                have HSD := Lib.hid HS.out.drew
                clear HS b0 b1 b2 b3 b4 b5 b6 b7 b8 hbl
                refine wp_region_held_drew (S := (fun u : World => (u.cell? ⟨wr.heap.size, 0, none⟩ = some (.int .u8 (ak : Nat)) ∧ u.cell? ⟨wr.heap.size, 1, none⟩ = some (.int .i64 am) ∧ u.cell? ⟨wr.heap.size, 2, none⟩ = some (.int .i64 aq) ∧ u.cell? ⟨wr.heap.size, 3, none⟩ = some (.int .u8 (ok : Nat)) ∧ u.cell? ⟨wr.heap.size, 4, none⟩ = some (.string oa) ∧ u.cell? ⟨wr.heap.size, 5, none⟩ = some (.string ob) ∧ u.cell? ⟨wr.heap.size, 6, none⟩ = some (.string oc) ∧ u.cell? ⟨wr.heap.size, 7, none⟩ = some (.int .i64 77) ∧ u.cell? ⟨wr.heap.size, 8, none⟩ = some (.int .i64 ai)) ∧ Hid (∃ (L1 : List Wt) (M1 : List En) (v1 y1 : Value) (X : List It), Sep w (qI g n own L1 v1 ++ (mI gm n own M1 y1 ++ (.box wr.heap.size 28 [.int .u8 (ak : Nat), .int .i64 am, .int .i64 aq, .int .u8 (ok : Nat), .string oa, .string ob, .string oc, .int .i64 77, .int .i64 ai] :: X))) u))) (by kernel_rfl) (SOF.out _ (Lib.hid ⟨_, _, _, _, [], HSD.out⟩)) (fun HS => ?_)
                refine handTake 0 (some 148) ?_ rfl rfl (by kernel_rfl) (by kernel_rfl) (by kernel_rfl) (fun _ _ _ h => h) (by rfl) ?_ HS ?_
                rotate_left
                · (intro u hu; (try dsimp only at hu); go_simp; try with_reducible rfl)
                simp only [Act.put, List.setIfInBounds_toArray, List.set_cons_zero, List.set_cons_succ]
                refine handTake 1 (some 149) ?_ rfl rfl (by kernel_rfl) (by kernel_rfl) (by kernel_rfl) (fun _ _ _ h => h) (by rfl) ?_ HS ?_
                rotate_left
                · (intro u hu; (try dsimp only at hu); go_simp; try with_reducible rfl)
                simp only [Act.put, List.setIfInBounds_toArray, List.set_cons_zero, List.set_cons_succ]
                refine handTake 2 (some 150) ?_ rfl rfl (by kernel_rfl) (by kernel_rfl) (by kernel_rfl) (fun _ _ _ h => h) (by rfl) ?_ HS ?_
                rotate_left
                · (intro u hu; (try dsimp only at hu); go_simp; try with_reducible rfl)
                simp only [Act.put, List.setIfInBounds_toArray, List.set_cons_zero, List.set_cons_succ]
                refine handTake 3 (some 151) ?_ rfl rfl (by kernel_rfl) (by kernel_rfl) (by kernel_rfl) (fun _ _ _ h => h) (by rfl) ?_ HS ?_
                rotate_left
                · (intro u hu; (try dsimp only at hu); go_simp; try with_reducible rfl)
                simp only [Act.put, List.setIfInBounds_toArray, List.set_cons_zero, List.set_cons_succ]
                refine handTake 4 (some 152) ?_ rfl rfl (by kernel_rfl) (by kernel_rfl) (by kernel_rfl) (fun _ _ _ h => h) (by rfl) ?_ HS ?_
                rotate_left
                · (intro u hu; (try dsimp only at hu); go_simp; try with_reducible rfl)
                simp only [Act.put, List.setIfInBounds_toArray, List.set_cons_zero, List.set_cons_succ]
                refine handTake 6 (some 154) ?_ rfl rfl (by kernel_rfl) (by kernel_rfl) (by kernel_rfl) (fun _ _ _ h => h) (by rfl) ?_ HS ?_
                rotate_left
                · (intro u hu; (try dsimp only at hu); go_simp; try with_reducible rfl)
                simp only [Act.put, List.setIfInBounds_toArray, List.set_cons_zero, List.set_cons_succ]
                refine wpAnyH_ready (rs := [5]) (by kernel_rfl) (by simp) ?_
                refine AllReadyH.cons rfl (fun K hK => ?_) AllReadyH.nil
                go_simp
                clear HS
                refine (clear_sep HSD.out hn HG.out.ok (L.map (·.r)) rfl L.length (List.length_map ..)).mono ?_
                rintro e u1 ⟨AQ, cQ, v1, rfl, h⟩
                have HC1 := Lib.hid h.assoc
                clear h HSD
                go_wp2_with fail
                refine hK.out _ _ (SOF.out _ (Lib.hid ⟨_, _, _, _, _, HC1.out⟩)) (fun HS => ?_)
                clear hK
                try simp only [Act.put, List.setIfInBounds_toArray, List.set_cons_zero, List.set_cons_succ]
                refine wpAnyH_ready (rs := [7]) (by kernel_rfl) (by simp) ?_
                refine AllReadyH.cons rfl (fun K hK => ?_) AllReadyH.nil
                go_simp
                clear HS
                refine (rclear_sep gm n own (L.map toEn) _ _ HC1.out.rot (by omega)).mono ?_
                rintro e u2 ⟨AM, cM, rfl, h⟩
                have HC2 := Lib.hid h.mrow
                clear h HC1
                go_wp2_with fail
                refine hK.out _ _ (SOF.out _ (Lib.hid ⟨_, _, _, _, _, HC2.out⟩)) (fun HS => ?_)
                clear hK
                try simp only [Act.put, List.setIfInBounds_toArray, List.set_cons_zero, List.set_cons_succ]
                refine wpAnyH_ready (rs := [8]) (by kernel_rfl) (by simp) ?_
                refine AllReadyH.cons rfl (fun K hK => ?_) AllReadyH.nil
                go_simp
                clear HS
                have hx := Row.of_own (show World.ownsRow _ _ _ _ _ _ _ from HC2.out.right.right.left.right.head)
                have hy := Row.of_own (show World.ownsRow _ _ _ _ _ _ _ from HC2.out.right.right.right.head)
                rw [rwaits_eq, List.length_map] at hy
                have hy := (show Row _ _ _ (L.map (·.r)).length _ from by rw [List.length_map]; exact hy)
                have SM := same_rq (L.map (·.r)) (L.map (·.r)) _ _ _ _ _ hx hy (Nat.le_refl _) (Nat.le_refl _)
                rw [decide_eq_true rfl] at SM
                have SM := Lib.hid SM
                clear hx hy
                refine SM.out.mono ?_
                rintro e u3 ⟨rfl, hx⟩
                have HC3 := Lib.hid (HC2.out.call hx)
                clear hx SM HC2
                go_wp2_with fail
                refine hK.out _ _ (SOF.out _ (Lib.hid ⟨_, _, _, _, _, HC3.out⟩)) (fun HS => ?_)
                clear hK
                try simp only [Act.put, List.setIfInBounds_toArray, List.set_cons_zero, List.set_cons_succ]
                refine handTake 9 (some 157) ?_ rfl rfl (by kernel_rfl) (by kernel_rfl) (by kernel_rfl) (fun _ _ _ h => h) (by rfl) ?_ HS ?_
                rotate_left
                · (intro u hu; (try dsimp only at hu); go_simp; try with_reducible rfl)
                simp only [Act.put, List.setIfInBounds_toArray, List.set_cons_zero, List.set_cons_succ]
                refine handTake 10 (some 158) ?_ rfl rfl (by kernel_rfl) (by kernel_rfl) (by kernel_rfl) (fun _ _ _ h => h) (by rfl) ?_ HS ?_
                rotate_left
                · (intro u hu; (try dsimp only at hu); go_simp; try with_reducible rfl)
                simp only [Act.put, List.setIfInBounds_toArray, List.set_cons_zero, List.set_cons_succ]
                refine handTake 11 (some 159) ?_ rfl rfl (by kernel_rfl) (by kernel_rfl) (by kernel_rfl) (fun _ _ _ h => h) (by rfl) ?_ HS ?_
                rotate_left
                · (intro u hu; (try dsimp only at hu); go_simp; try with_reducible rfl)
                simp only [Act.put, List.setIfInBounds_toArray, List.set_cons_zero, List.set_cons_succ]
                refine handTake 12 (some 160) ?_ rfl rfl (by kernel_rfl) (by kernel_rfl) (by kernel_rfl) (fun _ _ _ h => h) (by rfl) ?_ HS ?_
                rotate_left
                · (intro u hu; (try dsimp only at hu); go_simp; try with_reducible rfl)
                simp only [Act.put, List.setIfInBounds_toArray, List.set_cons_zero, List.set_cons_succ]
                refine handTake 13 (some 161) ?_ rfl rfl (by kernel_rfl) (by kernel_rfl) (by kernel_rfl) (fun _ _ _ h => h) (by rfl) ?_ HS ?_
                rotate_left
                · (intro u hu; (try dsimp only at hu); go_simp; try with_reducible rfl)
                simp only [Act.put, List.setIfInBounds_toArray, List.set_cons_zero, List.set_cons_succ]
                refine handTake 14 (some 162) ?_ rfl rfl (by kernel_rfl) (by kernel_rfl) (by kernel_rfl) (fun _ _ _ h => h) (by rfl) ?_ HS ?_
                rotate_left
                · (intro u hu; (try dsimp only at hu); go_simp; try with_reducible rfl)
                simp only [Act.put, List.setIfInBounds_toArray, List.set_cons_zero, List.set_cons_succ]
                refine handTake 15 (some 163) ?_ rfl rfl (by kernel_rfl) (by kernel_rfl) (by kernel_rfl) (fun _ _ _ h => h) (by rfl) ?_ HS ?_
                rotate_left
                · (intro u hu; (try dsimp only at hu); go_simp; try with_reducible rfl)
                simp only [Act.put, List.setIfInBounds_toArray, List.set_cons_zero, List.set_cons_succ]
                refine handSkip 16 (some 164) rfl rfl (by kernel_rfl) (by kernel_rfl) (by kernel_rfl) (fun _ _ _ h => h) (by rfl) HS ?_
                simp only [Act.put, List.setIfInBounds_toArray, List.set_cons_zero, List.set_cons_succ]
                refine handSkip 17 (some 165) rfl rfl (by kernel_rfl) (by kernel_rfl) (by kernel_rfl) (fun _ _ _ h => h) (by rfl) HS ?_
                simp only [Act.put, List.setIfInBounds_toArray, List.set_cons_zero, List.set_cons_succ]
                refine handSkip 18 (some 166) rfl rfl (by kernel_rfl) (by kernel_rfl) (by kernel_rfl) (fun _ _ _ h => h) (by rfl) HS ?_
                simp only [Act.put, List.setIfInBounds_toArray, List.set_cons_zero, List.set_cons_succ]
                refine handSkip 19 (some 167) rfl rfl (by kernel_rfl) (by kernel_rfl) (by kernel_rfl) (fun _ _ _ h => h) (by rfl) HS ?_
                simp only [Act.put, List.setIfInBounds_toArray, List.set_cons_zero, List.set_cons_succ]
                refine handSkip 20 (some 168) rfl rfl (by kernel_rfl) (by kernel_rfl) (by kernel_rfl) (fun _ _ _ h => h) (by rfl) HS ?_
                simp only [Act.put, List.setIfInBounds_toArray, List.set_cons_zero, List.set_cons_succ]
                refine handSkip 21 (some 169) rfl rfl (by kernel_rfl) (by kernel_rfl) (by kernel_rfl) (fun _ _ _ h => h) (by rfl) HS ?_
                simp only [Act.put, List.setIfInBounds_toArray, List.set_cons_zero, List.set_cons_succ]
                refine handSkip 22 (some 170) rfl rfl (by kernel_rfl) (by kernel_rfl) (by kernel_rfl) (fun _ _ _ h => h) (by rfl) HS ?_
                simp only [Act.put, List.setIfInBounds_toArray, List.set_cons_zero, List.set_cons_succ]
                refine handSkip 23 (some 171) rfl rfl (by kernel_rfl) (by kernel_rfl) (by kernel_rfl) (fun _ _ _ h => h) (by rfl) HS ?_
                simp only [Act.put, List.setIfInBounds_toArray, List.set_cons_zero, List.set_cons_succ]
                refine handSkip 24 (some 172) rfl rfl (by kernel_rfl) (by kernel_rfl) (by kernel_rfl) (fun _ _ _ h => h) (by rfl) HS ?_
                simp only [Act.put, List.setIfInBounds_toArray, List.set_cons_zero, List.set_cons_succ]
                refine handSkip 25 (some 173) rfl rfl (by kernel_rfl) (by kernel_rfl) (by kernel_rfl) (fun _ _ _ h => h) (by rfl) HS ?_
                simp only [Act.put, List.setIfInBounds_toArray, List.set_cons_zero, List.set_cons_succ]
                refine handSkip 26 (some 174) rfl rfl (by kernel_rfl) (by kernel_rfl) (by kernel_rfl) (fun _ _ _ h => h) (by rfl) HS ?_
                simp only [Act.put, List.setIfInBounds_toArray, List.set_cons_zero, List.set_cons_succ]
                refine handSkip 27 (some 175) rfl rfl (by kernel_rfl) (by kernel_rfl) (by kernel_rfl) (fun _ _ _ h => h) (by rfl) HS ?_
                simp only [Act.put, List.setIfInBounds_toArray, List.set_cons_zero, List.set_cons_succ]
                refine handSkip 28 (some 176) rfl rfl (by kernel_rfl) (by kernel_rfl) (by kernel_rfl) (fun _ _ _ h => h) (by rfl) HS ?_
                simp only [Act.put, List.setIfInBounds_toArray, List.set_cons_zero, List.set_cons_succ]
                refine handSkip 29 (some 177) rfl rfl (by kernel_rfl) (by kernel_rfl) (by kernel_rfl) (fun _ _ _ h => h) (by rfl) HS ?_
                simp only [Act.put, List.setIfInBounds_toArray, List.set_cons_zero, List.set_cons_succ]
                refine handSkip 30 (some 178) rfl rfl (by kernel_rfl) (by kernel_rfl) (by kernel_rfl) (fun _ _ _ h => h) (by rfl) HS ?_
                simp only [Act.put, List.setIfInBounds_toArray, List.set_cons_zero, List.set_cons_succ]
                refine handSkip 31 (some 179) rfl rfl (by kernel_rfl) (by kernel_rfl) (by kernel_rfl) (fun _ _ _ h => h) (by rfl) HS ?_
                simp only [Act.put, List.setIfInBounds_toArray, List.set_cons_zero, List.set_cons_succ]
                refine handSkip 32 (some 180) rfl rfl (by kernel_rfl) (by kernel_rfl) (by kernel_rfl) (fun _ _ _ h => h) (by rfl) HS ?_
                simp only [Act.put, List.setIfInBounds_toArray, List.set_cons_zero, List.set_cons_succ]
                refine handTake 33 (some 181) ?_ rfl rfl (by kernel_rfl) (by kernel_rfl) (by kernel_rfl) (fun _ _ _ h => h) (by rfl) ?_ HS ?_
                rotate_left
                · (intro u hu; (try dsimp only at hu); go_simp; try with_reducible rfl)
                simp only [Act.put, List.setIfInBounds_toArray, List.set_cons_zero, List.set_cons_succ]
                refine handTake 34 (some 182) ?_ rfl rfl (by kernel_rfl) (by kernel_rfl) (by kernel_rfl) (fun _ _ _ h => h) (by rfl) ?_ HS ?_
                rotate_left
                · (intro u hu; (try dsimp only at hu); go_simp; try with_reducible rfl)
                simp only [Act.put, List.setIfInBounds_toArray, List.set_cons_zero, List.set_cons_succ]
                refine wpAnyH_done (by kernel_rfl) ?_ _
                clear HS SOF
                have HFin := Lib.hid (HC3.out.cut2)
                go_wp2_with fail
                go_meet
                exact ⟨_, _, _, Good.nil, HFin.out⟩
              · have h77b : (an == 77) = false := by simp [h77]
                have h77c : (an != 77) = true := by simp [h77]
                clear h77
                have SOF : Hid (∀ u : World, Hid (∃ (L1 : List Wt) (M1 : List En) (v1 y1 : Value) (X : List It), Sep w (qI g n own L1 v1 ++ (mI gm n own M1 y1 ++ (.box wr.heap.size 28 [.int .u8 (ak : Nat), .int .i64 am, .int .i64 aq, .int .u8 (ok : Nat), .string oa, .string ob, .string oc, .int .i64 an, .int .i64 ai] :: X))) u) → (fun u : World => (u.cell? ⟨wr.heap.size, 0, none⟩ = some (.int .u8 (ak : Nat)) ∧ u.cell? ⟨wr.heap.size, 1, none⟩ = some (.int .i64 am) ∧ u.cell? ⟨wr.heap.size, 2, none⟩ = some (.int .i64 aq) ∧ u.cell? ⟨wr.heap.size, 3, none⟩ = some (.int .u8 (ok : Nat)) ∧ u.cell? ⟨wr.heap.size, 4, none⟩ = some (.string oa) ∧ u.cell? ⟨wr.heap.size, 5, none⟩ = some (.string ob) ∧ u.cell? ⟨wr.heap.size, 6, none⟩ = some (.string oc) ∧ u.cell? ⟨wr.heap.size, 7, none⟩ = some (.int .i64 an) ∧ u.cell? ⟨wr.heap.size, 8, none⟩ = some (.int .i64 ai)) ∧ Hid (∃ (L1 : List Wt) (M1 : List En) (v1 y1 : Value) (X : List It), Sep w (qI g n own L1 v1 ++ (mI gm n own M1 y1 ++ (.box wr.heap.size 28 [.int .u8 (ak : Nat), .int .i64 am, .int .i64 aq, .int .u8 (ok : Nat), .string oa, .string ob, .string oc, .int .i64 an, .int .i64 ai] :: X))) u)) u) := fun u h => by
                  obtain ⟨L1, M1, v1, y1, X, hs⟩ := h.out
                  have hbx : Whole u wr.heap.size 28 [.int .u8 (ak : Nat), .int .i64 am, .int .i64 aq, .int .u8 (ok : Nat), .string oa, .string ob, .string oc, .int .i64 an, .int .i64 ai] := hs.right.right.head
                  exact ⟨⟨hbx.cell 0, hbx.cell 1, hbx.cell 2, hbx.cell 3, hbx.cell 4, hbx.cell 5, hbx.cell 6, hbx.cell 7, hbx.cell 8⟩, h⟩
                have HSD := Lib.hid HS.out.drew
                clear HS b0 b1 b2 b3 b4 b5 b6 b7 b8 hbl
                refine wp_region_held_drew (S := (fun u : World => (u.cell? ⟨wr.heap.size, 0, none⟩ = some (.int .u8 (ak : Nat)) ∧ u.cell? ⟨wr.heap.size, 1, none⟩ = some (.int .i64 am) ∧ u.cell? ⟨wr.heap.size, 2, none⟩ = some (.int .i64 aq) ∧ u.cell? ⟨wr.heap.size, 3, none⟩ = some (.int .u8 (ok : Nat)) ∧ u.cell? ⟨wr.heap.size, 4, none⟩ = some (.string oa) ∧ u.cell? ⟨wr.heap.size, 5, none⟩ = some (.string ob) ∧ u.cell? ⟨wr.heap.size, 6, none⟩ = some (.string oc) ∧ u.cell? ⟨wr.heap.size, 7, none⟩ = some (.int .i64 an) ∧ u.cell? ⟨wr.heap.size, 8, none⟩ = some (.int .i64 ai)) ∧ Hid (∃ (L1 : List Wt) (M1 : List En) (v1 y1 : Value) (X : List It), Sep w (qI g n own L1 v1 ++ (mI gm n own M1 y1 ++ (.box wr.heap.size 28 [.int .u8 (ak : Nat), .int .i64 am, .int .i64 aq, .int .u8 (ok : Nat), .string oa, .string ob, .string oc, .int .i64 an, .int .i64 ai] :: X))) u))) (by kernel_rfl) (SOF.out _ (Lib.hid ⟨_, _, _, _, [], HSD.out⟩)) (fun HS => ?_)
                refine handTake 0 (some 148) ?_ rfl rfl (by kernel_rfl) (by kernel_rfl) (by kernel_rfl) (fun _ _ _ h => h) (by rfl) ?_ HS ?_
                rotate_left
                · (intro u hu; (try dsimp only at hu); go_simp; try with_reducible rfl)
                simp only [Act.put, List.setIfInBounds_toArray, List.set_cons_zero, List.set_cons_succ]
                refine handTake 1 (some 149) ?_ rfl rfl (by kernel_rfl) (by kernel_rfl) (by kernel_rfl) (fun _ _ _ h => h) (by rfl) ?_ HS ?_
                rotate_left
                · (intro u hu; (try dsimp only at hu); go_simp; try with_reducible rfl)
                simp only [Act.put, List.setIfInBounds_toArray, List.set_cons_zero, List.set_cons_succ]
                refine handTake 2 (some 150) ?_ rfl rfl (by kernel_rfl) (by kernel_rfl) (by kernel_rfl) (fun _ _ _ h => h) (by rfl) ?_ HS ?_
                rotate_left
                · (intro u hu; (try dsimp only at hu); go_simp; try with_reducible rfl)
                simp only [Act.put, List.setIfInBounds_toArray, List.set_cons_zero, List.set_cons_succ]
                refine handTake 3 (some 151) ?_ rfl rfl (by kernel_rfl) (by kernel_rfl) (by kernel_rfl) (fun _ _ _ h => h) (by rfl) ?_ HS ?_
                rotate_left
                · (intro u hu; (try dsimp only at hu); go_simp; try with_reducible rfl)
                simp only [Act.put, List.setIfInBounds_toArray, List.set_cons_zero, List.set_cons_succ]
                refine handSkip 4 (some 152) rfl rfl (by kernel_rfl) (by kernel_rfl) (by kernel_rfl) (fun _ _ _ h => h) (by rfl) HS ?_
                simp only [Act.put, List.setIfInBounds_toArray, List.set_cons_zero, List.set_cons_succ]
                refine handSkip 5 (some 153) rfl rfl (by kernel_rfl) (by kernel_rfl) (by kernel_rfl) (fun _ _ _ h => h) (by rfl) HS ?_
                simp only [Act.put, List.setIfInBounds_toArray, List.set_cons_zero, List.set_cons_succ]
                refine handSkip 6 (some 154) rfl rfl (by kernel_rfl) (by kernel_rfl) (by kernel_rfl) (fun _ _ _ h => h) (by rfl) HS ?_
                simp only [Act.put, List.setIfInBounds_toArray, List.set_cons_zero, List.set_cons_succ]
                refine handSkip 7 (some 155) rfl rfl (by kernel_rfl) (by kernel_rfl) (by kernel_rfl) (fun _ _ _ h => h) (by rfl) HS ?_
                simp only [Act.put, List.setIfInBounds_toArray, List.set_cons_zero, List.set_cons_succ]
                refine handSkip 8 (some 156) rfl rfl (by kernel_rfl) (by kernel_rfl) (by kernel_rfl) (fun _ _ _ h => h) (by rfl) HS ?_
                simp only [Act.put, List.setIfInBounds_toArray, List.set_cons_zero, List.set_cons_succ]
                refine handSkip 9 (some 157) rfl rfl (by kernel_rfl) (by kernel_rfl) (by kernel_rfl) (fun _ _ _ h => h) (by rfl) HS ?_
                simp only [Act.put, List.setIfInBounds_toArray, List.set_cons_zero, List.set_cons_succ]
                refine handTake 10 (some 158) ?_ rfl rfl (by kernel_rfl) (by kernel_rfl) (by kernel_rfl) (fun _ _ _ h => h) (by rfl) ?_ HS ?_
                rotate_left
                · (intro u hu; (try dsimp only at hu); go_simp; try with_reducible rfl)
                simp only [Act.put, List.setIfInBounds_toArray, List.set_cons_zero, List.set_cons_succ]
                refine handTake 11 (some 159) ?_ rfl rfl (by kernel_rfl) (by kernel_rfl) (by kernel_rfl) (fun _ _ _ h => h) (by rfl) ?_ HS ?_
                rotate_left
                · (intro u hu; (try dsimp only at hu); go_simp; try with_reducible rfl)
                simp only [Act.put, List.setIfInBounds_toArray, List.set_cons_zero, List.set_cons_succ]
                refine handTake 12 (some 160) ?_ rfl rfl (by kernel_rfl) (by kernel_rfl) (by kernel_rfl) (fun _ _ _ h => h) (by rfl) ?_ HS ?_
                rotate_left
                · (intro u hu; (try dsimp only at hu); go_simp; try with_reducible rfl)
                simp only [Act.put, List.setIfInBounds_toArray, List.set_cons_zero, List.set_cons_succ]
                refine handTake 13 (some 161) ?_ rfl rfl (by kernel_rfl) (by kernel_rfl) (by kernel_rfl) (fun _ _ _ h => h) (by rfl) ?_ HS ?_
                rotate_left
                · (intro u hu; (try dsimp only at hu); go_simp; try with_reducible rfl)
                simp only [Act.put, List.setIfInBounds_toArray, List.set_cons_zero, List.set_cons_succ]
                refine handTake 14 (some 162) ?_ rfl rfl (by kernel_rfl) (by kernel_rfl) (by kernel_rfl) (fun _ _ _ h => h) (by rfl) ?_ HS ?_
                rotate_left
                · (intro u hu; (try dsimp only at hu); go_simp; try with_reducible rfl)
                simp only [Act.put, List.setIfInBounds_toArray, List.set_cons_zero, List.set_cons_succ]
                refine handTake 15 (some 163) ?_ rfl rfl (by kernel_rfl) (by kernel_rfl) (by kernel_rfl) (fun _ _ _ h => h) (by rfl) ?_ HS ?_
                rotate_left
                · (intro u hu; (try dsimp only at hu); go_simp; try with_reducible rfl)
                simp only [Act.put, List.setIfInBounds_toArray, List.set_cons_zero, List.set_cons_succ]
                refine handTake 16 (some 164) ?_ rfl rfl (by kernel_rfl) (by kernel_rfl) (by kernel_rfl) (fun _ _ _ h => h) (by rfl) ?_ HS ?_
                rotate_left
                · (intro u hu; (try dsimp only at hu); go_simp; try with_reducible rfl)
                simp only [Act.put, List.setIfInBounds_toArray, List.set_cons_zero, List.set_cons_succ]
                refine handTake 17 (some 165) ?_ rfl rfl (by kernel_rfl) (by kernel_rfl) (by kernel_rfl) (fun _ _ _ h => h) (by rfl) ?_ HS ?_
                rotate_left
                · (intro u hu; (try dsimp only at hu); go_simp; try with_reducible rfl)
                simp only [Act.put, List.setIfInBounds_toArray, List.set_cons_zero, List.set_cons_succ]
                refine handTake 18 (some 166) ?_ rfl rfl (by kernel_rfl) (by kernel_rfl) (by kernel_rfl) (fun _ _ _ h => h) (by rfl) ?_ HS ?_
                rotate_left
                · (intro u hu; (try dsimp only at hu); go_simp; try with_reducible rfl)
                simp only [Act.put, List.setIfInBounds_toArray, List.set_cons_zero, List.set_cons_succ]
                refine handTake 19 (some 167) ?_ rfl rfl (by kernel_rfl) (by kernel_rfl) (by kernel_rfl) (fun _ _ _ h => h) (by rfl) ?_ HS ?_
                rotate_left
                · (intro u hu; (try dsimp only at hu); go_simp; try with_reducible rfl)
                simp only [Act.put, List.setIfInBounds_toArray, List.set_cons_zero, List.set_cons_succ]
                refine handTake 20 (some 168) ?_ rfl rfl (by kernel_rfl) (by kernel_rfl) (by kernel_rfl) (fun _ _ _ h => h) (by rfl) ?_ HS ?_
                rotate_left
                · (intro u hu; (try dsimp only at hu); go_simp; try with_reducible rfl)
                simp only [Act.put, List.setIfInBounds_toArray, List.set_cons_zero, List.set_cons_succ]
                refine handTake 21 (some 169) ?_ rfl rfl (by kernel_rfl) (by kernel_rfl) (by kernel_rfl) (fun _ _ _ h => h) (by rfl) ?_ HS ?_
                rotate_left
                · (intro u hu; (try dsimp only at hu); go_simp; try with_reducible rfl)
                simp only [Act.put, List.setIfInBounds_toArray, List.set_cons_zero, List.set_cons_succ]
                refine handTake 22 (some 170) ?_ rfl rfl (by kernel_rfl) (by kernel_rfl) (by kernel_rfl) (fun _ _ _ h => h) (by rfl) ?_ HS ?_
                rotate_left
                · (intro u hu; (try dsimp only at hu); go_simp; try with_reducible rfl)
                simp only [Act.put, List.setIfInBounds_toArray, List.set_cons_zero, List.set_cons_succ]
                refine handTake 24 (some 172) ?_ rfl rfl (by kernel_rfl) (by kernel_rfl) (by kernel_rfl) (fun _ _ _ h => h) (by rfl) ?_ HS ?_
                rotate_left
                · (intro u hu; (try dsimp only at hu); go_simp; try with_reducible rfl)
                simp only [Act.put, List.setIfInBounds_toArray, List.set_cons_zero, List.set_cons_succ]
                refine handTake 25 (some 173) ?_ rfl rfl (by kernel_rfl) (by kernel_rfl) (by kernel_rfl) (fun _ _ _ h => h) (by rfl) ?_ HS ?_
                rotate_left
                · (intro u hu; (try dsimp only at hu); go_simp; try with_reducible rfl)
                simp only [Act.put, List.setIfInBounds_toArray, List.set_cons_zero, List.set_cons_succ]
                refine handTake 26 (some 174) ?_ rfl rfl (by kernel_rfl) (by kernel_rfl) (by kernel_rfl) (fun _ _ _ h => h) (by rfl) ?_ HS ?_
                rotate_left
                · (intro u hu; (try dsimp only at hu); go_simp; try with_reducible rfl)
                simp only [Act.put, List.setIfInBounds_toArray, List.set_cons_zero, List.set_cons_succ]
                refine handTake 27 (some 175) ?_ rfl rfl (by kernel_rfl) (by kernel_rfl) (by kernel_rfl) (fun _ _ _ h => h) (by rfl) ?_ HS ?_
                rotate_left
                · (intro u hu; (try dsimp only at hu); go_simp; try with_reducible rfl)
                simp only [Act.put, List.setIfInBounds_toArray, List.set_cons_zero, List.set_cons_succ]
                refine handTake 28 (some 176) ?_ rfl rfl (by kernel_rfl) (by kernel_rfl) (by kernel_rfl) (fun _ _ _ h => h) (by rfl) ?_ HS ?_
                rotate_left
                · (intro u hu; (try dsimp only at hu); go_simp; try with_reducible rfl)
                simp only [Act.put, List.setIfInBounds_toArray, List.set_cons_zero, List.set_cons_succ]
                refine handTake 29 (some 177) ?_ rfl rfl (by kernel_rfl) (by kernel_rfl) (by kernel_rfl) (fun _ _ _ h => h) (by rfl) ?_ HS ?_
                rotate_left
                · (intro u hu; (try dsimp only at hu); go_simp; try with_reducible rfl)
                simp only [Act.put, List.setIfInBounds_toArray, List.set_cons_zero, List.set_cons_succ]
                refine handTake 30 (some 178) ?_ rfl rfl (by kernel_rfl) (by kernel_rfl) (by kernel_rfl) (fun _ _ _ h => h) (by rfl) ?_ HS ?_
                rotate_left
                · (intro u hu; (try dsimp only at hu); go_simp; try with_reducible rfl)
                simp only [Act.put, List.setIfInBounds_toArray, List.set_cons_zero, List.set_cons_succ]
                refine wpAnyH_ready (rs := [23]) (by kernel_rfl) (by simp) ?_
                refine AllReadyH.cons rfl (fun K hK => ?_) AllReadyH.nil
                go_simp
                clear HS
                refine (done_sep HSD.out hn HG.out.ok am aq _ rfl).mono ?_
                rintro e u1 ⟨rfl, v1, h⟩
                have HC1 := Lib.hid h
                clear h HSD
                go_wp2_with fail
                refine hK.out _ _ (SOF.out _ (Lib.hid ⟨_, _, _, _, _, HC1.out⟩)) (fun HS => ?_)
                clear hK
                try simp only [Act.put, List.setIfInBounds_toArray, List.set_cons_zero, List.set_cons_succ]
                refine wpAnyH_ready (rs := [31]) (by kernel_rfl) (by simp) ?_
                refine AllReadyH.cons rfl (fun K hK => ?_) AllReadyH.nil
                go_simp
                clear HS
                refine (rdone_sep gm n own (L.map toEn) _ _ HC1.out.rot (by omega) am aq).mono ?_
                rintro e u2 ⟨rfl, y2, h⟩
                rw [rdone_len HG.out.kinds]
                rw [rdone_eq HG.out.kinds] at h
                have HC2 := Lib.hid h.rot.rot
                clear h HC1
                go_wp2_with fail
                refine hK.out _ _ (SOF.out _ (Lib.hid ⟨_, _, _, _, _, HC2.out⟩)) (fun HS => ?_)
                clear hK
                try simp only [Act.put, List.setIfInBounds_toArray, List.set_cons_zero, List.set_cons_succ]
                refine handTake 32 (some 180) ?_ rfl rfl (by kernel_rfl) (by kernel_rfl) (by kernel_rfl) (fun _ _ _ h => h) (by rfl) ?_ HS ?_
                rotate_left
                · (intro u hu; (try dsimp only at hu); go_simp; try with_reducible rfl)
                simp only [Act.put, List.setIfInBounds_toArray, List.set_cons_zero, List.set_cons_succ]
                refine handTake 33 (some 181) ?_ rfl rfl (by kernel_rfl) (by kernel_rfl) (by kernel_rfl) (fun _ _ _ h => h) (by rfl) ?_ HS ?_
                rotate_left
                · (intro u hu; (try dsimp only at hu); go_simp; try with_reducible rfl)
                simp only [Act.put, List.setIfInBounds_toArray, List.set_cons_zero, List.set_cons_succ]
                refine handTake 34 (some 182) ?_ rfl rfl (by kernel_rfl) (by kernel_rfl) (by kernel_rfl) (fun _ _ _ h => h) (by rfl) ?_ HS ?_
                rotate_left
                · (intro u hu; (try dsimp only at hu); go_simp; try with_reducible rfl)
                simp only [Act.put, List.setIfInBounds_toArray, List.set_cons_zero, List.set_cons_succ]
                refine wpAnyH_done (by kernel_rfl) ?_ _
                clear HS SOF
                have HFin := Lib.hid (HC2.out.cut2)
                go_wp2_with fail
                go_meet
                exact ⟨_, _, _, HG.out.left _, HFin.out⟩
            · go_upto_region 14 with fail
              have SOF : Hid (∀ u : World, Hid (∃ (L1 : List Wt) (M1 : List En) (v1 y1 : Value) (X : List It), Sep w (qI g n own L1 v1 ++ (mI gm n own M1 y1 ++ (.box wr.heap.size 28 [.int .u8 (ak : Nat), .int .i64 am, .int .i64 aq, .int .u8 (ok : Nat), .string oa, .string ob, .string oc, .int .i64 an, .int .i64 ai] :: X))) u) → (fun u : World => (u.cell? ⟨wr.heap.size, 0, none⟩ = some (.int .u8 (ak : Nat)) ∧ u.cell? ⟨wr.heap.size, 1, none⟩ = some (.int .i64 am) ∧ u.cell? ⟨wr.heap.size, 2, none⟩ = some (.int .i64 aq) ∧ u.cell? ⟨wr.heap.size, 3, none⟩ = some (.int .u8 (ok : Nat)) ∧ u.cell? ⟨wr.heap.size, 4, none⟩ = some (.string oa) ∧ u.cell? ⟨wr.heap.size, 5, none⟩ = some (.string ob) ∧ u.cell? ⟨wr.heap.size, 6, none⟩ = some (.string oc) ∧ u.cell? ⟨wr.heap.size, 7, none⟩ = some (.int .i64 an) ∧ u.cell? ⟨wr.heap.size, 8, none⟩ = some (.int .i64 ai)) ∧ Hid (∃ (L1 : List Wt) (M1 : List En) (v1 y1 : Value) (X : List It), Sep w (qI g n own L1 v1 ++ (mI gm n own M1 y1 ++ (.box wr.heap.size 28 [.int .u8 (ak : Nat), .int .i64 am, .int .i64 aq, .int .u8 (ok : Nat), .string oa, .string ob, .string oc, .int .i64 an, .int .i64 ai] :: X))) u)) u) := fun u h => by
                obtain ⟨L1, M1, v1, y1, X, hs⟩ := h.out
                have hbx : Whole u wr.heap.size 28 [.int .u8 (ak : Nat), .int .i64 am, .int .i64 aq, .int .u8 (ok : Nat), .string oa, .string ob, .string oc, .int .i64 an, .int .i64 ai] := hs.right.right.head
                exact ⟨⟨hbx.cell 0, hbx.cell 1, hbx.cell 2, hbx.cell 3, hbx.cell 4, hbx.cell 5, hbx.cell 6, hbx.cell 7, hbx.cell 8⟩, h⟩
              have HSD := Lib.hid HS.out.drew
              clear HS b0 b1 b2 b3 b4 b5 b6 b7 b8 hbl
              refine wp_region_held_drew (S := (fun u : World => (u.cell? ⟨wr.heap.size, 0, none⟩ = some (.int .u8 (ak : Nat)) ∧ u.cell? ⟨wr.heap.size, 1, none⟩ = some (.int .i64 am) ∧ u.cell? ⟨wr.heap.size, 2, none⟩ = some (.int .i64 aq) ∧ u.cell? ⟨wr.heap.size, 3, none⟩ = some (.int .u8 (ok : Nat)) ∧ u.cell? ⟨wr.heap.size, 4, none⟩ = some (.string oa) ∧ u.cell? ⟨wr.heap.size, 5, none⟩ = some (.string ob) ∧ u.cell? ⟨wr.heap.size, 6, none⟩ = some (.string oc) ∧ u.cell? ⟨wr.heap.size, 7, none⟩ = some (.int .i64 an) ∧ u.cell? ⟨wr.heap.size, 8, none⟩ = some (.int .i64 ai)) ∧ Hid (∃ (L1 : List Wt) (M1 : List En) (v1 y1 : Value) (X : List It), Sep w (qI g n own L1 v1 ++ (mI gm n own M1 y1 ++ (.box wr.heap.size 28 [.int .u8 (ak : Nat), .int .i64 am, .int .i64 aq, .int .u8 (ok : Nat), .string oa, .string ob, .string oc, .int .i64 an, .int .i64 ai] :: X))) u))) (by kernel_rfl) (SOF.out _ (Lib.hid ⟨_, _, _, _, [], HSD.out⟩)) (fun HS => ?_)
              refine handTake 0 (some 60) ?_ rfl rfl (by kernel_rfl) (by kernel_rfl) (by kernel_rfl) (fun _ _ _ h => h) (by rfl) ?_ HS ?_
              rotate_left
              · (intro u hu; (try dsimp only at hu); go_simp; try with_reducible rfl)
              simp only [Act.put, List.setIfInBounds_toArray, List.set_cons_zero, List.set_cons_succ]
              refine handTake 1 (some 61) ?_ rfl rfl (by kernel_rfl) (by kernel_rfl) (by kernel_rfl) (fun _ _ _ h => h) (by rfl) ?_ HS ?_
              rotate_left
              · (intro u hu; (try dsimp only at hu); go_simp; try with_reducible rfl)
              simp only [Act.put, List.setIfInBounds_toArray, List.set_cons_zero, List.set_cons_succ]
              refine handTake 2 (some 62) ?_ rfl rfl (by kernel_rfl) (by kernel_rfl) (by kernel_rfl) (fun _ _ _ h => h) (by rfl) ?_ HS ?_
              rotate_left
              · (intro u hu; (try dsimp only at hu); go_simp; try with_reducible rfl)
              simp only [Act.put, List.setIfInBounds_toArray, List.set_cons_zero, List.set_cons_succ]
              refine handTake 4 (some 64) ?_ rfl rfl (by kernel_rfl) (by kernel_rfl) (by kernel_rfl) (fun _ _ _ h => h) (by rfl) ?_ HS ?_
              rotate_left
              · (intro u hu; (try dsimp only at hu); go_simp; try with_reducible rfl)
              simp only [Act.put, List.setIfInBounds_toArray, List.set_cons_zero, List.set_cons_succ]
              refine handTake 5 (some 65) ?_ rfl rfl (by kernel_rfl) (by kernel_rfl) (by kernel_rfl) (fun _ _ _ h => h) (by rfl) ?_ HS ?_
              rotate_left
              · (intro u hu; (try dsimp only at hu); go_simp; try with_reducible rfl)
              simp only [Act.put, List.setIfInBounds_toArray, List.set_cons_zero, List.set_cons_succ]
              refine handTake 6 (some 66) ?_ rfl rfl (by kernel_rfl) (by kernel_rfl) (by kernel_rfl) (fun _ _ _ h => h) (by rfl) ?_ HS ?_
              rotate_left
              · (intro u hu; (try dsimp only at hu); go_simp; try with_reducible rfl)
              simp only [Act.put, List.setIfInBounds_toArray, List.set_cons_zero, List.set_cons_succ]
              refine wpAnyH_ready (rs := [3]) (by kernel_rfl) (by simp) ?_
              refine AllReadyH.cons rfl (fun K hK => ?_) AllReadyH.nil
              go_simp
              clear HS
              refine (ready_sep HSD.out hn HG.out.ok ai _ rfl _ rfl).mono ?_
              rintro e u1 ⟨AQ, cQ, v1, rfl, h⟩
              have HC1 := Lib.hid h.assoc
              clear h HSD
              go_wp2_with fail
              refine hK.out _ _ (SOF.out _ (Lib.hid ⟨_, _, _, _, _, HC1.out⟩)) (fun HS => ?_)
              clear hK
              try simp only [Act.put, List.setIfInBounds_toArray, List.set_cons_zero, List.set_cons_succ]
              refine wpAnyH_ready (rs := [7]) (by kernel_rfl) (by simp) ?_
              refine AllReadyH.cons rfl (fun K hK => ?_) AllReadyH.nil
              go_simp
              clear HS
              refine (rready_sep gm n own (L.map toEn) _ _ HC1.out.rot (by omega) (en_sets HG.out.ok.sets) ai).mono ?_
              rintro e u2 ⟨AM, cM, y2, rfl, h⟩
              rw [rready_out, rready_left] at h
              rw [rready_out]
              have HC2 := Lib.hid h.mrow
              clear h HC1
              go_wp2_with fail
              refine hK.out _ _ (SOF.out _ (Lib.hid ⟨_, _, _, _, _, HC2.out⟩)) (fun HS => ?_)
              clear hK
              try simp only [Act.put, List.setIfInBounds_toArray, List.set_cons_zero, List.set_cons_succ]
              refine wpAnyH_ready (rs := [8]) (by kernel_rfl) (by simp) ?_
              refine AllReadyH.cons rfl (fun K hK => ?_) AllReadyH.nil
              go_simp
              clear HS
              have hx := Row.of_own (show World.ownsRow _ _ _ _ _ _ _ from HC2.out.right.right.left.right.head)
              have hy := Row.of_own (show World.ownsRow _ _ _ _ _ _ _ from HC2.out.right.right.right.head)
              have SM := same_rq (took (readyB n ai) L) (took (readyB n ai) L) _ _ _ _ _ hx hy (Nat.le_refl _) (Nat.le_refl _)
              rw [decide_eq_true rfl] at SM
              have SM := Lib.hid SM
              clear hx hy
              refine SM.out.mono ?_
              rintro e u3 ⟨rfl, hx⟩
              have HC3 := Lib.hid (HC2.out.call hx)
              clear hx SM HC2
              go_wp2_with fail
              refine hK.out _ _ (SOF.out _ (Lib.hid ⟨_, _, _, _, _, HC3.out⟩)) (fun HS => ?_)
              clear hK
              try simp only [Act.put, List.setIfInBounds_toArray, List.set_cons_zero, List.set_cons_succ]
              refine handTake 9 (some 69) ?_ rfl rfl (by kernel_rfl) (by kernel_rfl) (by kernel_rfl) (fun _ _ _ h => h) (by rfl) ?_ HS ?_
              rotate_left
              · (intro u hu; (try dsimp only at hu); go_simp; try with_reducible rfl)
              simp only [Act.put, List.setIfInBounds_toArray, List.set_cons_zero, List.set_cons_succ]
              refine wpAnyH_done (by kernel_rfl) ?_ _
              clear HS SOF
              have HFin := Lib.hid (HC3.out.cut2)
              go_wp2_with fail
              go_meet
              exact ⟨_, _, _, HG.out.left _, HFin.out⟩
          case rest =>
            obtain ⟨L1, v1, y1, hG1, hs1⟩ := hcut
            have HG1 := Lib.hid hG1
            have HS1 := Lib.hid hs1
            have hlm1 : (L1.map toEn).length ≤ 8 := by rw [List.length_map]; exact hG1.ok.len
            clear hG1 hs1 HG HS
            go_wp2_with fail
            refine (waits_sep HS1.out hn HG1.out.ok (L1.map (·.r)) rfl L1.length (List.length_map ..)).mono ?_
            rintro e u3 ⟨A3, c3, rfl, h⟩
            have HS2 := Lib.hid h.assoc; clear h HS1
            go_wp2_with fail
            refine (rwaits_sep gm n own (L1.map toEn) y1 u3 HS2.out.rot (by omega)).mono ?_
            rintro e u4 ⟨A4, c4, rfl, h⟩
            rw [rwaits_eq] at h
            have HS3 := Lib.hid h.mrow; clear h HS2
            have hx := Row.of_own (show World.ownsRow u4 _ _ _ _ _ _ from HS3.out.right.right.left.right.head)
            have hy := Row.of_own (show World.ownsRow u4 _ _ _ _ _ _ from HS3.out.right.right.right.head)
            have SM := same_rq (L1.map (·.r)) (L1.map (·.r)) _ _ _ _ u4 hx (by rw [List.length_map] at hy ⊢; exact hy) (Nat.le_refl _) (Nat.le_refl _)
            rw [decide_eq_true rfl] at SM
            have SM := Lib.hid SM
            clear hx hy
            go_wp2_with fail
            refine SM.out.mono ?_
            rintro e u5 ⟨rfl, hx⟩
            have HS4 : Hid (Sep w ([.row wc.heap.size 25 6 (.slice A3 L1.length c3) L1.length ((L1.map (·.r)).flatMap rqC)] ++ (qI g n own L1 v1 ++ mI gm n own (L1.map toEn) y1)) u5) := by
              have h := (HS3.out.call hx).sub (List.Sublist.append (List.Sublist.refl (qI g n own L1 v1)) (List.Sublist.append (List.Sublist.refl (mI gm n own (L1.map toEn) y1)) (List.sublist_append_left _ _)))
              have h2 := h.rot.rot
              unfold rI at h2
              rw [List.length_map] at h2
              exact h2
            clear hx SM HS3
            go_wp2_with fail
            go_loopw [21] (fun iv wq => ∃ (j : Nat) (xs : List Value), j ≤ L1.length ∧ iv = .int .i64 j ∧ Sep w (.row wc.heap.size 25 6 (.slice A3 L1.length c3) L1.length xs :: (qI g n own L1 v1 ++ mI gm n own (L1.map toEn) y1)) wq) (fun iv _ => L1.length - (intOf iv).toNat)
            case atStart => exact ⟨0, _, Nat.zero_le _, rfl, HS4.out⟩
            case round =>
              obtain ⟨j, xs, hj, rfl, hs⟩ := hrel
              by_cases hlt2 : j < L1.length
              · have hj0 : (0 : Int) ≤ (j : Int) := by omega
                have hj1 : (j : Int) < (L1.length : Int) := by omega
                have h8 : L1.length ≤ 8 := HG1.out.ok.len
                have hown : World.ownsRow wr _ _ _ _ _ _ := hs.head
                obtain ⟨rb, cap, hv, hrb⟩ := own_form hown (by omega)
                obtain ⟨hA, hcp⟩ : A3 = some ⟨rb, 0, none⟩ ∧ cap = c3 := by injection hv with e1 e2 e3; exact ⟨e1, e3.symm⟩
                subst hA hcp
                have hth := own_there hown (j * 6 + 1) 1 (by omega)
                obtain ⟨x1, t1⟩ := Option.isSome_iff_exists.1 (hth 0 (by omega)).1
                have t2 := (hth 0 (by omega)).2
                simp only [Nat.add_zero] at t1 t2
                have HSQ := Lib.hid (hs.rowset (j * 6 + 1) (.int .i64 (-5)))
                clear hs hown hv hth HS4
                go_wp2_with fail
                exact ⟨⟨j + 1, _, by omega, by go_num, HSQ.out⟩, by simp [intOf]; omega⟩
              · have e : j = L1.length := by omega
                subst e
                have HSQ := Lib.hid hs
                clear hs HS4
                go_wp2_with fail
                go_roundw
                case rel => exact ⟨k + 1, L1, v1, y1, by omega, by go_num, HG1.out, by have h := HSQ.out.tail; rw [List.append_nil]; exact h⟩
                case measure => simp [intOf]; omega
        · have e : k = l.length := by omega
          subst e
          have HE := Lib.hid hsep.below
          clear hsep
          go_wp2_with fail
          go_ret
          exact ⟨rfl, HE.out⟩
  · rw [hg] at GR
    have GR := Lib.hid GR
    clear hg
    go_enter Try.func5, Try.ntmps5
    go_wp2_with fail
    refine GR.out.mono ?_
    rintro e u0 ⟨rfl, hx⟩
    have HB := Lib.hid hx; clear hx
    go_wp2_with fail
    go_ret
    exact ⟨rfl, HB.out⟩

end Qu
end Go.Proofs.Ytinnpeonokdljaa
