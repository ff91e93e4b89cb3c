/- The greatest of ballots: the program's. -/
import Derived.Test.YtpgejomhcojppaaBallotWalks
set_option linter.unusedSimpArgs false
set_option linter.unusedVariables false
namespace Go.Proofs.Ytpgejomhcojppaa
open Go.RowKit

namespace Bl

theorem cells_len (a : Ba) : a.cells.length = 2 := rfl
theorem maxl_take (l : List Ba) (k : Nat) (hk : k < l.length) (h0 : 0 < k) : maxL (l.take (k + 1)) = pick (maxL (l.take k)) l[k] := by
  rw [List.take_succ_eq_append_getElem hk, max_snoc]
  intro e
  have := congrArg List.length e
  rw [List.length_take, List.length_nil] at this
  omega
theorem maxl_take0 (l : List Ba) (hk : 0 < l.length) : maxL (l.take (0 + 1)) = l[0] := by
  rw [List.take_succ_eq_append_getElem hk]; rfl

set_option maxHeartbeats 4000000 in
theorem max_any (l : List Ba) (v : Value) (w : World) (hr : Row w w.heap.size v l.length (l.flatMap Ba.cells)) :
    Calls Try.prog 27 #[v] w fun e w' => e = .returned (.agg (maxL l).cells.toArray) ∧ Below w.heap.size w w' := by
  obtain ⟨A, c, rfl, hn, hc⟩ := hr.slice
  have hlen := hr.bound
  have HR := Lib.hid hr; clear hr
  have T := Lib.hid to_any
  go_enter Try.func27, Try.ntmps27
  go_wp2_with fail
  go_loopw [9] (fun i wr => ∃ k : Nat, k ≤ l.length ∧ i = .int .i64 k ∧ Whole wr w.heap.size 27 [.int .i64 0, .int .i64 0] ∧ Whole wr (w.heap.size + 1) 27 (maxL (l.take k)).cells ∧ Below w.heap.size w wr) (fun i _ => l.length - (intOf i).toNat)
  case atStart => exact ⟨0, Nat.zero_le _, rfl, wh0_2 _ _ _ _, wh1_2 _ _ _ _, be2 _ _ _⟩
  case round =>
    obtain ⟨k, hk, rfl, H_res, H_out, HB⟩ := hrel
    have z_w := HB.size
    by_cases hlt : k < l.length
    · have hri := HR.out
      obtain ⟨b, off, rfl, hb, hx⟩ := hri.elem cells_len (by omega) hlt
      clear hri
      have x0 := (HB.cell (p := ⟨b, off + (k * 2 + 0), none⟩) hb).trans (hx 0 _ rfl)
      have x1 := (HB.cell (p := ⟨b, off + (k * 2 + 1), none⟩) hb).trans (hx 1 _ rfl)
      simp only [Nat.add_zero] at x0
      rw [← Nat.add_assoc] at x1
      clear hx
      have hbz : b < wr.heap.size := by omega
      generalize hm : maxL (l.take k) = m at *
      have HM := Lib.hid hm; clear hm
      have H_out : Whole wr (w.heap.size + 1) 27 [.int .i64 m.r, .int .i64 m.p] := H_out
      have TT := Lib.hid (T.out m l[k])
      have hto := to_neg m l[k]
      clear T
      have hnext : maxL (l.take (k + 1)) = if k = 0 then l[k] else pick m l[k] := by
        by_cases h0 : k = 0
        · subst h0; rw [if_pos rfl]; exact maxl_take0 l hlt
        · rw [if_neg h0, maxl_take l k hlt (by omega), HM.out]
      generalize hxk : l[k] = x at *
      have hxk' := Lib.hid hxk; clear hxk
      by_cases h0 : k = 0
      · have hn : maxL (l.take (k + 1)) = x := by rw [hnext, if_pos h0]
        have hn := Lib.hid hn; clear hnext hto
        have hk0 : ((k : Int) == 0) = true := by simpa using h0
        clear h0
        have z_wr := HB.size
        have c_res_0 := H_res.cell 0; have f_res_0 := H_res.free 0; have c_res_1 := H_res.cell 1; have f_res_1 := H_res.free 1
        simp only [List.set_cons_zero, List.set_cons_succ, List.getElem?_cons_zero, List.getElem?_cons_succ] at c_res_0 c_res_1
        have c_out_0 := H_out.cell 0; have f_out_0 := H_out.free 0; have c_out_1 := H_out.cell 1; have f_out_1 := H_out.free 1
        simp only [List.set_cons_zero, List.set_cons_succ, List.getElem?_cons_zero, List.getElem?_cons_succ] at c_out_0 c_out_1
        have l_res := H_res.lt; have K_res := Lib.hid H_res; clear H_res
        have l_out := H_out.lt; have K_out := Lib.hid H_out; clear H_out
        have KB := Lib.hid HB; clear HB
        go_wp2_with fail
        go_roundw
        case rel => exact ⟨k + 1, by omega, by go_num, (((K_res.out.far (p := ⟨w.heap.size + 1, 0, none⟩) (by first | (simp; done) | (simp; omega) | (simp at *; omega)) _).far (p := ⟨w.heap.size + 1, 1, none⟩) (by first | (simp; done) | (simp; omega) | (simp at *; omega)) _).alloc _), by rw [hn.out]; exact (((K_out.out.set 0 _).set 1 _).alloc _), (((KB.out.setCell (p := ⟨w.heap.size + 1, 0, none⟩) (by first | (simp; done) | (simp; omega) | (simp at *; omega)) _).setCell (p := ⟨w.heap.size + 1, 1, none⟩) (by first | (simp; done) | (simp; omega) | (simp at *; omega)) _).alloc (by first | (simp; done) | (simp; omega) | (simp at *; omega)) _)⟩
        case measure => simp [intOf]; omega
      · have hn : maxL (l.take (k + 1)) = pick m x := by rw [hnext, if_neg h0]
        clear hnext
        have hk0 : ((k : Int) == 0) = false := by simpa using h0
        clear h0
        cases hless : lessB m x
        · have hn : maxL (l.take (k + 1)) = m := by rw [hn]; unfold pick; rw [hless]; rfl
          have hn := Lib.hid hn
          rw [hless] at hto
          have ht : ¬ toZ m x < 0 := by simpa using hto
          clear hto hless
          have z_wr := HB.size
          have c_res_0 := H_res.cell 0; have f_res_0 := H_res.free 0; have c_res_1 := H_res.cell 1; have f_res_1 := H_res.free 1
          simp only [List.set_cons_zero, List.set_cons_succ, List.getElem?_cons_zero, List.getElem?_cons_succ] at c_res_0 c_res_1
          have c_out_0 := H_out.cell 0; have f_out_0 := H_out.free 0; have c_out_1 := H_out.cell 1; have f_out_1 := H_out.free 1
          simp only [List.set_cons_zero, List.set_cons_succ, List.getElem?_cons_zero, List.getElem?_cons_succ] at c_out_0 c_out_1
          have l_res := H_res.lt; have K_res := Lib.hid H_res; clear H_res
          have l_out := H_out.lt; have K_out := Lib.hid H_out; clear H_out
          have KB := Lib.hid HB; clear HB
          go_wp2_with fail
          refine (TT.out _).mono ?_
          rintro e1 u1 ⟨rfl, hb⟩
          have H_res : Whole u1 (w.heap.size) 27 _ := Whole.below (K_res.out.alloc _) hb (by first | (simp; done) | (simp; omega) | (simp at *; omega))
          have H_out : Whole u1 (w.heap.size + 1) 27 _ := Whole.below (K_out.out.alloc _) hb (by first | (simp; done) | (simp; omega) | (simp at *; omega))
          have H_x : Whole u1 (wr.heap.size) 27 _ := Whole.below (Whole.new _ 27 _) hb (by first | (simp; done) | (simp; omega) | (simp at *; omega))
          have HB := (KB.out.alloc (by first | (simp; done) | (simp; omega) | (simp at *; omega)) _).trans (hb.mono (by first | (simp; done) | (simp; omega) | (simp at *; omega)))
          clear c_res_0 c_res_1 f_res_0 f_res_1 c_out_0 c_out_1 f_out_0 f_out_1 l_res l_out
          clear hb KB K_res K_out
          have z_u1 := HB.size
          have c_res_0 := H_res.cell 0; have f_res_0 := H_res.free 0; have c_res_1 := H_res.cell 1; have f_res_1 := H_res.free 1
          simp only [List.set_cons_zero, List.set_cons_succ, List.getElem?_cons_zero, List.getElem?_cons_succ] at c_res_0 c_res_1
          have c_out_0 := H_out.cell 0; have f_out_0 := H_out.free 0; have c_out_1 := H_out.cell 1; have f_out_1 := H_out.free 1
          simp only [List.set_cons_zero, List.set_cons_succ, List.getElem?_cons_zero, List.getElem?_cons_succ] at c_out_0 c_out_1
          have c_x_0 := H_x.cell 0; have f_x_0 := H_x.free 0; have c_x_1 := H_x.cell 1; have f_x_1 := H_x.free 1
          simp only [List.set_cons_zero, List.set_cons_succ, List.getElem?_cons_zero, List.getElem?_cons_succ] at c_x_0 c_x_1
          have l_res := H_res.lt; have K_res := Lib.hid H_res; clear H_res
          have l_out := H_out.lt; have K_out := Lib.hid H_out; clear H_out
          have l_x := H_x.lt; have K_x := Lib.hid H_x; clear H_x
          have KB := Lib.hid HB; clear HB
          go_wp2_with fail
          go_roundw
          case rel => exact ⟨k + 1, by omega, by go_num, K_res.out, by rw [hn.out]; exact K_out.out, KB.out⟩
          case measure => simp [intOf]; omega
        · have hn : maxL (l.take (k + 1)) = x := by rw [hn]; unfold pick; rw [hless]; rfl
          have hn := Lib.hid hn
          rw [hless] at hto
          have ht : toZ m x < 0 := by simpa using hto
          clear hto hless
          have z_wr := HB.size
          have c_res_0 := H_res.cell 0; have f_res_0 := H_res.free 0; have c_res_1 := H_res.cell 1; have f_res_1 := H_res.free 1
          simp only [List.set_cons_zero, List.set_cons_succ, List.getElem?_cons_zero, List.getElem?_cons_succ] at c_res_0 c_res_1
          have c_out_0 := H_out.cell 0; have f_out_0 := H_out.free 0; have c_out_1 := H_out.cell 1; have f_out_1 := H_out.free 1
          simp only [List.set_cons_zero, List.set_cons_succ, List.getElem?_cons_zero, List.getElem?_cons_succ] at c_out_0 c_out_1
          have l_res := H_res.lt; have K_res := Lib.hid H_res; clear H_res
          have l_out := H_out.lt; have K_out := Lib.hid H_out; clear H_out
          have KB := Lib.hid HB; clear HB
          go_wp2_with fail
          refine (TT.out _).mono ?_
          rintro e1 u1 ⟨rfl, hb⟩
          have H_res : Whole u1 (w.heap.size) 27 _ := Whole.below (K_res.out.alloc _) hb (by first | (simp; done) | (simp; omega) | (simp at *; omega))
          have H_out : Whole u1 (w.heap.size + 1) 27 _ := Whole.below (K_out.out.alloc _) hb (by first | (simp; done) | (simp; omega) | (simp at *; omega))
          have H_x : Whole u1 (wr.heap.size) 27 _ := Whole.below (Whole.new _ 27 _) hb (by first | (simp; done) | (simp; omega) | (simp at *; omega))
          have HB := (KB.out.alloc (by first | (simp; done) | (simp; omega) | (simp at *; omega)) _).trans (hb.mono (by first | (simp; done) | (simp; omega) | (simp at *; omega)))
          clear c_res_0 c_res_1 f_res_0 f_res_1 c_out_0 c_out_1 f_out_0 f_out_1 l_res l_out
          clear hb KB K_res K_out
          have z_u1 := HB.size
          have c_res_0 := H_res.cell 0; have f_res_0 := H_res.free 0; have c_res_1 := H_res.cell 1; have f_res_1 := H_res.free 1
          simp only [List.set_cons_zero, List.set_cons_succ, List.getElem?_cons_zero, List.getElem?_cons_succ] at c_res_0 c_res_1
          have c_out_0 := H_out.cell 0; have f_out_0 := H_out.free 0; have c_out_1 := H_out.cell 1; have f_out_1 := H_out.free 1
          simp only [List.set_cons_zero, List.set_cons_succ, List.getElem?_cons_zero, List.getElem?_cons_succ] at c_out_0 c_out_1
          have c_x_0 := H_x.cell 0; have f_x_0 := H_x.free 0; have c_x_1 := H_x.cell 1; have f_x_1 := H_x.free 1
          simp only [List.set_cons_zero, List.set_cons_succ, List.getElem?_cons_zero, List.getElem?_cons_succ] at c_x_0 c_x_1
          have l_res := H_res.lt; have K_res := Lib.hid H_res; clear H_res
          have l_out := H_out.lt; have K_out := Lib.hid H_out; clear H_out
          have l_x := H_x.lt; have K_x := Lib.hid H_x; clear H_x
          have KB := Lib.hid HB; clear HB
          go_wp2_with fail
          go_roundw
          case rel => exact ⟨k + 1, by omega, by go_num, ((K_res.out.far (p := ⟨w.heap.size + 1, 0, none⟩) (by first | (simp; done) | (simp; omega) | (simp at *; omega)) _).far (p := ⟨w.heap.size + 1, 1, none⟩) (by first | (simp; done) | (simp; omega) | (simp at *; omega)) _), by rw [hn.out]; exact ((K_out.out.set 0 _).set 1 _), ((KB.out.setCell (p := ⟨w.heap.size + 1, 0, none⟩) (by first | (simp; done) | (simp; omega) | (simp at *; omega)) _).setCell (p := ⟨w.heap.size + 1, 1, none⟩) (by first | (simp; done) | (simp; omega) | (simp at *; omega)) _)⟩
          case measure => simp [intOf]; omega
    · have e : k = l.length := by omega
      subst e
      rw [List.take_length] at H_out
      have H_out : Whole wr (w.heap.size + 1) 27 [.int .i64 (maxL l).r, .int .i64 (maxL l).p] := H_out
      have z_wr := HB.size
      have c_res_0 := H_res.cell 0; have f_res_0 := H_res.free 0; have c_res_1 := H_res.cell 1; have f_res_1 := H_res.free 1
      simp only [List.set_cons_zero, List.set_cons_succ, List.getElem?_cons_zero, List.getElem?_cons_succ] at c_res_0 c_res_1
      have c_out_0 := H_out.cell 0; have f_out_0 := H_out.free 0; have c_out_1 := H_out.cell 1; have f_out_1 := H_out.free 1
      simp only [List.set_cons_zero, List.set_cons_succ, List.getElem?_cons_zero, List.getElem?_cons_succ] at c_out_0 c_out_1
      have l_res := H_res.lt; have K_res := Lib.hid H_res; clear H_res
      have l_out := H_out.lt; have K_out := Lib.hid H_out; clear H_out
      have KB := Lib.hid HB; clear HB
      go_wp2_with fail
      refine bodyPost_ret (v := .agg #[.int .i64 (maxL l).r, .int .i64 (maxL l).p]) (by simp [results, Try.results27, go_sem, c_res_0, c_res_1, f_res_0, f_res_1, c_out_0, c_out_1, f_out_0, f_out_1]) rfl ⟨rfl, ?_⟩
      exact ((KB.out.setCell (p := ⟨w.heap.size, 0, none⟩) (by first | (simp; done) | (simp; omega) | (simp at *; omega)) _).setCell (p := ⟨w.heap.size, 1, none⟩) (by first | (simp; done) | (simp; omega) | (simp at *; omega)) _)

end Bl
end Go.Proofs.Ytpgejomhcojppaa
